/-
  A volume from plain data: the runs of its first loop. (Printed by mkvo.py.)
-/
import Derived.Test.YtjboelhcieepkaaGreatDoorZ18
namespace Go.Proofs.YtjboelhcieepkaaGreatDoor
set_option maxRecDepth 16384
open Go.RowKit
theorem rc2_1:RC 2 1:=by intro _ _ _ _ _ _ _ _ _ ;kernel_rfl
theorem rc2_2:RC 2 2:=by intro _ _ _ _ _ _ _ _ _ ;kernel_rfl
theorem rc2_3:RC 2 3:=by intro _ _ _ _ _ _ _ _ _ ;kernel_rfl
theorem rc2_4:RC 2 4:=by intro _ _ _ _ _ _ _ _ _ ;kernel_rfl
theorem rc2_5:RC 2 5:=by intro _ _ _ _ _ _ _ _ _ ;kernel_rfl
theorem rc2_6:RC 2 6:=by intro _ _ _ _ _ _ _ _ _ ;kernel_rfl
theorem rc2_7:RC 2 7:=by intro _ _ _ _ _ _ _ _ _ ;kernel_rfl
theorem rc2_8:RC 2 8:=by intro _ _ _ _ _ _ _ _ _ ;kernel_rfl
theorem rc2_9:RC 2 9:=by intro _ _ _ _ _ _ _ _ _ ;kernel_rfl
theorem rc2_10:RC 2 10:=by intro _ _ _ _ _ _ _ _ _ ;kernel_rfl
theorem rc2_11:RC 2 11:=by intro _ _ _ _ _ _ _ _ _ ;kernel_rfl
theorem rc2_12:RC 2 12:=by intro _ _ _ _ _ _ _ _ _ ;kernel_rfl
theorem rc2_13:RC 2 13:=by intro _ _ _ _ _ _ _ _ _ ;kernel_rfl
theorem rc2_14:RC 2 14:=by intro _ _ _ _ _ _ _ _ _ ;kernel_rfl
theorem rc2_15:RC 2 15:=by intro _ _ _ _ _ _ _ _ _ ;kernel_rfl
theorem rc2_16:RC 2 16:=by intro _ _ _ _ _ _ _ _ _ ;kernel_rfl
theorem rc2_17:RC 2 17:=by intro _ _ _ _ _ _ _ _ _ ;kernel_rfl
theorem rc2_18:RC 2 18:=by intro _ _ _ _ _ _ _ _ _ ;kernel_rfl
theorem rc2_19:RC 2 19:=by intro _ _ _ _ _ _ _ _ _ ;kernel_rfl
theorem rc2_20:RC 2 20:=by intro _ _ _ _ _ _ _ _ _ ;kernel_rfl
theorem rc2_any:∀n,1≤n→n≤20→RC 2 n
 |1,_,_=>rc2_1
 |2,_,_=>rc2_2
 |3,_,_=>rc2_3
 |4,_,_=>rc2_4
 |5,_,_=>rc2_5
 |6,_,_=>rc2_6
 |7,_,_=>rc2_7
 |8,_,_=>rc2_8
 |9,_,_=>rc2_9
 |10,_,_=>rc2_10
 |11,_,_=>rc2_11
 |12,_,_=>rc2_12
 |13,_,_=>rc2_13
 |14,_,_=>rc2_14
 |15,_,_=>rc2_15
 |16,_,_=>rc2_16
 |17,_,_=>rc2_17
 |18,_,_=>rc2_18
 |19,_,_=>rc2_19
 |20,_,_=>rc2_20
 |n+21,_,h=>absurd h (by omega)
 |0,h,_=>absurd h (by omega)
end Go.Proofs.YtjboelhcieepkaaGreatDoor
