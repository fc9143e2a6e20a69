/-
  A volume from plain data: the runs of its first loop. (Printed by mkvo.py.)
-/
import Derived.Test.YtjboelhcieepkaaGreatDoorZ18
namespace Go.Proofs.YtjboelhcieepkaaGreatDoor
set_option maxRecDepth 16384
open Go.RowKit
theorem rc1_1:RC 1 1:=by intro _ _ _ _ _ _ _ _ _ ;kernel_rfl
theorem rc1_2:RC 1 2:=by intro _ _ _ _ _ _ _ _ _ ;kernel_rfl
theorem rc1_3:RC 1 3:=by intro _ _ _ _ _ _ _ _ _ ;kernel_rfl
theorem rc1_4:RC 1 4:=by intro _ _ _ _ _ _ _ _ _ ;kernel_rfl
theorem rc1_5:RC 1 5:=by intro _ _ _ _ _ _ _ _ _ ;kernel_rfl
theorem rc1_6:RC 1 6:=by intro _ _ _ _ _ _ _ _ _ ;kernel_rfl
theorem rc1_7:RC 1 7:=by intro _ _ _ _ _ _ _ _ _ ;kernel_rfl
theorem rc1_8:RC 1 8:=by intro _ _ _ _ _ _ _ _ _ ;kernel_rfl
theorem rc1_9:RC 1 9:=by intro _ _ _ _ _ _ _ _ _ ;kernel_rfl
theorem rc1_10:RC 1 10:=by intro _ _ _ _ _ _ _ _ _ ;kernel_rfl
theorem rc1_11:RC 1 11:=by intro _ _ _ _ _ _ _ _ _ ;kernel_rfl
theorem rc1_12:RC 1 12:=by intro _ _ _ _ _ _ _ _ _ ;kernel_rfl
theorem rc1_13:RC 1 13:=by intro _ _ _ _ _ _ _ _ _ ;kernel_rfl
theorem rc1_14:RC 1 14:=by intro _ _ _ _ _ _ _ _ _ ;kernel_rfl
theorem rc1_15:RC 1 15:=by intro _ _ _ _ _ _ _ _ _ ;kernel_rfl
theorem rc1_16:RC 1 16:=by intro _ _ _ _ _ _ _ _ _ ;kernel_rfl
theorem rc1_17:RC 1 17:=by intro _ _ _ _ _ _ _ _ _ ;kernel_rfl
theorem rc1_18:RC 1 18:=by intro _ _ _ _ _ _ _ _ _ ;kernel_rfl
theorem rc1_19:RC 1 19:=by intro _ _ _ _ _ _ _ _ _ ;kernel_rfl
theorem rc1_20:RC 1 20:=by intro _ _ _ _ _ _ _ _ _ ;kernel_rfl
theorem rc1_any:∀n,1≤n→n≤20→RC 1 n
 |1,_,_=>rc1_1
 |2,_,_=>rc1_2
 |3,_,_=>rc1_3
 |4,_,_=>rc1_4
 |5,_,_=>rc1_5
 |6,_,_=>rc1_6
 |7,_,_=>rc1_7
 |8,_,_=>rc1_8
 |9,_,_=>rc1_9
 |10,_,_=>rc1_10
 |11,_,_=>rc1_11
 |12,_,_=>rc1_12
 |13,_,_=>rc1_13
 |14,_,_=>rc1_14
 |15,_,_=>rc1_15
 |16,_,_=>rc1_16
 |17,_,_=>rc1_17
 |18,_,_=>rc1_18
 |19,_,_=>rc1_19
 |20,_,_=>rc1_20
 |n+21,_,h=>absurd h (by omega)
 |0,h,_=>absurd h (by omega)
end Go.Proofs.YtjboelhcieepkaaGreatDoor
