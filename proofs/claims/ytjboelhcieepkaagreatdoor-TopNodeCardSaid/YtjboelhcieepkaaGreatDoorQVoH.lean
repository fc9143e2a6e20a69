/-
  A volume from plain data: the runs of its first loop. (Printed by mkvo.py.)
-/
import Derived.Test.YtjboelhcieepkaaGreatDoorZ18
namespace Go.Proofs.YtjboelhcieepkaaGreatDoor
set_option maxRecDepth 16384
open Go.RowKit
theorem ra_1:RA 1:=by intro _ _ _ _ _ _ _ _ _ ;kernel_rfl
theorem rb_1:RB 1:=by intro _ _ _ _ _ _ _ _ _ ;kernel_rfl
theorem ra_2:RA 2:=by intro _ _ _ _ _ _ _ _ _ ;kernel_rfl
theorem rb_2:RB 2:=by intro _ _ _ _ _ _ _ _ _ ;kernel_rfl
theorem ra_3:RA 3:=by intro _ _ _ _ _ _ _ _ _ ;kernel_rfl
theorem rb_3:RB 3:=by intro _ _ _ _ _ _ _ _ _ ;kernel_rfl
theorem ra_4:RA 4:=by intro _ _ _ _ _ _ _ _ _ ;kernel_rfl
theorem rb_4:RB 4:=by intro _ _ _ _ _ _ _ _ _ ;kernel_rfl
theorem ra_5:RA 5:=by intro _ _ _ _ _ _ _ _ _ ;kernel_rfl
theorem rb_5:RB 5:=by intro _ _ _ _ _ _ _ _ _ ;kernel_rfl
theorem ra_6:RA 6:=by intro _ _ _ _ _ _ _ _ _ ;kernel_rfl
theorem rb_6:RB 6:=by intro _ _ _ _ _ _ _ _ _ ;kernel_rfl
theorem ra_7:RA 7:=by intro _ _ _ _ _ _ _ _ _ ;kernel_rfl
theorem rb_7:RB 7:=by intro _ _ _ _ _ _ _ _ _ ;kernel_rfl
theorem ra_8:RA 8:=by intro _ _ _ _ _ _ _ _ _ ;kernel_rfl
theorem rb_8:RB 8:=by intro _ _ _ _ _ _ _ _ _ ;kernel_rfl
theorem ra_9:RA 9:=by intro _ _ _ _ _ _ _ _ _ ;kernel_rfl
theorem rb_9:RB 9:=by intro _ _ _ _ _ _ _ _ _ ;kernel_rfl
theorem ra_10:RA 10:=by intro _ _ _ _ _ _ _ _ _ ;kernel_rfl
theorem rb_10:RB 10:=by intro _ _ _ _ _ _ _ _ _ ;kernel_rfl
theorem ra_11:RA 11:=by intro _ _ _ _ _ _ _ _ _ ;kernel_rfl
theorem rb_11:RB 11:=by intro _ _ _ _ _ _ _ _ _ ;kernel_rfl
theorem ra_12:RA 12:=by intro _ _ _ _ _ _ _ _ _ ;kernel_rfl
theorem rb_12:RB 12:=by intro _ _ _ _ _ _ _ _ _ ;kernel_rfl
theorem ra_13:RA 13:=by intro _ _ _ _ _ _ _ _ _ ;kernel_rfl
theorem rb_13:RB 13:=by intro _ _ _ _ _ _ _ _ _ ;kernel_rfl
theorem ra_14:RA 14:=by intro _ _ _ _ _ _ _ _ _ ;kernel_rfl
theorem rb_14:RB 14:=by intro _ _ _ _ _ _ _ _ _ ;kernel_rfl
theorem ra_15:RA 15:=by intro _ _ _ _ _ _ _ _ _ ;kernel_rfl
theorem rb_15:RB 15:=by intro _ _ _ _ _ _ _ _ _ ;kernel_rfl
theorem ra_16:RA 16:=by intro _ _ _ _ _ _ _ _ _ ;kernel_rfl
theorem rb_16:RB 16:=by intro _ _ _ _ _ _ _ _ _ ;kernel_rfl
theorem ra_17:RA 17:=by intro _ _ _ _ _ _ _ _ _ ;kernel_rfl
theorem rb_17:RB 17:=by intro _ _ _ _ _ _ _ _ _ ;kernel_rfl
theorem ra_18:RA 18:=by intro _ _ _ _ _ _ _ _ _ ;kernel_rfl
theorem rb_18:RB 18:=by intro _ _ _ _ _ _ _ _ _ ;kernel_rfl
theorem ra_19:RA 19:=by intro _ _ _ _ _ _ _ _ _ ;kernel_rfl
theorem rb_19:RB 19:=by intro _ _ _ _ _ _ _ _ _ ;kernel_rfl
theorem ra_20:RA 20:=by intro _ _ _ _ _ _ _ _ _ ;kernel_rfl
theorem rb_20:RB 20:=by intro _ _ _ _ _ _ _ _ _ ;kernel_rfl
theorem ra_any:∀n,1≤n→n≤20→RA n
 |1,_,_=>ra_1
 |2,_,_=>ra_2
 |3,_,_=>ra_3
 |4,_,_=>ra_4
 |5,_,_=>ra_5
 |6,_,_=>ra_6
 |7,_,_=>ra_7
 |8,_,_=>ra_8
 |9,_,_=>ra_9
 |10,_,_=>ra_10
 |11,_,_=>ra_11
 |12,_,_=>ra_12
 |13,_,_=>ra_13
 |14,_,_=>ra_14
 |15,_,_=>ra_15
 |16,_,_=>ra_16
 |17,_,_=>ra_17
 |18,_,_=>ra_18
 |19,_,_=>ra_19
 |20,_,_=>ra_20
 |n+21,_,h=>absurd h (by omega)
 |0,h,_=>absurd h (by omega)
theorem rb_any:∀n,1≤n→n≤20→RB n
 |1,_,_=>rb_1
 |2,_,_=>rb_2
 |3,_,_=>rb_3
 |4,_,_=>rb_4
 |5,_,_=>rb_5
 |6,_,_=>rb_6
 |7,_,_=>rb_7
 |8,_,_=>rb_8
 |9,_,_=>rb_9
 |10,_,_=>rb_10
 |11,_,_=>rb_11
 |12,_,_=>rb_12
 |13,_,_=>rb_13
 |14,_,_=>rb_14
 |15,_,_=>rb_15
 |16,_,_=>rb_16
 |17,_,_=>rb_17
 |18,_,_=>rb_18
 |19,_,_=>rb_19
 |20,_,_=>rb_20
 |n+21,_,h=>absurd h (by omega)
 |0,h,_=>absurd h (by omega)
end Go.Proofs.YtjboelhcieepkaaGreatDoor
