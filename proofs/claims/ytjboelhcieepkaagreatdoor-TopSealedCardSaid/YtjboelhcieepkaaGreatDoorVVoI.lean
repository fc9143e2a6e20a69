/- A part of the proof of TopSealed. -/
import Derived.Test.YtjboelhcieepkaaGreatDoorW19
noncomputable section
set_option maxRecDepth 16384
namespace Go.Proofs.YtjboelhcieepkaaGreatDoor
open Go.RowKit
theorem aR4:RC 1 1:=by intro _ _ _ _ _ _ _ _ _ ;kernel_rfl
theorem a2r:RC 1 2:=by intro _ _ _ _ _ _ _ _ _ ;kernel_rfl
theorem bDI:RC 1 3:=by intro _ _ _ _ _ _ _ _ _ ;kernel_rfl
theorem bAC:RC 1 4:=by intro _ _ _ _ _ _ _ _ _ ;kernel_rfl
theorem bAs:RC 1 5:=by intro _ _ _ _ _ _ _ _ _ ;kernel_rfl
theorem aXK:RC 1 6:=by intro _ _ _ _ _ _ _ _ _ ;kernel_rfl
theorem a8e:RC 1 7:=by intro _ _ _ _ _ _ _ _ _ ;kernel_rfl
theorem aRy:RC 1 8:=by intro _ _ _ _ _ _ _ _ _ ;kernel_rfl
theorem aVv:RC 1 9:=by intro _ _ _ _ _ _ _ _ _ ;kernel_rfl
theorem a3p:RC 1 10:=by intro _ _ _ _ _ _ _ _ _ ;kernel_rfl
theorem aYi:RC 1 11:=by intro _ _ _ _ _ _ _ _ _ ;kernel_rfl
theorem aVH:RC 1 12:=by intro _ _ _ _ _ _ _ _ _ ;kernel_rfl
theorem a1x:RC 1 13:=by intro _ _ _ _ _ _ _ _ _ ;kernel_rfl
theorem aQ4:RC 1 14:=by intro _ _ _ _ _ _ _ _ _ ;kernel_rfl
theorem a2C:RC 1 15:=by intro _ _ _ _ _ _ _ _ _ ;kernel_rfl
theorem aXt:RC 1 16:=by intro _ _ _ _ _ _ _ _ _ ;kernel_rfl
theorem bAf:RC 1 17:=by intro _ _ _ _ _ _ _ _ _ ;kernel_rfl
theorem aVn:RC 1 18:=by intro _ _ _ _ _ _ _ _ _ ;kernel_rfl
theorem bC9:RC 1 19:=by intro _ _ _ _ _ _ _ _ _ ;kernel_rfl
theorem bAo:RC 1 20:=by intro _ _ _ _ _ _ _ _ _ ;kernel_rfl
theorem a2U:∀n,1≤n->n≤20->RC 1 n
 |1,_,_=>aR4
 |2,_,_=>a2r
 |3,_,_=>bDI
 |4,_,_=>bAC
 |5,_,_=>bAs
 |6,_,_=>aXK
 |7,_,_=>a8e
 |8,_,_=>aRy
 |9,_,_=>aVv
 |10,_,_=>a3p
 |11,_,_=>aYi
 |12,_,_=>aVH
 |13,_,_=>a1x
 |14,_,_=>aQ4
 |15,_,_=>a2C
 |16,_,_=>aXt
 |17,_,_=>bAf
 |18,_,_=>aVn
 |19,_,_=>bC9
 |20,_,_=>bAo
 |n+21,_,h=>absurd h (by omega)
 |0,h,_=>absurd h (by omega)
