/- A part of the proof of TopSealed. -/
import Derived.Test.YtjboelhcieepkaaGreatDoorW19
noncomputable section
set_option maxRecDepth 16384
namespace Go.Proofs.YtjboelhcieepkaaGreatDoor
open Go.RowKit
theorem aS7:RC 2 1:=by intro _ _ _ _ _ _ _ _ _ ;kernel_rfl
theorem bDk:RC 2 2:=by intro _ _ _ _ _ _ _ _ _ ;kernel_rfl
theorem a60:RC 2 3:=by intro _ _ _ _ _ _ _ _ _ ;kernel_rfl
theorem bAn:RC 2 4:=by intro _ _ _ _ _ _ _ _ _ ;kernel_rfl
theorem a36:RC 2 5:=by intro _ _ _ _ _ _ _ _ _ ;kernel_rfl
theorem a6h:RC 2 6:=by intro _ _ _ _ _ _ _ _ _ ;kernel_rfl
theorem aWm:RC 2 7:=by intro _ _ _ _ _ _ _ _ _ ;kernel_rfl
theorem a9S:RC 2 8:=by intro _ _ _ _ _ _ _ _ _ ;kernel_rfl
theorem a0o:RC 2 9:=by intro _ _ _ _ _ _ _ _ _ ;kernel_rfl
theorem aZD:RC 2 10:=by intro _ _ _ _ _ _ _ _ _ ;kernel_rfl
theorem a38:RC 2 11:=by intro _ _ _ _ _ _ _ _ _ ;kernel_rfl
theorem a4C:RC 2 12:=by intro _ _ _ _ _ _ _ _ _ ;kernel_rfl
theorem bBJ:RC 2 13:=by intro _ _ _ _ _ _ _ _ _ ;kernel_rfl
theorem a0I:RC 2 14:=by intro _ _ _ _ _ _ _ _ _ ;kernel_rfl
theorem aOZ:RC 2 15:=by intro _ _ _ _ _ _ _ _ _ ;kernel_rfl
theorem bCE:RC 2 16:=by intro _ _ _ _ _ _ _ _ _ ;kernel_rfl
theorem aRi:RC 2 17:=by intro _ _ _ _ _ _ _ _ _ ;kernel_rfl
theorem aPz:RC 2 18:=by intro _ _ _ _ _ _ _ _ _ ;kernel_rfl
theorem a3X:RC 2 19:=by intro _ _ _ _ _ _ _ _ _ ;kernel_rfl
theorem aWf:RC 2 20:=by intro _ _ _ _ _ _ _ _ _ ;kernel_rfl
theorem aSW:∀n,1≤n->n≤20->RC 2 n
 |1,_,_=>aS7
 |2,_,_=>bDk
 |3,_,_=>a60
 |4,_,_=>bAn
 |5,_,_=>a36
 |6,_,_=>a6h
 |7,_,_=>aWm
 |8,_,_=>a9S
 |9,_,_=>a0o
 |10,_,_=>aZD
 |11,_,_=>a38
 |12,_,_=>a4C
 |13,_,_=>bBJ
 |14,_,_=>a0I
 |15,_,_=>aOZ
 |16,_,_=>bCE
 |17,_,_=>aRi
 |18,_,_=>aPz
 |19,_,_=>a3X
 |20,_,_=>aWf
 |n+21,_,h=>absurd h (by omega)
 |0,h,_=>absurd h (by omega)
