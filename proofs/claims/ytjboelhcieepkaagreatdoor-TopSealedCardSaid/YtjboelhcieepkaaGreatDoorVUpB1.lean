/- A part of the proof of TopSealed. -/
import Derived.Test.YtjboelhcieepkaaGreatDoorW18
noncomputable section
set_option maxRecDepth 16384
namespace Go.Proofs.YtjboelhcieepkaaGreatDoor
open Go.RowKit
theorem aTm:b7 1 0:=by intro t z R Ee B;kernel_rfl
theorem aUF:b7 1 1:=by intro t z R Ee B;kernel_rfl
theorem bAZ:b7 2 0:=by intro t z R Ee B;kernel_rfl
theorem a80:b7 2 1:=by intro t z R Ee B;kernel_rfl
theorem aRB:b7 3 0:=by intro t z R Ee B;kernel_rfl
theorem a4X:b7 3 1:=by intro t z R Ee B;kernel_rfl
theorem aTu:b7 4 0:=by intro t z R Ee B;kernel_rfl
theorem a01:b7 4 1:=by intro t z R Ee B;kernel_rfl
theorem a9h:b7 5 0:=by intro t z R Ee B;kernel_rfl
theorem a8i:b7 5 1:=by intro t z R Ee B;kernel_rfl
theorem aRr:b7 5 2:=by intro t z R Ee B;kernel_rfl
theorem a5P:b7 6 0:=by intro t z R Ee B;kernel_rfl
theorem aXF:b7 6 1:=by intro t z R Ee B;kernel_rfl
theorem a79:b7 6 2:=by intro t z R Ee B;kernel_rfl
theorem a1R:b7 7 0:=by intro t z R Ee B;kernel_rfl
theorem a0i:b7 7 1:=by intro t z R Ee B;kernel_rfl
theorem bC1:b7 7 2:=by intro t z R Ee B;kernel_rfl
theorem aTN:b7 8 0:=by intro t z R Ee B;kernel_rfl
theorem a0g:b7 8 1:=by intro t z R Ee B;kernel_rfl
theorem a6V:b7 8 2:=by intro t z R Ee B;kernel_rfl
theorem aWb:b7 9 0:=by intro t z R Ee B;kernel_rfl
theorem aWM:b7 9 1:=by intro t z R Ee B;kernel_rfl
theorem bDp:b7 9 2:=by intro t z R Ee B;kernel_rfl
theorem bBS:b7 9 3:=by intro t z R Ee B;kernel_rfl
theorem aUv:b7 10 0:=by intro t z R Ee B;kernel_rfl
theorem bD1:b7 10 1:=by intro t z R Ee B;kernel_rfl
theorem aVC:b7 10 2:=by intro t z R Ee B;kernel_rfl
theorem a8J:b7 10 3:=by intro t z R Ee B;kernel_rfl
theorem a7r:b7 11 0:=by intro t z R Ee B;kernel_rfl
theorem aWq:b7 11 1:=by intro t z R Ee B;kernel_rfl
theorem a2j:b7 11 2:=by intro t z R Ee B;kernel_rfl
theorem a0W:b7 11 3:=by intro t z R Ee B;kernel_rfl
