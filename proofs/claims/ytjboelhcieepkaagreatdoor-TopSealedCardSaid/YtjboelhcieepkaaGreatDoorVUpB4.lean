/- A part of the proof of TopSealed. -/
import Derived.Test.YtjboelhcieepkaaGreatDoorW18
noncomputable section
set_option maxRecDepth 16384
namespace Go.Proofs.YtjboelhcieepkaaGreatDoor
open Go.RowKit
theorem aUQ:b7 18 0:=by intro t z R Ee B;kernel_rfl
theorem bCw:b7 18 1:=by intro t z R Ee B;kernel_rfl
theorem a4g:b7 18 2:=by intro t z R Ee B;kernel_rfl
theorem a52:b7 18 3:=by intro t z R Ee B;kernel_rfl
theorem a2m:b7 18 4:=by intro t z R Ee B;kernel_rfl
theorem a5i:b7 18 5:=by intro t z R Ee B;kernel_rfl
theorem a58:b7 19 0:=by intro t z R Ee B;kernel_rfl
theorem a1f:b7 19 1:=by intro t z R Ee B;kernel_rfl
theorem aZl:b7 19 2:=by intro t z R Ee B;kernel_rfl
theorem bCc:b7 19 3:=by intro t z R Ee B;kernel_rfl
theorem a88:b7 19 4:=by intro t z R Ee B;kernel_rfl
theorem aPM:b7 19 5:=by intro t z R Ee B;kernel_rfl
theorem aTA:b7 20 0:=by intro t z R Ee B;kernel_rfl
theorem aRs:b7 20 1:=by intro t z R Ee B;kernel_rfl
theorem a7m:b7 20 2:=by intro t z R Ee B;kernel_rfl
theorem a46:b7 20 3:=by intro t z R Ee B;kernel_rfl
theorem bDq:b7 20 4:=by intro t z R Ee B;kernel_rfl
theorem aUO:b7 20 5:=by intro t z R Ee B;kernel_rfl
