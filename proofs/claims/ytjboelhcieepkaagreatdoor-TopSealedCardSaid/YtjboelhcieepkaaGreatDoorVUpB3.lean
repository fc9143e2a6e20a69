/- A part of the proof of TopSealed. -/
import Derived.Test.YtjboelhcieepkaaGreatDoorW18
noncomputable section
set_option maxRecDepth 16384
namespace Go.Proofs.YtjboelhcieepkaaGreatDoor
open Go.RowKit
theorem bCI:b7 15 0:=by intro t z R Ee B;kernel_rfl
theorem aQT:b7 15 1:=by intro t z R Ee B;kernel_rfl
theorem a8y:b7 15 2:=by intro t z R Ee B;kernel_rfl
theorem aSe:b7 15 3:=by intro t z R Ee B;kernel_rfl
theorem a75:b7 15 4:=by intro t z R Ee B;kernel_rfl
theorem a7Q:b7 16 0:=by intro t z R Ee B;kernel_rfl
theorem aSS:b7 16 1:=by intro t z R Ee B;kernel_rfl
theorem bCl:b7 16 2:=by intro t z R Ee B;kernel_rfl
theorem a1I:b7 16 3:=by intro t z R Ee B;kernel_rfl
theorem bAG:b7 16 4:=by intro t z R Ee B;kernel_rfl
theorem a5E:b7 17 0:=by intro t z R Ee B;kernel_rfl
theorem aPR:b7 17 1:=by intro t z R Ee B;kernel_rfl
theorem aY6:b7 17 2:=by intro t z R Ee B;kernel_rfl
theorem bAe:b7 17 3:=by intro t z R Ee B;kernel_rfl
theorem aPn:b7 17 4:=by intro t z R Ee B;kernel_rfl
theorem aRm:b7 17 5:=by intro t z R Ee B;kernel_rfl
