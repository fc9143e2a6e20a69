/- A part of the proof of TopSealed. -/
import Derived.Test.YtjboelhcieepkaaGreatDoorW18
noncomputable section
set_option maxRecDepth 16384
namespace Go.Proofs.YtjboelhcieepkaaGreatDoor
open Go.RowKit
theorem aT3:b7 12 0:=by intro t z R Ee B;kernel_rfl
theorem aYj:b7 12 1:=by intro t z R Ee B;kernel_rfl
theorem a6e:b7 12 2:=by intro t z R Ee B;kernel_rfl
theorem aQm:b7 12 3:=by intro t z R Ee B;kernel_rfl
theorem aWj:b7 13 0:=by intro t z R Ee B;kernel_rfl
theorem aX2:b7 13 1:=by intro t z R Ee B;kernel_rfl
theorem a5A:b7 13 2:=by intro t z R Ee B;kernel_rfl
theorem bDT:b7 13 3:=by intro t z R Ee B;kernel_rfl
theorem aUw:b7 13 4:=by intro t z R Ee B;kernel_rfl
theorem aSc:b7 14 0:=by intro t z R Ee B;kernel_rfl
theorem aZA:b7 14 1:=by intro t z R Ee B;kernel_rfl
theorem aPG:b7 14 2:=by intro t z R Ee B;kernel_rfl
theorem aVx:b7 14 3:=by intro t z R Ee B;kernel_rfl
theorem aXQ:b7 14 4:=by intro t z R Ee B;kernel_rfl
