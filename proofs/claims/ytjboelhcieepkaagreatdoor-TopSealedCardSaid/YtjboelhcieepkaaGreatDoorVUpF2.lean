/- A part of the proof of TopSealed. -/
import Derived.Test.YtjboelhcieepkaaGreatDoorW21
noncomputable section
set_option maxRecDepth 16384
namespace Go.Proofs.YtjboelhcieepkaaGreatDoor
open Go.RowKit
theorem aRJ:cR 12 0:=by intro v R Ee B e0 e1;kernel_rfl
theorem a9y:cR 12 1:=by intro v R Ee B e0 e1;kernel_rfl
theorem a7D:cR 12 2:=by intro v R Ee B e0 e1;kernel_rfl
theorem a9i:cR 13 0:=by intro v R Ee B e0 e1;kernel_rfl
theorem bBQ:cR 13 1:=by intro v R Ee B e0 e1;kernel_rfl
theorem a9E:cR 13 2:=by intro v R Ee B e0 e1;kernel_rfl
theorem aVI:cR 13 3:=by intro v R Ee B e0 e1;kernel_rfl
theorem bBW:cR 14 0:=by intro v R Ee B e0 e1;kernel_rfl
theorem a9X:cR 14 1:=by intro v R Ee B e0 e1;kernel_rfl
theorem aQi:cR 14 2:=by intro v R Ee B e0 e1;kernel_rfl
theorem aPm:cR 14 3:=by intro v R Ee B e0 e1;kernel_rfl
theorem aT9:cR 15 0:=by intro v R Ee B e0 e1;kernel_rfl
theorem aZP:cR 15 1:=by intro v R Ee B e0 e1;kernel_rfl
theorem a65:cR 15 2:=by intro v R Ee B e0 e1;kernel_rfl
theorem a2b:cR 15 3:=by intro v R Ee B e0 e1;kernel_rfl
