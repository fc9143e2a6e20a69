/- A part of the proof of TopSealed. -/
import Derived.Test.YtjboelhcieepkaaGreatDoorW21
noncomputable section
set_option maxRecDepth 16384
namespace Go.Proofs.YtjboelhcieepkaaGreatDoor
open Go.RowKit
theorem bAm:cR 16 0:=by intro v R Ee B e0 e1;kernel_rfl
theorem aON:cR 16 1:=by intro v R Ee B e0 e1;kernel_rfl
theorem aZi:cR 16 2:=by intro v R Ee B e0 e1;kernel_rfl
theorem bDG:cR 16 3:=by intro v R Ee B e0 e1;kernel_rfl
theorem aPE:cR 17 0:=by intro v R Ee B e0 e1;kernel_rfl
theorem a5D:cR 17 1:=by intro v R Ee B e0 e1;kernel_rfl
theorem a3L:cR 17 2:=by intro v R Ee B e0 e1;kernel_rfl
theorem a9B:cR 17 3:=by intro v R Ee B e0 e1;kernel_rfl
theorem aRl:cR 17 4:=by intro v R Ee B e0 e1;kernel_rfl
theorem bDu:cR 18 0:=by intro v R Ee B e0 e1;kernel_rfl
theorem bAX:cR 18 1:=by intro v R Ee B e0 e1;kernel_rfl
theorem bAJ:cR 18 2:=by intro v R Ee B e0 e1;kernel_rfl
theorem aUa:cR 18 3:=by intro v R Ee B e0 e1;kernel_rfl
theorem bAV:cR 18 4:=by intro v R Ee B e0 e1;kernel_rfl
