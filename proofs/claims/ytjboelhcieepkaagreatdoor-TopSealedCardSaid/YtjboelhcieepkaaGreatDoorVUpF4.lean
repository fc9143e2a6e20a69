/- A part of the proof of TopSealed. -/
import Derived.Test.YtjboelhcieepkaaGreatDoorW21
noncomputable section
set_option maxRecDepth 16384
namespace Go.Proofs.YtjboelhcieepkaaGreatDoor
open Go.RowKit
theorem aRw:cR 19 0:=by intro v R Ee B e0 e1;kernel_rfl
theorem aWF:cR 19 1:=by intro v R Ee B e0 e1;kernel_rfl
theorem a5Q:cR 19 2:=by intro v R Ee B e0 e1;kernel_rfl
theorem aZy:cR 19 3:=by intro v R Ee B e0 e1;kernel_rfl
theorem aWG:cR 19 4:=by intro v R Ee B e0 e1;kernel_rfl
theorem a6F:cR 20 0:=by intro v R Ee B e0 e1;kernel_rfl
theorem aWL:cR 20 1:=by intro v R Ee B e0 e1;kernel_rfl
theorem aUW:cR 20 2:=by intro v R Ee B e0 e1;kernel_rfl
theorem a1G:cR 20 3:=by intro v R Ee B e0 e1;kernel_rfl
theorem bAE:cR 20 4:=by intro v R Ee B e0 e1;kernel_rfl
