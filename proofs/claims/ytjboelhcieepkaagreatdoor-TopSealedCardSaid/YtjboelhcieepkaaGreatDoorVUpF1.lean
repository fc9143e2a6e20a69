/- A part of the proof of TopSealed. -/
import Derived.Test.YtjboelhcieepkaaGreatDoorW21
noncomputable section
set_option maxRecDepth 16384
namespace Go.Proofs.YtjboelhcieepkaaGreatDoor
open Go.RowKit
theorem a2W:cR 1 0:=by intro v R Ee B e0 e1;kernel_rfl
theorem a8f:cR 2 0:=by intro v R Ee B e0 e1;kernel_rfl
theorem a7o:cR 3 0:=by intro v R Ee B e0 e1;kernel_rfl
theorem a5l:cR 4 0:=by intro v R Ee B e0 e1;kernel_rfl
theorem a4i:cR 5 0:=by intro v R Ee B e0 e1;kernel_rfl
theorem aWi:cR 5 1:=by intro v R Ee B e0 e1;kernel_rfl
theorem aRD:cR 6 0:=by intro v R Ee B e0 e1;kernel_rfl
theorem aPy:cR 6 1:=by intro v R Ee B e0 e1;kernel_rfl
theorem aTI:cR 7 0:=by intro v R Ee B e0 e1;kernel_rfl
theorem a4l:cR 7 1:=by intro v R Ee B e0 e1;kernel_rfl
theorem a7A:cR 8 0:=by intro v R Ee B e0 e1;kernel_rfl
theorem aU3:cR 8 1:=by intro v R Ee B e0 e1;kernel_rfl
theorem a8T:cR 9 0:=by intro v R Ee B e0 e1;kernel_rfl
theorem a95:cR 9 1:=by intro v R Ee B e0 e1;kernel_rfl
theorem aT8:cR 9 2:=by intro v R Ee B e0 e1;kernel_rfl
theorem a2L:cR 10 0:=by intro v R Ee B e0 e1;kernel_rfl
theorem a64:cR 10 1:=by intro v R Ee B e0 e1;kernel_rfl
theorem bBe:cR 10 2:=by intro v R Ee B e0 e1;kernel_rfl
theorem aZm:cR 11 0:=by intro v R Ee B e0 e1;kernel_rfl
theorem a51:cR 11 1:=by intro v R Ee B e0 e1;kernel_rfl
theorem aWC:cR 11 2:=by intro v R Ee B e0 e1;kernel_rfl
