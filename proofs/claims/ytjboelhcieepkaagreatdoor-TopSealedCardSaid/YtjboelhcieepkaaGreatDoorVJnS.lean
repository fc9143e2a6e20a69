/- A part of the proof of TopSealed. -/
import Derived.Test.YtjboelhcieepkaaGreatDoorCards
import Derived.RowKit
import Derived.JoinedCond
import Derived.KernelRfl
noncomputable section
set_option maxRecDepth 16384
namespace Go.Proofs.YtjboelhcieepkaaGreatDoor.topSealed
open Go.RowKit
theorem fE{a b:Bool}(h:a=true)(k:b=true):(a&&b)=true:=by rw [h,k];rfl
theorem a8d:(Rows.topSealedRow.wf (OpenSpec.ofChange (OpenSpec.ofChange Rows.topSealedSpec).bare))=true:=by kernel_rfl
theorem aXY:(laidOutB Tryz.prog)=true:=by kernel_rfl
theorem bDB:(mapsRowed Tryz.prog)=true:=by kernel_rfl
theorem aO1:(Tryz.f4.params.all (Tryz.prog.readableRec ·))=true:=by kernel_rfl
theorem aY3:(namedTie Tryz.prog Rows.topSealedRow.named (OpenSpec.ofChange Rows.topSealedSpec).bare.vars)=true:=by kernel_rfl
theorem aSY:(Rows.topSealedRow.stops==[])=true:=by kernel_rfl
theorem bAa:(Tryz.prog.stops==[])=true:=by kernel_rfl
theorem bCP:(Rows.topSealedRow.knobs==[])=true:=by kernel_rfl
theorem aP7:(Tryz.prog.stopKnobs==[])=true:=by kernel_rfl
theorem a6q:(Rows.topSealedRow.inPlace==Tryz.prog.inPlace 4)=true:=by kernel_rfl
theorem a71:(Rows.topSealedRow.unfollowed==Tryz.prog.unfollowed 4)=true:=by kernel_rfl
theorem aUr:(Rows.topSealedRow.recurses==Tryz.prog.recurses 4)=true:=by kernel_rfl
theorem a7j:(Rows.topSealedRow.named==Tryz.prog.varsNamed 4)=true:=by kernel_rfl
theorem a6U:(Rows.topSealedRow.maps==(Tryz.f4.params.toList++(OpenSpec.ofChange Rows.topSealedSpec).bare.plain.varTypes Tryz.prog).any (Tryz.prog.mapsRec ·))=true:=by kernel_rfl
theorem bCx:(Rows.topSealedRow.ifaces==(Tryz.f4.params.toList++(OpenSpec.ofChange Rows.topSealedSpec).bare.plain.varTypes Tryz.prog).any (Tryz.prog.ifacesRec ·))=true:=by kernel_rfl
theorem bA9:(Rows.topSealedRow.mapsOut==Tryz.prog.mapsAmong Tryz.f4.resultTypes.toList)=true:=by kernel_rfl
theorem a1F:(Rows.topSealedRow.loops==(Tryz.f4.params.toList++(OpenSpec.ofChange Rows.topSealedSpec).bare.plain.varTypes Tryz.prog).any (Tryz.prog.loopsFrom ·))=true:=by kernel_rfl
theorem aWO:(Rows.topSealedRow.wideKeys==(Tryz.f4.params.toList++(OpenSpec.ofChange Rows.topSealedSpec).bare.plain.varTypes Tryz.prog++Tryz.f4.resultTypes.toList).any (Tryz.prog.wideKeysFrom ·))=true:=by kernel_rfl
theorem aTe:((OpenSpec.ofChange Rows.topSealedSpec).bare.vars.all (Tryz.prog.varReadable ·))=true:=by kernel_rfl
theorem bDY:(Tryz.f4.resultTypes.all (λt=>Tryz.prog.readableRec t&&decide (t<Tryz.prog.types.size)))=true:=by kernel_rfl
theorem aO3:(Rows.topSealedRow.ifacesOut==Tryz.f4.resultTypes.toList.any (Tryz.prog.ifacesRec ·))=true:=by kernel_rfl
theorem aSf:(Rows.topSealedRow.loopsOut==Tryz.f4.resultTypes.toList.any (Tryz.prog.loopsFrom ·))=true:=by kernel_rfl
theorem a7n:(Rows.topSealedRow.plainKeys==Tryz.prog.plainKeys)=true:=by kernel_rfl
theorem a6p:(Rows.topSealedRow.shortTexts.isNone)=true:=by kernel_rfl
theorem a6b:(Tryz.prog.stopsHeard)=true:=by kernel_rfl
theorem aQJ:(Tryz.prog.mayEnter)=true:=by kernel_rfl
theorem a85:(Rows.topSealedRow.lifted==Tryz.prog.liftsFinal)=true:=by kernel_rfl
theorem aVN:(Tryz.prog.make==some Rows.topSealedRow.make)=true:=by kernel_rfl
theorem a1a:(Rows.topSealedRow.kinds==(if Rows.topSealedRow.domain.isEmpty then [] else Tryz.f4.params.toList.map λt=>match Tryz.prog.underlying t with|some (.int k)=>some k|_=>none))=true:=by kernel_rfl
theorem a9b:(Rows.topSealedRow.pinned==Rows.topSealedRow.pinnedBy)=true:=by kernel_rfl
theorem a9t:(Rows.topSealedRow.veiled==(Tryz.f4.params.toList++(OpenSpec.ofChange Rows.topSealedSpec).bare.plain.varTypes Tryz.prog++Tryz.f4.resultTypes.toList).any (Tryz.prog.veiledRec ·))=true:=by kernel_rfl
theorem a7v:(Rows.topSealedRow.veiledFits Tryz.prog Tryz.f4.params.toList (Tryz.f4.params.toList++(OpenSpec.ofChange Rows.topSealedSpec).bare.plain.varTypes Tryz.prog++Tryz.f4.resultTypes.toList))=true:=by kernel_rfl
theorem a5y:joinedFacts Tryz.prog 4 Tryz.f4 (OpenSpec.ofChange Rows.topSealedSpec).bare Rows.topSealedRow=true:=fE (fE (fE (fE (fE (fE (fE (fE (fE (fE (fE (fE (fE (fE (fE (fE (fE (fE (fE (fE (fE (fE (fE (fE (fE (fE (fE (fE (fE (fE (fE a8d aXY) bDB) aO1) aY3) aSY) bAa) bCP) aP7) a6q) a71) aUr) a7j) a6U) bCx) bA9) a1F) aWO) aTe) bDY) aO3) aSf) a7n) a6p) a6b) aQJ) a85) aVN) a1a) a9b) a9t) a7v
