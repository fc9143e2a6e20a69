/-
  TopNode: the closed facts of its row, one by one.
-/
import Derived.Test.YtjboelhcieepkaaGreatDoorCards
import Derived.RowKit
import Derived.JoinedCond
import Derived.KernelRfl
namespace Go.Proofs.YtjboelhcieepkaaGreatDoor.topNode
set_option maxRecDepth 16384
open Go.RowKit
theorem andB{a b:Bool}(h:a=true)(k:b=true):(a&&b)=true:=by rw [h,k];rfl
theorem f_wf:(Rows.topNodeRow.wf (OpenSpec.ofChange (OpenSpec.ofChange Rows.topNodeSpec).bare))=true:=by kernel_rfl
theorem f_lay:(laidOutB Tryz.prog)=true:=by kernel_rfl
theorem f_mr:(mapsRowed Tryz.prog)=true:=by kernel_rfl
theorem f_rd:(Tryz.f3.params.all (Tryz.prog.readableRec ·))=true:=by kernel_rfl
theorem f_nt:(namedTie Tryz.prog Rows.topNodeRow.named (OpenSpec.ofChange Rows.topNodeSpec).bare.vars)=true:=by kernel_rfl
theorem f_s1:(Rows.topNodeRow.stops==[])=true:=by kernel_rfl
theorem f_s2:(Tryz.prog.stops==[])=true:=by kernel_rfl
theorem f_s3:(Rows.topNodeRow.knobs==[])=true:=by kernel_rfl
theorem f_s4:(Tryz.prog.stopKnobs==[])=true:=by kernel_rfl
theorem f_ip:(Rows.topNodeRow.inPlace==Tryz.prog.inPlace 3)=true:=by kernel_rfl
theorem f_uf:(Rows.topNodeRow.unfollowed==Tryz.prog.unfollowed 3)=true:=by kernel_rfl
theorem f_rc:(Rows.topNodeRow.recurses==Tryz.prog.recurses 3)=true:=by kernel_rfl
theorem f_nm:(Rows.topNodeRow.named==Tryz.prog.varsNamed 3)=true:=by kernel_rfl
theorem f_mp:(Rows.topNodeRow.maps==(Tryz.f3.params.toList++(OpenSpec.ofChange Rows.topNodeSpec).bare.plain.varTypes Tryz.prog).any (Tryz.prog.mapsRec ·))=true:=by kernel_rfl
theorem f_if_:(Rows.topNodeRow.ifaces==(Tryz.f3.params.toList++(OpenSpec.ofChange Rows.topNodeSpec).bare.plain.varTypes Tryz.prog).any (Tryz.prog.ifacesRec ·))=true:=by kernel_rfl
theorem f_mo:(Rows.topNodeRow.mapsOut==Tryz.prog.mapsAmong Tryz.f3.resultTypes.toList)=true:=by kernel_rfl
theorem f_lp:(Rows.topNodeRow.loops==(Tryz.f3.params.toList++(OpenSpec.ofChange Rows.topNodeSpec).bare.plain.varTypes Tryz.prog).any (Tryz.prog.loopsFrom ·))=true:=by kernel_rfl
theorem f_wk:(Rows.topNodeRow.wideKeys==(Tryz.f3.params.toList++(OpenSpec.ofChange Rows.topNodeSpec).bare.plain.varTypes Tryz.prog++Tryz.f3.resultTypes.toList).any (Tryz.prog.wideKeysFrom ·))=true:=by kernel_rfl
theorem f_vr:((OpenSpec.ofChange Rows.topNodeSpec).bare.vars.all (Tryz.prog.varReadable ·))=true:=by kernel_rfl
theorem f_rt:(Tryz.f3.resultTypes.all (fun t=>Tryz.prog.readableRec t&&decide (t<Tryz.prog.types.size)))=true:=by kernel_rfl
theorem f_io:(Rows.topNodeRow.ifacesOut==Tryz.f3.resultTypes.toList.any (Tryz.prog.ifacesRec ·))=true:=by kernel_rfl
theorem f_lo:(Rows.topNodeRow.loopsOut==Tryz.f3.resultTypes.toList.any (Tryz.prog.loopsFrom ·))=true:=by kernel_rfl
theorem f_pk:(Rows.topNodeRow.plainKeys==Tryz.prog.plainKeys)=true:=by kernel_rfl
theorem f_st:(Rows.topNodeRow.shortTexts.isNone)=true:=by kernel_rfl
theorem f_sh:(Tryz.prog.stopsHeard)=true:=by kernel_rfl
theorem f_me:(Tryz.prog.mayEnter)=true:=by kernel_rfl
theorem f_lf:(Rows.topNodeRow.lifted==Tryz.prog.liftsFinal)=true:=by kernel_rfl
theorem f_mk:(Tryz.prog.make==some Rows.topNodeRow.make)=true:=by kernel_rfl
theorem f_kd:(Rows.topNodeRow.kinds==(if Rows.topNodeRow.domain.isEmpty then [] else Tryz.f3.params.toList.map fun t=>match Tryz.prog.underlying t with|some (.int k)=>some k|_=>none))=true:=by kernel_rfl
theorem f_pn:(Rows.topNodeRow.pinned==Rows.topNodeRow.pinnedBy)=true:=by kernel_rfl
theorem f_ve:(Rows.topNodeRow.veiled==(Tryz.f3.params.toList++(OpenSpec.ofChange Rows.topNodeSpec).bare.plain.varTypes Tryz.prog++Tryz.f3.resultTypes.toList).any (Tryz.prog.veiledRec ·))=true:=by kernel_rfl
theorem f_vf:(Rows.topNodeRow.veiledFits Tryz.prog Tryz.f3.params.toList (Tryz.f3.params.toList++(OpenSpec.ofChange Rows.topNodeSpec).bare.plain.varTypes Tryz.prog++Tryz.f3.resultTypes.toList))=true:=by kernel_rfl
theorem closed:joinedFacts Tryz.prog 3 Tryz.f3 (OpenSpec.ofChange Rows.topNodeSpec).bare Rows.topNodeRow=true:=andB (andB (andB (andB (andB (andB (andB (andB (andB (andB (andB (andB (andB (andB (andB (andB (andB (andB (andB (andB (andB (andB (andB (andB (andB (andB (andB (andB (andB (andB (andB f_wf f_lay) f_mr) f_rd) f_nt) f_s1) f_s2) f_s3) f_s4) f_ip) f_uf) f_rc) f_nm) f_mp) f_if_) f_mo) f_lp) f_wk) f_vr) f_rt) f_io) f_lo) f_pk) f_st) f_sh) f_me) f_lf) f_mk) f_kd) f_pn) f_ve) f_vf
end Go.Proofs.YtjboelhcieepkaaGreatDoor.topNode
