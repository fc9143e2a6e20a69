/-
  TopSealed ('caisson/caissontop.TopSealed'): for every input the law returns true, and each argument reads behind the call as it read before. No condition: the package-level tables are tied to the program's text by the card.
-/
import Derived.Test.YtjboelhcieepkaaGreatDoorW25
import Derived.Test.YtjboelhcieepkaaGreatDoorVJnS
noncomputable section
set_option maxRecDepth 16384
namespace Go.Proofs.YtjboelhcieepkaaGreatDoor.topSealed
open Go.ChangeShapes Go.WideShapes Go.ChangeAt Go.RowKit Go.Joins Sh
theorem glob{W:World}(h0:laidMetH Tryz.prog Rows.topSealedRow.laid W):cG Xt W:=bAS h0
theorem bAO(H:Type)(enc:TypeId×Value->H)(W:World)(base:Nat)(args:Array Value)(ds gs:List (DataW H))(before:List MemPlace)
 (hval0:∀(j:Nat) t v,Tryz.f4.params[j]?=some t->args[j]?=some v->Value.okWide Tryz.prog W .any base t v)
 (hW:DataW.Whole enc Tryz.prog Tryz.f4.params.toList Rows.topSealedSpec.vars false W args.toList ds gs before) (hL0:laidMetH Tryz.prog Rows.topSealedRow.laid W) :
 Calls Tryz.prog 4 args W λe W'=>∃v,e=.returned v∧Rows.topSealedSpec.post enc Tryz.prog Tryz.f4 false true false false W args v W':=by
 have hval:∀(j:Nat) t v,Tryz.f4.params[j]?=some t->args[j]?=some v->Value.okWide Tryz.prog W .any base t v:=hval0
 have hW':=hW
 obtain ⟨p,q,hA0,hV,rfl,hfz,hnd⟩:=hW
 have hA:DataW.TrodAll enc Tryz.prog W 0 (λ_=>true) true Tryz.f4.params.toList args.toList ds p:=hA0
 rw [Tryz.params4] at hA hval
 obtain ⟨v0,vs0,d0,ds0,p0,q0,hargs,rfl,rfl,h0,r0⟩:=trodAll_cons hA
 obtain ⟨v1,vs1,d1,ds1,p1,q1,rfl,rfl,rfl,h1,r1⟩:=trodAll_cons r0
 obtain ⟨v2,vs2,d2,ds2,p2,q2,rfl,rfl,rfl,h2,r2⟩:=trodAll_cons r1
 obtain ⟨rfl,rfl,rfl⟩:=trodAll_nil r2
 obtain rfl:args=#[v0,v1,v2]:=by cases args;simp_all
 obtain ⟨rfl,rfl⟩:=trodVars_none hV
 obtain ⟨bl,ep,ma,A,n1,c1,l1,A2,n2,c2,l2,rfl,hb,he,_,hr1,_,hr2,_⟩:=a9V (hval 0 25 v0 rfl rfl) h0
 obtain ⟨blk,rfl,hblk⟩:=aYS (hval 1 5 v1 rfl rfl) h1
 obtain ⟨b,sh,c,rfl,hbl,hbb,hsh,hc⟩:=a2s (hval 2 83 v2 rfl rfl) h2
 simp only [eC] at hW' hA0
 refine (aQM hb he hblk hsh hc ⟨b,32,hbl,hbb⟩ rfl A n1 c1 l1 hr1 A2 n2 c2 l2 hr2 (glob hL0)).mono λe W' ⟨he,hg⟩=>?_
 subst he
 exact ⟨_,rfl,aZV aXa (by rw [Tryz.params4];exact of_decide_eq_true (by kernel_rfl)) hW' hA0 (λ_=>rfl) (λ_ _ _=>(trodAll_cons_mk (shut_bool Tryz.underlying4 _) trodAll_mk0)) rfl hg
  (ok_one (by kernel_rfl) rfl (okWide_bool_mk Tryz.underlying4 _))⟩
def aDG:Array Value:=#[.agg #[.int .u8 0,.slice none 0 0,.slice none 0 0,.int .u8 0,.int .u8 0],.int .u8 0,.agg (#[.int .u32 0,.int .u64 0]++Array.replicate 32 (.int .u8 0))]
theorem reads(os:Os){H:Type}(enc:TypeId×Value->H):∃places,DataW.whole enc Tryz.prog ((aEG os).forCall (λ_ _=>0) ⟨#[],aDG,[]⟩).memory Tryz.f4.params.toList Rows.topSealedSpec.vars false aDG.toList 8 =
 some ([.agg [.lit (.int .u8 0),.nil,.nil,.lit (.int .u8 0),.lit (.int .u8 0)],.lit (.int .u8 0),.agg [.agg [.lit (.int .u32 0),.lit (.int .u64 0)],.agg (List.replicate 32 (.lit (.int .u8 0)))]],[],places) :=
 ⟨[],by kernel_rfl⟩
set_option maxRecDepth 100000 in
theorem lifted(os:Os)(started:os.Started)(H:Type)(enc:TypeId×Value->H)(F:Stop.Interp):
 ReturnsInHanded {} Tryz.checked os 4 .any ((OpenSpec.ofChange Rows.topSealedSpec).preRow enc Tryz.prog Tryz.f4 Rows.topSealedRow.domain false Rows.topSealedRow.laid) (((OpenSpec.ofChange Rows.topSealedSpec).at F).post enc Tryz.prog Tryz.f4 false true false false):=by
 obtain ⟨places,hx⟩:=reads os enc
 refine returnsInHanded_of_row (C:=Tryz.checked) (s:=OpenSpec.ofChange Rows.topSealedSpec) bCm started (by kernel_rfl) Tryz.func4
  (witness_row_at (enc:=enc) (C:=Tryz.checked) false (aEG os) aDG rfl (by kernel_rfl) (by kernel_rfl) (by kernel_rfl)
   (OpenSpec.preRow_of_cond 8 hx (by kernel_rfl) (λk hk=>by cases hk) (by kernel_rfl) (a0N os _))) ?_
 intro W base args ds gs before hval hW _ _ _ hL0 _ _
 exact bAO H enc W base args ds gs before hval hW hL0
theorem said:Rows.TopSealedSaid :=
 OpenClaim.holds_of_cond 4 Tryz.f4 rfl rfl rfl rfl rfl rfl rfl ⟨rfl,rfl,rfl,rfl,rfl⟩ rfl rfl rfl rfl rfl (by kernel_rfl) Tryz.func4 a5y
  (of_decide_eq_true (by kernel_rfl)) (by unfold Func.isWrapper;first|(rw [if_pos (by decide +kernel)];kernel_rfl)|(rw [if_neg (by decide +kernel)];exact ⟨rfl,rfl⟩))
  (λos started H enc _ F=>by rw [OpenClaim.pre_eq_preRow];exact lifted os started H enc F)
theorem plain (f : FuncId) (fn : Func) (hf : Tryz.pinned.checked.prog.funcNamed "caisson/caissontop.TopSealed" = some f) (hfn : Tryz.pinned.checked.prog.funcs[f]? = some fn) :
 true=Tryz.pinned.checked.prog.looks []∧∀(j:Nat) t,fn.params[j]?=some t->Tryz.pinned.checked.prog.wantsStandIn t=false:=by
 obtain rfl : f = 4 := jR ((show Tryz.prog.funcNamed "caisson/caissontop.TopSealed" = some 4 by kernel_rfl).symm.trans hf) |>.symm
 obtain rfl:fn=Tryz.f4:=(jR (Tryz.func4.symm.trans hfn)).symm
 refine ⟨by kernel_rfl,λj t ht=>?_⟩
 rw [Tryz.params4] at ht
 have hm:t=25∨t=5∨t=83:=by have:=Array.mem_of_getElem? ht;simpa using this
 rcases hm with rfl|rfl|rfl
 ·exact (show Tryz.prog.wantsStandIn 25=false by kernel_rfl)
 ·exact (show Tryz.prog.wantsStandIn 5=false by kernel_rfl)
 ·exact (show Tryz.prog.wantsStandIn 83=false by kernel_rfl)
theorem proved:Rows.TopSealedCardSaid :=
 Claim7.holds_tied_plain_at .later [] _ _ _ _ said (λ_ h=>by cases h) (by kernel_rfl) (λ_ h=>by cases h) topSealed_row_tie rfl ⟨rfl,rfl⟩ (by kernel_rfl) rfl plain (by kernel_rfl)
#print axioms proved
end Go.Proofs.YtjboelhcieepkaaGreatDoor.topSealed
