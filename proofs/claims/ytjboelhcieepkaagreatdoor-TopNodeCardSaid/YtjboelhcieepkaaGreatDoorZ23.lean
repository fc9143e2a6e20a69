/-
  live22 returns true.
-/
import Derived.Test.YtjboelhcieepkaaGreatDoorZ22
import Derived.Test.YtjboelhcieepkaaGreatDoorQLv1
import Derived.Test.YtjboelhcieepkaaGreatDoorQLv2
import Derived.Test.YtjboelhcieepkaaGreatDoorQLv3
import Derived.Test.YtjboelhcieepkaaGreatDoorQLv4
import Derived.Test.YtjboelhcieepkaaGreatDoorQLv5
import Derived.Test.YtjboelhcieepkaaGreatDoorCards
import Derived.Test.YtjboelhcieepkaaGreatDoorTie
import Derived.Deep.DeepHandedRow
import Derived.Lib.LaidTab
import Derived.LaidHandle
namespace Go.Proofs.YtjboelhcieepkaaGreatDoor
set_option maxRecDepth 16384
open Go.RowKit
theorem live22_any(w:World)(hg:GlobOk Xt w):Calls Xt.P 15 #[] w fun e w'=>e=.returned (.bool true)∧Below w.heap.size w w':=by
 have he:=live_e
 unfold end22 at he
 split at he
 ·rename_i fn c hent
  cases hf:finS Xt fn (runWS H7 Xt 18 lv6) with
  |none=>rw [hf] at he;cases he
  |some x =>
   obtain ⟨y,st⟩:=x
   rw [hf] at he
   simp only [Option.map_some,Option.some.injEq] at he
   subst he
   have hs:Seg w lv6 (runWS H7 Xt 18 lv6):=fun r0 Q0 h0 hq=>runWS_ok (E:=E0 Xt w) hmx H7_ok h0 18 hq
   exact Seg.call hent ((live_a w).trans ((live_b w).trans ((live_c w).trans ((live_d w).trans hs)))) hf rfl hg
 ·cases he
end Go.Proofs.YtjboelhcieepkaaGreatDoor
namespace Go.Proofs.YtjboelhcieepkaaGreatDoor
set_option maxRecDepth 16384
open Go.RowKit
theorem slice_mem{w:World}{r:List Loc}{hp:Tr}{k z n c:Nat}{A:Option Addr}{l:List Nat}(hm:Mem (E0 Xt w) r hp k w)(ha:AllF hp)(h0:0<w.heap.size)(hz:0<z)(hr:Reads w w.heap.size z A n (nv .u8 l)):
 ∃L:Loc,Mem (E0 Xt w) (r++[L]) (hp.put k ⟨5,.arr .u8 (n*z) l,2⟩) (k+1) w∧(n=0∨A=some ⟨L.g,L.b,none⟩):=by
 have hl:l.length=n*z:=by have:=hr.1;rwa [nv_len] at this
 by_cases hn:n=0
 ·subst hn
  refine ⟨⟨0,0,c,none,fun _=>False⟩,hm.addF ha _ _ _ (nv .u8 l) (.arr hl) h0 (Nat.le_refl _) (fun j v hv=>?_),.inl rfl⟩
  rw [List.getElem?_eq_none (by rw [nv_len,hl];simp)] at hv
  cases hv
 ·obtain ⟨ad,rfl,hlt,hc⟩:=hr.2 (by omega)
  have hsp:ad.spot=none:=by
   have:=hc 0 _ (nv_get (by rw [hl];exact Nat.mul_pos (by omega) hz))
   have h2:=World.cell?_spot this
   simpa [Addr.add] using h2
  obtain ⟨g,o,s⟩:=ad
  simp only at hsp
  subst hsp
  refine ⟨⟨g,o,c,none,fun _=>False⟩,hm.addF ha _ _ _ (nv .u8 l) (.arr hl) hlt (Nat.le_refl _) (fun j v hv=>?_),.inr rfl⟩
  have:=hc j v hv
  rwa [add_none] at this
theorem globs_pos{w:World}(hg:GlobOk Xt w):0<w.heap.size:=by
 obtain ⟨vs,_,h,_⟩:=hg 0 (.arr .i64 2 [45,33]) (by kernel_rfl)
 omega
theorem start_mem{w:World}(hg:GlobOk Xt w)(bl ep ma:Nat){A A2:Option Addr}{n m c c2:Nat}{l l2:List Nat}(hr:Reads w w.heap.size 2 A n (nv .u8 l))(hr2:Reads w w.heap.size 1 A2 m (nv .u8 l2)):
 ∃pp sp n2 n3 r0,PPok pp n n2∧SPok sp m n3∧Mem (E0 Xt w) r0 (hp0 (vp0 bl ep ma l l2) n2 n3) 2 w∧DenC r0 (vR (vp0 bl ep ma l l2) pp sp) [.int .u8 (bl:Int),.slice A n c,.slice A2 m c2,.int .u8 (ep:Int),.int .u8 (ma:Int)]:=by
 have h0:=globs_pos hg
 obtain ⟨L1,hm1,hA⟩:=slice_mem (c:=c) (Mem.start Xt w hg) AllF.start h0 (by decide) hr
 obtain ⟨L2,hm2,hA2⟩:=slice_mem (c:=c2) hm1 (AllF.start.put _ _ _) h0 (by decide) hr2
 have row:∀{pp sp:SV},Den ([]++[L1]++[L2]) pp (.slice A n c)→Den ([]++[L1]++[L2]) sp (.slice A2 m c2)→DenC ([]++[L1]++[L2]) (vR (vp0 bl ep ma l l2) pp sp) [.int .u8 (bl:Int),.slice A n c,.slice A2 m c2,.int .u8 (ep:Int),.int .u8 (ma:Int)]:=fun h1 h2 =>
  DenC.cat (us:=[_]) (.one (.v _) rfl) (DenC.cat (us:=[_]) (.one h1 rfl) (DenC.cat (us:=[_]) (.one h2 rfl) (DenC.cat (us:=[_]) (.one (.v _) rfl) (DenC.cat (us:=[_]) (.one (.v _) rfl) .nil))))
 have mem:∀n2 n3,n2=n*2→n3=m*1→Mem (E0 Xt w) ([]++[L1]++[L2]) (hp0 (vp0 bl ep ma l l2) n2 n3) 2 w:=fun n2 n3 e1 e2=>by
  subst e1 e2
  exact hm2
 obtain ⟨pp,hpp,dp⟩:∃pp,PPok pp n (n*2)∧Den ([]++[L1]++[L2]) pp (.slice A n c):=by
  by_cases hn:n=0
  ·subst hn
   exact ⟨.v (.slice A 0 c),.inl ⟨A,c,rfl,rfl⟩,.v _⟩
  ·have e:A=some ⟨L1.g,L1.b+0,none⟩:=hA.resolve_left hn
   rw [e]
   exact ⟨.s 0 0 n c,.inr ⟨c,rfl,by omega⟩,.s (L:=L1) rfl⟩
 obtain ⟨sp,hsp,ds⟩:∃sp,SPok sp m (m*1)∧Den ([]++[L1]++[L2]) sp (.slice A2 m c2):=by
  by_cases hn:m=0
  ·subst hn
   exact ⟨.v (.slice A2 0 c2),.inl ⟨A2,c2,rfl,rfl⟩,.v _⟩
  ·have e:A2=some ⟨L2.g,L2.b+0,none⟩:=hA2.resolve_left hn
   rw [e]
   exact ⟨.s 1 0 m c2,.inr ⟨c2,rfl,by omega⟩,.s (L:=L2) rfl⟩
 exact ⟨pp,sp,_,_,_,hpp,hsp,mem _ _ rfl rfl,row dp ds⟩
theorem live_ob{E:Env}{nx:Nat}(hE:E.X=Xt):CallOb E 15 [] [] [] nx (.v (.bool true)) []:=by
 have hent:Enters E.X.P 15:=by rw [hE];exact enters (by kernel_rfl)
 refine obx_calls hent fun r vals w1 hp ha hm=>?_
 cases ha
 rw [hE]
 refine (live22_any w1 (hE▸hm.globs)).mono ?_
 rintro e w' ⟨rfl,hb⟩
 exact ⟨_,rfl,.v _,hb⟩
theorem start_seg{w:World}{x:VP}{pp sp:SV}{n n2 n3 cut lp ls:Nat}(h1:1≤n)(h20:n≤20)(hx:x.ep<256)(hof:(obOf x pp sp n2 n3 n (rootB x n lp ls) (LF x n lp ls)).Holds (E0 Xt w)):
 SegV w (tn0 x pp sp n2 n3 cut) (QLr (tot n) 0 n (cutS cut) (rowX (tot n) (XR n (RT_ x n lp) (enF n (RT_ x n lp) (BT_ x n ls))))):=by
 intro Q0 h0 hq
 have h:=st_any n h1 h20 x pp sp n2 n3 cut n (rootB x n lp ls) (LF x n lp ls) (qOf (LF x n lp ls) (secs n)) (XR n (RT_ x n lp) (enF n (RT_ x n lp) (BT_ x n ls))) (slotsR n (RT_ x n lp) (BT_ x n ls))
 unfold tnS at h
 obtain ⟨y,hy,hy2⟩:=Option.map_eq_some_iff.1 h
 simp only [Prod.mk.injEq] at hy2
 obtain ⟨e1,e2,e3,e4⟩:=hy2
 refine evRun_ok (S:=S0) (E:=E0 Xt w) hmx HQ_ok h0 12 [.c [0,1] (fun k=>.a (volG x n k (rootB x n lp ls))) [ghN n (LF x n lp ls)]] (fun ob hob=>?_) ?_
 ·have hob':ob∈(tn1 x n (rootB x n lp ls) (LF x n lp ls) (tn0 x pp sp n2 n3 cut)).2:=hob
  rw [e2] at hob'
  simp only [List.mem_cons,List.not_mem_nil,or_false] at hob'
  subst hob'
  exact hof
 ·refine evDraw_ok (E:=E0 Xt w) (q:=y.1) (obs:=y.2) hmx HQ_ok h0 hy (fun ob hob=>?_) ?_
  ·rw [e3] at hob
   simp only [List.mem_cons,List.not_mem_nil,or_false] at hob
   rcases hob with rfl|rfl
   ·exact tree_ob hx h1 h20
   ·exact disk_ob h1 h20 (LF_ok x n lp ls).1 (LF_ok x n lp ls).2
  ·refine runRn_ok (S:=SQ) (E:=E0 Xt w) hmx HQ_ok h0 12 (cut_ok lsQ [6,8] 0 e4 ?_)
   show Xp (E0 Xt w) [] Q0 (cutV lsQ [6,8] 0 (runE SQ HQ Xt 12 y.1))
   rw [e1]
   exact hq
theorem topNode_any{bl ep ma cut:Nat}(hb:bl<256)(he:ep<256)(hcut:cut<256)(A:Option Addr)(m c:Nat)(l:List Nat){w:World}(hr:Reads w w.heap.size 2 A m (nv .u8 l))(A2:Option Addr)(m2 c2:Nat)(l2:List Nat)(hr2:Reads w w.heap.size 1 A2 m2 (nv .u8 l2))(hg:GlobOk Xt w):
 Calls Xt.P 3 #[.agg #[.int .u8 (bl:Int),.slice A m c,.slice A2 m2 c2,.int .u8 (ep:Int),.int .u8 (ma:Int)],.int .u8 (cut:Int)] w fun e w'=>e=.returned (.bool true)∧Below w.heap.size w w':=by
 obtain ⟨n,hn⟩:∃n,n=1+bl%20:=⟨_,rfl⟩
 have h1:1≤n:=by omega
 have h20:n≤20:=by omega
 obtain ⟨pp,sp,n2,n3,r0,hpp,hsp,hm,hv⟩:=start_mem (c:=c) (c2:=c2) hg bl ep ma hr hr2
 have hof:=of_ob (w:=w) (bl:=bl) (ep:=ep) (ma:=ma) (pl:=l) (sl:=l2) (n:=n) hb hn hpp hsp
 obtain ⟨x,hx⟩:∃x,x=vp0 bl ep ma l l2:=⟨_,rfl⟩
 have hxe:x.ep<256:=by rw [hx];exact he
 rw [←hx] at hm hv hof
 have hseg:=(start_seg (cut:=cut) h1 h20 hxe hof).trans (chain_any hcut n h1 h20)
 have hen:=en_any n h1 h20 n (cutS cut) (XR n (RT_ x n m) (enF n (RT_ x n m) (BT_ x n m2)))
 unfold tnF at hen
 simp only [Prod.mk.injEq] at hen
 obtain ⟨e1,e2⟩:=hen
 obtain ⟨⟨res,st⟩,hfin,heq⟩:=Option.map_eq_some_iff.1 e1
 simp only at heq
 subst heq
 cases hent:entryS Xt.P 3 with
 |none=>unfold finP at hfin;rw [hent] at hfin;cases hfin
 |some fc =>
  obtain ⟨fn,cd⟩:=fc
  have hpos:tn0 x pp sp n2 n3 cut=⟨.code cd,[],⟨frame [.a (vR x pp sp),cutS cut] fn.ntmps,hp0 x n2 n3,2⟩⟩:=by unfold tn0 evPos;rw [hent]
  rw [hpos] at hseg
  unfold finP at hfin
  rw [hent] at hfin
  have hxx:=hseg _ collOk_body (evRun_ok (S:=SQ) (E:=E0 Xt w) hmx HQ_ok collOk_body 12 [.b false,.c [] (fun _=>.v (.bool true)) []] (fun ob hob=>by
   have hob':ob∈(tnE (tot n) n (cutS cut) (rowX (tot n) (XR n (RT_ x n m) (enF n (RT_ x n m) (BT_ x n m2))))).2:=hob
   rw [e2] at hob'
   simp only [List.mem_cons,List.not_mem_nil,or_false] at hob'
   rcases hob' with rfl|rfl
   ·rfl
   ·exact live_ob rfl) (finS_ok (E:=E0 Xt w) (r:=[]) hfin))
  refine (calls_of_X2 (E:=E0 Xt w) (k:=[]) (r0:=[]) (r:=r0) (vals:=[.agg #[.int .u8 (bl:Int),.slice A m c,.slice A2 m2 c2,.int .u8 (ep:Int),.int .u8 (ma:Int)],.int .u8 (cut:Int)]) hent ⟨r0,rfl⟩ (.cons (.a hv) (.cons (.v _) .nil)) hm rfl rfl rfl hxx).mono ?_
  rintro e w' ⟨r,v,rfl,hd,hm'⟩
  cases hd
  exact ⟨rfl,hm'.below⟩
end Go.Proofs.YtjboelhcieepkaaGreatDoor
namespace Go.Proofs.YtjboelhcieepkaaGreatDoor
set_option maxRecDepth 16384
open Go.ChangeShapes Go.WideShapes Go.ChangeAt Go.RowKit Sh
theorem ownC:ownKnob Tryz.prog.godebug=none:=by kernel_rfl
theorem gI : Tryz.prog.globalNamed "caisson/digests.initial" = some 1 := by kernel_rfl
theorem gC : Tryz.prog.globalNamed "caisson/digests.constants" = some 2 := by kernel_rfl
theorem gIt:(Tryz.prog.globals[1]?).map (·.type)=some 71:=by kernel_rfl
theorem gCt:(Tryz.prog.globals[2]?).map (·.type)=some 243:=by kernel_rfl
def ints(l:List Nat):List Int:=l.map fun x:Nat=>(x:Int)
theorem datI:(Rows.laid_caisson_digests_initial:DataW Unit)=Lib.tabData .u32 (ints hL):=by kernel_rfl
theorem datC:(Rows.laid_caisson_digests_constants:DataW Unit)=Lib.tabData .u32 (ints kL):=by kernel_rfl
theorem tab_second{P:Program}{W:World}{n1:String}{d1:DataW Unit}{name:String}{k:IntKind}{zs:List Int}{rest:List (String×DataW Unit)}{g:Nat}{t e:TypeId}{n:Nat}
 (hg:P.globalNamed name=some g) (hty:(P.globals[g]?).map (·.type)=some t) (ht:P.underlying t=some (.array n e)) (he:P.underlying e=some (.int k)) (hce:P.cellsOf e=1) (hct:P.cellsOf t=n)
 (h:laidMet P ((n1,d1)::(name,Lib.tabData k zs)::rest) W):Lib.TabIs P W name k zs:=by
 obtain ⟨ps,⟨_,_,_,_,_,q1,_,_,_,_,⟨g',t',cs,fuel,p,q,hg',ht',hvar,hd,_,_⟩,_⟩,_⟩:=h
 obtain rfl:=Option.some.inj (hg.symm.trans hg')
 obtain rfl:=Option.some.inj (hty.symm.trans ht')
 unfold Lib.TabIs
 rw [hvar,←Lib.cells_of_tab ht he hce hct hd]
end Go.Proofs.YtjboelhcieepkaaGreatDoor
namespace Go.Proofs.YtjboelhcieepkaaGreatDoor
set_option maxRecDepth 16384
open Go.ChangeShapes Go.WideShapes Go.ChangeAt Go.RowKit Sh
theorem gS : Tryz.prog.globalNamed "caisson/nodes.sizes" = some 0 := by kernel_rfl
theorem gSt:(Tryz.prog.globals[0]?).map (·.type)=some 140:=by kernel_rfl
theorem datS:(Rows.laid_caisson_nodes_sizes:DataW Unit)=Lib.tabData .i64 (ints [45,33]):=by kernel_rfl
theorem tab_third{P:Program}{W:World}{n1 n2:String}{d1 d2:DataW Unit}{name:String}{k:IntKind}{zs:List Int}{rest:List (String×DataW Unit)}{g:Nat}{t e:TypeId}{n:Nat}
 (hg:P.globalNamed name=some g) (hty:(P.globals[g]?).map (·.type)=some t) (ht:P.underlying t=some (.array n e)) (he:P.underlying e=some (.int k)) (hce:P.cellsOf e=1) (hct:P.cellsOf t=n)
 (h:laidMet P ((n1,d1)::(n2,d2)::(name,Lib.tabData k zs)::rest) W):Lib.TabIs P W name k zs:=by
 obtain ⟨ps,⟨_,_,_,_,_,q1,_,_,_,_,⟨_,_,_,_,_,q2,_,_,_,_,⟨g',t',cs,fuel,p,q,hg',ht',hvar,hd,_,_⟩,_⟩,_⟩,_⟩:=h
 obtain rfl:=Option.some.inj (hg.symm.trans hg')
 obtain rfl:=Option.some.inj (hty.symm.trans ht')
 unfold Lib.TabIs
 rw [hvar,←Lib.cells_of_tab ht he hce hct hd]
theorem range_ofK{W:World}{name:String}{k:IntKind}{l:List Nat}{g:Nat}(h:Lib.TabIs Tryz.prog W name k (ints l))(hg:Tryz.prog.globalNamed name=some g):∀j v,(nv k l)[j]?=some v→W.cell? ⟨g,j,none⟩=some v:=fun j v hv=>by
 have hj:j<l.length:=by
  rcases Nat.lt_or_ge j l.length with h0|h0
  ·exact h0
  ·rw [List.getElem?_eq_none (by rw [nv_len];exact h0)] at hv;cases hv
 have hc:=h.cell hg j (by simpa [ints] using hj)
 rw [nv_get hj] at hv
 injection hv with hv
 subst hv
 rw [hc]
 simp [ints,List.getD_eq_getElem?_getD,hj]
def laid5 : List (String × DataW Unit) := [("caisson/digests.initial", Rows.laid_caisson_digests_initial), ("caisson/digests.constants", Rows.laid_caisson_digests_constants), ("errors.errorType", Rows.laid_errors_errorType), ("caisson/nodes.sizes", Rows.laid_caisson_nodes_sizes), ("caisson/stores.errPoison", Rows.laid_caisson_stores_errPoison)]
theorem glob5{W:World}(h:laidMetH Tryz.prog laid5 W):GlobOk Xt W:=by
 have h' : laidMet Tryz.prog [("caisson/digests.initial", Rows.laid_caisson_digests_initial), ("caisson/digests.constants", Rows.laid_caisson_digests_constants), ("caisson/nodes.sizes", Rows.laid_caisson_nodes_sizes), ("caisson/stores.errPoison", Rows.laid_caisson_stores_errPoison)] W ∧ handlesMet Tryz.prog [("errors.errorType", Rows.laid_errors_errorType)] W := h
 have h0:=h'.1
 rw [datI,datC,datS] at h0
 have hI:=range_ofK (Lib.tabIs_of_head (e:=57) (n:=8) gI gIt (by kernel_rfl) (by kernel_rfl) (by kernel_rfl) (by kernel_rfl) h0) gI
 have hC:=range_ofK (tab_second (e:=57) (n:=64) gC gCt (by kernel_rfl) (by kernel_rfl) (by kernel_rfl) (by kernel_rfl) h0) gC
 have hS:=range_ofK (tab_third (e:=3) (n:=2) gS gSt (by kernel_rfl) (by kernel_rfl) (by kernel_rfl) (by kernel_rfl) h0) gS
 intro g cs hg
 have hg':Gt g=some cs:=hg
 unfold Gt at hg'
 have lt:∀{k:IntKind} {l:List Nat} {n g:Nat},l.length=n→0<n→(∀j v,(nv k l)[j]?=some v→W.cell? ⟨g,j,none⟩=some v)→∃vs,DenC [] (.arr k n l) vs∧g<W.heap.size∧∀j v,vs[j]?=some v→W.cell? ⟨g,j,none⟩=some v:=fun {k l n g} hl hn hc =>
  ⟨nv k l,.arr hl,World.block_lt_of_cell? W _ (hc 0 _ (nv_get (by omega))),hc⟩
 rw [beq_iff,beq_iff,beq_iff] at hg'
 by_cases e1:g=0
 ·subst e1
  simp only [decide_true,cond_true,Option.some.injEq] at hg'
  subst hg'
  exact lt rfl (by decide) hS
 ·simp only [e1,decide_false,cond_false] at hg'
  by_cases e2:g=2
  ·subst e2
   simp only [decide_true,cond_true,Option.some.injEq] at hg'
   subst hg'
   exact lt rfl (by decide) hC
  ·simp only [e2,decide_false,cond_false] at hg'
   by_cases e3:g=1
   ·subst e3
    simp only [decide_true,cond_true,Option.some.injEq] at hg'
    subst hg'
    exact lt rfl (by decide) hI
   ·simp [e3] at hg'
def poisonS:ByteArray:=⟨#[116,104,101,32,115,116,111,114,101,32,105,115,32,112,111,105,115,111,110,101,100]⟩
def layAt(c:Array Value):Obj→Obj
 | .cells _ t frozen=>.cells c t frozen
 |o=>o
noncomputable def heldW(os:Os):World:=World.holding Tryz.prog os ⟨#[.cells #[.string poisonS] 493],#[],[]⟩
noncomputable def lowW:Nat:=(World.holding Tryz.prog default ⟨#[],#[],[]⟩).heap.size
noncomputable def laidWorld5(os:Os):World :=
 { heldW os with heap:=(((((heldW os).heap.modify 1 (layAt (va .u32 hL))).modify 2 (layAt (va .u32 kL))).modify 0 (layAt (va .i64 [45,33]))).modify 4 (layAt #[.iface 441 (.agg #[typeHandle Tryz.prog 252])])).modify 3 (layAt #[.iface 473 (.pointer (some ⟨lowW,0,none⟩))]) }
theorem laid5_met(os:Os)(args:Array Value):laidMetH Tryz.prog laid5 ((laidWorld5 os).forCall (fun _ _=>0) ⟨#[],args,[]⟩).memory :=
 laidMetH_of_parts (laidMet_of_run' 8 (by kernel_rfl) (by kernel_rfl)) (by kernel_rfl)
end Go.Proofs.YtjboelhcieepkaaGreatDoor
