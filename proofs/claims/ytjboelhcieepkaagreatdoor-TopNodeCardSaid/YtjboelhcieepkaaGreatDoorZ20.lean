/-
  recovers.Tree: its contract.
-/
import Derived.Test.YtjboelhcieepkaaGreatDoorZ19
namespace Go.Proofs.YtjboelhcieepkaaGreatDoor
set_option maxRecDepth 16384
open Go.RowKit
theorem mem_belowR{n:Nat}{p:Nat×Nat}(h:p∈belowR n):p.1<hgt n∧p.2<cnt n p.1:=by
 unfold belowR at h
 simp only [List.mem_flatMap,List.mem_reverse,List.mem_range,List.mem_map] at h
 obtain ⟨l,hl,j,hj,rfl⟩:=h
 exact ⟨hl,hj⟩
theorem plc_le{n l j:Nat}(hl:l<3)(hj:j<cnt n l):l≤hgt n:=by
 unfold hgt
 rcases l with _|_|_|l
 ·omega
 ·split
  ·rename_i h
   have hj':j<if cnt n 0=1 then 0 else (cnt n 0+3) / 4:=hj
   rw [if_pos h] at hj'
   omega
  ·split<;>omega
 ·have hj':j<if cnt n 1=1 then 0 else (cnt n 1+3) / 4:=hj
  have e1:cnt n 1=if cnt n 0=1 then 0 else (cnt n 0+3) / 4:=rfl
  split
  ·rename_i h
   rw [if_pos h] at e1
   rw [e1] at hj'
   simp at hj'
  ·split
   ·rename_i h
    rw [if_pos h] at hj'
    omega
   ·omega
 ·omega
theorem finP_st{X:Ctx}{g:FuncId}{p:Pos}{res:SV}{st:St}(h:finP X g p=some (res,st)):p.st=st:=by
 unfold finP at h
 split at h
 ·unfold finS at h
  split at h
  ·split at h
   ·cases h;rfl
   ·cases h
  ·split at h
   ·cases h;rfl
   ·cases h
  ·cases h
 ·cases h
theorem int3_inv{r:List Loc}{l:List Nat}{us:List Value}(h:DenC r (int3 l) us):us=nv .i64 l:=by
 have key:∀{l:List Nat} {us:List Value},DenF r (l.map fun x=>.one (i64v x)) us→us=nv .i64 l:=by
  intro l
  induction l with
  |nil=>intro us h;cases h;rfl
  |cons x l ih =>
   intro us h
   cases h with|cons h1 h2 =>
    rw [one_inv h1,ih h2];rfl
 exact key (packF_inv h)
def slotsR(n:Nat)(R:Nat→VRec)(B:Nat→Bool):List Nat:=slotsT n (emR R n) (fun k=>bitN (B k)) (bitN (B (num n (hgt n) 0)))
theorem slotsT_eq{n z0:Nat}{em:Nat→Nat→Bool}{R:Nat→VRec}{Z:Nat→Nat}(hem:∀l j,l<hgt n→j<cnt n l→em l j=emR R n l j):slotsT n em Z z0=slotsT n (emR R n) Z z0:=by
 unfold slotsT
 refine List.map_congr_left fun p hp=>?_
 obtain ⟨h3,hc⟩:=mem_plcs_inv hp
 have hle:=plc_le h3 hc
 rw [beq_iff]
 by_cases e:p.1=hgt n
 ·simp [e]
 ·simp only [e,decide_false,cond_false]
  rw [hem _ _ (by omega) hc]
theorem cnt_hgt{n:Nat}(h1:1≤n)(h20:n≤20):cnt n (hgt n)=1:=by
 have:∀m:Fin 20,cnt (m.1+1) (hgt (m.1+1))=1:=by decide
 have h:=this ⟨n-1,by omega⟩
 simpa [show n-1+1=n by omega] using h
section
variable {n g c0:Nat}{R:Nat→VRec}{B:Nat→Bool}{q e:Int}{m:Value}{dg:List Nat}{w:World}{L:List (Option VCnt)}
def DskHas(n:Nat)(R:Nat→VRec)(B:Nat→Bool)(L:List (Option VCnt)):Prop:=∀l j,l≤hgt n→j<cnt n l→(l=hgt n∨emR R n l j=false)→L[sctr n l j (bitN (B (num n l j)))]?=some (some (.nd (ndR n R (enF n R B) l j)))
theorem disk_inv{r:List Loc}{n g c0:Nat}{q:Int}{u:Value}(h:Den r (.a (dskT (secs n) q (.slice (some ⟨g,0,none⟩) 1 c0))) u):u=.agg #[.int .i64 (secs n:Int),.int .i64 q,.slice (some ⟨g,0,none⟩) 1 c0]:=by
 cases h with|a d1 =>
  have d1':DenC r (.node 1 3 (.one (i64v (secs n))) (.node 1 2 (.one (.v (.int .i64 q))) (.one (.v (.slice (some ⟨g,0,none⟩) 1 c0))))) _:=d1
  cases d1' with|node e1 e2 _ _=>cases e2 with|node e2 e3 _ _ =>
   rw [one_inv e1,one_inv e2,one_inv e3]
   rfl
theorem ndRes_den(r:List Loc)(x:VNode):Den r (ndRes x) (.tuple #[.agg x.vals.toArray,.agg #[.int .i64 0,.int .u8 0],.int .i64 0]) :=
 .t (.cons (.a (.q (.node _))) (.cons (.a (vs:=[.int .i64 0,.int .u8 0]) (.node (us:=[.int .i64 0]) (.one (.v _) rfl) (.one (.v _) rfl) rfl rfl)) (.cons (.v _) .nil)))
theorem disk_den(r:List Loc){n g c0:Nat}{q:Int}:Den r (.a (dskT (secs n) q (.slice (some ⟨g,0,none⟩) 1 c0))) (.agg #[.int .i64 (secs n:Int),.int .i64 q,.slice (some ⟨g,0,none⟩) 1 c0]) :=
 .a (vs:=[.int .i64 (secs n:Int),.int .i64 q,.slice (some ⟨g,0,none⟩) 1 c0]) (.node (us:=[.int .i64 (secs n:Int)]) (.one (.v _) rfl) (.node (us:=[.int .i64 q]) (.one (.v _) rfl) (.one (.v _) rfl) rfl rfl) rfl rfl)
theorem tree_obs{em:Nat→Nat→Bool}(h1:1≤n)(h20:n≤20)(hd:DskIs w g c0 L)(hL:DskHas n R B L)(hem:∀l j,l<hgt n→j<cnt n l→em l j=emR R n l j)
 (hs:IntKind.i64.wrap (e.tmod 2)=((bitN (B (num n (hgt n) 0)):Nat):Int)) (hdg:Sh.shaF (ndR n R (enF n R B) (hgt n) 0).bytes=dg) (hc:ChkOk n R (enF n R B)) :
 ∀ob∈trObs n em (fun k=>bitN (B k)) R (enF n R B) q (.slice (some ⟨g,0,none⟩) 1 c0) dg (.int .u64 e) m,ob.Holds (E0 Xt w):=by
 intro ob hob
 have hh2:=hgt_le n
 have hcr:=cnt_hgt h1 h20
 unfold trObs at hob
 rcases List.mem_cons.1 hob with rfl|hob
 ·refine obx_calls (E:=E0 Xt w) (enters (by kernel_rfl)) fun r vals w1 hp ha hm=>?_
  have hb:Below w.heap.size w w1:=hm.below
  cases ha with|cons d1 t=>cases t with|cons d2 t=>cases t with|cons d3 t =>
   cases t;cases d1
   rw [disk_inv d2]
   cases d3 with|a d3 =>
    refine (lroot_call (s:=bitN (B (num n (hgt n) 0))) h1 h20 (by omega) (by omega) (bitN_lt _) hs w1 hm.globs L (hd.keep hb) (hL _ _ (Nat.le_refl _) (by omega) (.inl rfl)) hdg (cellR_inv d3)).mono ?_
    rintro e' w' ⟨rfl,hb'⟩
    exact ⟨_,rfl,ndRes_den _ _,hb'⟩
 ·rcases List.mem_append.1 hob with hob|hob
  ·obtain ⟨p,hp,nx,hor⟩:=trOb_mem hob
   obtain ⟨hpl,hpj⟩:=mem_belowR hp
   have hchn:chN n p.1 p.2 (enF n R B)=ee n (enF n R B) p.1 p.2:=by unfold chN;rw [show 4*(p.2 / 4)+p.2%4=p.2 by omega]
   rcases hor with rfl|⟨he,rfl⟩
   ·unfold trSl
    refine obx_calls (E:=E0 Xt w) (enters (by kernel_rfl)) fun r vals w1 hp ha hm=>?_
    rw [hchn,ee_s (by omega) hpj] at ha
    have hpe:(Nat.blt (p.1+1) (hgt n)&&em (p.1+1) (p.2 / 4))=true→emR R n p.1 p.2=true:=by
     intro hh
     rw [Bool.and_eq_true,blt_iff,decide_eq_true_eq] at hh
     have hup:p.2 / 4<cnt n (p.1+1):=cnt_up hpj fun h=>by
      have:=hh.1
      unfold hgt at this
      have h0:p.1=0:=by omega
      rw [h0] at h
      rw [if_pos h] at this
      omega
     rw [hem _ _ hh.1 hup] at hh
     refine emR_iff.2 fun i hi hij=>emR_iff.1 hh.2 i hi ?_
     rw [Nat.pow_succ,←Nat.div_div_eq_div_mul,hij]
    rw [hem _ _ hpl hpj]
    cases hE:emR R n p.1 p.2 with
    |true =>
     have hz:vals=[.int .u8 0]:=by
      rw [hE] at ha
      cases hb0:(Nat.blt (p.1+1) (hgt n)&&em (p.1+1) (p.2 / 4))<;>rw [hb0] at ha<;>(cases ha with|cons d1 t=>cases t;cases d1;rfl)
     rw [hz]
     refine (rslot0_call w1 hm.globs).mono ?_
     rintro e' w' ⟨rfl,hb'⟩
     exact ⟨_,rfl,.t (.cons (.v _) (.cons (.v _) .nil)),hb'⟩
    |false =>
     have hb0:(Nat.blt (p.1+1) (hgt n)&&em (p.1+1) (p.2 / 4))=false:=by
      cases hb0:(Nat.blt (p.1+1) (hgt n)&&em (p.1+1) (p.2 / 4)) with
      |false=>rfl
      |true=>have:=hpe hb0;rw [hE] at this;cases this
     have hz:vals=[.int .u8 ((bitN (B (num n p.1 p.2))+1:Nat):Int)]:=by
      rw [hE,hb0] at ha
      cases ha with|cons d1 t=>cases t;cases d1;rfl
     rw [hz]
     refine (rslot_call (bitN_lt _) w1 hm.globs).mono ?_
     rintro e' w' ⟨rfl,hb'⟩
     exact ⟨_,rfl,.t (.cons (.v _) (.cons (.v _) .nil)),hb'⟩
   ·refine obx_calls (E:=E0 Xt w) (enters (by kernel_rfl)) fun r vals w1 hp ha hm=>?_
    have hb:Below w.heap.size w w1:=hm.below
    have he':emR R n p.1 p.2=false:=by rw [←hem _ _ hpl hpj];exact he
    cases ha with|cons d1 t=>cases t with|cons d2 t=>cases t with|cons d3 t=>cases t with|cons d4 t =>
     cases t;cases d1;cases d4
     rw [disk_inv d2]
     cases d3 with|a d3 =>
      cases d3
      refine (child_call (s:=bitN (B (num n p.1 p.2))) h1 h20 (by omega) hpl hpj (bitN_lt _) w1 hm.globs L (hd.keep hb) (hL _ _ (by omega) hpj (.inr he')) (by rw [ee_s (by omega) hpj,he'];rfl) (ee_dig (by omega) hpj he').symm).mono ?_
      rintro e' w' ⟨rfl,hb'⟩
      exact ⟨_,rfl,ndRes_den _ _,hb'⟩
  ·simp only [List.mem_cons,List.not_mem_nil,or_false] at hob
   rcases hob with rfl|rfl
   ·exact fun r us=>rowsE_ob h1 h20 hem r us
   ·exact chk_ob (E:=E0 Xt w) rfl h1 h20 hc
theorem tree_call(h1:1≤n)(h20:n≤20)(hg:GlobOk Xt w)(hd:DskIs w g c0 L)(hL:DskHas n R B L)
 (hs:IntKind.i64.wrap (e.tmod 2)=((bitN (B (num n (hgt n) 0)):Nat):Int)) (hdg:Sh.shaF (ndR n R (enF n R B) (hgt n) 0).bytes=dg) (hc:ChkOk n R (enF n R B)) {cs:List Value} (hcs:DenC [] (cellR dg (.int .u64 e) m) cs) :
 Calls Xt.P 6 #[.int .i64 (n:Int),.agg #[.int .i64 (secs n:Int),.int .i64 q,.slice (some ⟨g,0,none⟩) 1 c0],.agg cs.toArray] w fun e' w'=>∃p s:Nat,
  e'=.returned (.tuple #[.agg #[.int .i64 (n:Int),.slice (some ⟨p,0,none⟩) (tot n) (tot n)],.slice (some ⟨s,0,none⟩) (tot n) (tot n),.agg #[.int .i64 0,.int .u8 0],.int .i64 0])∧w.heap.size≤p∧w.heap.size≤s∧p≠s∧Blk w' p 67 (nodesV n R (enF n R B)).toArray∧Blk w' s 3 (nv .i64 (slotsR n R B)).toArray∧Below w.heap.size w w':=by
 obtain ⟨em,hem0⟩:∃em,em=emP n (patR n R):=⟨_,rfl⟩
 have hem:∀l j,l<hgt n→j<cnt n l→em l j=emR R n l j:=fun l j hl hj=>by rw [hem0];exact emP_eq hl hj
 have h:=all_of (tree_any n h1 h20 (fun k=>bitN (B k)) R (enF n R B) (bitN (B (num n (hgt n) 0))) q (.slice (some ⟨g,0,none⟩) 1 c0) dg (.int .u64 e) m) (mem_pats (k:=cnt n 0) (l:=patR n R) (by simp [patR]))
 rw [←hem0] at h
 unfold trGo trF trWant at h
 obtain ⟨y,hy,hy2⟩:=Option.map_eq_some_iff.1 h
 unfold trX at hy
 obtain ⟨y0,hy0,hy1⟩:=Option.map_eq_some_iff.1 hy
 unfold trP at hy0
 obtain ⟨y3,hdr,hy4⟩:=Option.map_eq_some_iff.1 hy0
 subst hy4
 subst hy1
 simp only [Prod.mk.injEq] at hy2
 obtain ⟨⟨⟨hfin,h5⟩,h6⟩,hobs,ho2⟩:=hy2
 obtain ⟨⟨res,st⟩,hfin,heq⟩:=Option.map_eq_some_iff.1 hfin
 simp only at heq
 subst heq
 have hall:=tree_obs (n:=n) (R:=R) (B:=B) (q:=q) (e:=e) (m:=m) (w:=w) (L:=L) (em:=em) h1 h20 hd hL hem hs hdg hc
 rw [←hobs] at hall
 refine (seg_call (E:=E0 Xt w) (r:=[]) (vals:=[.int .i64 (n:Int),.agg #[.int .i64 (secs n:Int),.int .i64 q,.slice (some ⟨g,0,none⟩) 1 c0],.agg cs.toArray]) (g:=6) (args:=rootA n q (.slice (some ⟨g,0,none⟩) 1 c0) dg (.int .u64 e) m) (fun Q0 h0 hq=>?_) hfin ?_ (Mem.start Xt w hg)).mono ?_
 ·refine evRun_ok (S:=S0) (E:=E0 Xt w) hmx HT_ok h0 12 _ (fun ob hob=>hall ob (List.mem_append_left _ hob)) (evDraw_ok (E:=E0 Xt w) (obs:=y3.2) (q:=y3.1) hmx HT_ok h0 hdr ?_ (evRun_ok (S:=S0) (E:=E0 Xt w) hmx HT_ok h0 13 _ (fun ob hob=>hall ob (List.mem_append_right _ hob)) hq))
  intro ob hob
  have hob':=hob
  rw [ho2] at hob'
  simp only [List.mem_cons,List.not_mem_nil,or_false] at hob'
  subst hob'
  intro E hE hw
  obtain ⟨X,w0,wU,U,RR⟩:=E
  simp only at hE hw
  subst hE
  subst hw
  refine obx_calls (enters (by kernel_rfl)) fun r vals w1 hp ha hm=>?_
  cases ha with|cons d1 t=>cases t;cases d1 with|a d1 =>
   refine (slot_call hs (cellR_inv d1) w1 hm.globs).mono ?_
   rintro e' w' ⟨rfl,hb'⟩
   exact ⟨_,rfl,.v _,hb'⟩
 ·exact .cons (.v _) (.cons (disk_den _) (.cons (.a hcs) .nil))
 ·rintro e' w' ⟨qq,v,rfl,hdv,hm⟩
  have h5':st.hp.get 5=some ⟨67,rowsT n R (enF n R B),0⟩:=by
   have:=h5
   rw [show (evRun S0 HT Xt 13 (trE n em (fun k=>bitN (B k)) R (enF n R B)++endT n R (enF n R B)) y3.1).1.st.hp=st.hp from by rw [finP_st hfin]] at this
   exact this
  have h6':st.hp.get 6=some ⟨3,int3 (slotsR n R B),0⟩:=by
   have:=h6
   rw [show (evRun S0 HT Xt 13 (trE n em (fun k=>bitN (B k)) R (enF n R B)++endT n R (enF n R B)) y3.1).1.st.hp=st.hp from by rw [finP_st hfin],slotsT_eq hem] at this
   exact this
  obtain ⟨L5,hL5,v5,d5,k5⟩:=hm.blk 5 _ h5'
  obtain ⟨L6,hL6,v6,d6,k6⟩:=hm.blk 6 _ h6'
  obtain rfl:=rowsT_inv d5
  have e6:v6=nv .i64 (slotsR n R B):=int3_inv d6
  subst e6
  have k5':w.heap.size≤L5.g∧L5.b=0∧Blk w' L5.g 67 (nodesV n R (enF n R B)).toArray:=by
   rcases k5 with ⟨_,a1,a2,a3⟩|⟨a,_⟩|⟨a,_⟩
   ·exact ⟨a1,a2,a3⟩
   ·cases a
   ·exact absurd a (by show ¬ 2≤0;decide)
  have k6':w.heap.size≤L6.g∧L6.b=0∧Blk w' L6.g 3 (nv .i64 (slotsR n R B)).toArray:=by
   rcases k6 with ⟨_,a1,a2,a3⟩|⟨a,_⟩|⟨a,_⟩
   ·exact ⟨a1,a2,a3⟩
   ·cases a
   ·exact absurd a (by show ¬ 2≤0;decide)
  refine ⟨L5.g,L6.g,?_,k5'.1,k6'.1,hm.apart h5' h6' (by decide) (by show ¬ 0=2;decide) hL5 hL6,k5'.2.2,k6'.2.2,hm.below⟩
  cases hdv with|t d=>cases d with|cons d1 d=>cases d with|cons d2 d=>cases d with|cons d3 d=>cases d with|cons d4 d =>
   cases d;cases d4
   cases d2 with|s hq6 =>
    rw [hL6] at hq6
    cases hq6
    cases d1 with|a d1=>cases d1 with|node e1 e2 _ _ =>
     rw [one_inv e1]
     cases e2 with|one e2 _=>cases e2 with|s hq5 =>
      rw [hL5] at hq5
      cases hq5
      cases d3 with|a d3=>cases d3 with|node f1 f2 _ _ =>
       rw [one_inv f1,one_inv f2,k5'.2.1,k6'.2.1]
       rfl
end
end Go.Proofs.YtjboelhcieepkaaGreatDoor
namespace Go.Proofs.YtjboelhcieepkaaGreatDoor
set_option maxRecDepth 16384
open Go.RowKit
noncomputable def frB(ns:List Nat):Option HB→Option HB
 |some b=>bif Nat.blt b.k 5 || Nat.beq b.k 7 then some ⟨b.T,renP ns b.cs,2⟩ else none
 |none=>none
noncomputable def frL(ns:List Nat)(bs:List (Option HB))(j:Nat):List (Nat×Option HB):=List.rec (motive:=fun _=>Nat→List (Nat×Option HB)) (fun _=>[]) (fun b _ ih j=>(j,frB ns b)::ih (Nat.succ j)) bs j
noncomputable def frH(ns:List Nat)(bs:List (Option HB)):Tr:=hpOf (frL ns bs 0)
theorem frL_mem{ns:List Nat}:∀{bs:List (Option HB)} {j:Nat} {x:Nat×Option HB},x∈frL ns bs j→∃m o,x=(j+m,frB ns o)∧bs[m]?=some o
 |[],_,_,h=>by simp [frL] at h
 |b::bs,j,x,h=>by
  have e:frL ns (b::bs) j=(j,frB ns b)::frL ns bs (j+1):=rfl
  rw [e,List.mem_cons] at h
  rcases h with rfl|h
  ·exact ⟨0,b,rfl,rfl⟩
  ·obtain ⟨m,o,rfl,h2⟩:=frL_mem h
   exact ⟨m+1,o,by rw [show j+1+m=j+(m+1) by omega],by simpa using h2⟩
theorem frG{ns:List Nat}{bs:List (Option HB)}{m:Nat}{b:HB}(h:(frH ns bs).get m=some b):∃b0,bs[m]?=some (some b0)∧b=⟨b0.T,renP ns b0.cs,2⟩∧b0.k≠8:=by
 unfold frH at h
 rw [hpOf_get] at h
 cases hf:(frL ns bs 0).find? fun x=>x.1==m with
 |none=>rw [hf] at h;cases h
 |some x =>
  rw [hf] at h
  have h1:=List.find?_some hf
  simp only [beq_iff_eq] at h1
  obtain ⟨i,o,rfl,h2⟩:=frL_mem (List.mem_of_find?_eq_some hf)
  simp only [Nat.zero_add] at h1
  subst h1
  simp only [Option.map_some,Option.getD_some] at h
  unfold frB at h
  split at h
  ·rename_i b0
   cases hq:Nat.blt b0.k 5 || Nat.beq b0.k 7 with
   |false=>rw [hq] at h;cases h
   |true =>
    rw [hq,cond_true] at h
    cases h
    refine ⟨b0,h2,rfl,fun h8=>?_⟩
    rw [h8] at hq
    cases hq
  ·cases h
section
variable {E:Env}{r:List Loc}{hp:Tr}{nx:Nat}{w:World}
theorem Mem.fr(hm:Mem E r hp nx w)(hE:E.X=Xt){ns:List Nat}{bs:List (Option HB)}(hbs:(ns.map fun n=>nrmB (hp.get n))=bs):Mem (E0 Xt w) (renR r ns) (frH ns bs) ns.length w:=by
 refine ⟨by simp [renR],fun m b hb=>?_,fun n m b c L M hb hc hne hk=>?_,Below.refl _ _,fun k h=>h.elim,fun n b L hb hk=>?_,Nat.le_refl _,fun n b L hb h2 h5 hL=>?_,fun k h=>h.elim,fun g cs hg=>?_⟩
 ·obtain ⟨b0,h1,rfl,h8⟩:=frG hb
  rw [←hbs,List.getElem?_map] at h1
  obtain ⟨n,hn,hnb⟩:=Option.map_eq_some_iff.1 h1
  obtain ⟨b1,hb1,e1⟩:∃b1,hp.get n=some b1∧nrmH b1=b0:=by
   cases h:hp.get n with
   |none=>rw [h] at hnb;cases hnb
   |some b1=>rw [h] at hnb;exact ⟨b1,rfl,Option.some.inj hnb⟩
  obtain ⟨L,hL,hB⟩:=hm.blk n b1 hb1
  have hB':=nrmH_ok hB
  rw [e1] at hB'
  obtain ⟨vs,hd,hcell⟩:=hB'.cells
  refine ⟨L,?_,vs,renP_ok hd,.inr (.inr ⟨Nat.le_refl 2,hB'.lt,hcell,fun h=>absurd h (by show ¬ 2=5;decide),fun h=>absurd h (by show ¬ 2=6;decide),fun h=>absurd h (by show ¬ 5≤2;decide),fun h=>absurd h (by show ¬ 2=8;decide)⟩)⟩
  unfold renR
  rw [List.getElem?_map,hn]
  simp [hL]
 ·obtain ⟨b0,_,rfl,_⟩:=frG hb
  exact absurd rfl hk
 ·obtain ⟨b0,_,rfl,_⟩:=frG hb
  exact absurd hk (by show ¬ (2<2∨5≤2);decide)
 ·refine .inl ?_
  obtain ⟨b0,h1,rfl,h8⟩:=frG hb
  rw [←hbs,List.getElem?_map] at h1
  obtain ⟨n',hn,hnb⟩:=Option.map_eq_some_iff.1 h1
  obtain ⟨b1,hb1⟩:∃b1,hp.get n'=some b1:=by
   cases h:hp.get n' with
   |none=>rw [h] at hnb;cases hnb
   |some b1=>exact ⟨b1,rfl⟩
  obtain ⟨L2,hL2,hB⟩:=hm.blk n' b1 hb1
  unfold renR at hL
  rw [List.getElem?_map,hn] at hL
  simp [hL2] at hL
  subst hL
  exact hB.lt
 ·rw [←hE] at hg
  obtain ⟨vs,h1,h2,h3⟩:=hm.globs g cs hg
  exact ⟨vs,h1,h2,h3⟩
theorem ren2L_ok{ns:List Nat}:∀{xs:List SV} {vs:List Value},DenL r xs vs→DenL (renR r ns) (xs.map (ren2 ns)) vs
 |[],_,h=>by cases h;exact .nil
 |_::_,_,h=>by cases h with|cons h t=>exact .cons (ren2_ok h) (ren2L_ok t)
end
theorem ob_fr{E:Env}{g:FuncId}{args:List SV}{ns:List Nat}{bs:List (Option HB)}{nx:Nat}{y:Value}(hE:E.X=Xt)(hent:Enters Xt.P g)
 (h:∀(r:List Loc) (vals:List Value) (w:World),GlobOk Xt w→DenL r (args.map (ren2 ns)) vals→Mem (E0 Xt w) r (frH ns bs) ns.length w→Calls Xt.P g vals.toArray w fun e w'=>e=.returned y∧Below w.heap.size w w'):CallObX E g args ns bs [] nx (.v y) []:=by
 intro r vals w1 hp ha hm hbs
 rw [hE]
 refine ⟨fun w'=>hent _ w',?_⟩
 refine (h _ vals w1 (hE▸hm.globs) (ren2L_ok ha) (hm.fr hE hbs)).mono ?_
 rintro e w' ⟨rfl,hb⟩
 exact ⟨[],_,rfl,.v _,by have:=hm.grow hb;rw [List.append_nil];exact this⟩
end Go.Proofs.YtjboelhcieepkaaGreatDoor
namespace Go.Proofs.YtjboelhcieepkaaGreatDoor
set_option maxRecDepth 16384
open Go.RowKit
noncomputable def usX(x:VNode)(p:List Bool):Pos×List Ob:=evRun ⟨[],[20],0⟩ H4 Xt 12 (p.map .g) (evPos Xt 215 [.a (.q (.node x))] .e 0)
noncomputable def usRun(x:VNode)(p:List Bool):Option SV×List Ob:=((finP Xt 215 (usX x p).1).map (·.1),(usX x p).2)
def usN(p:List Bool):Nat:=p.foldl (fun n b=>bif b then n+1 else n) 0
theorem us_all(ix:Nat)(a b c d:VRec)(h:ix≤7):(allP 4).map (usRun (.leaf ix a b c d h))=(allP 4).map fun p=>(some (i64v (usN p)),[.t (neB a) (p.getD 0 false),.t (neB b) (p.getD 1 false),.t (neB c) (p.getD 2 false),.t (neB d) (p.getD 3 false)]):=by kernel_rfl
def usP(a b c d:VRec):List Bool:=[neB a,neB b,neB c,neB d]
theorem used_call(ix:Nat)(a b c d:VRec)(h:ix≤7)(w:World)(hg:GlobOk Xt w):Calls Xt.P 215 #[.agg (VNode.leaf ix a b c d h).vals.toArray] w fun e w'=>e=.returned (.int .i64 ((usN (usP a b c d):Nat):Int))∧Below w.heap.size w w':=by
 have h0:=all_of (us_all ix a b c d h) (mem_allP (k:=4) (l:=usP a b c d) rfl)
 unfold usRun at h0
 simp only [Prod.mk.injEq] at h0
 obtain ⟨h1,h2⟩:=h0
 obtain ⟨⟨res,st⟩,h3,h4⟩:=Option.map_eq_some_iff.1 h1
 simp only at h4
 subst h4
 refine (evCall_ok (E:=E0 Xt w) (r:=[]) (vals:=[.agg (VNode.leaf ix a b c d h).vals.toArray]) hmx H4_ok h3 ?_ (.cons (.a (.q (.node (.leaf ix a b c d h)))) .nil) (Mem.start Xt w hg)).mono ?_
 ·intro ob hob
  have hob':ob∈(usX (.leaf ix a b c d h) (usP a b c d)).2:=hob
  rw [h2] at hob'
  simp only [List.mem_cons,List.not_mem_nil,or_false] at hob'
  rcases hob' with rfl|rfl|rfl|rfl<;>rfl
 ·rintro e w' ⟨q,v,rfl,hd,hm⟩
  cases hd
  exact ⟨rfl,hm.below⟩
theorem usN_zero{a b c d:VRec}:usN (usP a b c d)=0↔a.s=0∧b.s=0∧c.s=0∧d.s=0:=by
 unfold usP
 simp only [neB_eq,beq_iff]
 by_cases ha:a.s=0<;>by_cases hb:b.s=0<;>by_cases hc:c.s=0<;>by_cases hd:d.s=0<;>simp [usN,ha,hb,hc,hd]
noncomputable def tabJ:List (FuncId×Leaf):=stops [279,215] tab4
noncomputable def HJ:Hk:=hkD Xt (leafTab tabJ) 14 6
theorem HJ_ok:HkOk Xt HJ:=hkT_ok hmx (stops_ok tab4_ok) 6
def cntsL(n:Nat):List Nat:=(List.range (hgt n+1)).map (cnt n)
noncomputable def layR(n nC nF:Nat):Rp SV:=packP [.one (i64v n),.one (.w nC (hgt n+1)),.one (.w nF (hgt n+1))]
noncomputable def layQ(n:Nat):Rp SV:=packP [.one (i64v n),.one (.w 3 (hgt n+1)),.one .u]
noncomputable def emF:SV:=.f (.func 279) [] [.p 0 0,.p 1 0,.p 2 0]
noncomputable def hpJ(n c:Nat)(R:Nat→VRec)(Ee:Nat→VEnt):Tr:=hpOf [(0,some ⟨42,.one (.s 4 0 (tot n) c),2⟩),(1,some ⟨236,layQ n,2⟩),(2,some ⟨368,.one emF,2⟩),(3,some ⟨3,int3 (cntsL n),2⟩),(4,some ⟨67,rowsT n R Ee,2⟩)]
noncomputable def argJ(l j:Nat):List SV:=[i64v l,i64v j,.p 0 0,.p 1 0,.p 2 0]
noncomputable def jX(n c:Nat)(R:Nat→VRec)(Ee:Nat→VEnt)(l j:Nat)(es:List Ev):Pos×List Ob:=evRun S0 HJ Xt 12 es (evPos Xt 279 (argJ l j) (hpJ n c R Ee) 5)
noncomputable def jRun(n c:Nat)(R:Nat→VRec)(Ee:Nat→VEnt)(l j:Nat)(es:List Ev):Option SV×List Ob:=((finP Xt 279 (jX n c R Ee l j es).1).map (·.1),(jX n c R Ee l j es).2)
noncomputable def usV(V:Nat→Nat)(j:Nat)(e:Bool):SV:=i64v (bif e then 0 else V j+1)
noncomputable def j0Run(n c:Nat)(R:Nat→VRec)(Ee:Nat→VEnt)(V:Nat→Nat)(d:Nat×Bool):Option SV×List Ob:=jRun n c R Ee 0 d.1 [.c [] (fun _=>usV V d.1 d.2) []]
noncomputable def j0Exp(n:Nat)(R:Nat→VRec)(Ee:Nat→VEnt)(V:Nat→Nat)(d:Nat×Bool):Option SV×List Ob:=(some (.v (.bool d.2)),[.c 215 [.a (.q (.node (ndR n R Ee 0 d.1)))] [] [] 5 (usV V d.1 d.2) []])
def j0Dom(n:Nat):List (Nat×Bool):=(List.range (cnt n 0)).flatMap fun j=>[(j,true),(j,false)]
def J0P(n:Nat):Prop:=∀(c:Nat) (R:Nat→VRec) (Ee:Nat→VEnt) (V:Nat→Nat),(j0Dom n).map (j0Run n c R Ee V)=(j0Dom n).map (j0Exp n R Ee V)
noncomputable def bsJ(n c:Nat)(R:Nat→VRec)(Ee:Nat→VEnt):List (Option HB):=[some ⟨42,.one (.s 4 0 (tot n) c),2⟩,some ⟨236,layQ n,2⟩,some ⟨368,.one emF,2⟩,some ⟨3,int3 (cntsL n),2⟩,some ⟨67,rowsT n R Ee,2⟩]
def n5:List Nat:=[0,1,2,3,4]
noncomputable def evJ(b:Bool):Ev:=.c n5 (fun _=>.v (.bool b)) []
noncomputable def j1Run(n c:Nat)(R:Nat→VRec)(Ee:Nat→VEnt)(d:Nat×Nat):Option SV×List Ob:=jRun n c R Ee 1 d.1 (List.replicate d.2 (evJ true)++bif Nat.beq d.2 (prts n 1 d.1) then [] else [evJ false])
noncomputable def obJ(n c:Nat)(R:Nat→VRec)(Ee:Nat→VEnt)(k:Nat)(b:Bool):Ob:=.c 279 (argJ 0 k) n5 (bsJ n c R Ee) 5 (.v (.bool b)) []
noncomputable def j1Exp(n c:Nat)(R:Nat→VRec)(Ee:Nat→VEnt)(d:Nat×Nat):Option SV×List Ob:=(some (.v (.bool (Nat.beq d.2 (prts n 1 d.1)))),((List.range d.2).map fun k=>obJ n c R Ee (4*d.1+k) true)++bif Nat.beq d.2 (prts n 1 d.1) then [] else [obJ n c R Ee (4*d.1+d.2) false])
def j1Dom(n:Nat):List (Nat×Nat):=bif Nat.blt (hgt n) 2 then [] else (List.range (cnt n 1)).flatMap fun j=>(List.range (prts n 1 j+1)).map fun f=>(j,f)
def J1P(n:Nat):Prop:=∀(c:Nat) (R:Nat→VRec) (Ee:Nat→VEnt),(j1Dom n).map (j1Run n c R Ee)=(j1Dom n).map (j1Exp n c R Ee)
def fstL(n:Nat):List Nat:=(List.range (hgt n+1)).map fun l=>num n l 0
noncomputable def treR(n c:Nat):Rp SV:=.node 1 2 (.one (i64v n)) (.one (.s 0 0 (tot n) c))
noncomputable def hpC(n:Nat)(R:Nat→VRec)(Ee:Nat→VEnt):Tr:=hpOf [(0,some ⟨67,rowsT n R Ee,2⟩),(1,some ⟨3,int3 (cntsL n),2⟩),(2,some ⟨3,int3 (fstL n),2⟩)]
noncomputable def ckA(n c:Nat):List SV:=[.a (layR n 1 2),.a (treR n c)]
noncomputable def ckP(n c:Nat)(R:Nat→VRec)(Ee:Nat→VEnt):Pos:=runE S0 HJ Xt 14 (evPos Xt 186 (ckA n c) (hpC n R Ee) 3)
noncomputable def tbJ(x:Bool):List Orc:=[⟨279,[6,5,7,1,0],[],fun _=>.v (.bool x),[]⟩]
def chL(n:Nat):List (Nat×Nat):=(List.range (hgt n)).flatMap fun l=>(List.range (cnt n l)).map fun j=>(l,j)
noncomputable def emF2:SV:=.f (.func 279) [] [.p 6 0,.p 5 0,.p 7 0]
noncomputable def bsC(n c:Nat)(R:Nat→VRec)(Ee:Nat→VEnt):List (Option HB):=[some ⟨42,.one (.s 0 0 (tot n) c),0⟩,some ⟨236,layR n 1 2,0⟩,some ⟨368,.one emF2,0⟩,some ⟨3,int3 (cntsL n),2⟩,some ⟨67,rowsT n R Ee,2⟩]
def parN(n:Nat)(p:Nat×Nat):Nat:=num n (p.1+1) (p.2 / 4)
def nxC(n:Nat)(p:Nat×Nat):Nat:=8+(2*(parN n p+1)+3*(num n p.1 p.2+1))
def b10C(n:Nat)(p:Nat×Nat):Nat:=9+(2*parN n p+3*num n p.1 (4*(p.2 / 4)))
def lsC:List Nat:=[2,3,4,5,6,7,8,9,10,11,12,13,20,21,22,27,28]
def lhC(n:Nat)(p:Nat×Nat):List Nat:=[0,1,2,3,4,5,6,7,b10C n p,nxC n p-3,nxC n p-1]
def dirs18:List Dir:=[.r,.r,.l,.r,.b,.b,.r,.r,.l,.b,.r,.r,.b,.b,.r,.r,.l,.b,.r,.r,.r,.r,.r,.r,.b,.b,.r,.l,.b,.r,.r,.l]
noncomputable def PC(n c:Nat)(R:Nat→VRec)(Ee:Nat→VEnt)(p:Nat×Nat):Pos :=
 posAt 186 dirs18 [(2,.p 3 0),(3,.p 4 0),(4,.v .nilIface),(5,emF2),(6,i64v (p.1+1)),(7,i64v (cnt n (p.1+1))),(8,i64v (p.2 / 4)),(9,i64v (parN n p)),(10,.p (b10C n p) 0),(11,i64v p.2),(12,.p (nxC n p-3) 0),(13,.p (nxC n p-1) 0),(20,.w 1 (hgt n+1)),(21,i64v (hgt n+1)),(22,i64v (p.1+1)),(27,i64v (cnt n (p.1+1))),(28,i64v (p.2 / 4))]
  [(0,some ⟨67,rowsT n R Ee,2⟩),(1,some ⟨3,int3 (cntsL n),2⟩),(2,some ⟨3,int3 (fstL n),2⟩),(3,some ⟨236,layR n 1 2,0⟩),(4,some ⟨44,treR n c,0⟩),(5,some ⟨236,layR n 1 2,0⟩),(6,some ⟨42,.one (.s 0 0 (tot n) c),0⟩),(7,some ⟨368,.one emF2,0⟩),
   (b10C n p,some ⟨67,.q (.node (ndR n R Ee (p.1+1) (p.2 / 4))),0⟩),(nxC n p-3,some ⟨64,.q (.ent (ee n Ee p.1 p.2)),0⟩),(nxC n p-1,some ⟨32,.arr .u8 32 (Sh.shaF (ndR n R Ee p.1 p.2).bytes),0⟩)] (nxC n p)
noncomputable def obCk(n c:Nat)(R:Nat→VRec)(Ee:Nat→VEnt)(p:Nat×Nat)(e:Bool):ObY:=.c ⟨279,[i64v p.1,i64v p.2,.p 6 0,.p 5 0,.p 7 0],[6,5,7,1,0],bsC n c R Ee,[],nxC n p,.v (.bool e),[]⟩
noncomputable def obsC(n c:Nat)(R:Nat→VRec)(Ee:Nat→VEnt)(p:Nat×Nat)(e:Bool):List ObY:=(bif e then [] else [.t (!(decide ((ee n Ee p.1 p.2).dig=Sh.shaF (ndR n R Ee p.1 p.2).bytes)&&true)) false])++[.t (!(((ee n Ee p.1 p.2).s:Int)==0)) (!e),obCk n c R Ee p e,.t (decide (((ee n Ee p.1 p.2).s:Int)=0)) e]
noncomputable def ckD(e:Bool)(p:Pos):Option (Pos×List ObY):=evDraw Xt (leafTab tabJ) 14 6 (tbJ e) [(100,e),(110,!e),(115,false)] p
def chK(n k:Nat):Nat×Nat:=(chL n).getD k (0,0)
noncomputable def ckRun(n c:Nat)(R:Nat→VRec)(Ee:Nat→VEnt)(k:Nat)(e:Bool):Option (Pos×List ObY):=(ckD e (PC n c R Ee (chK n k))).map fun y=>(weak lsC (lhC n (chK n (k+1))) (runE S0 HJ Xt 13 y.1),y.2)
noncomputable def ckExp(n c:Nat)(R:Nat→VRec)(Ee:Nat→VEnt)(k:Nat)(e:Bool):Option (Pos×List ObY):=some (PC n c R Ee (chK n (k+1)),obsC n c R Ee (chK n k) e)
noncomputable def ckEnd(n c:Nat)(R:Nat→VRec)(Ee:Nat→VEnt)(k:Nat)(e:Bool):Option (Option SV×List ObY):=(ckD e (PC n c R Ee (chK n k))).map fun y=>((finP Xt 186 (runE S0 HJ Xt 13 y.1)).map (·.1),y.2)
noncomputable def ckEnX(n c:Nat)(R:Nat→VRec)(Ee:Nat→VEnt)(k:Nat)(e:Bool):Option (Option SV×List ObY):=some (some (.v .nilIface),obsC n c R Ee (chK n k) e)
def Ck0(n:Nat):Prop:=∀(c:Nat) (R:Nat→VRec) (Ee:Nat→VEnt),(finP Xt 186 (ckP n c R Ee)).map (·.1)=some (.v .nilIface)
def CkP(n:Nat):Prop:=∀(c:Nat) (R:Nat→VRec) (Ee:Nat→VEnt),weak lsC (lhC n (chK n 0)) (ckP n c R Ee)=PC n c R Ee (chK n 0)∧(List.range ((chL n).length-1)).map (fun k=>[true,false].map (ckRun n c R Ee k))=(List.range ((chL n).length-1)).map (fun k=>[true,false].map (ckExp n c R Ee k))∧[true,false].map (ckEnd n c R Ee ((chL n).length-1))=[true,false].map (ckEnX n c R Ee ((chL n).length-1))
noncomputable def tabU:List (FuncId×Leaf):=stops [186] tab4
noncomputable def HU:Hk:=hkD Xt (leafTab tabU) 14 6
theorem HU_ok:HkOk Xt HU:=hkT_ok hmx (stops_ok tab4_ok) 6
noncomputable def vaP(n c:Nat)(R:Nat→VRec)(Ee:Nat→VEnt):Pos:=runE S0 HU Xt 14 (evPos Xt 50 [.a (treR n c)] (hpOf [(0,some ⟨67,rowsT n R Ee,2⟩)]) 1)
def nC(n:Nat):Nat:=7+4*hgt n
def nF(n:Nat):Nat:=9+4*hgt n
noncomputable def tbU(n:Nat):List Orc:=[⟨186,[0,nC n,nF n],[],fun _=>.v .nilIface,[]⟩]
noncomputable def vaRun(n c:Nat)(R:Nat→VRec)(Ee:Nat→VEnt):Option (Option SV×List ObY):=(evDraw Xt (leafTab tabU) 14 6 (tbU n) [] (vaP n c R Ee)).map fun y=>((finP Xt 50 (runE S0 HU Xt 12 y.1)).map (·.1),y.2)
noncomputable def bsV(n:Nat)(R:Nat→VRec)(Ee:Nat→VEnt):List (Option HB):=[some ⟨67,rowsT n R Ee,2⟩,some ⟨3,int3 (cntsL n),1⟩,some ⟨3,int3 (fstL n),1⟩]
noncomputable def vaExp(n c:Nat)(R:Nat→VRec)(Ee:Nat→VEnt):Option (Option SV×List ObY):=some (some ok0,[.c ⟨186,[.a (layR n (nC n) (nF n)),.a (treR n c)],[0,nC n,nF n],bsV n R Ee,[],12+4*hgt n,.v .nilIface,[]⟩])
def FrP(n:Nat):Prop:=∀(c:Nat) (R:Nat→VRec) (Ee:Nat→VEnt),frH n5 (bsJ n c R Ee)=hpJ n c R Ee∧frH [6,5,7,1,0] (bsC n c R Ee)=hpJ n c R Ee∧frH [0,nC n,nF n] (bsV n R Ee)=hpC n R Ee∧[SV.a (layR n (nC n) (nF n)),.a (treR n c)].map (ren2 [0,nC n,nF n])=ckA n c
def VaP(n:Nat):Prop:=∀(c:Nat) (R:Nat→VRec) (Ee:Nat→VEnt),vaRun n c R Ee=vaExp n c R Ee
end Go.Proofs.YtjboelhcieepkaaGreatDoor
