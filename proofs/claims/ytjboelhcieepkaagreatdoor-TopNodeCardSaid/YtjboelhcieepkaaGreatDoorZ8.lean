/-
  Drawn regions by the symbolic machine: their blocks that are only read are locked ahead.
-/
import Derived.Test.YtjboelhcieepkaaGreatDoorZ7
namespace Go.Proofs.YtjboelhcieepkaaGreatDoor
set_option maxRecDepth 16384
open Go.RowKit
variable {df:List Deferred}
def isVs:List SV→Bool
 |[]=>true
 | .v _::l=>isVs l
 |_=>false
noncomputable def hintC(hl:FuncId→Option (List SV→Tr→Nat→Option (SV×St)))(hp:Tr)(nx:Nat)(o:Oper)(ts:Sl):Sl:=match o.op with
 | .call c=>(match c.callee with
  | .value f=>(match ev ts f with
   | .f (.func g) [] []=>(match hl g with
    |some L=>bif isVs (c.args.toList.map (ev ts)) then (match L (c.args.toList.map (ev ts)) hp nx with
     |some (y,_)=>putS ts o.dst y
     |none=>ts) else ts
    |none=>ts)
   |_=>ts)
  |_=>ts)
 |_=>ts
noncomputable def hintS(hl:FuncId→Option (List SV→Tr→Nat→Option (SV×St)))(X:Ctx)(hp:Tr)(nx:Nat):List Oper→Nat→Sl→List (Nat×Nat)→List (Nat×Nat)
 |[],_,_,ns=>ns
 |o::os,i,ts,ns=>bif pureOp o.op then
  (match opS X ⟨ts,hp,nx⟩ o.op o.type with
  |some r=>hintS hl X hp nx os (i+1) (putS ts o.dst r.1) (match o.op with
   | .load _ x=>(match ev ts x with
    | .p n _=>(i,n)::ns
    |_=>ns)
   | .convert _ _ x=>(match ev ts x with
    | .s n _ _ _=>(i,n)::ns
    | .w n _=>(i,n)::ns
    |_=>ns)
   |_=>ns)
  |none=>hintS hl X hp nx os (i+1) ts ns)
  else hintS hl X hp nx os (i+1) (hintC hl hp nx o ts) ns
def lookN:List (Nat×Nat)→Nat→Option Nat
 |[],_=>none
 |x::l,k=>bif Nat.beq x.1 k then some x.2 else lookN l k
noncomputable def hpFof(tab:List (Nat×Nat))(hp:Tr)(i:Nat):Tr:=match lookN tab i with
 |some n=>(match hp.get n with
  |some b=>bif Nat.blt b.k 5 then Tre.e.put n b else .e
  |none=>.e)
 |none=>.e
noncomputable def hideS:List Oper→Sl→Sl
 |[],ts=>ts
 |o::os,ts=>hideS os (bif allocOp o.op then putS ts o.dst .u else ts)
noncomputable def lockL:List (Nat×Nat)→Tr→List (Nat×HB)→Tr×List (Nat×HB)
 |[],hp,lk=>(hp,lk)
 |x::l,hp,lk=>match hp.get x.2 with
  |some b=>bif Nat.blt b.k 2 then lockL l (hp.put x.2 ⟨b.T,b.cs,3⟩) ((x.2,b)::lk) else lockL l hp lk
  |none=>lockL l hp lk
noncomputable def relL(p:Nat→Bool):List (Nat×HB)→Tr→Option (Tr×List (Nat×HB))
 |[],hp=>some (hp,[])
 |x::l,hp=>match relL p l hp with
  |some (hp,l')=>bif p x.1 then (match hp.get x.1 with
   |some c=>bif Nat.beq c.k 3 then some (hp.put x.1 x.2,l') else none
   |none=>none) else some (hp,x::l')
  |none=>none
noncomputable def stopN(ops:Array Oper)(tab:List (Nat×Nat))(lk:List (Nat×HB))(c:Nat):Bool:=lk.any fun x=>cN ops tab x.1 c
noncomputable def phases(X:Ctx)(rec:FuncId→List SV→Tr→Nat→Option (SV×St))(ops:Array Oper)(tab:List (Nat×Nat))(hpF:Nat→Tr):Nat→List (Nat×HB)→Array Bool→St→Option St
 |0,_,_,_=>none
 |f+1,lk,L,st=>match anyS X rec ops (stopN ops tab lk) hpF (ops.size+1) L st.ts st.hp st.nx with
  |none=>none
  |some (L1,st1)=>match Region.ready .any ops L1 with
   |[]=>(match relL (fun _=>true) lk st1.hp with
    |some (hp,_)=>some ⟨st1.ts,hp,st1.nx⟩
    |none=>none)
   |c::_=>(match relL (fun n=>cN ops tab n c) lk st1.hp with
    |some (hp,lk')=>phases X rec ops tab hpF f lk' L1 ⟨st1.ts,hp,st1.nx⟩
    |none=>none)
def selfOk(ops:Array Oper):Bool:=ops.toList.all fun o=>!allocOp o.op || (match o.dst with
 |some d=>!(o.looksAt ops).contains d
 |none=>true)
noncomputable def regGo1(X:Ctx)(rec:FuncId→List SV→Tr→Nat→Option (SV×St))(ops:Array Oper)(st:St)(tab:List (Nat×Nat)):Option St:=match lockL tab st.hp [] with
 |(hp,lk)=>phases X rec ops tab (hpFof tab st.hp) (lk.length+2) lk (Array.replicate ops.size false) ⟨hideS ops.toList st.ts,hp,st.nx⟩
noncomputable def regS(hl:FuncId→Option (List SV→Tr→Nat→Option (SV×St)))(X:Ctx)(rec:FuncId→List SV→Tr→Nat→Option (SV×St))(ops:Array Oper)(st:St):Option St :=
 bif Region.noSelect ops&&(selfOk ops&&ops.toList.all noDefer) then regGo1 X rec ops st (hintS hl X st.hp st.nx ops.toList 0 st.ts []) else none
def Env.lock(E:Env)(w:World)(g:Nat):Env:={ E with wU:=w,U:=fun k=>E.U k∨k=g,R:=fun k=>E.R k∨k=g }
section
variable {E:Env}{r:List Loc}{hp:Tr}{nx:Nat}{w w':World}{n:Nat}{b:HB}{M:Loc}
theorem Mem.lock(hm:Mem E r hp nx w)(hn:hp.get n=some b)(hk:b.k<2)(hM:r[n]?=some M):Mem (E.lock w M.g) r (hp.put n ⟨b.T,b.cs,3⟩) nx w:=by
 have hlt:M.g<w.heap.size:=by
  obtain ⟨M',hM',hb⟩:=hm.blk n b hn
  rw [hM] at hM';cases hM';exact hb.lt
 have back:∀m c,(hp.put n ⟨b.T,b.cs,3⟩).get m=some c→(m=n∧c=⟨b.T,b.cs,3⟩)∨(m≠n∧hp.get m=some c):=by
  intro m c h
  by_cases e:m=n
  ·rw [Tre.get_put,if_pos e] at h;cases h;exact .inl ⟨e,rfl⟩
  ·rw [Tre.get_put,if_neg e] at h;exact .inr ⟨e,h⟩
 refine ⟨hm.len,fun m c hc=>?_,fun n1 n2 b1 c1 L1 M1 h1 h2 hne hk1 hL1 hM1 k hc1 hc2=>?_,hm.below,fun k hk2=>?_,fun m c L hc hk2 hL k hcv hu=>?_,Nat.le_refl _,fun m c L hc hk2 hk5 hL=>?_,fun k hk2=>?_,hm.glob⟩
 ·rcases back m c hc with ⟨rfl,rfl⟩|⟨hne,hc⟩
  ·obtain ⟨M',hM',hb⟩:=hm.blk m b hn
   obtain ⟨vs,hd,hv⟩:=hb.cells
   exact ⟨M',hM',vs,hd,.inr (.inr ⟨by show 2≤3;decide,hb.lt,hv,fun h=>(by cases h),fun h=>(by cases h),fun h=>absurd h (by show ¬ 5≤3;decide),fun h=>(by cases h)⟩)⟩
  ·obtain ⟨L,hL,hb⟩:=hm.blk m c hc
   exact ⟨L,hL,hb.env (E':=E.lock w M.g) rfl rfl⟩
 ·rcases back n1 b1 h1 with ⟨rfl,rfl⟩|⟨hn1,g1⟩<;>rcases back n2 c1 h2 with ⟨rfl,rfl⟩|⟨hn2,g2⟩
  ·exact absurd rfl hne
  ·exact hm.sep _ _ _ _ _ _ hn g2 hne (by omega) hL1 hM1 k (.inl (hc1.eq (by show 3≠8;decide))) hc2
  ·exact hm.sep _ _ _ _ _ _ g1 hn hne hk1 hL1 hM1 k hc1 (.inl (hc2.eq (by show 3≠8;decide)))
  ·exact hm.sep _ _ _ _ _ _ g1 g2 hne hk1 hL1 hM1 k hc1 hc2
 ·rcases hk2 with hk2|rfl
  ·exact ⟨Nat.lt_of_lt_of_le (hm.fz k hk2).1 hm.up,rfl⟩
  ·exact ⟨hlt,rfl⟩
 ·rcases back m c hc with ⟨rfl,rfl⟩|⟨hne,hc⟩
  ·exact absurd hk2 (by show ¬ (3<2∨5≤3);decide)
  ·rcases hu with hu|hu
   ·exact hm.far m c L hc hk2 hL k hcv hu
   ·exact hm.sep _ _ _ _ _ _ hn hc (Ne.symm hne) (by omega) hM hL k (.inl hu) hcv
 ·rcases back m c hc with ⟨rfl,rfl⟩|⟨hne,hc⟩
  ·rw [hM] at hL;cases hL;exact .inr (.inr rfl)
  ·rcases hm.old m c L hc hk2 hk5 hL with h|h
   ·exact .inl h
   ·exact .inr (.inl h)
 ·rcases hk2 with h|h
  ·exact .inl (hm.rlt k h)
  ·exact .inr h
def EG(E:Env)(w1:World)(G:Nat→Prop):Env:={ E with wU:=w1,U:=fun k=>E.U k∨G k,R:=fun k=>E.R k∨G k }
theorem EG.congr{w1:World}{G G':Nat→Prop}(h:∀k,G k↔G' k):EG E w1 G=EG E w1 G':=by
 have:G=G':=funext fun k=>propext (h k)
 rw [this]
theorem EG.lock{w1:World}{G G':Nat→Prop}{g:Nat}(h:∀k,(G k∨k=g)↔G' k):(EG E w1 G).lock w1 g=EG E w1 G':=by
 have h1:(fun k=>(E.U k∨G k)∨k=g)=fun k=>E.U k∨G' k:=funext fun k=>propext (by rw [←h k,or_assoc])
 have h2:(fun k=>(E.R k∨G k)∨k=g)=fun k=>E.R k∨G' k:=funext fun k=>propext (by rw [←h k,or_assoc])
 unfold Env.lock EG
 rw [←h1,←h2]
theorem Mem.EG0(hm:Mem E r hp nx w):Mem (EG E w fun _=>False) r hp nx w:=by
 refine { hm with blk:=hm.blk,fz:=fun k hk=>⟨?_,rfl⟩,far:=fun n b M hn hk hM k hc hu=>?_,up:=Nat.le_refl _,rlt:=fun k hk=>?_,old:=fun n b M hn hk hk5 hM=>?_ }
 ·rcases hk with hk|hk
  ·exact Nat.lt_of_lt_of_le (hm.fz k hk).1 hm.up
  ·exact hk.elim
 ·rcases hu with hu|hu
  ·exact hm.far n b M hn hk hM k hc hu
  ·exact hu
 ·rcases hm.old n b M hn hk hk5 hM with h|h
  ·exact .inl h
  ·exact .inr (.inl h)
 ·rcases hk with hk|hk
  ·exact .inl (hm.rlt k hk)
  ·exact hk.elim
theorem Mem.EGend{w1:World}{r1:List Loc}{hp1:Tr}{nx1:Nat}{G:Nat→Prop}(hm:Mem E r1 hp1 nx1 w1)(hG:∀k,¬ G k)(hm':Mem (EG E w1 G) r hp nx w):Mem E r hp nx w:=by
 refine { hm' with blk:=hm'.blk,fz:=fun k hk=>⟨(hm.fz k hk).1,(hm'.fz k (.inl hk)).2.trans (hm.fz k hk).2⟩,far:=fun n b M hn hk hM k hc hu=>hm'.far n b M hn hk hM k hc (.inl hu),up:=Nat.le_trans hm.up hm'.up,rlt:=hm.rlt,old:=fun n b M hn hk hk5 hM=>?_ }
 rcases hm'.old n b M hn hk hk5 hM with h|h|h
 ·exact .inl h
 ·exact .inr h
 ·exact absurd h (hG _)
theorem Mem.rel{w1:World}{r1:List Loc}{hp1:Tr}{nx1:Nat}{G:Nat→Prop}(hm:Mem E r1 hp1 nx1 w1)(hn:hp1.get n=some b)(hk:b.k<2)(hM:r1[n]?=some M)(hg:G M.g){s:List Loc}{hp':Tr}{nx':Nat}{c:HB}
 (hm':Mem (EG E w1 G) (r1++s) hp' nx' w') (hc:hp'.get n=some c) (hc3:c.k=3):Mem (EG E w1 fun k=>G k∧k≠M.g) (r1++s) (hp'.put n b) nx' w':=by
 have hM':=get_app s hM
 have back:∀m d,(hp'.put n b).get m=some d→(m=n∧d=b)∨(m≠n∧hp'.get m=some d):=by
  intro m d h
  by_cases e:m=n
  ·rw [Tre.get_put,if_pos e] at h;cases h;exact .inl ⟨e,rfl⟩
  ·rw [Tre.get_put,if_neg e] at h;exact .inr ⟨e,h⟩
 refine ⟨hm'.len,fun m d hd=>?_,fun n1 n2 b1 c1 L1 M1 h1 h2 hne hk1 hL1 hM1 k hc1 hc2=>?_,hm'.below,fun k hk2=>hm'.fz k ?_,fun m d L hd hk2 hL k hcv hu=>?_,hm'.up,fun m d L hd hk2 hk5 hL=>?_,fun k hk2=>?_,hm.glob⟩
 ·rcases back m d hd with ⟨rfl,rfl⟩|⟨hne,hd⟩
  ·obtain ⟨M2,hM2,hb⟩:=hm.blk m d hn
   rw [hM] at hM2;cases hM2
   exact ⟨M,hM',(hb.move s (fun k hc=>by rw [hc.eq (by omega)];exact (hm'.fz M.g (.inr hg)).2) hm'.up).env rfl rfl⟩
  ·obtain ⟨L,hL,hb⟩:=hm'.blk m d hd
   exact ⟨L,hL,hb.env rfl rfl⟩
 ·rcases back n1 b1 h1 with ⟨rfl,rfl⟩|⟨hn1,g1⟩<;>rcases back n2 c1 h2 with ⟨rfl,rfl⟩|⟨hn2,g2⟩
  ·exact absurd rfl hne
  ·exact hm'.sep _ _ _ _ _ _ hc g2 hne (by omega) hL1 hM1 k (.inl (hc1.eq (by omega))) hc2
  ·exact hm'.sep _ _ _ _ _ _ g1 hc hne hk1 hL1 hM1 k hc1 (.inl (hc2.eq (by omega)))
  ·exact hm'.sep _ _ _ _ _ _ g1 g2 hne hk1 hL1 hM1 k hc1 hc2
 ·rcases hk2 with h|h
  ·exact .inl h
  ·exact .inr h.1
 ·rcases back m d hd with ⟨rfl,rfl⟩|⟨hne,hd⟩
  ·rw [hM'] at hL;cases hL
   rcases hu with hu|hu
   ·exact hm.far m d M hn (.inl hk) hM k hcv hu
   ·exact hu.2 (hcv.eq (by omega))
  ·rcases hu with hu|hu
   ·exact hm'.far m d L hd hk2 hL k hcv (.inl hu)
   ·exact hm'.far m d L hd hk2 hL k hcv (.inr hu.1)
 ·rcases back m d hd with ⟨rfl,rfl⟩|⟨hne,hd⟩
  ·omega
  ·rcases hm'.old m d L hd hk2 hk5 hL with h|h|h
   ·exact .inl h
   ·exact .inr (.inl h)
   ·exact .inr (.inr ⟨h,fun e=>hm'.apart hc hd (Ne.symm hne) (by omega) hM' hL e.symm⟩)
 ·rcases hk2 with h|h
  ·exact .inl (hm.rlt k h)
  ·exact .inr h
def Gs(r1:List Loc)(lk:List (Nat×HB))(k:Nat):Prop:=∃x∈lk,∃M,r1[x.1]?=some M∧M.g=k
structure LkOk(hp1:Tr)(lk:List (Nat×HB)):Prop where
 v:∀x∈lk,hp1.get x.1=some x.2∧x.2.k<2
 nd:lk.Pairwise fun x y=>x.1≠y.1
theorem lockL_ok{r1:List Loc}{hp1:Tr}{nx1:Nat}{w1:World}(hm:Mem E r1 hp1 nx1 w1):∀(l:List (Nat×Nat)) (hp hp':Tr) (lk lk':List (Nat×HB)),lockL l hp lk=(hp',lk')→LkOk hp1 lk→(∀x∈lk,∃c,hp.get x.1=some c∧c.k=3)→(∀n,(∀x∈lk,x.1≠n)→hp.get n=hp1.get n)→Mem (EG E w1 (Gs r1 lk)) r1 hp nx1 w1 →
 LkOk hp1 lk'∧Mem (EG E w1 (Gs r1 lk')) r1 hp' nx1 w1∧(∀x∈lk,x∈lk')∧∀x∈l,∀b,hp1.get x.2=some b→b.k<2→(x.2,b)∈lk'
 |[],hp,hp',lk,lk',h,hlk,h3,ho,hg=>by
  cases h
  exact ⟨hlk,hg,fun _ h=>h,fun _ h=>by cases h⟩
 |x::l,hp,hp',lk,lk',h,hlk,h3,ho,hg=>by
  have skip:lockL l hp lk=(hp',lk')→(∀b,hp1.get x.2=some b→b.k<2→(x.2,b)∈lk)→_:=fun h hx=>by
   obtain ⟨h1,h2,h4,h5⟩:=lockL_ok hm l hp hp' lk lk' h hlk h3 ho hg
   exact (⟨h1,h2,h4,fun y hy b hb hk=>by
    rcases List.mem_cons.1 hy with rfl|hy
    ·exact h4 _ (hx b hb hk)
    ·exact h5 y hy b hb hk⟩:LkOk hp1 lk'∧Mem (EG E w1 (Gs r1 lk')) r1 hp' nx1 w1∧(∀x∈lk,x∈lk')∧∀y∈x::l,∀b,hp1.get y.2=some b→b.k<2→(y.2,b)∈lk')
  have inlk:(∃y∈lk,y.1=x.2)→∀b,hp1.get x.2=some b→b.k<2→(x.2,b)∈lk:=fun ⟨y,hy,e⟩ b hb _=>by
   have:=(hlk.v y hy).1
   rw [e,hb] at this
   cases this
   rw [←e];exact hy
  unfold lockL at h
  split at h
  ·rename_i b hb
   by_cases hk:b.k<2
   ·rw [show Nat.blt b.k 2=true from by simpa [blt_iff] using hk,cond_true] at h
    have hnew:∀y∈lk,y.1≠x.2:=fun y hy e=>by
     obtain ⟨c,hc,hc3⟩:=h3 y hy
     rw [e,hb] at hc;cases hc
     omega
    have hb1:hp1.get x.2=some b:=by rw [←ho x.2 hnew];exact hb
    obtain ⟨M,hM,-⟩:=hm.blk _ b hb1
    have hG:∀k,(Gs r1 lk k∨k=M.g)↔Gs r1 ((x.2,b)::lk) k:=fun k=>by
     constructor
     ·rintro (⟨y,hy,h⟩|rfl)
      ·exact ⟨y,List.mem_cons_of_mem _ hy,h⟩
      ·exact ⟨(x.2,b),by simp,M,hM,rfl⟩
     ·rintro ⟨y,hy,M',hM',rfl⟩
      rcases List.mem_cons.1 hy with rfl|hy
      ·rw [hM] at hM';cases hM';exact .inr rfl
      ·exact .inl ⟨y,hy,M',hM',rfl⟩
    have hg':=hg.lock hb hk hM
    rw [EG.lock hG] at hg'
    obtain ⟨h1,h2,h4,h5⟩:=lockL_ok hm l _ hp' _ lk' h ⟨fun y hy=>by
     rcases List.mem_cons.1 hy with rfl|hy
     ·exact ⟨hb1,hk⟩
     ·exact hlk.v y hy,List.pairwise_cons.2 ⟨fun y hy=>Ne.symm (hnew y hy),hlk.nd⟩⟩ (fun y hy=>by
     rcases List.mem_cons.1 hy with rfl|hy
     ·exact ⟨_,by rw [Tre.get_put,if_pos rfl],rfl⟩
     ·obtain ⟨c,hc,hc3⟩:=h3 y hy
      exact ⟨c,by rw [Tre.get_put,if_neg (hnew y hy)];exact hc,hc3⟩) (fun n hn=>by
     have h1:n≠x.2:=Ne.symm (hn (x.2,b) (by simp))
     rw [Tre.get_put,if_neg h1]
     exact ho n fun y hy=>hn y (List.mem_cons_of_mem _ hy)) hg'
    exact ⟨h1,h2,fun y hy=>h4 y (List.mem_cons_of_mem _ hy),fun y hy b' hb' hk'=>by
     rcases List.mem_cons.1 hy with rfl|hy
     ·rw [hb1] at hb';cases hb';exact h4 _ (by simp)
     ·exact h5 y hy b' hb' hk'⟩
   ·rw [show Nat.blt b.k 2=false from by simpa [blt_iff] using hk,cond_false] at h
    refine skip h fun b' hb' hk'=>?_
    by_cases hx:∃y∈lk,y.1=x.2
    ·exact inlk hx b' hb' hk'
    ·have:=ho x.2 fun y hy e=>hx ⟨y,hy,e⟩
     rw [hb,hb'] at this;cases this
     exact absurd hk' hk
  ·rename_i hb
   refine skip h fun b' hb' hk'=>?_
   by_cases hx:∃y∈lk,y.1=x.2
   ·exact inlk hx b' hb' hk'
   ·have:=ho x.2 fun y hy e=>hx ⟨y,hy,e⟩
    rw [hb,hb'] at this;cases this
theorem relL_ok{r1:List Loc}{hp1:Tr}{nx1:Nat}{w1:World}(hm:Mem E r1 hp1 nx1 w1)(p:Nat→Bool){s:List Loc}:∀(l pre:List (Nat×HB)) (hp hp':Tr) (l':List (Nat×HB)),relL p l hp=some (hp',l')→LkOk hp1 (l++pre)→Mem (EG E w1 (Gs r1 (l++pre))) (r1++s) hp nx w →
 Mem (EG E w1 (Gs r1 (l'++pre))) (r1++s) hp' nx w∧l'=l.filter fun x=>!p x.1
 |[],pre,hp,hp',l',h,hlk,hg=>by cases h;exact ⟨hg,rfl⟩
 |x::l,pre,hp,hp',l',h,hlk,hg=>by
  unfold relL at h
  split at h
  ·rename_i hp2 l2 h2
   have hperm:∀(a:List (Nat×HB)) y,y∈a++x::pre↔y∈(x::a)++pre:=fun a y=>by
    constructor<;>intro h<;>simp at h ⊢<;>rcases h with h|h|h<;>simp [h]
   have hGp:∀(a:List (Nat×HB)) k,Gs r1 (a++x::pre) k↔Gs r1 ((x::a)++pre) k:=fun a k =>
    ⟨fun ⟨y,hy,h⟩=>⟨y,(hperm a y).1 hy,h⟩,fun ⟨y,hy,h⟩=>⟨y,(hperm a y).2 hy,h⟩⟩
   have hnd:=hlk.nd
   have hlk2:LkOk hp1 (l++x::pre):=⟨fun y hy=>hlk.v y ((hperm l y).1 hy),by
    have:(l++x::pre).Perm ((x::l)++pre):=List.perm_middle
    exact (this.symm.pairwise_iff (fun {a b} h=>Ne.symm h)).1 hnd⟩
   obtain ⟨hg2,e2⟩:=relL_ok hm p l (x::pre) hp hp2 l2 h2 hlk2 (by rw [EG.congr (hGp l)];exact hg)
   by_cases hp_:p x.1=true
   ·rw [hp_,cond_true] at h
    split at h
    ·rename_i c hc
     by_cases hc3:c.k=3
     ·rw [hc3] at h
      cases h
      obtain ⟨hx1,hx2⟩:=hlk.v x (by simp)
      obtain ⟨M,hM,-⟩:=hm.blk _ _ hx1
      have hsub:∀y∈l'++pre,y∈l++pre:=fun y hy=>by
       rcases List.mem_append.1 hy with hy|hy
       ·rw [e2] at hy;exact List.mem_append_left _ (List.mem_filter.1 hy).1
       ·exact List.mem_append_right _ hy
      have hg3:=hm.rel hx1 hx2 hM ⟨x,by simp,M,hM,rfl⟩ hg2 hc hc3
      refine ⟨?_,by rw [e2];simp [hp_]⟩
      rw [EG.congr (G':=Gs r1 (l'++pre))] at hg3
      ·exact hg3
      ·intro k
       constructor
       ·rintro ⟨⟨y,hy,M',hM',rfl⟩,hne⟩
        rcases List.mem_append.1 hy with hy|hy
        ·exact ⟨y,List.mem_append_left _ hy,M',hM',rfl⟩
        ·rcases List.mem_cons.1 hy with rfl|hy
         ·rw [hM] at hM';cases hM';exact absurd rfl hne
         ·exact ⟨y,List.mem_append_right _ hy,M',hM',rfl⟩
       ·rintro ⟨y,hy,M',hM',rfl⟩
        refine ⟨⟨y,?_,M',hM',rfl⟩,fun e=>?_⟩
        ·rcases List.mem_append.1 hy with hy|hy
         ·exact List.mem_append_left _ hy
         ·exact List.mem_append_right _ (List.mem_cons_of_mem _ hy)
        ·have hy2:=hsub y hy
         have hne:x.1≠y.1:=(List.pairwise_cons.1 hnd).1 y hy2
         have hv:=hlk.v y (List.mem_cons_of_mem _ hy2)
         exact hm.apart hx1 hv.1 hne (by omega) hM hM' e.symm
     ·rw [show Nat.beq c.k 3=false from by simpa [beq_iff] using hc3] at h;cases h
    ·cases h
   ·rw [Bool.not_eq_true] at hp_
    rw [hp_,cond_false] at h
    cases h
    refine ⟨?_,by rw [e2];simp [hp_]⟩
    rw [←EG.congr (hGp l2)]
    exact hg2
  ·cases h
theorem DenS.hideS:∀(os:List Oper) {ts:Sl} {vs:List Value},DenS r ts vs→DenS r (hideS os ts) vs
 |[],_,_,h=>h
 |o::os,ts,vs,h=>by
  unfold Go.Proofs.YtjboelhcieepkaaGreatDoor.hideS
  cases allocOp o.op with
  |false=>exact DenS.hideS os h
  |true =>
   refine DenS.hideS os ?_
   show DenS r (Go.Proofs.YtjboelhcieepkaaGreatDoor.putS ts o.dst .u) vs
   cases o.dst with
   |none=>exact h
   |some d=>exact DenS.tell h fun _=>.u _
theorem selfOk_ok{ops:Array Oper}(h:selfOk ops=true):∀(i:Nat) (o:Oper) (d:Tmp),ops[i]?=some o→allocOp o.op=true→o.dst=some d→d ∉ o.looksAt ops:=by
 intro i o d hi ha hd
 have hmem:o∈ops.toList:=by
  have:ops.toList[i]?=some o:=by simpa using hi
  exact List.mem_of_getElem? this
 have:=List.all_eq_true.1 h o hmem
 rw [ha,hd] at this
 simpa using this
end
theorem cN_ok{ops:Array Oper}{tab:List (Nat×Nat)}{n c:Nat}(h:cN ops tab n c=true):∃o,ops[c]?=some o∧pureOp o.op=false∧allocOp o.op=false∧o.guard=none∧∀M,Clo ops M→M.getD c false=true→∀x∈tab,x.2=n→M.getD x.1 false=true:=by
 unfold cN at h
 split at h
 ·rename_i o ho
  simp only [Bool.and_eq_true,Bool.not_eq_true',List.all_eq_true] at h
  obtain ⟨h1,h2,h3,h4⟩:=h
  refine ⟨o,ho,h1,h2,by simpa using h3,fun M hcl hM x hx e=>?_⟩
  have:=h4 x hx
  rw [e,show Nat.beq n n=true from Nat.beq_refl n] at this
  refine closB_ok hcl _ _ (fun k hk=>?_) x.1 (by rw [←bitB_eq];simpa using this)
  have hk':(2 ^ c).testBit k=true:=hk
  rw [Nat.testBit_two_pow,decide_eq_true_eq] at hk'
  rw [←hk'];exact hM
 ·cases h
theorem lookN_mem:∀{tab:List (Nat×Nat)} {i n:Nat},lookN tab i=some n→(i,n)∈tab
 |[],_,_,h=>by cases h
 |x::l,i,n,h=>by
  unfold lookN at h
  by_cases e:x.1=i
  ·rw [show Nat.beq x.1 i=true from by rw [e];exact Nat.beq_refl i] at h
   cases h
   rw [←e];simp
  ·rw [show Nat.beq x.1 i=false from by simpa [beq_iff] using e] at h
   exact List.mem_cons_of_mem _ (lookN_mem h)
section
variable {rec:FuncId→List SV→Tr→Nat→Option (SV×St)}{ops:Array Oper}{Q:Post}{E:Env}{r1:List Loc}{hp1:Tr}{nx1:Nat}{w1:World}{tab:List (Nat×Nat)}{lk0:List (Nat×HB)}
def Sof(E:Env)(ops:Array Oper)(tab:List (Nat×Nat))(r1:List Loc)(w1:World)(lk0:List (Nat×HB))(M:Array Bool)(w:World):Prop :=
 SR E w∧∀x∈lk0,∀N,r1[x.1]?=some N→(∃c,cN ops tab x.1 c=true∧M.getD c false=true)∨w.heap[N.g]?=w1.heap[N.g]?
def Tof(E:Env)(tab:List (Nat×Nat))(r1:List Loc)(hp1:Tr)(w1:World)(i:Nat)(w:World):Prop :=
 SR E w∧∀n b N,lookN tab i=some n→hp1.get n=some b→b.k<5→r1[n]?=some N→w.heap[N.g]?=w1.heap[N.g]?
theorem Sof.c(M:Array Bool)(w:World)(i:Nat)(o:Oper)(hi:ops[i]?=some o)(ho:o.guard≠none∨pureOp o.op=true)(h:Sof E ops tab r1 w1 lk0 (M.setIfInBounds i true) w):Sof E ops tab r1 w1 lk0 M w:=by
 refine ⟨h.1,fun x hx N hN=>?_⟩
 rcases h.2 x hx N hN with ⟨c,hc,hM⟩|h
 ·have hne:i≠c:=fun e=>by
   obtain ⟨o',ho',h1,_,h3,_⟩:=cN_ok hc
   rw [←e,hi] at ho';cases ho'
   rcases ho with ho|ho
   ·exact ho h3
   ·rw [h1] at ho;cases ho
  rw [getD_set_ne false hne] at hM
  exact .inl ⟨c,hc,hM⟩
 ·exact .inr h
theorem SR.eg(hm:Mem E r1 hp1 nx1 w1){G:Nat→Prop}{w:World}(h:SR (EG E w1 G) w):SR E w :=
 ⟨fun k hk=>(h.1 k (.inl hk)).trans (hm.fz k hk).2,Nat.le_trans hm.up h.2.1,h.2.2⟩
theorem shared_same(hm:Mem E r1 hp1 nx1 w1){n:Nat}{b:HB}{N:Loc}(hn:hp1.get n=some b)(hk:2≤b.k)(hk5:b.k<5)(hN:r1[n]?=some N){w:World}(hw:SR E w):w.heap[N.g]?=w1.heap[N.g]?:=by
 rcases hm.old n b N hn hk hk5 hN with h|h
 ·exact (hw.2.2.block N.g h).trans (hm.below.block N.g h).symm
 ·exact (hw.1 N.g (hm.rlt _ h)).trans (hm.fz N.g (hm.rlt _ h)).2.symm
theorem hpF_ok(hm:Mem E r1 hp1 nx1 w1)(s:List Loc)(i:Nat):RoT (Tof E tab r1 hp1 w1 i) (r1++s) (hpFof tab hp1 i):=by
 intro n b hb
 unfold hpFof at hb
 split at hb
 ·rename_i n0 hl
  split at hb
  ·rename_i b0 hb0
   rw [blt_iff] at hb
   by_cases hk5:b0.k<5
   case neg=>simp [hk5,Tre.get_e] at hb
   rw [decide_eq_true hk5,cond_true] at hb
   by_cases e:n=n0
   ·subst e
    rw [Tre.get_put,if_pos rfl] at hb;cases hb
    obtain ⟨M,hM,hk⟩:=hm.blk n b hb0
    obtain ⟨vs,hd,hv⟩:=hk.cells
    exact ⟨M,vs,get_app s hM,hd.mono s,fun w' hw j v hj=>(World.cell?_of_block (w:=w1) (hw.2 n b M hl hb0 hk5 hM)).trans (hv j v hj)⟩
   ·rw [Tre.get_put,if_neg e] at hb
    simp [Tre.get_e] at hb
  ·simp [Tre.get_e] at hb
 ·simp [Tre.get_e] at hb
theorem anyS_le{X:Ctx}{stop:Nat→Bool}{hpF:Nat→Tr}:∀(m:Nat) (L:Array Bool) (ts:Sl) (hp:Tr) (nx:Nat) (L1:Array Bool) (st1:St),anyS X rec ops stop hpF m L ts hp nx=some (L1,st1) →
 (∀k,L.getD k false=true→L1.getD k false=true)∧(L1=L∨∃j∈Region.ready .any ops L,L1.getD j false=true):=by
 intro m
 induction m with
 |zero=>intro L ts hp nx L1 st1 h;simp [anyS] at h
 |succ m ih =>
  intro L ts hp nx L1 st1 h
  have next:∀i ts' hp' nx',i∈Region.ready .any ops L→anyS X rec ops stop hpF m (L.setIfInBounds i true) ts' hp' nx'=some (L1,st1)→(∀k,L.getD k false=true→L1.getD k false=true)∧(L1=L∨∃j∈Region.ready .any ops L,L1.getD j false=true):=fun i ts' hp' nx' hi h=>by
   obtain ⟨h1,_⟩:=ih _ _ _ _ _ _ h
   refine ⟨fun k hk=>h1 k (getD_set_true hk),.inr ⟨i,hi,h1 i ?_⟩⟩
   have:i<L.size:=(Array.getElem?_eq_some_iff.1 (getD_some (mem_ready.1 hi).1)).1
   simp [this]
  unfold anyS at h
  cases he:stopAt stop (Region.ready .any ops L) with
  |true=>rw [he,cond_true] at h;cases h;exact ⟨fun _ h=>h,.inl rfl⟩
  |false =>
   rw [he,cond_false] at h
   cases hal:((Region.ready .any ops L).filter (isAl ops ts)).all (alOk X ops L ts) with
   |false=>rw [hal,cond_false] at h;cases h
   |true =>
    rw [hal,cond_true] at h
    split at h
    ·rename_i i o y hpt
     exact next i _ _ _ (pureTry_ok hpt).1 h
    ·split at h
     ·rename_i c hlo
      have hcl:c∈(Region.ready .any ops L).filter (fun i=>!isAl ops ts i):=by rw [hlo];simp
      split at h
      ·by_cases hrd:Region.ready .any ops (setL L ((Region.ready .any ops L).filter (isAl ops ts)))=[c]
       ·rw [decide_eq_true hrd,cond_true] at h
        split at h
        ·exact next c _ _ _ (List.mem_filter.1 hcl).1 h
        ·cases h
       ·rw [decide_eq_false hrd] at h;cases h
      ·cases h
     ·split at h
      ·rename_i hlo a rest hall
       have hal2:a∈(Region.ready .any ops L).filter (isAl ops ts):=by rw [hall];simp
       split at h
       ·by_cases hrd:Region.ready .any ops (setL L rest)=[a]
        ·rw [decide_eq_true hrd,cond_true] at h
         split at h
         ·exact next a _ _ _ (List.mem_filter.1 hal2).1 h
         ·cases h
        ·rw [decide_eq_false hrd] at h;cases h
       ·cases h
      ·cases h
     ·cases h
theorem phases_ok(hq:PanicOk Q)(hsel:Region.noSelect ops=true)(hself:selfOk ops=true)(hrec:RecOk E.X E.w0 rec)(hm1:Mem E r1 hp1 nx1 w1)(hlk0:∀x∈tab,∀b,hp1.get x.2=some b→b.k<2→(x.2,b)∈lk0){st':St}
 (hk:∀s vs' w',DenS (r1++s) st'.ts vs'→Mem E (r1++s) st'.hp st'.nx w'→Q .normal ⟨vs'.toArray,df⟩ w') :
 ∀(f:Nat) (lk:List (Nat×HB)) (L:Array Bool) (st:St),phases E.X rec ops tab (hpFof tab hp1) f lk L st=some st'→LkOk hp1 lk→(∀x∈lk,x∈lk0) →
  (∀x∈lk0,x ∉ lk→∃c,cN ops tab x.1 c=true∧(L.getD c false=true∨Region.ready .any ops L=[c]))→L.size=ops.size→Clo ops L→∀(fuel:Nat),unl L≤fuel →
  ∀(s:List Loc) (vs:List Value) (w:World),DenS (r1++s) st.ts vs→Mem (EG E w1 (Gs r1 lk)) (r1++s) st.hp st.nx w→wpAnyV E.X.P ops Q (Sof E ops tab r1 w1 lk0) fuel L ⟨vs.toArray,df⟩ w:=by
 intro f
 induction f with
 |zero=>intro lk L st h;simp [phases] at h
 |succ f ih =>
  intro lk L st h hlk hsub hrel hL hcl fuel hfu s vs w hs hm
  unfold phases at h
  split at h
  ·cases h
  ·rename_i L1 st1 ha
   have e0:=LP_nil L
   have:=any_ok (E:=EG E w1 (Gs r1 lk)) (T:=Tof E tab r1 hp1 w1) (r0:=r1) (Q:=Q) (S:=Sof E ops tab r1 w1 lk0) (stop:=stopN ops tab lk) hq hsel (selfOk_ok hself) hrec
    (fun c ts hc=>by
     obtain ⟨x,_,hx⟩:=List.any_eq_true.1 hc
     obtain ⟨o,ho,_,h3,_⟩:=cN_ok hx
     unfold isAl
     rw [ho]
     simp [h3])
    (fun i w h=>h.1.2.2)
    (fun M w i o ho hl hcl hi hS=>⟨hS.1,fun n b N hln hb hk5 hN=>by
     by_cases hk2:b.k<2
     ·rcases hS.2 _ (hlk0 _ (lookN_mem hln) b hb hk2) N hN with ⟨c,hc,hMc⟩|h
      ·obtain ⟨_,_,_,_,_,hall⟩:=cN_ok hc
       have h3:=hall M hcl hMc _ (lookN_mem hln) rfl
       have h4:=getD_some (mem_ready.1 hi).1
       rw [Array.getD_eq_getD_getElem?,h4] at h3
       cases h3
      ·exact h
     ·exact shared_same hm1 hb (by omega) hk5 hN hS.1⟩)
    (fun M w i o ho hg h=>Sof.c M w i o ho hg h)
    _ _ _ _ _ _ _ ha hL
    (fun M w hle hex hw=>⟨SR.eg hm1 hw,fun x hx N hN=>by
     by_cases hxl:x∈lk
     ·exact .inr (hw.1 N.g (.inr ⟨x,hxl,N,hN,rfl⟩))
     ·obtain ⟨c,hc,hL1⟩:=hrel x hx hxl
      refine .inl ⟨c,hc,?_⟩
      rcases hL1 with h|h
      ·exact hle c h
      ·obtain ⟨j,hj,hMj⟩:=hex
       rw [h] at hj
       have:j=c:=by simpa using hj
       rw [←this];exact hMj⟩)
    (fun M w i o hle hclM ho hl hi hw=>⟨SR.eg hm1 hw,fun n b N hln hb hk5 hN=>by
     by_cases hk2:b.k<2
     ·have hx0:=hlk0 _ (lookN_mem hln) b hb hk2
      by_cases hxl:(n,b)∈lk
      ·exact hw.1 N.g (.inr ⟨_,hxl,N,hN,rfl⟩)
      ·exfalso
       obtain ⟨c,hc,hLc⟩:=hrel _ hx0 hxl
       obtain ⟨oc,hoc,hnp,_,_,hall⟩:=cN_ok hc
       have h4:=getD_some (mem_ready.1 hi).1
       have hiL:L.getD i false=true:=by
        rcases hLc with h|h
        ·exact hall L hcl h _ (lookN_mem hln) rfl
        ·have hcr:c∈Region.ready .any ops L:=by rw [h];simp
         have h5:=hall _ (hcl.set hcr) (by
          have:c<L.size:=(Array.getElem?_eq_some_iff.1 (getD_some (mem_ready.1 hcr).1)).1
          simp [this]) _ (lookN_mem hln) rfl
         have hne:c≠i:=fun e=>by
          rw [e,ho] at hoc;cases hoc
          cases hop:o.op<;>rw [hop] at hl hnp<;>first|(cases hl;done)|(cases hnp;done)
         rw [getD_set_ne false hne] at h5
         exact h5
       have h3:=hle i hiL
       rw [Array.getD_eq_getD_getElem?,h4] at h3
       cases h3
     ·exact shared_same hm1 hb (by omega) hk5 hN (SR.eg hm1 hw)⟩)
    fuel (r1++s) vs w [] ⟨s,rfl⟩ hs hm (fun i=>hpF_ok hm1 s i) (fun _ h=>by cases h) (fun _ h=>by cases h) (fun _ h=>by cases h) (by rw [e0];exact hfu) (by rw [e0];exact hcl)
    (fun r' vs' w' f' hr hd hm' hsz hun hcl' hst=>by
     obtain ⟨s',rfl⟩:=hr
     unfold stopAt at hst
     split at hst
     ·rename_i hr0
      rw [hr0] at h
      simp only at h
      split at h
      ·rename_i hp2 lk2 hrl
       cases h
       obtain ⟨hm2,e2⟩:=relL_ok hm1 (fun _=>true) lk [] _ _ _ hrl (by simpa using hlk) (by simpa using hm')
       have e3:lk2=[]:=by rw [e2];simp
       subst e3
       exact V_done hr0 (hk s' vs' w' hd (hm1.EGend (fun k=>by rintro ⟨x,hx,_⟩;cases hx) hm2)) _
      ·cases h
     ·rename_i c hr1
      rw [hr1] at h
      simp only at h
      split at h
      ·rename_i hp2 lk2 hrl
       obtain ⟨hm2,e2⟩:=relL_ok hm1 _ lk [] _ _ _ hrl (by simpa using hlk) (by simpa using hm')
       rw [List.append_nil] at hm2
       refine ih lk2 L1 _ h ⟨fun x hx=>hlk.v x ?_,?_⟩ (fun x hx=>hsub x ?_) (fun x hx hxl=>?_) hsz hcl' f' hun s' vs' w' hd hm2
       ·rw [e2] at hx;exact (List.mem_filter.1 hx).1
       ·rw [e2];exact hlk.nd.filter _
       ·rw [e2] at hx;exact (List.mem_filter.1 hx).1
       ·by_cases hxk:x∈lk
        ·have hc:cN ops tab x.1 c=true:=by
          cases hcc:cN ops tab x.1 c with
          |true=>rfl
          |false=>exact absurd (by rw [e2];exact List.mem_filter.2 ⟨hxk,by simp [hcc]⟩) hxl
         exact ⟨c,hc,.inr hr1⟩
        ·obtain ⟨c',hc',hL'⟩:=hrel x hx hxk
         obtain ⟨hle,hor⟩:=anyS_le _ _ _ _ _ _ _ ha
         rcases hL' with h9|h9
         ·exact ⟨c',hc',.inl (hle _ h9)⟩
         ·rcases hor with rfl|⟨j,hj,hj1⟩
          ·exact ⟨c',hc',.inr h9⟩
          ·rw [h9] at hj
           have:j=c':=by simpa using hj
           exact ⟨c',hc',.inl (this▸hj1)⟩
      ·cases h
     ·cases hst)
   rwa [e0] at this
def Nor(Q:Post):Post:=Exit.then (fun a w=>Q .normal a w) (fun _ _ _=>False)
theorem nor_panicOk(Q:Post):PanicOk (Nor Q):=fun _ _ _ _ _ h=>h.elim
theorem regS_any{hl:FuncId→Option (List SV→Tr→Nat→Option (SV×St))}{r:List Loc}{vs:List Value}{w:World}{st st':St}(hrec:RecOk E.X E.w0 rec)(h:regS hl E.X rec ops st=some st')(hs:DenS r st.ts vs)(hm:Mem E r st.hp st.nx w)
 (hk:∀s vs' w',DenS (r++s) st'.ts vs'→Mem E (r++s) st'.hp st'.nx w'→Q .normal ⟨vs'.toArray,df⟩ w'):wpAny E.X.P .any ops (Nor Q) ops.size (Array.replicate ops.size false) ⟨vs.toArray,df⟩ w.drew:=by
 unfold regS at h
 by_cases hc:(Region.noSelect ops&&(selfOk ops&&ops.toList.all noDefer))=true
 ·rw [hc,cond_true] at h
  simp only [Bool.and_eq_true] at hc
  unfold regGo1 at h
  split at h
  rename_i hp2 lk hl
  have hmd:=hm.drew
  obtain ⟨hlk,hg,_,hall⟩:=lockL_ok hmd _ _ _ _ _ hl ⟨fun _ h=>(by cases h),List.Pairwise.nil⟩ (fun _ h=>by cases h) (fun _ _=>rfl) (by
   have:=hmd.EG0
   rwa [EG.congr (G':=Gs r [])] at this
   exact fun k=>⟨fun h=>h.elim,fun ⟨x,hx,_⟩=>by cases hx⟩)
  refine V_any _ _ _ _ (phases_ok (Q:=Nor Q) (nor_panicOk Q) hc.1 hc.2.1 hrec hmd hall hk _ lk _ _ h hlk (fun _ h=>h) (fun x hx hn=>absurd hx hn) (by simp) ?_ ops.size ?_ [] vs _ ?_ ?_)
  ·intro k o _ hM
   have:(Array.replicate ops.size false).getD k false=false:=by
    rw [Array.getD_eq_getD_getElem?,Array.getElem?_replicate]
    split<;>rfl
   rw [this] at hM;cases hM
  ·unfold unl;simp
  ·rw [List.append_nil];exact hs.hideS _
  ·rw [List.append_nil];exact hg
 ·rw [Bool.not_eq_true] at hc
  rw [hc] at h;cases h
end
theorem regS_noDefer{hl:FuncId→Option (List SV→Tr→Nat→Option (SV×St))}{X:Ctx}{rec:FuncId→List SV→Tr→Nat→Option (SV×St)}{ops:Array Oper}{st st':St}(h:regS hl X rec ops st=some st'):ops.all noDefer=true:=by
 unfold regS at h
 by_cases hc:(Region.noSelect ops&&(selfOk ops&&ops.toList.all noDefer))=true
 ·simp only [Bool.and_eq_true] at hc
  rw [←Array.all_toList];exact hc.2.2
 ·rw [Bool.not_eq_true] at hc
  rw [hc] at h;cases h
section
variable {m:Option Nat}{n:Nat}{P:Program}{ops:Array Oper}{Q:Post}
theorem opIn_FR{o:Oper}{a:Act}{w:World}{K K':Act→World→Prop}(hd:noDefer o=true)(hK:∀a w,K a w→K' a w)(h:o.wp P a w K (Nor Q)):o.wpIn (FR m) n P a w K' Q:=by
 refine ⟨fun f _=>FR_fn m f,?_⟩
 rw [Oper.semAt_eq _ _ _ (fun c hc=>by rw [noDefer,hc] at hd;cases hd)]
 unfold Oper.wp at h
 generalize (execOp a.eval o).run P w=x at *
 cases x with
 |ok x w' =>
  cases x<;>simp only [Oper.upon,Oper.uponIn] at h ⊢
  case value u=>exact hK _ _ h
  case skip=>exact hK _ _ h
  case defer d=>exact hK _ _ h
  case enter f args =>
   refine ⟨fun h=>FR_depth m h,calls_FR (h.mono fun e w'' he=>?_)⟩
   cases e with
   |returned u=>exact hK _ _ he
   |panicked c=>exact he.elim
   |outgrown=>obtain ⟨_,_,hh⟩:=he;exact hh.elim
  case row row args =>
   refine ⟨fun h=>FR_depth m h,fun c cs _=>?_⟩
   obtain ⟨v,w2,r,s⟩:=h c cs
   refine ⟨v,w2,hK _ _ r,?_⟩
   cases m with
   |none=>exact stepsIn_wide.2 s
   |some l=>exact stepsIn_wide.2 s
 |halt x w' =>
  cases x<;>simp only [Oper.upon,Oper.uponIn] at h ⊢
  case panic u=>exact h.elim
theorem anyIn_FR(hn:ops.all noDefer=true):
 ∀(fuel:Nat) (listed:Array Bool) (a:Act) (w:World),wpAny P .any ops (Nor Q) fuel listed a w→wpAnyIn (FR m) n P .any ops Q fuel listed a w:=by
 intro fuel
 induction fuel with
 |zero=>exact fun _ _ _ h=>h
 |succ f ih =>
  intro listed a w h
  refine ⟨h.1,fun i hi=>?_⟩
  have h2:=h.2 i hi
  unfold wpOp at h2
  unfold wpOpIn
  cases ho:ops[i]? with
  |none=>rw [ho] at h2;exact ih _ _ _ h2
  |some o =>
   rw [ho] at h2
   simp only at h2 ⊢
   have hno:noDefer o=true:=Array.all_eq_true_iff_forall_mem.1 hn o (Array.mem_of_getElem? ho)
   by_cases hw:Region.wanted o (yielded ops a.tmps)=true
   ·rw [if_pos hw] at h2 ⊢
    rcases h2 with h2|h2
    ·exact opIn_FR hno (fun a w hh=>ih _ a w hh) h2
    ·obtain ⟨_,_,hh⟩:=h2.2
     exact hh.elim
   ·rw [if_neg hw] at h2 ⊢
    exact ⟨fun f _=>FR_fn m f,ih _ _ _ h2⟩
noncomputable def tailOk(ops:Array Oper)(m:Nat):Bool:=Nat.beq ops.size (m+2)&&(ops.toList.all (fun o=>o.guard.isNone&&noDefer o)&&((List.range (m+2)).all (fun i=>match ops[i]? with
 |some o=>o.after.toList.all fun e=>!Region.binds .any e || Nat.blt e.on i
 |none=>false)&&((List.range m).all (fun i=>bitB (closB ops m (afterM ops m)) i)&&(edgesOf ops (m+1)).contains m)))
theorem tail_any{a:Act}{w:World}{j:Nat}{oc ot:Oper}(h:tailOk ops j=true)(hoc:ops[j]?=some oc)(hot:ops[j+1]?=some ot)
 (hp:wpAny P .any (ops.toList.take j).toArray (Nor fun _ a w=>wpListIn (FR m) n P ops Q [oc,ot] a w) j (Array.replicate j false) a w):wpAnyIn (FR m) n P .any ops Q ops.size (Array.replicate ops.size false) a w:=by
 unfold tailOk at h
 simp only [Bool.and_eq_true,List.all_eq_true] at h
 obtain ⟨hsz,hgd,hed,han,htl⟩:=h
 have hsz:ops.size=j+2:=Nat.eq_of_beq_eq_true hsz
 have hg:∀i o,ops[i]?=some o→o.guard=none∧noDefer o=true:=fun i o ho=>by
  have:=hgd o (by have:=Array.mem_of_getElem? ho;simpa using this)
  exact ⟨by simpa using this.1,this.2⟩
 have hbk:∀i o,ops[i]?=some o→∀e∈o.after,Region.binds .any e=true→e.on<i:=fun i o ho e he hb=>by
  have hi:i<ops.size:=(Array.getElem?_eq_some_iff.1 ho).1
  have:=hed i (by simp;omega)
  rw [ho] at this
  have:=List.all_eq_true.1 this e (by simpa using he)
  simpa [hb,blt_iff] using this
 have hpre:∀i,i<j→(ops.toList.take j).toArray[i]?=ops[i]?:=fun i hi=>by simp [hi]
 have hpre2:∀i,¬ i<j→(ops.toList.take j).toArray[i]?=none:=fun i hi=>by simp [List.getElem?_take,hi]
 have hedm:∀k,k∈edgesOf ops (j+1)↔∃e∈ot.after,Region.binds .any e=true∧e.on=k:=fun k=>by
  unfold edgesOf
  rw [hot]
  simp only [List.mem_map,List.mem_filter]
  exact ⟨fun ⟨e,⟨h1,h2⟩,h3⟩=>⟨e,by simpa using h1,h2,h3⟩,fun ⟨e,h1,h2,h3⟩=>⟨e,⟨by simpa using h1,h2⟩,h3⟩⟩
 obtain ⟨et,het,hetb,heto⟩:=(hedm j).1 (by simpa using htl)
 have wantd:∀i o (t:Array Value),ops[i]?=some o→Region.wanted o (yielded ops t)=true:=fun i o t ho=>by unfold Region.wanted;rw [(hg i o ho).1]
 have inr:∀{M:Array Bool} {i:Nat},i<M.size→M.getD i false=true→M.getD i true=true:=fun h1 h2=>by rw [getD_conv h1];exact h2
 have notin:∀{M:Array Bool} {i:Nat},i<M.size→M.getD i false=true→i ∉ Region.ready .any ops M:=fun h1 h2 h=>by
  have:=(mem_ready.1 h).1
  rw [inr h1 h2] at this;cases this
 have done:∀(f:Nat) (M:Array Bool) (a:Act) (w:World),Region.ready .any ops M=[]→Q .normal a w→wpAnyIn (FR m) n P .any ops Q f M a w:=fun f M a w hr h=>by
  cases f with
  |zero=>exact ⟨hr,h⟩
  |succ f=>exact ⟨fun _=>h,by rw [hr];simp⟩
 have setj:∀(M:Array Bool) (i k:Nat),i<M.size→(M.setIfInBounds i true).getD k false=if i=k then true else M.getD k false:=fun M i k hi=>by
  by_cases e:i=k
  ·subst e;simp [hi]
  ·rw [getD_set_ne false e,if_neg e]
 have fin:∀(M:Array Bool) (a:Act) (w:World),M.size=j+2→(∀i,i<j→M.getD i false=true)→M.getD j false=false→M.getD (j+1) false=false→wpListIn (FR m) n P ops Q [oc,ot] a w→∀f,wpAnyIn (FR m) n P .any ops Q (f+2) M a w:=by
  intro M a w hM hall hj hj1 hw f
  have hjr:j∈Region.ready .any ops M:=mem_ready.2 ⟨by rw [getD_conv (by omega)];exact hj,oc,hoc,fun e he hb=>hall _ (hbk j oc hoc e he hb)⟩
  refine ⟨fun h=>(by rw [h] at hjr;cases hjr),fun i hi=>?_⟩
  obtain ⟨hi1,o,ho,hi2⟩:=mem_ready.1 hi
  have hij:i=j:=by
   have h1:i<ops.size:=(Array.getElem?_eq_some_iff.1 ho).1
   rcases Nat.lt_trichotomy i j with h|h|h
   ·exact absurd hi (notin (by omega) (hall i h))
   ·exact h
   ·obtain rfl:i=j+1:=by omega
    rw [hot] at ho;cases ho
    have:=hi2 et het hetb
    rw [heto,hj] at this;cases this
  subst hij
  unfold wpListIn at hw
  rw [if_pos (wantd i oc _ hoc)] at hw
  unfold wpOpIn
  rw [hoc]
  simp only
  rw [if_pos (wantd i oc _ hoc)]
  refine Oper.wpIn_mono (fun a' w' h2=>?_) hw
  have hM2:(M.setIfInBounds i true).size=i+2:=by simpa using hM
  have htr:i+1∈Region.ready .any ops (M.setIfInBounds i true):=mem_ready.2 ⟨by rw [getD_conv (by omega),setj M i _ (by omega),if_neg (by omega)];exact hj1,ot,hot,fun e he hb=>by
   have:=hbk (i+1) ot hot e he hb
   rw [setj M i _ (by omega)]
   by_cases e1:i=e.on
   ·rw [if_pos e1]
   ·rw [if_neg e1];exact hall _ (by omega)⟩
  have hall2:∀k,k<i+1→(M.setIfInBounds i true).getD k false=true:=fun k hk=>by
   rw [setj M i _ (by omega)]
   by_cases e1:i=k
   ·rw [if_pos e1]
   ·rw [if_neg e1];exact hall _ (by omega)
  refine ⟨fun h=>(by rw [h] at htr;cases htr),fun k hk=>?_⟩
  obtain ⟨hk1,o',ho',hk2⟩:=mem_ready.1 hk
  have hki:k=i+1:=by
   have h1:k<ops.size:=(Array.getElem?_eq_some_iff.1 ho').1
   rcases Nat.lt_or_ge k (i+1) with h|h
   ·exact absurd hk (notin (by omega) (hall2 k h))
   ·omega
  subst hki
  unfold wpListIn at h2
  rw [if_pos (wantd _ ot _ hot)] at h2
  unfold wpOpIn
  rw [hot]
  simp only
  rw [if_pos (wantd _ ot _ hot)]
  refine Oper.wpIn_mono (fun a'' w'' h3=>done f _ a'' w'' ?_ h3) h2
  refine List.eq_nil_iff_forall_not_mem.2 fun x hx=>?_
  obtain ⟨hx1,o'',ho'',_⟩:=mem_ready.1 hx
  have h1:x<ops.size:=(Array.getElem?_eq_some_iff.1 ho'').1
  refine notin (by simp;omega) ?_ hx
  rw [setj _ _ _ (by omega)]
  by_cases e1:i+1=x
  ·rw [if_pos e1]
  ·rw [if_neg e1];exact hall2 x (by omega)
 have key:∀(f:Nat) (L' M:Array Bool) (a:Act) (w:World),L'.size=j→M.size=j+2→(∀i,i<j→M.getD i false=L'.getD i false)→M.getD j false=false→M.getD (j+1) false=false→Clo ops M→wpAny P .any (ops.toList.take j).toArray (Nor fun _ a w=>wpListIn (FR m) n P ops Q [oc,ot] a w) f L' a w →
  wpAnyIn (FR m) n P .any ops Q (f+2) M a w:=by
  intro f
  have allOf:∀(L' M:Array Bool),L'.size=j→M.size=j+2→(∀i,i<j→M.getD i false=L'.getD i false)→Region.ready .any (ops.toList.take j).toArray L'=[]→∀i,i<j→M.getD i false=true:=by
   intro L' M hL hM hrel hr i
   induction i using Nat.strongRecOn with
   |ind i ihi =>
    intro hi
    cases hc:M.getD i false with
    |true=>rfl
    |false =>
     obtain ⟨o,ho⟩:∃o,ops[i]?=some o:=⟨ops[i]'(by omega),Array.getElem?_eq_getElem (by omega)⟩
     have:i∈Region.ready .any (ops.toList.take j).toArray L':=mem_ready.2 ⟨by rw [getD_conv (by omega),←hrel i hi];exact hc,o,by rw [hpre i hi];exact ho,fun e he hb=>by
      have h1:=hbk i o ho e he hb
      rw [←hrel _ (by omega)]
      exact ihi _ h1 (by omega)⟩
     rw [hr] at this;cases this
  have back:∀(L' M:Array Bool),L'.size=j→M.size=j+2→(∀i,i<j→M.getD i false=L'.getD i false)→M.getD j false=false→Clo ops M→Region.ready .any (ops.toList.take j).toArray L'≠[]→∀i,i∈Region.ready .any ops M→i<j∧i∈Region.ready .any (ops.toList.take j).toArray L':=by
   intro L' M hL hM hrel hj hcl hr i hi
   obtain ⟨hi1,o,ho,hi2⟩:=mem_ready.1 hi
   have h1:i<ops.size:=(Array.getElem?_eq_some_iff.1 ho).1
   rcases Nat.lt_trichotomy i j with h|h|h
   ·refine ⟨h,mem_ready.2 ⟨?_,o,by rw [hpre i h];exact ho,fun e he hb=>?_⟩⟩
    ·rw [getD_conv (by omega),←hrel i h,←getD_conv (by omega)];exact hi1
    ·have:=hbk i o ho e he hb
     rw [←hrel _ (by omega)];exact hi2 e he hb
   ·exfalso
    subst h
    rw [hoc] at ho;cases ho
    have hdir:∀k∈edgesOf ops i,M.getD k false=true:=fun k hk=>by
     unfold edgesOf at hk
     rw [hoc] at hk
     obtain ⟨e,he,rfl⟩:=List.mem_map.1 hk
     obtain ⟨he1,he2⟩:=List.mem_filter.1 he
     exact hi2 e (by simpa using he1) he2
    apply hr
    refine List.eq_nil_iff_forall_not_mem.2 fun x hx=>?_
    obtain ⟨hx1,o',ho',_⟩:=mem_ready.1 hx
    have hxj:x<i:=by
     rcases Nat.lt_or_ge x i with h|h
     ·exact h
     ·rw [hpre2 x (by omega)] at ho';cases ho'
    have hc:=han x (by simpa using hxj)
    have:=closB_ok hcl i (afterM ops i) (fun k hk=>hdir k (bitsL_ok.1 hk)) x (by rw [←bitB_eq];simpa using hc)
    rw [hrel x hxj] at this
    rw [getD_conv (by omega),this] at hx1;cases hx1
   ·exfalso
    obtain rfl:i=j+1:=by omega
    rw [hot] at ho;cases ho
    have:=hi2 et het hetb
    rw [heto,hj] at this;cases this
  induction f with
  |zero =>
   intro L' M a w hL hM hrel hj hj1 hcl hw
   exact fin M a w hM (allOf L' M hL hM hrel hw.1) hj hj1 hw.2 0
  |succ f ih =>
   intro L' M a w hL hM hrel hj hj1 hcl hw
   obtain ⟨hw0,hw1⟩:=hw
   by_cases hr:Region.ready .any (ops.toList.take j).toArray L'=[]
   ·exact fin M a w hM (allOf L' M hL hM hrel hr) hj hj1 (hw0 hr) (f+1)
   ·refine ⟨fun h=>?_,fun i hi=>?_⟩
    ·obtain ⟨x,hx⟩:=List.exists_mem_of_ne_nil _ hr
     obtain ⟨hx1,o',ho',hx2⟩:=mem_ready.1 hx
     have hxj:x<j:=by
      rcases Nat.lt_or_ge x j with h|h
      ·exact h
      ·rw [hpre2 x (by omega)] at ho';cases ho'
     rw [hpre x hxj] at ho'
     have:x∈Region.ready .any ops M:=mem_ready.2 ⟨by rw [getD_conv (by omega),hrel x hxj,←getD_conv (by omega)];exact hx1,o',ho',fun e he hb=>by
      have:=hbk x o' ho' e he hb
      rw [hrel _ (by omega)];exact hx2 e he hb⟩
     rw [h] at this;cases this
    ·obtain ⟨hij,hir⟩:=back L' M hL hM hrel hj hcl hr i hi
     have h2:=hw1 i hir
     obtain ⟨hi1,o,ho,hi2⟩:=mem_ready.1 hi
     unfold wpOp at h2
     rw [hpre i hij,ho] at h2
     simp only at h2
     have hwp:∀t,Region.wanted o (yielded (ops.toList.take j).toArray t)=true:=fun t=>by unfold Region.wanted;rw [(hg i o ho).1]
     rw [if_pos (hwp _)] at h2
     unfold wpOpIn
     rw [ho]
     simp only
     rw [if_pos (wantd i o _ ho)]
     rcases h2 with h2|h2
     ·have h3:o.wp P a w (fun a' w'=>wpAny P .any (ops.toList.take j).toArray (Nor fun _ a w=>wpListIn (FR m) n P ops Q [oc,ot] a w) f (L'.setIfInBounds i true) a' w') (Nor Q):=by
       unfold Oper.wp at h2 ⊢
       generalize (execOp a.eval o).run P w=x at *
       cases x with
       |ok x w' =>
        cases x<;>simp only [Oper.upon] at h2 ⊢<;>exact h2
       |halt x w' =>
        cases x<;>simp only [Oper.upon] at h2 ⊢
        case panic u=>exact h2.elim
      refine opIn_FR (hg i o ho).2 (fun a' w' h4=>ih _ _ a' w' (by simpa using hL) (by simpa using hM) (fun k hk=>?_) ?_ ?_ (hcl.set hi) h4) h3
      ·rw [setj M i k (by omega),setj L' i k (by omega),hrel k hk]
      ·rw [setj M i j (by omega),if_neg (by omega)];exact hj
      ·rw [setj M i _ (by omega),if_neg (by omega)];exact hj1
     ·obtain ⟨_,_,hh⟩:=h2.2
      exact hh.elim
 have:=key j (Array.replicate j false) (Array.replicate ops.size false) a w (by simp) (by simp [hsz]) (fun i hi=>?_) (by simp [hsz]) (by simp [hsz]) (fun k o _ hM=>?_) hp
 ·rw [hsz] at this ⊢;exact this
 ·simp [hsz,hi,Nat.lt_of_lt_of_le hi (Nat.le_add_right j 2)]
 ·have:(Array.replicate ops.size false).getD k false=false:=by
   rw [Array.getD_eq_getD_getElem?,Array.getElem?_replicate]
   split<;>rfl
  rw [this] at hM;cases hM
noncomputable def tailOk1(ops:Array Oper)(m:Nat):Bool:=Nat.beq ops.size (m+1)&&(ops.toList.all (fun o=>o.guard.isNone&&noDefer o)&&((List.range (m+1)).all (fun i=>match ops[i]? with
 |some o=>o.after.toList.all fun e=>!Region.binds .any e || Nat.blt e.on i
 |none=>false)&&(List.range m).all (fun i=>bitB (closB ops m (afterM ops m)) i)))
theorem tail_any1{a:Act}{w:World}{j:Nat}{oc:Oper}(h:tailOk1 ops j=true)(hoc:ops[j]?=some oc)
 (hp:wpAny P .any (ops.toList.take j).toArray (Nor fun _ a w=>wpListIn (FR m) n P ops Q [oc] a w) j (Array.replicate j false) a w):wpAnyIn (FR m) n P .any ops Q ops.size (Array.replicate ops.size false) a w:=by
 unfold tailOk1 at h
 simp only [Bool.and_eq_true,List.all_eq_true] at h
 obtain ⟨hsz,hgd,hed,han⟩:=h
 have hsz:ops.size=j+1:=Nat.eq_of_beq_eq_true hsz
 have hg:∀i o,ops[i]?=some o→o.guard=none∧noDefer o=true:=fun i o ho=>by
  have:=hgd o (by have:=Array.mem_of_getElem? ho;simpa using this)
  exact ⟨by simpa using this.1,this.2⟩
 have hbk:∀i o,ops[i]?=some o→∀e∈o.after,Region.binds .any e=true→e.on<i:=fun i o ho e he hb=>by
  have hi:i<ops.size:=(Array.getElem?_eq_some_iff.1 ho).1
  have:=hed i (by simp;omega)
  rw [ho] at this
  have:=List.all_eq_true.1 this e (by simpa using he)
  simpa [hb,blt_iff] using this
 have hpre:∀i,i<j→(ops.toList.take j).toArray[i]?=ops[i]?:=fun i hi=>by simp [hi]
 have hpre2:∀i,¬ i<j→(ops.toList.take j).toArray[i]?=none:=fun i hi=>by simp [List.getElem?_take,hi]
 have wantd:∀i o (t:Array Value),ops[i]?=some o→Region.wanted o (yielded ops t)=true:=fun i o t ho=>by unfold Region.wanted;rw [(hg i o ho).1]
 have inr:∀{M:Array Bool} {i:Nat},i<M.size→M.getD i false=true→M.getD i true=true:=fun h1 h2=>by rw [getD_conv h1];exact h2
 have notin:∀{M:Array Bool} {i:Nat},i<M.size→M.getD i false=true→i ∉ Region.ready .any ops M:=fun h1 h2 h=>by
  have:=(mem_ready.1 h).1
  rw [inr h1 h2] at this;cases this
 have done:∀(f:Nat) (M:Array Bool) (a:Act) (w:World),Region.ready .any ops M=[]→Q .normal a w→wpAnyIn (FR m) n P .any ops Q f M a w:=fun f M a w hr h=>by
  cases f with
  |zero=>exact ⟨hr,h⟩
  |succ f=>exact ⟨fun _=>h,by rw [hr];simp⟩
 have setj:∀(M:Array Bool) (i k:Nat),i<M.size→(M.setIfInBounds i true).getD k false=if i=k then true else M.getD k false:=fun M i k hi=>by
  by_cases e:i=k
  ·subst e;simp [hi]
  ·rw [getD_set_ne false e,if_neg e]
 have fin:∀(M:Array Bool) (a:Act) (w:World),M.size=j+1→(∀i,i<j→M.getD i false=true)→M.getD j false=false→wpListIn (FR m) n P ops Q [oc] a w→∀f,wpAnyIn (FR m) n P .any ops Q (f+1) M a w:=by
  intro M a w hM hall hj hw f
  have hjr:j∈Region.ready .any ops M:=mem_ready.2 ⟨by rw [getD_conv (by omega)];exact hj,oc,hoc,fun e he hb=>hall _ (hbk j oc hoc e he hb)⟩
  refine ⟨fun h=>(by rw [h] at hjr;cases hjr),fun i hi=>?_⟩
  obtain ⟨hi1,o,ho,hi2⟩:=mem_ready.1 hi
  have hij:i=j:=by
   have h1:i<ops.size:=(Array.getElem?_eq_some_iff.1 ho).1
   rcases Nat.lt_or_ge i j with h|h
   ·exact absurd hi (notin (by omega) (hall i h))
   ·omega
  subst hij
  unfold wpListIn at hw
  rw [if_pos (wantd i oc _ hoc)] at hw
  unfold wpOpIn
  rw [hoc]
  simp only
  rw [if_pos (wantd i oc _ hoc)]
  refine Oper.wpIn_mono (fun a' w' h2=>done f _ a' w' ?_ h2) hw
  refine List.eq_nil_iff_forall_not_mem.2 fun x hx=>?_
  obtain ⟨hx1,o'',ho'',_⟩:=mem_ready.1 hx
  have h1:x<ops.size:=(Array.getElem?_eq_some_iff.1 ho'').1
  refine notin (by simp;omega) ?_ hx
  rw [setj _ _ _ (by omega)]
  by_cases e1:i=x
  ·rw [if_pos e1]
  ·rw [if_neg e1];exact hall x (by omega)
 have key:∀(f:Nat) (L' M:Array Bool) (a:Act) (w:World),L'.size=j→M.size=j+1→(∀i,i<j→M.getD i false=L'.getD i false)→M.getD j false=false→Clo ops M→wpAny P .any (ops.toList.take j).toArray (Nor fun _ a w=>wpListIn (FR m) n P ops Q [oc] a w) f L' a w →
  wpAnyIn (FR m) n P .any ops Q (f+1) M a w:=by
  intro f
  have allOf:∀(L' M:Array Bool),L'.size=j→M.size=j+1→(∀i,i<j→M.getD i false=L'.getD i false)→Region.ready .any (ops.toList.take j).toArray L'=[]→∀i,i<j→M.getD i false=true:=by
   intro L' M hL hM hrel hr i
   induction i using Nat.strongRecOn with
   |ind i ihi =>
    intro hi
    cases hc:M.getD i false with
    |true=>rfl
    |false =>
     obtain ⟨o,ho⟩:∃o,ops[i]?=some o:=⟨ops[i]'(by omega),Array.getElem?_eq_getElem (by omega)⟩
     have:i∈Region.ready .any (ops.toList.take j).toArray L':=mem_ready.2 ⟨by rw [getD_conv (by omega),←hrel i hi];exact hc,o,by rw [hpre i hi];exact ho,fun e he hb=>by
      have h1:=hbk i o ho e he hb
      rw [←hrel _ (by omega)]
      exact ihi _ h1 (by omega)⟩
     rw [hr] at this;cases this
  have back:∀(L' M:Array Bool),L'.size=j→M.size=j+1→(∀i,i<j→M.getD i false=L'.getD i false)→M.getD j false=false→Clo ops M→Region.ready .any (ops.toList.take j).toArray L'≠[]→∀i,i∈Region.ready .any ops M→i<j∧i∈Region.ready .any (ops.toList.take j).toArray L':=by
   intro L' M hL hM hrel hj hcl hr i hi
   obtain ⟨hi1,o,ho,hi2⟩:=mem_ready.1 hi
   have h1:i<ops.size:=(Array.getElem?_eq_some_iff.1 ho).1
   rcases Nat.lt_trichotomy i j with h|h|h
   ·refine ⟨h,mem_ready.2 ⟨?_,o,by rw [hpre i h];exact ho,fun e he hb=>?_⟩⟩
    ·rw [getD_conv (by omega),←hrel i h,←getD_conv (by omega)];exact hi1
    ·have:=hbk i o ho e he hb
     rw [←hrel _ (by omega)];exact hi2 e he hb
   ·exfalso
    subst h
    rw [hoc] at ho;cases ho
    have hdir:∀k∈edgesOf ops i,M.getD k false=true:=fun k hk=>by
     unfold edgesOf at hk
     rw [hoc] at hk
     obtain ⟨e,he,rfl⟩:=List.mem_map.1 hk
     obtain ⟨he1,he2⟩:=List.mem_filter.1 he
     exact hi2 e (by simpa using he1) he2
    apply hr
    refine List.eq_nil_iff_forall_not_mem.2 fun x hx=>?_
    obtain ⟨hx1,o',ho',_⟩:=mem_ready.1 hx
    have hxj:x<i:=by
     rcases Nat.lt_or_ge x i with h|h
     ·exact h
     ·rw [hpre2 x (by omega)] at ho';cases ho'
    have hc:=han x (by simpa using hxj)
    have:=closB_ok hcl i (afterM ops i) (fun k hk=>hdir k (bitsL_ok.1 hk)) x (by rw [←bitB_eq];simpa using hc)
    rw [hrel x hxj] at this
    rw [getD_conv (by omega),this] at hx1;cases hx1
   ·omega
  induction f with
  |zero =>
   intro L' M a w hL hM hrel hj hcl hw
   exact fin M a w hM (allOf L' M hL hM hrel hw.1) hj hw.2 0
  |succ f ih =>
   intro L' M a w hL hM hrel hj hcl hw
   obtain ⟨hw0,hw1⟩:=hw
   by_cases hr:Region.ready .any (ops.toList.take j).toArray L'=[]
   ·exact fin M a w hM (allOf L' M hL hM hrel hr) hj (hw0 hr) (f+1)
   ·refine ⟨fun h=>?_,fun i hi=>?_⟩
    ·obtain ⟨x,hx⟩:=List.exists_mem_of_ne_nil _ hr
     obtain ⟨hx1,o',ho',hx2⟩:=mem_ready.1 hx
     have hxj:x<j:=by
      rcases Nat.lt_or_ge x j with h|h
      ·exact h
      ·rw [hpre2 x (by omega)] at ho';cases ho'
     rw [hpre x hxj] at ho'
     have:x∈Region.ready .any ops M:=mem_ready.2 ⟨by rw [getD_conv (by omega),hrel x hxj,←getD_conv (by omega)];exact hx1,o',ho',fun e he hb=>by
      have:=hbk x o' ho' e he hb
      rw [hrel _ (by omega)];exact hx2 e he hb⟩
     rw [h] at this;cases this
    ·obtain ⟨hij,hir⟩:=back L' M hL hM hrel hj hcl hr i hi
     have h2:=hw1 i hir
     obtain ⟨hi1,o,ho,hi2⟩:=mem_ready.1 hi
     unfold wpOp at h2
     rw [hpre i hij,ho] at h2
     simp only at h2
     have hwp:∀t,Region.wanted o (yielded (ops.toList.take j).toArray t)=true:=fun t=>by unfold Region.wanted;rw [(hg i o ho).1]
     rw [if_pos (hwp _)] at h2
     unfold wpOpIn
     rw [ho]
     simp only
     rw [if_pos (wantd i o _ ho)]
     rcases h2 with h2|h2
     ·have h3:o.wp P a w (fun a' w'=>wpAny P .any (ops.toList.take j).toArray (Nor fun _ a w=>wpListIn (FR m) n P ops Q [oc] a w) f (L'.setIfInBounds i true) a' w') (Nor Q):=by
       unfold Oper.wp at h2 ⊢
       generalize (execOp a.eval o).run P w=x at *
       cases x with
       |ok x w' =>
        cases x<;>simp only [Oper.upon] at h2 ⊢<;>exact h2
       |halt x w' =>
        cases x<;>simp only [Oper.upon] at h2 ⊢
        case panic u=>exact h2.elim
      refine opIn_FR (hg i o ho).2 (fun a' w' h4=>ih _ _ a' w' (by simpa using hL) (by simpa using hM) (fun k hk=>?_) ?_ (hcl.set hi) h4) h3
      ·rw [setj M i k (by omega),setj L' i k (by omega),hrel k hk]
      ·rw [setj M i j (by omega),if_neg (by omega)];exact hj
     ·obtain ⟨_,_,hh⟩:=h2.2
      exact hh.elim
 have:=key j (Array.replicate j false) (Array.replicate ops.size false) a w (by simp) (by simp [hsz]) (fun i hi=>?_) (by simp [hsz]) (fun k o _ hM=>?_) hp
 ·rw [hsz] at this ⊢;exact this
 ·simp [hsz,hi,Nat.lt_of_lt_of_le hi (Nat.le_add_right j 1)]
 ·have:(Array.replicate ops.size false).getD k false=false:=by
   rw [Array.getD_eq_getD_getElem?,Array.getElem?_replicate]
   split<;>rfl
  rw [this] at hM;cases hM
end
end Go.Proofs.YtjboelhcieepkaaGreatDoor
namespace Go.Proofs.YtjboelhcieepkaaGreatDoor
set_option maxRecDepth 16384
open Go.RowKit
structure En where
 i:Nat
 w:Nat
 a:Nat
 f:Nat
noncomputable def dM(o:Oper):Nat:=match o.dst with
 |some d=>Nat.pow 2 d
 |none=>0
noncomputable def lM(ops:Array Oper)(o:Oper):Nat:=bitsL (o.looksAt ops)
structure Fr where
 i:Nat
 a:Nat
 d:Nat
 l:Nat
noncomputable def mkF(ops:Array Oper)(j:Nat):Fr:=match ops[j]? with
 |some o=>⟨j,afterM ops j,dM o,lM ops o⟩
 |none=>⟨j,0,0,0⟩
noncomputable def rowsF(ops:Array Oper):List Fr:=(List.range ops.size).map (mkF ops)
noncomputable def okF(i d l:Nat)(r:Fr):Bool:=Nat.beq r.i i || (bitB r.a i || (Nat.beq (Nat.land d (Nat.lor r.l r.d)) 0&&Nat.beq (Nat.land r.d l) 0))
noncomputable def freeM(ops:Array Oper)(i:Nat):Nat:=match ops[i]? with
 |some oi=>bitsL (((rowsF ops).filter fun r=>!okF i (dM oi) (lM ops oi) r).map Fr.i)
 |none=>0
noncomputable def mkE(ops:Array Oper)(i:Nat):En:=⟨i,Nat.pow 2 i,afterM ops i,freeM ops i⟩
noncomputable def tbE(ops:Array Oper):List En:=(List.range ops.size).map (mkE ops)
noncomputable def subB(a m:Nat):Bool:=Nat.beq (Nat.land m a) a
noncomputable def rdE(m:Nat)(e:En):Bool:=Nat.beq (Nat.land m e.w) 0&&subB e.a m
noncomputable def readyG(l:List En)(m:Nat):List En:=List.rec (motive:=fun _=>List En) [] (fun e _ ih=>Bool.rec ih (e::ih) (rdE m e)) l
noncomputable def orL(m:Nat)(l:List En):Nat:=List.rec (motive:=fun _=>Nat) m (fun e _ ih=>Nat.lor ih e.w) l
noncomputable def isOne(l:List En)(c:Nat):Bool:=match l with
 |[e]=>Nat.beq e.i c
 |_=>false
noncomputable def pureTryF(X:Ctx)(ops:Array Oper)(m:Nat)(ts:Sl)(hpF:Nat→Tr)(nx:Nat):List En→Option (En×Oper×SV)
 |[]=>none
 |e::es=>match ops[e.i]? with
  |some o=>bif subB e.f m then (match guardS ops ts o.guard with
   |some false=>some (e,o,undefS)
   |some true=>(match pureOp o.op,opS X ⟨ts,hpF e.i,nx⟩ o.op o.type with
    |true,some r=>some (e,o,r.1)
    |_,_=>pureTryF X ops m ts hpF nx es)
   |none=>pureTryF X ops m ts hpF nx es) else pureTryF X ops m ts hpF nx es
  |none=>pureTryF X ops m ts hpF nx es
noncomputable def alOkF(X:Ctx)(ops:Array Oper)(m:Nat)(ts:Sl)(e:En):Bool:=subB e.f m&&(match ops[e.i]? with
 |some o=>(match o.dst with
  |some d=>isU (nth ts d)
  |none=>false)&&(opS X ⟨ts,.e,0⟩ o.op o.type).isSome
 |none=>false)
noncomputable def anyF(X:Ctx)(rec:FuncId→List SV→Tr→Nat→Option (SV×St))(ops:Array Oper)(tb:List En)(stop:Nat→Bool)(hpF:Nat→Tr):Nat→Nat→Sl→Tr→Nat→Option (Nat×St)
 |0,_,_,_,_=>none
 |fu+1,m,ts,hp,nx =>
  bif stopAt stop ((readyG tb m).map En.i) then some (m,⟨ts,hp,nx⟩) else
  bif ((readyG tb m).filter (fun e=>isAl ops ts e.i)).all (alOkF X ops m ts) then
   (match pureTryF X ops m ts hpF nx (readyG tb m) with
   |some (e,o,y)=>anyF X rec ops tb stop hpF fu (Nat.lor m e.w) (putS ts o.dst y) hp nx
   |none=>(match (readyG tb m).filter (fun e=>!isAl ops ts e.i) with
    |[c]=>(match ops[c.i]? with
     |some o=>bif isOne (readyG tb (orL m ((readyG tb m).filter (fun e=>isAl ops ts e.i)))) c.i then (match guardS ops ts o.guard,loudS X rec o ts hp nx with
      |some true,some (y,hp',nx')=>anyF X rec ops tb stop hpF fu (Nat.lor m c.w) (putS ts o.dst y) hp' nx'
      |_,_=>none) else none
     |none=>none)
    |[]=>(match (readyG tb m).filter (fun e=>isAl ops ts e.i) with
     |a::rest=>(match ops[a.i]? with
      |some o=>bif isOne (readyG tb (orL m rest)) a.i then (match opS X ⟨ts,hp,nx⟩ o.op o.type with
       |some (y,hp',nx')=>anyF X rec ops tb stop hpF fu (Nat.lor m a.w) (putS ts o.dst y) hp' nx'
       |none=>none) else none
      |none=>none)
     |[]=>none)
    |_=>none))
  else none
noncomputable def phasesF(X:Ctx)(rec:FuncId→List SV→Tr→Nat→Option (SV×St))(ops:Array Oper)(tb:List En)(tab:List (Nat×Nat))(hpF:Nat→Tr):Nat→List (Nat×HB)→Nat→St→Option St
 |0,_,_,_=>none
 |f+1,lk,m,st=>match anyF X rec ops tb (stopN ops tab lk) hpF (ops.size+1) m st.ts st.hp st.nx with
  |none=>none
  |some (m1,st1)=>match readyG tb m1 with
   |[]=>(match relL (fun _=>true) lk st1.hp with
    |some (hp,_)=>some ⟨st1.ts,hp,st1.nx⟩
    |none=>none)
   |c::_=>(match relL (fun n=>cN ops tab n c.i) lk st1.hp with
    |some (hp,lk')=>phasesF X rec ops tb tab hpF f lk' m1 ⟨st1.ts,hp,st1.nx⟩
    |none=>none)
noncomputable def regGoF(X:Ctx)(rec:FuncId→List SV→Tr→Nat→Option (SV×St))(ops:Array Oper)(st:St)(tab:List (Nat×Nat)):Option St:=match lockL tab st.hp [] with
 |(hp,lk)=>phasesF X rec ops (tbE ops) tab (hpFof tab st.hp) (lk.length+2) lk 0 ⟨hideS ops.toList st.ts,hp,st.nx⟩
noncomputable def regF(hl:FuncId→Option (List SV→Tr→Nat→Option (SV×St)))(X:Ctx)(rec:FuncId→List SV→Tr→Nat→Option (SV×St))(ops:Array Oper)(st:St):Option St :=
 bif Region.noSelect ops&&(selfOk ops&&ops.toList.all noDefer) then regGoF X rec ops st (hintS hl X st.hp st.nx ops.toList 0 st.ts []) else none
def Bits(ops:Array Oper)(L:Array Bool)(m:Nat):Prop:=L.size=ops.size∧∀j,m.testBit j=L.getD j false
theorem subB_iff{a m:Nat}:subB a m=true↔∀k,a.testBit k=true→m.testBit k=true:=by
 unfold subB
 have e:Nat.land m a=m &&& a:=rfl
 constructor
 ·intro h k hk
  have:=Nat.eq_of_beq_eq_true h
  rw [e] at this
  have h2:(m &&& a).testBit k=a.testBit k:=by rw [this]
  rw [Nat.testBit_and,hk] at h2
  simpa using h2
 ·intro h
  rw [e,show (m &&& a)=a from Nat.eq_of_testBit_eq fun k=>by
   rw [Nat.testBit_and]
   cases hk:a.testBit k with
   |false=>simp
   |true=>rw [h k hk];rfl]
  exact Nat.beq_refl a
theorem w_iff{m i:Nat}:Nat.beq (Nat.land m (Nat.pow 2 i)) 0=!m.testBit i:=by
 have e:Nat.land m (Nat.pow 2 i)=m &&& 2 ^ i:=rfl
 rw [e]
 cases h:m.testBit i with
 |false =>
  rw [show m &&& 2 ^ i=0 from Nat.eq_of_testBit_eq fun k=>by
   rw [Nat.testBit_and,Nat.testBit_two_pow,Nat.zero_testBit]
   by_cases hk:i=k
   ·subst hk;rw [h];rfl
   ·simp [hk]]
  rfl
 |true =>
  cases hb:Nat.beq (m &&& 2 ^ i) 0 with
  |false=>rfl
  |true =>
   have h2:(m &&& 2 ^ i).testBit i=true:=by rw [Nat.testBit_and,Nat.testBit_two_pow,h];simp
   rw [Nat.eq_of_beq_eq_true hb,Nat.zero_testBit] at h2
   cases h2
theorem readyG_filter(l:List En)(m:Nat):readyG l m=l.filter (rdE m):=by
 induction l with
 |nil=>rfl
 |cons e l ih =>
  have h:readyG (e::l) m=Bool.rec (readyG l m) (e::readyG l m) (rdE m e):=rfl
  rw [h,ih]
  cases he:rdE m e with
  |false=>simp [he]
  |true=>simp [he]
section
variable {ops:Array Oper}{L:Array Bool}{m:Nat}
theorem rd_eq(hB:Bits ops L m){i:Nat}(hi:i<ops.size):rdE m (mkE ops i)=(!L.getD i true&&((ops[i]?).map (·.after.all fun e=>!Region.binds .any e || L.getD e.on false)).getD false):=by
 unfold rdE mkE
 rw [w_iff,hB.2 i,getD_conv (by rw [hB.1];exact hi)]
 congr 1
 have ho:ops[i]?=some ops[i]:=Array.getElem?_eq_getElem hi
 rw [ho]
 simp only [Option.map_some,Option.getD_some]
 rw [Bool.eq_iff_iff,subB_iff,Array.all_eq_true_iff_forall_mem]
 constructor
 ·intro h e he
  cases hb:Region.binds .any e with
  |false=>rfl
  |true =>
   have:=h e.on (afterM_ok.2 ⟨_,e,ho,he,hb,rfl⟩)
   rw [hB.2] at this
   rw [this];rfl
 ·intro h k hk
  obtain ⟨o,e,ho',he,hb,rfl⟩:=afterM_ok.1 hk
  rw [ho] at ho';cases ho'
  have:=h e he
  rw [hb] at this
  rw [hB.2];simpa using this
theorem ready_eq(hB:Bits ops L m):Region.ready .any ops L=(readyG (tbE ops) m).map En.i:=by
 rw [readyG_filter]
 unfold tbE Region.ready
 rw [List.filter_map,List.map_map]
 have e:(En.i ∘ mkE ops)=id:=rfl
 rw [e,List.map_id]
 refine List.filter_congr fun i hi=>?_
 exact (rd_eq hB (List.mem_range.1 hi)).symm
theorem mem_tb{e:En}(h:e∈readyG (tbE ops) m):e=mkE ops e.i∧e.i<ops.size:=by
 rw [readyG_filter] at h
 obtain ⟨i,hi,rfl⟩:=List.mem_map.1 (List.mem_filter.1 h).1
 exact ⟨rfl,List.mem_range.1 hi⟩
theorem land0{x y:Nat}:Nat.beq (Nat.land x y) 0=true↔∀k,x.testBit k=true→y.testBit k=false:=by
 have e:Nat.land x y=x &&& y:=rfl
 rw [e]
 constructor
 ·intro h k hk
  have h0:=Nat.eq_of_beq_eq_true h
  have:(x &&& y).testBit k=false:=by rw [h0,Nat.zero_testBit]
  rw [Nat.testBit_and,hk] at this
  simpa using this
 ·intro h
  rw [show x &&& y=0 from Nat.eq_of_testBit_eq fun k=>by
   rw [Nat.testBit_and,Nat.zero_testBit]
   cases hk:x.testBit k with
   |false=>rfl
   |true=>rw [h k hk];rfl]
  rfl
theorem dM_bit{o:Oper}{k:Nat}:(dM o).testBit k=true↔o.dst=some k:=by
 unfold dM
 cases o.dst with
 |none=>simp
 |some d =>
  simp only [Option.some.injEq]
  rw [show Nat.pow 2 d=2 ^ d from rfl,Nat.testBit_two_pow,decide_eq_true_eq]
theorem apart_eq{oi oj:Oper}:(Nat.beq (Nat.land (dM oi) (Nat.lor (lM ops oj) (dM oj))) 0&&Nat.beq (Nat.land (dM oj) (lM ops oi)) 0)=oi.apart ops oj:=by
 have l1:∀o k,(lM ops o).testBit k=true↔k∈o.looksAt ops:=fun o k=>bitsL_ok
 rw [Bool.eq_iff_iff,Bool.and_eq_true,land0,land0]
 unfold Oper.apart
 rw [Bool.and_eq_true]
 refine and_congr ?_ ?_
 ·cases hd:oi.dst with
  |none=>exact ⟨fun _=>rfl,fun _ k hk=>by rw [dM_bit,hd] at hk;cases hk⟩
  |some d =>
   simp only [Bool.and_eq_true,Bool.not_eq_true',bne_iff_ne,ne_eq]
   have e:∀k,(dM oi).testBit k=true↔k=d:=fun k=>by rw [dM_bit,hd,Option.some.injEq];exact eq_comm
   constructor
   ·intro h
    have:=h d ((e d).2 rfl)
    rw [show Nat.lor (lM ops oj) (dM oj)=lM ops oj ||| dM oj from rfl,Nat.testBit_or,Bool.or_eq_false_iff] at this
    refine ⟨?_,fun hc=>?_⟩
    ·cases hq:(oj.looksAt ops).contains d with
     |false=>rfl
     |true=>have h3:=(l1 oj d).2 (by simpa using hq);rw [h3] at this;cases this.1
    ·have h3:=dM_bit.2 hc;rw [h3] at this;cases this.2
   ·rintro ⟨h1,h2⟩ k hk
    obtain rfl:=(e k).1 hk
    rw [show Nat.lor (lM ops oj) (dM oj)=lM ops oj ||| dM oj from rfl,Nat.testBit_or,Bool.or_eq_false_iff]
    refine ⟨?_,?_⟩
    ·cases hq:(lM ops oj).testBit k with
     |false=>rfl
     |true=>have:=(l1 oj k).1 hq;rw [List.contains_iff_mem.2 this] at h1;cases h1
    ·cases hq:(dM oj).testBit k with
     |false=>rfl
     |true=>exact absurd (dM_bit.1 hq) h2
 ·cases hd:oj.dst with
  |none=>exact ⟨fun _=>rfl,fun _ k hk=>by rw [dM_bit,hd] at hk;cases hk⟩
  |some d =>
   simp only [Bool.not_eq_true']
   have e:∀k,(dM oj).testBit k=true↔k=d:=fun k=>by rw [dM_bit,hd,Option.some.injEq];exact eq_comm
   constructor
   ·intro h
    have:=h d ((e d).2 rfl)
    cases hq:(oi.looksAt ops).contains d with
    |false=>rfl
    |true=>have h3:=(l1 oi d).2 (by simpa using hq);rw [h3] at this;cases this
   ·intro h1 k hk
    obtain rfl:=(e k).1 hk
    cases hq:(lM ops oi).testBit k with
    |false=>rfl
    |true=>have:=(l1 oi k).1 hq;rw [List.contains_iff_mem.2 this] at h1;cases h1
theorem okF_eq{i j:Nat}{oi oj:Oper}(hj:ops[j]?=some oj):okF i (dM oi) (lM ops oi) (mkF ops j)=(j==i || (oj.after.any (fun e=>Region.binds .any e&&e.on==i) || oi.apart ops oj)):=by
 unfold okF mkF
 rw [hj]
 simp only
 rw [apart_eq,bitB_eq]
 have e1:Nat.beq j i=(j==i):=by rw [beq_iff];rfl
 have e2:(afterM ops j).testBit i=oj.after.any (fun e=>Region.binds .any e&&e.on==i):=by
  rw [Bool.eq_iff_iff,afterM_ok,←Array.any_toList,List.any_eq_true]
  constructor
  ·rintro ⟨o,e,ho,he,hb,rfl⟩
   rw [hj] at ho;cases ho
   exact ⟨e,Array.mem_toList_iff.2 he,by simp [hb]⟩
  ·rintro ⟨e,he,h⟩
   rw [Array.mem_toList_iff] at he
   simp only [Bool.and_eq_true,beq_iff_eq] at h
   exact ⟨oj,e,hj,he,h.1,h.2⟩
 rw [e1,e2]
theorem free_eq(hB:Bits ops L m){i:Nat}(hi:i<ops.size):subB (freeM ops i) m=Region.free .any ops L i:=by
 have ho:ops[i]?=some ops[i]:=Array.getElem?_eq_getElem hi
 unfold freeM Region.free
 rw [ho]
 simp only
 rw [Bool.eq_iff_iff,subB_iff,List.all_eq_true]
 have key:∀j,j<ops.size→((bitsL (((rowsF ops).filter fun r=>!okF i (dM ops[i]) (lM ops ops[i]) r).map Fr.i)).testBit j=true↔okF i (dM ops[i]) (lM ops ops[i]) (mkF ops j)=false):=by
  intro j hj
  have hmi:∀j,(mkF ops j).i=j:=fun j=>by unfold mkF;split<;>rfl
  rw [bitsL_ok,rowsF,List.filter_map,List.map_map]
  simp only [List.mem_map,List.mem_filter,List.mem_range,Function.comp,Bool.not_eq_true']
  constructor
  ·rintro ⟨x,⟨hx,h1⟩,h2⟩
   rw [hmi] at h2;subst h2;exact h1
  ·intro h;exact ⟨j,⟨hj,h⟩,hmi j⟩
 constructor
 ·intro h j hj
  have hjs:=List.mem_range.1 hj
  have h2:=h j
  have hk:=Array.getElem?_eq_getElem hjs
  rw [key j hjs,hB.2,←getD_conv (by rw [hB.1];exact hjs),okF_eq hk] at h2
  rw [hk]
  simp only
  cases hl:L.getD j true with
  |true=>simp
  |false =>
   rw [hl] at h2
   simp only [Bool.or_false]
   cases hc:(j==i || (ops[j].after.any (fun e=>Region.binds .any e&&e.on==i) || ops[i].apart ops ops[j])) with
   |true=>rfl
   |false=>exact absurd (h2 hc) (by simp)
 ·intro h k hk
  by_cases hks:k<ops.size
  ·have h2:=h k (List.mem_range.2 hks)
   have hk':=Array.getElem?_eq_getElem hks
   rw [key k hks,okF_eq hk'] at hk
   rw [hB.2,←getD_conv (by rw [hB.1];exact hks)]
   rw [hk'] at h2
   simp only at h2
   cases hl:L.getD k true with
   |true=>rfl
   |false =>
    rw [hl] at h2
    simp only [Bool.or_false] at h2
    rw [h2] at hk
    cases hk
  ·exfalso
   rw [bitsL_ok] at hk
   obtain ⟨r,hr,rfl⟩:=List.mem_map.1 hk
   obtain ⟨x,hx,rfl⟩:=List.mem_map.1 (List.mem_filter.1 hr).1
   have hmi:(mkF ops x).i=x:=by unfold mkF;split<;>rfl
   rw [hmi] at hks
   exact hks (List.mem_range.1 hx)
theorem Bits.set(hB:Bits ops L m){i:Nat}(hi:i<ops.size):Bits ops (L.setIfInBounds i true) (Nat.lor m (mkE ops i).w):=by
 refine ⟨by rw [Array.size_setIfInBounds];exact hB.1,fun j=>?_⟩
 have e:Nat.lor m (mkE ops i).w=m ||| 2 ^ i:=rfl
 rw [e,Nat.testBit_or,Nat.testBit_two_pow,hB.2]
 by_cases hij:i=j
 ·subst hij
  simp [Array.getD_eq_getD_getElem?,hB.1,hi]
 ·rw [getD_set_ne false hij];simp [hij]
theorem Bits.setL(hB:Bits ops L m):∀(l:List En),(∀e∈l,e=mkE ops e.i∧e.i<ops.size)→Bits ops (setL L (l.map En.i)) (orL m l):=by
 intro l hl
 refine ⟨?_,fun j=>?_⟩
 ·have:∀(l:List Nat) (L:Array Bool),(Go.Proofs.YtjboelhcieepkaaGreatDoor.setL L l).size=L.size:=by
   intro l
   induction l with
   |nil=>intro L;rfl
   |cons i l ih=>intro L;exact (ih _).trans (by simp)
  rw [this];exact hB.1
 ·have hb:(orL m l).testBit j=(m.testBit j || (l.map En.i).contains j):=by
   clear hB
   induction l with
   |nil=>simp [orL]
   |cons e l ih =>
    have h:orL m (e::l)=orL m l ||| e.w:=rfl
    have hw:e.w=2 ^ e.i:=by have:=(hl e (by simp)).1;rw [this];rfl
    rw [h,Nat.testBit_or,ih fun e he=>hl e (by simp [he]),hw,Nat.testBit_two_pow]
    simp only [List.map_cons,List.contains_cons]
    by_cases hij:e.i=j
    ·subst hij;simp
    ·have:¬ j=e.i:=fun h=>hij h.symm
     have hb2:(j==e.i)=false:=beq_eq_false_iff_ne.2 this
     simp [hij,hb2]
  rw [hb,hB.2,Array.getD_eq_getD_getElem?,Array.getD_eq_getD_getElem?,setL_get]
  cases hq:L[j]? with
  |some b=>simp
  |none =>
   have hjs:ops.size≤j:=by rw [←hB.1];exact Array.getElem?_eq_none_iff.1 hq
   have:(l.map En.i).contains j=false:=by
    rw [Bool.eq_false_iff]
    intro hc
    obtain ⟨e,he,rfl⟩:=List.mem_map.1 (by simpa using hc)
    have:=(hl e he).2
    omega
   rw [this];simp
theorem isOne_iff{l:List En}{c:Nat}:isOne l c=decide (l.map En.i=[c]):=by
 unfold isOne
 split
 ·rw [beq_iff];simp
 ·rename_i h
  symm
  rw [decide_eq_false_iff_not]
  intro hc
  match l,hc with
  |[e],_=>exact h e rfl
theorem pureTry_eq{X:Ctx}{ts:Sl}{hpF:Nat→Tr}{nx:Nat}(hB:Bits ops L m):∀(l:List En),(∀e∈l,e=mkE ops e.i∧e.i<ops.size)→pureTry X ops L ts hpF nx (l.map En.i)=(pureTryF X ops m ts hpF nx l).map fun x=>(x.1.i,x.2)
 |[],_=>rfl
 |e::es,hl=>by
  have ih:=pureTry_eq (X:=X) (ts:=ts) (hpF:=hpF) (nx:=nx) hB es fun e he=>hl e (by simp [he])
  obtain ⟨he,hi⟩:=hl e (by simp)
  have hf:subB e.f m=Region.free .any ops L e.i:=by rw [he];exact free_eq hB hi
  simp only [List.map_cons]
  unfold pureTry pureTryF
  rw [hf,ih]
  cases ops[e.i]? with
  |none=>rfl
  |some o =>
   simp only
   cases Region.free .any ops L e.i with
   |false=>rfl
   |true =>
    simp only [cond_true]
    cases guardS ops ts o.guard with
    |none=>rfl
    |some b =>
     cases b with
     |false=>rfl
     |true =>
      simp only
      cases pureOp o.op with
      |false=>rfl
      |true =>
       cases opS X ⟨ts,hpF e.i,nx⟩ o.op o.type with
       |none=>rfl
       |some r=>rfl
theorem alOk_eq{X:Ctx}{ts:Sl}(hB:Bits ops L m){e:En}(he:e=mkE ops e.i∧e.i<ops.size):alOkF X ops m ts e=alOk X ops L ts e.i:=by
 unfold alOkF alOk
 rw [show subB e.f m=Region.free .any ops L e.i by rw [he.1];exact free_eq hB he.2]
 rfl
end
theorem anyF_ok{X:Ctx}{rec:FuncId→List SV→Tr→Nat→Option (SV×St)}{ops:Array Oper}{stop:Nat→Bool}{hpF:Nat→Tr}:∀(fu:Nat) {L:Array Bool} {m:Nat} {ts:Sl} {hp:Tr} {nx:Nat} {m':Nat} {st:St},Bits ops L m →
 anyF X rec ops (tbE ops) stop hpF fu m ts hp nx=some (m',st)→∃L',anyS X rec ops stop hpF fu L ts hp nx=some (L',st)∧Bits ops L' m'
 |0,_,_,_,_,_,_,_,_,h=>by cases h
 |fu+1,L,m,ts,hp,nx,m',st,hB,h=>by
  have hall:∀e∈readyG (tbE ops) m,e=mkE ops e.i∧e.i<ops.size:=fun e he=>mem_tb he
  have hall2:∀(p:En→Bool),∀e∈(readyG (tbE ops) m).filter p,e=mkE ops e.i∧e.i<ops.size:=fun p e he=>hall e (List.mem_filter.1 he).1
  have fl:∀(p:Nat→Bool),((readyG (tbE ops) m).map En.i).filter p=((readyG (tbE ops) m).filter fun e=>p e.i).map En.i:=fun p=>by rw [List.filter_map];rfl
  unfold anyS
  unfold anyF at h
  rw [ready_eq hB]
  cases hst:stopAt stop ((readyG (tbE ops) m).map En.i) with
  |true =>
   rw [hst] at h
   simp only [cond_true] at h ⊢
   cases h
   exact ⟨L,rfl,hB⟩
  |false =>
   rw [hst] at h
   simp only [cond_false] at h ⊢
   have ha:(((readyG (tbE ops) m).map En.i).filter (isAl ops ts)).all (alOk X ops L ts)=((readyG (tbE ops) m).filter (fun e=>isAl ops ts e.i)).all (alOkF X ops m ts):=by
    rw [fl,List.all_map]
    rw [Bool.eq_iff_iff,List.all_eq_true,List.all_eq_true]
    exact ⟨fun h e he=>(alOk_eq hB (hall2 _ e he)).trans (h e he),fun h e he=>(alOk_eq hB (hall2 _ e he)).symm.trans (h e he)⟩
   rw [ha]
   cases hal:((readyG (tbE ops) m).filter (fun e=>isAl ops ts e.i)).all (alOkF X ops m ts) with
   |false=>rw [hal] at h;cases h
   |true =>
    rw [hal] at h
    simp only [cond_true] at h ⊢
    rw [pureTry_eq hB _ hall]
    cases hpt:pureTryF X ops m ts hpF nx (readyG (tbE ops) m) with
    |some x =>
     obtain ⟨e,o,y⟩:=x
     rw [hpt] at h
     simp only [Option.map_some] at h ⊢
     have hmem:∀(l:List En),(∀e∈l,e=mkE ops e.i∧e.i<ops.size)→∀x,pureTryF X ops m ts hpF nx l=some x→x.1=mkE ops x.1.i∧x.1.i<ops.size:=by
      intro l
      induction l with
      |nil=>intro _ x hx;cases hx
      |cons e l ih =>
       intro hl x hx
       have ih':=ih (fun e he=>hl e (by simp [he])) x
       unfold pureTryF at hx
       split at hx
       ·rename_i o ho
        cases hs:subB e.f m with
        |false=>rw [hs] at hx;exact ih' hx
        |true =>
         rw [hs] at hx
         simp only [cond_true] at hx
         split at hx
         ·cases hx;exact hl e (by simp)
         ·split at hx
          ·cases hx;exact hl e (by simp)
          ·exact ih' hx
         ·exact ih' hx
       ·exact ih' hx
     obtain ⟨he,hi⟩:=hmem _ hall _ hpt
     simp only at he hi
     rw [he] at h
     exact anyF_ok fu (hB.set hi) h
    |none =>
     rw [hpt] at h
     simp only [Option.map_none] at h ⊢
     rw [fl,fl]
     split at h
     ·rename_i c hc
      rw [hc]
      simp only [List.map_cons,List.map_nil]
      have hcm:=hall2 (fun e=>!isAl ops ts e.i) c (by rw [hc];simp)
      split at h
      ·rename_i o ho
       rw [ho]
       simp only
       have hset:=hB.setL ((readyG (tbE ops) m).filter fun e=>isAl ops ts e.i) (hall2 _)
       rw [ready_eq hset,←isOne_iff]
       cases hon:isOne (readyG (tbE ops) (orL m ((readyG (tbE ops) m).filter fun e=>isAl ops ts e.i))) c.i with
       |false=>rw [hon] at h;cases h
       |true =>
        rw [hon] at h
        simp only [cond_true] at h ⊢
        split at h
        ·rename_i y hp' nx' hg hl
         rw [hg,hl]
         simp only
         rw [hcm.1] at h
         exact anyF_ok fu (hB.set hcm.2) h
        ·cases h
      ·cases h
     ·rename_i hc
      rw [hc]
      simp only [List.map_nil]
      split at h
      ·rename_i a rest har
       rw [har]
       simp only [List.map_cons]
       have ham:=hall2 (fun e=>isAl ops ts e.i) a (by rw [har];simp)
       split at h
       ·rename_i o ho
        rw [ho]
        simp only
        have hset:=hB.setL rest (fun e he=>hall2 (fun e=>isAl ops ts e.i) e (by rw [har];simp [he]))
        rw [ready_eq hset,←isOne_iff]
        cases hon:isOne (readyG (tbE ops) (orL m rest)) a.i with
        |false=>rw [hon] at h;cases h
        |true =>
         rw [hon] at h
         simp only [cond_true] at h ⊢
         split at h
         ·rename_i y hp' nx' hl
          rw [hl]
          simp only
          rw [ham.1] at h
          exact anyF_ok fu (hB.set ham.2) h
         ·cases h
       ·cases h
      ·cases h
     ·cases h
theorem phasesF_ok{X:Ctx}{rec:FuncId→List SV→Tr→Nat→Option (SV×St)}{ops:Array Oper}{tab:List (Nat×Nat)}{hpF:Nat→Tr}:∀(f:Nat) {lk:List (Nat×HB)} {L:Array Bool} {m:Nat} {st st':St},Bits ops L m →
 phasesF X rec ops (tbE ops) tab hpF f lk m st=some st'→phases X rec ops tab hpF f lk L st=some st'
 |0,_,_,_,_,_,_,h=>by cases h
 |f+1,lk,L,m,st,st',hB,h=>by
  unfold phasesF at h
  unfold phases
  split at h
  ·cases h
  ·rename_i m1 st1 ha
   obtain ⟨L1,ha',hB'⟩:=anyF_ok _ hB ha
   rw [ha']
   simp only
   rw [ready_eq hB']
   split at h
   ·rename_i hr
    rw [hr]
    exact h
   ·rename_i c _ hr
    rw [hr]
    simp only [List.map_cons]
    split at h
    ·rename_i hp lk' hrel
     try rw [hrel]
     exact phasesF_ok f hB' h
    ·cases h
theorem regF_ok{hl:FuncId→Option (List SV→Tr→Nat→Option (SV×St))}{X:Ctx}{rec:FuncId→List SV→Tr→Nat→Option (SV×St)}{ops:Array Oper}{st st':St}(h:regF hl X rec ops st=some st'):regS hl X rec ops st=some st':=by
 unfold regF at h
 unfold regS
 cases hc:(Region.noSelect ops&&(selfOk ops&&ops.toList.all noDefer)) with
 |false=>rw [hc] at h;cases h
 |true =>
  rw [hc] at h
  simp only [cond_true] at h ⊢
  unfold regGoF at h
  unfold regGo1
  split at h
  rename_i hp lk hl
  try rw [hl]
  refine phasesF_ok _ ⟨by simp,fun j=>?_⟩ h
  rw [Nat.zero_testBit,Array.getD_eq_getD_getElem?,Array.getElem?_replicate]
  split<;>rfl
end Go.Proofs.YtjboelhcieepkaaGreatDoor
