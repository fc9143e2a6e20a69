/- A part of the proof of TopSealed. -/
import Derived.Test.YtjboelhcieepkaaGreatDoorW7
noncomputable section
set_option maxRecDepth 16384
namespace Go.Proofs.YtjboelhcieepkaaGreatDoor
open Go.RowKit
section
variable {df:List Deferred}
def aND:List SV->Bool
 |[]=>true
 | .v _::l=>aND l
 |_=>false
def aPH(hl:FuncId->Option (List SV->Tr->Nat->Option (SV×St)))(hp:Tr)(nx:Nat)(o:Oper)(ts:Sl):Sl:=match o.op with
 | .call c=>(match c.callee with
  | .value f=>(match ev ts f with
   | .f (.func g) [] []=>(match hl g with
    |some L=>bif aND (c.args.toList.map (ev ts)) then (match L (c.args.toList.map (ev ts)) hp nx with
     |some (y,_)=>putS ts o.dst y
     |none=>ts) else ts
    |none=>ts)
   |_=>ts)
  |_=>ts)
 |_=>ts
def xT(hl:FuncId->Option (List SV->Tr->Nat->Option (SV×St)))(X:aI)(hp:Tr)(nx:Nat):List Oper->Nat->Sl->List (Nat×Nat)->List (Nat×Nat)
 |[],_,_,ns=>ns
 |o::os,i,ts,ns=>bif mB o.op then
  (match dI X ⟨ts,hp,nx⟩ o.op o.type with
  |some r=>xT hl X hp nx os (i+1) (putS ts o.dst r.1) (match o.op with
   | .load _ x=>(match ev ts x with
    | .p n _=>(i,n)::ns
    |_=>ns)
   | .convert _ _ x=>(match ev ts x with
    | .s n _ _ _=>(i,n)::ns
    | .w n _=>(i,n)::ns
    |_=>ns)
   |_=>ns)
  |none=>xT hl X hp nx os (i+1) ts ns)
  else xT hl X hp nx os (i+1) (aPH hl hp nx o ts) ns
def Q8:List (Nat×Nat)->Nat->Option Nat
 |[],_=>none
 |x::l,k=>bif Nat.beq x.1 k then some x.2 else Q8 l k
def C3(tab:List (Nat×Nat))(hp:Tr)(i:Nat):Tr:=match Q8 tab i with
 |some n=>(match hp.get n with
  |some b=>bif Nat.blt b.k 5 then bC.e.put n b else .e
  |none=>.e)
 |none=>.e
def hideS:List Oper->Sl->Sl
 |[],ts=>ts
 |o::os,ts=>hideS os (bif oA o.op then putS ts o.dst .u else ts)
def sO:List (Nat×Nat)->Tr->List (Nat×HB)->Tr×List (Nat×HB)
 |[],hp,lk=>(hp,lk)
 |x::l,hp,lk=>match hp.get x.2 with
  |some b=>bif Nat.blt b.k 2 then sO l (hp.put x.2 ⟨b.T,b.cs,3⟩) ((x.2,b)::lk) else sO l hp lk
  |none=>sO l hp lk
def rR(p:Nat->Bool):List (Nat×HB)->Tr->Option (Tr×List (Nat×HB))
 |[],hp=>some (hp,[])
 |x::l,hp=>match rR p l hp with
  |some (hp,l')=>bif p x.1 then (match hp.get x.1 with
   |some c=>bif Nat.beq c.k 3 then some (hp.put x.1 x.2,l') else none
   |none=>none) else some (hp,x::l')
  |none=>none
def aCB(ops:Array Oper)(tab:List (Nat×Nat))(lk:List (Nat×HB))(c:Nat):Bool:=lk.any λx=>cN ops tab x.1 c
def xH(X:aI)(rec:FuncId->List SV->Tr->Nat->Option (SV×St))(ops:Array Oper)(tab:List (Nat×Nat))(hpF:Nat->Tr):Nat->List (Nat×HB)->Array Bool->St->Option St
 |0,_,_,_=>none
 |f+1,lk,L,st=>match nW X rec ops (aCB ops tab lk) hpF (ops.size+1) L st.ts st.hp st.nx with
  |none=>none
  |some (L1,eV)=>match Region.ready .any ops L1 with
   |[]=>(match rR (λ_=>true) lk eV.hp with
    |some (hp,_)=>some ⟨eV.ts,hp,eV.nx⟩
    |none=>none)
   |c::_=>(match rR (λn=>cN ops tab n c) lk eV.hp with
    |some (hp,lk')=>xH X rec ops tab hpF f lk' L1 ⟨eV.ts,hp,eV.nx⟩
    |none=>none)
def mN(ops:Array Oper):Bool:=ops.toList.all λo=>!oA o.op || (match o.dst with
 |some d=>!(o.looksAt ops).contains d
 |none=>true)
def B1(X:aI)(rec:FuncId->List SV->Tr->Nat->Option (SV×St))(ops:Array Oper)(st:St)(tab:List (Nat×Nat)):Option St:=match sO tab st.hp [] with
 |(hp,lk)=>xH X rec ops tab (C3 tab st.hp) (lk.length+2) lk (Array.replicate ops.size false) ⟨hideS ops.toList st.ts,hp,st.nx⟩
def z9(hl:FuncId->Option (List SV->Tr->Nat->Option (SV×St)))(X:aI)(rec:FuncId->List SV->Tr->Nat->Option (SV×St))(ops:Array Oper)(st:St):Option St :=
 bif Region.noSelect ops&&(mN ops&&ops.toList.all fU) then B1 X rec ops st (xT hl X st.hp st.nx ops.toList 0 st.ts []) else none
def bX.lock(E:bX)(w:World)(g:Nat):bX:={ E with wU:=w,U:=λk=>E.U k∨k=g,R:=λk=>E.R k∨k=g }
section
variable {E:bX}{r:List aF}{hp:Tr}{nx:Nat}{w w':World}{n:Nat}{b:HB}{M:aF}
theorem aG.lock(hm:aG E r hp nx w)(hn:hp.get n=some b)(hk:b.k<2)(hM:r[n]?=some M):aG (E.lock w M.g) r (hp.put n ⟨b.T,b.cs,3⟩) nx w:=by
 have hlt:M.g<w.heap.size:=by
  obtain ⟨M',hM',hb⟩:=hm.blk n b hn
  rw [hM] at hM';cases hM';exact hb.lt
 have back:∀m c,(hp.put n ⟨b.T,b.cs,3⟩).get m=some c->(m=n∧c=⟨b.T,b.cs,3⟩)∨(m≠n∧hp.get m=some c):=by
  intro m c h
  by_cases e:m=n
  ·rw [bC.get_put,if_pos e] at h;cases h;exact .inl ⟨e,rfl⟩
  ·rw [bC.get_put,if_neg e] at h;exact .inr ⟨e,h⟩
 refine ⟨hm.len,λm c hc=>?_,λn1 n2 b1 c1 L1 M1 h1 h2 hne hk1 hL1 hM1 k hc1 hc2=>?_,hm.below,λk hk2=>?_,λm c L hc hk2 hL k hcv hu=>?_,aS _,λm c L hc hk2 hk5 hL=>?_,λk hk2=>?_,hm.glob⟩
 ·rcases back m c hc with ⟨rfl,rfl⟩|⟨hne,hc⟩
  ·obtain ⟨M',hM',hb⟩:=hm.blk m b hn
   obtain ⟨vs,hd,hv⟩:=hb.cells
   exact ⟨M',hM',vs,hd,.inr (.inr ⟨by show 2≤3;decide,hb.lt,hv,λh=>(by cases h),λh=>(by cases h),λh=>absurd h (by show ¬ 5≤3;decide),λh=>(by cases h)⟩)⟩
  ·obtain ⟨L,hL,hb⟩:=hm.blk m c hc
   exact ⟨L,hL,hb.env (E':=E.lock w M.g) rfl rfl⟩
 ·rcases back n1 b1 h1 with ⟨rfl,rfl⟩|⟨hn1,g1⟩<;>rcases back n2 c1 h2 with ⟨rfl,rfl⟩|⟨hn2,g2⟩
  ·exact absurd rfl hne
  ·exact hm.sep _ _ _ _ _ _ hn g2 hne (by omega) hL1 hM1 k (.inl (hc1.eq (by show 3≠8;decide))) hc2
  ·exact hm.sep _ _ _ _ _ _ g1 hn hne hk1 hL1 hM1 k hc1 (.inl (hc2.eq (by show 3≠8;decide)))
  ·exact hm.sep _ _ _ _ _ _ g1 g2 hne hk1 hL1 hM1 k hc1 hc2
 ·rcases hk2 with hk2|rfl
  ·exact ⟨eQ (hm.fz k hk2).1 hm.up,rfl⟩
  ·exact ⟨hlt,rfl⟩
 ·rcases back m c hc with ⟨rfl,rfl⟩|⟨hne,hc⟩
  ·exact absurd hk2 (by show ¬ (3<2∨5≤3);decide)
  ·rcases hu with hu|hu
   ·exact hm.far m c L hc hk2 hL k hcv hu
   ·exact hm.sep _ _ _ _ _ _ hn hc (Ne.symm hne) (by omega) hM hL k (.inl hu) hcv
 ·rcases back m c hc with ⟨rfl,rfl⟩|⟨hne,hc⟩
  ·rw [hM] at hL;cases hL;exact .inr (.inr rfl)
  ·rcases hm.old m c L hc hk2 hk5 hL with h|h
   ·exact .inl h
   ·exact .inr (.inl h)
 ·rcases hk2 with h|h
  ·exact .inl (hm.rlt k h)
  ·exact .inr h
def EG(E:bX)(w1:World)(G:Nat->Prop):bX:={ E with wU:=w1,U:=λk=>E.U k∨G k,R:=λk=>E.R k∨G k }
theorem EG.congr{w1:World}{G G':Nat->Prop}(h:∀k,G k↔G' k):EG E w1 G=EG E w1 G':=by
 have:G=G':=funext λk=>propext (h k)
 rw [this]
theorem EG.lock{w1:World}{G G':Nat->Prop}{g:Nat}(h:∀k,(G k∨k=g)↔G' k):(EG E w1 G).lock w1 g=EG E w1 G':=by
 have h1:(λk=>(E.U k∨G k)∨k=g)=λk=>E.U k∨G' k:=funext λk=>propext (by rw [<-h k,or_assoc])
 have h2:(λk=>(E.R k∨G k)∨k=g)=λk=>E.R k∨G' k:=funext λk=>propext (by rw [<-h k,or_assoc])
 unfold bX.lock EG
 rw [<-h1,<-h2]
theorem aG.EG0(hm:aG E r hp nx w):aG (EG E w λ_=>False) r hp nx w:=by
 refine { hm with blk:=hm.blk,fz:=λk hk=>⟨?_,rfl⟩,far:=λn b M hn hk hM k hc hu=>?_,up:=aS _,rlt:=λk hk=>?_,old:=λn b M hn hk hk5 hM=>?_ }
 ·rcases hk with hk|hk
  ·exact eQ (hm.fz k hk).1 hm.up
  ·exact hk.elim
 ·rcases hu with hu|hu
  ·exact hm.far n b M hn hk hM k hc hu
  ·exact hu
 ·rcases hm.old n b M hn hk hk5 hM with h|h
  ·exact .inl h
  ·exact .inr (.inl h)
 ·rcases hk with hk|hk
  ·exact .inl (hm.rlt k hk)
  ·exact hk.elim
theorem aG.EGend{w1:World}{r1:List aF}{hp1:Tr}{nx1:Nat}{G:Nat->Prop}(hm:aG E r1 hp1 nx1 w1)(hG:∀k,¬ G k)(hm':aG (EG E w1 G) r hp nx w):aG E r hp nx w:=by
 refine { hm' with blk:=hm'.blk,fz:=λk hk=>⟨(hm.fz k hk).1,(hm'.fz k (.inl hk)).2.trans (hm.fz k hk).2⟩,far:=λn b M hn hk hM k hc hu=>hm'.far n b M hn hk hM k hc (.inl hu),up:=bI hm.up hm'.up,rlt:=hm.rlt,old:=λn b M hn hk hk5 hM=>?_ }
 rcases hm'.old n b M hn hk hk5 hM with h|h|h
 ·exact .inl h
 ·exact .inr h
 ·exact absurd h (hG _)
theorem aG.rel{w1:World}{r1:List aF}{hp1:Tr}{nx1:Nat}{G:Nat->Prop}(hm:aG E r1 hp1 nx1 w1)(hn:hp1.get n=some b)(hk:b.k<2)(hM:r1[n]?=some M)(hg:G M.g){s:List aF}{hp':Tr}{nx':Nat}{c:HB}
 (hm':aG (EG E w1 G) (r1++s) hp' nx' w') (hc:hp'.get n=some c) (hc3:c.k=3):aG (EG E w1 λk=>G k∧k≠M.g) (r1++s) (hp'.put n b) nx' w':=by
 have hM':=jK s hM
 have back:∀m d,(hp'.put n b).get m=some d->(m=n∧d=b)∨(m≠n∧hp'.get m=some d):=by
  intro m d h
  by_cases e:m=n
  ·rw [bC.get_put,if_pos e] at h;cases h;exact .inl ⟨e,rfl⟩
  ·rw [bC.get_put,if_neg e] at h;exact .inr ⟨e,h⟩
 refine ⟨hm'.len,λm d hd=>?_,λn1 n2 b1 c1 L1 M1 h1 h2 hne hk1 hL1 hM1 k hc1 hc2=>?_,hm'.below,λk hk2=>hm'.fz k ?_,λm d L hd hk2 hL k hcv hu=>?_,hm'.up,λm d L hd hk2 hk5 hL=>?_,λk hk2=>?_,hm.glob⟩
 ·rcases back m d hd with ⟨rfl,rfl⟩|⟨hne,hd⟩
  ·obtain ⟨M2,hM2,hb⟩:=hm.blk m d hn
   rw [hM] at hM2;cases hM2
   exact ⟨M,hM',(hb.move s (λk hc=>by rw [hc.eq (by omega)];exact (hm'.fz M.g (.inr hg)).2) hm'.up).env rfl rfl⟩
  ·obtain ⟨L,hL,hb⟩:=hm'.blk m d hd
   exact ⟨L,hL,hb.env rfl rfl⟩
 ·rcases back n1 b1 h1 with ⟨rfl,rfl⟩|⟨hn1,g1⟩<;>rcases back n2 c1 h2 with ⟨rfl,rfl⟩|⟨hn2,g2⟩
  ·exact absurd rfl hne
  ·exact hm'.sep _ _ _ _ _ _ hc g2 hne (by omega) hL1 hM1 k (.inl (hc1.eq (by omega))) hc2
  ·exact hm'.sep _ _ _ _ _ _ g1 hc hne hk1 hL1 hM1 k hc1 (.inl (hc2.eq (by omega)))
  ·exact hm'.sep _ _ _ _ _ _ g1 g2 hne hk1 hL1 hM1 k hc1 hc2
 ·rcases hk2 with h|h
  ·exact .inl h
  ·exact .inr h.1
 ·rcases back m d hd with ⟨rfl,rfl⟩|⟨hne,hd⟩
  ·rw [hM'] at hL;cases hL
   rcases hu with hu|hu
   ·exact hm.far m d M hn (.inl hk) hM k hcv hu
   ·exact hu.2 (hcv.eq (by omega))
  ·rcases hu with hu|hu
   ·exact hm'.far m d L hd hk2 hL k hcv (.inl hu)
   ·exact hm'.far m d L hd hk2 hL k hcv (.inr hu.1)
 ·rcases back m d hd with ⟨rfl,rfl⟩|⟨hne,hd⟩
  ·omega
  ·rcases hm'.old m d L hd hk2 hk5 hL with h|h|h
   ·exact .inl h
   ·exact .inr (.inl h)
   ·exact .inr (.inr ⟨h,λe=>hm'.apart hc hd (Ne.symm hne) (by omega) hM' hL e.symm⟩)
 ·rcases hk2 with h|h
  ·exact .inl (hm.rlt k h)
  ·exact .inr h
def Gs(r1:List aF)(lk:List (Nat×HB))(k:Nat):Prop:=∃x∈lk,∃M,r1[x.1]?=some M∧M.g=k
structure E7(hp1:Tr)(lk:List (Nat×HB)):Prop where
 v:∀x∈lk,hp1.get x.1=some x.2∧x.2.k<2
 nd:lk.Pairwise λx y=>x.1≠y.1
theorem aBA{r1:List aF}{hp1:Tr}{nx1:Nat}{w1:World}(hm:aG E r1 hp1 nx1 w1):∀(l:List (Nat×Nat)) (hp hp':Tr) (lk lk':List (Nat×HB)),sO l hp lk=(hp',lk')->E7 hp1 lk->(∀x∈lk,∃c,hp.get x.1=some c∧c.k=3)->(∀n,(∀x∈lk,x.1≠n)->hp.get n=hp1.get n)->aG (EG E w1 (Gs r1 lk)) r1 hp nx1 w1 ->
 E7 hp1 lk'∧aG (EG E w1 (Gs r1 lk')) r1 hp' nx1 w1∧(∀x∈lk,x∈lk')∧∀x∈l,∀b,hp1.get x.2=some b->b.k<2->(x.2,b)∈lk'
 |[],hp,hp',lk,lk',h,hlk,h3,ho,hg=>by
  cases h
  exact ⟨hlk,hg,λ_ h=>h,λ_ h=>by cases h⟩
 |x::l,hp,hp',lk,lk',h,hlk,h3,ho,hg=>by
  have skip:sO l hp lk=(hp',lk')->(∀b,hp1.get x.2=some b->b.k<2->(x.2,b)∈lk)->_:=λh hx=>by
   obtain ⟨h1,h2,h4,h5⟩:=aBA hm l hp hp' lk lk' h hlk h3 ho hg
   exact (⟨h1,h2,h4,λy hy b hb hk=>by
    rcases bG.1 hy with rfl|hy
    ·exact h4 _ (hx b hb hk)
    ·exact h5 y hy b hb hk⟩:E7 hp1 lk'∧aG (EG E w1 (Gs r1 lk')) r1 hp' nx1 w1∧(∀x∈lk,x∈lk')∧∀y∈x::l,∀b,hp1.get y.2=some b->b.k<2->(y.2,b)∈lk')
  have inlk:(∃y∈lk,y.1=x.2)->∀b,hp1.get x.2=some b->b.k<2->(x.2,b)∈lk:=λ⟨y,hy,e⟩ b hb _=>by
   have:=(hlk.v y hy).1
   rw [e,hb] at this
   cases this
   rw [<-e];exact hy
  unfold sO at h
  split at h
  ·rename_i b hb
   by_cases hk:b.k<2
   ·rw [show Nat.blt b.k 2=true from by simpa [bO] using hk,cond_true] at h
    have hnew:∀y∈lk,y.1≠x.2:=λy hy e=>by
     obtain ⟨c,hc,hc3⟩:=h3 y hy
     rw [e,hb] at hc;cases hc
     omega
    have hb1:hp1.get x.2=some b:=by rw [<-ho x.2 hnew];exact hb
    obtain ⟨M,hM,-⟩:=hm.blk _ b hb1
    have hG:∀k,(Gs r1 lk k∨k=M.g)↔Gs r1 ((x.2,b)::lk) k:=λk=>by
     constructor
     ·rintro (⟨y,hy,h⟩|rfl)
      ·exact ⟨y,List.mem_cons_of_mem _ hy,h⟩
      ·exact ⟨(x.2,b),by simp,M,hM,rfl⟩
     ·rintro ⟨y,hy,M',hM',rfl⟩
      rcases bG.1 hy with rfl|hy
      ·rw [hM] at hM';cases hM';exact .inr rfl
      ·exact .inl ⟨y,hy,M',hM',rfl⟩
    have hg':=hg.lock hb hk hM
    rw [EG.lock hG] at hg'
    obtain ⟨h1,h2,h4,h5⟩:=aBA hm l _ hp' _ lk' h ⟨λy hy=>by
     rcases bG.1 hy with rfl|hy
     ·exact ⟨hb1,hk⟩
     ·exact hlk.v y hy,List.pairwise_cons.2 ⟨λy hy=>Ne.symm (hnew y hy),hlk.nd⟩⟩ (λy hy=>by
     rcases bG.1 hy with rfl|hy
     ·exact ⟨_,by rw [bC.get_put,if_pos rfl],rfl⟩
     ·obtain ⟨c,hc,hc3⟩:=h3 y hy
      exact ⟨c,by rw [bC.get_put,if_neg (hnew y hy)];exact hc,hc3⟩) (λn hn=>by
     have h1:n≠x.2:=Ne.symm (hn (x.2,b) (by simp))
     rw [bC.get_put,if_neg h1]
     exact ho n λy hy=>hn y (List.mem_cons_of_mem _ hy)) hg'
    exact ⟨h1,h2,λy hy=>h4 y (List.mem_cons_of_mem _ hy),λy hy b' hb' hk'=>by
     rcases bG.1 hy with rfl|hy
     ·rw [hb1] at hb';cases hb';exact h4 _ (by simp)
     ·exact h5 y hy b' hb' hk'⟩
   ·rw [show Nat.blt b.k 2=false from by simpa [bO] using hk,cond_false] at h
    refine skip h λb' hb' hk'=>?_
    by_cases hx:∃y∈lk,y.1=x.2
    ·exact inlk hx b' hb' hk'
    ·have:=ho x.2 λy hy e=>hx ⟨y,hy,e⟩
     rw [hb,hb'] at this;cases this
     exact absurd hk' hk
  ·rename_i hb
   refine skip h λb' hb' hk'=>?_
   by_cases hx:∃y∈lk,y.1=x.2
   ·exact inlk hx b' hb' hk'
   ·have:=ho x.2 λy hy e=>hx ⟨y,hy,e⟩
    rw [hb,hb'] at this;cases this
theorem aEu{r1:List aF}{hp1:Tr}{nx1:Nat}{w1:World}(hm:aG E r1 hp1 nx1 w1)(p:Nat->Bool){s:List aF}:∀(l pre:List (Nat×HB)) (hp hp':Tr) (l':List (Nat×HB)),rR p l hp=some (hp',l')->E7 hp1 (l++pre)->aG (EG E w1 (Gs r1 (l++pre))) (r1++s) hp nx w ->
 aG (EG E w1 (Gs r1 (l'++pre))) (r1++s) hp' nx w∧l'=l.filter λx=>!p x.1
 |[],pre,hp,hp',l',h,hlk,hg=>by cases h;exact ⟨hg,rfl⟩
 |x::l,pre,hp,hp',l',h,hlk,hg=>by
  unfold rR at h
  split at h
  ·rename_i hp2 l2 h2
   have hperm:∀(a:List (Nat×HB)) y,y∈a++x::pre↔y∈(x::a)++pre:=λa y=>by
    constructor<;>intro h<;>simp at h ⊢<;>rcases h with h|h|h<;>simp [h]
   have hGp:∀(a:List (Nat×HB)) k,Gs r1 (a++x::pre) k↔Gs r1 ((x::a)++pre) k:=λa k =>
    ⟨λ⟨y,hy,h⟩=>⟨y,(hperm a y).1 hy,h⟩,λ⟨y,hy,h⟩=>⟨y,(hperm a y).2 hy,h⟩⟩
   have hnd:=hlk.nd
   have hlk2:E7 hp1 (l++x::pre):=⟨λy hy=>hlk.v y ((hperm l y).1 hy),by
    have:(l++x::pre).Perm ((x::l)++pre):=List.perm_middle
    exact (this.symm.pairwise_iff (λ{a b} h=>Ne.symm h)).1 hnd⟩
   obtain ⟨hg2,e2⟩:=aEu hm p l (x::pre) hp hp2 l2 h2 hlk2 (by rw [EG.congr (hGp l)];exact hg)
   by_cases hp_:p x.1=true
   ·rw [hp_,cond_true] at h
    split at h
    ·rename_i c hc
     by_cases hc3:c.k=3
     ·rw [hc3] at h
      cases h
      obtain ⟨hx1,hx2⟩:=hlk.v x (by simp)
      obtain ⟨M,hM,-⟩:=hm.blk _ _ hx1
      have hsub:∀y∈l'++pre,y∈l++pre:=λy hy=>by
       rcases eL.1 hy with hy|hy
       ·rw [e2] at hy;exact kJ _ (fY.1 hy).1
       ·exact gW _ hy
      have hg3:=hm.rel hx1 hx2 hM ⟨x,by simp,M,hM,rfl⟩ hg2 hc hc3
      refine ⟨?_,by rw [e2];simp [hp_]⟩
      rw [EG.congr (G':=Gs r1 (l'++pre))] at hg3
      ·exact hg3
      ·intro k
       constructor
       ·rintro ⟨⟨y,hy,M',hM',rfl⟩,hne⟩
        rcases eL.1 hy with hy|hy
        ·exact ⟨y,kJ _ hy,M',hM',rfl⟩
        ·rcases bG.1 hy with rfl|hy
         ·rw [hM] at hM';cases hM';exact absurd rfl hne
         ·exact ⟨y,gW _ hy,M',hM',rfl⟩
       ·rintro ⟨y,hy,M',hM',rfl⟩
        refine ⟨⟨y,?_,M',hM',rfl⟩,λe=>?_⟩
        ·rcases eL.1 hy with hy|hy
         ·exact kJ _ hy
         ·exact gW _ (List.mem_cons_of_mem _ hy)
        ·have hy2:=hsub y hy
         have hne:x.1≠y.1:=(List.pairwise_cons.1 hnd).1 y hy2
         have hv:=hlk.v y (List.mem_cons_of_mem _ hy2)
         exact hm.apart hx1 hv.1 hne (by omega) hM hM' e.symm
     ·rw [show Nat.beq c.k 3=false from by simpa [bE] using hc3] at h;cases h
    ·cases h
   ·rw [jD] at hp_
    rw [hp_,cond_false] at h
    cases h
    refine ⟨?_,by rw [e2];simp [hp_]⟩
    rw [<-EG.congr (hGp l2)]
    exact hg2
  ·cases h
theorem bU.hideS:∀(os:List Oper) {ts:Sl} {vs:List Value},bU r ts vs->bU r (hideS os ts) vs
 |[],_,_,h=>h
 |o::os,ts,vs,h=>by
  unfold Go.Proofs.YtjboelhcieepkaaGreatDoor.hideS
  cases oA o.op with
  |false=>exact bU.hideS os h
  |true =>
   refine bU.hideS os ?_
   show bU r (Go.Proofs.YtjboelhcieepkaaGreatDoor.putS ts o.dst .u) vs
   cases o.dst with
   |none=>exact h
   |some d=>exact bU.tell h λ_=>.u _
theorem a9g{ops:Array Oper}(h:mN ops=true):∀(i:Nat) (o:Oper) (d:Tmp),ops[i]?=some o->oA o.op=true->o.dst=some d->d ∉ o.looksAt ops:=by
 intro i o d hi ha hd
 have hmem:o∈ops.toList:=by
  have:ops.toList[i]?=some o:=by simpa using hi
  exact List.mem_of_getElem? this
 have:=kK.1 h o hmem
 rw [ha,hd] at this
 simpa using this
end
theorem aAI{ops:Array Oper}{tab:List (Nat×Nat)}{n c:Nat}(h:cN ops tab n c=true):∃o,ops[c]?=some o∧mB o.op=false∧oA o.op=false∧o.guard=none∧∀M,jM ops M->M.getD c false=true->∀x∈tab,x.2=n->M.getD x.1 false=true:=by
 unfold cN at h
 split at h
 ·rename_i o ho
  simp only [bJ,Bool.not_eq_true',kK] at h
  obtain ⟨h1,h2,h3,h4⟩:=h
  refine ⟨o,ho,h1,h2,by simpa using h3,λM hcl hM x hx e=>?_⟩
  have:=h4 x hx
  rw [e,show Nat.beq n n=true from Nat.beq_refl n] at this
  refine aA4 hcl _ _ (λk hk=>?_) x.1 (by rw [<-J4];simpa using this)
  have hk':(2 ^ c).testBit k=true:=hk
  rw [Nat.testBit_two_pow,bR] at hk'
  rw [<-hk'];exact hM
 ·cases h
theorem C7:∀{tab:List (Nat×Nat)} {i n:Nat},Q8 tab i=some n->(i,n)∈tab
 |[],_,_,h=>by cases h
 |x::l,i,n,h=>by
  unfold Q8 at h
  by_cases e:x.1=i
  ·rw [show Nat.beq x.1 i=true from by rw [e];exact Nat.beq_refl i] at h
   cases h
   rw [<-e];simp
  ·rw [show Nat.beq x.1 i=false from by simpa [bE] using e] at h
   exact List.mem_cons_of_mem _ (C7 h)
section
variable {rec:FuncId->List SV->Tr->Nat->Option (SV×St)}{ops:Array Oper}{Q:cM}{E:bX}{r1:List aF}{hp1:Tr}{nx1:Nat}{w1:World}{tab:List (Nat×Nat)}{lk0:List (Nat×HB)}
def A6(E:bX)(ops:Array Oper)(tab:List (Nat×Nat))(r1:List aF)(w1:World)(lk0:List (Nat×HB))(M:Array Bool)(w:World):Prop :=
 SR E w∧∀x∈lk0,∀N,r1[x.1]?=some N->(∃c,cN ops tab x.1 c=true∧M.getD c false=true)∨w.heap[N.g]?=w1.heap[N.g]?
def Tof(E:bX)(tab:List (Nat×Nat))(r1:List aF)(hp1:Tr)(w1:World)(i:Nat)(w:World):Prop :=
 SR E w∧∀n b N,Q8 tab i=some n->hp1.get n=some b->b.k<5->r1[n]?=some N->w.heap[N.g]?=w1.heap[N.g]?
theorem A6.c(M:Array Bool)(w:World)(i:Nat)(o:Oper)(hi:ops[i]?=some o)(ho:o.guard≠none∨mB o.op=true)(h:A6 E ops tab r1 w1 lk0 (M.setIfInBounds i true) w):A6 E ops tab r1 w1 lk0 M w:=by
 refine ⟨h.1,λx hx N hN=>?_⟩
 rcases h.2 x hx N hN with ⟨c,hc,hM⟩|h
 ·have hne:i≠c:=λe=>by
   obtain ⟨o',ho',h1,_,h3,_⟩:=aAI hc
   rw [<-e,hi] at ho';cases ho'
   rcases ho with ho|ho
   ·exact ho h3
   ·rw [h1] at ho;cases ho
  rw [getD_set_ne false hne] at hM
  exact .inl ⟨c,hc,hM⟩
 ·exact .inr h
theorem SR.eg(hm:aG E r1 hp1 nx1 w1){G:Nat->Prop}{w:World}(h:SR (EG E w1 G) w):SR E w :=
 ⟨λk hk=>(h.1 k (.inl hk)).trans (hm.fz k hk).2,bI hm.up h.2.1,h.2.2⟩
theorem aOg(hm:aG E r1 hp1 nx1 w1){n:Nat}{b:HB}{N:aF}(hn:hp1.get n=some b)(hk:2≤b.k)(hk5:b.k<5)(hN:r1[n]?=some N){w:World}(hw:SR E w):w.heap[N.g]?=w1.heap[N.g]?:=by
 rcases hm.old n b N hn hk hk5 hN with h|h
 ·exact (hw.2.2.block N.g h).trans (hm.below.block N.g h).symm
 ·exact (hw.1 N.g (hm.rlt _ h)).trans (hm.fz N.g (hm.rlt _ h)).2.symm
theorem bAv(hm:aG E r1 hp1 nx1 w1)(s:List aF)(i:Nat):zF (Tof E tab r1 hp1 w1 i) (r1++s) (C3 tab hp1 i):=by
 intro n b hb
 unfold C3 at hb
 split at hb
 ·rename_i n0 hl
  split at hb
  ·rename_i b0 hb0
   rw [bO] at hb
   by_cases hk5:b0.k<5
   case neg=>simp [hk5,bC.get_e] at hb
   rw [decide_eq_true hk5,cond_true] at hb
   by_cases e:n=n0
   ·subst e
    rw [bC.get_put,if_pos rfl] at hb;cases hb
    obtain ⟨M,hM,hk⟩:=hm.blk n b hb0
    obtain ⟨vs,hd,hv⟩:=hk.cells
    exact ⟨M,vs,jK s hM,hd.mono s,λw' hw j v hj=>(World.cell?_of_block (w:=w1) (hw.2 n b M hl hb0 hk5 hM)).trans (hv j v hj)⟩
   ·rw [bC.get_put,if_neg e] at hb
    simp [bC.get_e] at hb
  ·simp [bC.get_e] at hb
 ·simp [bC.get_e] at hb
theorem a4Q{X:aI}{stop:Nat->Bool}{hpF:Nat->Tr}:∀(m:Nat) (L:Array Bool) (ts:Sl) (hp:Tr) (nx:Nat) (L1:Array Bool) (eV:St),nW X rec ops stop hpF m L ts hp nx=some (L1,eV) ->
 (∀k,L.getD k false=true->L1.getD k false=true)∧(L1=L∨∃j∈Region.ready .any ops L,L1.getD j false=true):=by
 intro m
 induction m with
 |zero=>intro L ts hp nx L1 eV h;simp [nW] at h
 |succ m ih =>
  intro L ts hp nx L1 eV h
  have next:∀i ts' hp' nx',i∈Region.ready .any ops L->nW X rec ops stop hpF m (L.setIfInBounds i true) ts' hp' nx'=some (L1,eV)->(∀k,L.getD k false=true->L1.getD k false=true)∧(L1=L∨∃j∈Region.ready .any ops L,L1.getD j false=true):=λi ts' hp' nx' hi h=>by
   obtain ⟨h1,_⟩:=ih _ _ _ _ _ _ h
   refine ⟨λk hk=>h1 k (getD_set_true hk),.inr ⟨i,hi,h1 i ?_⟩⟩
   have:i<L.size:=(lB.1 (getD_some (mem_ready.1 hi).1)).1
   simp [this]
  unfold nW at h
  cases he:qJ stop (Region.ready .any ops L) with
  |true=>rw [he,cond_true] at h;cases h;exact ⟨λ_ h=>h,.inl rfl⟩
  |false =>
   rw [he,cond_false] at h
   cases hal:((Region.ready .any ops L).filter (dZ ops ts)).all (sV X ops L ts) with
   |false=>rw [hal,cond_false] at h;cases h
   |true =>
    rw [hal,cond_true] at h
    split at h
    ·rename_i i o y hpt
     exact next i _ _ _ (aF0 hpt).1 h
    ·split at h
     ·rename_i c hlo
      have hcl:c∈(Region.ready .any ops L).filter (λi=>!dZ ops ts i):=by rw [hlo];simp
      split at h
      ·by_cases hrd:Region.ready .any ops (setL L ((Region.ready .any ops L).filter (dZ ops ts)))=[c]
       ·rw [decide_eq_true hrd,cond_true] at h
        split at h
        ·exact next c _ _ _ (fY.1 hcl).1 h
        ·cases h
       ·rw [decide_eq_false hrd] at h;cases h
      ·cases h
     ·split at h
      ·rename_i hlo a rest hall
       have hal2:a∈(Region.ready .any ops L).filter (dZ ops ts):=by rw [hall];simp
       split at h
       ·by_cases hrd:Region.ready .any ops (setL L rest)=[a]
        ·rw [decide_eq_true hrd,cond_true] at h
         split at h
         ·exact next a _ _ _ (fY.1 hal2).1 h
         ·cases h
        ·rw [decide_eq_false hrd] at h;cases h
       ·cases h
      ·cases h
     ·cases h
theorem aLk(hq:aF4 Q)(hsel:Region.noSelect ops=true)(hself:mN ops=true)(hrec:kO E.X E.w0 rec)(hm1:aG E r1 hp1 nx1 w1)(hlk0:∀x∈tab,∀b,hp1.get x.2=some b->b.k<2->(x.2,b)∈lk0){st':St}
 (hk:∀s vs' w',bU (r1++s) st'.ts vs'->aG E (r1++s) st'.hp st'.nx w'->Q .normal ⟨vs'.toArray,df⟩ w') :
 ∀(f:Nat) (lk:List (Nat×HB)) (L:Array Bool) (st:St),xH E.X rec ops tab (C3 tab hp1) f lk L st=some st'->E7 hp1 lk->(∀x∈lk,x∈lk0) ->
  (∀x∈lk0,x ∉ lk->∃c,cN ops tab x.1 c=true∧(L.getD c false=true∨Region.ready .any ops L=[c]))->L.size=ops.size->jM ops L->∀(fuel:Nat),rO L≤fuel ->
  ∀(s:List aF) (vs:List Value) (w:World),bU (r1++s) st.ts vs->aG (EG E w1 (Gs r1 lk)) (r1++s) st.hp st.nx w->pK E.X.P ops Q (A6 E ops tab r1 w1 lk0) fuel L ⟨vs.toArray,df⟩ w:=by
 intro f
 induction f with
 |zero=>intro lk L st h;simp [xH] at h
 |succ f ih =>
  intro lk L st h hlk hsub hrel hL hcl fuel hfu s vs w hs hm
  unfold xH at h
  split at h
  ·cases h
  ·rename_i L1 eV ha
   have e0:=aNZ L
   have:=a9r (E:=EG E w1 (Gs r1 lk)) (T:=Tof E tab r1 hp1 w1) (r0:=r1) (Q:=Q) (S:=A6 E ops tab r1 w1 lk0) (stop:=aCB ops tab lk) hq hsel (a9g hself) hrec
    (λc ts hc=>by
     obtain ⟨x,_,hx⟩:=List.any_eq_true.1 hc
     obtain ⟨o,ho,_,h3,_⟩:=aAI hx
     unfold dZ
     rw [ho]
     simp [h3])
    (λi w h=>h.1.2.2)
    (λM w i o ho hl hcl hi hS=>⟨hS.1,λn b N hln hb hk5 hN=>by
     by_cases hk2:b.k<2
     ·rcases hS.2 _ (hlk0 _ (C7 hln) b hb hk2) N hN with ⟨c,hc,hMc⟩|h
      ·obtain ⟨_,_,_,_,_,hall⟩:=aAI hc
       have h3:=hall M hcl hMc _ (C7 hln) rfl
       have h4:=getD_some (mem_ready.1 hi).1
       rw [fK,h4] at h3
       cases h3
      ·exact h
     ·exact aOg hm1 hb (by omega) hk5 hN hS.1⟩)
    (λM w i o ho hg h=>A6.c M w i o ho hg h)
    _ _ _ _ _ _ _ ha hL
    (λM w hle hex hw=>⟨SR.eg hm1 hw,λx hx N hN=>by
     by_cases hxl:x∈lk
     ·exact .inr (hw.1 N.g (.inr ⟨x,hxl,N,hN,rfl⟩))
     ·obtain ⟨c,hc,hL1⟩:=hrel x hx hxl
      refine .inl ⟨c,hc,?_⟩
      rcases hL1 with h|h
      ·exact hle c h
      ·obtain ⟨j,hj,hMj⟩:=hex
       rw [h] at hj
       have:j=c:=by simpa using hj
       rw [<-this];exact hMj⟩)
    (λM w i o hle hclM ho hl hi hw=>⟨SR.eg hm1 hw,λn b N hln hb hk5 hN=>by
     by_cases hk2:b.k<2
     ·have hx0:=hlk0 _ (C7 hln) b hb hk2
      by_cases hxl:(n,b)∈lk
      ·exact hw.1 N.g (.inr ⟨_,hxl,N,hN,rfl⟩)
      ·exfalso
       obtain ⟨c,hc,hLc⟩:=hrel _ hx0 hxl
       obtain ⟨oc,hoc,hnp,_,_,hall⟩:=aAI hc
       have h4:=getD_some (mem_ready.1 hi).1
       have hiL:L.getD i false=true:=by
        rcases hLc with h|h
        ·exact hall L hcl h _ (C7 hln) rfl
        ·have hcr:c∈Region.ready .any ops L:=by rw [h];simp
         have h5:=hall _ (hcl.set hcr) (by
          have:c<L.size:=(lB.1 (getD_some (mem_ready.1 hcr).1)).1
          simp [this]) _ (C7 hln) rfl
         have hne:c≠i:=λe=>by
          rw [e,ho] at hoc;cases hoc
          cases hop:o.op<;>rw [hop] at hl hnp<;>first|(cases hl;done)|(cases hnp;done)
         rw [getD_set_ne false hne] at h5
         exact h5
       have h3:=hle i hiL
       rw [fK,h4] at h3
       cases h3
     ·exact aOg hm1 hb (by omega) hk5 hN (SR.eg hm1 hw)⟩)
    fuel (r1++s) vs w [] ⟨s,rfl⟩ hs hm (λi=>bAv hm1 s i) (λ_ h=>by cases h) (λ_ h=>by cases h) (λ_ h=>by cases h) (by rw [e0];exact hfu) (by rw [e0];exact hcl)
    (λr' vs' w' f' hr hd hm' hsz hun hcl' hst=>by
     obtain ⟨s',rfl⟩:=hr
     unfold qJ at hst
     split at hst
     ·rename_i hr0
      rw [hr0] at h
      simp only at h
      split at h
      ·rename_i hp2 lk2 hrl
       cases h
       obtain ⟨hm2,e2⟩:=aEu hm1 (λ_=>true) lk [] _ _ _ hrl (by simpa using hlk) (by simpa using hm')
       have e3:lk2=[]:=by rw [e2];simp
       subst e3
       exact aR6 hr0 (hk s' vs' w' hd (hm1.EGend (λk=>by rintro ⟨x,hx,_⟩;cases hx) hm2)) _
      ·cases h
     ·rename_i c hr1
      rw [hr1] at h
      simp only at h
      split at h
      ·rename_i hp2 lk2 hrl
       obtain ⟨hm2,e2⟩:=aEu hm1 _ lk [] _ _ _ hrl (by simpa using hlk) (by simpa using hm')
       rw [eC] at hm2
       refine ih lk2 L1 _ h ⟨λx hx=>hlk.v x ?_,?_⟩ (λx hx=>hsub x ?_) (λx hx hxl=>?_) hsz hcl' f' hun s' vs' w' hd hm2
       ·rw [e2] at hx;exact (fY.1 hx).1
       ·rw [e2];exact hlk.nd.filter _
       ·rw [e2] at hx;exact (fY.1 hx).1
       ·by_cases hxk:x∈lk
        ·have hc:cN ops tab x.1 c=true:=by
          cases hcc:cN ops tab x.1 c with
          |true=>rfl
          |false=>exact absurd (by rw [e2];exact fY.2 ⟨hxk,by simp [hcc]⟩) hxl
         exact ⟨c,hc,.inr hr1⟩
        ·obtain ⟨c',hc',hL'⟩:=hrel x hx hxk
         obtain ⟨hle,hor⟩:=a4Q _ _ _ _ _ _ _ ha
         rcases hL' with h9|h9
         ·exact ⟨c',hc',.inl (hle _ h9)⟩
         ·rcases hor with rfl|⟨j,hj,hj1⟩
          ·exact ⟨c',hc',.inr h9⟩
          ·rw [h9] at hj
           have:j=c':=by simpa using hj
           exact ⟨c',hc',.inl (this▸hj1)⟩
      ·cases h
     ·cases hst)
   rwa [e0] at this
def j9(Q:cM):cM:=Exit.then (λa w=>Q .normal a w) (λ_ _ _=>False)
theorem aNo(Q:cM):aF4 (j9 Q):=λ_ _ _ _ _ h=>h.elim
theorem aK3{hl:FuncId->Option (List SV->Tr->Nat->Option (SV×St))}{r:List aF}{vs:List Value}{w:World}{st st':St}(hrec:kO E.X E.w0 rec)(h:z9 hl E.X rec ops st=some st')(hs:bU r st.ts vs)(hm:aG E r st.hp st.nx w)
 (hk:∀s vs' w',bU (r++s) st'.ts vs'->aG E (r++s) st'.hp st'.nx w'->Q .normal ⟨vs'.toArray,df⟩ w'):wpAny E.X.P .any ops (j9 Q) ops.size (Array.replicate ops.size false) ⟨vs.toArray,df⟩ w.drew:=by
 unfold z9 at h
 by_cases hc:(Region.noSelect ops&&(mN ops&&ops.toList.all fU))=true
 ·rw [hc,cond_true] at h
  simp only [bJ] at hc
  unfold B1 at h
  split at h
  rename_i hp2 lk hl
  have hmd:=hm.drew
  obtain ⟨hlk,hg,_,hall⟩:=aBA hmd _ _ _ _ _ hl ⟨λ_ h=>(by cases h),List.Pairwise.nil⟩ (λ_ h=>by cases h) (λ_ _=>rfl) (by
   have:=hmd.EG0
   rwa [EG.congr (G':=Gs r [])] at this
   exact λk=>⟨λh=>h.elim,λ⟨x,hx,_⟩=>by cases hx⟩)
  refine aC1 _ _ _ _ (aLk (Q:=j9 Q) (aNo Q) hc.1 hc.2.1 hrec hmd hall hk _ lk _ _ h hlk (λ_ h=>h) (λx hx hn=>absurd hx hn) (by simp) ?_ ops.size ?_ [] vs _ ?_ ?_)
  ·intro k o _ hM
   have:(Array.replicate ops.size false).getD k false=false:=by
    rw [fK,Array.getElem?_replicate]
    split<;>rfl
   rw [this] at hM;cases hM
  ·unfold rO;simp
  ·rw [eC];exact hs.hideS _
  ·rw [eC];exact hg
 ·rw [jD] at hc
  rw [hc] at h;cases h
end
theorem aKU{hl:FuncId->Option (List SV->Tr->Nat->Option (SV×St))}{X:aI}{rec:FuncId->List SV->Tr->Nat->Option (SV×St)}{ops:Array Oper}{st st':St}(h:z9 hl X rec ops st=some st'):ops.all fU=true:=by
 unfold z9 at h
 by_cases hc:(Region.noSelect ops&&(mN ops&&ops.toList.all fU))=true
 ·simp only [bJ] at hc
  rw [<-Array.all_toList];exact hc.2.2
 ·rw [jD] at hc
  rw [hc] at h;cases h
section
variable {m:Option Nat}{n:Nat}{P:Program}{ops:Array Oper}{Q:cM}
theorem aBl{o:Oper}{a:Act}{w:World}{K K':Act->World->Prop}(hd:fU o=true)(hK:∀a w,K a w->K' a w)(h:o.wp P a w K (j9 Q)):o.wpIn (FR m) n P a w K' Q:=by
 refine ⟨λf _=>oC m f,?_⟩
 rw [Oper.semAt_eq _ _ _ (λc hc=>by rw [fU,hc] at hd;cases hd)]
 unfold Oper.wp at h
 generalize (execOp a.eval o).run P w=x at *
 cases x with
 |ok x w' =>
  cases x<;>simp only [Oper.upon,Oper.uponIn] at h ⊢
  case value u=>exact hK _ _ h
  case skip=>exact hK _ _ h
  case defer d=>exact hK _ _ h
  case enter f args =>
   refine ⟨λh=>Q7 m h,aK9 (h.mono λe w'' he=>?_)⟩
   cases e with
   |returned u=>exact hK _ _ he
   |panicked c=>exact he.elim
   |outgrown=>obtain ⟨_,_,hh⟩:=he;exact hh.elim
  case row row args =>
   refine ⟨λh=>Q7 m h,λc cs _=>?_⟩
   obtain ⟨v,w2,r,s⟩:=h c cs
   refine ⟨v,w2,hK _ _ r,?_⟩
   cases m with
   |none=>exact stepsIn_wide.2 s
   |some l=>exact stepsIn_wide.2 s
 |halt x w' =>
  cases x<;>simp only [Oper.upon,Oper.uponIn] at h ⊢
  case panic u=>exact h.elim
theorem aPD(hn:ops.all fU=true):
 ∀(fuel:Nat) (listed:Array Bool) (a:Act) (w:World),wpAny P .any ops (j9 Q) fuel listed a w->wpAnyIn (FR m) n P .any ops Q fuel listed a w:=by
 intro fuel
 induction fuel with
 |zero=>exact λ_ _ _ h=>h
 |succ f ih =>
  intro listed a w h
  refine ⟨h.1,λi hi=>?_⟩
  have h2:=h.2 i hi
  unfold wpOp at h2
  unfold wpOpIn
  cases ho:ops[i]? with
  |none=>rw [ho] at h2;exact ih _ _ _ h2
  |some o =>
   rw [ho] at h2
   simp only at h2 ⊢
   have hno:fU o=true:=Array.all_eq_true_iff_forall_mem.1 hn o (Array.mem_of_getElem? ho)
   by_cases hw:Region.wanted o (yielded ops a.tmps)=true
   ·rw [if_pos hw] at h2 ⊢
    rcases h2 with h2|h2
    ·exact aBl hno (λa w hh=>ih _ a w hh) h2
    ·obtain ⟨_,_,hh⟩:=h2.2
     exact hh.elim
   ·rw [if_neg hw] at h2 ⊢
    exact ⟨λf _=>oC m f,ih _ _ _ h2⟩
def N3(ops:Array Oper)(m:Nat):Bool:=Nat.beq ops.size (m+2)&&(ops.toList.all (λo=>o.guard.isNone&&fU o)&&((List.range (m+2)).all (λi=>match ops[i]? with
 |some o=>o.after.toList.all λe=>!Region.binds .any e || Nat.blt e.on i
 |none=>false)&&((List.range m).all (λi=>tN (zW ops m (n9 ops m)) i)&&(tD ops (m+1)).contains m)))
theorem a4U{a:Act}{w:World}{j:Nat}{oc ot:Oper}(h:N3 ops j=true)(hoc:ops[j]?=some oc)(hot:ops[j+1]?=some ot)
 (hp:wpAny P .any (ops.toList.take j).toArray (j9 λ_ a w=>wpListIn (FR m) n P ops Q [oc,ot] a w) j (Array.replicate j false) a w):wpAnyIn (FR m) n P .any ops Q ops.size (Array.replicate ops.size false) a w:=by
 unfold N3 at h
 simp only [bJ,kK] at h
 obtain ⟨hsz,hgd,hed,han,htl⟩:=h
 have hsz:ops.size=j+2:=eU hsz
 have hg:∀i o,ops[i]?=some o->o.guard=none∧fU o=true:=λi o ho=>by
  have:=hgd o (by have:=Array.mem_of_getElem? ho;simpa using this)
  exact ⟨by simpa using this.1,this.2⟩
 have hbk:∀i o,ops[i]?=some o->∀e∈o.after,Region.binds .any e=true->e.on<i:=λi o ho e he hb=>by
  have hi:i<ops.size:=(lB.1 ho).1
  have:=hed i (by simp;omega)
  rw [ho] at this
  have:=kK.1 this e (by simpa using he)
  simpa [hb,bO] using this
 have hpre:∀i,i<j->(ops.toList.take j).toArray[i]?=ops[i]?:=λi hi=>by simp [hi]
 have hpre2:∀i,¬ i<j->(ops.toList.take j).toArray[i]?=none:=λi hi=>by simp [List.getElem?_take,hi]
 have hedm:∀k,k∈tD ops (j+1)↔∃e∈ot.after,Region.binds .any e=true∧e.on=k:=λk=>by
  unfold tD
  rw [hot]
  simp only [dC,fY]
  exact ⟨λ⟨e,⟨h1,h2⟩,h3⟩=>⟨e,by simpa using h1,h2,h3⟩,λ⟨e,h1,h2,h3⟩=>⟨e,⟨by simpa using h1,h2⟩,h3⟩⟩
 obtain ⟨et,het,hetb,heto⟩:=(hedm j).1 (by simpa using htl)
 have wantd:∀i o (t:Array Value),ops[i]?=some o->Region.wanted o (yielded ops t)=true:=λi o t ho=>by unfold Region.wanted;rw [(hg i o ho).1]
 have inr:∀{M:Array Bool} {i:Nat},i<M.size->M.getD i false=true->M.getD i true=true:=λh1 h2=>by rw [i6 h1];exact h2
 have notin:∀{M:Array Bool} {i:Nat},i<M.size->M.getD i false=true->i ∉ Region.ready .any ops M:=λh1 h2 h=>by
  have:=(mem_ready.1 h).1
  rw [inr h1 h2] at this;cases this
 have done:∀(f:Nat) (M:Array Bool) (a:Act) (w:World),Region.ready .any ops M=[]->Q .normal a w->wpAnyIn (FR m) n P .any ops Q f M a w:=λf M a w hr h=>by
  cases f with
  |zero=>exact ⟨hr,h⟩
  |succ f=>exact ⟨λ_=>h,by rw [hr];simp⟩
 have setj:∀(M:Array Bool) (i k:Nat),i<M.size->(M.setIfInBounds i true).getD k false=if i=k then true else M.getD k false:=λM i k hi=>by
  by_cases e:i=k
  ·subst e;simp [hi]
  ·rw [getD_set_ne false e,if_neg e]
 have fin:∀(M:Array Bool) (a:Act) (w:World),M.size=j+2->(∀i,i<j->M.getD i false=true)->M.getD j false=false->M.getD (j+1) false=false->wpListIn (FR m) n P ops Q [oc,ot] a w->∀f,wpAnyIn (FR m) n P .any ops Q (f+2) M a w:=by
  intro M a w hM hall hj hj1 hw f
  have hjr:j∈Region.ready .any ops M:=mem_ready.2 ⟨by rw [i6 (by omega)];exact hj,oc,hoc,λe he hb=>hall _ (hbk j oc hoc e he hb)⟩
  refine ⟨λh=>(by rw [h] at hjr;cases hjr),λi hi=>?_⟩
  obtain ⟨hi1,o,ho,hi2⟩:=mem_ready.1 hi
  have hij:i=j:=by
   have h1:i<ops.size:=(lB.1 ho).1
   rcases Nat.lt_trichotomy i j with h|h|h
   ·exact absurd hi (notin (by omega) (hall i h))
   ·exact h
   ·obtain rfl:i=j+1:=by omega
    rw [hot] at ho;cases ho
    have:=hi2 et het hetb
    rw [heto,hj] at this;cases this
  subst hij
  unfold wpListIn at hw
  rw [if_pos (wantd i oc _ hoc)] at hw
  unfold wpOpIn
  rw [hoc]
  simp only
  rw [if_pos (wantd i oc _ hoc)]
  refine Oper.wpIn_mono (λa' w' h2=>?_) hw
  have hM2:(M.setIfInBounds i true).size=i+2:=by simpa using hM
  have htr:i+1∈Region.ready .any ops (M.setIfInBounds i true):=mem_ready.2 ⟨by rw [i6 (by omega),setj M i _ (by omega),if_neg (by omega)];exact hj1,ot,hot,λe he hb=>by
   have:=hbk (i+1) ot hot e he hb
   rw [setj M i _ (by omega)]
   by_cases e1:i=e.on
   ·rw [if_pos e1]
   ·rw [if_neg e1];exact hall _ (by omega)⟩
  have hall2:∀k,k<i+1->(M.setIfInBounds i true).getD k false=true:=λk hk=>by
   rw [setj M i _ (by omega)]
   by_cases e1:i=k
   ·rw [if_pos e1]
   ·rw [if_neg e1];exact hall _ (by omega)
  refine ⟨λh=>(by rw [h] at htr;cases htr),λk hk=>?_⟩
  obtain ⟨hk1,o',ho',hk2⟩:=mem_ready.1 hk
  have hki:k=i+1:=by
   have h1:k<ops.size:=(lB.1 ho').1
   rcases Nat.lt_or_ge k (i+1) with h|h
   ·exact absurd hk (notin (by omega) (hall2 k h))
   ·omega
  subst hki
  unfold wpListIn at h2
  rw [if_pos (wantd _ ot _ hot)] at h2
  unfold wpOpIn
  rw [hot]
  simp only
  rw [if_pos (wantd _ ot _ hot)]
  refine Oper.wpIn_mono (λa'' w'' h3=>done f _ a'' w'' ?_ h3) h2
  refine List.eq_nil_iff_forall_not_mem.2 λx hx=>?_
  obtain ⟨hx1,o'',ho'',_⟩:=mem_ready.1 hx
  have h1:x<ops.size:=(lB.1 ho'').1
  refine notin (by simp;omega) ?_ hx
  rw [setj _ _ _ (by omega)]
  by_cases e1:i+1=x
  ·rw [if_pos e1]
  ·rw [if_neg e1];exact hall2 x (by omega)
 have key:∀(f:Nat) (L' M:Array Bool) (a:Act) (w:World),L'.size=j->M.size=j+2->(∀i,i<j->M.getD i false=L'.getD i false)->M.getD j false=false->M.getD (j+1) false=false->jM ops M->wpAny P .any (ops.toList.take j).toArray (j9 λ_ a w=>wpListIn (FR m) n P ops Q [oc,ot] a w) f L' a w ->
  wpAnyIn (FR m) n P .any ops Q (f+2) M a w:=by
  intro f
  have allOf:∀(L' M:Array Bool),L'.size=j->M.size=j+2->(∀i,i<j->M.getD i false=L'.getD i false)->Region.ready .any (ops.toList.take j).toArray L'=[]->∀i,i<j->M.getD i false=true:=by
   intro L' M hL hM hrel hr i
   induction i using Nat.strongRecOn with
   |ind i ihi =>
    intro hi
    cases hc:M.getD i false with
    |true=>rfl
    |false =>
     obtain ⟨o,ho⟩:∃o,ops[i]?=some o:=⟨ops[i]'(by omega),tL (by omega)⟩
     have:i∈Region.ready .any (ops.toList.take j).toArray L':=mem_ready.2 ⟨by rw [i6 (by omega),<-hrel i hi];exact hc,o,by rw [hpre i hi];exact ho,λe he hb=>by
      have h1:=hbk i o ho e he hb
      rw [<-hrel _ (by omega)]
      exact ihi _ h1 (by omega)⟩
     rw [hr] at this;cases this
  have back:∀(L' M:Array Bool),L'.size=j->M.size=j+2->(∀i,i<j->M.getD i false=L'.getD i false)->M.getD j false=false->jM ops M->Region.ready .any (ops.toList.take j).toArray L'≠[]->∀i,i∈Region.ready .any ops M->i<j∧i∈Region.ready .any (ops.toList.take j).toArray L':=by
   intro L' M hL hM hrel hj hcl hr i hi
   obtain ⟨hi1,o,ho,hi2⟩:=mem_ready.1 hi
   have h1:i<ops.size:=(lB.1 ho).1
   rcases Nat.lt_trichotomy i j with h|h|h
   ·refine ⟨h,mem_ready.2 ⟨?_,o,by rw [hpre i h];exact ho,λe he hb=>?_⟩⟩
    ·rw [i6 (by omega),<-hrel i h,<-i6 (by omega)];exact hi1
    ·have:=hbk i o ho e he hb
     rw [<-hrel _ (by omega)];exact hi2 e he hb
   ·exfalso
    subst h
    rw [hoc] at ho;cases ho
    have hdir:∀k∈tD ops i,M.getD k false=true:=λk hk=>by
     unfold tD at hk
     rw [hoc] at hk
     obtain ⟨e,he,rfl⟩:=dC.1 hk
     obtain ⟨he1,he2⟩:=fY.1 he
     exact hi2 e (by simpa using he1) he2
    apply hr
    refine List.eq_nil_iff_forall_not_mem.2 λx hx=>?_
    obtain ⟨hx1,o',ho',_⟩:=mem_ready.1 hx
    have hxj:x<i:=by
     rcases Nat.lt_or_ge x i with h|h
     ·exact h
     ·rw [hpre2 x (by omega)] at ho';cases ho'
    have hc:=han x (by simpa using hxj)
    have:=aA4 hcl i (n9 ops i) (λk hk=>hdir k (wN.1 hk)) x (by rw [<-J4];simpa using hc)
    rw [hrel x hxj] at this
    rw [i6 (by omega),this] at hx1;cases hx1
   ·exfalso
    obtain rfl:i=j+1:=by omega
    rw [hot] at ho;cases ho
    have:=hi2 et het hetb
    rw [heto,hj] at this;cases this
  induction f with
  |zero =>
   intro L' M a w hL hM hrel hj hj1 hcl hw
   exact fin M a w hM (allOf L' M hL hM hrel hw.1) hj hj1 hw.2 0
  |succ f ih =>
   intro L' M a w hL hM hrel hj hj1 hcl hw
   obtain ⟨hw0,hw1⟩:=hw
   by_cases hr:Region.ready .any (ops.toList.take j).toArray L'=[]
   ·exact fin M a w hM (allOf L' M hL hM hrel hr) hj hj1 (hw0 hr) (f+1)
   ·refine ⟨λh=>?_,λi hi=>?_⟩
    ·obtain ⟨x,hx⟩:=List.exists_mem_of_ne_nil _ hr
     obtain ⟨hx1,o',ho',hx2⟩:=mem_ready.1 hx
     have hxj:x<j:=by
      rcases Nat.lt_or_ge x j with h|h
      ·exact h
      ·rw [hpre2 x (by omega)] at ho';cases ho'
     rw [hpre x hxj] at ho'
     have:x∈Region.ready .any ops M:=mem_ready.2 ⟨by rw [i6 (by omega),hrel x hxj,<-i6 (by omega)];exact hx1,o',ho',λe he hb=>by
      have:=hbk x o' ho' e he hb
      rw [hrel _ (by omega)];exact hx2 e he hb⟩
     rw [h] at this;cases this
    ·obtain ⟨hij,hir⟩:=back L' M hL hM hrel hj hcl hr i hi
     have h2:=hw1 i hir
     obtain ⟨hi1,o,ho,hi2⟩:=mem_ready.1 hi
     unfold wpOp at h2
     rw [hpre i hij,ho] at h2
     simp only at h2
     have hwp:∀t,Region.wanted o (yielded (ops.toList.take j).toArray t)=true:=λt=>by unfold Region.wanted;rw [(hg i o ho).1]
     rw [if_pos (hwp _)] at h2
     unfold wpOpIn
     rw [ho]
     simp only
     rw [if_pos (wantd i o _ ho)]
     rcases h2 with h2|h2
     ·have h3:o.wp P a w (λa' w'=>wpAny P .any (ops.toList.take j).toArray (j9 λ_ a w=>wpListIn (FR m) n P ops Q [oc,ot] a w) f (L'.setIfInBounds i true) a' w') (j9 Q):=by
       unfold Oper.wp at h2 ⊢
       generalize (execOp a.eval o).run P w=x at *
       cases x with
       |ok x w' =>
        cases x<;>simp only [Oper.upon] at h2 ⊢<;>exact h2
       |halt x w' =>
        cases x<;>simp only [Oper.upon] at h2 ⊢
        case panic u=>exact h2.elim
      refine aBl (hg i o ho).2 (λa' w' h4=>ih _ _ a' w' (by simpa using hL) (by simpa using hM) (λk hk=>?_) ?_ ?_ (hcl.set hi) h4) h3
      ·rw [setj M i k (by omega),setj L' i k (by omega),hrel k hk]
      ·rw [setj M i j (by omega),if_neg (by omega)];exact hj
      ·rw [setj M i _ (by omega),if_neg (by omega)];exact hj1
     ·obtain ⟨_,_,hh⟩:=h2.2
      exact hh.elim
 have:=key j (Array.replicate j false) (Array.replicate ops.size false) a w (by simp) (by simp [hsz]) (λi hi=>?_) (by simp [hsz]) (by simp [hsz]) (λk o _ hM=>?_) hp
 ·rw [hsz] at this ⊢;exact this
 ·simp [hsz,hi,eQ hi (Nat.le_add_right j 2)]
 ·have:(Array.replicate ops.size false).getD k false=false:=by
   rw [fK,Array.getElem?_replicate]
   split<;>rfl
  rw [this] at hM;cases hM
def I9(ops:Array Oper)(m:Nat):Bool:=Nat.beq ops.size (m+1)&&(ops.toList.all (λo=>o.guard.isNone&&fU o)&&((List.range (m+1)).all (λi=>match ops[i]? with
 |some o=>o.after.toList.all λe=>!Region.binds .any e || Nat.blt e.on i
 |none=>false)&&(List.range m).all (λi=>tN (zW ops m (n9 ops m)) i)))
theorem a1o{a:Act}{w:World}{j:Nat}{oc:Oper}(h:I9 ops j=true)(hoc:ops[j]?=some oc)
 (hp:wpAny P .any (ops.toList.take j).toArray (j9 λ_ a w=>wpListIn (FR m) n P ops Q [oc] a w) j (Array.replicate j false) a w):wpAnyIn (FR m) n P .any ops Q ops.size (Array.replicate ops.size false) a w:=by
 unfold I9 at h
 simp only [bJ,kK] at h
 obtain ⟨hsz,hgd,hed,han⟩:=h
 have hsz:ops.size=j+1:=eU hsz
 have hg:∀i o,ops[i]?=some o->o.guard=none∧fU o=true:=λi o ho=>by
  have:=hgd o (by have:=Array.mem_of_getElem? ho;simpa using this)
  exact ⟨by simpa using this.1,this.2⟩
 have hbk:∀i o,ops[i]?=some o->∀e∈o.after,Region.binds .any e=true->e.on<i:=λi o ho e he hb=>by
  have hi:i<ops.size:=(lB.1 ho).1
  have:=hed i (by simp;omega)
  rw [ho] at this
  have:=kK.1 this e (by simpa using he)
  simpa [hb,bO] using this
 have hpre:∀i,i<j->(ops.toList.take j).toArray[i]?=ops[i]?:=λi hi=>by simp [hi]
 have hpre2:∀i,¬ i<j->(ops.toList.take j).toArray[i]?=none:=λi hi=>by simp [List.getElem?_take,hi]
 have wantd:∀i o (t:Array Value),ops[i]?=some o->Region.wanted o (yielded ops t)=true:=λi o t ho=>by unfold Region.wanted;rw [(hg i o ho).1]
 have inr:∀{M:Array Bool} {i:Nat},i<M.size->M.getD i false=true->M.getD i true=true:=λh1 h2=>by rw [i6 h1];exact h2
 have notin:∀{M:Array Bool} {i:Nat},i<M.size->M.getD i false=true->i ∉ Region.ready .any ops M:=λh1 h2 h=>by
  have:=(mem_ready.1 h).1
  rw [inr h1 h2] at this;cases this
 have done:∀(f:Nat) (M:Array Bool) (a:Act) (w:World),Region.ready .any ops M=[]->Q .normal a w->wpAnyIn (FR m) n P .any ops Q f M a w:=λf M a w hr h=>by
  cases f with
  |zero=>exact ⟨hr,h⟩
  |succ f=>exact ⟨λ_=>h,by rw [hr];simp⟩
 have setj:∀(M:Array Bool) (i k:Nat),i<M.size->(M.setIfInBounds i true).getD k false=if i=k then true else M.getD k false:=λM i k hi=>by
  by_cases e:i=k
  ·subst e;simp [hi]
  ·rw [getD_set_ne false e,if_neg e]
 have fin:∀(M:Array Bool) (a:Act) (w:World),M.size=j+1->(∀i,i<j->M.getD i false=true)->M.getD j false=false->wpListIn (FR m) n P ops Q [oc] a w->∀f,wpAnyIn (FR m) n P .any ops Q (f+1) M a w:=by
  intro M a w hM hall hj hw f
  have hjr:j∈Region.ready .any ops M:=mem_ready.2 ⟨by rw [i6 (by omega)];exact hj,oc,hoc,λe he hb=>hall _ (hbk j oc hoc e he hb)⟩
  refine ⟨λh=>(by rw [h] at hjr;cases hjr),λi hi=>?_⟩
  obtain ⟨hi1,o,ho,hi2⟩:=mem_ready.1 hi
  have hij:i=j:=by
   have h1:i<ops.size:=(lB.1 ho).1
   rcases Nat.lt_or_ge i j with h|h
   ·exact absurd hi (notin (by omega) (hall i h))
   ·omega
  subst hij
  unfold wpListIn at hw
  rw [if_pos (wantd i oc _ hoc)] at hw
  unfold wpOpIn
  rw [hoc]
  simp only
  rw [if_pos (wantd i oc _ hoc)]
  refine Oper.wpIn_mono (λa' w' h2=>done f _ a' w' ?_ h2) hw
  refine List.eq_nil_iff_forall_not_mem.2 λx hx=>?_
  obtain ⟨hx1,o'',ho'',_⟩:=mem_ready.1 hx
  have h1:x<ops.size:=(lB.1 ho'').1
  refine notin (by simp;omega) ?_ hx
  rw [setj _ _ _ (by omega)]
  by_cases e1:i=x
  ·rw [if_pos e1]
  ·rw [if_neg e1];exact hall x (by omega)
 have key:∀(f:Nat) (L' M:Array Bool) (a:Act) (w:World),L'.size=j->M.size=j+1->(∀i,i<j->M.getD i false=L'.getD i false)->M.getD j false=false->jM ops M->wpAny P .any (ops.toList.take j).toArray (j9 λ_ a w=>wpListIn (FR m) n P ops Q [oc] a w) f L' a w ->
  wpAnyIn (FR m) n P .any ops Q (f+1) M a w:=by
  intro f
  have allOf:∀(L' M:Array Bool),L'.size=j->M.size=j+1->(∀i,i<j->M.getD i false=L'.getD i false)->Region.ready .any (ops.toList.take j).toArray L'=[]->∀i,i<j->M.getD i false=true:=by
   intro L' M hL hM hrel hr i
   induction i using Nat.strongRecOn with
   |ind i ihi =>
    intro hi
    cases hc:M.getD i false with
    |true=>rfl
    |false =>
     obtain ⟨o,ho⟩:∃o,ops[i]?=some o:=⟨ops[i]'(by omega),tL (by omega)⟩
     have:i∈Region.ready .any (ops.toList.take j).toArray L':=mem_ready.2 ⟨by rw [i6 (by omega),<-hrel i hi];exact hc,o,by rw [hpre i hi];exact ho,λe he hb=>by
      have h1:=hbk i o ho e he hb
      rw [<-hrel _ (by omega)]
      exact ihi _ h1 (by omega)⟩
     rw [hr] at this;cases this
  have back:∀(L' M:Array Bool),L'.size=j->M.size=j+1->(∀i,i<j->M.getD i false=L'.getD i false)->M.getD j false=false->jM ops M->Region.ready .any (ops.toList.take j).toArray L'≠[]->∀i,i∈Region.ready .any ops M->i<j∧i∈Region.ready .any (ops.toList.take j).toArray L':=by
   intro L' M hL hM hrel hj hcl hr i hi
   obtain ⟨hi1,o,ho,hi2⟩:=mem_ready.1 hi
   have h1:i<ops.size:=(lB.1 ho).1
   rcases Nat.lt_trichotomy i j with h|h|h
   ·refine ⟨h,mem_ready.2 ⟨?_,o,by rw [hpre i h];exact ho,λe he hb=>?_⟩⟩
    ·rw [i6 (by omega),<-hrel i h,<-i6 (by omega)];exact hi1
    ·have:=hbk i o ho e he hb
     rw [<-hrel _ (by omega)];exact hi2 e he hb
   ·exfalso
    subst h
    rw [hoc] at ho;cases ho
    have hdir:∀k∈tD ops i,M.getD k false=true:=λk hk=>by
     unfold tD at hk
     rw [hoc] at hk
     obtain ⟨e,he,rfl⟩:=dC.1 hk
     obtain ⟨he1,he2⟩:=fY.1 he
     exact hi2 e (by simpa using he1) he2
    apply hr
    refine List.eq_nil_iff_forall_not_mem.2 λx hx=>?_
    obtain ⟨hx1,o',ho',_⟩:=mem_ready.1 hx
    have hxj:x<i:=by
     rcases Nat.lt_or_ge x i with h|h
     ·exact h
     ·rw [hpre2 x (by omega)] at ho';cases ho'
    have hc:=han x (by simpa using hxj)
    have:=aA4 hcl i (n9 ops i) (λk hk=>hdir k (wN.1 hk)) x (by rw [<-J4];simpa using hc)
    rw [hrel x hxj] at this
    rw [i6 (by omega),this] at hx1;cases hx1
   ·omega
  induction f with
  |zero =>
   intro L' M a w hL hM hrel hj hcl hw
   exact fin M a w hM (allOf L' M hL hM hrel hw.1) hj hw.2 0
  |succ f ih =>
   intro L' M a w hL hM hrel hj hcl hw
   obtain ⟨hw0,hw1⟩:=hw
   by_cases hr:Region.ready .any (ops.toList.take j).toArray L'=[]
   ·exact fin M a w hM (allOf L' M hL hM hrel hr) hj (hw0 hr) (f+1)
   ·refine ⟨λh=>?_,λi hi=>?_⟩
    ·obtain ⟨x,hx⟩:=List.exists_mem_of_ne_nil _ hr
     obtain ⟨hx1,o',ho',hx2⟩:=mem_ready.1 hx
     have hxj:x<j:=by
      rcases Nat.lt_or_ge x j with h|h
      ·exact h
      ·rw [hpre2 x (by omega)] at ho';cases ho'
     rw [hpre x hxj] at ho'
     have:x∈Region.ready .any ops M:=mem_ready.2 ⟨by rw [i6 (by omega),hrel x hxj,<-i6 (by omega)];exact hx1,o',ho',λe he hb=>by
      have:=hbk x o' ho' e he hb
      rw [hrel _ (by omega)];exact hx2 e he hb⟩
     rw [h] at this;cases this
    ·obtain ⟨hij,hir⟩:=back L' M hL hM hrel hj hcl hr i hi
     have h2:=hw1 i hir
     obtain ⟨hi1,o,ho,hi2⟩:=mem_ready.1 hi
     unfold wpOp at h2
     rw [hpre i hij,ho] at h2
     simp only at h2
     have hwp:∀t,Region.wanted o (yielded (ops.toList.take j).toArray t)=true:=λt=>by unfold Region.wanted;rw [(hg i o ho).1]
     rw [if_pos (hwp _)] at h2
     unfold wpOpIn
     rw [ho]
     simp only
     rw [if_pos (wantd i o _ ho)]
     rcases h2 with h2|h2
     ·have h3:o.wp P a w (λa' w'=>wpAny P .any (ops.toList.take j).toArray (j9 λ_ a w=>wpListIn (FR m) n P ops Q [oc] a w) f (L'.setIfInBounds i true) a' w') (j9 Q):=by
       unfold Oper.wp at h2 ⊢
       generalize (execOp a.eval o).run P w=x at *
       cases x with
       |ok x w' =>
        cases x<;>simp only [Oper.upon] at h2 ⊢<;>exact h2
       |halt x w' =>
        cases x<;>simp only [Oper.upon] at h2 ⊢
        case panic u=>exact h2.elim
      refine aBl (hg i o ho).2 (λa' w' h4=>ih _ _ a' w' (by simpa using hL) (by simpa using hM) (λk hk=>?_) ?_ (hcl.set hi) h4) h3
      ·rw [setj M i k (by omega),setj L' i k (by omega),hrel k hk]
      ·rw [setj M i j (by omega),if_neg (by omega)];exact hj
     ·obtain ⟨_,_,hh⟩:=h2.2
      exact hh.elim
 have:=key j (Array.replicate j false) (Array.replicate ops.size false) a w (by simp) (by simp [hsz]) (λi hi=>?_) (by simp [hsz]) (λk o _ hM=>?_) hp
 ·rw [hsz] at this ⊢;exact this
 ·simp [hsz,hi,eQ hi (Nat.le_add_right j 1)]
 ·have:(Array.replicate ops.size false).getD k false=false:=by
   rw [fK,Array.getElem?_replicate]
   split<;>rfl
  rw [this] at hM;cases hM
end
end
structure En where
 i:Nat
 w:Nat
 a:Nat
 f:Nat
def dM(o:Oper):Nat:=match o.dst with
 |some d=>Nat.pow 2 d
 |none=>0
def lM(ops:Array Oper)(o:Oper):Nat:=uL (o.looksAt ops)
structure Fr where
 i:Nat
 a:Nat
 d:Nat
 l:Nat
def tZ(ops:Array Oper)(j:Nat):Fr:=match ops[j]? with
 |some o=>⟨j,n9 ops j,dM o,lM ops o⟩
 |none=>⟨j,0,0,0⟩
def aGV(ops:Array Oper):List Fr:=(List.range ops.size).map (tZ ops)
def J1(i d l:Nat)(r:Fr):Bool:=Nat.beq r.i i || (tN r.a i || (Nat.beq (Nat.land d (Nat.lor r.l r.d)) 0&&Nat.beq (Nat.land r.d l) 0))
def aG2(ops:Array Oper)(i:Nat):Nat:=match ops[i]? with
 |some oi=>uL (((aGV ops).filter λr=>!J1 i (dM oi) (lM ops oi) r).map Fr.i)
 |none=>0
def mW(ops:Array Oper)(i:Nat):En:=⟨i,Nat.pow 2 i,n9 ops i,aG2 ops i⟩
def i3(ops:Array Oper):List En:=(List.range ops.size).map (mW ops)
def rN(a m:Nat):Bool:=Nat.beq (Nat.land m a) a
def zC(m:Nat)(e:En):Bool:=Nat.beq (Nat.land m e.w) 0&&rN e.a m
def dY(l:List En)(m:Nat):List En:=List.rec (motive:=λ_=>List En) [] (λe _ ih=>Bool.rec ih (e::ih) (zC m e)) l
def nV(m:Nat)(l:List En):Nat:=List.rec (motive:=λ_=>Nat) m (λe _ ih=>Nat.lor ih e.w) l
def qR(l:List En)(c:Nat):Bool:=match l with
 |[e]=>Nat.beq e.i c
 |_=>false
def o5(X:aI)(ops:Array Oper)(m:Nat)(ts:Sl)(hpF:Nat->Tr)(nx:Nat):List En->Option (En×Oper×SV)
 |[]=>none
 |e::es=>match ops[e.i]? with
  |some o=>bif rN e.f m then (match gB ops ts o.guard with
   |some false=>some (e,o,mX)
   |some true=>(match mB o.op,dI X ⟨ts,hpF e.i,nx⟩ o.op o.type with
    |true,some r=>some (e,o,r.1)
    |_,_=>o5 X ops m ts hpF nx es)
   |none=>o5 X ops m ts hpF nx es) else o5 X ops m ts hpF nx es
  |none=>o5 X ops m ts hpF nx es
def wT(X:aI)(ops:Array Oper)(m:Nat)(ts:Sl)(e:En):Bool:=rN e.f m&&(match ops[e.i]? with
 |some o=>(match o.dst with
  |some d=>isU (nth ts d)
  |none=>false)&&(dI X ⟨ts,.e,0⟩ o.op o.type).isSome
 |none=>false)
def tM(X:aI)(rec:FuncId->List SV->Tr->Nat->Option (SV×St))(ops:Array Oper)(tb:List En)(stop:Nat->Bool)(hpF:Nat->Tr):Nat->Nat->Sl->Tr->Nat->Option (Nat×St)
 |0,_,_,_,_=>none
 |fu+1,m,ts,hp,nx =>
  bif qJ stop ((dY tb m).map En.i) then some (m,⟨ts,hp,nx⟩) else
  bif ((dY tb m).filter (λe=>dZ ops ts e.i)).all (wT X ops m ts) then
   (match o5 X ops m ts hpF nx (dY tb m) with
   |some (e,o,y)=>tM X rec ops tb stop hpF fu (Nat.lor m e.w) (putS ts o.dst y) hp nx
   |none=>(match (dY tb m).filter (λe=>!dZ ops ts e.i) with
    |[c]=>(match ops[c.i]? with
     |some o=>bif qR (dY tb (nV m ((dY tb m).filter (λe=>dZ ops ts e.i)))) c.i then (match gB ops ts o.guard,pZ X rec o ts hp nx with
      |some true,some (y,hp',nx')=>tM X rec ops tb stop hpF fu (Nat.lor m c.w) (putS ts o.dst y) hp' nx'
      |_,_=>none) else none
     |none=>none)
    |[]=>(match (dY tb m).filter (λe=>dZ ops ts e.i) with
     |a::rest=>(match ops[a.i]? with
      |some o=>bif qR (dY tb (nV m rest)) a.i then (match dI X ⟨ts,hp,nx⟩ o.op o.type with
       |some (y,hp',nx')=>tM X rec ops tb stop hpF fu (Nat.lor m a.w) (putS ts o.dst y) hp' nx'
       |none=>none) else none
      |none=>none)
     |[]=>none)
    |_=>none))
  else none
def yD(X:aI)(rec:FuncId->List SV->Tr->Nat->Option (SV×St))(ops:Array Oper)(tb:List En)(tab:List (Nat×Nat))(hpF:Nat->Tr):Nat->List (Nat×HB)->Nat->St->Option St
 |0,_,_,_=>none
 |f+1,lk,m,st=>match tM X rec ops tb (aCB ops tab lk) hpF (ops.size+1) m st.ts st.hp st.nx with
  |none=>none
  |some (m1,eV)=>match dY tb m1 with
   |[]=>(match rR (λ_=>true) lk eV.hp with
    |some (hp,_)=>some ⟨eV.ts,hp,eV.nx⟩
    |none=>none)
   |c::_=>(match rR (λn=>cN ops tab n c.i) lk eV.hp with
    |some (hp,lk')=>yD X rec ops tb tab hpF f lk' m1 ⟨eV.ts,hp,eV.nx⟩
    |none=>none)
def B7(X:aI)(rec:FuncId->List SV->Tr->Nat->Option (SV×St))(ops:Array Oper)(st:St)(tab:List (Nat×Nat)):Option St:=match sO tab st.hp [] with
 |(hp,lk)=>yD X rec ops (i3 ops) tab (C3 tab st.hp) (lk.length+2) lk 0 ⟨hideS ops.toList st.ts,hp,st.nx⟩
def vL(hl:FuncId->Option (List SV->Tr->Nat->Option (SV×St)))(X:aI)(rec:FuncId->List SV->Tr->Nat->Option (SV×St))(ops:Array Oper)(st:St):Option St :=
 bif Region.noSelect ops&&(mN ops&&ops.toList.all fU) then B7 X rec ops st (xT hl X st.hp st.nx ops.toList 0 st.ts []) else none
def mS(ops:Array Oper)(L:Array Bool)(m:Nat):Prop:=L.size=ops.size∧∀j,m.testBit j=L.getD j false
theorem aIm{a m:Nat}:rN a m=true↔∀k,a.testBit k=true->m.testBit k=true:=by
 unfold rN
 have e:Nat.land m a=m &&& a:=rfl
 constructor
 ·intro h k hk
  have:=eU h
  rw [e] at this
  have h2:(m &&& a).testBit k=a.testBit k:=by rw [this]
  rw [Nat.testBit_and,hk] at h2
  simpa using h2
 ·intro h
  rw [e,show (m &&& a)=a from Nat.eq_of_testBit_eq λk=>by
   rw [Nat.testBit_and]
   cases hk:a.testBit k with
   |false=>simp
   |true=>rw [h k hk];rfl]
  exact Nat.beq_refl a
theorem aUI{m i:Nat}:Nat.beq (Nat.land m (Nat.pow 2 i)) 0=!m.testBit i:=by
 have e:Nat.land m (Nat.pow 2 i)=m &&& 2 ^ i:=rfl
 rw [e]
 cases h:m.testBit i with
 |false =>
  rw [show m &&& 2 ^ i=0 from Nat.eq_of_testBit_eq λk=>by
   rw [Nat.testBit_and,Nat.testBit_two_pow,Nat.zero_testBit]
   by_cases hk:i=k
   ·subst hk;rw [h];rfl
   ·simp [hk]]
  rfl
 |true =>
  cases hb:Nat.beq (m &&& 2 ^ i) 0 with
  |false=>rfl
  |true =>
   have h2:(m &&& 2 ^ i).testBit i=true:=by rw [Nat.testBit_and,Nat.testBit_two_pow,h];simp
   rw [eU hb,Nat.zero_testBit] at h2
   cases h2
theorem aJN(l:List En)(m:Nat):dY l m=l.filter (zC m):=by
 induction l with
 |nil=>rfl
 |cons e l ih =>
  have h:dY (e::l) m=Bool.rec (dY l m) (e::dY l m) (zC m e):=rfl
  rw [h,ih]
  cases he:zC m e with
  |false=>simp [he]
  |true=>simp [he]
section
variable {ops:Array Oper}{L:Array Bool}{m:Nat}
theorem a29(hB:mS ops L m){i:Nat}(hi:i<ops.size):zC m (mW ops i)=(!L.getD i true&&((ops[i]?).map (·.after.all λe=>!Region.binds .any e || L.getD e.on false)).getD false):=by
 unfold zC mW
 rw [aUI,hB.2 i,i6 (by rw [hB.1];exact hi)]
 congr 1
 have ho:ops[i]?=some ops[i]:=tL hi
 rw [ho]
 simp only [Option.map_some,Option.getD_some]
 rw [Bool.eq_iff_iff,aIm,Array.all_eq_true_iff_forall_mem]
 constructor
 ·intro h e he
  cases hb:Region.binds .any e with
  |false=>rfl
  |true =>
   have:=h e.on (aAr.2 ⟨_,e,ho,he,hb,rfl⟩)
   rw [hB.2] at this
   rw [this];rfl
 ·intro h k hk
  obtain ⟨o,e,ho',he,hb,rfl⟩:=aAr.1 hk
  rw [ho] at ho';cases ho'
  have:=h e he
  rw [hb] at this
  rw [hB.2];simpa using this
theorem aBm(hB:mS ops L m):Region.ready .any ops L=(dY (i3 ops) m).map En.i:=by
 rw [aJN]
 unfold i3 Region.ready
 rw [List.filter_map,List.map_map]
 have e:(En.i ∘ mW ops)=id:=rfl
 rw [e,List.map_id]
 refine List.filter_congr λi hi=>?_
 exact (a29 hB (dF.1 hi)).symm
theorem aQn{e:En}(h:e∈dY (i3 ops) m):e=mW ops e.i∧e.i<ops.size:=by
 rw [aJN] at h
 obtain ⟨i,hi,rfl⟩:=dC.1 (fY.1 h).1
 exact ⟨rfl,dF.1 hi⟩
theorem aJj{x y:Nat}:Nat.beq (Nat.land x y) 0=true↔∀k,x.testBit k=true->y.testBit k=false:=by
 have e:Nat.land x y=x &&& y:=rfl
 rw [e]
 constructor
 ·intro h k hk
  have h0:=eU h
  have:(x &&& y).testBit k=false:=by rw [h0,Nat.zero_testBit]
  rw [Nat.testBit_and,hk] at this
  simpa using this
 ·intro h
  rw [show x &&& y=0 from Nat.eq_of_testBit_eq λk=>by
   rw [Nat.testBit_and,Nat.zero_testBit]
   cases hk:x.testBit k with
   |false=>rfl
   |true=>rw [h k hk];rfl]
  rfl
theorem yP{o:Oper}{k:Nat}:(dM o).testBit k=true↔o.dst=some k:=by
 unfold dM
 cases o.dst with
 |none=>simp
 |some d =>
  simp only [b6]
  rw [show Nat.pow 2 d=2 ^ d from rfl,Nat.testBit_two_pow,bR]
theorem aUZ{oi oj:Oper}:(Nat.beq (Nat.land (dM oi) (Nat.lor (lM ops oj) (dM oj))) 0&&Nat.beq (Nat.land (dM oj) (lM ops oi)) 0)=oi.apart ops oj:=by
 have l1:∀o k,(lM ops o).testBit k=true↔k∈o.looksAt ops:=λo k=>wN
 rw [Bool.eq_iff_iff,bJ,aJj,aJj]
 unfold Oper.apart
 rw [bJ]
 refine and_congr ?_ ?_
 ·cases hd:oi.dst with
  |none=>exact ⟨λ_=>rfl,λ_ k hk=>by rw [yP,hd] at hk;cases hk⟩
  |some d =>
   simp only [bJ,Bool.not_eq_true',bne_iff_ne,ne_eq]
   have e:∀k,(dM oi).testBit k=true↔k=d:=λk=>by rw [yP,hd,b6];exact eq_comm
   constructor
   ·intro h
    have:=h d ((e d).2 rfl)
    rw [show Nat.lor (lM ops oj) (dM oj)=lM ops oj ||| dM oj from rfl,Nat.testBit_or,Bool.or_eq_false_iff] at this
    refine ⟨?_,λhc=>?_⟩
    ·cases hq:(oj.looksAt ops).contains d with
     |false=>rfl
     |true=>have h3:=(l1 oj d).2 (by simpa using hq);rw [h3] at this;cases this.1
    ·have h3:=yP.2 hc;rw [h3] at this;cases this.2
   ·rintro ⟨h1,h2⟩ k hk
    obtain rfl:=(e k).1 hk
    rw [show Nat.lor (lM ops oj) (dM oj)=lM ops oj ||| dM oj from rfl,Nat.testBit_or,Bool.or_eq_false_iff]
    refine ⟨?_,?_⟩
    ·cases hq:(lM ops oj).testBit k with
     |false=>rfl
     |true=>have:=(l1 oj k).1 hq;rw [List.contains_iff_mem.2 this] at h1;cases h1
    ·cases hq:(dM oj).testBit k with
     |false=>rfl
     |true=>exact absurd (yP.1 hq) h2
 ·cases hd:oj.dst with
  |none=>exact ⟨λ_=>rfl,λ_ k hk=>by rw [yP,hd] at hk;cases hk⟩
  |some d =>
   simp only [Bool.not_eq_true']
   have e:∀k,(dM oj).testBit k=true↔k=d:=λk=>by rw [yP,hd,b6];exact eq_comm
   constructor
   ·intro h
    have:=h d ((e d).2 rfl)
    cases hq:(oi.looksAt ops).contains d with
    |false=>rfl
    |true=>have h3:=(l1 oi d).2 (by simpa using hq);rw [h3] at this;cases this
   ·intro h1 k hk
    obtain rfl:=(e k).1 hk
    cases hq:(lM ops oi).testBit k with
    |false=>rfl
    |true=>have:=(l1 oi k).1 hq;rw [List.contains_iff_mem.2 this] at h1;cases h1
theorem aOk{i j:Nat}{oi oj:Oper}(hj:ops[j]?=some oj):J1 i (dM oi) (lM ops oi) (tZ ops j)=(j==i || (oj.after.any (λe=>Region.binds .any e&&e.on==i) || oi.apart ops oj)):=by
 unfold J1 tZ
 rw [hj]
 simp only
 rw [aUZ,J4]
 have e1:Nat.beq j i=(j==i):=by rw [bE];rfl
 have e2:(n9 ops j).testBit i=oj.after.any (λe=>Region.binds .any e&&e.on==i):=by
  rw [Bool.eq_iff_iff,aAr,<-Array.any_toList,List.any_eq_true]
  constructor
  ·rintro ⟨o,e,ho,he,hb,rfl⟩
   rw [hj] at ho;cases ho
   exact ⟨e,Array.mem_toList_iff.2 he,by simp [hb]⟩
  ·rintro ⟨e,he,h⟩
   rw [Array.mem_toList_iff] at he
   simp only [bJ,beq_iff_eq] at h
   exact ⟨oj,e,hj,he,h.1,h.2⟩
 rw [e1,e2]
theorem aJo(hB:mS ops L m){i:Nat}(hi:i<ops.size):rN (aG2 ops i) m=Region.free .any ops L i:=by
 have ho:ops[i]?=some ops[i]:=tL hi
 unfold aG2 Region.free
 rw [ho]
 simp only
 rw [Bool.eq_iff_iff,aIm,kK]
 have key:∀j,j<ops.size->((uL (((aGV ops).filter λr=>!J1 i (dM ops[i]) (lM ops ops[i]) r).map Fr.i)).testBit j=true↔J1 i (dM ops[i]) (lM ops ops[i]) (tZ ops j)=false):=by
  intro j hj
  have hmi:∀j,(tZ ops j).i=j:=λj=>by unfold tZ;split<;>rfl
  rw [wN,aGV,List.filter_map,List.map_map]
  simp only [dC,fY,dF,Function.comp,Bool.not_eq_true']
  constructor
  ·rintro ⟨x,⟨hx,h1⟩,h2⟩
   rw [hmi] at h2;subst h2;exact h1
  ·intro h;exact ⟨j,⟨hj,h⟩,hmi j⟩
 constructor
 ·intro h j hj
  have hjs:=dF.1 hj
  have h2:=h j
  have hk:=tL hjs
  rw [key j hjs,hB.2,<-i6 (by rw [hB.1];exact hjs),aOk hk] at h2
  rw [hk]
  simp only
  cases hl:L.getD j true with
  |true=>simp
  |false =>
   rw [hl] at h2
   simp only [Bool.or_false]
   cases hc:(j==i || (ops[j].after.any (λe=>Region.binds .any e&&e.on==i) || ops[i].apart ops ops[j])) with
   |true=>rfl
   |false=>exact absurd (h2 hc) (by simp)
 ·intro h k hk
  by_cases hks:k<ops.size
  ·have h2:=h k (dF.2 hks)
   have hk':=tL hks
   rw [key k hks,aOk hk'] at hk
   rw [hB.2,<-i6 (by rw [hB.1];exact hks)]
   rw [hk'] at h2
   simp only at h2
   cases hl:L.getD k true with
   |true=>rfl
   |false =>
    rw [hl] at h2
    simp only [Bool.or_false] at h2
    rw [h2] at hk
    cases hk
  ·exfalso
   rw [wN] at hk
   obtain ⟨r,hr,rfl⟩:=dC.1 hk
   obtain ⟨x,hx,rfl⟩:=dC.1 (fY.1 hr).1
   have hmi:(tZ ops x).i=x:=by unfold tZ;split<;>rfl
   rw [hmi] at hks
   exact hks (dF.1 hx)
theorem mS.set(hB:mS ops L m){i:Nat}(hi:i<ops.size):mS ops (L.setIfInBounds i true) (Nat.lor m (mW ops i).w):=by
 refine ⟨by rw [Array.size_setIfInBounds];exact hB.1,λj=>?_⟩
 have e:Nat.lor m (mW ops i).w=m ||| 2 ^ i:=rfl
 rw [e,Nat.testBit_or,Nat.testBit_two_pow,hB.2]
 by_cases hij:i=j
 ·subst hij
  simp [hB.1,hi]
 ·rw [getD_set_ne false hij];simp [hij]
theorem mS.setL(hB:mS ops L m):∀(l:List En),(∀e∈l,e=mW ops e.i∧e.i<ops.size)->mS ops (setL L (l.map En.i)) (nV m l):=by
 intro l hl
 refine ⟨?_,λj=>?_⟩
 ·have:∀(l:List Nat) (L:Array Bool),(Go.Proofs.YtjboelhcieepkaaGreatDoor.setL L l).size=L.size:=by
   intro l
   induction l with
   |nil=>intro L;rfl
   |cons i l ih=>intro L;exact (ih _).trans (by simp)
  rw [this];exact hB.1
 ·have hb:(nV m l).testBit j=(m.testBit j || (l.map En.i).contains j):=by
   clear hB
   induction l with
   |nil=>simp [nV]
   |cons e l ih =>
    have h:nV m (e::l)=nV m l ||| e.w:=rfl
    have hw:e.w=2 ^ e.i:=by have:=(hl e (by simp)).1;rw [this];rfl
    rw [h,Nat.testBit_or,ih λe he=>hl e (by simp [he]),hw,Nat.testBit_two_pow]
    simp only [List.map_cons,List.contains_cons]
    by_cases hij:e.i=j
    ·subst hij;simp
    ·have:¬ j=e.i:=λh=>hij h.symm
     have hb2:(j==e.i)=false:=beq_eq_false_iff_ne.2 this
     simp [hij,hb2]
  rw [hb,hB.2,fK,fK,aBD]
  cases hq:L[j]? with
  |some b=>simp
  |none =>
   have hjs:ops.size≤j:=by rw [<-hB.1];exact Array.getElem?_eq_none_iff.1 hq
   have:(l.map En.i).contains j=false:=by
    rw [Bool.eq_false_iff]
    intro hc
    obtain ⟨e,he,rfl⟩:=dC.1 (by simpa using hc)
    have:=(hl e he).2
    omega
   rw [this];simp
theorem aKu{l:List En}{c:Nat}:qR l c=decide (l.map En.i=[c]):=by
 unfold qR
 split
 ·rw [bE];simp
 ·rename_i h
  symm
  rw [decide_eq_false_iff_not]
  intro hc
  match l,hc with
  |[e],_=>exact h e rfl
theorem aI9{X:aI}{ts:Sl}{hpF:Nat->Tr}{nx:Nat}(hB:mS ops L m):∀(l:List En),(∀e∈l,e=mW ops e.i∧e.i<ops.size)->pL X ops L ts hpF nx (l.map En.i)=(o5 X ops m ts hpF nx l).map λx=>(x.1.i,x.2)
 |[],_=>rfl
 |e::es,hl=>by
  have ih:=aI9 (X:=X) (ts:=ts) (hpF:=hpF) (nx:=nx) hB es λe he=>hl e (by simp [he])
  obtain ⟨he,hi⟩:=hl e (by simp)
  have hf:rN e.f m=Region.free .any ops L e.i:=by rw [he];exact aJo hB hi
  simp only [List.map_cons]
  unfold pL o5
  rw [hf,ih]
  cases ops[e.i]? with
  |none=>rfl
  |some o =>
   simp only
   cases Region.free .any ops L e.i with
   |false=>rfl
   |true =>
    simp only [cond_true]
    cases gB ops ts o.guard with
    |none=>rfl
    |some b =>
     cases b with
     |false=>rfl
     |true =>
      simp only
      cases mB o.op with
      |false=>rfl
      |true =>
       cases dI X ⟨ts,hpF e.i,nx⟩ o.op o.type with
       |none=>rfl
       |some r=>rfl
theorem aKj{X:aI}{ts:Sl}(hB:mS ops L m){e:En}(he:e=mW ops e.i∧e.i<ops.size):wT X ops m ts e=sV X ops L ts e.i:=by
 unfold wT sV
 rw [show rN e.f m=Region.free .any ops L e.i by rw [he.1];exact aJo hB he.2]
 rfl
end
theorem Y8{X:aI}{rec:FuncId->List SV->Tr->Nat->Option (SV×St)}{ops:Array Oper}{stop:Nat->Bool}{hpF:Nat->Tr}:∀(fu:Nat) {L:Array Bool} {m:Nat} {ts:Sl} {hp:Tr} {nx:Nat} {m':Nat} {st:St},mS ops L m ->
 tM X rec ops (i3 ops) stop hpF fu m ts hp nx=some (m',st)->∃L',nW X rec ops stop hpF fu L ts hp nx=some (L',st)∧mS ops L' m'
 |0,_,_,_,_,_,_,_,_,h=>by cases h
 |fu+1,L,m,ts,hp,nx,m',st,hB,h=>by
  have hall:∀e∈dY (i3 ops) m,e=mW ops e.i∧e.i<ops.size:=λe he=>aQn he
  have hall2:∀(p:En->Bool),∀e∈(dY (i3 ops) m).filter p,e=mW ops e.i∧e.i<ops.size:=λp e he=>hall e (fY.1 he).1
  have fl:∀(p:Nat->Bool),((dY (i3 ops) m).map En.i).filter p=((dY (i3 ops) m).filter λe=>p e.i).map En.i:=λp=>by rw [List.filter_map];rfl
  unfold nW
  unfold tM at h
  rw [aBm hB]
  cases hst:qJ stop ((dY (i3 ops) m).map En.i) with
  |true =>
   rw [hst] at h
   simp only [cond_true] at h ⊢
   cases h
   exact ⟨L,rfl,hB⟩
  |false =>
   rw [hst] at h
   simp only [cond_false] at h ⊢
   have ha:(((dY (i3 ops) m).map En.i).filter (dZ ops ts)).all (sV X ops L ts)=((dY (i3 ops) m).filter (λe=>dZ ops ts e.i)).all (wT X ops m ts):=by
    rw [fl,List.all_map]
    rw [Bool.eq_iff_iff,kK,kK]
    exact ⟨λh e he=>(aKj hB (hall2 _ e he)).trans (h e he),λh e he=>(aKj hB (hall2 _ e he)).symm.trans (h e he)⟩
   rw [ha]
   cases hal:((dY (i3 ops) m).filter (λe=>dZ ops ts e.i)).all (wT X ops m ts) with
   |false=>rw [hal] at h;cases h
   |true =>
    rw [hal] at h
    simp only [cond_true] at h ⊢
    rw [aI9 hB _ hall]
    cases hpt:o5 X ops m ts hpF nx (dY (i3 ops) m) with
    |some x =>
     obtain ⟨e,o,y⟩:=x
     rw [hpt] at h
     simp only [Option.map_some] at h ⊢
     have hmem:∀(l:List En),(∀e∈l,e=mW ops e.i∧e.i<ops.size)->∀x,o5 X ops m ts hpF nx l=some x->x.1=mW ops x.1.i∧x.1.i<ops.size:=by
      intro l
      induction l with
      |nil=>intro _ x hx;cases hx
      |cons e l ih =>
       intro hl x hx
       have ih':=ih (λe he=>hl e (by simp [he])) x
       unfold o5 at hx
       split at hx
       ·rename_i o ho
        cases hs:rN e.f m with
        |false=>rw [hs] at hx;exact ih' hx
        |true =>
         rw [hs] at hx
         simp only [cond_true] at hx
         split at hx
         ·cases hx;exact hl e (by simp)
         ·split at hx
          ·cases hx;exact hl e (by simp)
          ·exact ih' hx
         ·exact ih' hx
       ·exact ih' hx
     obtain ⟨he,hi⟩:=hmem _ hall _ hpt
     simp only at he hi
     rw [he] at h
     exact Y8 fu (hB.set hi) h
    |none =>
     rw [hpt] at h
     simp only [Option.map_none] at h ⊢
     rw [fl,fl]
     split at h
     ·rename_i c hc
      rw [hc]
      simp only [List.map_cons,List.map_nil]
      have hcm:=hall2 (λe=>!dZ ops ts e.i) c (by rw [hc];simp)
      split at h
      ·rename_i o ho
       rw [ho]
       simp only
       have hset:=hB.setL ((dY (i3 ops) m).filter λe=>dZ ops ts e.i) (hall2 _)
       rw [aBm hset,<-aKu]
       cases hon:qR (dY (i3 ops) (nV m ((dY (i3 ops) m).filter λe=>dZ ops ts e.i))) c.i with
       |false=>rw [hon] at h;cases h
       |true =>
        rw [hon] at h
        simp only [cond_true] at h ⊢
        split at h
        ·rename_i y hp' nx' hg hl
         rw [hg,hl]
         simp only
         rw [hcm.1] at h
         exact Y8 fu (hB.set hcm.2) h
        ·cases h
      ·cases h
     ·rename_i hc
      rw [hc]
      simp only [List.map_nil]
      split at h
      ·rename_i a rest har
       rw [har]
       simp only [List.map_cons]
       have ham:=hall2 (λe=>dZ ops ts e.i) a (by rw [har];simp)
       split at h
       ·rename_i o ho
        rw [ho]
        simp only
        have hset:=hB.setL rest (λe he=>hall2 (λe=>dZ ops ts e.i) e (by rw [har];simp [he]))
        rw [aBm hset,<-aKu]
        cases hon:qR (dY (i3 ops) (nV m rest)) a.i with
        |false=>rw [hon] at h;cases h
        |true =>
         rw [hon] at h
         simp only [cond_true] at h ⊢
         split at h
         ·rename_i y hp' nx' hl
          rw [hl]
          simp only
          rw [ham.1] at h
          exact Y8 fu (hB.set ham.2) h
         ·cases h
       ·cases h
      ·cases h
     ·cases h
theorem aCU{X:aI}{rec:FuncId->List SV->Tr->Nat->Option (SV×St)}{ops:Array Oper}{tab:List (Nat×Nat)}{hpF:Nat->Tr}:∀(f:Nat) {lk:List (Nat×HB)} {L:Array Bool} {m:Nat} {st st':St},mS ops L m ->
 yD X rec ops (i3 ops) tab hpF f lk m st=some st'->xH X rec ops tab hpF f lk L st=some st'
 |0,_,_,_,_,_,_,h=>by cases h
 |f+1,lk,L,m,st,st',hB,h=>by
  unfold yD at h
  unfold xH
  split at h
  ·cases h
  ·rename_i m1 eV ha
   obtain ⟨L1,ha',hB'⟩:=Y8 _ hB ha
   rw [ha']
   simp only
   rw [aBm hB']
   split at h
   ·rename_i hr
    rw [hr]
    exact h
   ·rename_i c _ hr
    rw [hr]
    simp only [List.map_cons]
    split at h
    ·rename_i hp lk' hrel
     try rw [hrel]
     exact aCU f hB' h
    ·cases h
theorem aCi{hl:FuncId->Option (List SV->Tr->Nat->Option (SV×St))}{X:aI}{rec:FuncId->List SV->Tr->Nat->Option (SV×St)}{ops:Array Oper}{st st':St}(h:vL hl X rec ops st=some st'):z9 hl X rec ops st=some st':=by
 unfold vL at h
 unfold z9
 cases hc:(Region.noSelect ops&&(mN ops&&ops.toList.all fU)) with
 |false=>rw [hc] at h;cases h
 |true =>
  rw [hc] at h
  simp only [cond_true] at h ⊢
  unfold B7 at h
  unfold B1
  split at h
  rename_i hp lk hl
  try rw [hl]
  refine aCU _ ⟨by simp,λj=>?_⟩ h
  rw [Nat.zero_testBit,fK,Array.getElem?_replicate]
  split<;>rfl
