/- A part of the proof of TopSealed. -/
import Derived.Test.YtjboelhcieepkaaGreatDoorW18
noncomputable section
set_option maxRecDepth 16384
namespace Go.Proofs.YtjboelhcieepkaaGreatDoor
open Go.RowKit
theorem aZ7:iF 1:=by intro Z R Ee z0 q v dg e m;kernel_rfl
theorem aYY:iF 2:=by intro Z R Ee z0 q v dg e m;kernel_rfl
theorem a35:iF 3:=by intro Z R Ee z0 q v dg e m;kernel_rfl
theorem a0m:iF 4:=by intro Z R Ee z0 q v dg e m;kernel_rfl
theorem a3v:iF 5:=by intro Z R Ee z0 q v dg e m;kernel_rfl
theorem a6n:iF 6:=by intro Z R Ee z0 q v dg e m;kernel_rfl
theorem a8P:iF 7:=by intro Z R Ee z0 q v dg e m;kernel_rfl
theorem aTt:iF 8:=by intro Z R Ee z0 q v dg e m;kernel_rfl
theorem a55:iF 9:=by intro Z R Ee z0 q v dg e m;kernel_rfl
theorem aPb:iF 10:=by intro Z R Ee z0 q v dg e m;kernel_rfl
theorem a53:iF 11:=by intro Z R Ee z0 q v dg e m;kernel_rfl
theorem aXb:iF 12:=by intro Z R Ee z0 q v dg e m;kernel_rfl
theorem aQ6:iF 13:=by intro Z R Ee z0 q v dg e m;kernel_rfl
theorem aW8:iF 14:=by intro Z R Ee z0 q v dg e m;kernel_rfl
theorem a7S:iF 15:=by intro Z R Ee z0 q v dg e m;kernel_rfl
theorem a6J:iF 16:=by intro Z R Ee z0 q v dg e m;kernel_rfl
theorem bEo:iF 17:=by intro Z R Ee z0 q v dg e m;kernel_rfl
theorem bAI:iF 18:=by intro Z R Ee z0 q v dg e m;kernel_rfl
theorem aYk:iF 19:=by intro Z R Ee z0 q v dg e m;kernel_rfl
theorem aWd:iF 20:=by intro Z R Ee z0 q v dg e m;kernel_rfl
theorem a5k:∀n,1≤n->n≤20->iF n
 |1,_,_=>aZ7
 |2,_,_=>aYY
 |3,_,_=>a35
 |4,_,_=>a0m
 |5,_,_=>a3v
 |6,_,_=>a6n
 |7,_,_=>a8P
 |8,_,_=>aTt
 |9,_,_=>a55
 |10,_,_=>aPb
 |11,_,_=>a53
 |12,_,_=>aXb
 |13,_,_=>aQ6
 |14,_,_=>aW8
 |15,_,_=>a7S
 |16,_,_=>a6J
 |17,_,_=>bEo
 |18,_,_=>bAI
 |19,_,_=>aYk
 |20,_,_=>aWd
 |n+21,_,h=>absurd h (by omega)
 |0,h,_=>absurd h (by omega)
def aDe(c:Rp SV):Rp SV:=cB (iA c [])
def yF(b:HB):HB:=⟨b.T,bif Nat.beq b.k 8 then b.cs else aDe b.cs,b.k⟩
def pW:Option HB->Option HB
 |some b=>some (yF b)
 |none=>none
def B8(hp:Tr)(l:List Nat):Tr:=fD (l.map λn=>(n,pW (hp.get n)))
section
variable {r:List aF}
theorem aIz:∀{l:List (Rp SV)} {us:List Value},cE r l us->aD r (cB l) us
 |[],_,h=>by cases h;exact .nil
 |_::_,_,h=>by
  cases h with
  |cons h t=>exact aD.cat h (aIz t)
theorem aXf{c:Rp SV}{us:List Value}(h:aD r c us):aD r (aDe c) us:=aIz (hZ c h)
theorem P6{hp:Tr}{l:List Nat}{n:Nat}{b:HB}(h:(B8 hp l).get n=some b):∃b0,hp.get n=some b0∧b=yF b0:=by
 unfold B8 at h
 rw [O9] at h
 cases hf:(l.map λn=>(n,pW (hp.get n))).find? λx=>x.1==n with
 |none=>rw [hf] at h;cases h
 |some x =>
  rw [hf] at h
  have h1:=List.find?_some hf
  obtain ⟨j,_,rfl⟩:=dC.1 (List.mem_of_find?_eq_some hf)
  simp only [beq_iff_eq] at h1
  subst h1
  simp only [Option.map_some,Option.getD_some] at h
  unfold pW at h
  split at h
  ·rename_i b0 hb;cases h;exact ⟨b0,hb,rfl⟩
  ·cases h
variable {E:bX}{hp:Tr}{nx:Nat}{w:World}
theorem aTp{L:aF}{b:HB}(h:eN E r L b w):eN E r L (yF b) w:=by
 obtain ⟨vs,hd,hk⟩:=h
 by_cases h8:b.k=8
 ·have e:yF b=b:=by
   obtain ⟨T,cs,k⟩:=b
   simp only at h8
   subst h8
   rfl
  rw [e]
  exact ⟨vs,hd,hk⟩
 ·have e:yF b=⟨b.T,aDe b.cs,b.k⟩:=by unfold yF;rw [show Nat.beq b.k 8=false from by rw [bE];simpa using h8];rfl
  rw [e]
  refine ⟨vs,aXf hd,?_⟩
  rcases hk with h|h|⟨h1,h2,h3,h4⟩
  ·exact .inl h
  ·exact .inr (.inl h)
  ·exact .inr (.inr ⟨h1,h2,h3,h4.1,h4.2.1,h4.2.2.1,λh=>absurd h h8⟩)
theorem aA2(h:aG E r hp nx w)(l:List Nat):aG E r (B8 hp l) nx w:=by
 refine ⟨h.len,λn b hb=>?_,λn m b c L M hb hc hne hk hL hM k hc1 hc2=>?_,h.below,h.fz,λn b L hb hk hL k hcv=>?_,h.up,λn b L hb h2 h5 hL=>?_,h.rlt,h.glob⟩
 ·obtain ⟨b0,h0,rfl⟩:=P6 hb
  obtain ⟨L,hL,hk⟩:=h.blk n b0 h0
  exact ⟨L,hL,aTp hk⟩
 ·obtain ⟨b0,h0,rfl⟩:=P6 hb
  obtain ⟨c0,h1,rfl⟩:=P6 hc
  exact h.sep n m b0 c0 L M h0 h1 hne hk hL hM k hc1 hc2
 ·obtain ⟨b0,h0,rfl⟩:=P6 hb
  exact h.far n b0 L h0 hk hL k hcv
 ·obtain ⟨b0,h0,rfl⟩:=P6 hb
  exact h.old n b0 L h0 h2 h5 hL
end
def C2(lh:List Nat)(p:aB):aB:=⟨p.h,p.k,⟨p.st.ts,B8 p.st.hp lh,p.st.nx⟩⟩
def nJ(ls ns:List Nat)(B:Nat)(p:aB):aB:=aB1 ls ns B (C2 ns p)
structure j7 where
 S:gR
 es:List Ev
 ls:List Nat
 ns:List Nat
 B:Nat
def goV(H:Hk)(n:Nat)(c:j7)(p:aB):aB×List Ob×Bool:=(nJ c.ls c.ns c.B (cL c.S H Xt n c.es p).1,(cL c.S H Xt n c.es p).2,oT (cL c.S H Xt n c.es p).1.k)
def eO(w:World)(p q:aB):Prop:=∀(Q0:cM),e8 Xt.P Q0->Xp (E0 Xt w) [] Q0 q->Xp (E0 Xt w) [] Q0 p
theorem eO.rfl_(w:World)(p:aB):eO w p p:=λ_ _ h=>h
theorem eO.trans{w:World}{p q s:aB}(h1:eO w p q)(h2:eO w q s):eO w p s:=λQ0 h0 hq=>h1 Q0 h0 (h2 Q0 h0 hq)
theorem eO.go{w:World}{H:Hk}(hH:bZ Xt H){n:Nat}{c:j7}{p q:aB}{obs:List Ob}(h:goV H n c p=(q,obs,true))(ho:∀ob∈obs,ob.Holds (E0 Xt w)):eO w p q:=by
 intro Q0 h0 hq
 unfold goV at h
 simp only [cH] at h
 obtain ⟨h1,h2,h3⟩:=h
 refine jG (S:=c.S) (E:=E0 Xt w) aH hH h0 n c.es (λob hob=>ho ob (h2▸hob)) ?_
 have h4:Xp (E0 Xt w) [] Q0 (C2 c.ns (cL c.S H Xt n c.es p).1):=aEn c.ls c.ns c.B h3 (by
  have:aB1 c.ls c.ns c.B (C2 c.ns (cL c.S H Xt n c.es p).1)=q:=h1
  rw [this];exact hq)
 intro r vs w' Q hr hs hm hk
 exact h4 r vs w' Q hr hs (aA2 hm c.ns) hk
theorem aG.swap{E:bX}{r:List aF}{hp:Tr}{nx:Nat}{w:World}(h:aG E r hp nx w){n:Nat}{b:HB}(hb:hp.get n=some b)(_h8:b.k≠8)(c:Rp SV)(hok:∀L,r[n]?=some L->eN E r L ⟨b.T,c,b.k⟩ w):aG E r (hp.put n ⟨b.T,c,b.k⟩) nx w:=by
 have key:∀{m:Nat} {x:HB},(hp.put n ⟨b.T,c,b.k⟩).get m=some x->∃y,hp.get m=some y∧y.k=x.k∧∀L,r[m]?=some L->eN E r L y w->eN E r L x w:=by
  intro m x hx
  rw [bC.get_put] at hx
  by_cases e:m=n
  ·subst e
   rw [if_pos rfl] at hx
   cases hx
   exact ⟨b,hb,rfl,λL hL _=>hok L hL⟩
  ·rw [if_neg e] at hx
   exact ⟨x,hx,rfl,λ_ _ h=>h⟩
 have cov:∀{x y:HB} {L:aF} {k:Nat},y.k=x.k->gJ x L k->gJ y L k:=λhk hc=>hc.elim .inl λh=>.inr ⟨hk.trans h.1,h.2⟩
 refine ⟨h.len,λm x hx=>?_,λm1 m2 x1 x2 L M h1 h2 hne hk hL hM k c1 c2=>?_,h.below,h.fz,λm x L hx hk hL k hcv=>?_,h.up,λm x L hx h2 h5 hL=>?_,h.rlt,h.glob⟩
 ·obtain ⟨y,hy,_,ho⟩:=key hx
  obtain ⟨L,hL,hB⟩:=h.blk m y hy
  exact ⟨L,hL,ho L hL hB⟩
 ·obtain ⟨y1,hy1,e1,_⟩:=key h1
  obtain ⟨y2,hy2,e2,_⟩:=key h2
  exact h.sep m1 m2 y1 y2 L M hy1 hy2 hne (by rw [e1];exact hk) hL hM k (cov e1 c1) (cov e2 c2)
 ·obtain ⟨y,hy,e,_⟩:=key hx
  exact h.far m y L hy (by rw [e];exact hk) hL k (cov e hcv)
 ·obtain ⟨y,hy,e,_⟩:=key hx
  exact h.old m y L hy (by rw [e];exact h2) (by rw [e];exact h5) hL
def a3P(fx:Nat)(ls ns:List Nat)(B:Nat)(p:aB):aB:=⟨p.h,p.k,⟨(nJ ls ns B p).st.ts,(nJ ls ns B p).st.hp.set (pW (p.st.hp.get fx)) fx,ns.length⟩⟩
def goI(H:Hk)(n fx T kk:Nat)(c:j7)(p:aB):aB×List Ob×Bool:=(a3P fx c.ls c.ns c.B (cL c.S H Xt n c.es p).1,(cL c.S H Xt n c.es p).2,oT (cL c.S H Xt n c.es p).1.k&&(match lI c.ns fx with
 |some j=>Nat.beq j fx
 |none=>false)&&(match (nJ c.ls c.ns c.B (cL c.S H Xt n c.es p).1).st.hp.get fx with
 |some b=>Nat.beq b.T T&&Nat.beq b.k kk
 |none=>false))
def fX(k:Nat)(x:SV):Prop:=∀r r' v,(∀n,n<k->∀L,r[n]?=some L->r'[n]?=some L)->aP r x v->aP r' x v
def xI(k:Nat)(c:Rp SV):Prop:=∀r r' us,(∀n,n<k->∀L,r[n]?=some L->r'[n]?=some L)->aD r c us->aD r' c us
theorem fX.v(k:Nat)(y:Value):fX k (.v y):=λ_ _ _ _ h=>by cases h;exact .v y
theorem fX.s(k n o l c:Nat)(hn:n<k):fX k (.s n o l c):=λ_ _ _ hr h=>by cases h with|s hL=>exact .s (hr n hn _ hL)
theorem xI.nil(k:Nat):xI k .nil:=λ_ _ _ _ h=>by cases h;exact .nil
theorem xI.cons{k:Nat}{x:SV}{l:List (Rp SV)}(hx:fX k x)(hl:xI k (cB l)):xI k (cB (.one x::l)):=by
 intro r r' us hr h
 have h':aD r (cat (.one x) (cB l)) us:=h
 have e:cat (.one x) (cB l)=.one x∨∃s t,cat (.one x) (cB l)=.node s t (.one x) (cB l):=by
  cases cB l<;>first|exact .inl rfl|exact .inr ⟨_,_,rfl⟩
 show aD r' (cat (.one x) (cB l)) us
 rcases e with e|⟨s,t,e⟩
 ·rw [e] at h' ⊢
  cases h' with|one h1 h2=>exact .one (hx r r' _ hr h1) h2
 ·rw [e] at h' ⊢
  cases h' with|node ha hb hs ht=>cases ha with|one h1 h2=>exact .node (.one (hx r r' _ hr h1) h2) (hl r r' _ hr hb) hs ht
theorem eO.goI{w:World}{H:Hk}(hH:bZ Xt H){n fx k T kk:Nat}{c:j7}{p q:aB}{obs:List Ob}{row:Rp SV}(h:Go.Proofs.YtjboelhcieepkaaGreatDoor.goI H n fx T kk c p=(q,obs,true))(hq:q.st.hp.get fx=some ⟨T,row,kk⟩)(h8:kk≠8)(hf:xI k row)(hk:∀n,n<k->lI c.ns n=some n)(ho:∀ob∈obs,ob.Holds (E0 Xt w)):eO w p q:=by
 intro Q0 h0 hx
 unfold Go.Proofs.YtjboelhcieepkaaGreatDoor.goI at h
 simp only [cH,bJ] at h
 obtain ⟨h1,h2,⟨h3,h3'⟩,h4'⟩:=h
 refine jG (S:=c.S) (E:=E0 Xt w) aH hH h0 n c.es (λob hob=>ho ob (h2▸hob)) ?_
 obtain ⟨pe,hpe⟩:∃pe,pe=(cL c.S H Xt n c.es p).1:=⟨_,rfl⟩
 show Xp (E0 Xt w) [] Q0 (cL c.S H Xt n c.es p).1
 rw [<-hpe] at h1 h3 h4' ⊢
 obtain ⟨c0,h4⟩:∃c0,(nJ c.ls c.ns c.B pe).st.hp.get fx=some ⟨T,c0,kk⟩:=by
  split at h4'
  ·rename_i b hb
   rw [bJ] at h4'
   obtain ⟨T',c0,kk'⟩:=b
   rw [<-eU h4'.1,<-eU h4'.2]
   exact ⟨c0,hb⟩
  ·cases h4'
 have hidx:lI c.ns fx=some fx:=by
  split at h3'
  ·rename_i j hj
   rw [hj,eU h3']
  ·cases h3'
 subst h1
 have hset:pW (pe.st.hp.get fx)=some ⟨T,row,kk⟩:=by
  have:((nJ c.ls c.ns c.B pe).st.hp.set (pW (pe.st.hp.get fx)) fx).get fx=some ⟨T,row,kk⟩:=hq
  rw [bC.get_set,if_pos rfl] at this
  exact this
 intro r vs w' Q hr hs hm hk2
 have hm1:=aA2 hm c.ns
 have hm2:=aIc (ns:=c.ns) hm1 c.B
 have hget:(B8 pe.st.hp c.ns).get fx=some ⟨T,row,kk⟩:=by
  unfold B8
  rw [O9]
  have hmem:fx∈c.ns:=List.mem_of_getElem? (aNX hidx)
  cases hfnd:(c.ns.map λn=>(n,pW (pe.st.hp.get n))).find? λx=>x.1==fx with
  |none =>
   have:=List.find?_eq_none.1 hfnd (fx,pW (pe.st.hp.get fx)) (dC.2 ⟨fx,hmem,rfl⟩)
   simp at this
  |some x =>
   have e1:=List.find?_some hfnd
   obtain ⟨j,_,rfl⟩:=dC.1 (List.mem_of_find?_eq_some hfnd)
   simp only [beq_iff_eq] at e1
   subst e1
   exact hset
 obtain ⟨L,hL,hB⟩:=hm1.blk fx _ hget
 have hL2:=rU hidx hL
 have hmv:∀us,aD r row us->aD (fI r c.ns) row us:=λus=>hf r (fI r c.ns) us λn hn M hM=>rU (hk n hn) hM
 have hm3:=hm2.swap (n:=fx) (b:=⟨T,c0,kk⟩) h4 h8 row (λM hM=>by
  rw [hL2] at hM
  cases hM
  obtain ⟨vs',hd,hkk⟩:=hB
  refine ⟨vs',hmv _ hd,?_⟩
  rcases hkk with h|h|⟨a1,a2,a3,a4⟩
  ·exact .inl h
  ·exact .inr (.inl h)
  ·exact .inr (.inr ⟨a1,a2,a3,a4.1,a4.2.1,a4.2.2.1,λh=>absurd h h8⟩))
 have e:(nJ c.ls c.ns c.B pe).st.hp.set (pW (pe.st.hp.get fx)) fx=(nJ c.ls c.ns c.B pe).st.hp.put fx ⟨T,row,kk⟩:=by rw [hset];rfl
 have:=hx (fI r c.ns) vs w' Q ⟨_,rfl⟩ (aNb hs c.ls) (by
  show aG (E0 Xt w) (fI r c.ns) ((nJ c.ls c.ns c.B pe).st.hp.set (pW (pe.st.hp.get fx)) fx) c.ns.length w'
  rw [e];exact hm3) (K0 h3 hk2)
 obtain ⟨g1,g2⟩:=uI h3 r
 obtain ⟨g3,g4⟩:=uI h3 (fI r c.ns)
 have e2:lZ (eG (fI r c.ns) pe.k) (cX (fI r c.ns) pe.k) Xt.P pe.h Q vs w':=this
 show lZ (eG r pe.k) (cX r pe.k) Xt.P pe.h Q vs w'
 rw [g1,g2]
 rwa [g3,g4] at e2
structure VP where
 bl:Nat
 ep:Nat
 ma:Nat
 pl:List Nat
 sl:List Nat
 el:List Nat
 ml:List Nat
 he:el.length=16
 heb:Sh.Byt el
 hm:ml.length=32
 hmb:Sh.Byt ml
def kN(bl ep ma:Nat)(pl sl:List Nat):VP:=⟨bl,ep,ma,pl,sl,W5 (sF ma),aCu (sF ma),(aCD (sF ma)).hl,(aCD (sF ma)).hb,(aBh (sF ma)).hl,(aBh (sF ma)).hb⟩
def n8(n:Nat):Rp SV:=.one (.v (.int .u8 (.ofNat n)))
def nI(n:Nat):Rp SV:=.one (.v (.int .u64 (.ofNat n)))
def tE:SV:=.v (.slice none 0 0)
def vR(x:VP)(pp sp:SV):Rp SV:=cB [n8 x.bl,.one pp,.one sp,n8 x.ep,n8 x.ma]
def aMH:List Nat:=List.replicate 16 0
def nD:List Nat:=List.replicate 32 0
def a87:Rp SV:=cB [.one (aM 0),.arr .u8 16 aMH,.arr .u8 32 nD,.one tE,.arr .u8 32 nD,nI 0,nI 0,.one tE,.one tE,.one tE]
def aO2(n:Nat)(x:VP)(ref:SV)(bs rs ss:SV):Rp SV:=cB [.one (aM n),.q (.byt ⟨x.el,16,x.he,x.heb⟩),.q (.byt ⟨x.ml,32,x.hm,x.hmb⟩),.one ref,.arr .u8 32 nD,nI 0,nI 0,.one bs,.one rs,.one ss]
def aSX(i:Nat)(B:Nat->List Nat):Rp SV:=cB ((List.range i).map λj=>.arr .u8 32 (B j))
def iC(n:Nat):Nat:=2*n+2*aT n
def aG1(b:Bool)(x:SV):SV:=bif b then tE else x
def aDk(b:Bool)(x:HB):Option HB:=bif b then none else some x
def hpV(x:VP)(pp sp:SV)(n2 n3 N:Nat)(n i k:Nat)(R:Nat->aA)(B:Nat->List Nat)(L:List (Option aQ))(S:Nat->Bool):List (Nat×Option HB) :=
 [(0,some ⟨5,.arr .u8 n2 x.pl,2⟩),(1,some ⟨5,.arr .u8 n3 x.sl,2⟩),(2,some ⟨25,vR x pp sp,0⟩),(3,some ⟨40,a87,0⟩),
  (4,some ⟨40,aO2 n x (.gs 5 (iC n)) (aG1 (Nat.beq i 0) (.w 6 i)) (aG1 (Nat.beq i 0) (.w 7 i)) (aG1 (Nat.beq k 0) (.w 8 k)),0⟩),(5,some ⟨0,.q (.gh (iC n+2) N L),8⟩),
  (6,aDk (Nat.beq i 0) ⟨81,aSX i B,1⟩),(7,aDk (Nat.beq i 0) ⟨61,aBj i R,1⟩),(8,aDk (Nat.beq k 0) ⟨3,lE k S,1⟩)]
def a0f:List uF:=[.r,.r,.r,.r,.r,.l,.r,.b,.b,.l,.r]
def a8s:List uF:=[.r,.r,.r,.r,.r,.r,.l,.r,.b,.b,.l,.r]
def aZ2:List uF:=[.r,.r,.r,.r,.r,.r,.r,.r,.r,.l,.r,.b,.b,.r,.l,.b,.r,.b,.b,.l,.r]
def P1(x:VP)(pp sp:SV)(n2 n3 n i:Nat)(R:Nat->aA)(B:Nat->List Nat)(L:List (Option aQ)):aB :=
 rF 5 a0f [(1,.p 2 0),(2,.p 3 0),(3,.p 4 0),(4,aM i),(37,.v (.bool (Nat.blt i n)))] (hpV x pp sp n2 n3 i n i 0 R B L λ_=>false) 9
def P2(x:VP)(pp sp:SV)(n2 n3 n k:Nat)(R:Nat->aA)(B:Nat->List Nat)(L:List (Option aQ))(S:Nat->Bool):aB :=
 rF 5 a8s [(1,.p 2 0),(2,.p 3 0),(3,.p 4 0),(8,aM k),(118,.v (.bool (Nat.blt k (aT n))))] (hpV x pp sp n2 n3 n n n k R B L S) 9
def P3(x:VP)(pp sp:SV)(n2 n3 n l j:Nat)(R:Nat->aA)(B:Nat->List Nat)(L:List (Option aQ))(S:Nat->Bool):aB :=
 rF 5 aZ2 [(1,.p 2 0),(2,.p 3 0),(3,.p 4 0),(10,aM (aO n)),(11,aM l),(12,aM j),(163,.v (.bool (Nat.blt j (aL n l))))] (hpV x pp sp n2 n3 (n+num n l j) n n (aT n) R B L S) 9
def o6(x:VP)(n2 n3:Nat):Tr:=(bC.e.put 0 ⟨5,.arr .u8 n2 x.pl,2⟩).put 1 ⟨5,.arr .u8 n3 x.sl,2⟩
def P0(x:VP)(pp sp:SV)(n2 n3:Nat):aB:=eA Xt 5 [.a (vR x pp sp)] (o6 x n2 n3) 2
def nEx(bl:Nat):Int:=IntKind.i64.wrap (1+(IntKind.i64.wrap (Int.ofNat bl)).tmod 20)
def aGs(y:SV):Rp SV:=cB [.one y,.arr .u8 16 aMH,.arr .u8 32 nD,.one tE,.arr .u8 32 nD,nI 0,nI 0,.one tE,.one tE,.one tE]
def aL0(n:Nat):j7:=⟨⟨[37],[20],0⟩,[.k 4 (aGs (aM n)) true],[1,2,3,4,37],[0,1,2,3,4,5,900,901,902],0⟩
def R0(n:Nat):Prop:=∀(bl ep ma:Nat) (pl sl:List Nat) (pp sp:SV) (n2 n3:Nat) (R:Nat->aA) (B:Nat->List Nat),
 goI HV 12 2 25 0 (aL0 n) (P0 (kN bl ep ma pl sl) pp sp n2 n3)=(P1 (kN bl ep ma pl sl) pp sp n2 n3 n 0 R B (qQ (iC n)),[.r (aGs (.v (.int .i64 (nEx bl)))) (aGs (aM n))],true)
def gA(x:VP)(i:Nat):Nat:=x.pl.getD (2*i) 0
def yA(x:VP)(i:Nat):Nat:=x.pl.getD (2*i+1) 0
def zR0:Rp SV:=cB [n8 0,.one (.v (.int .u32 (.ofNat 0))),nI 0,.arr .u8 32 nD]
def tgI(x:VP)(i:Nat):List Nat:=lJ x.ml (aEy x.el (rA (yA x i)) i)
def wS(a b:Nat):Bool:=decide ((a:Int)<(b:Int))
def ob3(x:VP)(i:Nat):Bool:=decide ((0:Int)<((gA x i:Nat):Int).tmod 3)
def S1:gR:=⟨[37,54],[46,85,104,110],0⟩
def aKh(s i:Nat):Rp SV:=cB [n8 s,.one (.v (.int .u32 (.ofNat (i%3)))),nI i,.arr .u8 32 nD]
def a3m(x:VP)(i:Nat):Rp SV:=cB [.one (.v (.int .u8 (((gA x i:Nat):Int).tmod 3))),.one (.v (.int .u32 (.ofNat (i%3)))),nI i,.arr .u8 32 nD]
def aYZ(x:VP)(s i:Nat):Rp SV:=cB [n8 s,.one (.v (.int .u32 (.ofNat (i%3)))),nI i,.arr .u8 32 (Sh.shaF (tgI x i))]
def l1:List Nat:=[1,2,3,4,37]
def aFp(g:Bool)(i:Nat)(R:Nat->aA)(B:Nat->List Nat):j7:=⟨S1,[.b true,.g g,.b false,.k 9 (.arr .u8 32 (B i)) true,.k 10 (.q (.rcd (R i))) true],l1,[0,1,2,3,4,5,12,14,902],i+1⟩
def a1S(s i:Nat)(R:Nat->aA)(B:Nat->List Nat):j7:=⟨S1,[.b true,.g true,.b true,.k 10 (aKh s i) true,.k 9 (.arr .u8 32 (B i)) true,.k 10 (.q (.rcd (R i))) true],l1,[0,1,2,3,4,12,14,16,902],i+1⟩
def obA(_x:VP)(lp i:Nat)(R:Nat->aA)(B:Nat->List Nat):List Ob:=[.t true true,.t (wS i lp) false,.t false false,.r (.arr .u8 32 nD) (.arr .u8 32 (B i)),.r zR0 (.q (.rcd (R i)))]
def obB(x:VP)(lp i:Nat)(R:Nat->aA)(B:Nat->List Nat):List Ob:=[.t true true,.t (wS i lp) true,.t (ob3 x i) false,.r (.arr .u8 32 nD) (.arr .u8 32 (B i)),.r zR0 (.q (.rcd (R i)))]
def obC(x:VP)(s lp i:Nat)(R:Nat->aA)(B:Nat->List Nat):List Ob:=[.t true true,.t (wS i lp) true,.t (ob3 x i) true,.r (a3m x i) (aKh s i),.r (.arr .u8 32 (rA (yA x i))) (.arr .u8 32 (B i)),.r (aYZ x s i) (.q (.rcd (R i)))]
def m9(c:j7)(p:aB):aB×List Ob×Bool:=goI HV 12 2 25 0 c p
def RZ(n:Nat):Prop:=∀(x:VP) (A:Option Addr) (c n2 n3:Nat) (sp:SV) (R:Nat->aA) (B:Nat->List Nat) (L:List (Option aQ)),(List.range n).map (λi=>m9 (aFp false i R B) (P1 x (.v (.slice A 0 c)) sp n2 n3 n i R B L))=(List.range n).map λi=>(P1 x (.v (.slice A 0 c)) sp n2 n3 n (i+1) R B L,obA x 0 i R B,true)
def RA(n:Nat):Prop:=∀(x:VP) (lp c n2 n3:Nat) (sp:SV) (R:Nat->aA) (B:Nat->List Nat) (L:List (Option aQ)),(List.range n).map (λi=>m9 (aFp false i R B) (P1 x (.s 0 0 lp c) sp n2 n3 n i R B L))=(List.range n).map λi=>(P1 x (.s 0 0 lp c) sp n2 n3 n (i+1) R B L,obA x lp i R B,true)
def vB(m c i:Nat):SV:=.s 0 0 (m+(i+1)) c
def tU(m2 i:Nat):Nat:=m2+(2*i+2)
def RB(n:Nat):Prop:=∀(x:VP) (m c m2 n3:Nat) (sp:SV) (R:Nat->aA) (B:Nat->List Nat) (L:List (Option aQ)),(List.range n).map (λi=>m9 (aFp true i R B) (P1 x (vB m c i) sp (tU m2 i) n3 n i R B L))=(List.range n).map λi=>(P1 x (vB m c i) sp (tU m2 i) n3 n (i+1) R B L,obB x (m+(i+1)) i R B,true)
def RC(s n:Nat):Prop:=∀(x:VP) (m c m2 n3:Nat) (sp:SV) (R:Nat->aA) (B:Nat->List Nat) (L:List (Option aQ)),(List.range n).map (λi=>m9 (a1S s i R B) (P1 x (vB m c i) sp (tU m2 i) n3 n i R B L)) =
 (List.range n).map λi=>(P1 x (vB m c i) sp (tU m2 i) n3 n (i+1) R B (L.set (2*i+(s-1)) (some (.by_ (uH x.el (rA (yA x i)) i)))),obC x s (m+(i+1)) i R B,true)
def bEp(n:Nat):j7:=⟨⟨[37,118],[],0⟩,[.b false],[1,2,3,8,118],[0,1,2,3,4,5,6,7,902],n⟩
def iJ(n:Nat):Prop:=∀(x:VP) (pp sp:SV) (n2 n3:Nat) (R:Nat->aA) (B:Nat->List Nat) (L:List (Option aQ)) (S:Nat->Bool),m9 (bEp n) (P1 x pp sp n2 n3 n n R B L)=(P2 x pp sp n2 n3 n 0 R B L S,[.t false false],true)
def vM(k:Nat)(S:Nat->Bool)(ps:List (Rp SV)):Rp SV:=cB ((List.range k).map (λi=>.q (.bit (S i)))++ps)
def aHu(g:Bool)(n k:Nat)(S:Nat->Bool):j7:=⟨⟨[118,125],[119],0⟩,[.b true,.b g,.k 10 (lE (k+1) S) true],[1,2,3,8,118],[0,1,2,3,4,5,6,7,10],n⟩
def aB5(ls k:Nat)(S:Nat->Bool):List Ob:=[.t true true,.t (wS k ls) false,.r (vM k S [.one (aM 0)]) (lE (k+1) S)]
def slX(x:VP)(k:Nat):Int:=IntKind.i64.wrap (((x.sl.getD k 0:Nat):Int).tmod 2)
def aKn(x:VP)(ls k:Nat)(S:Nat->Bool):List Ob:=[.t true true,.t (wS k ls) true,.r (vM k S [.one (.v (.int .i64 (slX x k)))]) (lE (k+1) S)]
def iV(n:Nat):Prop:=∀(x:VP) (A:Option Addr) (c n2 n3:Nat) (pp:SV) (R:Nat->aA) (B:Nat->List Nat) (L:List (Option aQ)) (S:Nat->Bool),(List.range (aT n)).map (λk=>m9 (aHu false n k S) (P2 x pp (.v (.slice A 0 c)) n2 n3 n k R B L S))=(List.range (aT n)).map λk=>(P2 x pp (.v (.slice A 0 c)) n2 n3 n (k+1) R B L S,aB5 0 k S,true)
def iU(n:Nat):Prop:=∀(x:VP) (ls c n2 n3:Nat) (pp:SV) (R:Nat->aA) (B:Nat->List Nat) (L:List (Option aQ)) (S:Nat->Bool),(List.range (aT n)).map (λk=>m9 (aHu false n k S) (P2 x pp (.s 1 0 ls c) n2 n3 n k R B L S))=(List.range (aT n)).map λk=>(P2 x pp (.s 1 0 ls c) n2 n3 n (k+1) R B L S,aB5 ls k S,true)
def spI(m c k:Nat):SV:=.s 1 0 (m+(k+1)) c
def iO(n:Nat):Prop:=∀(x:VP) (m c n2 m3:Nat) (pp:SV) (R:Nat->aA) (B:Nat->List Nat) (L:List (Option aQ)) (S:Nat->Bool),(List.range (aT n)).map (λk=>m9 (aHu true n k S) (P2 x pp (spI m c k) n2 (m3+(k+1)) n k R B L S))=(List.range (aT n)).map λk=>(P2 x pp (spI m c k) n2 (m3+(k+1)) n (k+1) R B L S,aKn x (m+(k+1)) k S,true)
def aQo(n:Nat)(S:Nat->Bool):j7:=⟨⟨[118,155,163],[150],0⟩,[.b false,.k 8 (lE (aT n) S) true,.b true],[1,2,3,10,11,12,163],[0,1,2,3,4,5,6,7,8],n⟩
def Q9(x:VP):Int:=IntKind.i64.wrap (((x.ep:Nat):Int).tmod 2)
def iH(n:Nat):Prop:=∀(x:VP) (pp sp:SV) (n2 n3:Nat) (R:Nat->aA) (B:Nat->List Nat) (L:List (Option aQ)) (S S':Nat->Bool),m9 (aQo n S') (P2 x pp sp n2 n3 n (aT n) R B L S)=(P3 x pp sp n2 n3 n 0 0 R B L S',[.t false false,.r (vM (aT n-1) S [.one (.v (.int .i64 (Q9 x)))]) (lE (aT n) S'),.t true true],true)
def J8(m:Nat)(S:Nat->Bool)(k v:Nat):Rp SV:=cB ((List.range m).map λj=>bif Nat.beq j k then .one (aM v) else .q (.bit (S j)))
def l3:List Nat:=[1,2,3,10,11,12,163]
def S3:gR:=⟨[163,176],[13,164],0⟩
def aY7(n l j v:Nat)(S:Nat->Bool):j7:=⟨S3,[.b true,.b true,.k 8 (J8 (aT n) S (num n l j) v) true,.k 8 (lE (aT n) S) true],l3,[0,1,2,3,4,10,6,7,8],n+num n l (j+1)⟩
def aP4(n l j:Nat):j7:=⟨⟨[163,176],[],0⟩,[.b true,.b false],l3,[0,1,2,3,4,5,6,7,8],n+num n l (j+1)⟩
def qZ(n l j:Nat)(R:Nat->aA):Bool:=bif Nat.beq l (aO n) then true else !(bY (rL n R) n l j)
def tX(n:Nat)(R:Nat->aA)(S:Nat->Bool)(l j:Nat):bD:=bP n (rL n R) (aU n (rL n R) (bL (aT n) S)) l j
def RT(n l v:Nat):Prop:=∀(x:VP) (pp sp:SV) (n2 n3:Nat) (R:Nat->aA) (B:Nat->List Nat) (L:List (Option aQ)) (S:Nat->Bool),(List.range (aL n l)).map (λj=>m9 (aY7 n l j v S) (P3 x pp sp n2 n3 n l j R B L S)) =
 (List.range (aL n l)).map λj=>(P3 x pp sp n2 n3 n l (j+1) R B (L.set (jE n l+(2*j+v)) (some (.nd (tX n R S l j)))) S,[.t true true,.t (qZ n l j R) true,.r (lE (aT n) S) (J8 (aT n) S (num n l j) v),.r (J8 (aT n) S (num n l j) v) (lE (aT n) S)],true)
def RF(n l:Nat):Prop:=∀(x:VP) (pp sp:SV) (n2 n3:Nat) (R:Nat->aA) (B:Nat->List Nat) (L:List (Option aQ)) (S:Nat->Bool),(List.range (aL n l)).map (λj=>m9 (aP4 n l j) (P3 x pp sp n2 n3 n l j R B L S)) =
 (List.range (aL n l)).map λj=>(P3 x pp sp n2 n3 n l (j+1) R B L S,[.t true true,.t (qZ n l j R) false],true)
def aVY(n l:Nat):j7:=⟨⟨[163,155],[],0⟩,[.b false,.b true],l3,[0,1,2,3,4,5,6,7,8],n+num n (l+1) 0⟩
def RN(n l:Nat):Prop:=∀(x:VP) (pp sp:SV) (n2 n3:Nat) (R:Nat->aA) (B:Nat->List Nat) (L:List (Option aQ)) (S:Nat->Bool),m9 (aVY n l) (P3 x pp sp n2 n3 n l (aL n l) R B L S)=(P3 x pp sp n2 n3 n (l+1) 0 R B L S,[.t false false,.t true true],true)
def aKH(x:Option (SV×St)):List (Rp SV)×Option HB:=match x with
 |some (.a c,st)=>(iA c [],st.hp.get 5)
 |_=>([],none)
def aDJ(p:aB):aB×List Ob:=cL ⟨[163,155],[],0⟩ HV Xt 12 [.b false,.b false] p
def a78(x:VP)(n:Nat)(R:Nat->aA)(S:Nat->Bool):List (Rp SV):=[.one (aM n),.q (.byt ⟨x.el,16,x.he,x.heb⟩),.q (.byt ⟨x.ml,32,x.hm,x.hmb⟩),.one (.gs 5 (iC n)),.arr .u8 0 [],.q (.sha (tX n R S (aO n) 0).bytes),.one (.v (.int .u64 (IntKind.u64.wrap ((x.ep:Nat):Int)))),nI 1000,.one (.w 6 n),.one (.w 7 n),.one (.w 8 (aT n))]
def RE(n:Nat):Prop:=∀(x:VP) (pp sp:SV) (n2 n3:Nat) (R:Nat->aA) (B:Nat->List Nat) (L:List (Option aQ)) (S:Nat->Bool),(aKH (dS Xt 5 (aDJ (P3 x pp sp n2 n3 n (aO n) (aL n (aO n)) R B L S)).1),(aDJ (P3 x pp sp n2 n3 n (aO n) (aL n (aO n)) R B L S)).2) =
 ((a78 x n R S,some ⟨0,.q (.gh (iC n+2) (n+num n (aO n) (aL n (aO n))) L),8⟩),[.t false false,.t false false])
