/- A part of the proof of TopSealed. -/
import Derived.Test.YtjboelhcieepkaaGreatDoorW22
import Derived.Test.YtjboelhcieepkaaGreatDoorVUpB1
import Derived.Test.YtjboelhcieepkaaGreatDoorVUpB2
import Derived.Test.YtjboelhcieepkaaGreatDoorVUpB3
import Derived.Test.YtjboelhcieepkaaGreatDoorVUpB4
noncomputable section
set_option maxRecDepth 16384
namespace Go.Proofs.YtjboelhcieepkaaGreatDoor
open Go.RowKit
theorem aNF:∀n g,1≤n->n≤20->g≤(n+3) / 4->b7 n g
 |1,0,_,_,_=>aTm
 |1,1,_,_,_=>aUF
 |2,0,_,_,_=>bAZ
 |2,1,_,_,_=>a80
 |3,0,_,_,_=>aRB
 |3,1,_,_,_=>a4X
 |4,0,_,_,_=>aTu
 |4,1,_,_,_=>a01
 |5,0,_,_,_=>a9h
 |5,1,_,_,_=>a8i
 |5,2,_,_,_=>aRr
 |6,0,_,_,_=>a5P
 |6,1,_,_,_=>aXF
 |6,2,_,_,_=>a79
 |7,0,_,_,_=>a1R
 |7,1,_,_,_=>a0i
 |7,2,_,_,_=>bC1
 |8,0,_,_,_=>aTN
 |8,1,_,_,_=>a0g
 |8,2,_,_,_=>a6V
 |9,0,_,_,_=>aWb
 |9,1,_,_,_=>aWM
 |9,2,_,_,_=>bDp
 |9,3,_,_,_=>bBS
 |10,0,_,_,_=>aUv
 |10,1,_,_,_=>bD1
 |10,2,_,_,_=>aVC
 |10,3,_,_,_=>a8J
 |11,0,_,_,_=>a7r
 |11,1,_,_,_=>aWq
 |11,2,_,_,_=>a2j
 |11,3,_,_,_=>a0W
 |12,0,_,_,_=>aT3
 |12,1,_,_,_=>aYj
 |12,2,_,_,_=>a6e
 |12,3,_,_,_=>aQm
 |13,0,_,_,_=>aWj
 |13,1,_,_,_=>aX2
 |13,2,_,_,_=>a5A
 |13,3,_,_,_=>bDT
 |13,4,_,_,_=>aUw
 |14,0,_,_,_=>aSc
 |14,1,_,_,_=>aZA
 |14,2,_,_,_=>aPG
 |14,3,_,_,_=>aVx
 |14,4,_,_,_=>aXQ
 |15,0,_,_,_=>bCI
 |15,1,_,_,_=>aQT
 |15,2,_,_,_=>a8y
 |15,3,_,_,_=>aSe
 |15,4,_,_,_=>a75
 |16,0,_,_,_=>a7Q
 |16,1,_,_,_=>aSS
 |16,2,_,_,_=>bCl
 |16,3,_,_,_=>a1I
 |16,4,_,_,_=>bAG
 |17,0,_,_,_=>a5E
 |17,1,_,_,_=>aPR
 |17,2,_,_,_=>aY6
 |17,3,_,_,_=>bAe
 |17,4,_,_,_=>aPn
 |17,5,_,_,_=>aRm
 |18,0,_,_,_=>aUQ
 |18,1,_,_,_=>bCw
 |18,2,_,_,_=>a4g
 |18,3,_,_,_=>a52
 |18,4,_,_,_=>a2m
 |18,5,_,_,_=>a5i
 |19,0,_,_,_=>a58
 |19,1,_,_,_=>a1f
 |19,2,_,_,_=>aZl
 |19,3,_,_,_=>bCc
 |19,4,_,_,_=>a88
 |19,5,_,_,_=>aPM
 |20,0,_,_,_=>aTA
 |20,1,_,_,_=>aRs
 |20,2,_,_,_=>a7m
 |20,3,_,_,_=>a46
 |20,4,_,_,_=>bDq
 |20,5,_,_,_=>aUO
 |1,g+2,_,_,h=>absurd h (by omega)
 |2,g+2,_,_,h=>absurd h (by omega)
 |3,g+2,_,_,h=>absurd h (by omega)
 |4,g+2,_,_,h=>absurd h (by omega)
 |5,g+3,_,_,h=>absurd h (by omega)
 |6,g+3,_,_,h=>absurd h (by omega)
 |7,g+3,_,_,h=>absurd h (by omega)
 |8,g+3,_,_,h=>absurd h (by omega)
 |9,g+4,_,_,h=>absurd h (by omega)
 |10,g+4,_,_,h=>absurd h (by omega)
 |11,g+4,_,_,h=>absurd h (by omega)
 |12,g+4,_,_,h=>absurd h (by omega)
 |13,g+5,_,_,h=>absurd h (by omega)
 |14,g+5,_,_,h=>absurd h (by omega)
 |15,g+5,_,_,h=>absurd h (by omega)
 |16,g+5,_,_,h=>absurd h (by omega)
 |17,g+6,_,_,h=>absurd h (by omega)
 |18,g+6,_,_,h=>absurd h (by omega)
 |19,g+6,_,_,h=>absurd h (by omega)
 |20,g+6,_,_,h=>absurd h (by omega)
 |n+21,_,_,h,_=>absurd h (by omega)
 |0,_,h,_,_=>absurd h (by omega)
def C4(n:Nat)(L:List (Option aQ)):HB:=⟨0,.q (.gh (iC n+2) 1000 L),8⟩
def nZ(n:Nat)(q:Int)(k:Nat):Rp SV:=cB [.one (aM (aW n)),.one (.v (.int .i64 q)),.one (.gs k 1)]
def aIB(T n k:Nat):SV:=.t [.a (.node 1 2 (.one (aM n)) (.one (.s k 0 T T))),.s (k+1) 0 T T,.a oV,bM]
def aN1(row:Rp SV)(sl:List Nat):List HB:=[⟨67,row,0⟩,⟨3,i5 sl,0⟩]
theorem a1p{n:Nat}{p:Nat×Nat}(h:p∈aAk n):p.1<aO n∧p.2<aL n p.1:=by
 unfold aAk at h
 simp only [List.mem_flatMap,List.mem_reverse,dF,dC] at h
 obtain ⟨l,hl,j,hj,rfl⟩:=h
 exact ⟨hl,hj⟩
theorem aLe{n l j:Nat}(hl:l<3)(hj:j<aL n l):l≤aO n:=by
 unfold aO
 rcases l with _|_|_|l
 ·omega
 ·split
  ·rename_i h
   have hj':j<if aL n 0=1 then 0 else (aL n 0+3) / 4:=hj
   rw [if_pos h] at hj'
   omega
  ·split<;>omega
 ·have hj':j<if aL n 1=1 then 0 else (aL n 1+3) / 4:=hj
  have e1:aL n 1=if aL n 0=1 then 0 else (aL n 0+3) / 4:=rfl
  split
  ·rename_i h
   rw [if_pos h] at e1
   rw [e1] at hj'
   simp at hj'
  ·split
   ·rename_i h
    rw [if_pos h] at hj'
    omega
   ·omega
 ·omega
theorem R9{X:aI}{g:FuncId}{p:aB}{res:SV}{st:St}(h:dS X g p=some (res,st)):p.st=st:=by
 unfold dS at h
 split at h
 ·unfold uQ at h
  split at h
  ·split at h
   ·cases h;rfl
   ·cases h
  ·split at h
   ·cases h;rfl
   ·cases h
  ·cases h
 ·cases h
theorem a2A{r:List aF}{l:List Nat}{us:List Value}(h:aD r (i5 l) us):us=nv .i64 l:=by
 have key:∀{l:List Nat} {us:List Value},cE r (l.map λx=>.one (aM x)) us->us=nv .i64 l:=by
  intro l
  induction l with
  |nil=>intro us h;cases h;rfl
  |cons x l ih =>
   intro us h
   cases h with|cons h1 h2 =>
    rw [bQ h1,ih h2];rfl
 exact key (nX h)
def zM(n:Nat)(R:Nat->aA)(B:Nat->Bool):List Nat:=F6 n (bY R n) (λk=>aV (B k)) (aV (B (num n (aO n) 0)))
theorem a8C{n z0:Nat}{em:Nat->Nat->Bool}{R:Nat->aA}{Z:Nat->Nat}(hem:∀l j,l<aO n->j<aL n l->em l j=bY R n l j):F6 n em Z z0=F6 n (bY R n) Z z0:=by
 unfold F6
 refine vN λp hp=>?_
 obtain ⟨h3,hc⟩:=aF8 hp
 have hle:=aLe h3 hc
 rw [bE]
 by_cases e:p.1=aO n
 ·simp [e]
 ·simp only [e,decide_false,cond_false]
  rw [hem _ _ (by omega) hc]
theorem aJT{n:Nat}(h1:1≤n)(h20:n≤20):aL n (aO n)=1:=by
 have:∀m:Fin 20,aL (m.1+1) (aO (m.1+1))=1:=by decide
 have h:=this ⟨n-1,by omega⟩
 simpa [show n-1+1=n by omega] using h
section
variable {n g c0:Nat}{R:Nat->aA}{B:Nat->Bool}{q e:Int}{m:Value}{dg:List Nat}{w:World}{L:List (Option aQ)}
def O2(n:Nat)(R:Nat->aA)(B:Nat->Bool)(L:List (Option aQ)):Prop:=∀l j,l≤aO n->j<aL n l->(l=aO n∨bY R n l j=false)->L[lO n l j (aV (B (num n l j)))]?=some (some (.nd (bP n R (aU n R B) l j)))
theorem aAg{r:List aF}{n g c0:Nat}{q:Int}{u:Value}(h:aP r (.a (mA (aW n) q (.slice (some ⟨g,0,none⟩) 1 c0))) u):u=.agg #[.int .i64 (aW n:Int),.int .i64 q,.slice (some ⟨g,0,none⟩) 1 c0]:=by
 cases h with|a d1 =>
  have d1':aD r (.node 1 3 (.one (aM (aW n))) (.node 1 2 (.one (.v (.int .i64 q))) (.one (.v (.slice (some ⟨g,0,none⟩) 1 c0))))) _:=d1
  cases d1' with|node e1 e2 _ _=>cases e2 with|node e2 e3 _ _ =>
   rw [bQ e1,bQ e2,bQ e3]
   rfl
theorem aNK(r:List aF)(x:bD):aP r (nE x) (.tuple #[.agg x.vals.toArray,.agg #[.int .i64 0,.int .u8 0],.int .i64 0]) :=
 .t (.cons (.a (.q (.node _))) (.cons (.a (vs:=[.int .i64 0,.int .u8 0]) (.node (us:=[.int .i64 0]) (.one (.v _) rfl) (.one (.v _) rfl) rfl rfl)) (.cons (.v _) .nil)))
theorem aEA(r:List aF){n g c0:Nat}{q:Int}:aP r (.a (mA (aW n) q (.slice (some ⟨g,0,none⟩) 1 c0))) (.agg #[.int .i64 (aW n:Int),.int .i64 q,.slice (some ⟨g,0,none⟩) 1 c0]) :=
 .a (vs:=[.int .i64 (aW n:Int),.int .i64 q,.slice (some ⟨g,0,none⟩) 1 c0]) (.node (us:=[.int .i64 (aW n:Int)]) (.one (.v _) rfl) (.node (us:=[.int .i64 q]) (.one (.v _) rfl) (.one (.v _) rfl) rfl rfl) rfl rfl)
theorem a6T{em:Nat->Nat->Bool}(h1:1≤n)(h20:n≤20)(hd:mT w g c0 L)(hL:O2 n R B L)(hem:∀l j,l<aO n->j<aL n l->em l j=bY R n l j)
 (hs:IntKind.i64.wrap (e.tmod 2)=((aV (B (num n (aO n) 0)):Nat):Int)) (hdg:Sh.shaF (bP n R (aU n R B) (aO n) 0).bytes=dg) (hc:aB0 n R (aU n R B)) :
 ∀ob∈aCX n em (λk=>aV (B k)) R (aU n R B) q (.slice (some ⟨g,0,none⟩) 1 c0) dg (.int .u64 e) m,ob.Holds (E0 Xt w):=by
 intro ob hob
 have hh2:=oQ n
 have hcr:=aJT h1 h20
 unfold aCX at hob
 rcases bG.1 hob with rfl|hob
 ·refine fV (E:=E0 Xt w) (bB (by kernel_rfl)) λr vals w1 hp ha hm=>?_
  have hb:Below w.heap.size w w1:=hm.below
  cases ha with|cons d1 t=>cases t with|cons d2 t=>cases t with|cons d3 t =>
   cases t;cases d1
   rw [aAg d2]
   cases d3 with|a d3 =>
    refine (a4F (s:=aV (B (num n (aO n) 0))) h1 h20 (by omega) (by omega) (wK _) hs w1 hm.globs L (hd.keep hb) (hL _ _ (aS _) (by omega) (.inl rfl)) hdg (P7 d3)).mono ?_
    rintro e' w' ⟨rfl,hb'⟩
    exact ⟨_,rfl,aNK _ _,hb'⟩
 ·rcases eL.1 hob with hob|hob
  ·obtain ⟨p,hp,nx,hor⟩:=aDo hob
   obtain ⟨hpl,hpj⟩:=a1p hp
   have hchn:uY n p.1 p.2 (aU n R B)=ee n (aU n R B) p.1 p.2:=by unfold uY;rw [show 4*(p.2 / 4)+p.2%4=p.2 by omega]
   rcases hor with rfl|⟨he,rfl⟩
   ·unfold aFx
    refine fV (E:=E0 Xt w) (bB (by kernel_rfl)) λr vals w1 hp ha hm=>?_
    rw [hchn,Y2 (by omega) hpj] at ha
    have hpe:(Nat.blt (p.1+1) (aO n)&&em (p.1+1) (p.2 / 4))=true->bY R n p.1 p.2=true:=by
     intro hh
     rw [bJ,bO,bR] at hh
     have hup:p.2 / 4<aL n (p.1+1):=aKR hpj λh=>by
      have:=hh.1
      unfold aO at this
      have h0:p.1=0:=by omega
      rw [h0] at h
      rw [if_pos h] at this
      omega
     rw [hem _ _ hh.1 hup] at hh
     refine oI.2 λi hi hij=>oI.1 hh.2 i hi ?_
     rw [Nat.pow_succ,<-Nat.div_div_eq_div_mul,hij]
    rw [hem _ _ hpl hpj]
    cases hE:bY R n p.1 p.2 with
    |true =>
     have hz:vals=[.int .u8 0]:=by
      rw [hE] at ha
      cases hb0:(Nat.blt (p.1+1) (aO n)&&em (p.1+1) (p.2 / 4))<;>rw [hb0] at ha<;>(cases ha with|cons d1 t=>cases t;cases d1;rfl)
     rw [hz]
     refine (aJ1 w1 hm.globs).mono ?_
     rintro e' w' ⟨rfl,hb'⟩
     exact ⟨_,rfl,.t (.cons (.v _) (.cons (.v _) .nil)),hb'⟩
    |false =>
     have hb0:(Nat.blt (p.1+1) (aO n)&&em (p.1+1) (p.2 / 4))=false:=by
      cases hb0:(Nat.blt (p.1+1) (aO n)&&em (p.1+1) (p.2 / 4)) with
      |false=>rfl
      |true=>have:=hpe hb0;rw [hE] at this;cases this
     have hz:vals=[.int .u8 ((aV (B (num n p.1 p.2))+1:Nat):Int)]:=by
      rw [hE,hb0] at ha
      cases ha with|cons d1 t=>cases t;cases d1;rfl
     rw [hz]
     refine (aDf (wK _) w1 hm.globs).mono ?_
     rintro e' w' ⟨rfl,hb'⟩
     exact ⟨_,rfl,.t (.cons (.v _) (.cons (.v _) .nil)),hb'⟩
   ·refine fV (E:=E0 Xt w) (bB (by kernel_rfl)) λr vals w1 hp ha hm=>?_
    have hb:Below w.heap.size w w1:=hm.below
    have he':bY R n p.1 p.2=false:=by rw [<-hem _ _ hpl hpj];exact he
    cases ha with|cons d1 t=>cases t with|cons d2 t=>cases t with|cons d3 t=>cases t with|cons d4 t =>
     cases t;cases d1;cases d4
     rw [aAg d2]
     cases d3 with|a d3 =>
      cases d3
      refine (aWs (s:=aV (B (num n p.1 p.2))) h1 h20 (by omega) hpl hpj (wK _) w1 hm.globs L (hd.keep hb) (hL _ _ (by omega) hpj (.inr he')) (by rw [Y2 (by omega) hpj,he'];rfl) (aNQ (by omega) hpj he').symm).mono ?_
      rintro e' w' ⟨rfl,hb'⟩
      exact ⟨_,rfl,aNK _ _,hb'⟩
  ·simp only [bG,cK,or_false] at hob
   rcases hob with rfl|rfl
   ·exact λr us=>a7I h1 h20 hem r us
   ·exact aMo (E:=E0 Xt w) rfl h1 h20 hc
theorem aSC(h1:1≤n)(h20:n≤20)(hg:cG Xt w)(hd:mT w g c0 L)(hL:O2 n R B L)
 (hs:IntKind.i64.wrap (e.tmod 2)=((aV (B (num n (aO n) 0)):Nat):Int)) (hdg:Sh.shaF (bP n R (aU n R B) (aO n) 0).bytes=dg) (hc:aB0 n R (aU n R B)) {cs:List Value} (hcs:aD [] (oU dg (.int .u64 e) m) cs) :
 Calls Xt.P 6 #[.int .i64 (n:Int),.agg #[.int .i64 (aW n:Int),.int .i64 q,.slice (some ⟨g,0,none⟩) 1 c0],.agg cs.toArray] w λe' w'=>∃p s:Nat,
  e'=.returned (.tuple #[.agg #[.int .i64 (n:Int),.slice (some ⟨p,0,none⟩) (aT n) (aT n)],.slice (some ⟨s,0,none⟩) (aT n) (aT n),.agg #[.int .i64 0,.int .u8 0],.int .i64 0])∧w.heap.size≤p∧w.heap.size≤s∧p≠s∧aC w' p 67 (xL n R (aU n R B)).toArray∧aC w' s 3 (nv .i64 (zM n R B)).toArray∧Below w.heap.size w w':=by
 obtain ⟨em,hem0⟩:∃em,em=emP n (uW n R):=⟨_,rfl⟩
 have hem:∀l j,l<aO n->j<aL n l->em l j=bY R n l j:=λl j hl hj=>by rw [hem0];exact a8w hl hj
 have h:=cW (a5k n h1 h20 (λk=>aV (B k)) R (aU n R B) (aV (B (num n (aO n) 0))) q (.slice (some ⟨g,0,none⟩) 1 c0) dg (.int .u64 e) m) (aIT (k:=aL n 0) (l:=uW n R) (by simp [uW]))
 rw [<-hem0] at h
 unfold aNz trF aLg at h
 obtain ⟨y,hy,hy2⟩:=dE.1 h
 unfold trX at hy
 obtain ⟨y0,hy0,hy1⟩:=dE.1 hy
 unfold trP at hy0
 obtain ⟨y3,hdr,hy4⟩:=dE.1 hy0
 subst hy4
 subst hy1
 simp only [cH] at hy2
 obtain ⟨⟨⟨hfin,h5⟩,h6⟩,hobs,ho2⟩:=hy2
 obtain ⟨⟨res,st⟩,hfin,heq⟩:=dE.1 hfin
 simp only at heq
 subst heq
 have hall:=a6T (n:=n) (R:=R) (B:=B) (q:=q) (e:=e) (m:=m) (w:=w) (L:=L) (em:=em) h1 h20 hd hL hem hs hdg hc
 rw [<-hobs] at hall
 refine (xG (E:=E0 Xt w) (r:=[]) (vals:=[.int .i64 (n:Int),.agg #[.int .i64 (aW n:Int),.int .i64 q,.slice (some ⟨g,0,none⟩) 1 c0],.agg cs.toArray]) (g:=6) (args:=vQ n q (.slice (some ⟨g,0,none⟩) 1 c0) dg (.int .u64 e) m) (λQ0 h0 hq=>?_) hfin ?_ (aG.start Xt w hg)).mono ?_
 ·refine jG (S:=S0) (E:=E0 Xt w) aH aDC h0 12 _ (λob hob=>hall ob (kJ _ hob)) (sD (E:=E0 Xt w) (obs:=y3.2) (q:=y3.1) aH aDC h0 hdr ?_ (jG (S:=S0) (E:=E0 Xt w) aH aDC h0 13 _ (λob hob=>hall ob (gW _ hob)) hq))
  intro ob hob
  have hob':=hob
  rw [ho2] at hob'
  simp only [bG,cK,or_false] at hob'
  subst hob'
  intro E hE hw
  obtain ⟨X,w0,wU,U,RR⟩:=E
  simp only at hE hw
  subst hE
  subst hw
  refine fV (bB (by kernel_rfl)) λr vals w1 hp ha hm=>?_
  cases ha with|cons d1 t=>cases t;cases d1 with|a d1 =>
   refine (aLb hs (P7 d1) w1 hm.globs).mono ?_
   rintro e' w' ⟨rfl,hb'⟩
   exact ⟨_,rfl,.v _,hb'⟩
 ·exact .cons (.v _) (.cons (aEA _) (.cons (.a hcs) .nil))
 ·rintro e' w' ⟨qq,v,rfl,hdv,hm⟩
  have h5':st.hp.get 5=some ⟨67,f9 n R (aU n R B),0⟩:=by
   have:=h5
   rw [show (cL S0 HT Xt 13 (trE n em (λk=>aV (B k)) R (aU n R B)++aGD n R (aU n R B)) y3.1).1.st.hp=st.hp from by rw [R9 hfin]] at this
   exact this
  have h6':st.hp.get 6=some ⟨3,i5 (zM n R B),0⟩:=by
   have:=h6
   rw [show (cL S0 HT Xt 13 (trE n em (λk=>aV (B k)) R (aU n R B)++aGD n R (aU n R B)) y3.1).1.st.hp=st.hp from by rw [R9 hfin],a8C hem] at this
   exact this
  obtain ⟨L5,hL5,v5,d5,k5⟩:=hm.blk 5 _ h5'
  obtain ⟨L6,hL6,v6,d6,k6⟩:=hm.blk 6 _ h6'
  obtain rfl:=aIo d5
  have e6:v6=nv .i64 (zM n R B):=a2A d6
  subst e6
  have k5':w.heap.size≤L5.g∧L5.b=0∧aC w' L5.g 67 (xL n R (aU n R B)).toArray:=by
   rcases k5 with ⟨_,a1,a2,a3⟩|⟨a,_⟩|⟨a,_⟩
   ·exact ⟨a1,a2,a3⟩
   ·cases a
   ·exact absurd a (by show ¬ 2≤0;decide)
  have k6':w.heap.size≤L6.g∧L6.b=0∧aC w' L6.g 3 (nv .i64 (zM n R B)).toArray:=by
   rcases k6 with ⟨_,a1,a2,a3⟩|⟨a,_⟩|⟨a,_⟩
   ·exact ⟨a1,a2,a3⟩
   ·cases a
   ·exact absurd a (by show ¬ 2≤0;decide)
  refine ⟨L5.g,L6.g,?_,k5'.1,k6'.1,hm.apart h5' h6' (by decide) (by show ¬ 0=2;decide) hL5 hL6,k5'.2.2,k6'.2.2,hm.below⟩
  cases hdv with|t d=>cases d with|cons d1 d=>cases d with|cons d2 d=>cases d with|cons d3 d=>cases d with|cons d4 d =>
   cases d;cases d4
   cases d2 with|s hq6 =>
    rw [hL6] at hq6
    cases hq6
    cases d1 with|a d1=>cases d1 with|node e1 e2 _ _ =>
     rw [bQ e1]
     cases e2 with|one e2 _=>cases e2 with|s hq5 =>
      rw [hL5] at hq5
      cases hq5
      cases d3 with|a d3=>cases d3 with|node f1 f2 _ _ =>
       rw [bQ f1,bQ f2,k5'.2.1,k6'.2.1]
       rfl
end
theorem aG.addGh{E:bX}{r:List aF}{hp:Tr}{nx:Nat}{w w':World}(hm:aG E r hp nx w)(hE:E.X=Xt)(hb:Below w.heap.size w w')(L:aF){t N:Nat}{l:List (Option aQ)}(h1:w.heap.size≤L.g)(h2:L.g<w'.heap.size)(h3:∀j,L.cv j->w.heap.size≤j)(h4:∀j,L.cv j->j<w'.heap.size)(h:uJ t N w' L.g L.cv l):
 aG E (r++[L]) (hp.put nx ⟨0,.q (.gh t N l),8⟩) (nx+1) w':=by
 have hw1:E.w0.heap.size≤w.heap.size:=hm.below.size
 refine hm.add hb L ⟨0,.q (.gh t N l),8⟩ (λk hk=>?_) ⟨[],.q (.gh t N l),.inr (.inr ⟨by show 2≤8;decide,h2,λj v hv=>by simp at hv,⟨λh=>absurd h (by show ¬ 8=5;decide),λh=>absurd h (by show ¬ 8=6;decide),λ_=>bI hw1 h1,λ_=>⟨t,N,l,rfl,λj hj=>⟨h4 j hj,bI hw1 (h3 j hj)⟩,by rw [hE];exact h⟩⟩⟩)⟩ (.inr (by show 5≤8;decide))
 rcases hk with rfl|⟨_,hk⟩
 ·exact h1
 ·exact h3 k hk
theorem aAQ{hp:Tr}{n t N:Nat}{l:List (Option aQ)}(h:jW (hp.get n)=some ⟨0,.q (.gh t N l),8⟩):hp.get n=some ⟨0,.q (.gh t N l),8⟩:=by
 cases h3:hp.get n with
 |none=>rw [h3] at h;cases h
 |some b =>
  rw [h3] at h
  have e:oF b=⟨0,.q (.gh t N l),8⟩:=jR h
  have h8:b.k=8:=by have:=congrArg HB.k e;exact this
  rw [aFe h8] at e
  rw [e]
theorem aD.toA{r:List aF}{k:IntKind}{n:Nat}{l:List Nat}{us:List Value}(h:aD r (.arr k n l) us)(r':List aF):aD r' (.arr k n l) us:=by cases h with|arr h=>exact .arr h
section
variable {w:World}{bl ep ma:Nat}{pl sl:List Nat}{pp sp:SV}{n n2 n3 lp ls:Nat}
end
def rG(n k:Nat):Nat×Nat:=(fR n).getD k (0,0)
theorem aVm{α β:Type}(l:List α)(d:α)(f:α->β):l.map f=(List.range l.length).map λi=>f (l.getD i d):=by
 apply List.ext_getElem?
 intro i
 rw [jC,jC]
 by_cases hi:i<l.length
 ·rw [rJ hi];simp [hi]
 ·rw [fA (by omega),fA (by simpa using hi)];rfl
theorem aOJ(r:List aF):∀l:List Nat,aD r (i5 l) (nv .i64 l)
 |[]=>.nil
 |_::l=>aD.cat (us:=[_]) (.one (.v _) rfl) (aOJ r l)
theorem a5n{n:Nat}(h1:1≤n)(h20:n≤20):num n (aO n) 0=aT n-1:=by
 have:∀m:Fin 20,num (m.1+1) (aO (m.1+1)) 0=aT (m.1+1)-1:=by decide
 have h:=this ⟨n-1,by omega⟩
 simpa [show n-1+1=n by omega] using h
theorem aKl{m k:Nat}{S:Nat->Bool}(h:k<m):bL m S k=S k:=by unfold bL o9 dW;exact G3 h
theorem aG.add2{E:bX}{r:List aF}{hp:Tr}{nx p s T1 T2:Nat}{w w':World}{c1 c2:Rp SV}{v1 v2:List Value}(hm:aG E r hp nx w)(hb:Below w.heap.size w w')(hp1:w.heap.size≤p)(hs1:w.heap.size≤s)(hne:p≠s)(b1:aC w' p T1 v1.toArray)(b2:aC w' s T2 v2.toArray)(d1:∀r,aD r c1 v1)(d2:∀r,aD r c2 v2):
 aG E (r++[⟨p,0,0,none,λ_=>False⟩]++[⟨s,0,0,none,λ_=>False⟩]) ((hp.put nx ⟨T1,c1,0⟩).put (nx+1) ⟨T2,c2,0⟩) (nx+1+1) w':=by
 have hw1:E.w0.heap.size≤w.heap.size:=hm.below.size
 have hm1:=hm.add1 hb ⟨p,0,0,none,λ_=>False⟩ ⟨T1,c1,0⟩ hp1 ⟨v1,d1 _,.inl ⟨rfl,bI hw1 hp1,rfl,b1⟩⟩ (.inl (by show 0<2;decide))
 refine hm1.addO (Below.refl _ _) ⟨s,0,0,none,λ_=>False⟩ ⟨T2,c2,0⟩ (λk hk=>.inr ?_) ⟨v2,d2 _,.inl ⟨rfl,bI hw1 hs1,rfl,b2⟩⟩ (.inl (by show 0<2;decide))
 obtain rfl:k=s:=hk.eq (by show 0≠8;decide)
 refine ⟨λhu=>?_,λi c M hc hM hcov=>?_⟩
 ·have h2:=(hm.fz k hu).1
  have h3:=hm.up
  omega
 ·rw [bC.get_put] at hc
  by_cases hi:i=nx
  ·subst hi
   rw [if_pos rfl] at hc
   cases hc
   rw [show (r++[(⟨p,0,0,none,λ_=>False⟩:aF)])[i]?=some ⟨p,0,0,none,λ_=>False⟩ from by rw [<-hm.len];simp] at hM
   cases hM
   exact hne (hcov.eq (by show 0≠8;decide)).symm
  ·rw [if_neg hi] at hc
   obtain ⟨M',hM',_⟩:=hm.blk i c hc
   rw [mZ (zL hM')] at hM
   have:=hm.covOf hc hM hcov
   omega
section
variable {w:World}{bl ep ma:Nat}{pl sl:List Nat}{n lp ls:Nat}
def kZ(x:VP)(n lp:Nat):Nat->aA:=rL n (Rv x lp)
def E4(x:VP)(n ls:Nat):Nat->Bool:=bL (aT n) (Sw x ls n)
theorem bEe(x:VP)(h1:1≤n)(h20:n≤20):O2 n (kZ x n lp) (E4 x n ls) (LF x n lp ls):=by
 intro l j hl hj hor
 have h3:=oQ n
 have:=bBR x (lp:=lp) (ls:=ls) h1 h20 hl hj (by
  unfold qZ
  rw [bE]
  by_cases e:l=aO n
  ·simp [e]
  ·simp only [e,decide_false,cond_false]
   rcases hor with h|h
   ·exact absurd h e
   ·show (!(bY (rL n (Rv x lp)) n l j))=true
    have h':bY (rL n (Rv x lp)) n l j=false:=h
    rw [h'];rfl)
 unfold E4
 rw [aKl (yW h1 h20 (by omega) hj)]
 exact this
end
def v1X(x:bD)(s:Nat)(d c0 c1 c2 c3 e:Bool):aB×List Ob:=cL ⟨[],[7],0⟩ H4 Xt 12 [.g e] (eA Xt 219 [.a (oH x s d c0 c1 c2 c3)] .e 0)
def v1G(x:bD)(s:Nat)(d c0 c1 c2 c3 e:Bool):Option SV×List Ob:=((dS Xt 219 (v1X x s d c0 c1 c2 c3 e).1).map (·.1),(v1X x s d c0 c1 c2 c3 e).2)
theorem bDr(x:bD)(s:Nat)(d c0 c1 c2 c3:Bool):[true,false].map (v1G x s d c0 c1 c2 c3)=[(some (.v (.bool (!((s:Int)==1)))),[.t (!((s:Int)==0)) true]),(some (.v (.bool false)),[.t (!((s:Int)==0)) false])]:=by kernel_rfl
theorem a8G(x:bD)(b d c0 c1 c2 c3:Bool){r:List aF}{vals:List Value}{w:World}(hg:cG Xt w)(ha:aX r [.a (oH x (aV b) d c0 c1 c2 c3)] vals):
 Calls Xt.P 219 vals.toArray w λe w'=>e=.returned (.bool false)∧Below w.heap.size w w':=by
 have ha':aX [] [.a (oH x (aV b) d c0 c1 c2 c3)] vals:=by
  cases ha with|cons d1 t =>
   cases t
   cases d1 with|a d1=>exact .cons (.a (aEb d1 [])) .nil
 have hall:=bDr x (aV b) d c0 c1 c2 c3
 simp only [List.map_cons,List.map_nil,List.cons.injEq,and_true] at hall
 have hb:v1G x (aV b) d c0 c1 c2 c3 b=(some (.v (.bool false)),[.t (!(((aV b:Nat):Int)==0)) b]):=by
  cases b
  ·exact hall.2
  ·exact hall.1
 unfold v1G at hb
 simp only [cH] at hb
 obtain ⟨h1,h2⟩:=hb
 obtain ⟨⟨res',st'⟩,h3,h4⟩:=dE.1 h1
 simp only at h4
 subst h4
 refine (iQ (E:=E0 Xt w) (r:=[]) aH sG h3 (λob hob=>?_) ha' (aG.start Xt w hg)).mono ?_
 ·have hob':ob∈(v1X x (aV b) d c0 c1 c2 c3 b).2:=hob
  rw [h2] at hob'
  simp only [bG,cK,or_false] at hob'
  subst hob'
  show (!(((aV b:Nat):Int)==0))=b
  cases b<;>rfl
 ·rintro e w' ⟨q,v,rfl,hd,hm⟩
  cases hd
  exact ⟨rfl,hm.below⟩
def aV8:List (FuncId×bV):=stops [219] []
def HCF:Hk:=cZ Xt (cT aV8) 14 6
theorem a3C:bZ Xt HCF:=eH aH (jQ λp h=>by simp at h) 6
def nuL(X:Nat->bD)(s:Nat->Nat)(d:Nat->Bool)(c:Nat->Nat->Bool)(k:Nat):List (Rp SV):=[.q (.node (X k)),.one (aM (s k)),bS (d k),bS (c k 0),bS (c k 1),bS (c k 2),bS (c k 3)]
def aCt(T:Nat)(X:Nat->bD)(s:Nat->Nat)(d:Nat->Bool)(c:Nat->Nat->Bool):Rp SV:=cB ((List.range T).flatMap (nuL X s d c))
def hpG(T:Nat)(X:Nat->bD)(s:Nat->Nat)(d:Nat->Bool)(c:Nat->Nat->Bool):Tr:=fD [(0,some ⟨192,aCt T X s d c,2⟩)]
def J5(T:Nat):List SV:=[.s 0 0 T T,.f (.func 219) [] []]
def cfX(T:Nat)(X:Nat->bD)(s:Nat->Nat)(d:Nat->Bool)(c:Nat->Nat->Bool):aB×List Ob:=cL S0 HCF Xt 12 (List.replicate T (.c [] (λ_=>.v (.bool false)) [])) (eA Xt 218 (J5 T) (hpG T X s d c) 1)
def F7(T:Nat):Prop:=∀(X:Nat->bD) (s:Nat->Nat) (d:Nat->Bool) (c:Nat->Nat->Bool),((dS Xt 218 (cfX T X s d c).1).map (·.1),(cfX T X s d c).2)=(some (.v (.bool false)),(List.range T).map λk=>.c 219 [.a (cB (nuL X s d c k))] [] [] 1 (.v (.bool false)) []) ∧
 kH [0] [some ⟨192,aCt T X s d c,2⟩]=hpG T X s d c∧(J5 T).map (lW [0])=J5 T
theorem a9v:F7 1:=λX s d c=>⟨by kernel_rfl,by kernel_rfl,by kernel_rfl⟩
theorem a0Z:F7 3:=λX s d c=>⟨by kernel_rfl,by kernel_rfl,by kernel_rfl⟩
theorem aXX:F7 4:=λX s d c=>⟨by kernel_rfl,by kernel_rfl,by kernel_rfl⟩
theorem a43:F7 5:=λX s d c=>⟨by kernel_rfl,by kernel_rfl,by kernel_rfl⟩
theorem bCv:F7 8:=λX s d c=>⟨by kernel_rfl,by kernel_rfl,by kernel_rfl⟩
theorem aNg{n:Nat}(h1:1≤n)(h20:n≤20):F7 (aT n):=by
 have:∀m:Fin 20,aT (m.1+1)=1∨aT (m.1+1)=3∨aT (m.1+1)=4∨aT (m.1+1)=5∨aT (m.1+1)=8:=by decide
 have h:=this ⟨n-1,by omega⟩
 simp only [show n-1+1=n by omega] at h
 rcases h with h|h|h|h|h<;>rw [h]
 ·exact a9v
 ·exact a0Z
 ·exact aXX
 ·exact a43
 ·exact bCv
section
variable {n o:Nat}{R:Nat->aA}{Ee:Nat->aJ}{B:Nat->Bool}
def rX(n:Nat)(R:Nat->aA)(Ee:Nat->aJ)(k:Nat):bD:=bP n R Ee (rG n k).1 (rG n k).2
def rS(n:Nat)(B:Nat->Bool)(k:Nat):Nat:=aV (B (num n (rG n k).1 (rG n k).2))
def rD(n o k:Nat):Bool:=gE o (rG n k).1 (rG n k).2
def rC(n o k j:Nat):Bool:=lY o (rG n k).1 (rG n k).2 j
theorem aXh:fL n o R Ee B=aCt (aT n) (rX n R Ee) (rS n B) (rD n o) (rC n o):=by
 unfold fL aCt
 rw [List.flatMap_def,List.flatMap_def,aVm (fR n) (0,0),aK4]
 rfl
theorem aV5(h1:1≤n)(h20:n≤20){r:List aF}{vals:List Value}{w:World}(_hg:cG Xt w)(ha:aX r (J5 (aT n)) vals)(hm:aG (E0 Xt w) r (hpG (aT n) (rX n R Ee) (rS n B) (rD n o) (rC n o)) 1 w):
 Calls Xt.P 218 vals.toArray w λe w'=>e=.returned (.bool false)∧Below w.heap.size w w':=by
 have h:=(aNg h1 h20 (rX n R Ee) (rS n B) (rD n o) (rC n o)).1
 simp only [cH] at h
 obtain ⟨hf,ho⟩:=h
 obtain ⟨⟨res',st'⟩,h3,h4⟩:=dE.1 hf
 simp only at h4
 subst h4
 refine (iQ (E:=E0 Xt w) (r:=r) aH a3C h3 (λob hob=>?_) ha hm).mono ?_
 ·have hob':ob∈(cfX (aT n) (rX n R Ee) (rS n B) (rD n o) (rC n o)).2:=hob
  rw [ho] at hob'
  obtain ⟨k,_,rfl⟩:=dC.1 hob'
  refine fV (E:=E0 Xt w) (bB (by kernel_rfl)) λr vals w1 hp ha hm=>?_
  refine (a8G (rX n R Ee k) (B (num n (rG n k).1 (rG n k).2)) (rD n o k) (rC n o k 0) (rC n o k 1) (rC n o k 2) (rC n o k 3) hm.globs ha).mono ?_
  rintro e w' ⟨rfl,hb⟩
  exact ⟨_,rfl,.v _,hb⟩
 ·rintro e w' ⟨q,v,rfl,hd,hm⟩
  cases hd
  exact ⟨rfl,hm.below⟩
def sN(n o:Nat)(R:Nat->aA)(Ee:Nat->aJ)(B:Nat->Bool):Prop:=∀l j,l<aO n->j<aL n l->p8 (bP n R Ee l j) (B (num n l j)) (gE o l j)=ee n Ee l j
theorem aHo{ob:b8}{x:o7}(h:qS ob=.c x):∃m,ob=.c ⟨x.g,x.args,x.ns,x.bs,x.ds,m,x.res,x.new⟩:=by
 cases ob with
 |c y =>
  have h':b8.c ⟨y.g,y.args,y.ns,y.bs,y.ds,0,y.res,y.new⟩=.c x:=h
  cases h'
  exact ⟨y.nx,rfl⟩
 |t e b=>cases h
theorem aW0{ob:b8}{e x:Bool}(h:qS ob=.t e x):ob=.t e x:=by
 cases ob with
 |c y=>cases h
 |t e b=>exact h
theorem bA2(h1:1≤n)(h20:n≤20){p:Nat×Nat}(hp:p∈(fR n).take (aT n-1)):p.1<aO n∧p.2<aL n p.1:=by
 have:∀m:Fin 20,((fR (m.1+1)).take (aT (m.1+1)-1)).all (λp=>decide (p.1<aO (m.1+1)∧p.2<aL (m.1+1) p.1))=true:=by decide +kernel
 have h:=this ⟨n-1,by omega⟩
 simp only [show n-1+1=n by omega] at h
 simpa using kK.1 h p hp
theorem aMS{i:Nat}(hi:i<n):i∈V2 n (i / 4+1):=by
 show i∈(List.range (min 4 (n-4*(i / 4)))).map λj=>4*(i / 4)+j
 exact dC.2 ⟨i%4,dF.2 (by omega),by omega⟩
theorem aLv(h1:1≤n)(h20:n≤20)(he:sN n o R Ee B){w:World}{ob:b8}(hob':qS ob∈A8 n o R Ee B):ob.Any Xt w:=by
 unfold A8 at hob'
 rcases bG.1 hob' with h|h
 ·obtain ⟨m,rfl⟩:=aHo h
  intro E hE _
  refine X8 hE (bB (by kernel_rfl)) λr vals w hg ha hm=>?_
  have hcf:=aNg h1 h20 (rX n R Ee) (rS n B) (rD n o) (rC n o)
  have ha':aX r ((J5 (aT n)).map (lW [0])) vals:=ha
  rw [hcf.2.2] at ha'
  have hm':aG (E0 Xt w) r (kH [0] [some ⟨192,fL n o R Ee B,2⟩]) 1 w:=hm
  rw [aXh,hcf.2.1] at hm'
  exact aV5 h1 h20 hg ha' hm'
 ·obtain ⟨p,hp,hpp⟩:=List.mem_flatMap.1 h
  have hpl:=bA2 h1 h20 hp
  simp only [bG,cK,or_false] at hpp
  rcases hpp with h|h
  ·rw [aW0 h]
   show (!(decide _&&(decide _&&true)))=false
   simp
  ·obtain ⟨m,rfl⟩:=aHo h
   intro E hE _
   refine fV (by rw [hE];exact bB (by kernel_rfl)) λr vals w1 hp ha hm=>?_
   rw [hE]
   refine (aIJ (bP n R Ee p.1 p.2) (B (num n p.1 p.2)) (gE o p.1 p.2) (lY o p.1 p.2 0) (lY o p.1 p.2 1) (lY o p.1 p.2 2) (lY o p.1 p.2 3) (hE▸hm.globs) ha).mono ?_
   rintro e w' ⟨rfl,hb⟩
   refine ⟨_,rfl,?_,hb⟩
   rw [he p.1 p.2 hpl.1 hpl.2]
   exact .a (.q _)
theorem a0s{t:Bool}{z:aA}(h1:1≤n)(h20:n≤20)(ho:o=1000∨o<n)(he:sN n o (RU o (dV t z) R) Ee B){r:List aF}{vals:List Value}{w:World}(ha:aX r [.a (iK n 0)] vals)(hm:aG (E0 Xt w) r (fD [(0,some (fG n o (RU o (dV t z) R) Ee B 2))]) 1 w):
 Calls Xt.P 163 vals.toArray w λe w'=>(∃a b,e=.returned (.tuple #[.agg #[a,b],.int .i64 0])∧a.oneCell'=true∧b.oneCell'=true)∧Below w.heap.size w w':=by
 have hgo:aHx n o (RU o (dV t z) R) Ee B=aF6 n o (RU o (dV t z) R) Ee B:=by
  rcases ho with rfl|ho
  ·exact cW (aNF n 0 h1 h20 (by omega) t z R Ee B) (iY.2 rfl)
  ·exact cW (aNF n (o / 4+1) h1 h20 (by omega) t z R Ee B) (aMS ho)
 unfold aHx aF6 at hgo
 obtain ⟨y,hy,hy2⟩:=dE.1 hgo
 simp only [cH] at hy2
 obtain ⟨e1,e2⟩:=hy2
 obtain ⟨⟨res,st⟩,h4,h5⟩:=dE.1 e1
 simp only at h5
 subst h5
 refine (xG (E:=E0 Xt w) (g:=163) (args:=[.a (iK n 0)]) (λQ0 h0 hq=>?_) h4 ha hm).mono ?_
 ·refine jP (S:=S0) (E:=E0 Xt w) aH aMi h0 14 (aDV (S:=S0) (tab:=aFC) aMi h0 (q:=y.1) (obs:=y.2) hy (λob hob=>?_) hq)
  have hob':qS ob∈A8 n o (RU o (dV t z) R) Ee B:=by rw [<-e2];exact dC.2 ⟨ob,hob,rfl⟩
  exact aLv h1 h20 he hob'
 ·rintro e w' ⟨q,v,rfl,hd,hm'⟩
  refine ⟨?_,hm'.below⟩
  cases hd with|t ht =>
   cases ht with|cons d1 t=>cases t with|cons d2 t =>
    cases t
    cases d2
    cases d1 with|a d1=>cases d1 with|node g1 g2 _ _=>cases g1 with|@one _ a g1 ha=>cases g2 with|@one _ b g2 hb=>exact ⟨a,b,rfl,ha,hb⟩
end
section
variable {n o:Nat}{R:Nat->aA}{B B':Nat->Bool}
theorem a6E{a b c d:aJ}:kR (yM a b c d)=0↔a.s=0∧b.s=0∧c.s=0∧d.s=0:=by
 unfold yM
 simp only [a1Z,bE]
 by_cases ha:a.s=0<;>by_cases hb:b.s=0<;>by_cases hc:c.s=0<;>by_cases hd:d.s=0<;>simp [kR,ha,hb,hc,hd]
theorem aBT{l i:Nat}(hl:l<2):(ee n (aU n R B) l i).s=0↔(i<aL n l->bY R n l i=true):=by
 by_cases hi:i<aL n l
 ·rw [Y2 hl hi]
  cases bY R n l i
  ·simp [hi]
  ·simp
 ·have:ee n (aU n R B) l i=cC:=by unfold ee;rw [show Nat.blt i (aL n l)=false from by rw [bO];simpa using hi];rfl
  rw [this]
  simp [hi,cC]
theorem bDh{l j:Nat}(hl:l<2)(hj:j<aL n l):kR (t8 (bP n R (aU n R B) l j))=0↔bY R n l j=true:=by
 have h01:l=0∨l=1:=by omega
 rcases h01 with rfl|rfl
 ·exact aEB.trans aE6.symm
 ·refine Iff.trans a6E ?_
  rw [aBT (l:=0) (by decide),aBT (l:=0) (by decide),aBT (l:=0) (by decide),aBT (l:=0) (by decide),aHa hj]
  have hp:∀k,k<cS n 1 j↔k<4∧4*j+k<aL n 0:=by
   intro k
   show k<min 4 (aL n 0-4*j)↔_
   omega
  constructor
  ·rintro ⟨h0,h1,h2,h3⟩ k hk
   have:=(hp k).1 hk
   have h4:k=0∨k=1∨k=2∨k=3:=by omega
   rcases h4 with rfl|rfl|rfl|rfl
   ·exact h0 (by omega)
   ·exact h1 (by omega)
   ·exact h2 (by omega)
   ·exact h3 (by omega)
  ·intro h
   exact ⟨λh'=>h 0 ((hp 0).2 ⟨by omega,h'⟩),λh'=>h 1 ((hp 1).2 ⟨by omega,h'⟩),λh'=>h 2 ((hp 2).2 ⟨by omega,h'⟩),λh'=>h 3 ((hp 3).2 ⟨by omega,h'⟩)⟩
theorem aKN(_h1:1≤n)(_h20:n≤20)(hB:∀l j,l<aO n->j<aL n l->B' (num n l j)=Bool.xor (gE o l j) (B (num n l j))):sN n o R (aU n R B') B:=by
 intro l j hl hj
 have h3:=oQ n
 have hl2:l<2:=by omega
 have e:ee n (aU n R B') l j=aU n R B' (num n l j):=by unfold ee;rw [show Nat.blt j (aL n l)=true from by rw [bO];simpa using hj];rfl
 rw [e,pI n R B' l j hl2 hj]
 unfold p8
 rw [hB l j hl hj]
 congr 1
 have:=bDh (R:=R) (B:=B') hl2 hj
 cases h:bY R n l j with
 |true=>rw [this.2 h];rfl
 |false =>
  cases hu:kR (t8 (bP n R (aU n R B') l j)) with
  |zero=>rw [this.1 hu] at h;cases h
  |succ k=>rfl
end
theorem aG.recast2{E:bX}{r:List aF}{hp:Tr}{nx:Nat}{w:World}(h:aG E r hp nx w){n:Nat}{b:HB}(hb:hp.get n=some b)(h8:b.k≠8)(c:Rp SV)(hc:∀us,aD r b.cs us->aD r c us):aG E r (hp.put n ⟨b.T,c,b.k⟩) nx w:=by
 have key:∀{m:Nat} {x:HB},(hp.put n ⟨b.T,c,b.k⟩).get m=some x->∃y,hp.get m=some y∧y.k=x.k∧(x.k=8->y=x)∧∀L,eN E r L y w->eN E r L x w:=by
  intro m x hx
  rw [bC.get_put] at hx
  by_cases e:m=n
  ·subst e
   rw [if_pos rfl] at hx
   cases hx
   refine ⟨b,hb,rfl,λh=>absurd h h8,λL hL=>?_⟩
   obtain ⟨vs,hd,hk⟩:=hL
   refine ⟨vs,hc _ hd,?_⟩
   rcases hk with h|h|⟨h1,h2,h3,h4⟩
   ·exact .inl h
   ·exact .inr (.inl h)
   ·exact .inr (.inr ⟨h1,h2,h3,h4.1,h4.2.1,h4.2.2.1,λh=>absurd h h8⟩)
  ·rw [if_neg e] at hx
   exact ⟨x,hx,rfl,λ_=>rfl,λ_ h=>h⟩
 have cov:∀{x y:HB} {L:aF} {k:Nat},y.k=x.k->gJ x L k->gJ y L k:=λhk hc=>hc.elim .inl λh=>.inr ⟨hk.trans h.1,h.2⟩
 refine ⟨h.len,λm x hx=>?_,λm1 m2 x1 x2 L M h1 h2 hne hk hL hM k c1 c2=>?_,h.below,h.fz,λm x L hx hk hL k hcv=>?_,h.up,λm x L hx h2 h5 hL=>?_,h.rlt,h.glob⟩
 ·obtain ⟨y,hy,_,_,ho⟩:=key hx
  obtain ⟨L,hL,hB⟩:=h.blk m y hy
  exact ⟨L,hL,ho L hB⟩
 ·obtain ⟨y1,hy1,e1,_,_⟩:=key h1
  obtain ⟨y2,hy2,e2,_,_⟩:=key h2
  exact h.sep m1 m2 y1 y2 L M hy1 hy2 hne (by rw [e1];exact hk) hL hM k (cov e1 c1) (cov e2 c2)
 ·obtain ⟨y,hy,e,_,_⟩:=key hx
  exact h.far m y L hy (by rw [e];exact hk) hL k (cov e hcv)
 ·obtain ⟨y,hy,e,_,_⟩:=key hx
  exact h.old m y L hy (by rw [e];exact h2) (by rw [e];exact h5) hL
theorem aDh{r:List aF}:∀{l:List (Rp SV)} {us:List Value},cE r l us->aD r (cB l) us
 |[],_,h=>by cases h;exact .nil
 |_::_,_,h=>by cases h with|cons h t=>exact aD.cat h (aDh t)
section
variable {r:List aF}{c:Rp SV}{us:List Value}
theorem a5B{k:Nat}{l:List (Rp SV)}(h:aFF c k=some l)(d:aD r c us):cE r l ((us.drop (280*k)).take 280):=by
 unfold aFF at h
 split at h
 ·rename_i x dd hx hd
  cases h
  have h1:(us.drop (280*k)).take 274=x.vals:=by
   unfold eF at hx
   split at hx
   ·rename_i e he
    exact wO hx (d.sub he).1
   ·cases hx
  have h2:=(d.sub hd).1
  have e:(us.drop (280*k)).take 280=(us.drop (280*k)).take 274++(us.drop (280*k+274)).take 6:=by
   rw [show 280=274+6 from rfl,List.take_add,List.drop_drop]
  rw [e,h1]
  exact .cons (.q (.node x)) (hZ dd h2)
 ·cases h
theorem aNW(d:aD r c us):∀{ks:List Nat} {l:List (Rp SV)},V9 c ks=some l->cE r l (ks.flatMap λk=>(us.drop (280*k)).take 280)
 |[],_,h=>by cases h;exact .nil
 |k::ks,l,h=>by
  unfold V9 at h
  split at h
  ·rename_i a b ha hb
   cases h
   rw [List.flatMap_cons]
   exact (a5B ha d).app (aNW d hb)
  ·cases h
theorem aMW(us:List Value):∀T:Nat,((List.range T).flatMap λk=>(us.drop (280*k)).take 280)=us.take (280*T)
 |0=>by simp
 |T+1=>by
  rw [List.range_succ,List.flatMap_append,aMW us T,show 280*(T+1)=280*T+280 by omega,List.take_add]
  simp
end
theorem aC2{w:World}{r0:List aF}{Q0:cM}{nb T:Nat}{p q:aB}(h:K8 nb T p=some q)(hq:Xp (E0 Xt w) r0 Q0 q):Xp (E0 Xt w) r0 Q0 p:=by
 unfold K8 at h
 split at h
 ·rename_i b hb
  cases hc:(Nat.beq b.k 8 || !(Nat.beq (dK b.cs) (280*T))) with
  |true=>rw [hc] at h;cases h
  |false =>
   rw [hc,cond_false] at h
   obtain ⟨l,hl,rfl⟩:=dE.1 h
   simp only [Bool.or_eq_false_iff,Bool.not_eq_false'] at hc
   obtain ⟨h8,hz⟩:=hc
   rw [bE,decide_eq_false_iff_not] at h8
   have hz':=eU hz
   intro r vs w' Q hr hs hm hk
   refine hq r vs w' Q hr hs (hm.recast2 hb h8 (cB l) λus hd=>?_) hk
   have hlen:=hd.length_eq
   have h2:=aDh (aNW hd hl)
   rw [aMW,<-hz',<-hlen,List.take_length] at h2
   exact h2
 ·cases h
def aOT:List (FuncId×bV):=stops [81,23] []
def HG:Hk:=cZ Xt (cT aOT) 14 6
theorem bC6:bZ Xt HG:=eH aH (jQ λp h=>by simp at h) 6
def tgX(ix:Nat)(a b c d:aA)(h:ix≤7)(s k:Nat)(x:SV):aB×List Ob:=cL S0 HG Xt 12 [.c [] (λ_=>x) []] (eA Xt 154 [.a (oH (.leaf ix a b c d h) s false false false false false),aM k] .e 0)
def tgG(ix:Nat)(a b c d:aA)(h:ix≤7)(s k:Nat)(x:SV):Option SV×List Ob:=((dS Xt 154 (tgX ix a b c d h s k x).1).map (·.1),(tgX ix a b c d h s k x).2.map jI)
def aXi(q:aA)(x:SV):Ob:=.c 23 [.v (.int .u8 (q.s:Int))] [] [] 0 x []
def slR:Nat->SV
 |0=>.t [aM 0,aM 11]
 |k+1=>.t [aM k,bM]
def nO:Nat->Nat
 |1=>1
 |_=>0
def aBB(a b c d:aA):Nat->aA
 |0=>a
 |1=>b
 |2=>c
 |_=>d
theorem bAh(ix:Nat)(a b c d:aA)(h:ix≤7)(s:Nat):[0,1,2].map (λm=>[0,1,2,3].map λk=>tgG ix a b c d h s k (slR m))=[0,1,2].map λm=>[0,1,2,3].map λk=>(some (aM (nO m)),[aXi (aBB a b c d k) (slR m)]):=by kernel_rfl
theorem vS{ob:Ob}{g:FuncId}{args:List SV}{ns:List Nat}{bs:List (Option HB)}{res:SV}{new:List HB}(h:jI ob=.c g args ns bs 0 res new):∃m,ob=.c g args ns bs m res new:=by
 cases ob with
 |c g' a' n' b' m r' w' =>
  have h':Ob.c g' a' n' b' 0 r' w'=.c g args ns bs 0 res new:=h
  cases h'
  exact ⟨m,rfl⟩
 |t e x=>cases h
 |r x y=>cases h
 |bad=>cases h
theorem a0h(q:aA){r:List aF}{w:World}(hg:cG Xt w):Calls Xt.P 23 #[.int .u8 (q.s:Int)] w λe w'=>(∃v,e=.returned v∧aP r (slR q.s) v)∧Below w.heap.size w w':=by
 cases hq:q.s with
 |zero =>
  refine (aJ1 w hg).mono ?_
  rintro e w' ⟨rfl,hb⟩
  exact ⟨⟨_,rfl,.t (.cons (.v _) (.cons (.v _) .nil))⟩,hb⟩
 |succ k =>
  have:=q.hs
  refine (aDf (s:=k) (by omega) w hg).mono ?_
  rintro e w' ⟨rfl,hb⟩
  exact ⟨⟨_,rfl,.t (.cons (.v _) (.cons (.v _) .nil))⟩,hb⟩
theorem aPv{ix:Nat}{a b c d:aA}{h:ix≤7}{s k:Nat}(hk:k<4){r:List aF}{vals:List Value}{w:World}(hg:cG Xt w)(ha:aX r [.a (oH (.leaf ix a b c d h) s false false false false false),aM k] vals):
 Calls Xt.P 154 vals.toArray w λe w'=>e=.returned (.int .i64 ((nO (aBB a b c d k).s:Nat):Int))∧Below w.heap.size w w':=by
 have ha':aX [] [.a (oH (.leaf ix a b c d h) s false false false false false),aM k] vals:=by
  cases ha with|cons d1 t=>cases t with|cons d2 t =>
   cases t
   cases d2
   cases d1 with|a d1=>exact .cons (.a (aEb d1 [])) (.cons (.v _) .nil)
 obtain ⟨q,hq⟩:∃q,q=aBB a b c d k:=⟨_,rfl⟩
 have h2:=q.hs
 have hgo:=cW (cW (bAh ix a b c d h s) (show q.s∈[0,1,2] by simp;omega)) (show k∈[0,1,2,3] by simp;omega)
 unfold tgG at hgo
 simp only [cH] at hgo
 obtain ⟨h3,h4⟩:=hgo
 obtain ⟨⟨res,st⟩,h5,h6⟩:=dE.1 h3
 simp only at h6
 subst h6
 rw [<-hq] at h4 ⊢
 refine (iQ (E:=E0 Xt w) (r:=[]) aH bC6 h5 (λob hob=>?_) ha' (aG.start Xt w hg)).mono ?_
 ·have hob':jI ob∈(tgX ix a b c d h s k (slR q.s)).2.map jI:=dC.2 ⟨ob,hob,rfl⟩
  rw [h4] at hob'
  obtain ⟨m,rfl⟩:=vS (iY.1 hob')
  refine fV (E:=E0 Xt w) (bB (by kernel_rfl)) λr vals w1 hp ha hm=>?_
  cases ha with|cons d1 t =>
   cases t
   cases d1
   refine (a0h q (r:=r) hm.globs).mono ?_
   rintro e w' ⟨⟨v,rfl,hd⟩,hb⟩
   exact ⟨v,rfl,hd,hb⟩
 ·rintro e w' ⟨q,v,rfl,hd,hm⟩
  cases hd
  exact ⟨rfl,hm.below⟩
theorem aN9{w:World}{r0:List aF}{Q0:cM}(h0:e8 Xt.P Q0){nb T:Nat}:∀{es:List aJ} {p q:aB} {obs:List Ob} {oby:List b8},suL nb T es p=some (q,obs,oby)->(∀ob∈obs,ob.Holds (E0 Xt w))->(∀ob∈oby,ob.Any Xt w)->Xp (E0 Xt w) r0 Q0 q->Xp (E0 Xt w) r0 Q0 p
 |[],_,_,_,_,h,_,_,hq=>by cases h;exact hq
 |e::es,p,q,obs,oby,h,ho,hy,hq=>by
  unfold suL at h
  split at h
  ·rename_i y hd
   split at h
   ·rename_i q1 hre
    split at h
    ·rename_i z hz
     simp only [b6,cH] at h
     obtain ⟨rfl,rfl,rfl⟩:=h
     obtain ⟨q0,hr1,hr2⟩:=Option.bind_eq_some_iff.1 hre
     refine jG (E:=E0 Xt w) (S:=qP) aH wM h0 13 [.b true] (p:=p) (λob hob=>ho ob (kJ _ hob)) ?_
     refine sD (E:=E0 Xt w) (q:=y.1) (obs:=y.2) aH wM h0 hd (λob hob=>hy ob (kJ _ hob)) ?_
     refine jP (S:=qP) (E:=E0 Xt w) aH wM h0 13 (aC2 hr1 (aC2 hr2 ?_))
     exact aN9 h0 (q:=z.1) (obs:=z.2.1) (oby:=z.2.2) hz (λob hob=>ho ob (gW _ hob)) (λob hob=>hy ob (gW _ hob)) hq
    ·cases h
   ·cases h
  ·cases h
theorem aUS{w:World}{r0:List aF}{Q0:cM}(h0:e8 Xt.P Q0){nb n i:Nat}{t:Bool}{v:aA}{R:Nat->aA}{Ee:Nat->aJ}{B:Nat->Bool}{es:List aJ}{q:aB}{obs:List Ob}{oby:List b8}(h:suR nb t n i v R Ee B es=some (q,obs,oby))(ho:∀ob∈obs,ob.Holds (E0 Xt w))(hy:∀ob∈oby,ob.Any Xt w)(hq:Xp (E0 Xt w) r0 Q0 q):
 Xp (E0 Xt w) r0 Q0 (eA Xt 80 (O4 n i v) (fD [(0,some (fG n 1000 R Ee B 2))]) 1):=by
 unfold suR at h
 split at h
 ·rename_i y hd
  split at h
  ·rename_i q1 hre
   split at h
   ·rename_i z hz
    simp only [b6,cH] at h
    obtain ⟨rfl,rfl,rfl⟩:=h
    refine jP (S:=S0) (E:=E0 Xt w) aH wM h0 14 (aDV (S:=S0) (tab:=aA9) wM h0 (q:=y.1) (obs:=y.2) hd (λob hob=>hy ob (kJ _ hob)) ?_)
    refine jG (E:=E0 Xt w) (S:=qP) aH wM h0 13 [.c [] (λ_=>aM (aV t)) [],.c [] (λ_=>.t [.v (.int .u8 ((aV t+1:Nat):Int)),bM]) []] (p:=y.1) (λob hob=>ho ob (kJ _ hob)) (aC2 hre ?_)
    refine jG (E:=E0 Xt w) (S:=qP) aH wM h0 13 [.b false] (p:=q1) (λob hob=>ho ob (gW _ (kJ _ hob))) ?_
    exact aN9 h0 (q:=z.1) (obs:=z.2.1) (oby:=z.2.2) hz (λob hob=>ho ob (gW _ (gW _ hob))) (λob hob=>hy ob (gW _ hob)) hq
   ·cases h
  ·cases h
 ·cases h
section
variable {n i:Nat}{R:Nat->aA}{B:Nat->Bool}{x:aA}
def BU(n o:Nat)(B:Nat->Bool)(k:Nat):Bool:=Bool.xor (bif Nat.blt k (aL n 0) then gE o 0 k else gE o 1 (k-aL n 0)) (B k)
theorem aD8{l j o:Nat}(hl:l<2)(hj:j<aL n l):BU n o B (num n l j)=Bool.xor (gE o l j) (B (num n l j)):=by
 have h01:l=0∨l=1:=by omega
 unfold BU
 rcases h01 with rfl|rfl
 ·rw [show num n 0 j=j by unfold num;simp,show Nat.blt j (aL n 0)=true from by rw [bO];simpa using hj,cond_true]
 ·have e:num n 1 j=aL n 0+j:=by unfold num;simp
  rw [e,show Nat.blt (aL n 0+j) (aL n 0)=false from by rw [bO];simp,cond_false,show aL n 0+j-aL n 0=j by omega]
theorem aE1{k:Nat}(h:k≠i):RU i x R k=R k:=by
 unfold RU
 rw [bE,decide_eq_false h];rfl
theorem aR9{k:Nat}(h:k≠i):rr n (RU i x R) k=rr n R k:=by
 unfold rr
 rw [aE1 h]
theorem aDA{l j:Nat}(h:gE i l j=false):j≠i / 4 ^ (l+1):=by
 unfold gE at h
 rw [bE] at h
 simpa using h
theorem aOC{l j:Nat}(h:gE i l j=false):bY (RU i x R) n l j=bY R n l j:=by
 have hne:=aDA h
 unfold bY
 congr 1
 funext k
 by_cases hk:k=i
 ·subst hk
  have:nH l j k=false:=by
   cases hs:nH l j k with
   |false=>rfl
   |true =>
    exfalso
    apply hne
    unfold nH at hs
    exact (eU hs).symm
  rw [this];rfl
 ·rw [aE1 hk]
theorem aZf{j:Nat}{E E':Nat->aJ}(h:gE i 0 j=false):bP n (RU i x R) E' 0 j=bP n R E 0 j:=by
 have hne:=aDA h
 have hk:∀k,k<4->rr n (RU i x R) (4*j+k)=rr n R (4*j+k):=λk hk=>aR9 (by rintro rfl;apply hne;omega)
 show bD.leaf (j%8) (rr n (RU i x R) (4*j)) (rr n (RU i x R) (4*j+1)) (rr n (RU i x R) (4*j+2)) (rr n (RU i x R) (4*j+3)) (rQ j)=bD.leaf (j%8) (rr n R (4*j)) (rr n R (4*j+1)) (rr n R (4*j+2)) (rr n R (4*j+3)) (rQ j)
 rw [show rr n (RU i x R) (4*j)=rr n R (4*j) from hk 0 (by decide),hk 1 (by decide),hk 2 (by decide),hk 3 (by decide)]
theorem aI6{j:Nat}(hj:j<aL n 0)(h:gE i 0 j=false):aU n (RU i x R) (BU n i B) (num n 0 j)=aU n R B (num n 0 j):=by
 rw [pI _ _ _ 0 j (by decide) hj,pI _ _ _ 0 j (by decide) hj,aOC h,aD8 (by decide) hj,h,Bool.false_xor,aZf h]
theorem V6{j:Nat}(h:gE i 0 j=false):ee n (aU n (RU i x R) (BU n i B)) 0 j=ee n (aU n R B) 0 j:=by
 unfold ee
 by_cases hj:j<aL n 0
 ·rw [aI6 hj h]
 ·rw [show Nat.blt j (aL n 0)=false from by rw [bO];simpa using hj];rfl
theorem aAb{j k:Nat}(hk:k<4)(h:gE i 1 j=false):gE i 0 (4*j+k)=false:=by
 have hne:=aDA h
 unfold gE
 rw [bE]
 refine decide_eq_false λe=>hne ?_
 have e':4*j+k=i / 4:=e
 show j=i / 16
 omega
theorem aWv{j:Nat}(h:gE i 1 j=false):bP n (RU i x R) (aU n (RU i x R) (BU n i B)) 1 j=bP n R (aU n R B) 1 j:=by
 show bD.inner 1 (j%8) (ee n _ 0 (4*j)) (ee n _ 0 (4*j+1)) (ee n _ 0 (4*j+2)) (ee n _ 0 (4*j+3)) _ _=bD.inner 1 (j%8) (ee n _ 0 (4*j)) (ee n _ 0 (4*j+1)) (ee n _ 0 (4*j+2)) (ee n _ 0 (4*j+3)) _ _
 rw [show ee n (aU n (RU i x R) (BU n i B)) 0 (4*j)=ee n (aU n R B) 0 (4*j) from V6 (aAb (k:=0) (by decide) h),V6 (aAb (k:=1) (by decide) h),V6 (aAb (k:=2) (by decide) h),V6 (aAb (k:=3) (by decide) h)]
theorem aQz{j:Nat}(hj:j<aL n 1)(h:gE i 1 j=false):aU n (RU i x R) (BU n i B) (num n 1 j)=aU n R B (num n 1 j):=by
 rw [pI _ _ _ 1 j (by decide) hj,pI _ _ _ 1 j (by decide) hj,aOC h,aD8 (by decide) hj,h,Bool.false_xor,aWv h]
def ES(n i:Nat)(x:aA)(R:Nat->aA)(B:Nat->Bool):Nat->aJ:=EU n i (aU n (RU i x R) (BU n i B) (num n 0 (i / 4))) (aU n (RU i x R) (BU n i B) (num n 1 (i / 16))) (aU n R B)
theorem aEl{l j:Nat}(h:j≠i / 4 ^ (l+1)):gE i l j=false:=by
 unfold gE
 rw [bE]
 exact decide_eq_false h
theorem aXn{l j:Nat}(hl:l<2)(hj:j<aL n l):ES n i x R B (num n l j)=aU n (RU i x R) (BU n i B) (num n l j):=by
 have h01:l=0∨l=1:=by omega
 unfold ES EU
 by_cases h0:num n l j=num n 0 (i / 4)
 ·rw [<-h0,bE,decide_eq_true rfl];rfl
 ·rw [bE,decide_eq_false h0,cond_false]
  by_cases h1:num n l j=num n 1 (i / 16)
  ·rw [<-h1,bE,decide_eq_true rfl];rfl
  ·rw [bE,decide_eq_false h1,cond_false]
   rcases h01 with rfl|rfl
   ·exact (aI6 hj (aEl (l:=0) (by rintro rfl;exact h0 rfl))).symm
   ·exact (aQz hj (aEl (l:=1) (by rintro rfl;exact h1 rfl))).symm
theorem rY{l j:Nat}(hl:l<2):ee n (ES n i x R B) l j=ee n (aU n (RU i x R) (BU n i B)) l j:=by
 unfold ee
 by_cases hj:j<aL n l
 ·rw [aXn hl hj]
 ·rw [show Nat.blt j (aL n l)=false from by rw [bO];simpa using hj];rfl
theorem aNU{l j:Nat}(hl:l<3):bP n (RU i x R) (ES n i x R B) l j=bP n (RU i x R) (aU n (RU i x R) (BU n i B)) l j:=by
 have h012:l=0∨l=1∨l=2:=by omega
 rcases h012 with rfl|rfl|rfl
 ·rfl
 ·show bD.inner 1 (j%8) (ee n _ 0 (4*j)) (ee n _ 0 (4*j+1)) (ee n _ 0 (4*j+2)) (ee n _ 0 (4*j+3)) _ _=bD.inner 1 (j%8) (ee n _ 0 (4*j)) (ee n _ 0 (4*j+1)) (ee n _ 0 (4*j+2)) (ee n _ 0 (4*j+3)) _ _
  rw [rY (by decide),rY (by decide),rY (by decide),rY (by decide)]
 ·show bD.inner 2 (j%8) (ee n _ 1 (4*j)) (ee n _ 1 (4*j+1)) (ee n _ 1 (4*j+2)) (ee n _ 1 (4*j+3)) _ _=bD.inner 2 (j%8) (ee n _ 1 (4*j)) (ee n _ 1 (4*j+1)) (ee n _ 1 (4*j+2)) (ee n _ 1 (4*j+3)) _ _
  rw [rY (by decide),rY (by decide),rY (by decide),rY (by decide)]
end
section
variable {n i:Nat}{R:Nat->aA}{B:Nat->Bool}{x:aA}
theorem aID{p:Nat×Nat}(hp:p∈fR n):p.1<3:=by
 unfold fR fN at hp
 obtain ⟨a,ha,hb⟩:=List.mem_flatMap.1 hp
 obtain ⟨b,_,rfl⟩:=dC.1 hb
 exact dF.1 ha
theorem a4A:fL n i (RU i x R) (ES n i x R B) B=fL n i (RU i x R) (aU n (RU i x R) (BU n i B)) B:=by
 unfold fL
 congr 1
 rw [List.flatMap_def,List.flatMap_def]
 congr 1
 refine vN λp hp=>?_
 unfold s8
 rw [aNU (aID hp)]
def qD(c:Rp SV):Prop:=∀r r' us,aD r c us->aD r' c us
theorem aKI(a:At):qD (.q a):=λ_ r' _ h=>h.toQ r'
theorem aUt(v:Value):qD (.one (.v v)):=λ_ r' _ h=>h.toV r'
theorem aWn:∀{l:List (Rp SV)},(∀c∈l,qD c)->qD (cB l)
 |l,h,r,r',us,hd=>by
  have hf:=nX hd
  refine aDh ?_
  clear hd
  induction hf with
  |nil=>exact .nil
  |cons h1 _ ih=>exact .cons (h _ (List.mem_cons_self) r r' _ h1) (ih λc hc=>h c (List.mem_cons_of_mem _ hc))
theorem aHv{o:Nat}{Ee:Nat->aJ}:qD (fL n o R Ee B):=by
 refine aWn λc hc=>?_
 obtain ⟨p,_,hp⟩:=List.mem_flatMap.1 hc
 unfold s8 at hp
 simp only [bG,cK,or_false] at hp
 rcases hp with rfl|rfl|rfl|rfl|rfl|rfl|rfl
 ·exact aKI _
 all_goals exact aUt _
theorem aHP{t:Bool}{w:World}(h1:1≤n)(h20:n≤20)(hi:i<n)(ht:nO (R i).s=aV t){ob:Ob}(hob:jI ob∈K3 t n i R (aU n R B) B):ob.Holds (E0 Xt w):=by
 unfold K3 at hob
 rcases eL.1 hob with hob|hob
 ·simp only [bG,cK,or_false] at hob
  rcases hob with h|h|h
  ·obtain ⟨m,rfl⟩:=vS h
   refine fV (E:=E0 Xt w) (bB (by kernel_rfl)) λr vals w1 hp ha hm=>?_
   have hd:gE 1000 0 (i / 4)=false:=by unfold gE;rw [bE];exact decide_eq_false (by show ¬ i / 4=250;omega)
   have hc:∀k,k<4->lY 1000 0 (i / 4) k=false:=λk hk=>by
    unfold lY
    rw [show Nat.beq (4*(i / 4)+k) 1000=false from by rw [bE];exact decide_eq_false (by omega),Bool.and_false]
   have e:cB (s8 n 1000 R (aU n R B) B 0 (i / 4))=oH (.leaf (i / 4%8) (rr n R (4*(i / 4))) (rr n R (4*(i / 4)+1)) (rr n R (4*(i / 4)+2)) (rr n R (4*(i / 4)+3)) (rQ (i / 4))) (aV (B (num n 0 (i / 4)))) false false false false false:=by
    unfold s8
    rw [hd,hc 0 (by decide),hc 1 (by decide),hc 2 (by decide),hc 3 (by decide)]
    rfl
   rw [e] at ha
   have hp4:aBB (rr n R (4*(i / 4))) (rr n R (4*(i / 4)+1)) (rr n R (4*(i / 4)+2)) (rr n R (4*(i / 4)+3)) (i%4)=R i:=by
    have h4:i%4=0∨i%4=1∨i%4=2∨i%4=3:=by omega
    have hr:rr n R i=R i:=by unfold rr;rw [bO,decide_eq_true hi];rfl
    rcases h4 with h|h|h|h<;>rw [h]
    ·show rr n R (4*(i / 4))=_
     rw [show 4*(i / 4)=i by omega,hr]
    ·show rr n R (4*(i / 4)+1)=_
     rw [show 4*(i / 4)+1=i by omega,hr]
    ·show rr n R (4*(i / 4)+2)=_
     rw [show 4*(i / 4)+2=i by omega,hr]
    ·show rr n R (4*(i / 4)+3)=_
     rw [show 4*(i / 4)+3=i by omega,hr]
   refine (aPv (k:=i%4) (by omega) hm.globs ha).mono ?_
   rintro e' w' ⟨rfl,hb⟩
   refine ⟨_,rfl,?_,hb⟩
   rw [hp4,ht]
   exact .v _
  ·obtain ⟨m,rfl⟩:=vS h
   refine fV (E:=E0 Xt w) (bB (by kernel_rfl)) λr vals w1 hp ha hm=>?_
   cases ha with|cons d1 tt =>
    cases tt
    cases d1
    refine (aLL t w1 hm.globs).mono ?_
    rintro e w' ⟨rfl,hb⟩
    exact ⟨_,rfl,.t (.cons (.v _) (.cons (.v _) .nil)),hb⟩
  ·cases ob with
   |t e y =>
    have h':Ob.t e y=.t false false:=h
    cases h'
    rfl
   |c=>cases h
   |r=>cases h
   |bad=>cases h
 ·have h:=List.eq_of_mem_replicate hob
  cases ob with
  |t e y =>
   have h':Ob.t e y=.t true true:=h
   cases h'
   rfl
  |c=>cases h
  |r=>cases h
  |bad=>cases h
end
section
variable {n i:Nat}{R:Nat->aA}{B:Nat->Bool}{x:aA}{w:World}
theorem a7t{l j:Nat}(h1:1≤n)(h20:n≤20)(hl:l<2)(hj:j<aL n l):gE 1000 l j=false:=by
 have h8:=aDK h1 h20 (show l<3 by omega)
 refine aEl ?_
 have h01:l=0∨l=1:=by omega
 rcases h01 with rfl|rfl
 ·show j≠250
  omega
 ·show j≠62
  omega
theorem aHc(h1:1≤n)(h20:n≤20):sN n 1000 R (aU n R B) B:=aKN h1 h20 λl j hl hj=>by
 have:=oQ n
 rw [a7t h1 h20 (by omega) hj,Bool.false_xor]
theorem aMw(h1:1≤n)(h20:n≤20):sN n i R (aU n R (BU n i B)) B:=aKN h1 h20 λl j hl hj=>aD8 (by have:=oQ n;omega) hj
theorem a0x(h1:1≤n)(h20:n≤20):sN n i (RU i x R) (ES n i x R B) B:=by
 intro l j hl hj
 have h2:=oQ n
 rw [aNU (by omega),rY (by omega)]
 exact aMw h1 h20 l j hl hj
theorem aGA{l:Nat}(hi:i<n)(hl:l<aO n):i / 4 ^ (l+1)<aL n l:=by
 have h0:i / 4<aL n 0:=by unfold aL;omega
 have h2:=oQ n
 have h01:l=0∨l=1:=by omega
 rcases h01 with rfl|rfl
 ·exact h0
 ·show i / 16<_
  rw [show i / 16=i / 4 / 4 by omega]
  refine aKR h0 λh=>?_
  unfold aO at hl
  rw [if_pos h] at hl
  omega
theorem aWa(h1:1≤n)(h20:n≤20)(hi:i<n){ob:b8}(h:qS ob∈A8 n 1000 R (aU n R B) B++(([zV n i (RU i x R) (ES n i x R B) B 0 (i / 4),zV n i (RU i x R) (ES n i x R B) B 1 (i / 16)]:List b8).take (aO n))):ob.Any Xt w:=by
 rcases eL.1 h with h|h
 ·exact aLv h1 h20 (aHc h1 h20) h
 ·have key:∀l j,l<aO n->j<aL n l->qS ob=zV n i (RU i x R) (ES n i x R B) B l j->ob.Any Xt w:=by
   intro l j hl hj h
   obtain ⟨m,rfl⟩:=aHo h
   intro E hE _
   refine fV (by rw [hE];exact bB (by kernel_rfl)) λr vals w1 hp ha hm=>?_
   rw [hE]
   refine (aIJ (bP n (RU i x R) (ES n i x R B) l j) (B (num n l j)) (gE i l j) (lY i l j 0) (lY i l j 1) (lY i l j 2) (lY i l j 3) (hE▸hm.globs) ha).mono ?_
   rintro e w' ⟨rfl,hb⟩
   refine ⟨_,rfl,?_,hb⟩
   rw [a0x h1 h20 l j hl hj]
   exact .a (.q _)
  have h2:=oQ n
  have h012:aO n=0∨aO n=1∨aO n=2:=by omega
  rcases h012 with hh|hh|hh<;>rw [hh] at h
  ·simp at h
  ·exact key 0 (i / 4) (by omega) (aGA (l:=0) hi (by omega)) (iY.1 h)
  ·rcases bG.1 h with h|h
   ·exact key 0 (i / 4) (by omega) (aGA (l:=0) hi (by omega)) h
   ·exact key 1 (i / 16) (by omega) (aGA (l:=1) hi (by omega)) (iY.1 h)
theorem aTS{t:Bool}(h1:1≤n)(h20:n≤20)(hi:i<n)(ht:nO (R i).s=aV t){r:List aF}{vals:List Value}(ha:aX r (O4 n i x) vals)(hm:aG (E0 Xt w) r (fD [(0,some (fG n 1000 R (aU n R B) B 2))]) 1 w):
 Calls Xt.P 80 vals.toArray w λe w'=>∃q v hp' nx',e=.returned v∧aP (r++q) (.t [.a (iK n (F4 n)),aM (aV t),bM]) v∧aG (E0 Xt w) (r++q) hp' nx' w'∧hp'.get (F4 n)=some (fG n i (RU i (dV t x) R) (aU n (RU i (dV t x) R) (BU n i B)) B 0):=by
 have hgo:=cW (cW (aZS n (i / 4) h1 h20 (by omega) x R (aU n R B) B (aU n (RU i (dV t x) R) (BU n i B) (num n 0 (i / 4))) (aU n (RU i (dV t x) R) (BU n i B) (num n 1 (i / 16)))) (aMS hi)) (show t∈[false,true] by cases t<;>simp)
 unfold aOn aMO at hgo
 obtain ⟨z,hz,hz2⟩:=dE.1 hgo
 simp only [cH] at hz2
 obtain ⟨⟨e1,e2⟩,e3,e4⟩:=hz2
 obtain ⟨⟨res,st⟩,h4,h5⟩:=dE.1 e1
 simp only at h5
 subst h5
 refine (xG (E:=E0 Xt w) (g:=80) (args:=O4 n i x) (λQ0 h0 hq=>?_) h4 ha hm).mono ?_
 ·refine aUS h0 (q:=z.1) (obs:=z.2.1) (oby:=z.2.2) hz (λob hob=>?_) (λob hob=>?_) hq
  ·have hob':jI ob∈K3 t n i R (aU n R B) B:=by rw [<-e3];exact dC.2 ⟨ob,hob,rfl⟩
   exact aHP h1 h20 hi ht hob'
  ·have hob':qS ob∈z.2.2.map qS:=dC.2 ⟨ob,hob,rfl⟩
   rw [e4] at hob'
   exact aWa (x:=dV t x) h1 h20 hi hob'
 ·rintro e w' ⟨q,v,rfl,hd,hm'⟩
  refine ⟨q,v,_,_,rfl,hd,hm',?_⟩
  rw [<-R9 h4,e2]
  show some (HB.mk _ _ _)=some (HB.mk _ _ _)
  congr 2
  exact a4A
end
theorem aOB{E:bX}{r r':List aF}{hp hp':Tr}{nx nx' k T:Nat}{c:Rp SV}{L:aF}{w1 w':World}(hm:aG E r hp nx w1)(hm':aG (E0 Xt w1) r' hp' nx' w')(hk:hp'.get k=some ⟨T,c,0⟩)(hL:r'[k]?=some L)(hc:qD c):L.b=0∧aG E (r++[L]) (hp.put nx ⟨T,c,0⟩) (nx+1) w':=by
 obtain ⟨L2,hL2,vs,dv,hcase⟩:=hm'.blk k _ hk
 rw [hL] at hL2
 cases hL2
 have hB:w1.heap.size≤L.g∧L.b=0∧aC w' L.g T vs.toArray:=by
  rcases hcase with ⟨_,a1,a2,a3⟩|⟨a,_⟩|⟨a,_⟩
  ·exact ⟨a1,a2,a3⟩
  ·cases a
  ·exact absurd a (by show ¬ 2≤0;decide)
 exact ⟨hB.2.1,hm.add1 hm'.below L ⟨T,c,0⟩ hB.1 ⟨vs,hc _ _ _ dv,.inl ⟨rfl,bI hm.below.size hB.1,hB.2⟩⟩ (.inl (by show 0<2;decide))⟩
theorem a4D{E:bX}{g:FuncId}{args:List SV}{ns:List Nat}{bs:List (Option HB)}{nx T:Nat}{res:SV}{c:Rp SV}(hE:E.X=Xt)(hent:fQ Xt.P g)(hc:qD c)
 (h:∀(r:List aF) (vals:List Value) (w:World),cG Xt w->aX r (args.map (lW ns)) vals->aG (E0 Xt w) r (kH ns bs) ns.length w->Calls Xt.P g vals.toArray w λe w'=>∃r' v hp' nx' k L,e=.returned v∧aG (E0 Xt w) r' hp' nx' w'∧hp'.get k=some ⟨T,c,0⟩∧r'[k]?=some L∧∀r2:List aF,r2[nx]?=some L->aP r2 res v):tJ E g args ns bs [] nx res [⟨T,c,0⟩]:=by
 intro r vals w1 hp ha hm hbs
 rw [hE]
 refine ⟨λw'=>hent _ w',?_⟩
 refine (h _ vals w1 (hE▸hm.globs) (N6 ha) (hm.fr hE hbs)).mono ?_
 rintro e w' ⟨r',v,hp',nx',k,L,rfl,hm',hk,hL,hd⟩
 exact ⟨[L],v,rfl,hd _ (by rw [<-hm.len];simp),(aOB hm hm' hk hL hc).2⟩
theorem aAV{E:bX}{g:FuncId}{args:List SV}{ns:List Nat}{bs:List (Option HB)}{nx:Nat}{res:SV}(hE:E.X=Xt)(hent:fQ Xt.P g)
 (h:∀(r:List aF) (vals:List Value) (w:World),cG Xt w->aX r (args.map (lW ns)) vals->aG (E0 Xt w) r (kH ns bs) ns.length w->Calls Xt.P g vals.toArray w λe w'=>(∃v,e=.returned v∧∀r,aP r res v)∧Below w.heap.size w w'):tJ E g args ns bs [] nx res []:=by
 intro r vals w1 hp ha hm hbs
 rw [hE]
 refine ⟨λw'=>hent _ w',?_⟩
 refine (h _ vals w1 (hE▸hm.globs) (N6 ha) (hm.fr hE hbs)).mono ?_
 rintro e w' ⟨⟨v,rfl,hd⟩,hb⟩
 exact ⟨[],_,rfl,hd _,by have:=hm.grow hb;rw [eC];exact this⟩
theorem a2d(o:Nat)(R:Nat->aA)(Ee:Nat->aJ)(B:Nat->Bool)(ns:List Nat):(List.range 20).map (λm=>(mK (fL (m+1) o R Ee B),pM ns (fL (m+1) o R Ee B)))=(List.range 20).map λm=>(fL (m+1) o R Ee B,fL (m+1) o R Ee B):=by kernel_rfl
section
variable {n o:Nat}{R:Nat->aA}{Ee:Nat->aJ}{B:Nat->Bool}{x:aA}
theorem aA6(h1:1≤n)(h20:n≤20)(ns:List Nat):mK (fL n o R Ee B)=fL n o R Ee B∧pM ns (fL n o R Ee B)=fL n o R Ee B:=by
 have h:=cW (a2d o R Ee B ns) (show n-1∈List.range 20 by rw [dF];omega)
 simp only [show n-1+1=n by omega,cH] at h
 exact h
theorem O8(h1:1≤n)(h20:n≤20){j k:Nat}(hk:k<5):kH [j] [some (fG n o R Ee B k)]=fD [(0,some (fG n o R Ee B 2))]:=by
 have e:E8 [j] (some (fG n o R Ee B k))=some (fG n o R Ee B 2):=by
  show (bif Nat.blt k 5 || Nat.beq k 7 then some (HB.mk 192 (pM [j] (fL n o R Ee B)) 2) else none)=_
  rw [bO,decide_eq_true hk,Bool.true_or,cond_true,(aA6 h1 h20 [j]).2]
  rfl
 show fD [(0,E8 [j] (some (fG n o R Ee B k)))]=_
 rw [e]
theorem a1N(h20:n≤20):rr n (RU 1000 x R)=rr n R:=by
 funext k
 unfold rr
 cases h:Nat.blt k n with
 |false=>rfl
 |true =>
  rw [bO,bR] at h
  rw [aE1 (by omega)]
theorem aLx(h20:n≤20)(l j:Nat):bP n (RU 1000 x R) Ee l j=bP n R Ee l j:=by
 cases l with
 |zero =>
  show bD.leaf (j%8) (rr n (RU 1000 x R) (4*j)) (rr n (RU 1000 x R) (4*j+1)) (rr n (RU 1000 x R) (4*j+2)) (rr n (RU 1000 x R) (4*j+3)) (rQ j)=bD.leaf (j%8) (rr n R (4*j)) (rr n R (4*j+1)) (rr n R (4*j+2)) (rr n R (4*j+3)) (rQ j)
  rw [a1N h20]
 |succ l =>
  cases l with
  |zero=>rfl
  |succ l=>rfl
theorem aZF(h20:n≤20):fL n 1000 (RU 1000 x R) Ee B=fL n 1000 R Ee B:=by
 unfold fL
 congr 1
 rw [List.flatMap_def,List.flatMap_def]
 congr 1
 refine vN λp _=>?_
 unfold s8
 rw [aLx h20]
def wQ:SV:=.a (cB [.one .u,.one .u])
theorem bD6{a b:Value}(ha:a.oneCell'=true)(hb:b.oneCell'=true)(r:List aF):aP r (.t [wQ,bM]) (.tuple #[.agg #[a,b],.int .i64 0]) :=
 .t (.cons (.a (vs:=[a,b]) (aD.cat (us:=[a]) (.one (.u _) ha) (aD.cat (us:=[b]) (.one (.u _) hb) .nil))) (.cons (.v _) .nil))
theorem aJf{t:Bool}{z:aA}{E:bX}(hE:E.X=Xt)(h1:1≤n)(h20:n≤20)(ho:o=1000∨o<n)(he:sN n o (RU o (dV t z) R) Ee B){args:List SV}{j k nx:Nat}(hk:k<5)(hargs:args.map (lW [j])=[.a (iK n 0)]):tJ E 163 args [j] [some (fG n o (RU o (dV t z) R) Ee B k)] [] nx (.t [wQ,bM]) []:=by
 refine aAV hE (bB (by kernel_rfl)) λr vals w hg ha hm=>?_
 rw [O8 h1 h20 hk] at hm
 rw [hargs] at ha
 refine (a0s h1 h20 ho he ha hm).mono ?_
 rintro e w' ⟨⟨a,b,rfl,hA,hB⟩,hb⟩
 exact ⟨⟨_,rfl,bD6 hA hB⟩,hb⟩
theorem aIi{E:bX}(hE:E.X=Xt)(h1:1≤n)(h20:n≤20)(he:sN n 1000 R Ee B){args:List SV}{j k nx:Nat}(hk:k<5)(hargs:args.map (lW [j])=[.a (iK n 0)]):tJ E 163 args [j] [some (fG n 1000 R Ee B k)] [] nx (.t [wQ,bM]) []:=by
 have h:=aJf (t:=false) (z:=dG) (R:=R) (nx:=nx) hE h1 h20 (.inl rfl) (λl j hl hj=>by rw [aLx h20];exact he l j hl hj) hk hargs
 unfold fG at h
 rw [aZF h20] at h
 exact h
end
def a7B:List (FuncId×bV):=stops [163,154] []
def HH:Hk:=cZ Xt (cT a7B) 14 6
theorem aI8:bZ Xt HH:=eH aH (jQ λp h=>by simp at h) 6
def aOm:Ev:=.c [0] (λ_=>.t [wQ,bM]) []
def aKJ(n o:Nat)(R:Nat->aA)(Ee:Nat->aJ)(B:Nat->Bool):Ob:=.c 163 [.a (iK n 0)] [0] [some (fG n o R Ee B 2)] 0 (.t [wQ,bM]) []
def rcX(n i:Nat)(R:Nat->aA)(Ee:Nat->aJ)(B:Nat->Bool):aB×List Ob:=cL S0 HH Xt 12 [aOm] (eA Xt 19 [.a (iK n 0),aM i] (fD [(0,some (fG n i R Ee B 2))]) 1)
def rcG(n i:Nat)(R:Nat->aA)(Ee:Nat->aJ)(B:Nat->Bool):Option SV×List Ob:=((dS Xt 19 (rcX n i R Ee B).1).map (·.1),(rcX n i R Ee B).2.map jI)
theorem bBX(t:Bool)(z:aA)(R:Nat->aA)(Ee:Nat->aJ)(B:Nat->Bool):(fN 20 λm=>m+1).map (λp=>rcG (p.1+1) p.2 (RU p.2 (dV t z) R) Ee B)=(fN 20 λm=>m+1).map λp=>(some (.t [.a (.q (.rcd (dV t z))),bM]),[aKJ (p.1+1) p.2 (RU p.2 (dV t z) R) Ee B]):=by kernel_rfl
def tgE(t:Bool):Ev:=.c [] (λ_=>aM (aV t)) []
def aEv(t:Bool)(n i:Nat)(R:Nat->aA)(Ee:Nat->aJ)(B:Nat->Bool):aB×List Ob:=cL S0 HH Xt 12 [aOm,tgE t] (eA Xt 78 [.a (iK n 0),aM i] (fD [(0,some (fG n 1000 R Ee B 2))]) 1)
def aJq(t:Bool)(n i:Nat)(R:Nat->aA)(Ee:Nat->aJ)(B:Nat->Bool):Option SV×List Ob:=((dS Xt 78 (aEv t n i R Ee B).1).map (·.1),(aEv t n i R Ee B).2.map jI)
def aIY(t:Bool)(n i:Nat)(R:Nat->aA)(Ee:Nat->aJ)(B:Nat->Bool):Ob:=.c 154 [.a (cB (s8 n 1000 R Ee B 0 (i / 4))),aM (i%4)] [] [] 0 (aM (aV t)) []
theorem aWS(t:Bool)(R:Nat->aA)(Ee:Nat->aJ)(B:Nat->Bool):(fN 20 λm=>m+1).map (λp=>aJq t (p.1+1) p.2 R Ee B)=(fN 20 λm=>m+1).map λp=>(some (.t [aM (aV t),bM]),[aKJ (p.1+1) 1000 R Ee B,aIY t (p.1+1) p.2 R Ee B]):=by kernel_rfl
theorem aC3{n i:Nat}(h1:1≤n)(h20:n≤20)(hi:i<n):(n-1,i)∈fN 20 λm=>m+1:=pU (f:=λm=>m+1) (by omega) (by omega)
section
variable {n i:Nat}{R:Nat->aA}{Ee:Nat->aJ}{B:Nat->Bool}{w:World}
theorem aZk{t:Bool}{z:aA}(h1:1≤n)(h20:n≤20)(hi:i<n)(he:sN n i (RU i (dV t z) R) Ee B){r:List aF}{vals:List Value}(ha:aX r [.a (iK n 0),aM i] vals)(hm:aG (E0 Xt w) r (fD [(0,some (fG n i (RU i (dV t z) R) Ee B 2))]) 1 w):
 Calls Xt.P 19 vals.toArray w λe w'=>e=.returned (.tuple #[.agg (dV t z).vals.toArray,.int .i64 0])∧Below w.heap.size w w':=by
 have hgo:=cW (bBX t z R Ee B) (aC3 h1 h20 hi)
 simp only [show n-1+1=n by omega] at hgo
 unfold rcG at hgo
 simp only [cH] at hgo
 obtain ⟨e1,e2⟩:=hgo
 obtain ⟨⟨res,st⟩,h4,h5⟩:=dE.1 e1
 simp only at h5
 subst h5
 refine (iQ (E:=E0 Xt w) (r:=r) aH aI8 h4 (λob hob=>?_) ha hm).mono ?_
 ·have hob':jI ob∈(rcX n i (RU i (dV t z) R) Ee B).2.map jI:=dC.2 ⟨ob,hob,rfl⟩
  rw [e2] at hob'
  obtain ⟨m,rfl⟩:=vS (iY.1 hob')
  exact aJf rfl h1 h20 (.inr hi) he (by decide) rfl
 ·rintro e w' ⟨q,v,rfl,hd,hm'⟩
  refine ⟨?_,hm'.below⟩
  cases hd with|t d=>cases d with|cons d1 d=>cases d with|cons d2 d =>
   cases d;cases d2
   cases d1 with|a d1=>cases d1;rfl
theorem aS8{t:Bool}(h1:1≤n)(h20:n≤20)(hi:i<n)(ht:nO (R i).s=aV t){r:List aF}{vals:List Value}(ha:aX r [.a (iK n 0),aM i] vals)(hm:aG (E0 Xt w) r (fD [(0,some (fG n 1000 R (aU n R B) B 2))]) 1 w):
 Calls Xt.P 78 vals.toArray w λe w'=>e=.returned (.tuple #[.int .i64 ((aV t:Nat):Int),.int .i64 0])∧Below w.heap.size w w':=by
 have hgo:=cW (aWS t R (aU n R B) B) (aC3 h1 h20 hi)
 simp only [show n-1+1=n by omega] at hgo
 unfold aJq at hgo
 simp only [cH] at hgo
 obtain ⟨e1,e2⟩:=hgo
 obtain ⟨⟨res,st⟩,h4,h5⟩:=dE.1 e1
 simp only at h5
 subst h5
 refine (iQ (E:=E0 Xt w) (r:=r) aH aI8 h4 (λob hob=>?_) ha hm).mono ?_
 ·have hob':jI ob∈(aEv t n i R (aU n R B) B).2.map jI:=dC.2 ⟨ob,hob,rfl⟩
  rw [e2] at hob'
  rcases bG.1 hob' with h|h
  ·obtain ⟨m,rfl⟩:=vS h
   exact aIi rfl h1 h20 (aHc h1 h20) (by decide) rfl
  ·refine aHP (R:=R) (B:=B) (t:=t) h1 h20 hi ht (ob:=ob) ?_
   rw [iY.1 h]
   unfold K3
   simp [aIY]
 ·rintro e w' ⟨q,v,rfl,hd,hm'⟩
  refine ⟨?_,hm'.below⟩
  cases hd with|t d=>cases d with|cons d1 d=>cases d with|cons d2 d =>
   cases d;cases d1;cases d2;rfl
end
theorem aS5{E:bX}{g:FuncId}{args:List SV}{ns:List Nat}{bs:List (Option HB)}{nx T1 T2:Nat}{res:SV}{c1 c2:Rp SV}(hE:E.X=Xt)(hent:fQ Xt.P g)(hc1:qD c1)(hc2:qD c2)
 (h:∀(r:List aF) (vals:List Value) (w:World),cG Xt w->aX r (args.map (lW ns)) vals->aG (E0 Xt w) r (kH ns bs) ns.length w->Calls Xt.P g vals.toArray w λe w'=>∃r' v hp' nx' k1 k2 L1 L2,e=.returned v∧aG (E0 Xt w) r' hp' nx' w'∧k1≠k2∧hp'.get k1=some ⟨T1,c1,0⟩∧hp'.get k2=some ⟨T2,c2,0⟩∧r'[k1]?=some L1∧r'[k2]?=some L2∧∀(r2:List aF) (M1 M2:aF),r2[nx]?=some M1->r2[nx+1]?=some M2->M1.g=L1.g->M2.g=L2.g->M1.b=L1.b->M2.b=L2.b->aP r2 res v):tJ E g args ns bs [] nx res [⟨T1,c1,0⟩,⟨T2,c2,0⟩]:=by
 intro r vals w1 hp ha hm hbs
 rw [hE]
 refine ⟨λw'=>hent _ w',?_⟩
 refine (h _ vals w1 (hE▸hm.globs) (N6 ha) (hm.fr hE hbs)).mono ?_
 rintro e w' ⟨r',v,hp',nx',k1,k2,L1,L2,rfl,hm',hne,hk1,hk2,hL1,hL2,hd⟩
 have own:∀{k T:Nat} {c:Rp SV} {L:aF},qD c->hp'.get k=some ⟨T,c,0⟩->r'[k]?=some L->∃vs:List Value,(∀r,aD r c vs)∧w1.heap.size≤L.g∧L.b=0∧aC w' L.g T vs.toArray:=by
  intro k T c L hc hk hL
  obtain ⟨M,hM,vs,dv,hcase⟩:=hm'.blk k _ hk
  rw [hL] at hM
  cases hM
  rcases hcase with ⟨_,a1,a2,a3⟩|⟨a,_⟩|⟨a,_⟩
  ·exact ⟨vs,λr=>hc _ _ _ dv,a1,a2,a3⟩
  ·cases a
  ·exact absurd a (by show ¬ 2≤0;decide)
 obtain ⟨v1,d1,g1,z1,b1⟩:=own hc1 hk1 hL1
 obtain ⟨v2,d2,g2,z2,b2⟩:=own hc2 hk2 hL2
 have hm2:=hm.add2 hm'.below g1 g2 (hm'.apart hk1 hk2 hne (by show ¬ 0=2;decide) hL1 hL2) b1 b2 d1 d2
 have e:r++[(⟨L1.g,0,0,none,λ_=>False⟩:aF)]++[⟨L2.g,0,0,none,λ_=>False⟩]=r++[(⟨L1.g,0,0,none,λ_=>False⟩:aF),⟨L2.g,0,0,none,λ_=>False⟩]:=by simp
 have hl:=hm.len
 refine ⟨[⟨L1.g,0,0,none,λ_=>False⟩,⟨L2.g,0,0,none,λ_=>False⟩],v,rfl,?_,by rw [<-e];exact hm2⟩
 exact hd _ ⟨L1.g,0,0,none,λ_=>False⟩ ⟨L2.g,0,0,none,λ_=>False⟩ (by rw [<-hl];simp) (by rw [<-hl];simp) rfl rfl z1.symm z2.symm
theorem a3g:(fN 20 λm=>m+1).map (λp=>[false,true].map λt=>aGv [aM (p.1+1),aM p.2,aM (aV t)] .e 0)=(fN 20 λm=>m+1).map λp=>[false,true].map λt=>some (.t [aM (2*p.2+aV t),bM],⟨⟨.e,0⟩,.e,0⟩):=by kernel_rfl
theorem aBR{n i:Nat}{t:Bool}{w:World}(h1:1≤n)(h20:n≤20)(hi:i<n)(hg:cG Xt w):Calls Xt.P 24 #[.int .i64 (n:Int),.int .i64 (i:Int),.int .i64 ((aV t:Nat):Int)] w λe w'=>e=.returned (.tuple #[.int .i64 ((2*i+aV t:Nat):Int),.int .i64 0])∧Below w.heap.size w w':=by
 have hl:=cW (cW a3g (aC3 h1 h20 hi)) (show t∈[false,true] by cases t<;>simp)
 simp only [show n-1+1=n by omega] at hl
 refine (aNO _ _ _ _ _ hl (E0 Xt w) [] [.int .i64 (n:Int),.int .i64 (i:Int),.int .i64 ((aV t:Nat):Int)] w rfl (.cons (.v _) (.cons (.v _) (.cons (.v _) .nil))) (aG.start Xt w hg)).2.mono ?_
 rintro e w' ⟨q,v,rfl,hd,hm⟩
 refine ⟨?_,hm.below⟩
 cases hd with|t hd=>cases hd with|cons d1 hd=>cases hd with|cons d2 hd=>cases hd;cases d1;cases d2;rfl
def aSG:List (FuncId×bV):=stops [78,79,80,24] []
def HP:Hk:=cZ Xt (cT aSG) 14 6
theorem aVV:bZ Xt HP:=eH aH (jQ λp h=>by simp at h) 6
def lG(n T k:Nat):Rp SV:=.node 1 2 (.one (aM n)) (.one (.s k 0 T T))
def nB(row:Rp SV)(k:Nat):HB:=⟨192,row,k⟩
def ptE(s:Nat)(t:Bool)(v:aA)(d:cD)(n T:Nat)(row:Rp SV):List Ev:=[.c [0] (λ_=>.t [aM (aV t),bM]) [],.c [] (λ_=>.t [.a (.q (.byt d)),.a (.q (.tag v)),bM]) [],.c [0] (λk=>.t [.a (lG n T k),aM (aV t),bM]) [nB row 0],.c [] (λ_=>.t [aM s,bM]) []]
def I0(n T i s:Nat)(t:Bool)(k m b d:cD)(v:aA)(row row2:Rp SV):aB×List Ob:=cL S0 HP Xt 12 (ptE s t v d n T row2) (eA Xt 18 [.a (lG n T 0),.a (sC k m),aM i,.a (.q (.nnc v)),.a (.q (.byt b))] (fD [(0,some (nB row 2))]) 1)
def K6(s k:Nat):Rp SV:=.node 1 2 (.one (aM s)) (.one (.s k 0 32 32))
def ptG(n T i s:Nat)(t:Bool)(k m b d:cD)(v:aA)(row row2:Rp SV):((Option SV×Option HB)×Option HB)×List Ob:=((((dS Xt 18 (I0 n T i s t k m b d v row row2).1).map (·.1),(I0 n T i s t k m b d v row row2).1.st.hp.get 7),(I0 n T i s t k m b d v row row2).1.st.hp.get 9),(I0 n T i s t k m b d v row row2).2)
def xJ(v:aA):Rp SV:=.node 1 2 (.one (.v (.int .u32 (v.sh:Int)))) (.one (.v (.int .u64 (v.c:Int))))
def ptO(n T i s:Nat)(t:Bool)(k m b d:cD)(v:aA)(row row2:Rp SV):List Ob:=[.c 78 [.a (lG n T 0),aM i] [0] [some (nB (mK row) 2)] 7 (.t [aM (aV t),bM]) [],
 .c 79 [.a (.node 16 48 (.arr .u8 16 k.l) (.arr .u8 32 m.l)),aM i,.a (xJ v),.a (.arr .u8 32 b.l)] [] [] 7 (.t [.a (.q (.byt d)),.a (.q (.tag v)),bM]) [],
 .c 80 [.a (lG n T 0),aM i,.a (xJ v),.a (.arr .u8 32 v.tag)] [0] [some (nB (mK row) 2)] 9 (.t [.a (lG n T 9),aM (aV t),bM]) [nB row2 0],
 .c 24 [aM n,aM i,aM (aV t)] [] [] 11 (.t [aM s,bM]) []]
theorem aPK(n T i s:Nat)(t:Bool)(kl ml bl dl:List Nat)(hk:kl.length=16)(hkb:Sh.Byt kl)(hm:ml.length=32)(hmb:Sh.Byt ml)(hb:bl.length=32)(hbb:Sh.Byt bl)(hd:dl.length=32)(hdb:Sh.Byt dl)(v:aA)(row row2:Rp SV):ptG n T i s t ⟨kl,16,hk,hkb⟩ ⟨ml,32,hm,hmb⟩ ⟨bl,32,hb,hbb⟩ ⟨dl,32,hd,hdb⟩ v row row2 =
 (((some (.t [.a (lG n T 9),.a (K6 s 7),bM]),some ⟨81,.q (.byt ⟨dl,32,hd,hdb⟩),0⟩),some (nB row2 0)),ptO n T i s t ⟨kl,16,hk,hkb⟩ ⟨ml,32,hm,hmb⟩ ⟨bl,32,hb,hbb⟩ ⟨dl,32,hd,hdb⟩ v row row2):=by kernel_rfl
theorem aCr{r:List aF}{v:aA}{us:List Value}(h:aD r (xJ v) us):us=v.nnc:=by
 cases h with|node h1 h2 _ _=>rw [bQ h1,bQ h2];rfl
section
variable {n i:Nat}{R:Nat->aA}{B:Nat->Bool}{w:World}{k m b:cD}{v:aA}{t:Bool}
theorem a6H(h1:1≤n)(h20:n≤20)(hi:i<n)(ht:nO (R i).s=aV t)(hk:k.n=16)(hm:m.n=32)(hb:b.n=32)(hv:v.tag=Sh.shaF (oP m.l (kE i v (eY k.l b.l v)))):
 ∀ob∈ptO n (aT n) i (2*i+aV t) t k m b (k8 k.l b.l v) v (fL n 1000 R (aU n R B) B) (fL n i (RU i (dV t v) R) (aU n (RU i (dV t v) R) (BU n i B)) B),ob.Holds (E0 Xt w):=by
 intro ob hob
 unfold ptO at hob
 rw [(aA6 h1 h20 []).1] at hob
 simp only [bG,cK,or_false] at hob
 rcases hob with rfl|rfl|rfl|rfl
 ·refine aAV (E:=E0 Xt w) rfl (bB (by kernel_rfl)) λr vals w hg ha hm=>?_
  have hm':aG (E0 Xt w) r (kH [0] [some (fG n 1000 R (aU n R B) B 2)]) 1 w:=hm
  rw [O8 h1 h20 (by decide)] at hm'
  refine (aS8 h1 h20 hi ht ha hm').mono ?_
  rintro e w' ⟨rfl,hb⟩
  exact ⟨⟨_,rfl,λr=>.t (.cons (.v _) (.cons (.v _) .nil))⟩,hb⟩
 ·refine fV (E:=E0 Xt w) (bB (by kernel_rfl)) λr vals w1 hp ha hm'=>?_
  have hvals:vals=[.agg (nv .u8 k.l++nv .u8 m.l).toArray,.int .i64 (i:Int),.agg v.nnc.toArray,.agg (nv .u8 b.l).toArray]:=by
   cases ha with|cons d1 t=>cases t with|cons d2 t=>cases t with|cons d3 t=>cases t with|cons d4 t =>
    cases t;cases d2
    cases d1 with|a d1=>cases d3 with|a d3=>cases d4 with|a d4 =>
     rw [aCr d3,fJ d4]
     cases d1 with|node e1 e2 _ _=>rw [fJ e1,fJ e2]
  rw [hvals]
  refine (a07 hk hm hb (by omega) hm'.globs).mono ?_
  rintro e w' ⟨rfl,hbw⟩
  refine ⟨_,rfl,.t (.cons (.a (.q (.byt (k8 k.l b.l v)))) (.cons (.a ?_) (.cons (.v _) .nil))),hbw⟩
  rw [<-hv]
  exact .q (.tag v)
 ·refine a4D (E:=E0 Xt w) rfl (bB (by kernel_rfl)) aHv λr vals w hg ha hm=>?_
  have hm':aG (E0 Xt w) r (kH [0] [some (fG n 1000 R (aU n R B) B 2)]) 1 w:=hm
  rw [O8 h1 h20 (by decide)] at hm'
  have ha':aX r (O4 n i v) vals:=by
   cases ha with|cons d1 t=>cases t with|cons d2 t=>cases t with|cons d3 t=>cases t with|cons d4 t =>
    cases t
    cases d3 with|a d3=>cases d4 with|a d4 =>
     rw [aCr d3,fJ d4]
     exact .cons d1 (.cons d2 (.cons (.a (.q (.nnc v))) (.cons (.a (.q (.tag v))) .nil)))
  refine (aTS h1 h20 hi ht ha' hm').mono ?_
  rintro e w' ⟨q,u,hp',nx',rfl,hd,hm2,hget⟩
  cases hd with|t hd=>cases hd with|cons d1 hd=>cases hd with|cons d2 hd=>cases hd with|cons d3 hd =>
   cases hd;cases d2;cases d3
   cases d1 with|a d1=>cases d1 with|node e1 e2 _ _ =>
    rw [bQ e1]
    cases e2 with|one e2 _=>cases e2 with|@s _ _ _ _ L hL =>
     refine ⟨_,_,_,_,F4 n,L,rfl,hm2,hget,hL,λr2 h2=>?_⟩
     exact .t (.cons (.a (.node (us:=[.int .i64 (n:Int)]) (.one (.v _) rfl) (.one (.s h2) rfl) rfl rfl)) (.cons (.v _) (.cons (.v _) .nil)))
 ·refine fV (E:=E0 Xt w) (bB (by kernel_rfl)) λr vals w1 hp ha hm'=>?_
  cases ha with|cons d1 t=>cases t with|cons d2 t=>cases t with|cons d3 t =>
   cases t;cases d1;cases d2;cases d3
   refine (aBR h1 h20 hi hm'.globs).mono ?_
   rintro e w' ⟨rfl,hbw⟩
   exact ⟨_,rfl,.t (.cons (.v _) (.cons (.v _) .nil)),hbw⟩
theorem aU5(h1:1≤n)(h20:n≤20)(hi:i<n)(ht:nO (R i).s=aV t)(hk:k.n=16)(hm:m.n=32)(hb:b.n=32)(hv:v.tag=Sh.shaF (oP m.l (kE i v (eY k.l b.l v)))){r:List aF}{vals:List Value}(ha:aX r [.a (iK n 0),.a (sC k m),aM i,.a (.q (.nnc v)),.a (.q (.byt b))] vals)(hme:aG (E0 Xt w) r (fD [(0,some (fG n 1000 R (aU n R B) B 2))]) 1 w):
 Calls Xt.P 18 vals.toArray w λe w'=>∃q u hp' nx',e=.returned u∧aP (r++q) (.t [.a (iK n 9),.a (K6 (2*i+aV t) 7),bM]) u∧aG (E0 Xt w) (r++q) hp' nx' w'∧hp'.get 9=some (fG n i (RU i (dV t v) R) (aU n (RU i (dV t v) R) (BU n i B)) B 0)∧hp'.get 7=some ⟨81,.q (.byt (k8 k.l b.l v)),0⟩:=by
 have hobs:=a6H (w:=w) (B:=B) h1 h20 hi ht hk hm hb hv
 have hd32:(k8 k.l b.l v).n=32:=rfl
 obtain ⟨d,hd⟩:∃d,d=k8 k.l b.l v:=⟨_,rfl⟩
 rw [<-hd] at hobs hd32 ⊢
 obtain ⟨kl,kn,hkl,hkb⟩:=k
 obtain ⟨ml,mn,hml,hmb⟩:=m
 obtain ⟨bl,bn,hbl,hbb⟩:=b
 obtain ⟨dl,dn,hdl,hdb⟩:=d
 simp only at hk hm hb hd32
 subst hk hm hb hd32
 clear hd hv
 have hgo:=aPK n (aT n) i (2*i+aV t) t kl ml bl dl hkl hkb hml hmb hbl hbb hdl hdb v (fL n 1000 R (aU n R B) B) (fL n i (RU i (dV t v) R) (aU n (RU i (dV t v) R) (BU n i B)) B)
 unfold ptG at hgo
 simp only [cH] at hgo
 obtain ⟨⟨⟨e1,e7⟩,e9⟩,e2⟩:=hgo
 obtain ⟨⟨res,st⟩,h4,h5⟩:=dE.1 e1
 simp only at h5
 subst h5
 rw [<-e2] at hobs
 have est:=R9 h4
 rw [est] at e7 e9
 unfold I0 at h4 hobs
 refine (iQ (E:=E0 Xt w) (r:=r) aH aVV h4 hobs ha hme).mono ?_
 rintro e w' ⟨q,u,rfl,hd,hm'⟩
 exact ⟨q,u,_,_,rfl,hd,hm',e9,e7⟩
end
