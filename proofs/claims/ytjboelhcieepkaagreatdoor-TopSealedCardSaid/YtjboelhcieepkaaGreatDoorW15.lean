/- A part of the proof of TopSealed. -/
import Derived.Test.YtjboelhcieepkaaGreatDoorW14
noncomputable section
set_option maxRecDepth 16384
namespace Go.Proofs.YtjboelhcieepkaaGreatDoor
open Go.RowKit
def aDv(args:List SV):Option SV:=match args with
 |[.v (.int .i64 (.ofNat i)),.v (.int .i64 (.ofNat l))]=>bif Nat.blt i 20&&Nat.blt l 3 then some (aM (i / 4 ^ (l+1))) else none
 |_=>none
theorem aT6:(fN 20 λ_=>3).map (λp=>jJ HB0 Xt 12 103 [aM p.1,aM p.2] .e 0)=(fN 20 λ_=>3).map (λp=>some (.int .i64 ((p.1 / 4 ^ (p.2+1):Nat):Int))):=by kernel_rfl
theorem aSa:bN Xt 103 (cU aDv):=jY (bB (by kernel_rfl)) λargs y hf r vals w hd hg=>by
 unfold aDv at hf
 split at hf
 ·rename_i i l
  cases hq:Nat.blt i 20&&Nat.blt l 3 with
  |false=>rw [hq] at hf;cases hf
  |true =>
   rw [hq] at hf;cases hf
   simp only [bJ,bO,bR] at hq
   cases hd with
   |cons d1 hd=>cases hd with
    |cons d2 hd =>
     cases hd;cases d1;cases d2
     exact (M3 (vals:=[.int .i64 (.ofNat i),.int .i64 (.ofNat l)]) aH aJc (cW aT6 (pU (f:=λ_=>3) hq.1 hq.2)) (.cons (.v _) (.cons (.v _) .nil)) hg).mono λe w' ⟨h1,h2⟩=>⟨_,h1,.v _,h2⟩
 ·cases hf
def zG:List (FuncId×bV):=(103,cU aDv)::aIF
theorem T9:∀p∈zG,bN Xt p.1 p.2:=by
 intro p hp
 rcases bG.1 hp with rfl|hp
 ·exact aSa
 ·exact a5U p hp
def HE:Hk:=cZ Xt (cT zG) 14 6
theorem aT5:bZ Xt HE:=eH aH T9 6
def aBj(n:Nat)(R:Nat->aA):Rp SV:=cB ((List.range n).map λi=>.q (.rcd (R i)))
def lE(n:Nat)(B:Nat->Bool):Rp SV:=cB ((List.range n).map λi=>.q (.bit (B i)))
def K1(n:Nat)(R:Nat->aA):List Value:=(List.range n).flatMap λi=>(R i).vals
def zU(n:Nat)(B:Nat->Bool):List Value:=(List.range n).flatMap λi=>[.int .i64 (aV (B i):Int)]
def aCz:List (Rp SV)->Option (List aA)
 |[]=>some []
 | .q (.rcd x)::l=>(match aCz l with
  |some xs=>some (x::xs)
  |none=>none)
 |_=>none
def aAH:List (Rp SV)->Option (List Bool)
 |[]=>some []
 | .q (.bit x)::l=>(match aAH l with
  |some xs=>some (x::xs)
  |none=>none)
 |_=>none
section
variable {r:List aF}
theorem aDS{α:Type}(f:α->At):∀l:List α,aD r (cB (l.map λi=>.q (f i))) (l.flatMap λi=>(f i).vals)
 |[]=>.nil
 |x::l=>by rw [List.flatMap_cons];exact aD.cat (.q (f x)) (aDS f l)
theorem aGg(n:Nat)(R:Nat->aA):aD r (aBj n R) (K1 n R):=aDS (λi=>.rcd (R i)) _
theorem aB4(n:Nat)(B:Nat->Bool):aD r (lE n B) (zU n B):=aDS (λi=>.bit (B i)) _
theorem aMM:∀{l:List (Rp SV)} {xs:List aA} {us:List Value},aCz l=some xs->cE r l us->us=xs.flatMap aA.vals
 |[],_,_,h,d=>by cases h;cases d;rfl
 |c::l,_,_,h,d=>by
  unfold aCz at h
  split at h
  ·rename_i e;cases e
  ·rename_i e
   cases e
   split at h
   ·rename_i xs hx
    cases h
    cases d with|cons d t=>cases d;rw [aMM hx t,List.flatMap_cons];rfl
   ·cases h
  ·cases h
theorem aJy:∀{l:List (Rp SV)} {xs:List Bool} {us:List Value},aAH l=some xs->cE r l us->us=xs.flatMap λb=>[.int .i64 (aV b:Int)]
 |[],_,_,h,d=>by cases h;cases d;rfl
 |c::l,_,_,h,d=>by
  unfold aAH at h
  split at h
  ·rename_i e;cases e
  ·rename_i e
   cases e
   split at h
   ·rename_i xs hx
    cases h
    cases d with|cons d t=>cases d;rw [aJy hx t,List.flatMap_cons];rfl
   ·cases h
  ·cases h
theorem n6{α β:Type}(xs:List α)(z:α)(f:α->List β):xs.flatMap f=(List.range xs.length).flatMap λi=>f (xs.getD i z):=by
 have:xs=(List.range xs.length).map λi=>xs.getD i z:=by
  apply List.ext_getElem?
  intro i
  rw [jC]
  by_cases hi:i<xs.length
  ·rw [rJ hi];simp [hi]
  ·rw [fA (by omega),fA (by simpa using hi)];rfl
 conv=>lhs;rw [this]
 rw [List.flatMap_map]
end
theorem aKx{E:bX}{r:List aF}{hp:Tr}{nx z m:Nat}{w:World}{x:SV}{cs:Rp SV}{v:Value}(hm:aG E r hp nx w)(hx:aP r x v)(h:jH hp z x=some (m,cs))(h0:0<m):
 ∃g o c zs,v=.slice (some ⟨g,o,none⟩) m c∧aD r cs zs∧bH w w.heap.size z (some ⟨g,o,none⟩) m zs:=by
 have key:∀{y:SV} {g o l c:Nat},aP r y v->v=.slice (some ⟨g,o,none⟩) l c->jH hp z y=some (m,cs)->∃g o c zs,v=.slice (some ⟨g,o,none⟩) m c∧aD r cs zs∧bH w w.heap.size z (some ⟨g,o,none⟩) m zs:=by
  intro y g o l c hd hv hs
  obtain ⟨A,c',zs,e1,hd',_,hr⟩:=uX hm hd hs
  rw [hv] at e1
  cases e1
  exact ⟨g,o,_,zs,hv,hd',hr⟩
 cases hx with
 |s hL=>exact key (.s hL) rfl h
 |w hL hl=>exact key (.w hL hl) rfl h
 |v x =>
  unfold jH at h
  split at h
  ·rename_i e;cases e
  ·rename_i e;cases e
  ·cases h;omega
  ·cases h
 |_=>cases h
theorem aG.addR{E:bX}{r:List aF}{hp:Tr}{nx z n g o c T:Nat}{w w':World}{cs:Rp SV}{vs:List Value}(h:aG E r hp nx w)(ha:gM hp)(hr:bH w w'.heap.size z (some ⟨g,o,none⟩) n vs)(h0:0<n)(hw:w'.heap.size≤E.w0.heap.size)(hle:E.w0.heap.size≤w.heap.size)
 (hd:aD [] cs vs):aG E (r++[⟨g,o,c,none,λ_=>False⟩]) (hp.put nx ⟨T,cs,2⟩) (nx+1) w:=by
 obtain ⟨ad,e,hlt,hc⟩:=hr.2 h0
 cases e
 exact h.addF ha ⟨g,o,c,none,λ_=>False⟩ T cs vs (by have:=hd.mono (r++[⟨g,o,c,none,λ_=>False⟩]);simpa using this) (eQ hlt hw) hle λj v hv=>by have:=hc j v hv;rwa [eX] at this
def mM(x:aA):Bool:=!((x.s:Int)==0)
theorem aG5(x:aA):mM x=!(Nat.beq x.s 0):=by
 unfold mM
 congr 1
 cases h:x.s with
 |zero=>rfl
 |succ n=>rfl
def nH(lv ix i:Nat):Bool:=Nat.beq (i / 4 ^ (lv+1)) ix
def hpE(n:Nat)(R:Nat->aA):Tr:=bC.e.put 0 ⟨61,aBj n R,2⟩
def emE(n k:Nat):List Ev:=List.replicate k (.b false)++(bif Nat.beq k n then [] else [.b true])
def emX(n lv ix k c:Nat)(R:Nat->aA):aB×List Ob:=cL ⟨[26],[],0⟩ HE Xt 12 (emE n k) (eA Xt 38 [.s 0 0 n c,aM lv,aM ix] (hpE n R) 1)
def gY(n:Nat)(c:Nat)(R:Nat->aA)(q:(Nat×Nat)×Nat):Option SV×List Ob:=((dS Xt 38 (emX n q.1.1 q.1.2 q.2 c R).1).map (·.1),(emX n q.1.1 q.1.2 q.2 c R).2)
def iB(n:Nat)(R:Nat->aA)(q:(Nat×Nat)×Nat):Option SV×List Ob:=(some (.v (.bool (Nat.beq q.2 n))),((List.range q.2).map λi=>.t (bif nH q.1.1 q.1.2 i then mM (R i) else false) false)++(bif Nat.beq q.2 n then [] else [.t (mM (R q.2)) true]))
def dP(n:Nat):List ((Nat×Nat)×Nat):=(fN 2 (aL n)).flatMap λp=>((n::(List.range n).filter (nH p.1 p.2)).map λk=>(p,k))
theorem aRO(c:Nat)(R:Nat->aA):(dP 1).map (gY 1 c R)=(dP 1).map (iB 1 R):=by kernel_rfl
theorem aRW(c:Nat)(R:Nat->aA):(dP 2).map (gY 2 c R)=(dP 2).map (iB 2 R):=by kernel_rfl
theorem a9U(c:Nat)(R:Nat->aA):(dP 3).map (gY 3 c R)=(dP 3).map (iB 3 R):=by kernel_rfl
theorem aTf(c:Nat)(R:Nat->aA):(dP 4).map (gY 4 c R)=(dP 4).map (iB 4 R):=by kernel_rfl
theorem a7u(c:Nat)(R:Nat->aA):(dP 5).map (gY 5 c R)=(dP 5).map (iB 5 R):=by kernel_rfl
theorem aSR(c:Nat)(R:Nat->aA):(dP 6).map (gY 6 c R)=(dP 6).map (iB 6 R):=by kernel_rfl
theorem bAr(c:Nat)(R:Nat->aA):(dP 7).map (gY 7 c R)=(dP 7).map (iB 7 R):=by kernel_rfl
theorem a9l(c:Nat)(R:Nat->aA):(dP 8).map (gY 8 c R)=(dP 8).map (iB 8 R):=by kernel_rfl
theorem aU1(c:Nat)(R:Nat->aA):(dP 9).map (gY 9 c R)=(dP 9).map (iB 9 R):=by kernel_rfl
theorem aVU(c:Nat)(R:Nat->aA):(dP 10).map (gY 10 c R)=(dP 10).map (iB 10 R):=by kernel_rfl
theorem aZB(c:Nat)(R:Nat->aA):(dP 11).map (gY 11 c R)=(dP 11).map (iB 11 R):=by kernel_rfl
theorem aQE(c:Nat)(R:Nat->aA):(dP 12).map (gY 12 c R)=(dP 12).map (iB 12 R):=by kernel_rfl
theorem aPh(c:Nat)(R:Nat->aA):(dP 13).map (gY 13 c R)=(dP 13).map (iB 13 R):=by kernel_rfl
theorem aST(c:Nat)(R:Nat->aA):(dP 14).map (gY 14 c R)=(dP 14).map (iB 14 R):=by kernel_rfl
theorem bDb(c:Nat)(R:Nat->aA):(dP 15).map (gY 15 c R)=(dP 15).map (iB 15 R):=by kernel_rfl
theorem aYe(c:Nat)(R:Nat->aA):(dP 16).map (gY 16 c R)=(dP 16).map (iB 16 R):=by kernel_rfl
theorem a09(c:Nat)(R:Nat->aA):(dP 17).map (gY 17 c R)=(dP 17).map (iB 17 R):=by kernel_rfl
theorem a7M(c:Nat)(R:Nat->aA):(dP 18).map (gY 18 c R)=(dP 18).map (iB 18 R):=by kernel_rfl
theorem aWV(c:Nat)(R:Nat->aA):(dP 19).map (gY 19 c R)=(dP 19).map (iB 19 R):=by kernel_rfl
theorem aQY(c:Nat)(R:Nat->aA):(dP 20).map (gY 20 c R)=(dP 20).map (iB 20 R):=by kernel_rfl
theorem aTb:∀n,1≤n->n≤20->∀(c:Nat) (R:Nat->aA),(dP n).map (gY n c R)=(dP n).map (iB n R)
 |1,_,_=>aRO
 |2,_,_=>aRW
 |3,_,_=>a9U
 |4,_,_=>aTf
 |5,_,_=>a7u
 |6,_,_=>aSR
 |7,_,_=>bAr
 |8,_,_=>a9l
 |9,_,_=>aU1
 |10,_,_=>aVU
 |11,_,_=>aZB
 |12,_,_=>aQE
 |13,_,_=>aPh
 |14,_,_=>aST
 |15,_,_=>bDb
 |16,_,_=>aYe
 |17,_,_=>a09
 |18,_,_=>a7M
 |19,_,_=>aWV
 |20,_,_=>aQY
 |n+21,_,h=>absurd h (by omega)
 |0,h,_=>absurd h (by omega)
def bY(R:Nat->aA)(n lv ix:Nat):Bool:=(List.range n).all λi=>!(nH lv ix i) || Nat.beq (R i).s 0
theorem aNa{P:Nat->Prop}:∀{i:Nat},P i->∃k,k≤i∧P k∧∀j,j<k->¬ P j:=by
 intro i
 induction i using Nat.strongRecOn with
 |_ i ih =>
  intro hi
  by_cases h:∃j,j<i∧P j
  ·obtain ⟨j,h1,h2⟩:=h
   obtain ⟨k,h3,h4⟩:=ih j h1 h2
   exact ⟨k,by omega,h4⟩
  ·exact ⟨i,aS _,hi,λj hj hp=>h ⟨j,hj,hp⟩⟩
theorem a9o(n lv ix c g o:Nat)(R:Nat->aA)(h1:1≤n)(h20:n≤20)(hl:lv<2)(hi:ix<aL n lv)(w:World)(hg:cG Xt w)(hr:bH w w.heap.size 35 (some ⟨g,o,none⟩) n (K1 n R)):
 Calls Xt.P 38 #[.slice (some ⟨g,o,none⟩) n c,.int .i64 (lv:Int),.int .i64 (ix:Int)] w λe w'=>e=.returned (.bool (bY R n lv ix))∧Below w.heap.size w w':=by
 have hm:aG (E0 Xt w) ([]++[⟨g,o,c,none,λ_=>False⟩]) (hpE n R) 1 w:=(aG.start Xt w hg).addR gM.start hr (by omega) (aS _) (aS _) (aGg n R)
 have key:∀k,((lv,ix),k)∈dP n->(∀i,i<k->nH lv ix i=true->(R i).s=0)->(k≠n->(R k).s≠0)->Calls Xt.P 38 #[.slice (some ⟨g,o,none⟩) n c,.int .i64 (lv:Int),.int .i64 (ix:Int)] w λe w'=>e=.returned (.bool (Nat.beq k n))∧Below w.heap.size w w':=by
  intro k hk hz hn
  have h:=cW (aTb n h1 h20 c R) hk
  unfold gY iB at h
  simp only [cH] at h
  obtain ⟨h2,h3⟩:=h
  obtain ⟨⟨res,st⟩,h4,h5⟩:=dE.1 h2
  simp only at h5
  subst h5
  refine (iQ (E:=E0 Xt w) (vals:=[.slice (some ⟨g,o,none⟩) n c,.int .i64 (lv:Int),.int .i64 (ix:Int)]) aH aT5 h4 ?_ ?_ hm).mono ?_
  ·intro ob hob
   have hob':ob∈(emX n lv ix k c R).2:=hob
   rw [h3,eL,dC] at hob'
   rcases hob' with ⟨i,hi,rfl⟩|hob'
   ·rw [dF] at hi
    show (bif nH lv ix i then mM (R i) else false)=false
    cases hs:nH lv ix i with
    |false=>rfl
    |true=>rw [cond_true,aG5,hz i hi hs];rfl
   ·rw [bE] at hob'
    by_cases e:k=n
    ·simp [e] at hob'
    ·simp only [e,decide_false,cond_false,iY] at hob'
     subst hob'
     show mM (R k)=true
     rw [aG5]
     have:=hn e
     rw [bE]
     simp [this]
  ·exact .cons (.s (L:=⟨g,o,c,none,λ_=>False⟩) (o:=0) rfl) (.cons (.v _) (.cons (.v _) .nil))
  ·rintro e w' ⟨q,v,he,hd,hm'⟩
   cases hd
   exact ⟨he,hm'.below⟩
 have hdom:(lv,ix)∈fN 2 (aL n):=pU hl hi
 by_cases hall:∃i,i<n∧nH lv ix i=true∧(R i).s≠0
 ·obtain ⟨i,a1,a2,a3⟩:=hall
  obtain ⟨k,b1,⟨b2,b3,b4⟩,b5⟩:=aNa (P:=λi=>i<n∧nH lv ix i=true∧(R i).s≠0) ⟨a1,a2,a3⟩
  have e:bY R n lv ix=Nat.beq k n:=by
   rw [bE]
   have:k≠n:=by omega
   simp only [this,decide_false]
   unfold bY
   rw [List.all_eq_false]
   exact ⟨k,dF.2 b2,by rw [b3,bE];simp [b4]⟩
  rw [e]
  refine key k ?_ (λj hj hs=>?_) (λ_=>b4)
  ·simp only [dP,List.mem_flatMap,dC,bG,fY,dF]
   exact ⟨(lv,ix),hdom,k,.inr ⟨b2,b3⟩,rfl⟩
  ·exact Classical.byContradiction λh=>b5 j hj ⟨by omega,hs,h⟩
 ·have e:bY R n lv ix=Nat.beq n n:=by
   rw [bE]
   simp only [decide_true]
   unfold bY
   rw [kK]
   intro i hi
   rw [dF] at hi
   cases hs:nH lv ix i with
   |false=>rfl
   |true =>
    rw [bE]
    have:(R i).s=0:=Classical.byContradiction λh=>hall ⟨i,hi,hs,h⟩
    simp [this]
  rw [e]
  refine key n ?_ (λj hj hs=>Classical.byContradiction λh=>hall ⟨j,hj,hs,h⟩) (λh=>absurd rfl h)
  simp only [dP,List.mem_flatMap,dC,bG,fY,dF]
  exact ⟨(lv,ix),hdom,n,.inl rfl,rfl⟩
def nR(xs:List aA):Nat->aA:=λi=>xs.getD i dG
def o9(xs:List Bool):Nat->Bool:=λi=>xs.getD i false
def I3(hp:Tr)(x:SV):Option (List aA):=match jH hp 35 x with
 |some (m,cs)=>(match aCz (iA cs []) with
  |some xs=>bif Nat.beq xs.length m&&Nat.blt 0 m then some xs else none
  |none=>none)
 |none=>none
def aA5(hp:Tr)(x:SV):Option (List Bool):=match jH hp 1 x with
 |some (m,cs)=>(match aAH (iA cs []) with
  |some xs=>bif Nat.beq xs.length m&&Nat.blt 0 m then some xs else none
  |none=>none)
 |none=>none
section
variable {E:bX}{r:List aF}{hp:Tr}{nx:Nat}{w:World}{x:SV}{v:Value}
theorem aHy{xs:List aA}(hm:aG E r hp nx w)(hx:aP r x v)(h:I3 hp x=some xs):0<xs.length∧∃g o c,v=.slice (some ⟨g,o,none⟩) xs.length c∧bH w w.heap.size 35 (some ⟨g,o,none⟩) xs.length (K1 xs.length (nR xs)):=by
 unfold I3 at h
 split at h
 ·rename_i m cs hs
  split at h
  ·rename_i ys hy
   cases hq:Nat.beq ys.length m&&Nat.blt 0 m with
   |false=>rw [hq] at h;cases h
   |true =>
    rw [hq] at h;cases h
    rw [bJ,bE,bO,bR,bR] at hq
    obtain ⟨rfl,h0⟩:=hq
    obtain ⟨g,o,c,zs,e1,e2,e3⟩:=aKx hm hx hs h0
    have:=aMM hy (hZ _ e2)
    rw [n6 _ dG] at this
    subst this
    exact ⟨h0,g,o,c,e1,e3⟩
  ·cases h
 ·cases h
theorem aJm{xs:List Bool}(hm:aG E r hp nx w)(hx:aP r x v)(h:aA5 hp x=some xs):0<xs.length∧∃g o c,v=.slice (some ⟨g,o,none⟩) xs.length c∧bH w w.heap.size 1 (some ⟨g,o,none⟩) xs.length (zU xs.length (o9 xs)):=by
 unfold aA5 at h
 split at h
 ·rename_i m cs hs
  split at h
  ·rename_i ys hy
   cases hq:Nat.beq ys.length m&&Nat.blt 0 m with
   |false=>rw [hq] at h;cases h
   |true =>
    rw [hq] at h;cases h
    rw [bJ,bE,bO,bR,bR] at hq
    obtain ⟨rfl,h0⟩:=hq
    obtain ⟨g,o,c,zs,e1,e2,e3⟩:=aKx hm hx hs h0
    have:=aJy hy (hZ _ e2)
    rw [n6 _ false] at this
    subst this
    exact ⟨h0,g,o,c,e1,e3⟩
  ·cases h
 ·cases h
end
def D9:bV:=λargs hp nx=>match args with
 |[x,.v (.int .i64 (.ofNat lv)),.v (.int .i64 (.ofNat ix))]=>(match I3 hp x with
  |some xs=>bif Nat.ble xs.length 20&&(Nat.blt lv 2&&Nat.blt ix (aL xs.length lv)) then some (.v (.bool (bY (nR xs) xs.length lv ix)),⟨⟨.e,0⟩,hp,nx⟩) else none
  |none=>none)
 |_=>none
theorem aBY:bN Xt 38 D9:=by
 intro args hp nx res st hl E r vals w hE ha hm
 have hgl:cG Xt w:=hE▸hm.globs
 unfold D9 at hl
 split at hl
 ·rename_i x lv ix
  split at hl
  ·rename_i xs hx
   cases hq:Nat.ble xs.length 20&&(Nat.blt lv 2&&Nat.blt ix (aL xs.length lv)) with
   |false=>rw [hq] at hl;cases hl
   |true =>
    rw [hq] at hl;cases hl
    simp only [bJ,cY,bO,bR] at hq
    cases ha with|cons d1 t=>cases t with|cons d2 t=>cases t with|cons d3 t =>
     cases t;cases d2;cases d3
     obtain ⟨h0,g,o,c,rfl,hr⟩:=aHy hm d1 hx
     exact ⟨λw'=>bB (by kernel_rfl) _ w',(a9o _ lv ix c g o _ h0 hq.1 hq.2.1 hq.2.2 w hgl hr).mono λe w' ⟨h1,h2⟩=>⟨[],_,h1,.v _,by simpa using hm.grow h2⟩⟩
  ·cases hl
 ·cases hl
