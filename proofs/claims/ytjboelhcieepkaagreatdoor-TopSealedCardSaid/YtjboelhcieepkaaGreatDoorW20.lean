/- A part of the proof of TopSealed. -/
import Derived.Test.YtjboelhcieepkaaGreatDoorVVoC
import Derived.Test.YtjboelhcieepkaaGreatDoorVVoH
import Derived.Test.YtjboelhcieepkaaGreatDoorVVoI
import Derived.Test.YtjboelhcieepkaaGreatDoorVVoJ
import Derived.Test.YtjboelhcieepkaaGreatDoorVVoD
import Derived.Test.YtjboelhcieepkaaGreatDoorVVoE
import Derived.Test.YtjboelhcieepkaaGreatDoorVChB
noncomputable section
set_option maxRecDepth 16384
set_option maxHeartbeats 1000000
namespace Go.Proofs.YtjboelhcieepkaaGreatDoor
open Go.RowKit
section
variable {r:List aF}
theorem aYf{a b:Rp SV}{us:List Value}(h:aD r (cat a b) us):∃u v,us=u++v∧aD r a u∧aD r b v:=by
 by_cases ha:a=.nil
 ·subst ha
  have h':aD r b us:=by cases b<;>exact h
  exact ⟨[],us,rfl,.nil,h'⟩
 ·by_cases hb:b=.nil
  ·subst hb
   have h':aD r a us:=by cases a<;>first|exact absurd rfl ha|exact h
   exact ⟨us,[],by simp,h',.nil⟩
  ·have e:cat a b=.node (dK a) (dK a+dK b) a b:=by
    cases a<;>first|exact absurd rfl ha|(cases b<;>first|exact absurd rfl hb|rfl)
   rw [e] at h
   cases h with|node h1 h2 _ _=>exact ⟨_,_,rfl,h1,h2⟩
theorem aG9{c:Rp SV}{l:List (Rp SV)}{us:List Value}(h:aD r (cB (c::l)) us):∃u v,us=u++v∧aD r c u∧aD r (cB l) v:=aYf h
theorem aAx{x:Value}{l:List (Rp SV)}{us:List Value}(h:aD r (cB (.one (.v x)::l)) us):∃v,us=x::v∧aD r (cB l) v:=by
 obtain ⟨u,v,rfl,h1,h2⟩:=aG9 h
 rw [bQ h1]
 exact ⟨v,rfl,h2⟩
theorem Z6{f:Nat->Rp SV}{g:Nat->List Value}(hf:∀i us,aD r (f i) us->us=g i):∀{l:List Nat} {ps:List (Rp SV)} {us:List Value},aD r (cB (l.map f++ps)) us->∃v,us=l.flatMap g++v∧aD r (cB ps) v
 |[],ps,us,h=>⟨us,rfl,h⟩
 |i::l,ps,us,h=>by
  obtain ⟨u,v,rfl,h1,h2⟩:=aG9 (c:=f i) (l:=l.map f++ps) h
  obtain ⟨v',rfl,h3⟩:=Z6 hf h2
  obtain rfl:=hf i u h1
  exact ⟨v',by rw [List.flatMap_cons,List.append_assoc],h3⟩
theorem aLU{f:Nat->Rp SV}{g:Nat->List Value}:∀{l:List Nat},(∀i,i∈l->aD r (f i) (g i))->aD r (cB (l.map f)) (l.flatMap g)
 |[],_=>.nil
 |i::l,h=>by
  rw [List.flatMap_cons]
  exact aD.cat (h i (by simp)) (aLU λj hj=>h j (by simp [hj]))
theorem aEz(b:Bool)(us:List Value)(h:aD r (.q (.bit b)) us):us=[.int .i64 (aV b:Int)]:=by cases h;rfl
theorem aGJ{a b c:Int}{t:List Nat}{us:List Value}(h:aD r (cB [.one (.v (.int .u8 a)),.one (.v (.int .u32 b)),.one (.v (.int .u64 c)),.arr .u8 32 t]) us):us=[.int .u8 a,.int .u32 b,.int .u64 c]++nv .u8 t∧t.length=32:=by
 obtain ⟨u1,e1,g1⟩:=aAx h
 obtain ⟨u2,e2,g2⟩:=aAx g1
 obtain ⟨u3,e3,g3⟩:=aAx g2
 subst e3 e2 e1
 have h':aD r (.arr .u8 32 t) u3:=g3
 cases h' with|arr ht=>exact ⟨rfl,ht⟩
theorem a7J{a b c:Int}{t:List Nat}(ht:t.length=32):aD r (cB [.one (.v (.int .u8 a)),.one (.v (.int .u32 b)),.one (.v (.int .u64 c)),.arr .u8 32 t]) ([.int .u8 a,.int .u32 b,.int .u64 c]++nv .u8 t) :=
 aD.cat (us:=[.int .u8 a]) (.one (.v _) rfl) (aD.cat (us:=[.int .u32 b]) (.one (.v _) rfl) (aD.cat (us:=[.int .u64 c]) (.one (.v _) rfl) (aD.arr (n:=32) (k:=.u8) ht)))
end
def lL(x:VP)(lp i:Nat):Prop:=i<lp∧0<x.pl.getD (2*i) 0%3
instance (x:VP)(lp i:Nat):Decidable (lL x lp i):=by unfold lL;exact inferInstance
def Rv(x:VP)(lp i:Nat):aA:=if h:lL x lp i∧i<20 then ⟨gA x i%3,i%3,i,Sh.shaF (tgI x i),by omega,λh0=>by have:=h.1.2;unfold gA at h0;omega,by omega,by omega,pS _,rK _⟩ else dG
def Bv(x:VP)(lp i:Nat):List Nat:=if lL x lp i then rA (yA x i) else nD
def Lv(x:VP)(n lp:Nat):Nat->List (Option aQ)
 |0=>qQ (iC n)
 |i+1=>if lL x lp i then (Lv x n lp i).set (2*i+(gA x i%3-1)) (some (.by_ (uH x.el (rA (yA x i)) i))) else Lv x n lp i
def uS(pp:SV)(lp n2:Nat):Prop:=(∃A c,pp=.v (.slice A 0 c)∧lp=0)∨∃c,pp=.s 0 0 lp c∧n2=2*lp
theorem uS.fix{pp:SV}{lp n2:Nat}(h:uS pp lp n2):fX 2 pp:=by
 rcases h with ⟨A,c,rfl,_⟩|⟨c,rfl,_⟩
 ·exact .v _ _
 ·exact .s _ _ _ _ _ (by decide)
theorem aHX{x:VP}{pp sp:SV}(hp:fX 2 pp)(hs:fX 2 sp):xI 2 (vR x pp sp):=.cons (.v _ _) (.cons hp (.cons hs (.cons (.v _ _) (.cons (.v _ _) (.nil _)))))
theorem aHh{a b:Nat}(h:a<b):wS a b=true:=decide_eq_true (by omega)
theorem X2{a b:Nat}(h:¬ a<b):wS a b=false:=decide_eq_false (by omega)
theorem aEo{x:VP}{lp i:Nat}(h:¬ lL x lp i)(r:List aF)(us:List Value)(hd:aD r zR0 us):aD r (.q (.rcd (Rv x lp i))) us:=by
 obtain ⟨rfl,_⟩:=aGJ hd
 have e:Rv x lp i=dG:=by unfold Rv;rw [dif_neg λhh=>h hh.1]
 rw [e]
 exact .q (.rcd dG)
theorem aD6{x:VP}{lp i:Nat}(h:¬ lL x lp i)(r:List aF)(us:List Value)(hd:aD r (.arr .u8 32 nD) us):aD r (.arr .u8 32 (Bv x lp i)) us:=by
 have e:Bv x lp i=nD:=by unfold Bv;rw [if_neg h]
 rw [e];exact hd
section
variable {w:World}{x:VP}{pp sp:SV}{lp n2 n3 n i:Nat}
theorem aUU(t:List Nat):∀m,m<2->lI (0::1::t) m=some m:=by
 intro m hm
 rcases m with _|_|m
 ·rfl
 ·rfl
 ·omega
theorem nT{c:j7}{p q:aB}{obs:List Ob}{t:List Nat}(h:m9 c p=(q,obs,true))(hns:c.ns=0::1::t)(hq:q.st.hp.get 2=some ⟨25,vR x pp sp,0⟩)(hp:fX 2 pp)(hs:fX 2 sp)(ho:∀ob∈obs,ob.Holds (E0 Xt w)):eO w p q :=
 eO.goI aIH (k:=2) h hq (by decide) (aHX hp hs) (by rw [hns];exact aUU t) ho
theorem aWE(h1:1≤n)(h20:n≤20)(hi:i<n)(hpp:uS pp lp n2)(hs:fX 2 sp):eO w (P1 x pp sp n2 n3 n i (Rv x lp) (Bv x lp) (Lv x n lp i)) (P1 x pp sp n2 n3 n (i+1) (Rv x lp) (Bv x lp) (Lv x n lp (i+1))):=by
 have hmem:i∈List.range n:=dF.2 hi
 have hq:∀n2 L,(P1 x pp sp n2 n3 n (i+1) (Rv x lp) (Bv x lp) L).st.hp.get 2=some ⟨25,vR x pp sp,0⟩:=λn2 L=>by kernel_rfl
 by_cases hr:lL x lp i
 ·have hL:Lv x n lp (i+1)=(Lv x n lp i).set (2*i+(gA x i%3-1)) (some (.by_ (uH x.el (rA (yA x i)) i))):=by
   show (if lL x lp i then _ else _)=_
   rw [if_pos hr]
  rw [hL]
  rcases hpp with ⟨A,c,_,h0⟩|⟨c,rfl,rfl⟩
  ·have:=hr.1;omega
  have hlp:i<lp:=hr.1
  obtain ⟨m,hm⟩:∃m,lp=m+(i+1):=⟨lp-(i+1),by omega⟩
  obtain ⟨m2,hm2⟩:∃m2,2*lp=tU m2 i:=⟨2*lp-(2*i+2),by unfold tU;omega⟩
  have e1:SV.s 0 0 lp c=vB m c i:=by unfold vB;rw [hm]
  have o6:0<gA x i%3:=hr.2
  obtain ⟨s,hs1,hs2⟩:∃s,gA x i%3=s∧(s=1∨s=2):=⟨_,rfl,by omega⟩
  have hRC:RC s n:=by
   rcases hs2 with rfl|rfl
   ·exact a2U n h1 h20
   ·exact aSW n h1 h20
  have h:=cW (hRC x m c m2 n3 sp (Rv x lp) (Bv x lp) (Lv x n lp i)) hmem
  rw [hs1]
  rw [<-e1,<-hm2] at h
  refine nT (t:=[2,3,4,12,14,16,902]) h rfl (hq _ _) (.s _ _ _ _ _ (by decide)) hs ?_
  have eR:Rv x lp i=⟨gA x i%3,i%3,i,Sh.shaF (tgI x i),by omega,λh0=>by omega,by omega,by omega,pS _,rK _⟩:=by unfold Rv;rw [dif_pos ⟨hr,by omega⟩]
  intro ob hob
  simp only [obC,bG,cK,or_false] at hob
  rcases hob with rfl|rfl|rfl|rfl|rfl|rfl
  ·rfl
  ·exact aHh (by omega)
  ·show decide ((0:Int)<((gA x i:Nat):Int).tmod 3)=true
   rw [show ((gA x i:Nat):Int).tmod 3=((gA x i%3:Nat):Int) from rfl]
   exact decide_eq_true (by omega)
  ·intro r us hd
   obtain ⟨rfl,ht⟩:=aGJ (a:=((gA x i:Nat):Int).tmod 3) (b:=Int.ofNat (i%3)) (c:=Int.ofNat i) hd
   rw [show ((gA x i:Nat):Int).tmod 3=((gA x i%3:Nat):Int) from rfl,hs1]
   exact a7J ht
  ·intro r us hd
   have e:Bv x lp i=rA (yA x i):=by unfold Bv;rw [if_pos hr]
   show aD r (.arr .u8 32 (Bv x lp i)) us
   rw [e];exact hd
  ·intro r us hd
   obtain ⟨rfl,_⟩:=aGJ (a:=Int.ofNat s) (b:=Int.ofNat (i%3)) (c:=Int.ofNat i) hd
   rw [eR]
   subst hs1
   exact .q (.rcd _)
 ·have hL:Lv x n lp (i+1)=Lv x n lp i:=by
   show (if lL x lp i then _ else _)=_
   rw [if_neg hr]
  rw [hL]
  rcases hpp with ⟨A,c,rfl,rfl⟩|⟨c,rfl,rfl⟩
  ·have h:=cW (aSl n h1 h20 x A c n2 n3 sp (Rv x 0) (Bv x 0) (Lv x n 0 i)) hmem
   refine nT (t:=[2,3,4,5,12,14,902]) h rfl (hq _ _) (.v _ _) hs ?_
   intro ob hob
   simp only [obA,bG,cK,or_false] at hob
   rcases hob with rfl|rfl|rfl|rfl|rfl
   ·rfl
   ·exact X2 (by omega)
   ·rfl
   ·exact aD6 hr
   ·exact aEo hr
  ·by_cases hlp:i<lp
   ·obtain ⟨m,hm⟩:∃m,lp=m+(i+1):=⟨lp-(i+1),by omega⟩
    obtain ⟨m2,hm2⟩:∃m2,2*lp=tU m2 i:=⟨2*lp-(2*i+2),by unfold tU;omega⟩
    have e1:SV.s 0 0 lp c=vB m c i:=by unfold vB;rw [hm]
    have h:=cW (bDD n h1 h20 x m c m2 n3 sp (Rv x lp) (Bv x lp) (Lv x n lp i)) hmem
    rw [<-e1,<-hm2] at h
    refine nT (t:=[2,3,4,5,12,14,902]) h rfl (hq _ _) (.s _ _ _ _ _ (by decide)) hs ?_
    intro ob hob
    simp only [obB,bG,cK,or_false] at hob
    rcases hob with rfl|rfl|rfl|rfl|rfl
    ·rfl
    ·exact aHh (by omega)
    ·show decide ((0:Int)<((gA x i:Nat):Int).tmod 3)=false
     have hz:gA x i%3=0:=by
      have:¬ 0<gA x i%3:=λhh=>hr ⟨hlp,hh⟩
      omega
     rw [show ((gA x i:Nat):Int).tmod 3=((gA x i%3:Nat):Int) from rfl,hz]
     rfl
    ·exact aD6 hr
    ·exact aEo hr
   ·have h:=cW (a3i n h1 h20 x lp c (2*lp) n3 sp (Rv x lp) (Bv x lp) (Lv x n lp i)) hmem
    refine nT (t:=[2,3,4,5,12,14,902]) h rfl (hq _ _) (.s _ _ _ _ _ (by decide)) hs ?_
    intro ob hob
    simp only [obA,bG,cK,or_false] at hob
    rcases hob with rfl|rfl|rfl|rfl|rfl
    ·rfl
    ·exact X2 hlp
    ·rfl
    ·exact aD6 hr
    ·exact aEo hr
theorem aNp(h1:1≤n)(h20:n≤20)(hpp:uS pp lp n2)(hs:fX 2 sp):∀i,i≤n->eO w (P1 x pp sp n2 n3 n 0 (Rv x lp) (Bv x lp) (Lv x n lp 0)) (P1 x pp sp n2 n3 n i (Rv x lp) (Bv x lp) (Lv x n lp i))
 |0,_=>eO.rfl_ w _
 |i+1,h=>(aNp h1 h20 hpp hs i (by omega)).trans (aWE h1 h20 (by omega) hpp hs)
end
section
variable {r:List aF}
theorem aGE{k:Nat}{S:Nat->Bool}{v:Int}(hv:v=(aV (S k):Int))(us:List Value)(h:aD r (vM k S [.one (.v (.int .i64 v))]) us):aD r (lE (k+1) S) us:=by
 obtain ⟨v',e1,g1⟩:=Z6 (f:=λi=>.q (.bit (S i))) (g:=λi=>[.int .i64 (aV (S i):Int)]) (λi us=>aEz (S i) us) h
 obtain ⟨v2,e2,h2⟩:=aAx g1
 subst e2 e1
 have h2':aD r .nil v2:=h2
 cases h2'
 have:=aB4 (r:=r) (k+1) S
 unfold zU at this
 rw [List.range_succ,List.flatMap_append] at this
 rw [hv]
 simpa using this
theorem aQ1{m:Nat}{S:Nat->Bool}{us:List Value}(h:aD r (lE m S) us):us=zU m S:=by
 have h':aD r (cB ((List.range m).map (λi=>.q (.bit (S i)))++[])) us:=by rw [eC];exact h
 obtain ⟨v',rfl,h2⟩:=Z6 (f:=λi=>.q (.bit (S i))) (g:=λi=>[.int .i64 (aV (S i):Int)]) (λi us=>aEz (S i) us) h'
 have h2':aD r .nil v':=h2
 cases h2'
 rw [eC]
 rfl
theorem aQO{m k v:Nat}{S:Nat->Bool}(hv:v=aV (S k))(us:List Value)(h:aD r (lE m S) us):aD r (J8 m S k v) us:=by
 rw [aQ1 h]
 refine aLU λi _=>?_
 show aD r (bif Nat.beq i k then .one (aM v) else .q (.bit (S i))) _
 rw [bE]
 by_cases e:i=k
 ·subst e
  simp only [decide_true,cond_true]
  rw [<-hv]
  exact .one (.v _) rfl
 ·simp only [e,decide_false,cond_false]
  exact .q (.bit (S i))
theorem bD0{m k v:Nat}{S:Nat->Bool}(hv:v=aV (S k))(us:List Value)(h:aD r (J8 m S k v) us):aD r (lE m S) us:=by
 have h':aD r (cB ((List.range m).map (λj=>bif Nat.beq j k then .one (aM v) else .q (.bit (S j)))++[])) us:=by rw [eC];exact h
 obtain ⟨v',rfl,h2⟩:=Z6 (f:=λj=>bif Nat.beq j k then .one (aM v) else .q (.bit (S j))) (g:=λi=>[.int .i64 (aV (S i):Int)]) (λi us hd=>by
  have hd':aD r (bif Nat.beq i k then .one (aM v) else .q (.bit (S i))) us:=hd
  rw [bE] at hd'
  by_cases e:i=k
  ·subst e
   simp only [decide_true,cond_true] at hd'
   rw [<-hv]
   exact bQ hd'
  ·simp only [e,decide_false,cond_false] at hd'
   exact aEz _ _ hd') h'
 have h2':aD r .nil v':=h2
 cases h2'
 rw [eC]
 exact aB4 m S
end
theorem aGS(y:Nat):IntKind.i64.wrap ((y:Int).tmod 2)=(aV (decide (y%2=1)):Int):=by
 rw [show (y:Int).tmod 2=((y%2:Nat):Int) from rfl]
 rcases Nat.mod_two_eq_zero_or_one y with h|h<;>rw [h]<;>rfl
def Sv(x:VP)(ls k:Nat):Bool:=decide (k<ls∧x.sl.getD k 0%2=1)
def Sw(x:VP)(ls n k:Nat):Bool:=if k=aT n-1 then decide (x.ep%2=1) else Sv x ls k
def uE(sp:SV)(ls n3:Nat):Prop:=(∃A c,sp=.v (.slice A 0 c)∧ls=0)∨∃c,sp=.s 1 0 ls c∧n3=ls
theorem uE.fix{sp:SV}{ls n3:Nat}(h:uE sp ls n3):fX 2 sp:=by
 rcases h with ⟨A,c,rfl,_⟩|⟨c,rfl,_⟩
 ·exact .v _ _
 ·exact .s _ _ _ _ _ (by decide)
def pE(n:Nat)(R:Nat->aA)(S:Nat->Bool)(l j:Nat)(L:List (Option aQ)):List (Option aQ):=if qZ n l j R=true then L.set (jE n l+(2*j+aV (S (num n l j)))) (some (.nd (tX n R S l j))) else L
def sI(n:Nat)(R:Nat->aA)(S:Nat->Bool)(l:Nat)(L:List (Option aQ)):Nat->List (Option aQ)
 |0=>L
 |j+1=>pE n R S l j (sI n R S l L j)
def uO(n:Nat)(R:Nat->aA)(S:Nat->Bool)(L:List (Option aQ)):Nat->List (Option aQ)
 |0=>L
 |l+1=>sI n R S l (uO n R S L l) (aL n l)
section
variable {w:World}{x:VP}{pp sp:SV}{lp ls n2 n3 n:Nat}{R:Nat->aA}{B:Nat->List Nat}{L:List (Option aQ)}{S:Nat->Bool}
theorem p12(h1:1≤n)(h20:n≤20)(hp:fX 2 pp)(hs:fX 2 sp):eO w (P1 x pp sp n2 n3 n n R B L) (P2 x pp sp n2 n3 n 0 R B L S):=by
 have h:=aX8 n h1 h20 x pp sp n2 n3 R B L S
 refine nT (x:=x) (t:=[2,3,4,5,6,7,902]) h rfl (by kernel_rfl) hp hs ?_
 intro ob hob
 simp only [bG,cK,or_false] at hob
 subst hob
 rfl
theorem aXV(h1:1≤n)(h20:n≤20){k:Nat}(hk:k<aT n)(hp:fX 2 pp)(hsp:uE sp ls n3):eO w (P2 x pp sp n2 n3 n k R B L (Sv x ls)) (P2 x pp sp n2 n3 n (k+1) R B L (Sv x ls)):=by
 have hmem:k∈List.range (aT n):=dF.2 hk
 have hq:∀n3 sp,(P2 x pp sp n2 n3 n (k+1) R B L (Sv x ls)).st.hp.get 2=some ⟨25,vR x pp sp,0⟩:=λn3 sp=>by kernel_rfl
 have off:¬ k<ls->∀(r:List aF) us,aD r (vM k (Sv x ls) [.one (aM 0)]) us->aD r (lE (k+1) (Sv x ls)) us:=λhkl r us hd=>aGE (v:=0) (by
  have:Sv x ls k=false:=by unfold Sv;exact decide_eq_false λh=>hkl h.1
  rw [this];rfl) us hd
 rcases hsp with ⟨A,c,rfl,rfl⟩|⟨c,rfl,rfl⟩
 ·have h:=cW (aXS n h1 h20 x A c n2 n3 pp R B L (Sv x 0)) hmem
  refine nT (x:=x) (t:=[2,3,4,5,6,7,10]) h rfl (hq _ _) hp (.v _ _) ?_
  intro ob hob
  simp only [aB5,bG,cK,or_false] at hob
  rcases hob with rfl|rfl|rfl
  ·rfl
  ·exact X2 (by omega)
  ·exact off (by omega)
 ·by_cases hkl:k<n3
  ·obtain ⟨m,hm⟩:∃m,n3=m+(k+1):=⟨n3-(k+1),by omega⟩
   have e1:SV.s 1 0 n3 c=spI m c k:=by unfold spI;rw [hm]
   have h:=cW (aRV n h1 h20 x m c n2 m pp R B L (Sv x n3)) hmem
   rw [<-e1,<-hm] at h
   refine nT (x:=x) (t:=[2,3,4,5,6,7,10]) h rfl (hq _ _) hp (.s _ _ _ _ _ (by decide)) ?_
   intro ob hob
   simp only [aKn,bG,cK,or_false] at hob
   rcases hob with rfl|rfl|rfl
   ·rfl
   ·exact aHh (by omega)
   ·intro r us hd
    refine aGE ?_ us hd
    unfold slX
    rw [aGS]
    have:Sv x n3 k=decide (x.sl.getD k 0%2=1):=by unfold Sv;simp [hkl]
    rw [this]
  ·have h:=cW (a5f n h1 h20 x n3 c n2 n3 pp R B L (Sv x n3)) hmem
   refine nT (x:=x) (t:=[2,3,4,5,6,7,10]) h rfl (hq _ _) hp (.s _ _ _ _ _ (by decide)) ?_
   intro ob hob
   simp only [aB5,bG,cK,or_false] at hob
   rcases hob with rfl|rfl|rfl
   ·rfl
   ·exact X2 hkl
   ·exact off hkl
theorem aJB(h1:1≤n)(h20:n≤20)(hp:fX 2 pp)(hsp:uE sp ls n3):∀k,k≤aT n->eO w (P2 x pp sp n2 n3 n 0 R B L (Sv x ls)) (P2 x pp sp n2 n3 n k R B L (Sv x ls))
 |0,_=>eO.rfl_ w _
 |k+1,h=>(aJB h1 h20 hp hsp k (by omega)).trans (aXV h1 h20 (by omega) hp hsp)
theorem yU(h1:1≤n)(h20:n≤20):0<aT n:=by have:=yW (n:=n) (lv:=0) (i:=0) h1 h20 (by omega) (by unfold aL;omega);omega
theorem p23(h1:1≤n)(h20:n≤20)(hp:fX 2 pp)(hs:fX 2 sp):eO w (P2 x pp sp n2 n3 n (aT n) R B L (Sv x ls)) (P3 x pp sp n2 n3 n 0 0 R B L (Sw x ls n)):=by
 have h:=aQ9 n h1 h20 x pp sp n2 n3 R B L (Sv x ls) (Sw x ls n)
 refine nT (x:=x) (t:=[2,3,4,5,6,7,8]) h rfl (by kernel_rfl) hp hs ?_
 intro ob hob
 simp only [bG,cK,or_false] at hob
 rcases hob with rfl|rfl|rfl
 ·rfl
 ·intro r us hd
  have htp:=yU h1 h20
  have e:vM (aT n-1) (Sv x ls) [.one (.v (.int .i64 (Q9 x)))]=vM (aT n-1) (Sw x ls n) [.one (.v (.int .i64 (Q9 x)))]:=by
   unfold vM
   congr 2
   refine vN λi hi=>?_
   rw [dF] at hi
   unfold Sw
   rw [if_neg (by omega)]
  rw [e] at hd
  have hb:=aGE (k:=aT n-1) (S:=Sw x ls n) (v:=Q9 x) (by
   unfold Q9
   rw [aGS]
   unfold Sw
   rw [if_pos rfl]) us hd
  rwa [show aT n-1+1=aT n by omega] at hb
 ·rfl
theorem aTy(h1:1≤n)(h20:n≤20){l j:Nat}(hl:l≤aO n)(hj:j<aL n l)(hp:fX 2 pp)(hs:fX 2 sp):eO w (P3 x pp sp n2 n3 n l j R B L S) (P3 x pp sp n2 n3 n l (j+1) R B (pE n R S l j L) S):=by
 have hmem:j∈List.range (aL n l):=dF.2 hj
 have hq:∀L,(P3 x pp sp n2 n3 n l (j+1) R B L S).st.hp.get 2=some ⟨25,vR x pp sp,0⟩:=λL=>by kernel_rfl
 unfold pE
 by_cases he:qZ n l j R=true
 ·rw [if_pos he]
  obtain ⟨v,hv⟩:∃v,v=aV (S (num n l j)):=⟨_,rfl⟩
  have h:=cW (aQu n l v h1 h20 hl (by rw [hv];have:=vE (S (num n l j));omega) x pp sp n2 n3 R B L S) hmem
  rw [<-hv]
  refine nT (x:=x) (t:=[2,3,4,10,6,7,8]) h rfl (hq _) hp hs ?_
  intro ob hob
  simp only [bG,cK,or_false] at hob
  rcases hob with rfl|rfl|rfl|rfl
  ·rfl
  ·exact he
  ·exact λr us=>aQO hv us
  ·exact λr us=>bD0 hv us
 ·rw [if_neg he]
  rw [jD] at he
  have hlt:l<aO n:=by
   rcases Nat.lt_or_ge l (aO n) with h|h
   ·exact h
   ·obtain rfl:l=aO n:=by omega
    unfold qZ at he
    rw [show Nat.beq (aO n) (aO n)=true from by rw [bE];simp] at he
    cases he
  have h:=cW (aWY n l h1 h20 hlt x pp sp n2 n3 R B L S) hmem
  refine nT (x:=x) (t:=[2,3,4,5,6,7,8]) h rfl (hq _) hp hs ?_
  intro ob hob
  simp only [bG,cK,or_false] at hob
  rcases hob with rfl|rfl
  ·rfl
  ·exact he
theorem aCI(h1:1≤n)(h20:n≤20){l:Nat}(hl:l≤aO n)(hp:fX 2 pp)(hs:fX 2 sp):∀j,j≤aL n l->eO w (P3 x pp sp n2 n3 n l 0 R B L S) (P3 x pp sp n2 n3 n l j R B (sI n R S l L j) S)
 |0,_=>eO.rfl_ w _
 |j+1,h=>(aCI h1 h20 hl hp hs j (by omega)).trans (aTy h1 h20 hl (by omega) hp hs)
theorem aUD(h1:1≤n)(h20:n≤20){l:Nat}(hl:l<aO n)(hp:fX 2 pp)(hs:fX 2 sp):eO w (P3 x pp sp n2 n3 n l (aL n l) R B L S) (P3 x pp sp n2 n3 n (l+1) 0 R B L S):=by
 have h:=aRz n l h1 h20 hl x pp sp n2 n3 R B L S
 refine nT (x:=x) (t:=[2,3,4,5,6,7,8]) h rfl (by kernel_rfl) hp hs ?_
 intro ob hob
 simp only [bG,cK,or_false] at hob
 rcases hob with rfl|rfl
 ·rfl
 ·rfl
theorem aIn(h1:1≤n)(h20:n≤20)(hp:fX 2 pp)(hs:fX 2 sp):∀l,l≤aO n->eO w (P3 x pp sp n2 n3 n 0 0 R B L S) (P3 x pp sp n2 n3 n l 0 R B (uO n R S L l) S)
 |0,_=>eO.rfl_ w _
 |l+1,h=>((aIn h1 h20 hp hs l (by omega)).trans (aCI h1 h20 (by omega) hp hs (aL n l) (aS _))).trans (aUD h1 h20 (by omega) hp hs)
end
def aVq(n:Nat)(el ml rt:List Nat)(A:Option Addr)(m cr:Nat)(ep mk s1 s2 s3:Value):Rp SV:=cB [.one (aM n),.arr .u8 16 el,.arr .u8 32 ml,.one (.v (.slice A m cr)),.arr .u8 32 rt,.one (.v ep),.one (.v mk),.one (.v s1),.one (.v s2),.one (.v s3)]
def aA1(m:Nat)(q:Int)(nm:Nat):Rp SV:=cB [.one (aM m),.one (.v (.int .i64 q)),.one (.gs nm 1)]
def a4c:Rp SV:=cB [.one (aM 0),.one (aM 0),.one (.v (.slice none 0 0))]
def U2(z:Int)(m:Nat):Bool:=decide (z<(m:Int))
def bBY:List uF:=[.r,.r,.l,.r,.b,.b,.l,.r]
def fH(L:List (Option aQ)):HB:=⟨0,.q (.gh 1 0 L),8⟩
structure VD where
 n:Nat
 el:List Nat
 ml:List Nat
 rt:List Nat
 A:Option Addr
 cr:Nat
 ep:Value
 mk_:Value
 s1:Value
 s2:Value
 s3:Value
def VD.row(d:VD)(m:Nat):Rp SV:=aVq d.n d.el d.ml d.rt d.A m d.cr d.ep d.mk_ d.s1 d.s2 d.s3
def PD(d:VD)(m:Nat)(z q:Int)(L:List (Option aQ)):aB :=
 rF 7 bBY [(1,.p 0 0),(2,.p 1 0),(3,.p 2 0),(5,.v (.int .i64 z)),(22,.v (.bool (U2 z m)))]
  [(0,some ⟨40,d.row m,0⟩),(1,some ⟨53,a4c,0⟩),(2,some ⟨53,aA1 m q 3,0⟩),(3,some (fH L))] 4
def aUg:List (FuncId×bV):=stops [51,52,25] []
def HD:Hk:=cZ Xt (cT aUg) 14 6
theorem E1:bZ Xt HD:=eH aH (jQ λp h=>by simp at h) 6
def U1:List Nat:=[1,2,3,5,22]
def aDP(m k:Nat):SV:=.t [.a (aA1 m 0 k),bM]
def aZW(m:Nat)(L:List (Option aQ)):j7:=⟨⟨[22],[],0⟩,[.c [] (aDP m) [fH L]],U1,[0,1,3,2],0⟩
theorem aRS(d:VD)(m:Nat)(L:List (Option aQ)):goV HD 12 (aZW m L) (eA Xt 7 [.a (d.row m)] .e 0)=(PD d m 0 0 L,[.c 51 [aM m] [] [] 2 (aDP m 2) [fH L]],true):=by kernel_rfl
def aQN:j7:=⟨⟨[22],[],0⟩,[.b true,.c [] (λ_=>.a (uV none)) []],U1,[0,1,2,3],0⟩
def aBq(d:VD)(m:Nat)(z:Int):List SV:=[.a (.one (.v (.slice d.A m d.cr))),.v (.int .i64 z)]
theorem a27(d:VD)(m:Nat)(z q:Int)(L:List (Option aQ)):goV HD 12 aQN (PD d m z q L)=(PD d m (IntKind.i64.wrap (z+1)) q L,[.t (U2 z m) true,.c 52 (aBq d m z) [] [] 4 (.a (uV none)) []],true):=by kernel_rfl
def aGh(m:Nat)(q:Int)(k:Nat):SV:=.t [.a (aA1 m (IntKind.i64.wrap (q+1)) k),bM]
def goW(m:Nat)(q:Int)(x:aQ)(L':List (Option aQ))(p:aB):Option (aB×List Ob×o7×List Ob×Bool):=match aE7 (cL ⟨[22],[36],0⟩ HD Xt 12 [.b true,.c [] (λ_=>.a (uV (some x))) []] p).1 with
 |some r=>(match aFR [3,5] [3] (aGh m q) [fH L'] (gQ ⟨[22],[],0⟩ HD Xt 12 r) with
  |some (s,ob)=>some (nJ U1 [0,1,2,6] 0 (cL ⟨[22],[],0⟩ HD Xt 12 [] s).1,(cL ⟨[22],[36],0⟩ HD Xt 12 [.b true,.c [] (λ_=>.a (uV (some x))) []] p).2,ob,(cL ⟨[22],[],0⟩ HD Xt 12 [] s).2,oT (cL ⟨[22],[],0⟩ HD Xt 12 [] s).1.k)
  |none=>none)
 |none=>none
def wrA(m:Nat)(z q:Int)(x:aQ):List SV:=[.a (aA1 m q 3),.v (.int .i64 z),.w 5 x.n]
theorem a9I(d:VD)(m:Nat)(z q:Int)(x:aQ)(L L':List (Option aQ)):goW m q x L' (PD d m z q L)=some (PD d m (IntKind.i64.wrap (z+1)) (IntKind.i64.wrap (q+1)) L',
 [.t (U2 z m) true,.c 52 (aBq d m z) [] [] 4 (.a (uV (some x))) []],⟨25,wrA m z q x,[3,5],[some (fH L),some ⟨5,.arr .u8 x.n x.l,7⟩],[3],6,aGh m q 6,[fH L']⟩,[],true):=by kernel_rfl
def aMd(x:Option (SV×St)):List (Rp SV)×Option HB:=match x with
 |some (.a c,st)=>(iA c [],st.hp.get 3)
 |_=>([],none)
def aGC(p:aB):aB×List Ob:=cL ⟨[22],[],0⟩ HD Xt 12 [.b false] p
theorem aRU(d:VD)(m:Nat)(z q:Int)(L:List (Option aQ)):(aMd (dS Xt 7 (aGC (PD d m z q L)).1),(aGC (PD d m z q L)).2)=(([.one (aM m),.one (.v (.int .i64 q)),.one (.gs 3 1)],some (fH L)),[.t (U2 z m) false]):=by kernel_rfl
def aHT(x:Option (SV×St)):Option (SV×Option HB×Option (TypeId×List (Rp SV)×Nat)):=match x with
 |some (y,st)=>some (y,st.hp.get 3,(st.hp.get 1).map λb=>(b.T,iA b.cs [],b.k))
 |none=>none
def aIV(m:Nat):Option (SV×Option HB×Option (TypeId×List (Rp SV)×Nat)):=some (.t [.a (cB [.one (aM m),.one (aM 0),.one (.s 3 0 1 1)]),bM],some ⟨240,.one (.p 1 0),0⟩,some (242,List.replicate 64 (.one (.v (.pointer none))),0))
theorem aXw:(List.range 20).map (λn=>aHT (eP H0 Xt 14 51 [aM (aW (n+1))] .e 0))=(List.range 20).map λn=>aIV (aW (n+1)):=by kernel_rfl
theorem aG.addO{E:bX}{r:List aF}{hp:Tr}{nx:Nat}{w w':World}(h:aG E r hp nx w)(hb:Below w.heap.size w w')(L:aF)(b:HB)(hL:∀k,gJ b L k->w.heap.size≤k∨(¬ E.U k∧∀i c M,hp.get i=some c->r[i]?=some M->¬ gJ c M k))(hk:eN E (r++[L]) L b w')(hkk:b.k<2∨5≤b.k):aG E (r++[L]) (hp.put nx b) (nx+1) w':=by
 have hg:=h.grow hb
 have hnew:(r++[L])[nx]?=some L:=by rw [<-h.len];simp
 have old:∀n b',(hp.put nx b).get n=some b'->n≠nx->hp.get n=some b'∧n<r.length:=by
  intro n b' hn hne
  rw [bC.get_put,if_neg hne] at hn
  obtain ⟨M,hM,_⟩:=h.blk n b' hn
  exact ⟨hn,zL hM⟩
 refine ⟨by simp [h.len],λn b' hn=>?_,λn m b1 c1 L1 M1 hn hm hne hk1 hL1 hM1 k hc1 hc2=>?_,hg.below,hg.fz,λn b' M hn hk' hM k hc hu=>?_,hg.up,λn b' M hn hk' hk5 hM=>?_,hg.rlt,h.glob⟩
 ·by_cases hne:n=nx
  ·subst hne
   rw [bC.get_put,if_pos rfl] at hn;cases hn
   exact ⟨L,hnew,hk⟩
  ·obtain ⟨h1,h2⟩:=old n b' hn hne
   obtain ⟨M,hM,hk'⟩:=hg.blk n b' h1
   exact ⟨M,jK _ hM,hk'.move [L] (λ_ _=>rfl) (aS _)⟩
 ·by_cases h1:n=nx
  ·subst h1
   rw [hnew] at hL1;cases hL1
   rw [bC.get_put,if_pos rfl] at hn;cases hn
   obtain ⟨h3,h4⟩:=old m c1 hm (Ne.symm hne)
   rcases hL k hc1 with h5|⟨_,h5⟩
   ·have:=h.covOf h3 (hO hM1 h4) hc2
    omega
   ·exact h5 m c1 M1 h3 (hO hM1 h4) hc2
  ·obtain ⟨h3,h4⟩:=old n b1 hn h1
   have h5:=hO hL1 h4
   by_cases h2:m=nx
   ·subst h2
    rw [hnew] at hM1;cases hM1
    rw [bC.get_put,if_pos rfl] at hm;cases hm
    rcases hL k hc2 with h6|⟨_,h6⟩
    ·have:=h.covOf h3 h5 hc1
     omega
    ·exact h6 n b1 L1 h3 h5 hc1
   ·obtain ⟨h6,h7⟩:=old m c1 hm h2
    exact h.sep n m b1 c1 L1 M1 h3 h6 hne hk1 h5 (hO hM1 h7) k hc1 hc2
 ·by_cases hne:n=nx
  ·subst hne
   rw [hnew] at hM;cases hM
   rw [bC.get_put,if_pos rfl] at hn;cases hn
   rcases hL k hc with h3|⟨h3,_⟩
   ·have:=(h.fz _ hu).1
    have:=h.up
    omega
   ·exact h3 hu
  ·obtain ⟨h4,h5⟩:=old n b' hn hne
   exact h.far n b' M h4 hk' (hO hM h5) k hc hu
 ·by_cases hne:n=nx
  ·subst hne
   rw [bC.get_put,if_pos rfl] at hn;cases hn;omega
  ·obtain ⟨h4,h5⟩:=old n b' hn hne
   exact h.old n b' M h4 hk' hk5 (hO hM h5)
theorem aWP(n:Nat)(h1:1≤n)(h20:n≤20)(w:World)(hg:cG Xt w):Calls Xt.P 51 #[.int .i64 (aW n:Int)] w λe w'=>∃g,e=.returned (.tuple #[.agg #[.int .i64 (aW n:Int),.int .i64 0,.slice (some ⟨g,0,none⟩) 1 1],.int .i64 0])∧w.heap.size≤g∧g<w'.heap.size ∧
 uA w' g (λj=>w.heap.size≤j∧j<w'.heap.size) (List.replicate (aW n) none)∧Below w.heap.size w w':=by
 obtain ⟨m,rfl⟩:∃m,n=m+1:=⟨n-1,by omega⟩
 have h:=cW aXw (dF.2 (show m<20 by omega))
 unfold aHT aIV at h
 split at h
 ·rename_i y st hc
  simp only [b6,cH] at h
  obtain ⟨rfl,e3,e1⟩:=h
  obtain ⟨b1,hb1,e1⟩:=dE.1 e1
  simp only [cH] at e1
  obtain ⟨eT,eR,eK⟩:=e1
  refine (u5 (vals:=[.int .i64 (aW (m+1):Int)]) aH aDw hc (.cons (.v _) .nil) hg).mono λe w' ⟨r,v,he,hd,hm⟩=>?_
  obtain ⟨L3,hL3,u3,hd3,⟨_,hge3,hb3,hblk3⟩|⟨hbad,_⟩|⟨hbad,_⟩⟩:=hm.blk 3 _ e3
  ·obtain ⟨L1,hL1,u1,hd1,⟨_,hge1,hbb1,hblk1⟩|⟨hbad,_⟩|⟨hbad,_⟩⟩:=hm.blk 1 _ hb1
   ·have hf:=hZ _ hd1
    rw [eR] at hf
    have hu1:u1=List.replicate 64 (.pointer none):=by
     have key:∀(k:Nat) (us:List Value),cE r (List.replicate k (.one (.v (.pointer none)))) us->us=List.replicate k (.pointer none):=by
      intro k
      induction k with
      |zero=>intro us h;cases h;rfl
      |succ k ih=>intro us h;cases h with|cons h t=>rw [bQ h,ih _ t];rfl
     exact key 64 _ hf
    subst hu1
    cases hd3 with|one hd3 _=>cases hd3 with|p hq1 =>
     rw [hL1] at hq1
     cases hq1
     refine ⟨L3.g,?_,hge3,hblk3.lt,⟨L1.g,?_,⟨hge1,hblk1.lt⟩,List.replicate 64 none,by simp,λk y hy=>?_,λk x hx=>?_⟩,hm.below⟩
     ·cases hd with|t d=>cases d with|cons d1 d2=>cases d2 with|cons d2 d3 =>
       cases d3;cases d2
       cases d1 with|a d1 =>
        have d1':aD r (.node 1 3 (.one (aM (aW (m+1)))) (.node 1 2 (.one (aM 0)) (.one (.s 3 0 1 1)))) _:=d1
        cases d1' with|node p1 p2 _ _=>cases p2 with|node p2 p3 _ _=>cases p3 with|one p3 _=>cases p3 with|s hq3 =>
         rw [hL3] at hq3
         cases hq3
         rw [bQ p1,bQ p2,hb3] at he
         exact he
     ·rw [hblk3.cell,hbb1];rfl
     ·have hk:k<64:=by have:=(rI.1 hy).1;simpa using this
      rw [hblk1.cell]
      simp only [List.getElem?_toArray]
      rw [List.getElem?_replicate,if_pos hk] at hy ⊢
      cases hy
      rfl
     ·have hx':x=none:=by
       have:=List.mem_of_getElem? hx
       exact List.eq_of_mem_replicate this
      subst hx'
      split
      ·rename_i q hq
       have:=List.mem_of_getElem? hq
       have:=List.eq_of_mem_replicate this
       cases this
      ·rfl
   ·rw [eK] at hbad;cases hbad
   ·rw [eK] at hbad;exact absurd hbad (by decide)
  ·cases hbad
  ·exact absurd hbad (by show ¬ 2≤0;decide)
 ·cases h
theorem bEr{N:Nat}{w w':World}{g:Nat}{cv:Nat->Prop}{l:List (Option aQ)}(h:lV N w g cv l)(hb:Below w.heap.size w w')(hg:g<w.heap.size)(hcv:∀j,cv j->j<w.heap.size):lV N w' g cv l :=
 aGX N w w' g cv l h (hb.block g hg) λk hk=>hb.block k (hcv k hk)
structure aBS(w:World)(g:Nat)(L:List (Option aQ)) where
 N:Nat
 cv:Nat->Prop
 hN:N≤1000
 hg:g<w.heap.size
 hcv:∀j,cv j->j<w.heap.size
 hr:lV N w g cv L
def iZ(L:List (Option aQ)):Prop:=∀(k:Nat) (x:aQ),L[k]?=some (some x)->x.n=32∨x.n=137∨x.n=185
def jF(m:Nat)(L:List (Option aQ))(i:Nat):List (Option aQ):=(List.range m).map λk=>if k<i then (L[k]?).getD none else none
theorem I2{m:Nat}{L:List (Option aQ)}{i k:Nat}(h:k<m):(jF m L i)[k]?=some (if k<i then (L[k]?).getD none else none):=by
 unfold jF
 rw [jC,rJ h]
 rfl
theorem S9{m:Nat}{L:List (Option aQ)}{i:Nat}:(jF m L i).length=m:=by simp [jF]
theorem bEt{m:Nat}{L:List (Option aQ)}{i:Nat}(h:(L[i]?).getD none=none):jF m L (i+1)=jF m L i:=by
 unfold jF
 refine vN λk _=>?_
 by_cases e:k=i
 ·subst e;simp [h]
 ·by_cases h2:k<i
  ·rw [if_pos h2,if_pos (by omega)]
  ·rw [if_neg h2,if_neg (by omega)]
theorem bBH{m:Nat}{L:List (Option aQ)}{i:Nat}{x:aQ}(hi:i<m)(h:(L[i]?).getD none=some x):jF m L (i+1)=(jF m L i).set i (some x):=by
 apply List.ext_getElem?
 intro k
 by_cases hk:k<m
 ·rw [I2 hk]
  by_cases e:k=i
  ·subst e
   rw [List.getElem?_set_self (by rw [S9];exact hk),if_pos (by omega),h]
  ·rw [List.getElem?_set_ne (by omega),I2 hk]
   by_cases h2:k<i
   ·rw [if_pos h2,if_pos (by omega)]
   ·rw [if_neg h2,if_neg (by omega)]
 ·rw [fA (by rw [S9];omega),fA (by rw [List.length_set,S9];omega)]
theorem aQg{m:Nat}{L:List (Option aQ)}:jF m L 0=List.replicate m none:=by
 apply List.ext_getElem?
 intro k
 by_cases hk:k<m
 ·rw [I2 hk,List.getElem?_replicate,if_pos hk];simp
 ·rw [fA (by rw [S9];omega),fA (by simp;omega)]
theorem a5G{m:Nat}{L:List (Option aQ)}(h:L.length=m):jF m L m=L:=by
 apply List.ext_getElem?
 intro k
 by_cases hk:k<m
 ·rw [I2 hk,if_pos hk,eZ (by omega)];rfl
 ·rw [fA (by rw [S9];omega),fA (by omega)]
section
variable {w:World}{n gr:Nat}{L:List (Option aQ)}{d:VD}
theorem a4H(h1:1≤n)(h20:n≤20):o4 (E0 Xt w) 51 [aM (aW n)] [] [] 2 (aDP (aW n) 2) [fH (List.replicate (aW n) none)]:=by
 intro r vals w1 hp ha hm _
 refine ⟨λw'=>bB (by kernel_rfl) _ w',?_⟩
 cases ha with|cons d1 t =>
  cases t;cases d1
  refine (aWP n h1 h20 w1 hm.globs).mono ?_
  rintro e w' ⟨g,rfl,hge,hlt,hd,hb⟩
  have hm':=J9 (T:=0) (t:=1) (N:=0) hm rfl hb hge hlt hd
  have hLn:(r++[(⟨g,0,0,none,λk=>w1.heap.size≤k∧k<w'.heap.size⟩:aF)])[2]?=some ⟨g,0,0,none,λk=>w1.heap.size≤k∧k<w'.heap.size⟩:=by rw [<-hm.len];simp
  refine ⟨[⟨g,0,0,none,λk=>w1.heap.size≤k∧k<w'.heap.size⟩],_,rfl,?_,hm'⟩
  refine .t (.cons (.a (vs:=[.int .i64 (aW n:Int),.int .i64 0,.slice (some ⟨g,0,none⟩) 1 1]) ?_) (.cons (.v _) .nil))
  exact .node (us:=[.int .i64 (aW n:Int)]) (.one (.v _) rfl) (.node (us:=[.int .i64 0]) (.one (.v _) rfl) (.one (.gs hLn (aS 1)) rfl) rfl rfl) rfl rfl
theorem aJM(hd:d.A=some ⟨gr,0,none⟩)(hr:aBS w gr L){m k:Nat}(hm1:m≤1000)(hk:k<m){x:Option aQ}(hx:L[k]?=some x):o4 (E0 Xt w) 52 (aBq d m (k:Int)) [] [] 4 (.a (uV x)) []:=by
 intro r vals w1 hp ha hm _
 refine ⟨λw'=>bB (by kernel_rfl) _ w',?_⟩
 have hb:Below w.heap.size w w1:=hm.below
 have hv:vals=[.agg #[.slice (some ⟨gr,0,none⟩) m d.cr],.int .i64 (k:Int)]:=by
  unfold aBq at ha
  rw [hd] at ha
  cases ha with|cons d1 t=>cases t with|cons d2 t =>
   cases t;cases d2
   cases d1 with|a d1=>rw [bQ d1]
 rw [hv]
 refine (a8m hr.N gr m d.cr k hr.cv L x hk hm1 hr.hN hx w1 (eQ hr.hg hb.size) (λj hj=>eQ (hr.hcv j hj) hb.size) (bEr hr.hr hb hr.hg hr.hcv)).mono ?_
 rintro e w' ⟨rfl,h2⟩
 exact ⟨[],_,rfl,.a (aT0 _ x),by have:=hm.grow h2;rw [eC];exact this⟩
theorem aWZ{m k:Nat}{q:Int}{x:aQ}{L:List (Option aQ)}(hk:k<56)(hkm:k<m)(hx:x.n=32∨x.n=137∨x.n=185)(hl:L[k]?=some none):tJ (E0 Xt w) 25 (wrA m (k:Int) q x) [3,5] [some (fH L),some ⟨5,.arr .u8 x.n x.l,7⟩] [3] 6 (aGh m q 6) [fH (L.set k (some x))]:=by
 intro r vals w1 hp ha hm hbs
 refine ⟨λw'=>bB (by kernel_rfl) _ w',?_⟩
 have hbs':[jW (hp.get 3),jW (hp.get 5)]=[some (fH L),some ⟨5,.arr .u8 x.n x.l,7⟩]:=hbs
 simp only [List.cons.injEq,and_true] at hbs'
 obtain ⟨e3,e5⟩:=hbs'
 have hg3:hp.get 3=some (fH L):=by
  cases h3:hp.get 3 with
  |none=>rw [h3] at e3;cases e3
  |some b =>
   rw [h3] at e3
   have e:oF b=fH L:=jR e3
   have h8:b.k=8:=by have:=congrArg HB.k e;exact this
   rw [aFe h8] at e
   rw [e]
 obtain ⟨b5,hb5,eb5⟩:∃b,hp.get 5=some b∧oF b=⟨5,.arr .u8 x.n x.l,7⟩:=by
  cases h5:hp.get 5 with
  |none=>rw [h5] at e5;cases e5
  |some b=>rw [h5] at e5;exact ⟨b,rfl,jR e5⟩
 obtain ⟨L5,hL5,hB5⟩:=hm.blk 5 b5 hb5
 have hB5':=Q2 hB5
 rw [eb5] at hB5'
 obtain ⟨v5,hd5,hc5⟩:=hB5'
 have hv5:v5=nv .u8 x.l:=fJ hd5
 subst hv5
 obtain ⟨hlt5,hcell5⟩:L5.g<w1.heap.size∧∀j v,(nv .u8 x.l)[j]?=some v->w1.cell? ⟨L5.g,L5.b+j,none⟩=some v:=by
  rcases hc5 with ⟨h,_⟩|⟨h,_⟩|⟨_,h1,h2,_⟩
  ·cases h
  ·cases h
  ·exact ⟨h1,h2⟩
 obtain ⟨mm,hmk⟩:∃mm,m=mm+(k+1):=⟨m-(k+1),by omega⟩
 cases ha with|cons d1 t=>cases t with|cons d2 t=>cases t with|cons d3 t =>
  cases t;cases d2
  cases d3 with|w hq5 hc5l =>
   rw [hL5] at hq5
   cases hq5
   cases d1 with|a d1 =>
    have d1':aD r (.node 1 3 (.one (aM m)) (.node 1 2 (.one (.v (.int .i64 q))) (.one (.gs 3 1)))) _:=d1
    cases d1' with|node p1 p2 _ _=>cases p2 with|node p2 p3 _ _=>cases p3 with|one p3 _=>cases p3 with|@gs _ _ c3 L3 hq3 hc3 =>
     obtain ⟨hd,hg3l,hcv3⟩:=sZ hm rfl hg3 hq3
     rw [bQ p1,bQ p2]
     have hcall:=aM4 k mm x.n hk hx w1 hm.globs L3.g c3 hc3 hg3l L3.cv hcv3 L hd hl x rfl L5.g L5.b L5.c hc5l ⟨by rw [aZ,x.hl,Nat.mul_one],λ_=>⟨_,rfl,hlt5,λj u hu=>by rw [eX];exact hcell5 j u hu⟩⟩ q
     rw [<-hmk] at hcall
     refine hcall.mono ?_
     rintro e w' ⟨g',hge,hlt,rfl,hdk,hb⟩
     have hm1:=hm.del 3
     have hown3:∀j,L3.cv j->(E0 Xt w).w0.heap.size≤j∧∀(i:Nat) (c:HB) (M:aF),(hp.del 3).get i=some c->r[i]?=some M->¬ gJ c M j:=by
      intro j hj
      obtain ⟨L3',hL3',vs3,_,hc3'⟩:=hm.blk 3 _ hg3
      rw [hq3] at hL3';cases hL3'
      refine ⟨?_,λi c M hc hM hcov=>?_⟩
      ·rcases hc3' with ⟨h,_⟩|⟨h,_⟩|⟨_,_,_,h4⟩
       ·cases h
       ·cases h
       ·obtain ⟨t',N',l',_,h5,_⟩:=h4.2.2.2 rfl
        exact (h5 j hj).2
      ·rw [bC.get_del] at hc
       by_cases hi3:i=3
       ·rw [if_pos hi3] at hc;cases hc
       ·rw [if_neg hi3] at hc
        exact hm.sep 3 i _ c L3 M hg3 hc (λh=>hi3 h.symm) (by show ¬ 8=2;decide) hq3 hM j (.inr ⟨rfl,hj⟩) hcov
     refine ⟨[⟨g',0,0,none,λj=>L3.cv j∨(w1.heap.size≤j∧j<w'.heap.size)⟩],_,rfl,?_,?_⟩
     ·have hLn:(r++[(⟨g',0,0,none,λj=>L3.cv j∨(w1.heap.size≤j∧j<w'.heap.size)⟩:aF)])[6]?=some ⟨g',0,0,none,λj=>L3.cv j∨(w1.heap.size≤j∧j<w'.heap.size)⟩:=by rw [<-hm.len];simp
      refine .t (.cons (.a (vs:=[.int .i64 (m:Int),.int .i64 (IntKind.i64.wrap (q+1)),.slice (some ⟨g',0,none⟩) 1 1]) ?_) (.cons (.v _) .nil))
      exact .node (us:=[.int .i64 (m:Int)]) (.one (.v _) rfl) (.node (us:=[.int .i64 (IntKind.i64.wrap (q+1))]) (.one (.v _) rfl) (.one (.gs hLn (aS 1)) rfl) rfl rfl) rfl rfl
     ·have hw1:(E0 Xt w).w0.heap.size≤w1.heap.size:=hm.below.size
      refine hm1.addO (nx:=6) hb ⟨g',0,0,none,λj=>L3.cv j∨(w1.heap.size≤j∧j<w'.heap.size)⟩ (fH (L.set k (some x))) (λj hj=>?_) ⟨[],.q (.gh 1 0 _),.inr (.inr ⟨by show 2≤8;decide,hlt,λj v hv=>by simp at hv,⟨λh=>absurd h (by show ¬ 8=5;decide),λh=>absurd h (by show ¬ 8=6;decide),λ_=>bI hw1 hge,λ_=>⟨1,0,_,rfl,λj hj=>?_,hdk⟩⟩⟩)⟩ (.inr (by show 5≤8;decide))
      ·rcases hj with rfl|⟨_,hj|hj⟩
       ·exact .inl hge
       ·exact .inr ⟨λhu=>hm.far 3 _ L3 hg3 (.inr (by show 5≤8;decide)) hq3 j (.inr ⟨rfl,hj⟩) hu,(hown3 j hj).2⟩
       ·exact .inl hj.1
      ·rcases hj with hj|hj
       ·exact ⟨eQ (hcv3 j hj) hb.size,(hown3 j hj).1⟩
       ·exact ⟨hj.2,bI hw1 hj.1⟩
end
theorem eO.goW{w:World}{m:Nat}{q0:Int}{x:aQ}{L':List (Option aQ)}{p q:aB}{obs:List Ob}{ob:o7}(h:goW m q0 x L' p=some (q,obs,ob,[],true))(ho:∀ob∈obs,ob.Holds (E0 Xt w))(hob:ob.Holds (E0 Xt w)):eO w p q:=by
 intro Q0 h0 hq
 unfold Go.Proofs.YtjboelhcieepkaaGreatDoor.goW at h
 split at h
 ·rename_i r hr
  split at h
  ·rename_i s ob' hs
   simp only [b6,cH] at h
   obtain ⟨e1,e2,e3,e4,e5⟩:=h
   subst e3
   refine jG (S:=⟨[22],[36],0⟩) (E:=E0 Xt w) aH E1 h0 12 _ (λob hob=>ho ob (e2▸hob)) ?_
   refine bDL (E:=E0 Xt w) rfl hr ?_
   refine jP (S:=⟨[22],[],0⟩) (E:=E0 Xt w) aH E1 h0 12 ?_
   refine aRY (E:=E0 Xt w) hs hob ?_
   refine jG (S:=⟨[22],[],0⟩) (E:=E0 Xt w) aH E1 h0 12 [] (λob hob=>nomatch (show ob∈([]:List Ob) from hob)) ?_
   obtain ⟨pe,hpe⟩:∃pe,pe=(cL ⟨[22],[],0⟩ HD Xt 12 [] s).1:=⟨_,rfl⟩
   show Xp (E0 Xt w) [] Q0 (cL ⟨[22],[],0⟩ HD Xt 12 [] s).1
   rw [<-hpe] at e1 e5 ⊢
   have h4:Xp (E0 Xt w) [] Q0 (C2 [0,1,2,6] pe):=aEn U1 [0,1,2,6] 0 e5 (by
    have:aB1 U1 [0,1,2,6] 0 (C2 [0,1,2,6] pe)=q:=e1
    rw [this];exact hq)
   intro r2 vs w' Q hr2 hs2 hm hk
   exact h4 r2 vs w' Q hr2 hs2 (aA2 hm [0,1,2,6]) hk
  ·cases h
 ·cases h
theorem a5r{i:Nat}(h:i<1000):IntKind.i64.wrap ((i:Int)+1)=((i+1:Nat):Int):=by rw [IntWalk.i64_in _ (by omega)];omega
section
variable {w:World}{n gr:Nat}{L:List (Option aQ)}{d:VD}
theorem aAl{n:Nat}(h1:1≤n)(h20:n≤20):aW n≤56:=(X6 (lv:=0) (ix:=0) (s:=0) h1 h20 (by omega) (by unfold aL;omega) (by omega)).2
def lN(L:List (Option aQ)):Nat->Int
 |0=>0
 |i+1=>match (L[i]?).getD none with
  |none=>lN L i
  |some _=>IntKind.i64.wrap (lN L i+1)
theorem aOc(h1:1≤n)(h20:n≤20)(hd:d.A=some ⟨gr,0,none⟩)(hr:aBS w gr L)(hL:L.length=aW n)(hlen:iZ L):∀i,i≤aW n->eO w (PD d (aW n) 0 0 (jF (aW n) L 0)) (PD d (aW n) (i:Int) (lN L i) (jF (aW n) L i))
 |0,_=>eO.rfl_ w _
 |i+1,hi=>by
  have hq:=aOc h1 h20 hd hr hL hlen i (by omega)
  obtain ⟨q,hqq⟩:∃q,q=lN L i:=⟨_,rfl⟩
  rw [<-hqq] at hq
  have h56:=aAl h1 h20
  have hz:U2 (i:Int) (aW n)=true:=decide_eq_true (by omega)
  have hwz:=a5r (show i<1000 by omega)
  cases hx:(L[i]?).getD none with
  |none =>
   have hxi:L[i]?=some none:=by
    rw [eZ (show i<L.length by omega)] at hx ⊢
    exact congrArg some hx
   have h:=a27 d (aW n) (i:Int) q (jF (aW n) L i)
   rw [hwz] at h
   rw [show lN L (i+1)=q from by rw [hqq];show (match (L[i]?).getD none with|none=>lN L i|some _=>IntKind.i64.wrap (lN L i+1))=_;rw [hx]]
   refine hq.trans ?_
   rw [bEt hx]
   refine eO.go E1 h λob hob=>?_
   simp only [bG,cK,or_false] at hob
   rcases hob with rfl|rfl
   ·exact hz
   ·exact aJM hd hr (by omega) (by omega) hxi
  |some x =>
   have hxi:L[i]?=some (some x):=by
    rw [eZ (show i<L.length by omega)] at hx ⊢
    exact congrArg some hx
   have h:=a9I d (aW n) (i:Int) q x (jF (aW n) L i) ((jF (aW n) L i).set i (some x))
   rw [hwz] at h
   rw [show lN L (i+1)=IntKind.i64.wrap (q+1) from by rw [hqq];show (match (L[i]?).getD none with|none=>lN L i|some _=>IntKind.i64.wrap (lN L i+1))=_;rw [hx]]
   refine hq.trans ?_
   rw [bBH (by omega) hx]
   refine eO.goW h (λob hob=>?_) ?_
   ·simp only [bG,cK,or_false] at hob
    rcases hob with rfl|rfl
    ·exact hz
    ·exact aJM hd hr (by omega) (by omega) hxi
   ·exact aWZ (by omega) (by omega) (hlen i x hxi) (by rw [I2 (by omega),if_neg (by omega)])
theorem aUV(h1:1≤n)(h20:n≤20)(hd:d.A=some ⟨gr,0,none⟩)(hr:aBS w gr L)(hL:L.length=aW n)(hlen:iZ L)(hg:cG Xt w)(vs:List Value)(hv:aD [] (d.row (aW n)) vs):
 Calls Xt.P 7 #[.agg vs.toArray] w λe w'=>∃g c,∃hk:mT w' g c L,e=.returned (.agg #[.int .i64 (aW n:Int),.int .i64 (lN L (aW n)),.slice (some ⟨g,0,none⟩) 1 c])∧w.heap.size≤g∧(∀j,hk.cv j->w.heap.size≤j)∧Below w.heap.size w w':=by
 have h56:=aAl h1 h20
 have hq:=aOc (w:=w) h1 h20 hd hr hL hlen (aW n) (aS _)
 obtain ⟨q,hqq⟩:∃q,q=lN L (aW n):=⟨_,rfl⟩
 rw [<-hqq] at hq ⊢
 have h0:=aRS d (aW n) (jF (aW n) L 0)
 have hs0:eO w (eA Xt 7 [.a (d.row (aW n))] .e 0) (PD d (aW n) 0 0 (jF (aW n) L 0)):=by
  refine eO.go E1 h0 λob hob=>?_
  simp only [bG,cK,or_false] at hob
  subst hob
  rw [aQg]
  exact a4H h1 h20
 have hseg:=hs0.trans hq
 have he:=aRU d (aW n) (aW n:Int) q (jF (aW n) L (aW n))
 rw [a5G hL] at he hseg
 simp only [cH] at he
 obtain ⟨e1,e2⟩:=he
 unfold aMd at e1
 split at e1
 ·rename_i c st hfin
  simp only [cH] at e1
  obtain ⟨e3,e4⟩:=e1
  cases hent:entryS Xt.P 7 with
  |none=>unfold dS at hfin;rw [hent] at hfin;cases hfin
  |some fc =>
   obtain ⟨fn,cd⟩:=fc
   have hpos:eA Xt 7 [.a (d.row (aW n))] .e 0=⟨.code cd,[],⟨frame [.a (d.row (aW n))] fn.ntmps,.e,0⟩⟩:=by unfold eA;rw [hent]
   rw [hpos] at hseg
   unfold dS at hfin
   rw [hent] at hfin
   have hx:=hseg _ pC (jG (S:=⟨[22],[],0⟩) (E:=E0 Xt w) aH E1 pC 12 [.b false] (λob hob=>by
    have hob':ob∈(aGC (PD d (aW n) (aW n:Int) q L)).2:=hob
    rw [e2] at hob'
    simp only [bG,cK,or_false] at hob'
    subst hob'
    exact decide_eq_false (by omega)) (xP (E:=E0 Xt w) (r:=[]) hfin))
   have hc:=tB (E:=E0 Xt w) (k:=[]) (r0:=[]) (r:=[]) (vals:=[.agg vs.toArray]) hent ⟨[],rfl⟩ (.cons (.a hv) .nil) (aG.start Xt w hg) rfl rfl rfl hx
   refine hc.mono ?_
   rintro e w' ⟨r,v,rfl,hdv,hm⟩
   rw [List.nil_append] at hdv hm
   cases hdv with|a hdv =>
    have hf:=hZ _ hdv
    rw [e3] at hf
    cases hf with|cons d1 hf=>cases hf with|cons d2 hf=>cases hf with|cons d3 hf =>
     cases hf
     cases d3 with|one d3 _=>cases d3 with|@gs _ _ c3 L3 hq3 hc3 =>
      obtain ⟨hdk,hgl,hcv⟩:=sZ hm rfl e4 hq3
      rw [bQ d1,bQ d2]
      obtain ⟨L3',hL3',vs3,_,hk3⟩:=hm.blk 3 _ e4
      rw [hq3] at hL3'
      cases hL3'
      have hge:w.heap.size≤L3.g∧∀j,L3.cv j->w.heap.size≤j:=by
       rcases hk3 with ⟨h,_⟩|⟨h,_⟩|⟨_,_,_,h4⟩
       ·cases h
       ·cases h
       ·obtain ⟨t',N',l',_,h5,_⟩:=h4.2.2.2 rfl
        exact ⟨h4.2.2.1 (by show 5≤8;decide),λj hj=>(h5 j hj).2⟩
      exact ⟨L3.g,c3,⟨L3.cv,hgl,hc3,hcv,hdk⟩,rfl,hge.1,hge.2,hm.below⟩
 ·cases e1
end
theorem iZ.set{L:List (Option aQ)}(h:iZ L)(k:Nat){x:aQ}(hx:x.n=32∨x.n=137∨x.n=185):iZ (L.set k (some x)):=by
 intro j y hy
 rw [List.getElem?_set] at hy
 split at hy
 ·split at hy
  ·cases hy;exact hx
  ·cases hy
 ·exact h j y hy
theorem iZ.rep(n:Nat):iZ (qQ n):=by
 intro j y hy
 rw [C9,List.getElem?_replicate] at hy
 split at hy
 ·cases hy
 ·cases hy
theorem aEa(x:VP)(n lp:Nat):∀i,(Lv x n lp i).length=iC n∧iZ (Lv x n lp i)
 |0=>⟨by show (qQ (iC n)).length=_;rw [C9,lR],iZ.rep _⟩
 |i+1=>by
  have ih:=aEa x n lp i
  show (if lL x lp i then (Lv x n lp i).set _ _ else Lv x n lp i).length=_∧iZ (if lL x lp i then (Lv x n lp i).set _ _ else Lv x n lp i)
  by_cases h:lL x lp i
  ·rw [if_pos h];exact ⟨by rw [List.length_set];exact ih.1,ih.2.set _ (.inl rfl)⟩
  ·rw [if_neg h];exact ih
section
variable {n l j m k:Nat}{R:Nat->aA}{S:Nat->Bool}{L:List (Option aQ)}
theorem bAc(h:L.length=iC n∧iZ L):(pE n R S l j L).length=iC n∧iZ (pE n R S l j L):=by
 unfold pE
 split
 ·exact ⟨by rw [List.length_set];exact h.1,h.2.set _ (aJD _).2⟩
 ·exact h
theorem aDY(h:L.length=iC n∧iZ L):∀j,(sI n R S l L j).length=iC n∧iZ (sI n R S l L j)
 |0=>h
 |j+1=>bAc (aDY h j)
theorem aFK(h:L.length=iC n∧iZ L):∀l,(uO n R S L l).length=iC n∧iZ (uO n R S L l)
 |0=>h
 |l+1=>aDY (aFK h l) _
theorem wK(b:Bool):aV b<2:=by have:=vE b;omega
theorem aN2(h:k<jE n l+2*j∨jE n l+(2*j+2)≤k):(pE n R S l j L)[k]?=L[k]?:=by
 unfold pE
 split
 ·rw [List.getElem?_set_ne]
  have:=wK (S (num n l j))
  omega
 ·rfl
theorem a1X(he:qZ n l j R=true)(hL:jE n l+(2*j+aV (S (num n l j)))<L.length):(pE n R S l j L)[jE n l+(2*j+aV (S (num n l j)))]?=some (some (.nd (tX n R S l j))):=by
 unfold pE
 rw [if_pos he,List.getElem?_set_self hL]
theorem aGx:∀{j:Nat},k<jE n l∨jE n l+2*j≤k->(sI n R S l L j)[k]?=L[k]?
 |0,_=>rfl
 |j+1,h=>(aN2 (by omega)).trans (aGx (by omega))
theorem aOG(hok:L.length=iC n∧iZ L)(he:qZ n l j R=true)(hL:jE n l+(2*j+aV (S (num n l j)))<iC n):∀{m:Nat},j<m->(sI n R S l L m)[jE n l+(2*j+aV (S (num n l j)))]?=some (some (.nd (tX n R S l j)))
 |0,h=>absurd h (by omega)
 |m+1,h=>by
  show (pE n R S l m (sI n R S l L m))[_]?=_
  by_cases e:j=m
  ·subst e
   exact a1X he (by rw [(aDY hok j).1];exact hL)
  ·have:=wK (S (num n l j))
   rw [aN2 (by omega)]
   exact aOG hok he hL (by omega)
theorem bA1(h:l<m)(hm:m<3):jE n l+2*aL n l≤jE n m:=by
 unfold jE
 rcases l with _|_|l
 ·rcases m with _|_|m
  ·omega
  ·simp
  ·simp
   try omega
 ·rcases m with _|_|m
  ·omega
  ·omega
  ·simp
   try omega
 ·omega
theorem aKA(hok:L.length=iC n∧iZ L)(he:qZ n l j R=true)(hj:j<aL n l)(hL:jE n l+(2*j+aV (S (num n l j)))<iC n):∀{m:Nat},l<m->m≤3->(uO n R S L m)[jE n l+(2*j+aV (S (num n l j)))]?=some (some (.nd (tX n R S l j)))
 |0,h,_=>absurd h (by omega)
 |m+1,h,hm=>by
  show (sI n R S m (uO n R S L m) (aL n m))[_]?=_
  by_cases e:l=m
  ·subst e
   exact aOG (aFK hok l) he hL hj
  ·have hb:=wK (S (num n l j))
   have hu:=bA1 (n:=n) (l:=l) (m:=m) (by omega) (by omega)
   rw [aGx (.inl (by omega))]
   exact aKA hok he hj hL (by omega) (by omega)
end
theorem aQh:(List.range 20).all (λm=>Nat.ble ((m+1)+num (m+1) (aO (m+1)) (aL (m+1) (aO (m+1)))) 1000&&Nat.blt (aO (m+1)) 3)=true:=by decide
theorem aGI{n:Nat}(h1:1≤n)(h20:n≤20):n+num n (aO n) (aL n (aO n))≤1000∧aO n<3:=by
 obtain ⟨m,rfl⟩:∃m,n=m+1:=⟨n-1,by omega⟩
 have:=kK.1 aQh m (dF.2 (by omega))
 simpa [cY,bO] using this
def LF(x:VP)(n lp ls:Nat):List (Option aQ):=uO n (Rv x lp) (Sw x ls n) (Lv x n lp n) (aO n+1)
theorem B4(x:VP)(n lp ls:Nat):(LF x n lp ls).length=aW n∧iZ (LF x n lp ls):=aFK (aEa x n lp n) _
theorem bBR(x:VP){n lp ls l j:Nat}(h1:1≤n)(h20:n≤20)(hl:l≤aO n)(hj:j<aL n l)(he:qZ n l j (Rv x lp)=true):(LF x n lp ls)[lO n l j (aV (Sw x ls n (num n l j)))]?=some (some (.nd (tX n (Rv x lp) (Sw x ls n) l j))) :=
 aKA (aEa x n lp n) he hj (X6 h1 h20 (by have:=(aGI h1 h20).2;omega) hj (wK _)).1 (by omega) (by have:=(aGI h1 h20).2;omega)
def S8(x:VP)(n k:Nat)(rt:List Nat):Rp SV:=cB [.one (aM n),.q (.byt ⟨x.el,16,x.he,x.heb⟩),.q (.byt ⟨x.ml,32,x.hm,x.hmb⟩),.one (.gs k (aW n)),.q (.sha rt),.one (.v (.int .u64 (IntKind.u64.wrap ((x.ep:Nat):Int)))),nI 1000,.one .u,.one .u,.one .u]
def yS(x:VP)(n lp ls:Nat):List Nat:=(tX n (Rv x lp) (Sw x ls n) (aO n) 0).bytes
theorem aD.toV{r:List aF}{x:Value}{us:List Value}(h:aD r (.one (.v x)) us)(r':List aF):aD r' (.one (.v x)) us:=by cases h with|one h h1=>cases h;exact .one (.v _) h1
theorem aD.toQ{r:List aF}{a:At}{us:List Value}(h:aD r (.q a) us)(r':List aF):aD r' (.q a) us:=by cases h;exact .q a
theorem aD.toU{r:List aF}{x:SV}{us:List Value}(h:aD r (.one x) us)(r':List aF):aD r' (.one .u) us:=by cases h with|one h h1=>exact .one (.u _) h1
theorem a4V{bl n:Nat}(hb:bl<256)(hn:n=1+bl%20):nEx bl=(n:Int):=by
 unfold nEx
 rw [IntWalk.i64_in (Int.ofNat bl) (by constructor<;>simp<;>omega)]
 rw [show (Int.ofNat bl).tmod 20=((bl%20:Nat):Int) from rfl]
 rw [IntWalk.i64_in _ (by omega),hn]
 omega
theorem a8R{w:World}{bl ep ma:Nat}{pl sl:List Nat}{pp sp:SV}{n n2 n3 lp ls:Nat}(hb:bl<256)(hn:n=1+bl%20)(hpp:uS pp lp n2)(hsp:uE sp ls n3){r0:List aF}(hm:aG (E0 Xt w) r0 (o6 (kN bl ep ma pl sl) n2 n3) 2 w){vs:List Value}(hv:aD r0 (vR (kN bl ep ma pl sl) pp sp) vs):
 Calls Xt.P 5 #[.agg vs.toArray] w λe w'=>∃us,∃L:aF,∃hr:aBS w' L.g (LF (kN bl ep ma pl sl) n lp ls),e=.returned (.agg us.toArray)∧hr.cv=L.cv∧w.heap.size≤L.g∧(∀j,L.cv j->w.heap.size≤j)∧(∀(r:List aF) k,r[k]?=some L->aD r (S8 (kN bl ep ma pl sl) n k (yS (kN bl ep ma pl sl) n lp ls)) us)∧Below w.heap.size w w':=by
 obtain ⟨x,hx⟩:∃x,x=kN bl ep ma pl sl:=⟨_,rfl⟩
 have h1:1≤n:=by omega
 have h20:n≤20:=by omega
 have hpf:=hpp.fix
 have hsf:=hsp.fix
 have s0:eO w (P0 x pp sp n2 n3) (P1 x pp sp n2 n3 n 0 (Rv x lp) (Bv x lp) (Lv x n lp 0)):=by
  have h:=aUy n h1 h20 bl ep ma pl sl pp sp n2 n3 (Rv x lp) (Bv x lp)
  rw [<-hx] at h
  refine nT (x:=x) (c:=aL0 n) (t:=[2,3,4,5,900,901,902]) h rfl (by kernel_rfl) hpf hsf ?_
  intro ob hob
  simp only [bG,cK,or_false] at hob
  subst hob
  intro r us hd
  rw [a4V hb hn] at hd
  exact hd
 have s1:=s0.trans (aNp h1 h20 hpp hsf n (aS _))
 have s2:=s1.trans (p12 (S:=Sv x ls) h1 h20 hpf hsf)
 have s3:=s2.trans (aJB h1 h20 hpf hsp (aT n) (aS _))
 have s4:=s3.trans (p23 h1 h20 hpf hsf)
 have s5:=s4.trans (aIn h1 h20 hpf hsf (aO n) (aS _))
 have s6:=s5.trans (aCI h1 h20 (aS _) hpf hsf (aL n (aO n)) (aS _))
 have he:=aUp n h1 h20 x pp sp n2 n3 (Rv x lp) (Bv x lp) (LF x n lp ls) (Sw x ls n)
 have hseg:eO w (P0 x pp sp n2 n3) (P3 x pp sp n2 n3 n (aO n) (aL n (aO n)) (Rv x lp) (Bv x lp) (LF x n lp ls) (Sw x ls n)):=s6
 clear s0 s1 s2 s3 s4 s5 s6
 rw [<-hx] at hm hv
 simp only [cH] at he
 obtain ⟨e1,e2⟩:=he
 unfold aKH at e1
 split at e1
 ·rename_i c st hfin
  simp only [cH] at e1
  obtain ⟨e3,e4⟩:=e1
  cases hent:entryS Xt.P 5 with
  |none=>unfold dS at hfin;rw [hent] at hfin;cases hfin
  |some fc =>
   obtain ⟨fn,cd⟩:=fc
   have hpos:P0 x pp sp n2 n3=⟨.code cd,[],⟨frame [.a (vR x pp sp)] fn.ntmps,o6 x n2 n3,2⟩⟩:=by unfold P0 eA;rw [hent]
   rw [hpos] at hseg
   unfold dS at hfin
   rw [hent] at hfin
   have hxx:=hseg _ pC (jG (S:=⟨[163,155],[],0⟩) (E:=E0 Xt w) aH aIH pC 12 [.b false,.b false] (λob hob=>by
    have hob':ob∈(aDJ (P3 x pp sp n2 n3 n (aO n) (aL n (aO n)) (Rv x lp) (Bv x lp) (LF x n lp ls) (Sw x ls n))).2:=hob
    rw [e2] at hob'
    simp only [bG,cK,or_false] at hob'
    rcases hob' with rfl|rfl<;>rfl) (xP (E:=E0 Xt w) (r:=[]) hfin))
   have hc:=tB (E:=E0 Xt w) (k:=[]) (r0:=[]) (r:=r0) (vals:=[.agg vs.toArray]) hent ⟨r0,rfl⟩ (.cons (.a hv) .nil) hm rfl rfl rfl hxx
   refine hc.mono ?_
   rintro e w' ⟨r,v,rfl,hdv,hm'⟩
   rw [List.nil_append] at hdv hm'
   cases hdv with|a hdv =>
    have hf:=hZ _ hdv
    rw [e3] at hf
    cases hf with|cons d1 hf=>cases hf with|cons d2 hf=>cases hf with|cons d3 hf=>cases hf with|cons d4 hf=>cases hf with|cons d5 hf=>cases hf with|cons d6 hf=>cases hf with|cons d7 hf=>cases hf with|cons d8 hf=>cases hf with|cons d9 hf=>cases hf with|cons d10 hf=>cases hf with|cons d11 hf =>
     cases hf
     cases fJ d5
     cases d4 with|one d4 d4'=>cases d4 with|@gs _ _ c3 L3 hq3 hc3 =>
      obtain ⟨hdk,hgl,hcv⟩:=sZ hm' rfl e4 hq3
      obtain ⟨L3',hL3',vs3,_,hk3⟩:=hm'.blk 5 _ e4
      rw [hq3] at hL3'
      cases hL3'
      have hge:w.heap.size≤L3.g∧∀j,L3.cv j->w.heap.size≤j:=by
       rcases hk3 with ⟨h,_⟩|⟨h,_⟩|⟨_,_,_,h4⟩
       ·cases h
       ·cases h
       ·obtain ⟨t',N',l',_,h5,_⟩:=h4.2.2.2 rfl
        exact ⟨h4.2.2.1 (by show 5≤8;decide),λj hj=>(h5 j hj).2⟩
      refine ⟨_,L3,⟨n+num n (aO n) (aL n (aO n)),L3.cv,(aGI h1 h20).1,hgl,hcv,?_⟩,rfl,rfl,hge.1,hge.2,?_,hm'.below⟩
      ·rw [<-hx]
       exact hdk.1
      ·intro r' k hk
       rw [<-hx]
       exact aD.cat (d1.toV r') (aD.cat (d2.toQ r') (aD.cat (d3.toQ r') (aD.cat (.one (.gs hk hc3) rfl) (aD.cat (d6.toQ r') (aD.cat (d7.toV r') (aD.cat (d8.toV r') (aD.cat (d9.toU r') (aD.cat (d10.toU r') (aD.cat (d11.toU r') .nil)))))))))
 ·cases e1
theorem aIT:∀{k:Nat} {l:List Bool},l.length=k->l∈E2 k
 |0,l,h=>by rw [List.length_eq_zero_iff.1 h];simp [E2]
 |k+1,[],h=>by cases h
 |k+1,b::l,h=>by
  simp only [E2,List.mem_flatMap]
  exact ⟨l,aIT (by simpa using h),by cases b<;>simp⟩
def uW(n:Nat)(R:Nat->aA):List Bool:=(List.range (aL n 0)).map λj=>bY R n 0 j
theorem oI{R:Nat->aA}{n l j:Nat}:bY R n l j=true↔∀i,i<n->i / 4 ^ (l+1)=j->(R i).s=0:=by
 unfold bY nH
 rw [kK]
 constructor
 ·intro h i hi hj
  have:=h i (dF.2 hi)
  rw [hj,bE,bE] at this
  simpa using this
 ·intro h i hi
  rw [dF] at hi
  rw [bE,bE]
  by_cases e:i / 4 ^ (l+1)=j
  ·simp [e,h i hi e]
  ·simp [e]
theorem oQ(n:Nat):aO n≤2:=by
 unfold aO
 split
 ·omega
 ·split<;>omega
theorem a8w{n l j:Nat}{R:Nat->aA}(hl:l<aO n)(hj:j<aL n l):emP n (uW n R) l j=bY R n l j:=by
 have h2:=oQ n
 rcases l with _|_|l
 ·show (uW n R).getD j false=_
  exact G3 hj
 ·show ((List.range (aL n 0)).all λi=>!(Nat.beq (i / 4) j) || (uW n R).getD i false)=_
  rw [Bool.eq_iff_iff,kK,oI]
  constructor
  ·intro h i hi hij
   have hi4:i / 4<aL n 0:=by unfold aL;omega
   have:=h (i / 4) (dF.2 hi4)
   unfold uW at this
   rw [G3 hi4,show i / 4 / 4=j by omega,bE] at this
   simp only [decide_true,Bool.not_true,Bool.false_or] at this
   exact oI.1 this i hi (by omega)
  ·intro h i hi
   rw [dF] at hi
   unfold uW
   rw [G3 hi,bE]
   by_cases e:i / 4=j
   ·simp only [e,decide_true,Bool.not_true,Bool.false_or]
    exact oI.2 λk hk hki=>h k hk (by omega)
   ·simp [e]
 ·omega
section
variable {r:List aF}
theorem nX:∀{l:List (Rp SV)} {us:List Value},aD r (cB l) us->cE r l us
 |[],us,h=>by
  have h':aD r .nil us:=h
  cases h';exact .nil
 |c::l,us,h=>by
  obtain ⟨u,v,rfl,h1,h2⟩:=aG9 h
  exact .cons h1 (nX h2)
theorem aMv{α:Type}{f:α->Rp SV}{g:α->List Value}:∀{l:List α},(∀i,i∈l->aD r (f i) (g i))->aD r (cB (l.map f)) (l.flatMap g)
 |[],_=>.nil
 |i::l,h=>by
  rw [List.flatMap_cons]
  exact aD.cat (h i (by simp)) (aMv λj hj=>h j (by simp [hj]))
end
def xL(n:Nat)(R:Nat->aA)(Ee:Nat->aJ):List Value:=(fR n).flatMap λp=>(bP n R Ee p.1 p.2).vals
theorem aEF(r:List aF)(n:Nat)(R:Nat->aA)(Ee:Nat->aJ):aD r (f9 n R Ee) (xL n R Ee):=aMv λp _=>.q (.node (bP n R Ee p.1 p.2))
theorem aIo{r:List aF}{n:Nat}{R:Nat->aA}{Ee:Nat->aJ}{us:List Value}(h:aD r (f9 n R Ee) us):us=xL n R Ee:=by
 have key:∀{l:List (Nat×Nat)} {us:List Value},cE r (l.map λp=>.q (.node (bP n R Ee p.1 p.2))) us->us=l.flatMap λp=>(bP n R Ee p.1 p.2).vals:=by
  intro l
  induction l with
  |nil=>intro us h;cases h;rfl
  |cons p l ih =>
   intro us h
   cases h with|cons h1 h2 =>
    cases h1
    rw [ih h2];rfl
 exact key (nX h)
theorem qC{α:Type}{f:α->List Value}{k:Nat}(hf:∀a,(f a).length=k):∀l:List α,(l.flatMap f).length=l.length*k
 |[]=>by simp
 |a::l=>by rw [List.flatMap_cons,eS,hf,qC hf l,List.length_cons,Nat.succ_mul,Nat.add_comm]
theorem a4K(n:Nat)(R:Nat->aA)(Ee:Nat->aJ):(xL n R Ee).length=(fR n).length*274:=qC (f:=λp:Nat×Nat=>(bP n R Ee p.1 p.2).vals) (k:=274) (λp=>(At.node (bP n R Ee p.1 p.2)).len) (fR n)
theorem aK4(n:Nat):(fR n).length=aT n:=by
 unfold fR fN aT
 simp [List.range_succ]
theorem aA.zero{x:aA}(h:x.s=0):x=dG:=by
 obtain ⟨s,sh,c,tag,hs,h0,_,_,_,_⟩:=x
 simp only at h
 subst h
 obtain ⟨rfl,rfl,rfl⟩:=h0 rfl
 rfl
theorem aJ.zero{x:aJ}(h:x.s=0):x=cC:=by
 obtain ⟨s,dig,hs,h0,_,_⟩:=x
 simp only at h
 subst h
 obtain rfl:=h0 rfl
 rfl
theorem aNy{em b:Bool}{l:List Nat}:(sH em b l).s=bif em then 0 else aV b+1:=by cases em<;>rfl
theorem Y2{n l k:Nat}{R:Nat->aA}{B:Nat->Bool}(hl:l<2)(hk:k<aL n l):(ee n (aU n R B) l k).s=bif bY R n l k then 0 else aV (B (num n l k))+1:=by
 unfold ee
 rw [show Nat.blt k (aL n l)=true from by rw [bO];simpa using hk,cond_true,pI _ _ _ _ _ hl hk,aNy]
theorem aNQ{n l k:Nat}{R:Nat->aA}{B:Nat->Bool}(hl:l<2)(hk:k<aL n l)(he:bY R n l k=false):(ee n (aU n R B) l k).dig=Sh.shaF (bP n R (aU n R B) l k).bytes:=by
 unfold ee
 rw [show Nat.blt k (aL n l)=true from by rw [bO];simpa using hk,cond_true,pI _ _ _ _ _ hl hk,he]
 rfl
theorem aBX{n i j:Nat}{R:Nat->aA}(he:bY R n 0 j=true)(hi:i / 4=j):rr n R i=dG:=by
 unfold rr
 cases h:Nat.blt i n with
 |false=>rfl
 |true =>
  rw [bO,bR] at h
  exact aA.zero (oI.1 he i h (by simpa using hi))
theorem aKR{n l k:Nat}(h:k<aL n l)(h1:aL n l≠1):k / 4<aL n (l+1):=by
 show k / 4<if aL n l=1 then 0 else (aL n l+3) / 4
 rw [if_neg h1]
 omega
theorem aCs{n k j:Nat}{R:Nat->aA}{B:Nat->Bool}(he:bY R n 1 j=true)(hk:k / 4=j):ee n (aU n R B) 0 k=cC:=by
 unfold ee
 cases h:Nat.blt k (aL n 0) with
 |false=>rfl
 |true =>
  have h':=h
  rw [bO,bR] at h'
  refine aJ.zero ?_
  rw [cond_true,pI _ _ _ _ _ (by decide) h',aNy]
  have:bY R n 0 k=true:=oI.2 λi hi hik=>oI.1 he i hi (by
   simp only [Nat.zero_add,Nat.pow_one] at hik
   show i / 16=j
   omega)
  rw [this];rfl
theorem a97{n l j:Nat}{R:Nat->aA}{B:Nat->Bool}(hl:l<2)(hj:j<8)(he:bY R n l j=true):(bP n R (aU n R B) l j).vals=[.int .u8 (l:Int)]++([.int .u32 (j:Int)]++(lT dG dG dG dG++l8 cC cC cC cC)):=by
 have h7:j%8=j:=Nat.mod_eq_of_lt hj
 rcases l with _|_|l
 ·simp only [bP,bD.vals,h7,aBX he (show 4*j / 4=j by omega),aBX he (show (4*j+1) / 4=j by omega),aBX he (show (4*j+2) / 4=j by omega),aBX he (show (4*j+3) / 4=j by omega)]
  rfl
 ·simp only [bP,bD.vals,h7,aCs he (show 4*j / 4=j by omega),aCs he (show (4*j+1) / 4=j by omega),aCs he (show (4*j+2) / 4=j by omega),aCs he (show (4*j+3) / 4=j by omega)]
 ·omega
theorem a6A{r:List aF}{l j:Nat}{ps:List (Rp SV)}{us:List Value}(h:cE r (aDp l j ps) us):∃us',us=([.int .u8 (l:Int)]++([.int .u32 (j:Int)]++(lT dG dG dG dG++l8 cC cC cC cC)))++us'∧cE r ps us':=by
 cases h with|cons d1 h=>cases h with|cons d2 h =>
  rw [bQ d1,bQ d2]
  obtain ⟨u1,e1,h⟩:=nM h
  obtain ⟨u2,e2,h⟩:=nM h
  obtain ⟨u3,e3,h⟩:=nM h
  obtain ⟨u4,e4,h⟩:=nM h
  obtain ⟨v1,f1,h⟩:=nN h
  obtain ⟨v2,f2,h⟩:=nN h
  obtain ⟨v3,f3,h⟩:=nN h
  obtain ⟨v4,f4,h⟩:=nN h
  refine ⟨v4,?_,h⟩
  rw [e1,e2,e3,e4,f1,f2,f3,f4]
  simp [lT,l8]
theorem aF8{n:Nat}{p:Nat×Nat}(h:p∈fR n):p.1<3∧p.2<aL n p.1:=by
 unfold fR fN at h
 simp only [List.mem_flatMap,dC,dF] at h
 obtain ⟨a,ha,b,hb,rfl⟩:=h
 exact ⟨ha,hb⟩
theorem a7I{n:Nat}{R:Nat->aA}{B:Nat->Bool}{em:Nat->Nat->Bool}(h1:1≤n)(h20:n≤20)(hem:∀l j,l<aO n->j<aL n l->em l j=bY R n l j)(r:List aF)(us:List Value)(h:aD r (cB (aI2 n em R (aU n R B))) us):aD r (f9 n R (aU n R B)) us:=by
 have key:∀{l:List (Nat×Nat)} {us:List Value},(∀p∈l,p∈fR n)->cE r (l.foldr (λp ps=>bif Nat.blt p.1 (aO n)&&em p.1 p.2 then aDp p.1 p.2 ps else .q (.node (bP n R (aU n R B) p.1 p.2))::ps) []) us->us=l.flatMap λp=>(bP n R (aU n R B) p.1 p.2).vals:=by
  intro l
  induction l with
  |nil=>intro us _ h;cases h;rfl
  |cons p l ih =>
   intro us hl h
   rw [List.foldr_cons] at h
   obtain ⟨hp3,hpc⟩:=aF8 (hl p (by simp))
   cases hb:Nat.blt p.1 (aO n)&&em p.1 p.2 with
   |false =>
    rw [hb,cond_false] at h
    cases h with|cons h1 h2 =>
     cases h1
     rw [ih (λq hq=>hl q (by simp [hq])) h2];rfl
   |true =>
    rw [hb,cond_true] at h
    rw [bJ,bO,bR] at hb
    obtain ⟨us',rfl,h2⟩:=a6A h
    have h2':=oQ n
    have h8:=aDK h1 h20 hp3
    rw [ih (λq hq=>hl q (by simp [hq])) h2,List.flatMap_cons,a97 (by omega) (by omega) (by rw [<-hem _ _ hb.1 hpc];exact hb.2)]
 have:us=xL n R (aU n R B):=key (λp hp=>hp) (nX h)
 rw [this]
 exact aEF r n R _
theorem aDo{n:Nat}{em:Nat->Nat->Bool}{Z:Nat->Nat}{R:Nat->aA}{Ee:Nat->aJ}{q:Int}{v:Value}{ob:Ob}:∀{l:List (Nat×Nat)} {nx:Nat},ob∈O0 n em Z R Ee q v l nx->∃p,p∈l∧∃nx,ob=aFx n p.1 p.2 nx (Nat.blt (p.1+1) (aO n)&&em (p.1+1) (p.2 / 4)) (em p.1 p.2) Z Ee∨(em p.1 p.2=false∧ob=.c 49 (chA n p.1 p.2 R Ee q v) [] [] nx (nE (bP n R Ee p.1 p.2)) [])
 |[],_,h=>by cases h
 |p::l,nx,h=>by
  unfold O0 at h
  rcases bG.1 h with rfl|h
  ·exact ⟨p,by simp,nx,.inl rfl⟩
  ·cases hb:em p.1 p.2 with
   |true =>
    rw [hb,cond_true] at h
    obtain ⟨p',hp,rest⟩:=aDo h
    exact ⟨p',by simp [hp],rest⟩
   |false =>
    rw [hb,cond_false] at h
    rcases bG.1 h with rfl|h
    ·exact ⟨p,by simp,nx,.inr ⟨hb,rfl⟩⟩
    ·obtain ⟨p',hp,rest⟩:=aDo h
     exact ⟨p',by simp [hp],rest⟩
theorem aZo:(eP H4 Xt 12 23 [.v (.int .u8 (.ofNat 0))] .e 0).map (·.1)=some (.t [aM 0,aM 11]):=by kernel_rfl
theorem aJ1(w:World)(hg:cG Xt w):Calls Xt.P 23 #[.int .u8 0] w λe' w'=>e'=.returned (.tuple #[.int .i64 0,.int .i64 11])∧Below w.heap.size w w':=by
 obtain ⟨⟨res,st⟩,h1,h2⟩:=dE.1 aZo
 simp only at h2
 subst h2
 refine (oX (E:=E0 Xt w) (r:=[]) (vals:=[.int .u8 0]) aH sG h1 (.cons (.v _) .nil) (aG.start Xt w hg)).mono ?_
 rintro e' w' ⟨q,v,rfl,hd,hm⟩
 cases hd with|t d=>cases d with|cons d1 d=>cases d with|cons d2 d =>
  cases d;cases d1;cases d2
  exact ⟨rfl,hm.below⟩
def aB0(n:Nat)(R:Nat->aA)(Ee:Nat->aJ):Prop:=∀(g c:Nat) (w:World),cG Xt w->bH w w.heap.size 274 (some ⟨g,0,none⟩) (aT n) (xL n R Ee) ->
 Calls Xt.P 50 #[.agg #[.int .i64 (n:Int),.slice (some ⟨g,0,none⟩) (aT n) c]] w λe w'=>e=.returned (.int .i64 0)∧Below w.heap.size w w'
theorem aMo{E:bX}{n nx k T:Nat}{R:Nat->aA}{Ee:Nat->aJ}(hE:E.X=Xt)(_h1:1≤n)(_h20:n≤20)(hc:aB0 n R Ee):o4 E 50 [.a (.node 1 2 (.one (aM n)) (.one (.s k 0 (aT n) (aT n))))] [k] [some ⟨T,f9 n R Ee,0⟩] nx bM []:=by
 intro r vals w1 hp ha hm hbs
 have hent:fQ E.X.P 50:=by rw [hE];exact bB (by kernel_rfl)
 refine ⟨λw'=>hent _ w',?_⟩
 have hbs':[jW (hp.get k)]=[some ⟨T,f9 n R Ee,0⟩]:=hbs
 simp only [List.cons.injEq,and_true] at hbs'
 obtain ⟨b,hb,eb⟩:∃b,hp.get k=some b∧oF b=⟨T,f9 n R Ee,0⟩:=by
  cases h5:hp.get k with
  |none=>rw [h5] at hbs';cases hbs'
  |some b=>rw [h5] at hbs';exact ⟨b,rfl,jR hbs'⟩
 obtain ⟨L,hL,hB⟩:=hm.blk k b hb
 have hB':=Q2 hB
 have hlt:=hB.lt
 rw [eb] at hB'
 obtain ⟨vs,hd,hcell⟩:=hB'.cells
 have hb0:L.b=0:=by
  obtain ⟨vs',_,hk⟩:=hB'
  rcases hk with ⟨_,_,h,_⟩|⟨h,_⟩|⟨h,_⟩
  ·exact h
  ·cases h
  ·exact absurd h (by show ¬ 2≤0;decide)
 obtain rfl:=aIo hd
 have hv:vals=[.agg #[.int .i64 (n:Int),.slice (some ⟨L.g,0,none⟩) (aT n) (aT n)]]:=by
  cases ha with|cons d1 t =>
   cases t
   cases d1 with|a d1=>cases d1 with|node e1 e2 _ _ =>
    rw [bQ e1]
    cases e2 with|one e2 _=>cases e2 with|s hL' =>
     rw [hL] at hL'
     cases hL'
     rw [hb0]
     rfl
 rw [hv,hE]
 refine (hc L.g (aT n) w1 (hE▸hm.globs) ⟨by rw [a4K,aK4],λ_=>⟨_,rfl,hlt,λj u hu=>?_⟩⟩).mono ?_
 ·have:=hcell j u hu
  rw [hb0] at this
  rw [eX]
  exact this
 ·rintro e w' ⟨rfl,h2⟩
  exact ⟨[],_,rfl,.v _,by have:=hm.grow h2;rw [eC];exact this⟩
section
variable {E:bX}{n c l j nx:Nat}{R:Nat->aA}{B:Nat->Bool}
theorem a9K{n i:Nat}{R:Nat->aA}(hi:i<n):rr n R i=R i:=by
 unfold rr
 rw [show Nat.blt i n=true from by rw [bO];simpa using hi]
 rfl
theorem a1c{n i:Nat}{R:Nat->aA}:(rr n R i).s=0↔(i<n->(R i).s=0):=by
 by_cases h:i<n
 ·rw [a9K h];simp [h]
 ·have:rr n R i=dG:=by
   unfold rr
   rw [show Nat.blt i n=false from by rw [bO];simpa using h]
   rfl
  rw [this]
  simp [h,dG]
theorem aE6{n j:Nat}{R:Nat->aA}:bY R n 0 j=true↔(rr n R (4*j)).s=0∧(rr n R (4*j+1)).s=0∧(rr n R (4*j+2)).s=0∧(rr n R (4*j+3)).s=0:=by
 rw [oI]
 simp only [a1c]
 constructor
 ·intro h
  exact ⟨λhi=>h _ hi (by simp),λhi=>h _ hi (by simp;omega),λhi=>h _ hi (by simp;omega),λhi=>h _ hi (by simp;omega)⟩
 ·rintro ⟨h0,h1,h2,h3⟩ i hi hij
  have hij':i / 4=j:=by simpa using hij
  have:i=4*j∨i=4*j+1∨i=4*j+2∨i=4*j+3:=by omega
  rcases this with rfl|rfl|rfl|rfl
  ·exact h0 hi
  ·exact h1 hi
  ·exact h2 hi
  ·exact h3 hi
def wE(n:Nat)(R:Nat->aA)(j:Nat):Nat:=kR (wH (rr n R (4*j)) (rr n R (4*j+1)) (rr n R (4*j+2)) (rr n R (4*j+3)))
theorem bCZ:(bif bY R n 0 j then 0 else (wE n R j-1)+1)=wE n R j:=by
 cases h:bY R n 0 j with
 |true =>
  have:=aEB.2 (aE6.1 h)
  exact this.symm
 |false =>
  have:wE n R j≠0:=λh0=>by
   have:=aE6.2 (aEB.1 h0)
   rw [h] at this;cases this
  show wE n R j-1+1=_
  omega
theorem bCn{Ee:Nat->aJ}(hE:E.X=Xt):o4 E 215 [.a (.q (.node (bP n R Ee 0 j)))] [] [] nx (Q5 (λj=>wE n R j-1) j (bY R n 0 j)) []:=by
 have hent:fQ E.X.P 215:=by rw [hE];exact bB (by kernel_rfl)
 refine fV hent λr vals w1 hp ha hm=>?_
 cases ha with|cons d1 t =>
  cases t
  cases d1 with|a d1 =>
   cases d1
   rw [hE]
   refine (aIS _ _ _ _ _ (rQ j) w1 (hE▸hm.globs)).mono ?_
   rintro e w' ⟨rfl,hb⟩
   refine ⟨_,rfl,?_,hb⟩
   unfold Q5
   rw [bCZ]
   exact .v _
theorem aMK{Ee:Nat->aJ}(h1:1≤n)(h20:n≤20)(hj:j<aL n 0){r:List aF}{vals:List Value}{w:World}(ha:aX r (aBs 0 j) vals)(hm:aG (E0 Xt w) r (G9 n c R Ee) 5 w):
 Calls Xt.P 279 vals.toArray w λe w'=>e=.returned (.bool (bY R n 0 j))∧Below w.heap.size w w':=by
 have hmem:(j,bY R n 0 j)∈Y5 n:=by
  simp only [Y5,List.mem_flatMap,dF]
  exact ⟨j,hj,by cases bY R n 0 j<;>simp⟩
 have h:=cW (aQD n h1 h20 c R Ee (λj=>wE n R j-1)) hmem
 unfold aH5 aHW aBr at h
 simp only [cH] at h
 obtain ⟨h2,h3⟩:=h
 obtain ⟨⟨res,st⟩,h4,h5⟩:=dE.1 h2
 simp only at h5
 subst h5
 refine (iQ (E:=E0 Xt w) aH xO h4 ?_ ha hm).mono ?_
 ·intro ob hob
  have hob':ob∈(jX n c R Ee 0 j [.c [] (λ_=>Q5 (λj=>wE n R j-1) j (bY R n 0 j)) []]).2:=hob
  rw [h3] at hob'
  simp only [bG,cK,or_false] at hob'
  subst hob'
  exact bCn rfl
 ·rintro e w' ⟨q,v,rfl,hd,hm'⟩
  cases hd
  exact ⟨rfl,hm'.below⟩
theorem aMN{Ee:Nat->aJ}{k:Nat}{b:Bool}(h1:1≤n)(h20:n≤20)(hE:E.X=Xt)(hk:k<aL n 0)(hb:bY R n 0 k=b):(obJ n c R Ee k b).Holds E:=by
 refine X8 hE (bB (by kernel_rfl)) λr vals w hg ha hm=>?_
 rw [(aCm n h1 h20 c R Ee).1] at hm
 rw [<-hb]
 exact aMK h1 h20 hk ha hm
theorem aHa{n j:Nat}{R:Nat->aA}(_hj:j<aL n 1):bY R n 1 j=true↔∀k,k<cS n 1 j->bY R n 0 (4*j+k)=true:=by
 have hc:aL n 0=(n+3) / 4:=rfl
 rw [oI]
 constructor
 ·intro h k hk
  rw [oI]
  intro i hi hik
  have hik':i / 4=4*j+k:=by simpa using hik
  have hk4:k<4:=by unfold cS at hk;omega
  exact h i hi (by show i / 16=j;omega)
 ·intro h i hi hij
  have hij':i / 16=j:=by simpa using hij
  refine oI.1 (h (i / 4-4*j) ?_) i hi ?_
  ·unfold cS
   rw [if_neg (by decide)]
   show _<min 4 (aL n 0-4*j)
   omega
  ·show i / 4=_
   omega
theorem a76{Ee:Nat->aJ}(h1:1≤n)(h20:n≤20)(hh:1<aO n)(hj:j<aL n 1){r:List aF}{vals:List Value}{w:World}(ha:aX r (aBs 1 j) vals)(hm:aG (E0 Xt w) r (G9 n c R Ee) 5 w):
 Calls Xt.P 279 vals.toArray w λe w'=>e=.returned (.bool (bY R n 1 j))∧Below w.heap.size w w':=by
 have hp4:∀k,k<cS n 1 j->4*j+k<aL n 0:=λk hk=>by
  unfold cS at hk
  rw [if_neg (by decide)] at hk
  have:k<min 4 (aL n 0-4*j):=hk
  omega
 have key:∀f,f≤cS n 1 j->(∀k,k<f->bY R n 0 (4*j+k)=true)->(f≠cS n 1 j->bY R n 0 (4*j+f)=false) ->
  Calls Xt.P 279 vals.toArray w λe w'=>e=.returned (.bool (Nat.beq f (cS n 1 j)))∧Below w.heap.size w w':=by
  intro f hf ht hn
  have hmem:(j,f)∈aAf n:=by
   unfold aAf
   rw [show Nat.blt (aO n) 2=false from by rw [bO];simp;omega]
   simp only [cond_false,List.mem_flatMap,dF,dC]
   exact ⟨j,hj,f,by omega,rfl⟩
  have h:=cW (aW3 n h1 h20 c R Ee) hmem
  unfold aJG aKL aBr at h
  simp only [cH] at h
  obtain ⟨h2,h3⟩:=h
  obtain ⟨⟨res,st⟩,h4,h5⟩:=dE.1 h2
  simp only at h5
  subst h5
  refine (iQ (E:=E0 Xt w) aH xO h4 ?_ ha hm).mono ?_
  ·intro ob hob
   have hob':ob∈(jX n c R Ee 1 j (List.replicate f (evJ true)++bif Nat.beq f (cS n 1 j) then [] else [evJ false])).2:=hob
   rw [h3,eL,dC] at hob'
   rcases hob' with ⟨k,hk,rfl⟩|hob'
   ·rw [dF] at hk
    exact aMN h1 h20 rfl (hp4 k (by omega)) (ht k hk)
   ·rw [bE] at hob'
    by_cases e:f=cS n 1 j
    ·simp [e] at hob'
    ·simp only [e,decide_false,cond_false,iY] at hob'
     subst hob'
     exact aMN h1 h20 rfl (hp4 f (by omega)) (hn e)
  ·rintro e w' ⟨q,v,rfl,hd,hm'⟩
   cases hd
   exact ⟨rfl,hm'.below⟩
 by_cases hall:∃k,k<cS n 1 j∧bY R n 0 (4*j+k)=false
 ·obtain ⟨k,a1,a2⟩:=hall
  obtain ⟨f,b1,⟨b2,b3⟩,b4⟩:=aNa (P:=λk=>k<cS n 1 j∧bY R n 0 (4*j+k)=false) ⟨a1,a2⟩
  have e:bY R n 1 j=Nat.beq f (cS n 1 j):=by
   rw [bE]
   have:f≠cS n 1 j:=by omega
   simp only [this,decide_false]
   rw [<-jD,aHa hj]
   intro hh
   have:=hh f b2
   rw [b3] at this;cases this
  rw [e]
  refine key f (by omega) (λk hk=>?_) λ_=>b3
  cases hx:bY R n 0 (4*j+k) with
  |true=>rfl
  |false=>exact absurd ⟨by omega,hx⟩ (b4 k hk)
 ·have e:bY R n 1 j=Nat.beq (cS n 1 j) (cS n 1 j):=by
   rw [bE]
   simp only [decide_true]
   refine (aHa hj).2 λk hk=>?_
   cases hx:bY R n 0 (4*j+k) with
   |true=>rfl
   |false=>exact absurd ⟨k,hk,hx⟩ hall
  rw [e]
  refine key _ (aS _) (λk hk=>?_) λh=>absurd rfl h
  cases hx:bY R n 0 (4*j+k) with
  |true=>rfl
  |false=>exact absurd ⟨k,hk,hx⟩ hall
theorem aZp{p:Nat×Nat}(h:p∈gX n):p.1<aO n∧p.2<aL n p.1:=by
 unfold gX at h
 simp only [List.mem_flatMap,dF,dC] at h
 obtain ⟨l,hl,j,hj,rfl⟩:=h
 exact ⟨hl,hj⟩
theorem aJg{p:Nat×Nat}{w:World}(h1:1≤n)(h20:n≤20)(hp:p∈gX n):∀ob∈X1 n c R (aU n R B) p (bY R n p.1 p.2),ob.Any Xt w:=by
 obtain ⟨hl,hj⟩:=aZp hp
 have hh:=oQ n
 have hs:=Y2 (n:=n) (R:=R) (B:=B) (by omega:p.1<2) hj
 intro ob hob
 unfold X1 at hob
 rcases eL.1 hob with hob|hob
 ·cases he:bY R n p.1 p.2 with
  |true=>rw [he] at hob;cases hob
  |false =>
   rw [he] at hob
   simp only [cond_false,bG,cK,or_false] at hob
   subst hob
   show (!(decide ((ee n (aU n R B) p.1 p.2).dig=Sh.shaF (bP n R (aU n R B) p.1 p.2).bytes)&&true))=false
   rw [aNQ (by omega) hj he]
   simp
 ·simp only [bG,cK,or_false] at hob
  rcases hob with rfl|rfl|rfl
  ·show (!(((ee n (aU n R B) p.1 p.2).s:Int)==0))=!(bY R n p.1 p.2)
   rw [hs]
   cases bY R n p.1 p.2
   ·simp only [cond_false]
    have:((((aV (B (num n p.1 p.2))+1:Nat):Int))==0)=false:=by
     rw [beq_eq_false_iff_ne];omega
    rw [this]
   ·rfl
  ·intro E hE _
   refine X8 hE (bB (by kernel_rfl)) λr vals w hg ha hm=>?_
   rw [(aCm n h1 h20 c R (aU n R B)).2.1] at hm
   have h01:p.1=0∨p.1=1:=by omega
   rcases h01 with e|e
   ·rw [e] at hj ⊢
    refine aMK h1 h20 hj (vals:=vals) (r:=r) ?_ hm
    have ha':=ha
    rw [e] at ha'
    exact ha'
   ·rw [e] at hj ⊢
    refine a76 h1 h20 (by omega) hj (vals:=vals) (r:=r) ?_ hm
    have ha':=ha
    rw [e] at ha'
    exact ha'
  ·show decide (((ee n (aU n R B) p.1 p.2).s:Int)=0)=bY R n p.1 p.2
   rw [hs]
   cases bY R n p.1 p.2
   ·simp only [cond_false]
    exact decide_eq_false (by omega)
   ·rfl
theorem aZz{w:World}{p q:aB}{obs:List b8}{e:Bool}{k:Nat}{ls lh:List Nat}(h:(ckD e p).map (λy=>(A7 ls lh (gQ S0 HJ Xt k y.1),y.2))=some (q,obs))(ho:∀ob∈obs,ob.Any Xt w){r0:List aF}{Q0:cM}(h0:e8 Xt.P Q0)(hq:Xp (E0 Xt w) r0 Q0 q):Xp (E0 Xt w) r0 Q0 p:=by
 obtain ⟨y,hy,hy2⟩:=dE.1 h
 simp only [cH] at hy2
 obtain ⟨e1,e2⟩:=hy2
 refine sD (E:=E0 Xt w) (q:=y.1) (obs:=y.2) aH xO h0 hy (by rw [e2];exact ho) ?_
 refine jP (S:=S0) (E:=E0 Xt w) aH xO h0 k (aDQ ls lh ?_)
 show Xp (E0 Xt w) r0 Q0 (A7 ls lh (gQ S0 HJ Xt k y.1))
 rw [e1]
 exact hq
theorem aJL{w:World}(h1:5≤n)(h20:n≤20){r0:List aF}{Q0:cM}(h0:e8 Xt.P Q0):∀k,k≤(gX n).length-1->Xp (E0 Xt w) r0 Q0 (PC n c R (aU n R B) (gU n k))->Xp (E0 Xt w) r0 Q0 (PC n c R (aU n R B) (gU n 0))
 |0,_,h=>h
 |k+1,hk,h=>by
  refine aJL h1 h20 h0 k (by omega) ?_
  have hr:=cW (aLO n h1 h20 c R (aU n R B)).2.1 (dF.2 (show k<(gX n).length-1 by omega))
  have hmem:gU n k∈gX n:=by
   unfold gU
   rw [cP,eZ (show k<(gX n).length by omega)]
   exact List.getElem_mem _
  have hx:=cW hr (show bY R n (gU n k).1 (gU n k).2∈[true,false] by cases bY R n (gU n k).1 (gU n k).2<;>simp)
  exact aZz hx (aJg (by omega) h20 hmem) h0 h
theorem a8N(h1:1≤n)(h20:n≤20){r:List aF}{vals:List Value}{w:World}(ha:aX r (bEF n c) vals)(hm:aG (E0 Xt w) r (hpC n R (aU n R B)) 3 w):
 Calls Xt.P 186 vals.toArray w λe w'=>e=.returned .nilIface∧Below w.heap.size w w':=by
 have fin:∀{q:aB},(dS Xt 186 q).map (·.1)=some (.v .nilIface)->(∀Q0:cM,e8 Xt.P Q0->Xp (E0 Xt w) r Q0 q->Xp (E0 Xt w) r Q0 (ckP n c R (aU n R B))) ->
  Calls Xt.P 186 vals.toArray w λe w'=>e=.returned .nilIface∧Below w.heap.size w w':=by
  intro q hq hseg
  obtain ⟨⟨res,st⟩,h4,h5⟩:=dE.1 hq
  simp only at h5
  subst h5
  refine (xG (E:=E0 Xt w) (g:=186) (args:=bEF n c) (λQ0 h0 hx=>jP (S:=S0) (E:=E0 Xt w) aH xO h0 14 (hseg Q0 h0 hx)) h4 ha hm).mono ?_
  rintro e w' ⟨q,v,rfl,hd,hm'⟩
  cases hd
  exact ⟨rfl,hm'.below⟩
 by_cases h5:n≤4
 ·exact fin (a5X n h1 h5 c R (aU n R B)) λ_ _ h=>h
 ·have hck:=aLO n (by omega) h20 c R (aU n R B)
  have hpos:0<(gX n).length:=by
   have:∀m:Fin 16,0<(gX (m.1+5)).length:=by decide
   have h:=this ⟨n-5,by omega⟩
   simpa [show n-5+5=n by omega] using h
  have hmem:gU n ((gX n).length-1)∈gX n:=by
   unfold gU
   rw [cP,eZ (show (gX n).length-1<(gX n).length by omega)]
   exact List.getElem_mem _
  have hx:=cW hck.2.2 (show bY R n (gU n ((gX n).length-1)).1 (gU n ((gX n).length-1)).2∈[true,false] by cases bY R n (gU n ((gX n).length-1)).1 (gU n ((gX n).length-1)).2<;>simp)
  unfold aN8 aJ0 at hx
  obtain ⟨y,hy,hy2⟩:=dE.1 hx
  simp only [cH] at hy2
  obtain ⟨e1,e2⟩:=hy2
  refine fin e1 λQ0 h0 hq=>?_
  refine aDQ lsC (lhC n (gU n 0)) ?_
  rw [hck.1]
  refine aJL (by omega) h20 h0 _ (aS _) ?_
  refine sD (E:=E0 Xt w) (q:=y.1) (obs:=y.2) aH xO h0 hy (by rw [e2];exact aJg h1 h20 hmem) ?_
  exact jP (S:=S0) (E:=E0 Xt w) aH xO h0 13 hq
theorem aLz(h1:1≤n)(h20:n≤20):aB0 n R (aU n R B):=by
 intro g c w hg hr
 have hva:=a4a n h1 h20 c R (aU n R B)
 unfold gZ aJQ aN5 at hva
 obtain ⟨y,hy,hy2⟩:=dE.1 hva
 simp only [cH] at hy2
 obtain ⟨e1,e2⟩:=hy2
 obtain ⟨⟨res,st⟩,h4,h5⟩:=dE.1 e1
 simp only at h5
 subst h5
 have htot:0<aT n:=by have:=yW (n:=n) (lv:=0) (i:=0) h1 h20 (by omega) (by unfold aL;omega);omega
 have hm:aG (E0 Xt w) ([]++[⟨g,0,c,none,λ_=>False⟩]) (fD [(0,some ⟨67,f9 n R (aU n R B),2⟩)]) 1 w:=(aG.start Xt w hg).addR (c:=c) (T:=67) gM.start hr htot (aS _) (aS _) (aEF [] n R (aU n R B))
 refine (xG (E:=E0 Xt w) (vals:=[.agg #[.int .i64 (n:Int),.slice (some ⟨g,0,none⟩) (aT n) c]]) (g:=50) (args:=[.a (vO n c)]) (λQ0 h0 hq=>?_) h4 ?_ hm).mono ?_
 ·refine jP (S:=S0) (E:=E0 Xt w) aH aGG h0 14 (sD (E:=E0 Xt w) (q:=y.1) (obs:=y.2) aH aGG h0 hy ?_ (jP (S:=S0) (E:=E0 Xt w) aH aGG h0 12 hq))
  intro ob hob
  rw [e2] at hob
  simp only [bG,cK,or_false] at hob
  subst hob
  intro E hE _
  refine X8 hE (bB (by kernel_rfl)) λr vals w hg ha hm=>?_
  rw [(aCm n h1 h20 c R (aU n R B)).2.2.1] at hm
  have ha':aX r ([SV.a (wR n (nC n) (nF n)),.a (vO n c)].map (lW [0,nC n,nF n])) vals:=ha
  rw [(aCm n h1 h20 c R (aU n R B)).2.2.2] at ha'
  exact a8N h1 h20 ha' hm
 ·exact .cons (.a (vs:=[.int .i64 (n:Int),.slice (some ⟨g,0,none⟩) (aT n) c]) (.node (us:=[.int .i64 (n:Int)]) (.one (.v _) rfl) (.one (.s (L:=⟨g,0,c,none,λ_=>False⟩) (o:=0) rfl) rfl) rfl rfl)) .nil
 ·rintro e w' ⟨q,v,rfl,hd,hm'⟩
  cases hd
  exact ⟨rfl,hm'.below⟩
end
