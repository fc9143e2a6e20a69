/- A part of the proof of TopSealed. -/
import Derived.Test.YtjboelhcieepkaaGreatDoorW9
noncomputable section
set_option maxRecDepth 16384
namespace Go.Proofs.YtjboelhcieepkaaGreatDoor
open Go.RowKit
section
variable {r:List aF}
def aBP(l:List Nat):Bool:=List.rec true (λx _ ih=>Bool.rec false ih (Nat.beq x 0)) l
def vT(l:List Nat):Bool:=List.rec true (λx _ ih=>Bool.rec false ih (Nat.blt x 256)) l
def zZ(l:List Nat)(n:Nat):Bool:=Nat.beq l.length n
theorem aHG:∀{l:List Nat},aBP l=true->l=List.replicate l.length 0
 |[],_=>rfl
 |x::l,h=>by
  have h':(Bool.rec false (aBP l) (Nat.beq x 0):Bool)=true:=h
  cases hx:Nat.beq x 0 with
  |false=>rw [hx] at h';cases h'
  |true =>
   rw [hx] at h'
   obtain rfl:=eU hx
   exact congrArg (0::·) (aHG h')
theorem V0:∀{l:List Nat},vT l=true->Sh.Byt l
 |[],_=>λx hx=>by cases hx
 |x::l,h=>by
  have h':(Bool.rec false (vT l) (Nat.blt x 256):Bool)=true:=h
  rw [bO] at h'
  by_cases hx:x<256
  ·simp only [hx,decide_true] at h'
   intro y hy
   rcases bG.1 hy with rfl|hy
   ·exact hx
   ·exact V0 h' y hy
  ·simp [hx] at h'
def xF(s sh c:Nat)(tag:List Nat):Bool:=(Nat.ble s 2&&(Nat.blt 0 s || (Nat.beq sh 0&&(Nat.beq c 0&&aBP tag))))&&(Nat.blt sh 4294967296&&(Nat.blt c 18446744073709551616&&(zZ tag 32&&vT tag)))
def yN(s sh c:Nat)(tag:List Nat):Option aA:=match h:xF s sh c tag with
 |true=>some ⟨s,sh,c,tag,by
  simp only [xF,bJ] at h;exact Nat.le_of_ble_eq_true h.1.1,by
  intro h0
  simp only [xF,bJ,Bool.or_eq_true,bO,bR,zZ] at h
  rcases h.1.2 with h1|⟨h1,h2,h3⟩
  ·omega
  ·have h4:=aHG h3
   rw [eU h.2.2.2.1] at h4
   exact ⟨eU h1,eU h2,h4⟩,by
  simp only [xF,bJ,bO,bR] at h;exact h.2.1,by
  simp only [xF,bJ,bO,bR] at h;exact h.2.2.1,by
  simp only [xF,bJ,zZ] at h;exact eU h.2.2.2.1,by
  simp only [xF,bJ] at h;exact V0 h.2.2.2.2⟩
 |false=>none
theorem aIx{s sh c:Nat}{tag:List Nat}{x:aA}(h:yN s sh c tag=some x):x.s=s∧x.sh=sh∧x.c=c∧x.tag=tag:=by
 unfold yN at h
 split at h
 ·cases h;exact ⟨rfl,rfl,rfl,rfl⟩
 ·cases h
def entB(s:Nat)(dig:List Nat):Bool:=(Nat.ble s 2&&(Nat.blt 0 s || aBP dig))&&(zZ dig 32&&vT dig)
def uG(s:Nat)(dig:List Nat):Option aJ:=match h:entB s dig with
 |true=>some ⟨s,dig,by
  simp only [entB,bJ] at h;exact Nat.le_of_ble_eq_true h.1.1,by
  intro h0
  simp only [entB,bJ,Bool.or_eq_true,bO,bR,zZ] at h
  rcases h.1.2 with h1|h3
  ·omega
  ·have h4:=aHG h3
   rwa [eU h.2.1] at h4,by
  simp only [entB,bJ,zZ] at h;exact eU h.2.1,by
  simp only [entB,bJ] at h;exact V0 h.2.2⟩
 |false=>none
theorem aKB{s:Nat}{dig:List Nat}{x:aJ}(h:uG s dig=some x):x.s=s∧x.dig=dig:=by
 unfold uG at h
 split at h
 ·cases h;exact ⟨rfl,rfl⟩
 ·cases h
def iA:Rp SV->List (Rp SV)->List (Rp SV):=C1 λa l=>.q a::l
theorem hZ(c:Rp SV){us:List Value}(h:aD r c us):cE r (iA c []) us:=by
 have:=aEp (r:=r) (g:=λa l=>.q a::l) (λa _ _ t=>.cons (.q a) t) c h .nil
 rwa [eC] at this
def aGz(s:Nat)(x y:aA):Option aA:=match h:Nat.ble s 2&&Nat.blt 0 s with
 |true=>some ⟨s,x.sh,x.c,y.tag,by simp only [bJ] at h;exact Nat.le_of_ble_eq_true h.1,by
  simp only [bJ,bO,bR] at h;intro h0;omega,x.hsh,x.hc,y.ht,y.hb⟩
 |false=>yN s x.sh x.c y.tag
theorem bDl{s:Nat}{x y z:aA}(h:aGz s x y=some z):z.s=s∧z.sh=x.sh∧z.c=x.c∧z.tag=y.tag:=by
 unfold aGz at h
 split at h
 ·cases h;exact ⟨rfl,rfl,rfl,rfl⟩
 ·exact aIx h
def aAm(s:Nat)(dig:List Nat)(ht:dig.length=32)(hb:Sh.Byt dig):Option aJ:=match h:Nat.ble s 2&&Nat.blt 0 s with
 |true=>some ⟨s,dig,by simp only [bJ] at h;exact Nat.le_of_ble_eq_true h.1,by
  simp only [bJ,bO,bR] at h;intro h0;omega,ht,hb⟩
 |false=>uG s dig
theorem aI0{s:Nat}{dig:List Nat}{ht:dig.length=32}{hb:Sh.Byt dig}{z:aJ}(h:aAm s dig ht hb=some z):z.s=s∧z.dig=dig:=by
 unfold aAm at h
 split at h
 ·cases h;exact ⟨rfl,rfl⟩
 ·exact aKB h
def aED:List (Rp SV)->Option aA
 |[.one (.v (.int .u8 (.ofNat s))),.one (.v (.int .u32 (.ofNat sh))),.one (.v (.int .u64 (.ofNat c))),.arr .u8 _ tag]=>yN s sh c tag
 |_=>none
def aJK(c:Rp SV):List (Rp SV)->Option aA
 |[.one (.v (.int .u8 (.ofNat s))),.q (.nnc x),.q (.tag y)]=>aGz s x y
 |_=>aED (tC c [])
def gT:Rp SV->Option aA
 | .q (.rcd x)=>some x
 |c=>aJK c (iA c [])
def aDD:List (Rp SV)->Option aJ
 |[.one (.v (.int .u8 (.ofNat s))),.arr .u8 _ dig]=>uG s dig
 |_=>none
def aK7(c:Rp SV):List (Rp SV)->Option aJ
 |[.one (.v (.int .u8 (.ofNat s))),.q (.dig y)]=>aAm s y.dig y.ht y.hb
 |[.one (.v (.int .u8 (.ofNat s))),.q (.sha l)]=>aAm s (Sh.shaF l) (pS l) (rK l)
 |_=>aDD (tC c [])
def gP:Rp SV->Option aJ
 | .q (.ent x)=>some x
 |c=>aK7 c (iA c [])
theorem bQ{x:Value}{us:List Value}(h:aD r (.one (.v x)) us):us=[x]:=by cases h with|one h _=>cases h;rfl
theorem fJ{k:IntKind}{n:Nat}{l:List Nat}{us:List Value}(h:aD r (.arr k n l) us):us=nv k l:=by cases h;rfl
theorem a3O{l:List (Rp SV)}{x:aA}{us:List Value}(h:aED l=some x)(d:cE r l us):us=x.vals:=by
 unfold aED at h
 split at h
 ·obtain ⟨h1,h2,h3,h4⟩:=aIx h
  cases d with
  |cons d1 d=>cases d with
   |cons d2 d=>cases d with
    |cons d3 d=>cases d with
     |cons d4 d =>
      cases d
      rw [bQ d1,bQ d2,bQ d3,fJ d4]
      simp [aA.vals,aA.nnc,h1,h2,h3,h4]
 ·cases h
theorem aAT{c:Rp SV}{x:aA}{us:List Value}(h:gT c=some x)(d:aD r c us):us=x.vals:=by
 unfold gT at h
 split at h
 ·cases h;cases d;rfl
 ·have hb:=hZ c d
  unfold aJK at h
  split at h
  ·rename_i e
   rw [e] at hb
   obtain ⟨h1,h2,h3,h4⟩:=bDl h
   cases hb with
   |cons d1 hb=>cases hb with
    |cons d2 hb=>cases hb with
     |cons d3 hb =>
      cases hb
      rw [bQ d1]
      cases d2;cases d3
      simp [aA.vals,aA.nnc,At.vals,h1,h2,h3,h4]
  ·have:=a3O h (F3 c d .nil)
   simpa using this
theorem aSA{l:List (Rp SV)}{x:aJ}{us:List Value}(h:aDD l=some x)(d:cE r l us):us=x.vals:=by
 unfold aDD at h
 split at h
 ·obtain ⟨h1,h2⟩:=aKB h
  cases d with
  |cons d1 d=>cases d with
   |cons d2 d =>
    cases d
    rw [bQ d1,fJ d2]
    simp [aJ.vals,h1,h2]
 ·cases h
theorem aAY{c:Rp SV}{x:aJ}{us:List Value}(h:gP c=some x)(d:aD r c us):us=x.vals:=by
 unfold gP at h
 split at h
 ·cases h;cases d;rfl
 ·have hb:=hZ c d
  unfold aK7 at h
  split at h
  ·rename_i e
   rw [e] at hb
   obtain ⟨h1,h2⟩:=aI0 h
   cases hb with
   |cons d1 hb=>cases hb with
    |cons d2 hb =>
     cases hb
     rw [bQ d1]
     cases d2
     simp [aJ.vals,At.vals,h1,h2]
  ·rename_i e
   rw [e] at hb
   obtain ⟨h1,h2⟩:=aI0 h
   cases hb with
   |cons d1 hb=>cases hb with
    |cons d2 hb =>
     cases hb
     rw [bQ d1]
     cases d2
     simp [aJ.vals,At.vals,h1,h2]
  ·have:=aSA h (F3 c d .nil)
   simpa using this
def eF{α:Type}(f:Rp SV->Option α)(c:Rp SV)(o n:Nat):Option α:=match uN c o n with
 |some d=>f d
 |none=>none
def zE(o:Option aJ):Bool:=match o with
 |some x=>Nat.beq x.s 0
 |none=>false
def zR(o:Option aA):Bool:=match o with
 |some x=>Nat.beq x.s 0
 |none=>false
def M9(ix:Nat):Option aA->Option aA->Option aA->Option aA->Option bD
 |some a,some b,some c,some d=>match h:Nat.ble ix 7 with
  |true=>some (.leaf ix a b c d (Nat.le_of_ble_eq_true h))
  |false=>none
 |_,_,_,_=>none
def oY(lv ix:Nat):Option aJ->Option aJ->Option aJ->Option aJ->Option bD
 |some a,some b,some c,some d=>match h:Nat.ble ix 7&&(Nat.ble 1 lv&&Nat.ble lv 2) with
  |true=>some (.inner lv ix a b c d (by simp only [bJ] at h;exact ⟨Nat.le_of_ble_eq_true h.2.1,Nat.le_of_ble_eq_true h.2.2⟩) (by simp only [bJ] at h;exact Nat.le_of_ble_eq_true h.1))
  |false=>none
 |_,_,_,_=>none
def aNA(c:Rp SV):Option SV->Option SV->Option bD
 |some (.v (.int .u8 (.ofNat 0))),some (.v (.int .u32 (.ofNat ix))) =>
  bif Nat.beq (dK c) 274&&(zE (eF gP c 142 33)&&(zE (eF gP c 175 33)&&(zE (eF gP c 208 33)&&zE (eF gP c 241 33)))) then
   M9 ix (eF gT c 2 35) (eF gT c 37 35) (eF gT c 72 35) (eF gT c 107 35) else none
 |some (.v (.int .u8 (.ofNat (lv+1)))),some (.v (.int .u32 (.ofNat ix))) =>
  bif Nat.beq (dK c) 274&&(zR (eF gT c 2 35)&&(zR (eF gT c 37 35)&&(zR (eF gT c 72 35)&&zR (eF gT c 107 35)))) then
   oY (lv+1) ix (eF gP c 142 33) (eF gP c 175 33) (eF gP c 208 33) (eF gP c 241 33) else none
 |_,_=>none
def nG:Rp SV->Option bD
 | .q (.node x)=>some x
 |c=>aNA c (aAW c 0) (aAW c 1)
theorem aXU{x:aJ}(h:x.s=0):x.vals=cC.vals:=by simp [aJ.vals,h,x.h0 h,cC]
theorem bDc{x:aA}(h:x.s=0):x.vals=dG.vals:=by
 obtain ⟨h1,h2,h3⟩:=x.h0 h
 simp [aA.vals,aA.nnc,h,h1,h2,h3,dG]
theorem O6{c:Rp SV}{us:List Value}{o:Nat}{x:aJ}(d:aD r c us)(h:eF gP c o 33=some x):(us.drop o).take 33=x.vals:=by
 unfold eF at h
 split at h
 ·rename_i e he
  exact aAY h (d.sub he).1
 ·cases h
theorem M6{c:Rp SV}{us:List Value}{o:Nat}{x:aA}(d:aD r c us)(h:eF gT c o 35=some x):(us.drop o).take 35=x.vals:=by
 unfold eF at h
 split at h
 ·rename_i e he
  exact aAT h (d.sub he).1
 ·cases h
theorem aB2{c:Rp SV}{us:List Value}{o:Nat}(d:aD r c us)(h:zE (eF gP c o 33)=true):(us.drop o).take 33=cC.vals:=by
 unfold zE at h
 split at h
 ·rename_i x hx
  rw [O6 d hx,aXU (eU h)]
 ·cases h
theorem aAJ{c:Rp SV}{us:List Value}{o:Nat}(d:aD r c us)(h:zR (eF gT c o 35)=true):(us.drop o).take 35=dG.vals:=by
 unfold zR at h
 split at h
 ·rename_i x hx
  rw [M6 d hx,bDc (eU h)]
 ·cases h
theorem cut(us:List Value)(o n:Nat):us.drop o=(us.drop o).take n++us.drop (o+n):=by
 rw [show us.drop (o+n)=(us.drop o).drop n by rw [List.drop_drop]]
 exact (List.take_append_drop n _).symm
theorem aJ6{us:List Value}{a b:Value}(h:us.length=274)(h0:us[0]?=some a)(h1:us[1]?=some b):
 us=[a]++([b]++(((us.drop 2).take 35++((us.drop 37).take 35++((us.drop 72).take 35++(us.drop 107).take 35)))++((us.drop 142).take 33++((us.drop 175).take 33++((us.drop 208).take 33++(us.drop 241).take 33))))):=by
 match us,h,h0,h1 with
 |x::y::us,h,h0,h1 =>
  simp only [List.getElem?_cons_zero,List.getElem?_cons_succ,b6] at h0 h1
  subst h0 h1
  simp only [List.length_cons] at h
  have e:us=us.take 35++us.drop 35:=(List.take_append_drop 35 us).symm
  have hd:us.drop 272=[]:=kI (by omega)
  simp only [List.singleton_append,List.drop_succ_cons,List.cons.injEq,true_and,List.append_assoc]
  rw [List.drop_zero]
  have c1:=cut us 35 35;have c2:=cut us 70 35;have c3:=cut us 105 35;have c4:=cut us 140 33;have c5:=cut us 173 33;have c6:=cut us 206 33;have c7:=cut us 239 33
  simp only [Nat.reduceAdd] at c1 c2 c3 c4 c5 c6 c7
  rw [hd,eC] at c7
  rw [<-c7,<-c6,<-c5,<-c4,<-c3,<-c2,<-c1]
  exact e
theorem wO{c:Rp SV}{x:bD}{us:List Value}(h:nG c=some x)(d:aD r c us):us=x.vals:=by
 unfold nG at h
 split at h
 ·cases h;cases d;rfl
 ·unfold aNA at h
  split at h
  ·rename_i ix g0 g1
   obtain ⟨v0,hv0,dv0⟩:=d.get g0
   obtain ⟨v1,hv1,dv1⟩:=d.get g1
   cases dv0;cases dv1
   generalize hb:(Nat.beq (dK c) 274&&(zE (eF gP c 142 33)&&(zE (eF gP c 175 33)&&(zE (eF gP c 208 33)&&zE (eF gP c 241 33)))))=bb at h
   cases bb with
   |false=>cases h
   |true =>
    simp only [bJ] at hb
    obtain ⟨hs,z1,z2,z3,z4⟩:=hb
    have hl:us.length=274:=by rw [d.length_eq];exact eU hs
    have h':M9 ix (eF gT c 2 35) (eF gT c 37 35) (eF gT c 72 35) (eF gT c 107 35)=some x:=h
    unfold M9 at h'
    split at h'
    ·rename_i e1 e2 e3 e4
     split at h'
     ·cases h'
      rw [aJ6 hl hv0 hv1,M6 d e1,M6 d e2,M6 d e3,M6 d e4,aB2 d z1,aB2 d z2,aB2 d z3,aB2 d z4]
      rfl
     ·cases h'
    ·cases h'
  ·rename_i lv ix g0 g1
   obtain ⟨v0,hv0,dv0⟩:=d.get g0
   obtain ⟨v1,hv1,dv1⟩:=d.get g1
   cases dv0;cases dv1
   generalize hb:(Nat.beq (dK c) 274&&(zR (eF gT c 2 35)&&(zR (eF gT c 37 35)&&(zR (eF gT c 72 35)&&zR (eF gT c 107 35)))))=bb at h
   cases bb with
   |false=>cases h
   |true =>
    simp only [bJ] at hb
    obtain ⟨hs,z1,z2,z3,z4⟩:=hb
    have hl:us.length=274:=by rw [d.length_eq];exact eU hs
    have h':oY (lv+1) ix (eF gP c 142 33) (eF gP c 175 33) (eF gP c 208 33) (eF gP c 241 33)=some x:=h
    unfold oY at h'
    split at h'
    ·rename_i e1 e2 e3 e4
     split at h'
     ·cases h'
      rw [aJ6 hl hv0 hv1,O6 d e1,O6 d e2,O6 d e3,O6 d e4,aAJ d z1,aAJ d z2,aAJ d z3,aAJ d z4]
      rfl
     ·cases h'
    ·cases h'
  ·cases h
end
theorem aA.byt(x:aA):Sh.Byt x.bytes:=by
 intro y hy
 simp only [aA.bytes,aA.nncB,eL,iY] at hy
 rcases hy with rfl|(h|h)|h
 ·have:=x.hs;omega
 ·exact Sh.beB_byt _ _ y h
 ·exact Sh.beB_byt _ _ y h
 ·exact x.hb y h
theorem aJ.byt(x:aJ):Sh.Byt x.bytes:=by
 intro y hy
 simp only [aJ.bytes,eL,iY] at hy
 rcases hy with rfl|h
 ·have:=x.hs;omega
 ·exact x.hb y h
theorem bD.byt(x:bD):Sh.Byt x.bytes:=by
 intro y hy
 cases x with
 |leaf ix a b c d h =>
  simp only [bD.bytes,eL,iY] at hy
  rcases hy with rfl|h|h|h|h|h
  ·omega
  ·exact Sh.beB_byt _ _ y h
  all_goals exact aA.byt _ y h
 |inner lv ix a b c d hl h =>
  simp only [bD.bytes,eL,iY] at hy
  rcases hy with rfl|h|h|h|h|h
  ·omega
  ·exact Sh.beB_byt _ _ y h
  all_goals exact aJ.byt _ y h
def qA:Rp SV->Option (List Nat)
 | .nil=>some []
 | .one (.v (.int .u8 (.ofNat k)))=>bif Nat.blt k 256 then some [k] else none
 | .one _=>none
 | .arr .u8 _ l=>bif vT l then some l else none
 | .arr _ _ _=>none
 | .q (.rcdB x)=>some x.bytes
 | .q (.entB x)=>some x.bytes
 | .q (.nncB x)=>some x.nncB
 | .q (.nodeB x)=>some x.bytes
 | .q (.tag x)=>some x.tag
 | .q (.dig x)=>some x.dig
 | .q (.sha l)=>some (Sh.shaF l)
 | .q (.byt x)=>some x.l
 | .q _=>none
 | .node _ _ a b=>match qA a,qA b with
  |some l,some m=>some (l++m)
  |_,_=>none
theorem M4{l m:List Nat}(hl:Sh.Byt l)(hm:Sh.Byt m):Sh.Byt (l++m):=λx hx=>(eL.1 hx).elim (hl x) (hm x)
theorem aKw{r:List aF}:∀{c:Rp SV} {l:List Nat} {us:List Value},qA c=some l->aD r c us->us=nv .u8 l∧Sh.Byt l:=by
 intro c
 induction c with
 |nil=>intro l us h d;cases h;cases d;exact ⟨rfl,λx hx=>by cases hx⟩
 |one x =>
  intro l us h d
  unfold qA at h
  split at h<;>try (rename_i e;cases e)
  ·rename_i k
   cases hk:Nat.blt k 256 with
   |false=>rw [hk] at h;cases h
   |true =>
    rw [hk] at h;cases h
    rw [bO,bR] at hk
    refine ⟨bQ d,λy hy=>?_⟩
    rw [iY] at hy;omega
  ·cases h
 |arr k n m =>
  intro l us h d
  unfold qA at h
  split at h<;>try (rename_i e;cases e)
  ·cases hk:vT m with
   |false=>rw [hk] at h;cases h
   |true=>rw [hk] at h;cases h;exact ⟨fJ d,V0 hk⟩
  ·cases h
 |q a =>
  intro l us h d
  cases d
  cases a with
  |rcdB x=>cases h;exact ⟨rfl,x.byt⟩
  |entB x=>cases h;exact ⟨rfl,x.byt⟩
  |nncB x=>cases h;exact ⟨rfl,M4 (Sh.beB_byt _ _) (Sh.beB_byt _ _)⟩
  |nodeB x=>cases h;exact ⟨rfl,x.byt⟩
  |tag x=>cases h;exact ⟨rfl,x.hb⟩
  |dig x=>cases h;exact ⟨rfl,x.hb⟩
  |sha l=>cases h;exact ⟨rfl,rK l⟩
  |byt x=>cases h;exact ⟨rfl,x.hb⟩
  |_=>cases h
 |node s t a b iha ihb =>
  intro l us h d
  unfold qA at h
  split at h
  ·rename_i x y ha hb
   cases h
   cases d with
   |node d1 d2 _ _ =>
    obtain ⟨rfl,b1⟩:=iha ha d1
    obtain ⟨rfl,b2⟩:=ihb hb d2
    exact ⟨wZ _ _ _,M4 b1 b2⟩
  ·cases h
def zA(hp:Tr):SV->Option (List Nat×Nat)
 | .s n o l c=>bif Nat.ble l c then (match jH hp 1 (.s n o l c) with
  |some (_,cs)=>(match qA cs with
   |some b=>some (b,l)
   |none=>none)
  |none=>none) else none
 | .w n l=>(match jH hp 1 (.w n l) with
  |some (_,cs)=>(match qA cs with
   |some b=>some (b,l)
   |none=>none)
  |none=>none)
 | .v (.slice none 0 _)=>some ([],0)
 |_=>none
def aAd(hp:Tr):List (Rp SV)->Option (List (List Nat)×Nat)
 |[]=>some ([],0)
 | .one x::l=>match zA hp x,aAd hp l with
  |some (b,k),some (bs,t)=>some (b::bs,k+t)
  |_,_=>none
 |_=>none
section
variable {E:bX}{r:List aF}{hp:Tr}{nx:Nat}{w:World}
theorem Y4(hm:aG E r hp nx w){x:SV}{v:Value}{b:List Nat}{l:Nat}(h:zA hp x=some (b,l))(d:aP r x v):
 ∃A c,v=.slice A l c∧l≤c∧bH w w.heap.size 1 A l (nv .u8 b)∧Sh.Byt b∧b.length=l:=by
 have key:∀{y:SV} {m:Nat} {cs:Rp SV},aP r y v->jH hp 1 y=some (m,cs)->∀{b:List Nat},qA cs=some b->∃A c,v=.slice A m c∧bH w w.heap.size 1 A m (nv .u8 b)∧Sh.Byt b∧b.length=m:=by
  intro y m cs dy hs b hb
  obtain ⟨A,c,zs,e,hd,hl,hr⟩:=uX hm dy hs
  obtain ⟨rfl,hby⟩:=aKw hb hd
  exact ⟨A,c,e,hr,hby,by rw [aZ] at hl;omega⟩
 unfold zA at h
 split at h
 ·rename_i n o m c
  cases hq:Nat.ble m c with
  |false=>rw [hq] at h;cases h
  |true =>
   rw [hq] at h
   simp only [cond_true] at h
   split at h
   ·rename_i m' cs hs
    split at h
    ·rename_i hb
     cases h
     obtain ⟨A,c',e,h1,h2,h3⟩:=key d hs hb
     cases d
     cases e
     exact ⟨_,_,rfl,Nat.le_of_ble_eq_true hq,h1,h2,h3⟩
    ·cases h
   ·cases h
 ·rename_i n m
  split at h
  ·rename_i m' cs hs
   split at h
   ·rename_i hb
    cases h
    obtain ⟨A,c',e,h1,h2,h3⟩:=key d hs hb
    cases d with
    |w hL hl=>cases e;exact ⟨_,_,rfl,hl,h1,h2,h3⟩
   ·cases h
  ·cases h
 ·cases h
  cases d
  exact ⟨none,_,rfl,Nat.zero_le _,⟨rfl,λh=>absurd h (by omega)⟩,(λx hx=>by cases hx),rfl⟩
 ·cases h
theorem aIR(hm:aG E r hp nx w):∀{l:List (Rp SV)} {ms:List (List Nat)} {t:Nat} {us:List Value},aAd hp l=some (ms,t)->cE r l us ->
 us.length=ms.length∧ms.flatten.length=t∧∀j,j<ms.length->∃Ai ni ci,us[j]?=some (.slice Ai ni ci)∧ni≤ci∧bH w w.heap.size 1 Ai ni (nv .u8 (ms.getD j []))∧Sh.Byt (ms.getD j [])
 |[],ms,t,us,h,d=>by cases h;cases d;exact ⟨rfl,rfl,λj hj=>absurd hj (by simp)⟩
 | .one x::l,ms,t,us,h,d=>by
  unfold aAd at h
  split at h
  ·rename_i b k bs t' hb hbs
   cases h
   cases d with
   |cons d1 d2=>cases d1 with
    |one d1 _ =>
     obtain ⟨A,c,rfl,h1,h2,h3,h4⟩:=Y4 hm hb d1
     obtain ⟨e1,e2,e3⟩:=aIR hm hbs d2
     refine ⟨by simp [e1],by simp [h4,e2],λj hj=>?_⟩
     cases j with
     |zero=>exact ⟨A,_,c,rfl,h1,by simpa using h2,by simpa using h3⟩
     |succ j=>simpa using e3 j (by simpa using hj)
  ·cases h
 | .nil::_,_,_,_,h,_=>by cases h
 | .arr ..::_,_,_,_,h,_=>by cases h
 | .node ..::_,_,_,_,h,_=>by cases h
 | .q ..::_,_,_,_,h,_=>by cases h
end
theorem M0{w:World}(h:cG Xt w):kA w:=by
 have hk:Xt.G 2=some (.arr .u32 64 Sh.kL):=rfl
 have hh:Xt.G 1=some (.arr .u32 8 Sh.hL):=rfl
 obtain ⟨vs,d1,l1,c1⟩:=h _ _ hk
 obtain ⟨us,d2,l2,c2⟩:=h _ _ hh
 rw [fJ d1] at c1
 rw [fJ d2] at c2
 exact ⟨λj v hv=>by simpa using c1 j v hv,λj v hv=>by simpa using c2 j v hv,l1,l2⟩
def aD2:bV:=λargs hp nx=>match args with
 |[x]=>(match jH hp 1 x with
  |some (n,c)=>(match aAd hp (tC c []) with
   |some (ms,t)=>bif Nat.blt n 4611686018427387904&&Nat.blt t 1152921504606846976 then some (.a (.q (.sha ms.flatten)),⟨⟨.e,0⟩,hp,nx⟩) else none
   |none=>none)
  |none=>none)
 |_=>none
theorem aUA:bN Xt 10 aD2:=by
 intro args hp nx res st hl E r vals w hE ha hm
 have hen:fQ Xt.P 10:=bB (by kernel_rfl)
 unfold aD2 at hl
 split at hl
 ·rename_i x
  split at hl
  ·rename_i n c hs
   split at hl
   ·rename_i ms t hp'
    cases hq:Nat.blt n 4611686018427387904&&Nat.blt t 1152921504606846976 with
    |false=>rw [hq] at hl;cases hl
    |true =>
     rw [hq] at hl;cases hl
     rw [bJ,bO,bO,bR,bR] at hq
     cases ha with
     |cons d tl =>
      cases tl
      obtain ⟨A,cc,zs,rfl,hd,hlen,hr⟩:=uX hm d hs
      have hf:=F3 c hd .nil
      rw [eC] at hf
      obtain ⟨e1,e2,e3⟩:=aIR hm hp' hf
      have hg:cG Xt w:=hE▸hm.globs
      have hP:J3 w w.heap.size A n ms:=by
       refine ⟨by omega,λj hj=>?_⟩
       obtain ⟨ad,rfl,hb,hc⟩:=hr.2 (by omega)
       obtain ⟨Ai,ni,ci,h1,h2,h3,h4⟩:=e3 j (by omega)
       exact ⟨ad,Ai,ni,ci,rfl,hb,hc j _ h1,h2,h3,h4⟩
      refine ⟨λw'=>hen _ w',(aTT ms n cc w.heap.size A w (M0 hg) hP hq.1 (aS _) (by rw [e2];exact hq.2)).mono ?_⟩
      rintro e w' ⟨rfl,hb⟩
      refine ⟨[],_,rfl,.a ?_,by simpa using hm.grow hb⟩
      rw [<-Sh.shaF_eq]
      exact .q (.sha ms.flatten)
   ·cases hl
  ·cases hl
 ·cases hl
theorem vI{r:List aF}{c:Rp SV}{vals:List Value}(h:aX r [.a c] vals):∃us,vals=[.agg us.toArray]∧aD r c us:=by
 cases h with
 |cons d t =>
  cases t
  cases d with
  |a d=>exact ⟨_,rfl,d⟩
def r9{α:Type}(p:Rp SV->Option α)(f:α->SV)(args:List SV):Option SV:=match args with
 |[.a c]=>(match p c with
  |some x=>some (f x)
  |none=>none)
 |_=>none
theorem O3{α:Type}{p:Rp SV->Option α}{f:α->SV}{q:α->At}{u:α->Value}{g:FuncId}{H:Hk}{n:Nat}(hH:bZ Xt H)(he:fQ Xt.P g)(hp:∀c x,p c=some x->∀(r:List aF) us,aD r c us->us=(q x).vals)
 (hu:∀x (r:List aF),aP r (f x) (u x)) (hc:∀x,jJ H Xt n g [.a (.q (q x))] .e 0=some (u x)):bN Xt g (cU (r9 p f)):=jY he λargs y hf r vals w hd hg=>by
 unfold r9 at hf
 split at hf
 ·split at hf
  ·rename_i c x hx
   cases hf
   obtain ⟨us,rfl,d⟩:=vI hd
   obtain rfl:=hp _ _ hx r us d
   exact (M3 (vals:=[.agg (q x).vals.toArray]) aH hH (hc x) (.cons (.a (.q _)) .nil) hg).mono λe w' ⟨h1,h2⟩=>⟨_,h1,hu x r,h2⟩
  ·cases hf
 ·cases hf
def xU{α:Type}(p:Rp SV->Option α)(b:α->At)(args:List SV):Option (TypeId×Rp SV×Nat×Nat×Option (List SV)):=match args with
 |[.a c]=>(match p c with
  |some x=>some (5,.q (b x),(b x).size,(b x).size,some [bM])
  |none=>none)
 |_=>none
theorem aLI{α:Type}{p:Rp SV->Option α}{b q:α->At}{g:FuncId}{H:Hk}{n:Nat}(hH:bZ Xt H)(he:fQ Xt.P g)(hp:∀c x,p c=some x->∀(r:List aF) us,aD r c us->us=(q x).vals)
 (hc:∀x,R3 H Xt n g [.a (.q (q x))] .e 0=some (5,(b x).vals,(b x).size,(b x).size,some [.int .i64 0])):bN Xt g (kY (xU p b)):=xN he λargs T cs l c zs hf r vals w hd hg=>by
 unfold xU at hf
 split at hf
 ·split at hf
  ·rename_i c x hx
   cases hf
   obtain ⟨us,rfl,d⟩:=vI hd
   obtain rfl:=hp _ _ hx r us d
   exact ⟨_,some [.int .i64 0],.q _,⟨_,rfl,.cons (.v _) .nil⟩,a4v (vals:=[.agg (q x).vals.toArray]) aH hH (hc x) (.cons (.a (.q _)) .nil) hg⟩
  ·cases hf
 ·cases hf
def W3:List (FuncId×bV):=[(91,cU (r9 gT λ_=>bM)),(115,cU (r9 gP λ_=>bM)),
 (58,kY (xU gT .rcdB)),(61,kY (xU gP .entB))]++Y6
theorem aCR:∀p∈W3,bN Xt p.1 p.2:=by
 intro p hp
 rcases eL.1 hp with hp|hp
 ·simp only [bG,cK,or_false] at hp
  rcases hp with rfl|rfl|rfl|rfl
  ·exact O3 (q:=.rcd) (u:=λ_=>.int .i64 0) aAU (bB (by kernel_rfl)) (λc x h r us d=>aAT h d) (λ_ _=>.v _) a7K
  ·exact O3 (q:=.ent) (u:=λ_=>.int .i64 0) aAU (bB (by kernel_rfl)) (λc x h r us d=>aAY h d) (λ_ _=>.v _) bAB
  ·exact aLI (q:=.rcd) (b:=.rcdB) aAU (bB (by kernel_rfl)) (λc x h r us d=>aAT h d) aZr
  ·exact aLI (q:=.ent) (b:=.entB) aAU (bB (by kernel_rfl)) (λc x h r us d=>aAY h d) a2w
 ·exact aIt p hp
def H2:Hk:=cZ Xt (cT W3) 14 6
theorem aCd:bZ Xt H2:=eH aH aCR 6
theorem a39(x:bD):jJ H2 Xt 12 53 [.a (.q (.node x))] .e 0=some (.int .i64 0):=by
 cases x with
 |leaf ix a b c d h=>kernel_rfl
 |inner lv ix a b c d hl h =>
  rcases lv with _|_|_|lv
  ·omega
  ·kernel_rfl
  ·kernel_rfl
  ·omega
theorem a8I(x:aA)(c:Nat)(hc:c∈[45,90,135,180]):jJ H2 Xt 12 277 [.s 0 0 45 c] (sA 5 (.q (.rcdB x))) 1=some (.tuple #[.agg x.vals.toArray,.int .i64 0]):=by
 obtain ⟨s,sh,k,tag,hs,h0,h1,h2,h3,h4⟩:=x
 simp only [bG,cK,or_false] at hc
 rcases s with _|_|_|s
 ·obtain ⟨rfl,rfl,rfl⟩:=h0 rfl;rcases hc with rfl|rfl|rfl|rfl<;>kernel_rfl
 ·rcases hc with rfl|rfl|rfl|rfl<;>kernel_rfl
 ·rcases hc with rfl|rfl|rfl|rfl<;>kernel_rfl
 ·omega
theorem aVw(x:aJ)(c:Nat)(hc:c∈[33,66,99,132]):jJ H2 Xt 12 278 [.s 0 0 33 c] (sA 5 (.q (.entB x))) 1=some (.tuple #[.agg x.vals.toArray,.int .i64 0]):=by
 obtain ⟨s,dig,hs,h0,h3,h4⟩:=x
 simp only [bG,cK,or_false] at hc
 rcases s with _|_|_|s
 ·obtain rfl:=h0 rfl;rcases hc with rfl|rfl|rfl|rfl<;>kernel_rfl
 ·rcases hc with rfl|rfl|rfl|rfl<;>kernel_rfl
 ·rcases hc with rfl|rfl|rfl|rfl<;>kernel_rfl
 ·omega
def aE2(H:Hk)(X:aI)(n:Nat)(g:FuncId)(args:List SV)(hp:Tr)(nx:Nat):Option (TypeId×List (Rp SV)×Nat×Nat×List Value):=match eP H X n g args hp nx with
 |some (.t (.s m 0 l c::zs),st)=>(match st.hp.get m,tP zs with
  |some ⟨T,cs,0⟩,some uz=>some (T,iA cs [],l,c,uz)
  |_,_=>none)
 |_=>none
theorem a0M{X:aI}{H:Hk}{n:Nat}{g:FuncId}{args:List SV}{vals:List Value}{w:World}{T:TypeId}{ps:List (Rp SV)}{us:List Value}{l c:Nat}{uz:List Value}(aH:X.P.follows .mixedOrders=true)(hH:bZ X H)(h:aE2 H X n g args .e 0=some (T,ps,l,c,uz))
 (hp:∀r vs,cE r ps vs->vs=us) (ha:aX [] args vals) (hg:cG X w):Calls X.P g vals.toArray w λe w'=>∃p,e=.returned (.tuple (.slice (some ⟨p,0,none⟩) l c::uz).toArray)∧E3 w w' T us p:=by
 unfold aE2 at h
 split at h
 ·rename_i m l' c' zs st hc
  split at h
  ·rename_i T' cs uz' hb hz
   cases h
   refine (u5 aH hH hc ha hg).mono λe w' ⟨r,v,he,hd,hm⟩=>?_
   obtain ⟨L,hL,vs,hdc,hk⟩:=hm.blk m _ hb
   rcases hk with ⟨_,hge,hb0,hblk⟩|⟨h1,_⟩|⟨h2,_⟩
   ·cases hd with
    |t hd=>cases hd with
     |cons d1 d2=>cases d1 with
      |s hL' =>
       rw [hL] at hL';cases hL'
       rw [N0 hz d2] at he
       rw [hp r vs (hZ _ hdc)] at hblk
       exact ⟨L.g,by rw [he,hb0],hge,hblk,hm.below⟩
   ·cases h1
   ·exact absurd h2 (by show ¬ 2≤0;decide)
  ·cases h
 ·cases h
def aEc(l:List Nat)(ps:List (Rp SV)):List (Rp SV):=l.foldr (λ(k:Nat) q=>.one (.v (.int .u8 (k:Int)))::q) ps
theorem aE0{r:List aF}:∀{l:List Nat} {ps:List (Rp SV)} {us:List Value},cE r (aEc l ps) us->∃us',us=nv .u8 l++us'∧cE r ps us'
 |[],ps,us,h=>⟨us,rfl,h⟩
 |k::l,ps,us,h=>by
  cases h with
  |cons h t =>
   obtain ⟨us',rfl,h'⟩:=aE0 (l:=l) t
   rw [bQ h]
   exact ⟨us',rfl,h'⟩
theorem aGF{r:List aF}{a b c d:At}{us:List Value}(h:cE r [.q a,.q b,.q c,.q d] us):us=a.vals++(b.vals++(c.vals++d.vals)):=by
 cases h with
 |cons h1 h=>cases h with
  |cons h2 h=>cases h with
   |cons h3 h=>cases h with
    |cons h4 h=>cases h;cases h1;cases h2;cases h3;cases h4;simp
def nbP:bD->List (Rp SV)
 | .leaf ix a b c d _=>aEc (0::Sh.beB ix 4) [.q (.rcdB a),.q (.rcdB b),.q (.rcdB c),.q (.rcdB d)]
 | .inner lv ix a b c d _ _=>aEc (lv::Sh.beB ix 4) [.q (.entB a),.q (.entB b),.q (.entB c),.q (.entB d)]
theorem aIK{r:List aF}{x:bD}{us:List Value}(h:cE r (nbP x) us):us=(At.nodeB x).vals:=by
 cases x with
 |leaf ix a b c d =>
  obtain ⟨us',e,h'⟩:=aE0 h
  rw [e,aGF h']
  simp [At.vals,bD.bytes,nv]
 |inner lv ix a b c d =>
  obtain ⟨us',e,h'⟩:=aE0 h
  rw [e,aGF h']
  simp [At.vals,bD.bytes,nv]
theorem a24(x:bD):aE2 H2 Xt 12 8 [.a (.q (.node x))] .e 0=some (5,nbP x,(At.nodeB x).size,(At.nodeB x).size,[.int .i64 0]):=by
 cases x with
 |leaf ix a b c d h =>
  rcases ix with _|_|_|_|_|_|_|_|ix
  iterate 8 kernel_rfl
  omega
 |inner lv ix a b c d hl h =>
  rcases lv with _|_|_|lv
  ·omega
  ·rcases ix with _|_|_|_|_|_|_|_|ix
   iterate 8 kernel_rfl
   omega
  ·rcases ix with _|_|_|_|_|_|_|_|ix
   iterate 8 kernel_rfl
   omega
  ·omega
theorem a5q:bN Xt 8 (kY (xU nG .nodeB)):=xN (bB (by kernel_rfl)) λargs T cs l c zs hf r vals w hd hg=>by
 unfold xU at hf
 split at hf
 ·split at hf
  ·rename_i c x hx
   cases hf
   obtain ⟨us,rfl,d⟩:=vI hd
   obtain rfl:=wO hx d
   exact ⟨_,some [.int .i64 0],.q _,⟨_,rfl,.cons (.v _) .nil⟩,a0M (vals:=[.agg x.vals.toArray]) aH aCd (a24 x) (λ_ _ h=>aIK h) (.cons (.a (.q (.node x))) .nil) hg⟩
  ·cases hf
 ·cases hf
def aD3(l c:Nat)(cs:Rp SV):Option SV:=match cs with
 | .q (.rcdB x)=>bif Nat.beq l 45&&[45,90,135,180].contains c then some (.t [.a (.q (.rcd x)),bM]) else none
 |_=>none
def aGU(l c:Nat)(cs:Rp SV):Option SV:=match cs with
 | .q (.entB x)=>bif Nat.beq l 33&&[33,66,99,132].contains c then some (.t [.a (.q (.ent x)),bM]) else none
 |_=>none
theorem aQB:bN Xt 277 (q9 aD3):=aCa (bB (by kernel_rfl)) λl c cs y hf r vs g0 o0 w hd hr hg=>by
 unfold aD3 at hf
 split at hf
 ·rename_i x
  cases hq:Nat.beq l 45&&[45,90,135,180].contains c with
  |false=>rw [hq] at hf;cases hf
  |true =>
   rw [hq] at hf;cases hf
   rw [bJ] at hq
   obtain rfl:l=45:=eU hq.1
   cases hd
   exact (aMR aH aCd (a8I x c (by simpa using hq.2)) (.q _) hr (by decide) hg).mono λe w' ⟨h1,h2⟩=>⟨_,h1,.t (.cons (.a (.q _)) (.cons (.v _) .nil)),h2⟩
 ·cases hf
theorem aUY:bN Xt 278 (q9 aGU):=aCa (bB (by kernel_rfl)) λl c cs y hf r vs g0 o0 w hd hr hg=>by
 unfold aGU at hf
 split at hf
 ·rename_i x
  cases hq:Nat.beq l 33&&[33,66,99,132].contains c with
  |false=>rw [hq] at hf;cases hf
  |true =>
   rw [hq] at hf;cases hf
   rw [bJ] at hq
   obtain rfl:l=33:=eU hq.1
   cases hd
   exact (aMR aH aCd (aVw x c (by simpa using hq.2)) (.q _) hr (by decide) hg).mono λe w' ⟨h1,h2⟩=>⟨_,h1,.t (.cons (.a (.q _)) (.cons (.v _) .nil)),h2⟩
 ·cases hf
def aCJ:List (FuncId×bV):=[(277,q9 aD3),(278,q9 aGU),(53,cU (r9 nG λ_=>bM)),
 (8,kY (xU nG .nodeB)),(10,aD2)]++W3
theorem aH2:∀p∈aCJ,bN Xt p.1 p.2:=by
 intro p hp
 rcases eL.1 hp with hp|hp
 ·simp only [bG,cK,or_false] at hp
  rcases hp with rfl|rfl|rfl|rfl|rfl
  ·exact aQB
  ·exact aUY
  ·exact O3 (q:=.node) (u:=λ_=>.int .i64 0) aCd (bB (by kernel_rfl)) (λc x h r us d=>wO h d) (λ_ _=>.v _) a39
  ·exact a5q
  ·exact aUA
 ·exact aCR p hp
def H3:Hk:=cZ Xt (cT aCJ) 14 6
theorem aCy:bZ Xt H3:=eH aH aH2 6
theorem aXz(x:bD):jJ H3 Xt 12 9 [.a (.q (.node x))] .e 0=some (.tuple #[.agg (At.sha [x.bytes].flatten).vals.toArray,.int .i64 0]):=by
 cases x with
 |leaf ix a b c d h=>kernel_rfl
 |inner lv ix a b c d hl h=>kernel_rfl
def aGc(H:Hk)(X:aI)(n:Nat)(g:FuncId)(args:List SV)(hp:Tr)(nx:Nat):Option (List (Rp SV)×List Value):=match eP H X n g args hp nx with
 |some (.t (.a c::zs),_)=>(match tP zs with
  |some uz=>some (iA c [],uz)
  |none=>none)
 |_=>none
theorem a0X{X:aI}{H:Hk}{n T l c g0 o0:Nat}{g:FuncId}{cs:Rp SV}{vs us uz:List Value}{w:World}{ps:List (Rp SV)}(aH:X.P.follows .mixedOrders=true)(hH:bZ X H)(h:aGc H X n g [.s 0 0 l c] (sA T cs) 1=some (ps,uz))
 (hp:∀r vs,cE r ps vs->vs=us) (hd:aD [] cs vs) (hr:bH w w.heap.size 1 (some ⟨g0,o0,none⟩) l vs) (hl:0<l) (hg:cG X w):Calls X.P g #[.slice (some ⟨g0,o0,none⟩) l c] w λe w'=>e=.returned (.tuple (.agg us.toArray::uz).toArray)∧Below w.heap.size w w':=by
 unfold aGc at h
 split at h
 ·rename_i cr zs st hc
  split at h
  ·rename_i uz' hz
   cases h
   refine (aKO aH hH hc hd hr hl hg).mono λe w' ⟨r,v,he,hdv,hb⟩=>⟨?_,hb⟩
   cases hdv with
   |t hdv=>cases hdv with
    |cons d1 d2=>cases d1 with
     |a d1=>rw [he,N0 hz d2,hp r _ (hZ _ d1)]
  ·cases h
 ·cases h
def jT(ps:List (Rp SV)):List (Rp SV):=.one (.v (.int .u8 0))::.one (.v (.int .u32 0))::.one (.v (.int .u64 0))::.arr .u8 32 (List.replicate 32 0)::ps
def jU(ps:List (Rp SV)):List (Rp SV):=.one (.v (.int .u8 0))::.arr .u8 32 (List.replicate 32 0)::ps
def ndP:bD->List (Rp SV)
 | .leaf ix a b c d _=>.one (.v (.int .u8 0))::.one (.v (.int .u32 (ix:Int)))::.q (.rcd a)::.q (.rcd b)::.q (.rcd c)::.q (.rcd d)::jU (jU (jU (jU [])))
 | .inner lv ix a b c d _ _=>.one (.v (.int .u8 (lv:Int)))::.one (.v (.int .u32 (ix:Int)))::jT (jT (jT (jT [.q (.ent a),.q (.ent b),.q (.ent c),.q (.ent d)])))
theorem nN{r:List aF}{ps:List (Rp SV)}{us:List Value}(h:cE r (jU ps) us):∃us',us=cC.vals++us'∧cE r ps us':=by
 cases h with
 |cons h1 h=>cases h with
  |cons h2 h=>rw [bQ h1,fJ h2];exact ⟨_,by simp [aJ.vals,cC],h⟩
theorem nM{r:List aF}{ps:List (Rp SV)}{us:List Value}(h:cE r (jT ps) us):∃us',us=dG.vals++us'∧cE r ps us':=by
 cases h with
 |cons h1 h=>cases h with
  |cons h2 h=>cases h with
   |cons h3 h=>cases h with
    |cons h4 h=>rw [bQ h1,bQ h2,bQ h3,fJ h4];exact ⟨_,by simp [aA.vals,aA.nnc,dG],h⟩
theorem a5s{r:List aF}{x:bD}{us:List Value}(h:cE r (ndP x) us):us=x.vals:=by
 cases x with
 |leaf ix a b c d =>
  cases h with
  |cons h1 h=>cases h with
   |cons h2 h=>cases h with
    |cons h3 h=>cases h with
     |cons h4 h=>cases h with
      |cons h5 h=>cases h with
       |cons h6 h =>
        obtain ⟨u1,e1,h⟩:=nN h
        obtain ⟨u2,e2,h⟩:=nN h
        obtain ⟨u3,e3,h⟩:=nN h
        obtain ⟨u4,e4,h⟩:=nN h
        cases h;cases h3;cases h4;cases h5;cases h6
        rw [bQ h1,bQ h2,e1,e2,e3,e4]
        simp [bD.vals,lT,l8,At.vals]
 |inner lv ix a b c d =>
  cases h with
  |cons h1 h=>cases h with
   |cons h2 h =>
    obtain ⟨u1,e1,h⟩:=nM h
    obtain ⟨u2,e2,h⟩:=nM h
    obtain ⟨u3,e3,h⟩:=nM h
    obtain ⟨u4,e4,h⟩:=nM h
    rw [bQ h1,bQ h2,e1,e2,e3,e4,aGF h]
    simp [bD.vals,lT,l8,At.vals]
theorem aXx(x:bD):aGc H3 Xt 12 238 [.s 0 0 (At.nodeB x).size (At.nodeB x).size] (sA 5 (.q (.nodeB x))) 1=some (ndP x,[.int .i64 0]):=by
 cases x with
 |leaf ix a b c d h =>
  rcases ix with _|_|_|_|_|_|_|_|ix
  iterate 8 kernel_rfl
  omega
 |inner lv ix a b c d hl h =>
  rcases lv with _|_|_|lv
  ·omega
  ·rcases ix with _|_|_|_|_|_|_|_|ix
   iterate 8 kernel_rfl
   omega
  ·rcases ix with _|_|_|_|_|_|_|_|ix
   iterate 8 kernel_rfl
   omega
  ·omega
def aDy(l c:Nat)(cs:Rp SV):Option SV:=match cs with
 | .q (.nodeB x)=>bif Nat.beq l (At.nodeB x).size&&Nat.beq c (At.nodeB x).size then some (.t [.a (.q (.node x)),bM]) else none
 |_=>none
theorem aYH:bN Xt 238 (q9 aDy):=aCa (bB (by kernel_rfl)) λl c cs y hf r vs g0 o0 w hd hr hg=>by
 unfold aDy at hf
 split at hf
 ·rename_i x
  cases hq:Nat.beq l (At.nodeB x).size&&Nat.beq c (At.nodeB x).size with
  |false=>rw [hq] at hf;cases hf
  |true =>
   rw [hq] at hf;cases hf
   rw [bJ] at hq
   obtain rfl:=eU hq.1
   obtain rfl:=eU hq.2
   cases hd
   exact (a0X aH aCy (aXx x) (λ_ _ h=>a5s h) (.q _) hr (match x with | .leaf .. =>(by decide:0<185) | .inner .. =>(by decide:0<137)) hg).mono λe w' ⟨h1,h2⟩=>⟨_,h1,.t (.cons (.a (.q (.node x))) (.cons (.v _) .nil)),h2⟩
 ·cases hf
theorem bAU:bN Xt 9 (cU (r9 nG λx=>.t [.a (.q (.sha x.bytes)),bM])) :=
 O3 (q:=.node) (u:=λx=>.tuple #[.agg (At.sha x.bytes).vals.toArray,.int .i64 0]) aCy (bB (by kernel_rfl)) (λc x h r us d=>wO h d) (λx r=>.t (.cons (.a (.q _)) (.cons (.v _) .nil))) λx=>by
  have h:=aXz x
  rwa [show [x.bytes].flatten=x.bytes by simp] at h
theorem aA.eq0{x:aA}(h:x.s=0):x=dG:=by
 obtain ⟨s,sh,c,tag,hs,h0,h1,h2,h3,h4⟩:=x
 obtain rfl:s=0:=h
 obtain ⟨rfl,rfl,rfl⟩:=h0 rfl
 rfl
theorem aJ.eq0{x:aJ}(h:x.s=0):x=cC:=by
 obtain ⟨s,dig,hs,h0,h3,h4⟩:=x
 obtain rfl:s=0:=h
 obtain rfl:=h0 rfl
 rfl
def aL(n:Nat):Nat->Nat
 |0=>(n+3) / 4
 |l+1=>if aL n l=1 then 0 else (aL n l+3) / 4
def cS(n lv ix:Nat):Nat:=min 4 ((if lv=0 then n else aL n (lv-1))-4*ix)
theorem cW{α β:Type}{l:List α}{f g:α->β}(h:l.map f=l.map g){x:α}(hx:x∈l):f x=g x:=List.map_inj_left.1 h x hx
def fN(a:Nat)(f:Nat->Nat):List (Nat×Nat):=(List.range a).flatMap λn=>(List.range (f n)).map λi=>(n,i)
theorem pU{a n i:Nat}{f:Nat->Nat}(hn:n<a)(hi:i<f n):(n,i)∈fN a f:=by
 simp only [fN,List.mem_flatMap,dF,dC,cH]
 exact ⟨n,hn,i,hi,rfl,rfl⟩
def aM(n:Nat):SV:=.v (.int .i64 (n:Int))
def zk(k i:Nat)(x:aA):aA:=Bool.rec dG x (Nat.blt i k)
def zj(k i:Nat)(x:aJ):aJ:=Bool.rec cC x (Nat.blt i k)
theorem aAB{k i:Nat}{x:aA}(h:(Nat.blt i k || Nat.beq x.s 0)=true):zk k i x=x:=by
 unfold zk
 cases hb:Nat.blt i k with
 |true=>rfl
 |false=>rw [hb,Bool.false_or] at h;exact (aA.eq0 (eU h)).symm
theorem uD{k i:Nat}{x:aJ}(h:(Nat.blt i k || Nat.beq x.s 0)=true):zj k i x=x:=by
 unfold zj
 cases hb:Nat.blt i k with
 |true=>rfl
 |false=>rw [hb,Bool.false_or] at h;exact (aJ.eq0 (eU h)).symm
def M8(n:Nat):bD->Bool
 | .leaf ix a b c d _=>Nat.ble 1 n&&(Nat.ble n 20&&(Nat.blt ix (aL n 0)&&((Nat.blt 0 (cS n 0 ix) || Nat.beq a.s 0)&&((Nat.blt 1 (cS n 0 ix) || Nat.beq b.s 0)&&((Nat.blt 2 (cS n 0 ix) || Nat.beq c.s 0)&&(Nat.blt 3 (cS n 0 ix) || Nat.beq d.s 0))))))
 | .inner lv ix a b c d _ _=>Nat.ble 1 n&&(Nat.ble n 20&&(Nat.blt ix (aL n lv)&&((Nat.blt 0 (cS n lv ix) || Nat.beq a.s 0)&&((Nat.blt 1 (cS n lv ix) || Nat.beq b.s 0)&&((Nat.blt 2 (cS n lv ix) || Nat.beq c.s 0)&&(Nat.blt 3 (cS n lv ix) || Nat.beq d.s 0))))))
theorem aTD(a b c d:aA):(fN 20 λn=>aL (n+1) 0).map (λp=>jJ H3 Xt 14 111 [aM (p.1+1),.a (.q (.node (.leaf (min p.2 7) (zk (cS (p.1+1) 0 p.2) 0 a) (zk (cS (p.1+1) 0 p.2) 1 b) (zk (cS (p.1+1) 0 p.2) 2 c) (zk (cS (p.1+1) 0 p.2) 3 d) (Nat.min_le_right _ _))))] .e 0) =
 (fN 20 λn=>aL (n+1) 0).map (λ_=>some (.int .i64 0)):=by kernel_rfl
theorem a3z(a b c d:aJ):(fN 20 λn=>aL (n+1) 1).map (λp=>jJ H3 Xt 14 111 [aM (p.1+1),.a (.q (.node (.inner 1 (min p.2 7) (zj (cS (p.1+1) 1 p.2) 0 a) (zj (cS (p.1+1) 1 p.2) 1 b) (zj (cS (p.1+1) 1 p.2) 2 c) (zj (cS (p.1+1) 1 p.2) 3 d) (by decide) (Nat.min_le_right _ _))))] .e 0) =
 (fN 20 λn=>aL (n+1) 1).map (λ_=>some (.int .i64 0)):=by kernel_rfl
theorem aQl(a b c d:aJ):(fN 20 λn=>aL (n+1) 2).map (λp=>jJ H3 Xt 14 111 [aM (p.1+1),.a (.q (.node (.inner 2 (min p.2 7) (zj (cS (p.1+1) 2 p.2) 0 a) (zj (cS (p.1+1) 2 p.2) 1 b) (zj (cS (p.1+1) 2 p.2) 2 c) (zj (cS (p.1+1) 2 p.2) 3 d) (by decide) (Nat.min_le_right _ _))))] .e 0) =
 (fN 20 λn=>aL (n+1) 2).map (λ_=>some (.int .i64 0)):=by kernel_rfl
theorem aQX(n:Nat)(x:bD)(h:M8 n x=true):jJ H3 Xt 14 111 [aM n,.a (.q (.node x))] .e 0=some (.int .i64 0):=by
 cases x with
 |leaf ix a b c d h7 =>
  simp only [M8,bJ,bO,cY,bR] at h
  obtain ⟨h1,h2,h3,e1,e2,e3,e4⟩:=h
  obtain ⟨m,rfl⟩:∃m,n=m+1:=⟨n-1,by omega⟩
  have:=cW (aTD a b c d) (pU (f:=λn=>aL (n+1) 0) (show m<20 by omega) h3)
  simp only [Nat.min_eq_left h7] at this
  rwa [aAB (by simpa [bO] using e1),aAB (by simpa [bO] using e2),aAB (by simpa [bO] using e3),aAB (by simpa [bO] using e4)] at this
 |inner lv ix a b c d hl h7 =>
  simp only [M8,bJ,bO,cY,bR] at h
  obtain ⟨h1,h2,h3,e1,e2,e3,e4⟩:=h
  obtain ⟨m,rfl⟩:∃m,n=m+1:=⟨n-1,by omega⟩
  rcases lv with _|_|_|lv
  ·omega
  ·have:=cW (a3z a b c d) (pU (f:=λn=>aL (n+1) 1) (show m<20 by omega) h3)
   simp only [Nat.min_eq_left h7] at this
   rwa [uD (by simpa [bO] using e1),uD (by simpa [bO] using e2),uD (by simpa [bO] using e3),uD (by simpa [bO] using e4)] at this
  ·have:=cW (aQl a b c d) (pU (f:=λn=>aL (n+1) 2) (show m<20 by omega) h3)
   simp only [Nat.min_eq_left h7] at this
   rwa [uD (by simpa [bO] using e1),uD (by simpa [bO] using e2),uD (by simpa [bO] using e3),uD (by simpa [bO] using e4)] at this
  ·omega
def aGw(args:List SV):Option SV:=match args with
 |[.v (.int .i64 (.ofNat n)),.a c]=>(match nG c with
  |some x=>bif M8 n x then some bM else none
  |none=>none)
 |_=>none
theorem a8l:bN Xt 111 (cU aGw):=jY (bB (by kernel_rfl)) λargs y hf r vals w hd hg=>by
 unfold aGw at hf
 split at hf
 ·rename_i n c
  split at hf
  ·rename_i x hx
   cases hq:M8 n x with
   |false=>rw [hq] at hf;cases hf
   |true =>
    rw [hq] at hf;cases hf
    cases hd with
    |cons d1 hd =>
     cases d1
     obtain ⟨us,e,d⟩:=vI hd
     obtain rfl:=wO hx d
     rw [e]
     exact (M3 (vals:=[.int .i64 (.ofNat n),.agg x.vals.toArray]) aH aCy (aQX n x hq) (.cons (.v _) (.cons (.a (.q (.node x))) .nil)) hg).mono λe w' ⟨h1,h2⟩=>⟨_,h1,.v _,h2⟩
  ·cases hf
 ·cases hf
