/- A part of the proof of TopSealed. -/
import Derived.Test.YtjboelhcieepkaaGreatDoorW10
noncomputable section
set_option maxRecDepth 16384
namespace Go.Proofs.YtjboelhcieepkaaGreatDoor
open Go.RowKit
def Y1:List SV->Option (List Nat)
 |[]=>some []
 | .v (.int .i64 (.ofNat n))::l=>(match Y1 l with
  |some ns=>some (n::ns)
  |none=>none)
 |_=>none
theorem aHn{r:List aF}:∀{args:List SV} {l:List Nat} {vals:List Value},Y1 args=some l->aX r args vals->vals=l.map λn:Nat=>Value.int .i64 (n:Int)
 |[],_,_,h,d=>by cases h;cases d;rfl
 | .v (.int .i64 (.ofNat n))::args,l,vals,h,d=>by
  unfold Y1 at h
  split at h
  ·rename_i ns hn
   cases h
   cases d with
   |cons d1 d2=>cases d1;rw [aHn hn d2];rfl
  ·cases h
theorem aHA:∀(l:List Nat),aX [] (l.map aM) (l.map λn:Nat=>Value.int .i64 (n:Int))
 |[]=>.nil
 |_::l=>.cons (.v _) (aHA l)
def uM(dom:Nat->List (List Nat)):List (List Nat):=(List.range 20).flatMap λm=>(dom (m+1)).map λl=>(m+1)::l
def kG(dom:Nat->List (List Nat))(val:List Nat->SV)(args:List SV):Option SV:=match Y1 args with
 |some (n::l)=>bif Nat.ble 1 n&&(Nat.ble n 20&&(dom n).contains l) then some (val (n::l)) else none
 |_=>none
theorem wF{g:FuncId}{dom:Nat->List (List Nat)}{val:List Nat->SV}{u:List Nat->Value}(he:fQ Xt.P g)(hu:∀l (r:List aF),aP r (val l) (u l))
 (hc:(uM dom).map (λl=>jJ H3 Xt 12 g (l.map aM) .e 0)=(uM dom).map (λl=>some (u l))):bN Xt g (cU (kG dom val)):=jY he λargs y hf r vals w hd hg=>by
 unfold kG at hf
 split at hf
 ·rename_i n l hn
  cases hq:Nat.ble 1 n&&(Nat.ble n 20&&(dom n).contains l) with
  |false=>rw [hq] at hf;cases hf
  |true =>
   rw [hq] at hf;cases hf
   simp only [bJ,cY,bR] at hq
   obtain ⟨h1,h2,h3⟩:=hq
   have hm:(n::l)∈uM dom:=by
    simp only [uM,List.mem_flatMap,dF,dC]
    exact ⟨n-1,by omega,l,by rw [show n-1+1=n by omega];simpa using h3,by rw [show n-1+1=n by omega]⟩
   rw [aHn hn hd]
   exact (M3 aH aCy (cW hc hm) (aHA _) hg).mono λe w' ⟨e1,e2⟩=>⟨_,e1,hu _ r,e2⟩
 ·cases hf
def aO(n:Nat):Nat:=if aL n 0=1 then 0 else if aL n 1=1 then 1 else 2
def aT(n:Nat):Nat:=aL n 0+(aL n 1+aL n 2)
def jE(n lv:Nat):Nat:=2*n+(if lv=0 then 0 else if lv=1 then 2*aL n 0 else 2*aL n 0+2*aL n 1)
def fR(n:Nat):List (Nat×Nat):=fN 3 (aL n)
def tV(f:List Nat->Nat)(l:List Nat):SV:=.t [aM (f l),bM]
def u2(f:List Nat->Nat)(l:List Nat):Value:=.tuple #[.int .i64 (f l:Int),.int .i64 0]
theorem vY(f:List Nat->Nat)(l:List Nat)(r:List aF):aP r (tV f l) (u2 f l):=.t (.cons (.v _) (.cons (.v _) .nil))
def mF(l:List Nat):Nat:=l.getD 0 0
def tT(l:List Nat):Nat:=l.getD 1 0
def F2(l:List Nat):Nat:=l.getD 2 0
def at3(l:List Nat):Nat:=l.getD 3 0
def C5(_:Nat):List (List Nat):=[[]]
def aKV(n:Nat):List (List Nat):=(List.range (aO n+1)).map λl=>[l]
def aEO(n:Nat):List (List Nat):=(fR n).map λp=>[p.1,p.2]
def aH9(n:Nat):List (List Nat):=(fR n).flatMap λp=>[[p.1,p.2,0],[p.1,p.2,1]]
def aR3(n:Nat):List (List Nat):=(List.range n).flatMap λi=>[[i,0],[i,1]]
def aNc:bV:=cU (kG C5 (tV λl=>aO (mF l)))
def aOx:bV:=cU (kG C5 (tV λl=>aT (mF l)))
def aGQ:bV:=cU (kG C5 (tV λl=>2*(mF l)+2*aT (mF l)))
def aNH:bV:=cU (kG aKV (tV λl=>aL (mF l) (tT l)))
def aKc:bV:=cU (kG aEO (tV λl=>cS (mF l) (tT l) (F2 l)))
def aHQ:bV:=cU (kG aH9 (tV λl=>jE (mF l) (tT l)+(2*F2 l+at3 l)))
def aGv:bV:=cU (kG aR3 (tV λl=>2*tT l+F2 l))
theorem bDs:bN Xt 180 aNc:=wF (bB (by kernel_rfl)) (vY _) (by kernel_rfl)
theorem aYh:bN Xt 45 aOx:=wF (bB (by kernel_rfl)) (vY _) (by kernel_rfl)
theorem aI3:bN Xt 171 aGQ:=wF (bB (by kernel_rfl)) (vY _) (by kernel_rfl)
theorem aZJ:bN Xt 47 aNH:=wF (bB (by kernel_rfl)) (vY _) (by kernel_rfl)
theorem aQG:bN Xt 183 aKc:=wF (bB (by kernel_rfl)) (vY _) (by kernel_rfl)
theorem aPe:bN Xt 191 aHQ:=wF (bB (by kernel_rfl)) (vY _) (by kernel_rfl)
theorem aNO:bN Xt 24 aGv:=wF (bB (by kernel_rfl)) (vY _) (by kernel_rfl)
def oL:List (FuncId×bV):=[(180,aNc),(45,aOx),(171,aGQ),(47,aNH),(183,aKc),(191,aHQ),(24,aGv),
 (111,cU aGw),(9,cU (r9 nG λx=>.t [.a (.q (.sha x.bytes)),bM])),(238,q9 aDy)]++aCJ
theorem pG:∀p∈oL,bN Xt p.1 p.2:=by
 intro p hp
 rcases eL.1 hp with hp|hp
 ·simp only [bG,cK,or_false] at hp
  rcases hp with rfl|rfl|rfl|rfl|rfl|rfl|rfl|rfl|rfl|rfl
  ·exact bDs
  ·exact aYh
  ·exact aI3
  ·exact aZJ
  ·exact aQG
  ·exact aPe
  ·exact aNO
  ·exact a8l
  ·exact bAU
  ·exact aYH
 ·exact aH2 p hp
