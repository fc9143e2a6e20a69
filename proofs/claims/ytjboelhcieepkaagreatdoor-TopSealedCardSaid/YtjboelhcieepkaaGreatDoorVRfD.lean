/- A part of the proof of TopSealed. -/
import Derived.Test.YtjboelhcieepkaaGreatDoorW15
noncomputable section
set_option maxRecDepth 16384
namespace Go.Proofs.YtjboelhcieepkaaGreatDoor
open Go.RowKit
def dW{α:Type}(n:Nat)(R:Nat->α):List α:=(List.range n).map R
def rL(n:Nat)(R:Nat->aA):Nat->aA:=nR (dW n R)
def bL(n:Nat)(B:Nat->Bool):Nat->Bool:=o9 (dW n B)
def rr(n:Nat)(R:Nat->aA)(i:Nat):aA:=bif Nat.blt i n then R i else dG
def ee(n:Nat)(E:Nat->aJ)(lv i:Nat):aJ:=bif Nat.blt i (aL n lv) then E (num n lv i) else cC
theorem rQ(i:Nat):i%8≤7:=Nat.le_of_lt_succ (Nat.mod_lt _ (by decide))
def bP(n:Nat)(R:Nat->aA)(E:Nat->aJ)(lv ix:Nat):bD:=match lv with
 |0=>.leaf (ix%8) (rr n R (4*ix)) (rr n R (4*ix+1)) (rr n R (4*ix+2)) (rr n R (4*ix+3)) (rQ ix)
 |1=>.inner 1 (ix%8) (ee n E 0 (4*ix)) (ee n E 0 (4*ix+1)) (ee n E 0 (4*ix+2)) (ee n E 0 (4*ix+3)) (by decide) (rQ ix)
 |_=>.inner 2 (ix%8) (ee n E 1 (4*ix)) (ee n E 1 (4*ix+1)) (ee n E 1 (4*ix+2)) (ee n E 1 (4*ix+3)) (by decide) (rQ ix)
theorem vE(b:Bool):aV b≤1:=by cases b<;>decide
def sH(em b:Bool)(l:List Nat):aJ:=bif em then cC else ⟨aV b+1,Sh.shaF l,by have:=vE b;omega,λh=>by omega,pS l,rK l⟩
def F0(n:Nat)(R:Nat->aA)(B:Nat->Bool)(k:Nat):aJ:=sH (bY R n 0 k) (B (num n 0 k)) (bP n R (λ_=>cC) 0 k).bytes
def en1(n:Nat)(R:Nat->aA)(B:Nat->Bool)(k:Nat):aJ:=sH (bY R n 1 k) (B (num n 1 k)) (bP n R (F0 n R B) 1 k).bytes
def aU(n:Nat)(R:Nat->aA)(B:Nat->Bool)(k:Nat):aJ:=bif Nat.blt k (aL n 0) then F0 n R B k else en1 n R B (k-aL n 0)
theorem ee0(n:Nat)(R:Nat->aA)(B:Nat->Bool)(i:Nat):ee n (aU n R B) 0 i=ee n (F0 n R B) 0 i:=by
 unfold ee
 cases h:Nat.blt i (aL n 0) with
 |false=>rfl
 |true =>
  have e:num n 0 i=i:=by simp [num]
  simp only [cond_true,e]
  unfold aU
  rw [h]
  rfl
theorem aYz(n:Nat)(R:Nat->aA)(B:Nat->Bool)(ix:Nat):bP n R (aU n R B) 1 ix=bP n R (F0 n R B) 1 ix:=by
 unfold bP
 simp only [ee0]
theorem pI(n:Nat)(R:Nat->aA)(B:Nat->Bool)(lv k:Nat)(hl:lv<2)(hk:k<aL n lv):aU n R B (num n lv k)=sH (bY R n lv k) (B (num n lv k)) (bP n R (aU n R B) lv k).bytes:=by
 rcases lv with _|_|lv
 ·have e:num n 0 k=k:=by simp [num]
  have hE:aU n R B k=F0 n R B k:=by
   unfold aU
   rw [show Nat.blt k (aL n 0)=true from by rw [bO];simpa using hk]
   rfl
  rw [e,hE]
  show sH (bY R n 0 k) (B (num n 0 k)) (bP n R (λ_=>cC) 0 k).bytes=_
  rw [e]
  rfl
 ·have e:num n 1 k=aL n 0+k:=by simp [num]
  have hE:aU n R B (aL n 0+k)=en1 n R B k:=by
   unfold aU
   rw [show Nat.blt (aL n 0+k) (aL n 0)=false from by rw [bO];simp,Nat.add_sub_cancel_left]
   rfl
  rw [e,hE]
  show sH (bY R n 1 k) (B (num n 1 k)) (bP n R (F0 n R B) 1 k).bytes=_
  rw [e,aYz]
 ·omega
def qT(n:Nat)(R:Nat->aA)(i:Nat)(ps:List (Rp SV)):List (Rp SV):=bif Nat.blt i n then .q (.rcd (R i))::ps else jT ps
def aE4(b:Bool):Int:=IntKind.u8.wrap (IntKind.i64.wrap ((aV b:Int)+1))
theorem bBy(b:Bool):aE4 b=((aV b+1:Nat):Int):=by cases b<;>rfl
def aIE(x b:Bool)(l:List Nat)(ps:List (Rp SV)):List (Rp SV):=bif x then .one (.v (.int .u8 (aE4 b)))::.q (.sha l)::ps else jU ps
section
variable {r:List aF}
theorem aAM{n:Nat}{R:Nat->aA}{i:Nat}{ps:List (Rp SV)}{us:List Value}(h:cE r (qT n R i ps) us):∃us',us=(rr n R i).vals++us'∧cE r ps us':=by
 unfold qT at h
 unfold rr
 cases hb:Nat.blt i n with
 |false=>rw [hb] at h;exact nM h
 |true =>
  rw [hb] at h
  have h':cE r (.q (.rcd (R i))::ps) us:=h
  cases h' with|cons h1 t=>cases h1;exact ⟨_,rfl,t⟩
theorem aPQ{x b:Bool}{l:List Nat}{ps:List (Rp SV)}{us:List Value}(h:cE r (aIE x b l ps) us):∃us',us=(sH (!x) b l).vals++us'∧cE r ps us':=by
 cases x with
 |false=>exact nN h
 |true =>
  have h':cE r (.one (.v (.int .u8 (aE4 b)))::.q (.sha l)::ps) us:=h
  cases h' with|cons h1 t=>cases t with|cons h2 t =>
   cases h2
   rw [bQ h1,bBy]
   refine ⟨_,?_,t⟩
   simp [sH,aJ.vals,At.vals]
end
def hpN(n m:Nat)(R:Nat->aA)(B:Nat->Bool):Tr:=(bC.e.put 0 ⟨61,aBj n R,2⟩).put 1 ⟨3,lE m B,2⟩
def ndE(n lv ix:Nat)(p:List Bool):List Ev:=bif Nat.beq lv 0 then [] else (List.range (cS n lv ix)).map λw=>.b (p.getD w false)
def ndO(n lv ix:Nat)(p:List Bool)(R:Nat->aA):List Ob:=bif Nat.beq lv 0 then [] else (List.range (cS n lv ix)).map λw=>.t (!(bY (rL n R) n (lv-1) (4*ix+w))) (p.getD w false)
def ndX(H:Hk)(n lv ix c d:Nat)(p:List Bool)(R:Nat->aA)(B:Nat->Bool):aB×List Ob:=cL ⟨[46],[],0⟩ H Xt 12 (ndE n lv ix p) (eA Xt 40 [.s 0 0 n c,.s 1 0 (aT n) d,aM lv,aM ix] (hpN n (aT n) R B) 2)
def W6(x:Option (SV×St)):List (Rp SV):=match x with
 |some (.a c,_)=>iA c []
 |_=>[]
def dO(H:Hk)(n lv c d:Nat)(R:Nat->aA)(B:Nat->Bool)(q:Nat×List Bool):List (Rp SV)×List Ob:=(W6 (dS Xt 40 (ndX H n lv q.1 c d q.2 R B).1),(ndX H n lv q.1 c d q.2 R B).2)
def tA(n lv ix:Nat)(R:Nat->aA)(B:Nat->Bool)(p:List Bool)(w:Nat)(ps:List (Rp SV)):List (Rp SV) :=
 aIE (Nat.blt w (cS n lv ix)&&p.getD w false) (B (num n (lv-1) (4*ix+w))) (bP n (rL n R) (aU n (rL n R) (bL (aT n) B)) (lv-1) (4*ix+w)).bytes ps
def ndQ(n lv ix:Nat)(R:Nat->aA)(B:Nat->Bool)(p:List Bool):List (Rp SV):=.one (.v (.int .u8 (lv:Int)))::.one (.v (.int .u32 (ix:Int))) ::
 (bif Nat.beq lv 0 then qT n R (4*ix) (qT n R (4*ix+1) (qT n R (4*ix+2) (qT n R (4*ix+3) (jU (jU (jU (jU [])))))))
  else jT (jT (jT (jT (tA n lv ix R B p 0 (tA n lv ix R B p 1 (tA n lv ix R B p 2 (tA n lv ix R B p 3 []))))))))
def dN(n lv:Nat)(R:Nat->aA)(B:Nat->Bool)(q:Nat×List Bool):List (Rp SV)×List Ob:=(ndQ n lv q.1 R B q.2,ndO n lv q.1 q.2 R)
def m8:Nat->List (List Bool)
 |0=>[[]]
 |k+1=>(m8 k).flatMap λl=>[true::l,false::l]
theorem W7:∀{k:Nat} {l:List Bool},l.length=k->l∈m8 k
 |0,l,h=>by rw [List.length_eq_zero_iff.1 h];simp [m8]
 |k+1,[],h=>by cases h
 |k+1,b::l,h=>by
  simp only [m8,List.mem_flatMap]
  exact ⟨l,W7 (by simpa using h),by cases b<;>simp⟩
def bT(n lv:Nat):List (Nat×List Bool):=(List.range (aL n lv)).flatMap λix=>(m8 (bif Nat.beq lv 0 then 0 else cS n lv ix)).map λp=>(ix,p)
def yL(k:Nat):bV:=λargs hp nx=>match args with
 |[x,y,.v (.int .i64 (.ofNat lv)),.v (.int .i64 (.ofNat ix))]=>(match I3 hp x,aA5 hp y with
  |some xs,some bs=>bif Nat.ble xs.length 20&&(Nat.beq bs.length (aT xs.length)&&(Nat.blt lv k&&Nat.blt ix (aL xs.length lv))) then some (.a (.q (.node (bP xs.length (nR xs) (aU xs.length (nR xs) (o9 bs)) lv ix))),⟨⟨.e,0⟩,hp,nx⟩) else none
  |_,_=>none)
 |_=>none
def O5(lv:Nat):Prop:=∀(n ix c d g o g2 o2:Nat) (R:Nat->aA) (B:Nat->Bool) (w:World),1≤n->n≤20->ix<aL n lv->cG Xt w->bH w w.heap.size 35 (some ⟨g,o,none⟩) n (K1 n R)->bH w w.heap.size 1 (some ⟨g2,o2,none⟩) (aT n) (zU (aT n) B) ->
 Calls Xt.P 40 #[.slice (some ⟨g,o,none⟩) n c,.slice (some ⟨g2,o2,none⟩) (aT n) d,.int .i64 (lv:Int),.int .i64 (ix:Int)] w λe w'=>e=.returned (.agg (bP n (rL n R) (aU n (rL n R) (bL (aT n) B)) lv ix).vals.toArray)∧Below w.heap.size w w'
theorem aMF{α:Type}(xs:List α)(z:α):dW xs.length (λi=>xs.getD i z)=xs:=by
 apply List.ext_getElem?
 intro i
 unfold dW
 rw [jC]
 by_cases hi:i<xs.length
 ·rw [rJ hi];simp [hi]
 ·rw [fA (by simpa using hi),fA (by omega)];rfl
theorem aOy(xs:List aA):rL xs.length (nR xs)=nR xs:=by unfold rL;rw [show dW xs.length (nR xs)=xs from aMF xs dG]
theorem aLh(xs:List Bool):bL xs.length (o9 xs)=o9 xs:=by unfold bL;rw [show dW xs.length (o9 xs)=xs from aMF xs false]
theorem aCj{k:Nat}(hk:∀lv,lv<k->O5 lv):bN Xt 40 (yL k):=by
 intro args hp nx res st hl E r vals w hE ha hm
 have hgl:cG Xt w:=hE▸hm.globs
 unfold yL at hl
 split at hl
 ·rename_i x y lv ix
  split at hl
  ·rename_i xs bs hx hy
   cases hq:Nat.ble xs.length 20&&(Nat.beq bs.length (aT xs.length)&&(Nat.blt lv k&&Nat.blt ix (aL xs.length lv))) with
   |false=>rw [hq] at hl;cases hl
   |true =>
    rw [hq] at hl;cases hl
    simp only [bJ,cY,bE,bO,bR] at hq
    obtain ⟨h20,hb,hlv,hix⟩:=hq
    cases ha with|cons d1 t=>cases t with|cons d2 t=>cases t with|cons d3 t=>cases t with|cons d4 t =>
     cases t;cases d3;cases d4
     obtain ⟨h0,g,o,c,rfl,hr⟩:=aHy hm d1 hx
     obtain ⟨h02,g2,o2,d,rfl,hr2⟩:=aJm hm d2 hy
     have hc:=hk lv hlv xs.length ix c d g o g2 o2 (nR xs) (o9 bs) w h0 h20 hix hgl hr (hb▸hr2)
     rw [aOy,<-hb,aLh] at hc
     exact ⟨λw'=>bB (by kernel_rfl) _ w',hc.mono λe w' ⟨h1,h2⟩=>⟨[],_,h1,.a (.q _),by simpa using hm.grow h2⟩⟩
  ·cases hl
 ·cases hl
theorem G3{f:Nat->Bool}{k w:Nat}(h:w<k):((List.range k).map f).getD w false=f w:=by
 rw [cP,jC,rJ h]
 rfl
theorem aAc{n lv ix:Nat}{R:Nat->aA}{B:Nat->Bool}{p:List Bool}{w:Nat}{r:List aF}{ps:List (Rp SV)}{us:List Value}(hl:1≤lv∧lv≤2)(hp:w<cS n lv ix->p.getD w false=!(bY (rL n R) n (lv-1) (4*ix+w)))(hw:w<4)(hnum:w<cS n lv ix->num n (lv-1) (4*ix+w)<aT n)
 (h:cE r (tA n lv ix R B p w ps) us):∃us',us=(ee n (aU n (rL n R) (bL (aT n) B)) (lv-1) (4*ix+w)).vals++us'∧cE r ps us':=by
 obtain ⟨us',e,h'⟩:=aPQ h
 refine ⟨us',?_,h'⟩
 rw [e]
 congr 2
 unfold ee
 have hc:aL n (lv-1)=(if lv=0 then n else aL n (lv-1)):=by rw [if_neg (by omega)]
 by_cases hlt:w<cS n lv ix
 ·have h1:4*ix+w<aL n (lv-1):=by unfold cS at hlt;rw [<-hc] at hlt;omega
  rw [show Nat.blt w (cS n lv ix)=true from by rw [bO];simpa using hlt,show Nat.blt (4*ix+w) (aL n (lv-1))=true from by rw [bO];simpa using h1]
  simp only [Bool.true_and,cond_true]
  rw [hp hlt,Bool.not_not,pI _ _ _ _ _ (by omega) h1]
  congr 1
  unfold bL o9 dW
  rw [G3 (hnum hlt)]
 ·have h1:¬ 4*ix+w<aL n (lv-1):=by unfold cS at hlt;rw [<-hc] at hlt;omega
  rw [show Nat.blt w (cS n lv ix)=false from by rw [bO];simpa using hlt,show Nat.blt (4*ix+w) (aL n (lv-1))=false from by rw [bO];simpa using h1]
  rfl
theorem a7N:(fN 20 λ_n=>3).map (λq=>(List.range (aL (q.1+1) q.2)).all λi=>Nat.blt (num (q.1+1) q.2 i) (aT (q.1+1)))=(fN 20 λ_n=>3).map (λ_=>true):=by decide
theorem yW{n lv i:Nat}(h1:1≤n)(h2:n≤20)(hl:lv<3)(hi:i<aL n lv):num n lv i<aT n:=by
 obtain ⟨m,rfl⟩:∃m,n=m+1:=⟨n-1,by omega⟩
 have:=cW a7N (pU (f:=λ_=>3) (show m<20 by omega) hl)
 simp only [kK,dF,bO,bR] at this
 exact this i hi
theorem aTi:(fN 20 λ_n=>3).map (λq=>Nat.ble (aL (q.1+1) q.2) 8)=(fN 20 λ_n=>3).map (λ_=>true):=by decide
theorem aDK{n lv:Nat}(h1:1≤n)(h2:n≤20)(hl:lv<3):aL n lv≤8:=by
 obtain ⟨m,rfl⟩:∃m,n=m+1:=⟨n-1,by omega⟩
 have:=cW aTi (pU (f:=λ_=>3) (show m<20 by omega) hl)
 simpa [cY] using this
theorem a4Z{n lv ix:Nat}{R:Nat->aA}{B:Nat->Bool}{p:List Bool}{r:List aF}{us:List Value}(h1:1≤n)(h2:n≤20)(hl:lv<3)(hi:ix<aL n lv)(hp:1≤lv->∀w,w<cS n lv ix->p.getD w false=!(bY (rL n R) n (lv-1) (4*ix+w)))
 (h:cE r (ndQ n lv ix R B p) us):us=(bP n (rL n R) (aU n (rL n R) (bL (aT n) B)) lv ix).vals:=by
 have h8:=aDK h1 h2 hl
 have h7:ix%8=ix:=Nat.mod_eq_of_lt (by omega)
 cases h with|cons d1 h=>cases h with|cons d2 h =>
  rw [bQ d1,bQ d2]
  rcases lv with _|lv
  ·have h':cE r (qT n R (4*ix) (qT n R (4*ix+1) (qT n R (4*ix+2) (qT n R (4*ix+3) (jU (jU (jU (jU [])))))))) _:=h
   obtain ⟨u1,e1,h'⟩:=aAM h'
   obtain ⟨u2,e2,h'⟩:=aAM h'
   obtain ⟨u3,e3,h'⟩:=aAM h'
   obtain ⟨u4,e4,h'⟩:=aAM h'
   obtain ⟨v1,f1,h'⟩:=nN h'
   obtain ⟨v2,f2,h'⟩:=nN h'
   obtain ⟨v3,f3,h'⟩:=nN h'
   obtain ⟨v4,f4,h'⟩:=nN h'
   cases h'
   have er:∀i,rr n (rL n R) i=rr n R i:=by
    intro i
    unfold rr
    cases hb:Nat.blt i n with
    |false=>rfl
    |true =>
     rw [bO,bR] at hb
     simp only [cond_true]
     unfold rL nR dW
     rw [cP,jC,rJ hb]
     rfl
   rw [e1,e2,e3,e4,f1,f2,f3,f4]
   simp only [bP,er,bD.vals,lT,l8,h7]
   simp
  ·have h':cE r (jT (jT (jT (jT (tA n (lv+1) ix R B p 0 (tA n (lv+1) ix R B p 1 (tA n (lv+1) ix R B p 2 (tA n (lv+1) ix R B p 3 [])))))))) _:=h
   obtain ⟨u1,e1,h'⟩:=nM h'
   obtain ⟨u2,e2,h'⟩:=nM h'
   obtain ⟨u3,e3,h'⟩:=nM h'
   obtain ⟨u4,e4,h'⟩:=nM h'
   have hl2:1≤lv+1∧lv+1≤2:=by omega
   have hn:∀w,w<cS n (lv+1) ix->num n (lv+1-1) (4*ix+w)<aT n:=λw hw=>yW h1 h2 (by omega) (by
    unfold cS at hw
    rw [if_neg (by omega)] at hw
    omega)
   obtain ⟨v1,f1,h'⟩:=aAc hl2 (hp (by omega) 0) (by decide) (hn 0) h'
   obtain ⟨v2,f2,h'⟩:=aAc hl2 (hp (by omega) 1) (by decide) (hn 1) h'
   obtain ⟨v3,f3,h'⟩:=aAc hl2 (hp (by omega) 2) (by decide) (hn 2) h'
   obtain ⟨v4,f4,h'⟩:=aAc hl2 (hp (by omega) 3) (by decide) (hn 3) h'
   cases h'
   rw [e1,e2,e3,e4,f1,f2,f3,f4]
   rcases lv with _|_|lv
   ·simp only [bP,bD.vals,lT,l8,h7]
    simp
   ·simp only [bP,bD.vals,lT,l8,h7]
    simp
   ·omega
theorem aFi{H:Hk}(hH:bZ Xt H){lv:Nat}(hl:lv<3)(hrun:∀n,1≤n->n≤20->∀c d R B,(bT n lv).map (dO H n lv c d R B)=(bT n lv).map (dN n lv R B)):O5 lv:=by
 intro n ix c d g o g2 o2 R B w h1 h20 hi hg hr hr2
 obtain ⟨p,hp⟩:∃p:List Bool,p=(List.range (bif Nat.beq lv 0 then 0 else cS n lv ix)).map λw=>!(bY (rL n R) n (lv-1) (4*ix+w)):=⟨_,rfl⟩
 have hpd:1≤lv->∀w,w<cS n lv ix->p.getD w false=!(bY (rL n R) n (lv-1) (4*ix+w)):=by
  intro h w hw
  rw [hp,show Nat.beq lv 0=false from by rw [bE];simp;omega]
  exact G3 hw
 have hmem:(ix,p)∈bT n lv:=by
  simp only [bT,List.mem_flatMap,dF,dC]
  exact ⟨ix,hi,p,W7 (by rw [hp];simp),rfl⟩
 have h:=cW (hrun n h1 h20 c d R B) hmem
 unfold dO dN at h
 simp only [cH] at h
 obtain ⟨h2,h3⟩:=h
 have htot:0<aT n:=by have:=yW (n:=n) (lv:=0) (i:=0) h1 h20 (by omega) (by unfold aL;omega);omega
 have hm1:aG (E0 Xt w) ([]++[⟨g,o,c,none,λ_=>False⟩]) _ 1 w:=(aG.start Xt w hg).addR (c:=c) (T:=61) gM.start hr (by omega) (aS _) (aS _) (aGg n R)
 have hm:aG (E0 Xt w) ([⟨g,o,c,none,λ_=>False⟩]++[⟨g2,o2,d,none,λ_=>False⟩]) (hpN n (aT n) R B) 2 w:=hm1.addR (c:=d) (T:=3) (gM.start.put _ _ _) hr2 htot (aS _) (aS _) (aB4 (aT n) B)
 unfold W6 at h2
 split at h2
 ·rename_i cc st hfin
  refine (iQ (E:=E0 Xt w) (vals:=[.slice (some ⟨g,o,none⟩) n c,.slice (some ⟨g2,o2,none⟩) (aT n) d,.int .i64 (lv:Int),.int .i64 (ix:Int)]) aH hH hfin ?_ ?_ hm).mono ?_
  ·intro ob hob
   have hob':ob∈(ndX H n lv ix c d p R B).2:=hob
   rw [h3] at hob'
   unfold ndO at hob'
   rcases lv with _|lv
   ·cases hob'
   ·have hob2:ob∈(List.range (cS n (lv+1) ix)).map λw=>Ob.t (!(bY (rL n R) n (lv+1-1) (4*ix+w))) (p.getD w false):=hob'
    rw [dC] at hob2
    obtain ⟨w',hw',rfl⟩:=hob2
    rw [dF] at hw'
    show (!(bY (rL n R) n (lv+1-1) (4*ix+w')))=p.getD w' false
    rw [hpd (by omega) w' hw']
  ·exact .cons (.s (L:=⟨g,o,c,none,λ_=>False⟩) (o:=0) rfl) (.cons (.s (L:=⟨g2,o2,d,none,λ_=>False⟩) (o:=0) rfl) (.cons (.v _) (.cons (.v _) .nil)))
  ·rintro e w' ⟨q,v,he,hd,hm'⟩
   cases hd with|a hd =>
    have hf:=hZ _ hd
    rw [h2] at hf
    have:=a4Z h1 h20 hl hi hpd hf
    subst this
    exact ⟨he,hm'.below⟩
 ·exfalso
  unfold ndQ at h2
  cases h2
def aFw:List (FuncId×bV):=(38,D9)::zG
theorem aM6:∀p∈aFw,bN Xt p.1 p.2:=by
 intro p hp
 rcases bG.1 hp with rfl|hp
 ·exact aBY
 ·exact T9 p hp
def hJ:Hk:=cZ Xt (cT aFw) 14 6
theorem a2h:bZ Xt hJ:=eH aH aM6 6
theorem a6g(c d:Nat)(R:Nat->aA)(B:Nat->Bool):(bT 1 0).map (dO hJ 1 0 c d R B)=(bT 1 0).map (dN 1 0 R B):=by kernel_rfl
theorem a96(c d:Nat)(R:Nat->aA)(B:Nat->Bool):(bT 2 0).map (dO hJ 2 0 c d R B)=(bT 2 0).map (dN 2 0 R B):=by kernel_rfl
theorem aRa(c d:Nat)(R:Nat->aA)(B:Nat->Bool):(bT 3 0).map (dO hJ 3 0 c d R B)=(bT 3 0).map (dN 3 0 R B):=by kernel_rfl
theorem bBk(c d:Nat)(R:Nat->aA)(B:Nat->Bool):(bT 4 0).map (dO hJ 4 0 c d R B)=(bT 4 0).map (dN 4 0 R B):=by kernel_rfl
theorem aSo(c d:Nat)(R:Nat->aA)(B:Nat->Bool):(bT 5 0).map (dO hJ 5 0 c d R B)=(bT 5 0).map (dN 5 0 R B):=by kernel_rfl
theorem aS9(c d:Nat)(R:Nat->aA)(B:Nat->Bool):(bT 6 0).map (dO hJ 6 0 c d R B)=(bT 6 0).map (dN 6 0 R B):=by kernel_rfl
theorem aY0(c d:Nat)(R:Nat->aA)(B:Nat->Bool):(bT 7 0).map (dO hJ 7 0 c d R B)=(bT 7 0).map (dN 7 0 R B):=by kernel_rfl
theorem aW4(c d:Nat)(R:Nat->aA)(B:Nat->Bool):(bT 8 0).map (dO hJ 8 0 c d R B)=(bT 8 0).map (dN 8 0 R B):=by kernel_rfl
theorem a3Y(c d:Nat)(R:Nat->aA)(B:Nat->Bool):(bT 9 0).map (dO hJ 9 0 c d R B)=(bT 9 0).map (dN 9 0 R B):=by kernel_rfl
theorem aRq(c d:Nat)(R:Nat->aA)(B:Nat->Bool):(bT 10 0).map (dO hJ 10 0 c d R B)=(bT 10 0).map (dN 10 0 R B):=by kernel_rfl
theorem a0B(c d:Nat)(R:Nat->aA)(B:Nat->Bool):(bT 11 0).map (dO hJ 11 0 c d R B)=(bT 11 0).map (dN 11 0 R B):=by kernel_rfl
theorem a3d(c d:Nat)(R:Nat->aA)(B:Nat->Bool):(bT 12 0).map (dO hJ 12 0 c d R B)=(bT 12 0).map (dN 12 0 R B):=by kernel_rfl
theorem bDQ(c d:Nat)(R:Nat->aA)(B:Nat->Bool):(bT 13 0).map (dO hJ 13 0 c d R B)=(bT 13 0).map (dN 13 0 R B):=by kernel_rfl
theorem a0A(c d:Nat)(R:Nat->aA)(B:Nat->Bool):(bT 14 0).map (dO hJ 14 0 c d R B)=(bT 14 0).map (dN 14 0 R B):=by kernel_rfl
theorem aTg(c d:Nat)(R:Nat->aA)(B:Nat->Bool):(bT 15 0).map (dO hJ 15 0 c d R B)=(bT 15 0).map (dN 15 0 R B):=by kernel_rfl
theorem bB2(c d:Nat)(R:Nat->aA)(B:Nat->Bool):(bT 16 0).map (dO hJ 16 0 c d R B)=(bT 16 0).map (dN 16 0 R B):=by kernel_rfl
theorem a1E(c d:Nat)(R:Nat->aA)(B:Nat->Bool):(bT 17 0).map (dO hJ 17 0 c d R B)=(bT 17 0).map (dN 17 0 R B):=by kernel_rfl
theorem bBB(c d:Nat)(R:Nat->aA)(B:Nat->Bool):(bT 18 0).map (dO hJ 18 0 c d R B)=(bT 18 0).map (dN 18 0 R B):=by kernel_rfl
theorem aUo(c d:Nat)(R:Nat->aA)(B:Nat->Bool):(bT 19 0).map (dO hJ 19 0 c d R B)=(bT 19 0).map (dN 19 0 R B):=by kernel_rfl
theorem aQv(c d:Nat)(R:Nat->aA)(B:Nat->Bool):(bT 20 0).map (dO hJ 20 0 c d R B)=(bT 20 0).map (dN 20 0 R B):=by kernel_rfl
theorem a57:∀n,1≤n->n≤20->∀c d R B,(bT n 0).map (dO hJ n 0 c d R B)=(bT n 0).map (dN n 0 R B)
 |1,_,_=>a6g
 |2,_,_=>a96
 |3,_,_=>aRa
 |4,_,_=>bBk
 |5,_,_=>aSo
 |6,_,_=>aS9
 |7,_,_=>aY0
 |8,_,_=>aW4
 |9,_,_=>a3Y
 |10,_,_=>aRq
 |11,_,_=>a0B
 |12,_,_=>a3d
 |13,_,_=>bDQ
 |14,_,_=>a0A
 |15,_,_=>aTg
 |16,_,_=>bB2
 |17,_,_=>a1E
 |18,_,_=>bBB
 |19,_,_=>aUo
 |20,_,_=>aQv
 |n+21,_,h=>absurd h (by omega)
 |0,h,_=>absurd h (by omega)
theorem nd0:O5 0:=aFi a2h (by decide) a57
def aMm:List (FuncId×bV):=(38,D9)::(40,yL 1)::zG
theorem aOY:∀p∈aMm,bN Xt p.1 p.2:=by
 intro p hp
 rcases bG.1 hp with rfl|hp
 ·exact aBY
 ·rcases bG.1 hp with rfl|hp
  ·exact aCj λl hl=>by
    obtain rfl:l=0:=by omega
    exact nd0
  ·exact T9 p hp
def j0:Hk:=cZ Xt (cT aMm) 14 6
theorem a7c:bZ Xt j0:=eH aH aOY 6
theorem aO5(c d:Nat)(R:Nat->aA)(B:Nat->Bool):(bT 5 1).map (dO j0 5 1 c d R B)=(bT 5 1).map (dN 5 1 R B):=by kernel_rfl
theorem aTd(c d:Nat)(R:Nat->aA)(B:Nat->Bool):(bT 6 1).map (dO j0 6 1 c d R B)=(bT 6 1).map (dN 6 1 R B):=by kernel_rfl
theorem bCu(c d:Nat)(R:Nat->aA)(B:Nat->Bool):(bT 7 1).map (dO j0 7 1 c d R B)=(bT 7 1).map (dN 7 1 R B):=by kernel_rfl
theorem aX6(c d:Nat)(R:Nat->aA)(B:Nat->Bool):(bT 8 1).map (dO j0 8 1 c d R B)=(bT 8 1).map (dN 8 1 R B):=by kernel_rfl
theorem a91(c d:Nat)(R:Nat->aA)(B:Nat->Bool):(bT 9 1).map (dO j0 9 1 c d R B)=(bT 9 1).map (dN 9 1 R B):=by kernel_rfl
theorem aW7(c d:Nat)(R:Nat->aA)(B:Nat->Bool):(bT 10 1).map (dO j0 10 1 c d R B)=(bT 10 1).map (dN 10 1 R B):=by kernel_rfl
theorem aV0(c d:Nat)(R:Nat->aA)(B:Nat->Bool):(bT 11 1).map (dO j0 11 1 c d R B)=(bT 11 1).map (dN 11 1 R B):=by kernel_rfl
theorem aO6(c d:Nat)(R:Nat->aA)(B:Nat->Bool):(bT 12 1).map (dO j0 12 1 c d R B)=(bT 12 1).map (dN 12 1 R B):=by kernel_rfl
theorem bCL(c d:Nat)(R:Nat->aA)(B:Nat->Bool):(bT 13 1).map (dO j0 13 1 c d R B)=(bT 13 1).map (dN 13 1 R B):=by kernel_rfl
theorem aYt(c d:Nat)(R:Nat->aA)(B:Nat->Bool):(bT 14 1).map (dO j0 14 1 c d R B)=(bT 14 1).map (dN 14 1 R B):=by kernel_rfl
theorem a6w(c d:Nat)(R:Nat->aA)(B:Nat->Bool):(bT 15 1).map (dO j0 15 1 c d R B)=(bT 15 1).map (dN 15 1 R B):=by kernel_rfl
theorem aWU(c d:Nat)(R:Nat->aA)(B:Nat->Bool):(bT 16 1).map (dO j0 16 1 c d R B)=(bT 16 1).map (dN 16 1 R B):=by kernel_rfl
theorem aYC(c d:Nat)(R:Nat->aA)(B:Nat->Bool):(bT 17 1).map (dO j0 17 1 c d R B)=(bT 17 1).map (dN 17 1 R B):=by kernel_rfl
theorem a9m(c d:Nat)(R:Nat->aA)(B:Nat->Bool):(bT 18 1).map (dO j0 18 1 c d R B)=(bT 18 1).map (dN 18 1 R B):=by kernel_rfl
theorem a1P(c d:Nat)(R:Nat->aA)(B:Nat->Bool):(bT 19 1).map (dO j0 19 1 c d R B)=(bT 19 1).map (dN 19 1 R B):=by kernel_rfl
theorem aYW(c d:Nat)(R:Nat->aA)(B:Nat->Bool):(bT 20 1).map (dO j0 20 1 c d R B)=(bT 20 1).map (dN 20 1 R B):=by kernel_rfl
theorem aS4:∀n,1≤n->n≤20->∀c d R B,(bT n 1).map (dO j0 n 1 c d R B)=(bT n 1).map (dN n 1 R B)
 |1,_,_=>λ_ _ _ _=>rfl
 |2,_,_=>λ_ _ _ _=>rfl
 |3,_,_=>λ_ _ _ _=>rfl
 |4,_,_=>λ_ _ _ _=>rfl
 |5,_,_=>aO5
 |6,_,_=>aTd
 |7,_,_=>bCu
 |8,_,_=>aX6
 |9,_,_=>a91
 |10,_,_=>aW7
 |11,_,_=>aV0
 |12,_,_=>aO6
 |13,_,_=>bCL
 |14,_,_=>aYt
 |15,_,_=>a6w
 |16,_,_=>aWU
 |17,_,_=>aYC
 |18,_,_=>a9m
 |19,_,_=>a1P
 |20,_,_=>aYW
 |n+21,_,h=>absurd h (by omega)
 |0,h,_=>absurd h (by omega)
theorem nd1:O5 1:=aFi a7c (by decide) aS4
def aJC:List (FuncId×bV):=(38,D9)::(40,yL 2)::zG
theorem bBg:∀p∈aJC,bN Xt p.1 p.2:=by
 intro p hp
 rcases bG.1 hp with rfl|hp
 ·exact aBY
 ·rcases bG.1 hp with rfl|hp
  ·exact aCj λl hl=>by
    rcases l with _|_|_|l
    ·exact nd0
    ·exact nd1
    ·omega
    ·omega
  ·exact T9 p hp
def D4:Hk:=cZ Xt (cT aJC) 14 6
theorem a8A:bZ Xt D4:=eH aH bBg 6
theorem a7g(c d:Nat)(R:Nat->aA)(B:Nat->Bool):(bT 17 2).map (dO D4 17 2 c d R B)=(bT 17 2).map (dN 17 2 R B):=by kernel_rfl
theorem bBv(c d:Nat)(R:Nat->aA)(B:Nat->Bool):(bT 18 2).map (dO D4 18 2 c d R B)=(bT 18 2).map (dN 18 2 R B):=by kernel_rfl
theorem aTO(c d:Nat)(R:Nat->aA)(B:Nat->Bool):(bT 19 2).map (dO D4 19 2 c d R B)=(bT 19 2).map (dN 19 2 R B):=by kernel_rfl
theorem aYb(c d:Nat)(R:Nat->aA)(B:Nat->Bool):(bT 20 2).map (dO D4 20 2 c d R B)=(bT 20 2).map (dN 20 2 R B):=by kernel_rfl
theorem bAu:∀n,1≤n->n≤20->∀c d R B,(bT n 2).map (dO D4 n 2 c d R B)=(bT n 2).map (dN n 2 R B)
 |1,_,_=>λ_ _ _ _=>rfl
 |2,_,_=>λ_ _ _ _=>rfl
 |3,_,_=>λ_ _ _ _=>rfl
 |4,_,_=>λ_ _ _ _=>rfl
 |5,_,_=>λ_ _ _ _=>rfl
 |6,_,_=>λ_ _ _ _=>rfl
 |7,_,_=>λ_ _ _ _=>rfl
 |8,_,_=>λ_ _ _ _=>rfl
 |9,_,_=>λ_ _ _ _=>rfl
 |10,_,_=>λ_ _ _ _=>rfl
 |11,_,_=>λ_ _ _ _=>rfl
 |12,_,_=>λ_ _ _ _=>rfl
 |13,_,_=>λ_ _ _ _=>rfl
 |14,_,_=>λ_ _ _ _=>rfl
 |15,_,_=>λ_ _ _ _=>rfl
 |16,_,_=>λ_ _ _ _=>rfl
 |17,_,_=>a7g
 |18,_,_=>bBv
 |19,_,_=>aTO
 |20,_,_=>aYb
 |n+21,_,h=>absurd h (by omega)
 |0,h,_=>absurd h (by omega)
theorem nd2:O5 2:=aFi a8A (by decide) bAu
def aLZ:List (FuncId×bV):=(38,D9)::(40,yL 3)::zG
theorem aUh:∀p∈aLZ,bN Xt p.1 p.2:=by
 intro p hp
 rcases bG.1 hp with rfl|hp
 ·exact aBY
 ·rcases bG.1 hp with rfl|hp
  ·exact aCj λl hl=>by
    rcases l with _|_|_|l
    ·exact nd0
    ·exact nd1
    ·exact nd2
    ·omega
  ·exact T9 p hp
def HN3:Hk:=cZ Xt (cT aLZ) 14 6
theorem aR2:bZ Xt HN3:=eH aH aUh 6
