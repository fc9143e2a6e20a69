/- A part of the proof of TopSealed. -/
import Derived.Test.YtjboelhcieepkaaGreatDoorW8
import Derived.Deep.RegionWith
import Derived.StillTailTactics
import Derived.Laws.Strings
noncomputable section
set_option maxRecDepth 16384
set_option maxHeartbeats 1000000
namespace Go.Proofs.YtjboelhcieepkaaGreatDoor
open Go.RowKit
def bBU(x:Operand)(_X:aI)(st:St)(_ty:TypeId):Option (SV×Tr×Nat):=dH st (some (ev st.ts x))
def aYo(x:Operand)(_X:aI)(st:St)(_ty:TypeId):Option (SV×Tr×Nat):=dH st (some (ev st.ts x))
def aSn(c:Operand)(a:Operand)(b:Operand)(_X:aI)(st:St)(_ty:TypeId):Option (SV×Tr×Nat):=(match ev st.ts c with
 | .v (.bool t)=>dH st (some (bif t then ev st.ts a else ev st.ts b))
 |_=>none)
def aPk(T:TypeId)(X:aI)(st:St)(_ty:TypeId):Option (SV×Tr×Nat):=(match oJ X.P T with
 |some cs=>some (rB st T cs (.p st.nx 0))
 |none=>none)
def bCk(T:TypeId)(x:Operand)(_X:aI)(st:St)(_ty:TypeId):Option (SV×Tr×Nat):=(match (ev st.ts x).cells with
 |some cs=>some (rB st T cs (.p st.nx 0))
 |none=>none)
def a3u(T:TypeId)(parts:Array (Nat×Operand))(X:aI)(st:St)(_ty:TypeId):Option (SV×Tr×Nat):=(match oJ X.P T,X.P.underlying T with
 |some z,some (.struct fs)=>(match fs.toList.mapM (λf=>(X.P.info? f.type).map λi=>(f.offset,i.size)) with
  |some pl=>(match qX (λi=>pl[i]?) z (parts.toList.map λx=>(x.1,ev st.ts x.2)) with
   |some cs=>some (.a cs,st.hp,st.nx)
   |none=>none)
  |none=>none)
 |some z,some (.array _ e)=>(match gH X.P e with
  |some n=>(match qX (λi=>some (i*n,n)) z (parts.toList.map λx=>(x.1,ev st.ts x.2)) with
   |some cs=>some (.a cs,st.hp,st.nx)
   |none=>none)
  |none=>none)
 |_,_=>none)
def aQe(T:TypeId)(n:Nat)(parts:Array (Nat×Operand))(X:aI)(st:St)(_ty:TypeId):Option (SV×Tr×Nat):=(match X.P.underlying T with
 |some (.slice e)=>(match oJ X.P e,gH X.P e with
  |some z,some k=>bif Nat.ble (n*k) 16777216&&Nat.blt 0 k then (match qX (λi=>some (i*k,k)) (tO z n) (parts.toList.map λx=>(x.1,ev st.ts x.2)) with
   |some cs=>some (rB st e cs (.s st.nx 0 n n))
   |none=>none) else none
  |_,_=>none)
 |_=>none)
def a2K(T:TypeId)(x:Operand)(X:aI)(st:St)(_ty:TypeId):Option (SV×Tr×Nat):=dH st (sR X st.hp T (ev st.ts x))
def aQd(x:Operand)(_X:aI)(st:St)(_ty:TypeId):Option (SV×Tr×Nat):=(match ev st.ts x with
 | .p n o=>dH st (some (.p n o))
 | .v (.pointer (some a))=>dH st (some (.v (.pointer (some a))))
 | .f (.func g) a b=>dH st (some (.f (.func g) a b))
 | .y n=>dH st (some (.y n))
 |_=>none)
def a0t(op:BinOp)(T:TypeId)(x:Operand)(y:Operand)(_q4:TypeId)(X:aI)(st:St)(_ty:TypeId):Option (SV×Tr×Nat):=dH st (bin X op T x y (ev st.ts x) (ev st.ts y))
def aXg(op:UnOp)(_q1:TypeId)(x:Operand)(X:aI)(st:St)(_ty:TypeId):Option (SV×Tr×Nat):=(match ev st.ts x with
 | .v x=>dH st (vW X.P (Op.unary op x))
 |_=>none)
def aWH(a:TypeId)(b:TypeId)(x:Operand)(X:aI)(st:St)(_ty:TypeId):Option (SV×Tr×Nat):=(match ev st.ts x with
 | .v x=>dH st (vW X.P (convert a b x))
 | .s n o l c=>dH st (x9 X st.hp a b (.s n o l c))
 | .w n l=>dH st (x9 X st.hp a b (.w n l))
 |_=>none)
def a6L(T:TypeId)(x:Operand)(X:aI)(st:St)(_ty:TypeId):Option (SV×Tr×Nat):=(match X.P.underlying T,ev st.ts x with
 |some (.array n _),.s g o l _=>bif Nat.ble n l then dH st (some (.p g o)) else none
 |some (.array n _),.w g l=>bif Nat.ble n l then dH st (some (.p g 0)) else none
 |_,_=>none)
def aTJ(T:TypeId)(x:Operand)(X:aI)(st:St)(_ty:TypeId):Option (SV×Tr×Nat):=(match X.P.underlying T with
 |some (.interface _)=>none
 |some _=>dH st (some (.i T (ev st.ts x)))
 |none=>none)
def a8L(fn:Fn)(a:Array Operand)(b:Array Operand)(_X:aI)(st:St)(_ty:TypeId):Option (SV×Tr×Nat):=dH st (some (.f fn (a.toList.map (ev st.ts)) (b.toList.map (ev st.ts))))
def aPJ(T:TypeId)(l:Operand)(c:Operand)(X:aI)(st:St)(_ty:TypeId):Option (SV×Tr×Nat):=(match X.P.underlying T,pD (ev st.ts l),pD (ev st.ts c) with
 |some (.slice e),some l,some c=>(match oJ X.P e with
  |some z=>bif Nat.ble l c&&Nat.ble ((1+X.P.bytesOf e)*c) 281474976710656 then some (rB st e (tO z c) (.s st.nx 0 l c)) else none
  |none=>none)
 |_,_,_=>none)
def a8M(T:TypeId)(x:Operand)(lo:Option Operand)(hi:Option Operand)(mx:Option Operand)(X:aI)(st:St)(_ty:TypeId):Option (SV×Tr×Nat):=dH st (aAo X.P T st.ts (ev st.ts x) lo hi mx)
def aSz(T:TypeId)(x:Operand)(f:Nat)(X:aI)(st:St)(_ty:TypeId):Option (SV×Tr×Nat):=(match X.P.underlying T with
 |some (.struct fs)=>(match fs.toList[f]?,ev st.ts x with
  |some fd,.p n o=>(match gH X.P fd.type with
   |some (_+1)=>some (.p n (o+fd.offset),st.hp,st.nx)
   |_=>none)
  |_,_=>none)
 |_=>none)
def bAg(T:TypeId)(x:Operand)(f:Nat)(X:aI)(st:St)(_ty:TypeId):Option (SV×Tr×Nat):=(match X.P.underlying T with
 |some (.struct fs)=>(match fs.toList[f]?,ev st.ts x with
  |some fd,.a cs=>dH st (oN X.P fd.type cs fd.offset)
  |_,_=>none)
 |_=>none)
def a4m(T:TypeId)(x:Operand)(i:Operand)(X:aI)(st:St)(_ty:TypeId):Option (SV×Tr×Nat):=dH st (aAz X.P T (ev st.ts x) (ev st.ts i))
def bCD(T:TypeId)(x:Operand)(i:Operand)(X:aI)(st:St)(_ty:TypeId):Option (SV×Tr×Nat):=(match X.P.underlying T,ev st.ts x,pD (ev st.ts i) with
 |some (.array n e),.a cs,some k=>(match gH X.P e with
  |some z=>bif Nat.blt k n then dH st (oN X.P e cs (k*z)) else none
  |none=>none)
 |_,_,_=>none)
def aTP(x:Operand)(i:Nat)(_X:aI)(st:St)(_ty:TypeId):Option (SV×Tr×Nat):=(match ev st.ts x with
 | .t vs=>(match vs[i]? with
  |some y=>dH st (some y)
  |none=>none)
 |_=>none)
def a2y(c:Call)(X:aI)(st:St)(ty:TypeId):Option (SV×Tr×Nat):=(match c.callee with
 | .builtin b=>X3 X st b ty c.argTypes.toList (c.args.toList.map (ev st.ts))
 |_=>none)
def opF(op:Op):aI->St->TypeId->Option (SV×Tr×Nat):=Op.rec (motive:=λ_=>aI->St->TypeId->Option (SV×Tr×Nat)) bBU aYo aSn aPk bCk a3u aQe (λ_ _ _ _ _ _ _=>none) a2K (λ_ _ _ _ _ _=>none) (λ_ _ _ _=>none) (λ_ _ _ _=>none) aQd a0t aXg aWH a6L aTJ a8L (λ_ _ _ _ _=>none) (λ_ _ _ _ _=>none) aPJ a8M aSz bAg a4m bCD (λ_ _ _ _ _ _ _=>none) (λ_ _ _ _ _ _ _=>none) (λ_ _ _ _ _ _=>none) (λ_ _ _ _ _ _ _=>none) (λ_ _ _ _ _=>none) (λ_ _ _ _ _=>none) (λ_ _ _ _=>none) (λ_ _ _ _ _ _ _=>none) aTP a2y (λ_ _ _ _=>none) (λ_ _ _ _=>none) (λ_ _ _ _=>none) (λ_ _ _ _ _=>none) (λ_ _ _ _ _ _=>none) (λ_ _ _ _ _=>none) op
theorem aU9(op:Op)(X:aI)(st:St)(ty:TypeId):opF op X st ty=dI X st op ty:=by cases op<;>rfl
def dR(o:Oper)(X:aI)(p:aB)(ops:Array Oper)(rest:List Oper):Option aB:=Option.rec (motive:=λ_=>Option aB) none (λr=>some ⟨.ops ops rest,p.k,⟨putS p.st.ts o.dst r.1,r.2.1,r.2.2⟩⟩) (opF o.op X p.st o.type)
theorem aFg(o:Oper)(X:aI)(p:aB)(ops:Array Oper)(rest:List Oper):dR o X p ops rest=uT X p o ops rest:=by
 unfold dR uT
 rw [aU9]
 cases dI X p.st o.op o.type<;>rfl
def a5H(T:TypeId)(x y:Operand)(o:Oper)(X:aI)(p:aB)(ops:Array Oper)(rest:List Oper):Option aB:=match ev p.st.ts x,(ev p.st.ts y).cells,gH X.P T with
 | .p n i,some cs,some z=>bif Nat.beq (dK cs) z&&o.dst.isNone then (match qI p.st.hp n i cs with
  |some hp=>some ⟨.ops ops rest,p.k,⟨p.st.ts,hp,p.st.nx⟩⟩
  |none=>none) else none
 |_,_,_=>none
def aGa(a b:TypeId)(x:Operand)(o:Oper)(X:aI)(p:aB)(ops:Array Oper)(rest:List Oper):Option aB:=match I4 X p a b (ev p.st.ts x) with
 |some (y,hp)=>some ⟨.ops ops rest,p.k,⟨putS p.st.ts o.dst y,hp,p.st.nx⟩⟩
 |none=>dR o X p ops rest
def bCS(q:Nat×Bool)(ops:Array Oper)(ts:Sl):Option Bool:=gB ops ts (some q)
def aOi(g:Option (Nat×Bool)):Array Oper->Sl->Option Bool:=Option.casesOn (motive:=λ_=>Array Oper->Sl->Option Bool) g (λ_ _=>some true) bCS
theorem a54(g:Option (Nat×Bool))(ops:Array Oper)(ts:Sl):aOi g ops ts=gB ops ts g:=by cases g<;>rfl
def aQp(ts:Sl)(fn:Func)(d:Option Tmp)(ops:Array Oper)(rest:List Oper)(k:List KI)(X:aI)(st:St):Option aB:=match mH X fn st with
 |some v=>some ⟨.ops ops rest,k,⟨putS ts d v,st.hp,st.nx⟩⟩
 |none=>none
def a3q(c:Code)(k:List KI)(_ih:aI->St->Option aB)(_X:aI)(st:St):Option aB:=some ⟨.code c,k,st⟩
def a7R(_:Nat)(_k:List KI)(ih:aI->St->Option aB):aI->St->Option aB:=ih
def aOL(c:Code)(k:List KI)(_ih:aI->St->Option aB)(_X:aI)(st:St):Option aB:=some ⟨.code c,.loop c::k,st⟩
def aHO(ts:Sl)(fn:Func)(d:Option Tmp)(ops:Array Oper)(rest:List Oper)(k:List KI)(_ih:aI->St->Option aB)(X:aI)(st:St):Option aB:=aQp ts fn d ops rest k X st
def bEa(n:Nat)(_k:List KI)(ih:aI->St->Option aB)(X:aI)(st:St):Option aB:=bif pY st.hp n then ih X ⟨st.ts,st.hp.del n,st.nx⟩ else none
def a3U(n:Nat)(_:Array Tmp)(_ _:Code)(fn:Func)(ts:Sl)(k:List KI)(ih:aI->St->Option aB)(X:aI)(st:St):Option aB :=
 wC (mH X fn st) (wY (l9 st.hp n) (ih X ⟨ts,st.hp.del n,st.nx⟩) (λc=>⟨.code c,k,⟨ts,st.hp.del n,st.nx⟩⟩))
def aQR(n:Nat)(bdy:Code)(k:List KI)(_ih:aI->St->Option aB)(_X:aI)(st:St):Option aB:=match l9 st.hp n with
 |some 0=>some ⟨.code bdy,k,⟨st.ts,E9 st.hp n 1,st.nx⟩⟩
 |_=>none
def bBn(n:Nat)(ts:Sl)(d:Option Tmp)(ops:Array Oper)(rest:List Oper)(k:List KI)(_ih:aI->St->Option aB)(_X:aI)(st:St):Option aB:=xW st.hp st.nx n ts d ops rest k 0 true
def G2(k:List KI):aI->St->Option aB :=
 List.rec (motive:=λ_=>aI->St->Option aB) (λ_ st=>some ⟨.done .normal,[],st⟩)
  (λi k ih=>KI.rec (motive:=λ_=>List KI->(aI->St->Option aB)->aI->St->Option aB) a3q a7R aOL aHO bEa a3U aQR bBn i k ih) k
theorem aA0(X:aI)(k:List KI):∀st,G2 k X st=cF X st .normal k:=by
 induction k with
 |nil=>intro st;rfl
 |cons i k ih =>
  intro st
  cases i with
  |blk _=>exact ih st
  |ds n =>
   show (bif pY st.hp n then G2 k X ⟨st.ts,st.hp.del n,st.nx⟩ else none)=_
   rw [ih];rfl
  |rng n prm asg bdy fn ts =>
   show wC (mH X fn st) (wY (l9 st.hp n) (G2 k X ⟨ts,st.hp.del n,st.nx⟩) (λc=>⟨.code c,k,⟨ts,st.hp.del n,st.nx⟩⟩))=_
   rw [ih];rfl
  |_=>rfl
def aDx{α:Type}(_:α)(_k:List KI)(ih:aI->St->Option aB):aI->St->Option aB:=ih
def aS3(n:Nat)(_k:List KI)(ih:aI->St->Option aB)(X:aI)(st:St):Option aB:=bif pY st.hp n then ih X ⟨st.ts,st.hp.del n,st.nx⟩ else none
def a0H(n:Nat)(_:Array Tmp)(_ _:Code)(fn:Func)(ts:Sl)(k:List KI)(_ih:aI->St->Option aB)(X:aI)(st:St):Option aB :=
 wC (mH X fn st) (wY (l9 st.hp n) (cF X ⟨ts,st.hp.del n,st.nx⟩ .normal k) (λc=>⟨.code c,k,⟨ts,st.hp.del n,st.nx⟩⟩))
def aPt(n:Nat)(ts:Sl)(d:Option Tmp)(ops:Array Oper)(rest:List Oper)(k:List KI)(_ih:aI->St->Option aB)(_X:aI)(st:St):Option aB:=xW st.hp st.nx n ts d ops rest k 2 false
def aGB(k:List KI):aI->St->Option aB :=
 List.rec (motive:=λ_=>aI->St->Option aB) (λ_ st=>some ⟨.done .ret,[],st⟩)
  (λi k ih=>KI.rec (motive:=λ_=>List KI->(aI->St->Option aB)->aI->St->Option aB) aDx aDx aDx aHO aS3 a0H (λ_ _ _ _ _ _=>none) aPt i k ih) k
theorem a3V(X:aI)(k:List KI):∀st,aGB k X st=cF X st .ret k:=by
 induction k with
 |nil=>intro st;rfl
 |cons i k ih =>
  intro st
  cases i with
  |code _=>exact ih st
  |blk _=>exact ih st
  |loop _=>exact ih st
  |ds n =>
   show (bif pY st.hp n then aGB k X ⟨st.ts,st.hp.del n,st.nx⟩ else none)=_
   rw [ih];rfl
  |_=>rfl
def bDN(c:Operand)(a b:Code)(_:aI)(p:aB):Option aB:=match ev p.st.ts c with
 | .v (.bool true)=>some ⟨.code a,p.k,p.st⟩
 | .v (.bool false)=>some ⟨.code b,p.k,p.st⟩
 |_=>none
structure Hk where
 leaf:FuncId->Option (List SV->Tr->Nat->Option (SV×St))
 reg:Array Oper->St->Option St
def qM(H:Hk)(g:FuncId)(args:List SV)(hp:Tr)(nx:Nat):Option (SV×St):=match H.leaf g with
 |some L=>L args hp nx
 |none=>none
def aHi(p:aB)(o:Oper)(ops:Array Oper)(rest:List Oper)(r:Option (SV×St)):Option aB:=match r with
 |some (y,st)=>some ⟨.ops ops rest,p.k,⟨putS p.st.ts o.dst y,st.hp,st.nx⟩⟩
 |none=>none
def aJP(H:Hk)(X:aI)(p:aB)(o:Oper)(ops:Array Oper)(rest:List Oper)(g:FuncId)(args:List SV):Option aB :=
 Option.rec (motive:=λ_=>List SV->Option aB) (λargs=>aEK X p o ops rest g args) (λL args=>aHi p o ops rest (L args p.st.hp p.st.nx)) (H.leaf g) args
def aHd(H:Hk)(c:Call)(o:Oper)(X:aI)(p:aB)(ops:Array Oper)(rest:List Oper):Option aB:=match c.callee with
 | .value f=>(match ev p.st.ts f with
  | .f (.func g) a b=>aJP H X p o ops rest g (a++(c.args.toList.map (ev p.st.ts)++b))
  | .y n=>aC8 p o ops rest n (c.args.toList.map (ev p.st.ts))
  |_=>none)
 |_=>dR o X p ops rest
def aOK(H:Hk)(op:Op):Oper->aI->aB->Array Oper->List Oper->Option aB:=Op.rec (motive:=λ_=>Oper->aI->aB->Array Oper->List Oper->Option aB) (λ_=>dR) (λ_=>dR) (λ_ _ _=>dR) (λ_=>dR) (λ_ _=>dR) (λ_ _=>dR) (λ_ _ _=>dR) (λ_ _ _ _=>dR) (λ_ _=>dR) a5H (λ_=>dR) (λ_=>dR) (λ_=>dR) (λ_ _ _ _ _=>dR) (λ_ _ _=>dR) aGa (λ_ _=>dR) (λ_ _=>dR) (λ_ _ _=>dR) (λ_ _=>dR) (λ_ _=>dR) (λ_ _ _=>dR) (λ_ _ _ _ _=>dR) (λ_ _ _=>dR) (λ_ _ _=>dR) (λ_ _ _=>dR) (λ_ _ _=>dR) (λ_ _ _ _=>dR) (λ_ _ _ _=>dR) (λ_ _ _=>dR) (λ_ _ _ _=>dR) (λ_ _=>dR) (λ_ _=>dR) (λ_=>dR) (λ_ _ _ _=>dR) (λ_ _=>dR) (aHd H) (λ_=>dR) (λ_=>dR) (λ_=>dR) (λ_ _=>dR) (λ_ _ _=>dR) (λ_ _=>dR) op
def aDr(H:Hk)(o:Oper)(X:aI)(p:aB)(ops:Array Oper)(rest:List Oper):Option aB :=
 Option.rec (motive:=λ_=>Option aB) none (λb=>Bool.rec (some ⟨.ops ops rest,p.k,⟨putS p.st.ts o.dst mX,p.st.hp,p.st.nx⟩⟩) (aOK H o.op o X p ops rest) b) (aOi o.guard ops p.st.ts)
def aOt(H:Hk)(o:Oper)(p:aB)(ops:Array Oper)(rest:List Oper)(q:aB):Prop :=
 gB ops p.st.ts o.guard=some true∧∃c f g a b y st,o.op=.call c∧c.callee=.value f∧ev p.st.ts f=.f (.func g) a b∧qM H g (a++(c.args.toList.map (ev p.st.ts)++b)) p.st.hp p.st.nx=some (y,st) ∧
  q=⟨.ops ops rest,p.k,⟨putS p.st.ts o.dst y,st.hp,st.nx⟩⟩
theorem a5u{H:Hk}{X:aI}{o:Oper}{p q:aB}{ops:Array Oper}{rest:List Oper}(h:aDr H o X p ops rest=some q):T0 X p o ops rest=some q∨aOt H o p ops rest q:=by
 unfold aDr at h
 rw [a54] at h
 unfold T0
 cases hg:gB ops p.st.ts o.guard with
 |none=>rw [hg] at h;cases h
 |some b =>
  rw [hg] at h
  cases b with
  |false=>exact .inl h
  |true =>
   have h':aOK H o.op o X p ops rest=some q:=h
   clear h
   cases ho:o.op with
   |store T x y=>rw [ho] at h';exact .inl h'
   |convert a b x =>
    rw [ho] at h'
    have h2:aGa a b x o X p ops rest=some q:=h'
    unfold aGa at h2
    refine .inl ?_
    show (match I4 X p a b (ev p.st.ts x) with
     |some (y,hp)=>some ⟨.ops ops rest,p.k,⟨putS p.st.ts o.dst y,hp,p.st.nx⟩⟩
     |none=>uT X p o ops rest)=some q
    rw [<-aFg]
    exact h2
   |call c =>
    rw [ho] at h'
    have h2:aHd H c o X p ops rest=some q:=h'
    clear h'
    unfold aHd at h2
    cases hc:c.callee with
    |value f =>
     rw [hc] at h2
     simp only at h2 ⊢
     split at h2
     ·rename_i g a b e
      unfold aJP at h2
      cases hl:H.leaf g with
      |none =>
       rw [hl] at h2
       simp only [hc,e]
       exact .inl h2
      |some L =>
       rw [hl] at h2
       have h3:aHi p o ops rest (L (a++(c.args.toList.map (ev p.st.ts)++b)) p.st.hp p.st.nx)=some q:=h2
       unfold aHi at h3
       split at h3
       ·rename_i y st hy
        cases h3
        refine .inr ⟨hg,c,f,g,a,b,y,st,ho,hc,e,?_,rfl⟩
        unfold qM
        rw [hl]
        exact hy
       ·cases h3
     ·rename_i n e
      simp only [hc,e]
      exact .inl h2
     ·cases h2
    |_=>rw [hc] at h2;simp only [hc];rw [<-aFg];exact .inl h2
   |_=>rw [ho] at h';rw [<-aFg];exact .inl h'
def yJ(ops:Array Oper):Bool:=(match ops.toList.drop (ops.size-2) with
 |o::_=>(match o.op with
  | .call c=>(match c.callee with
   | .value (.tmp _)=>true
   |_=>false)
  |_=>false)
 |[]=>false)&&N3 ops (ops.size-2)
def xE(ops:Array Oper):Bool:=(match ops.toList.drop (ops.size-1) with
 |o::_=>(match o.op with
  | .call c=>(match c.callee with
   | .value (.tmp _)=>true
   |_=>false)
  |_=>false)
 |[]=>false)&&I9 ops (ops.size-1)
def T6(X:aI)(k:List KI)(r:Option St):Option aB:=match r with
 |some st=>G2 k X st
 |none=>none
def aB6(ops:Array Oper)(k:List KI)(r:Option St):Option aB:=match r with
 |some st=>some ⟨.ops ops (ops.toList.drop (ops.size-2)),k,st⟩
 |none=>none
def K4(ops:Array Oper)(k:List KI)(r:Option St):Option aB:=match r with
 |some st=>some ⟨.ops ops (ops.toList.drop (ops.size-1)),k,st⟩
 |none=>none
def vU(H:Hk)(ops:Array Oper)(X:aI)(p:aB):Option aB:=Bool.rec (Bool.rec (T6 X p.k (H.reg ops p.st)) (K4 ops p.k (H.reg (ops.toList.take (ops.size-1)).toArray p.st)) (xE ops)) (aB6 ops p.k (H.reg (ops.toList.take (ops.size-2)).toArray p.st)) (yJ ops)
def bAd(H:Hk)(_:Nat)(ops:Array Oper)(d:Bool)(X:aI)(p:aB):Option aB:=Bool.rec (some ⟨.ops ops ops.toList,p.k,p.st⟩) (vU H ops X p) d
def aOj(X:aI)(p:aB):Option aB:=G2 p.k X p.st
def a2c(a b:Code)(_ _:aI->aB->Option aB)(_:aI)(p:aB):Option aB:=some ⟨.code a,.code b::p.k,p.st⟩
def bCC(c:Operand)(a b:Code)(_ _:aI->aB->Option aB)(X:aI)(p:aB):Option aB:=bDN c a b X p
def a82(id:Nat)(b:Code)(_:aI->aB->Option aB)(_:aI)(p:aB):Option aB:=some ⟨.code b,.blk id::p.k,p.st⟩
def aVy(b:Code)(_:aI->aB->Option aB)(_:aI)(p:aB):Option aB:=some ⟨.code b,.loop b::p.k,p.st⟩
def aYE(g:Operand)(ps:Array Tmp)(a b:Code)(_ _:aI->aB->Option aB)(X:aI)(p:aB):Option aB:=aBJ X p g ps a b
def aQF(b:Code)(_:aI->aB->Option aB)(_:aI)(p:aB):Option aB:=aHH p b
def aZa(id:Nat)(X:aI)(p:aB):Option aB:=cF X p.st (.exit id) p.k
def aUc(X:aI)(p:aB):Option aB:=aGB p.k X p.st
def a0Q(H:Hk)(c:Code):aI->aB->Option aB:=Code.rec (motive:=λ_=>aI->aB->Option aB)
 aOj (bAd H) a2c bCC a82 aVy aYE aZa aQF (λ_=>aOj) (λ_ _ _=>none) aUc (λ_ _ _=>none) c
def a4W(X:aI)(_ops:Array Oper)(p:aB):Option aB:=G2 p.k X p.st
def aRo(H:Hk)(o:Oper)(rest:List Oper)(_:aI->Array Oper->aB->Option aB)(X:aI)(ops:Array Oper)(p:aB):Option aB:=aDr H o X p ops rest
def a3E(H:Hk)(ops:Array Oper)(l:List Oper)(X:aI)(p:aB):Option aB:=List.rec (motive:=λ_=>aI->Array Oper->aB->Option aB) a4W (aRo H) l X ops p
def hdW(H:Hk)(h:Hd):aI->aB->Option aB:=Hd.rec (motive:=λ_=>aI->aB->Option aB) (a0Q H) (a3E H) (λ_ _ _=>none) h
def oD(H:Hk)(X:aI)(p:aB):Option aB:=hdW H p.h X p
def a1h(c:Code)(f:aB->aB)(k:List KI)(st:St):aB:=f ⟨.code c,k,st⟩
def aZ1(ops:Array Oper)(l:List Oper)(f:aB->aB)(k:List KI)(st:St):aB:=f ⟨.ops ops l,k,st⟩
def a03(e:Exit)(_f:aB->aB)(k:List KI)(st:St):aB:=⟨.done e,k,st⟩
def aSi(h:Hd)(k:List KI)(st:St)(f:aB->aB):aB:=Hd.rec (motive:=λ_=>(aB->aB)->List KI->St->aB) a1h aZ1 a03 h f k st
def J7(f:aB->aB)(q:aB):aB:=aB.rec (motive:=λ_=>(aB->aB)->aB) aSi q f
theorem aIj(f:aB->aB)(q:aB):J7 f q=f q∨J7 f q=q:=by
 obtain ⟨h,k,st⟩:=q
 cases h
 ·exact .inl rfl
 ·exact .inl rfl
 ·exact .inr rfl
def tG(H:Hk)(X:aI)(n:Nat):aB->aB:=Nat.rec (motive:=λ_=>aB->aB) (λp=>Option.rec (motive:=λ_=>aB) p (λq=>q) (oD H X p)) (λ_ ih p=>J7 ih (ih p)) n
theorem aTB{H:Hk}{X:aI}{p q:aB}(h:oD H X p=some q):step X p=some q∨(∃ops o rest,p.h=.ops ops (o::rest)∧aOt H o p ops rest q) ∨
 (∃id ops st,p.h=.code (.region id ops true)∧H.reg ops p.st=some st∧cF X st .normal p.k=some q) ∨
 (∃id ops st,p.h=.code (.region id ops true)∧N3 ops (ops.size-2)=true∧H.reg (ops.toList.take (ops.size-2)).toArray p.st=some st∧q=⟨.ops ops (ops.toList.drop (ops.size-2)),p.k,st⟩) ∨
 ∃id ops st,p.h=.code (.region id ops true)∧I9 ops (ops.size-1)=true∧H.reg (ops.toList.take (ops.size-1)).toArray p.st=some st∧q=⟨.ops ops (ops.toList.drop (ops.size-1)),p.k,st⟩:=by
 obtain ⟨hd,k,st⟩:=p
 cases hd with
 |done e=>cases h
 |ops ops l =>
  cases l with
  |nil=>exact .inl ((aA0 X k st).symm.trans h)
  |cons o rest =>
   rcases a5u (p:=⟨.ops ops (o::rest),k,st⟩) h with h|h
   ·exact .inl h
   ·exact .inr (.inl ⟨ops,o,rest,rfl,h⟩)
 |code c =>
  cases c with
  |skip=>exact .inl ((aA0 X k st).symm.trans h)
  |label l=>exact .inl ((aA0 X k st).symm.trans h)
  |ret=>exact .inl ((a3V X k st).symm.trans h)
  |region id ops d =>
   cases d with
   |false=>exact .inl h
   |true =>
    have h2:vU H ops X ⟨.code (.region id ops true),k,st⟩=some q:=h
    unfold vU at h2
    cases ht:yJ ops with
    |false =>
     rw [ht] at h2
     have h4:(Bool.rec (T6 X k (H.reg ops st)) (K4 ops k (H.reg (ops.toList.take (ops.size-1)).toArray st)) (xE ops):Option aB)=some q:=h2
     cases ht1:xE ops with
     |false =>
      rw [ht1] at h4
      have h3:T6 X k (H.reg ops st)=some q:=h4
      unfold T6 at h3
      split at h3
      ·rename_i st' hst
       rw [aA0] at h3
       exact .inr (.inr (.inl ⟨id,ops,st',rfl,hst,h3⟩))
      ·cases h3
     |true =>
      rw [ht1] at h4
      have h3:K4 ops k (H.reg (ops.toList.take (ops.size-1)).toArray st)=some q:=h4
      unfold K4 at h3
      split at h3
      ·rename_i st' hst
       cases h3
       unfold xE at ht1
       rw [bJ] at ht1
       exact .inr (.inr (.inr (.inr ⟨id,ops,st',rfl,ht1.2,hst,rfl⟩)))
      ·cases h3
    |true =>
     rw [ht] at h2
     have h3:aB6 ops k (H.reg (ops.toList.take (ops.size-2)).toArray st)=some q:=h2
     unfold aB6 at h3
     split at h3
     ·rename_i st' hst
      cases h3
      unfold yJ at ht
      rw [bJ] at ht
      exact .inr (.inr (.inr (.inl ⟨id,ops,st',rfl,ht.2,hst,rfl⟩)))
     ·cases h3
  |_=>exact .inl h
structure bZ(X:aI)(H:Hk):Prop where
 leaf:∀w0,kO X w0 (qM H)
 reg:∀(E:bX) (Q:cM) (r:List aF) (vs:List Value) (df:List Deferred) (w:World) (st st':St) (ops:Array Oper),E.X=X->H.reg ops st=some st'->bU r st.ts vs->aG E r st.hp st.nx w ->
  (∀s vs' w',bU (r++s) st'.ts vs'->aG E (r++s) st'.hp st'.nx w'->Q .normal ⟨vs'.toArray,df⟩ w')->ops.all fU=true∧wpAny E.X.P .any ops (j9 Q) ops.size (Array.replicate ops.size false) ⟨vs.toArray,df⟩ w.drew
structure aAp(E:bX)(H:Hk):Prop where
 leaf:kO E.X E.w0 (qM H)
 reg:∀(Q:cM) (r:List aF) (vs:List Value) (df:List Deferred) (w:World) (st st':St) (ops:Array Oper),H.reg ops st=some st'->bU r st.ts vs->aG E r st.hp st.nx w ->
  (∀s vs' w',bU (r++s) st'.ts vs'->aG E (r++s) st'.hp st'.nx w'->Q .normal ⟨vs'.toArray,df⟩ w')->ops.all fU=true∧wpAny E.X.P .any ops (j9 Q) ops.size (Array.replicate ops.size false) ⟨vs.toArray,df⟩ w.drew
theorem bZ.at_{E:bX}{H:Hk}(h:bZ E.X H):aAp E H:=⟨h.leaf _,λQ r vs df w st st' ops=>h.reg E Q r vs df w st st' ops rfl⟩
theorem aCW{m:Option Nat}{P:Program}{ops:Array Oper}{Q:cM}{o:Oper}{rest:List Oper}{ts:List Value}{df:List Deferred}{w:World}(hd:fU o=true)(hw:Region.wanted o (yielded ops ts.toArray)=true)
 (h:o.wp P ⟨ts.toArray,df⟩ w (λa w=>WI m P ops Q rest a w) (j9 Q)):WI m P ops Q (o::rest) ⟨ts.toArray,df⟩ w :=
 ⟨wpListIn_step λK hK=>by
  rw [if_pos hw]
  exact aBl hd (λa w h=>hK a w h.out) h⟩
section
variable {E:bX}{Q0:cM}{r0:List aF}{H:Hk}
theorem aFG{p q:aB}(aH:E.X.P.follows .mixedOrders=true)(hH:aAp E H)(h0:e8 E.X.P Q0)(h:oD H E.X p=some q)(hx:Xp E r0 Q0 q):Xp E r0 Q0 p:=by
 rcases aTB h with h|⟨ops,o,rest,hp,hg,c,f,g,a,b,y,st,ho,hc,hf,hl,rfl⟩|⟨id,ops,st,hp,hr,he⟩|⟨id,ops,st,hp,ht,hr,rfl⟩|⟨id,ops,st,hp,ht,hr,rfl⟩
 ·exact aLX h0 h hx
 ·intro r vs w Q hr hs hm hk
  rw [hp]
  refine aCW (by unfold fU;rw [ho]) (pJ hs hg) ?_
  have hld:pZ E.X (qM H) o p.st.ts p.st.hp p.st.nx=some (y,st.hp,st.nx):=by
   unfold pZ
   simp only [ho,hc,hf,hl]
  refine aMT hH.leaf hs hm hld λs v w' hd hm'=>?_
  have:=hx (r++s) _ w' Q (ext hr s) (bU.putS (hs.mono s) hd o.dst) hm' (hk.mono s)
  simp only [lZ,(hk.same s).1,(hk.same s).2] at this
  exact this
 ·intro r vs w Q hr2 hs hm hk
  rw [hp]
  obtain ⟨hn,ha⟩:=hH.reg Q r vs (cX r p.k) w p.st st ops hr hs hm λs vs' w' hs' hm'=>by
   have:=zS he hx (ext hr2 s) hs' hm' (hk.mono s)
   rwa [(hk.same s).2] at this
  exact wpIn_region_any aH (aPD hn _ _ _ _ ha)
 ·intro r vs w Q hr2 hs hm hk
  rw [hp]
  have hsz:ops.size=ops.size-2+2:=by
   unfold N3 at ht
   rw [bJ] at ht
   exact eU ht.1
  obtain ⟨j,hj⟩:∃j,ops.size-2=j:=⟨_,rfl⟩
  rw [hj] at ht hr hsz hx
  have hoc:ops[j]?=some (ops[j]'(by omega)):=tL (by omega)
  have hot:ops[j+1]?=some (ops[j+1]'(by omega)):=tL (by omega)
  generalize ops[j]'(by omega)=oc at hoc
  generalize ops[j+1]'(by omega)=ot at hot
  have hdrop:ops.toList.drop j=[oc,ot]:=by
   apply List.ext_getElem?
   intro i
   rw [List.getElem?_drop]
   match i with
   |0=>simpa using hoc
   |1=>simpa using hot
   |i+2=>simp;omega
  rw [hdrop] at hx
  obtain ⟨-,ha⟩:=hH.reg (λ_ a w=>wpListIn (FR (eG r p.k)) 0 E.X.P ops Q [oc,ot] a w) r vs (cX r p.k) w p.st st _ hr hs hm λs vs' w' hs' hm'=>by
   have:=hx (r++s) _ w' Q (ext hr2 s) hs' hm' (hk.mono s)
   simp only [lZ,(hk.same s).1,(hk.same s).2] at this
   exact this.out
  have hsz2:(ops.toList.take j).toArray.size=j:=by simp;omega
  rw [hsz2] at ha
  exact wpIn_region_any aH (a4U ht hoc hot ha)
 ·intro r vs w Q hr2 hs hm hk
  rw [hp]
  have hsz:ops.size=ops.size-1+1:=by
   unfold I9 at ht
   rw [bJ] at ht
   exact eU ht.1
  obtain ⟨j,hj⟩:∃j,ops.size-1=j:=⟨_,rfl⟩
  rw [hj] at ht hr hsz hx
  have hoc:ops[j]?=some (ops[j]'(by omega)):=tL (by omega)
  generalize ops[j]'(by omega)=oc at hoc
  have hdrop:ops.toList.drop j=[oc]:=by
   apply List.ext_getElem?
   intro i
   rw [List.getElem?_drop]
   match i with
   |0=>simpa using hoc
   |i+1=>simp;omega
  rw [hdrop] at hx
  obtain ⟨-,ha⟩:=hH.reg (λ_ a w=>wpListIn (FR (eG r p.k)) 0 E.X.P ops Q [oc] a w) r vs (cX r p.k) w p.st st _ hr hs hm λs vs' w' hs' hm'=>by
   have:=hx (r++s) _ w' Q (ext hr2 s) hs' hm' (hk.mono s)
   simp only [lZ,(hk.same s).1,(hk.same s).2] at this
   exact this.out
  have hsz2:(ops.toList.take j).toArray.size=j:=by simp;omega
  rw [hsz2] at ha
  exact wpIn_region_any aH (a1o ht hoc ha)
theorem aGZ{p q:aB}(aH:E.X.P.follows .mixedOrders=true)(hH:bZ E.X H)(h0:e8 E.X.P Q0)(h:oD H E.X p=some q)(hx:Xp E r0 Q0 q):Xp E r0 Q0 p:=aFG aH hH.at_ h0 h hx
theorem K9(aH:E.X.P.follows .mixedOrders=true)(hH:bZ E.X H)(h0:e8 E.X.P Q0):∀(n:Nat) {p:aB},Xp E r0 Q0 (tG H E.X n p)->Xp E r0 Q0 p
 |0,p,h=>by
  have h':Xp E r0 Q0 (Option.rec (motive:=λ_=>aB) p (λq=>q) (oD H E.X p)):=h
  cases hq:oD H E.X p with
  |none=>rw [hq] at h';exact h'
  |some q=>rw [hq] at h';exact aGZ aH hH h0 hq h'
 |n+1,p,h=>by
  have h':Xp E r0 Q0 (J7 (tG H E.X n) (tG H E.X n p)):=h
  rcases aIj (tG H E.X n) (tG H E.X n p) with e|e
  ·rw [e] at h';exact K9 aH hH h0 n (K9 aH hH h0 n h')
  ·rw [e] at h';exact K9 aH hH h0 n h'
end
def uQ(X:aI)(fn:Func)(p:aB):Option (SV×St):=match p.h,p.k with
 | .done .ret,[]=>(match mH X fn p.st with
  |some v=>some (v,p.st)
  |none=>none)
 | .done .normal,[]=>(match mH X fn p.st with
  |some v=>some (v,p.st)
  |none=>none)
 |_,_=>none
def eP(H:Hk)(X:aI)(n:Nat)(g:FuncId)(args:List SV)(hp:Tr)(nx:Nat):Option (SV×St):=match entryS X.P g with
 |some (fn,c)=>uQ X fn (tG H X n ⟨.code c,[],⟨frame args fn.ntmps,hp,nx⟩⟩)
 |none=>none
section
variable {E:bX}{r:List aF}{vals:List Value}{w:World}{hp:Tr}{nx:Nat}
theorem xP{fn:Func}{p:aB}{res:SV}{st:St}(h:uQ E.X fn p=some (res,st)):
 Xp E r (bodyPostM Fence.wide 0 E.X.P fn λe w'=>∃q v,e=.returned v∧aP (r++q) res v∧aG E (r++q) st.hp st.nx w') p:=by
 rintro r2 vs2 w2 Q ⟨q2,rfl⟩ hs hm2 hk
 unfold uQ at h
 have key:∀e,p.h=.done e->(e=.ret∨e=.normal)->p.k=[]->(match mH E.X fn p.st with|some v=>some (v,p.st)|none=>none)=some (res,st)->lZ (eG (r++q2) p.k) (cX (r++q2) p.k) E.X.P p.h Q vs2 w2:=by
  intro e he hee hke h
  rw [hke] at hk ⊢
  have hQ:Q=_:=hk
  rw [he,hQ]
  split at h
  ·rename_i x hr
   cases h
   obtain ⟨u,hu,hd⟩:=aCL hs hm2 hr
   rcases hee with rfl|rfl
   ·exact ⟨u,hu,q2,u,rfl,hd,hm2⟩
   ·exact ⟨u,hu,q2,u,rfl,hd,hm2⟩
  ·cases h
 split at h
 ·rename_i he hke;exact key _ he (.inl rfl) hke h
 ·rename_i he hke;exact key _ he (.inr rfl) hke h
 ·cases h
theorem aG.start(X:aI)(w:World)(hg:∀g cs,X.G g=some cs->∃vs,aD [] cs vs∧g<w.heap.size∧∀j v,vs[j]?=some v->w.cell? ⟨g,j,none⟩=some v):aG ⟨X,w,w,λ_=>False,λ_=>False⟩ [] .e 0 w :=
 ⟨rfl,λn b h=>by simp [bC.get_e] at h,λn m b c L M h=>by simp [bC.get_e] at h,Below.refl _ _,λ_ h=>h.elim,λ_ _ _ _ _ _ _ _ h=>h,aS _,λn b L h=>by simp [bC.get_e] at h,λ_ h=>h.elim,hg⟩
theorem oX{H:Hk}{n:Nat}{g:FuncId}{args:List SV}{res:SV}{st:St}(aH:E.X.P.follows .mixedOrders=true)(hH:bZ E.X H)(h:eP H E.X n g args hp nx=some (res,st))(ha:aX r args vals)(hm:aG E r hp nx w):
 Calls E.X.P g vals.toArray w λe w'=>∃q v,e=.returned v∧aP (r++q) res v∧aG E (r++q) st.hp st.nx w':=by
 unfold eP at h
 split at h
 ·rename_i fn c hent
  exact tB (k:=[]) hent ⟨[],by simp⟩ ha hm rfl rfl rfl (K9 aH hH pC n (xP h))
 ·cases h
end
def cZ(X:aI)(leaf:FuncId->Option (List SV->Tr->Nat->Option (SV×St)))(n:Nat):Nat->Hk
 |0=>⟨leaf,λ_ _=>none⟩
 |d+1=>⟨leaf,vL leaf X λg args hp nx=>Option.rec (motive:=λ_=>List SV->Tr->Nat->Option (SV×St)) (eP (cZ X leaf n d) X n g) (λL=>L) (leaf g) args hp nx⟩
theorem aNs{X:aI}{H:Hk}{n:Nat}(aH:X.P.follows .mixedOrders=true)(hH:bZ X H)(w0:World):kO X w0 (eP H X n):=by
 intro g args hp nx res st h E r vals w hE _ ha hm
 subst hE
 refine ⟨λw'=>?_,oX aH hH h ha hm⟩
 unfold eP at h
 split at h
 ·rename_i fn c hent
  exact aCE hent vals.toArray w'
 ·cases h
theorem a8z{X:aI}{leaf:FuncId->Option (List SV->Tr->Nat->Option (SV×St))}{n:Nat}(aH:X.P.follows .mixedOrders=true) (hl:∀g L,leaf g=some L->∀args hp nx res st,L args hp nx=some (res,st)->∀(E:bX) (r:List aF) (vals:List Value) (w:World),E.X=X->aX r args vals->aG E r hp nx w ->
 (∀w',(callFunc g vals.toArray).run X.P w'=.ok (.enter g vals.toArray) w')∧Calls X.P g vals.toArray w λe w'=>∃q v,e=.returned v∧aP (r++q) res v∧aG E (r++q) st.hp st.nx w'):∀d,bZ X (cZ X leaf n d):=by
 have hlr:∀H:Hk,H.leaf=leaf->∀w0,kO X w0 (qM H):=by
  intro H hH w0 g args hp nx res st h E r vals w hE _
  unfold qM at h
  rw [hH] at h
  split at h
  ·rename_i L hL
   exact hl g L hL args hp nx res st h E r vals w hE
  ·cases h
 intro d
 induction d with
 |zero=>exact ⟨hlr _ rfl,λE Q r vs df w st st' ops _ h=>by cases h⟩
 |succ d ih =>
  refine ⟨hlr _ rfl,λE Q r vs df w st st' ops hE h hs hm hk=>?_⟩
  subst hE
  refine ⟨aKU (aCi h),aK3 (λg args hp nx res st h E' r' vals' w' hE' h0'=>?_) (aCi h) hs hm hk⟩
  cases hg:leaf g with
  |none=>rw [hg] at h;exact aNs aH ih _ g args hp nx res st h E' r' vals' w' hE' h0'
  |some L=>rw [hg] at h;exact hl g L hg args hp nx res st h E' r' vals' w' hE'
def sK:Rp SV->Option (List Value)
 | .nil=>some []
 | .one (.v x)=>some [x]
 | .one _=>none
 | .arr k _ l=>some (nv k l)
 | .q a=>some a.vals
 | .node _ _ a b=>match sK a,sK b with
  |some us,some vs=>some (us++vs)
  |_,_=>none
theorem P8{r:List aF}:∀{c:Rp SV} {us vs:List Value},sK c=some us->aD r c vs->vs=us
 | .nil,_,_,h,d=>by cases h;cases d;rfl
 | .one (.v x),_,_,h,d=>by cases h;cases d with|one h1 _=>cases h1;rfl
 | .arr k n l,_,_,h,d=>by cases h;cases d;rfl
 | .q a,_,_,h,d=>by cases h;cases d;rfl
 | .node s t a b,us,vs,h,d=>by
  unfold sK at h
  split at h
  ·rename_i x y ha hb
   cases h
   cases d with
   |node h1 h2 _ _=>rw [P8 ha h1,P8 hb h2]
  ·cases h
def aBa:SV->Option Value
 | .v x=>some x
 | .a c=>match sK c with
  |some l=>some (.agg l.toArray)
  |none=>none
 |_=>none
def tP:List SV->Option (List Value)
 |[]=>some []
 |x::xs=>match aBa x,tP xs with
  |some y,some ys=>some (y::ys)
  |_,_=>none
def zD:SV->Option Value
 | .t xs=>match tP xs with
  |some l=>some (.tuple l.toArray)
  |none=>none
 |x=>aBa x
theorem aMV{r:List aF}{x:SV}{u v:Value}(h:aBa x=some u)(d:aP r x v):v=u:=by
 unfold aBa at h
 split at h
 ·cases h;cases d;rfl
 ·split at h
  ·rename_i hc
   cases h
   cases d with|a d=>rw [P8 hc d]
  ·cases h
 ·cases h
theorem N0{r:List aF}:∀{xs:List SV} {us vs:List Value},tP xs=some us->aX r xs vs->vs=us
 |[],_,_,h,d=>by cases h;cases d;rfl
 |x::xs,_,_,h,d=>by
  unfold tP at h
  split at h
  ·rename_i hx hxs
   cases h
   cases d with|cons d1 d2=>rw [aMV hx d1,N0 hxs d2]
  ·cases h
theorem aDq{r:List aF}{x:SV}{u v:Value}(h:zD x=some u)(d:aP r x v):v=u:=by
 unfold zD at h
 split at h
 ·split at h
  ·rename_i hl
   cases h
   cases d with|t d=>rw [N0 hl d]
  ·cases h
 ·exact aMV h d
def cG(X:aI)(w:World):Prop:=∀g cs,X.G g=some cs->∃vs,aD [] cs vs∧g<w.heap.size∧∀j v,vs[j]?=some v->w.cell? ⟨g,j,none⟩=some v
theorem aG.globs{E:bX}{r:List aF}{hp:Tr}{nx:Nat}{w:World}(h:aG E r hp nx w):cG E.X w:=λg cs hg=>by
 obtain ⟨vs,hd,hl,hc⟩:=h.glob g cs hg
 exact ⟨vs,hd,eQ hl h.below.size,λj v hv=>(h.below.cell (p:=⟨g,j,none⟩) hl).trans (hc j v hv)⟩
def E0(X:aI)(w:World):bX:=⟨X,w,w,λ_=>False,λ_=>False⟩
def fQ(P:Program)(g:FuncId):Prop:=∀vals w,(callFunc g vals).run P w=.ok (.enter g vals) w
theorem bB{P:Program}{g:FuncId}(h:(entryS P g).isSome=true):fQ P g:=by
 obtain ⟨⟨fn,c⟩,h⟩:=Option.isSome_iff_exists.1 h
 exact λvals w=>aCE h vals w
section
variable {X:aI}{H:Hk}{n:Nat}{g:FuncId}{args:List SV}{vals:List Value}{w:World}{st:St}{y:SV}
theorem u5(aH:X.P.follows .mixedOrders=true)(hH:bZ X H)(h:eP H X n g args .e 0=some (y,st))(ha:aX [] args vals)(hg:cG X w):
 Calls X.P g vals.toArray w λe w'=>∃r v,e=.returned v∧aP r y v∧aG (E0 X w) r st.hp st.nx w' :=
 (oX (E:=E0 X w) aH hH h ha (aG.start X w hg)).mono λe w' ⟨q,v,he,hd,hm⟩=>⟨q,v,he,by simpa using hd,by simpa using hm⟩
theorem bB7{u:Value}(aH:X.P.follows .mixedOrders=true)(hH:bZ X H)(h:eP H X n g args .e 0=some (y,st))(hv:zD y=some u)(ha:aX [] args vals)(hg:cG X w):
 Calls X.P g vals.toArray w λe w'=>e=.returned u∧Below w.heap.size w w' :=
 (u5 aH hH h ha hg).mono λe w' ⟨r,v,he,hd,hm⟩=>⟨by rw [he,aDq hv hd],hm.below⟩
def E3(w w':World)(T:TypeId)(us:List Value)(p:Nat):Prop:=w.heap.size≤p∧aC w' p T us.toArray∧Below w.heap.size w w'
theorem aPY{m l c T:Nat}{cs:Rp SV}{us:List Value}{zs:List SV}{uz:List Value}(aH:X.P.follows .mixedOrders=true)(hH:bZ X H)(h:eP H X n g args .e 0=some (.t (.s m 0 l c::zs),st))
 (hb:st.hp.get m=some ⟨T,cs,0⟩) (hv:sK cs=some us) (hz:tP zs=some uz) (ha:aX [] args vals) (hg:cG X w) :
 Calls X.P g vals.toArray w λe w'=>∃p,e=.returned (.tuple (.slice (some ⟨p,0,none⟩) l c::uz).toArray)∧E3 w w' T us p :=
 (u5 aH hH h ha hg).mono λe w' ⟨r,v,he,hd,hm⟩=>by
  obtain ⟨L,hL,vs,hdc,hk⟩:=hm.blk m _ hb
  rcases hk with ⟨_,hge,hb0,hblk⟩|⟨h1,_⟩|⟨h2,_⟩
  ·cases hd with|t hd=>cases hd with|cons d1 d2=>cases d1 with|s hL' =>
    rw [hL] at hL';cases hL'
    rw [N0 hz d2] at he
    rw [P8 hv hdc] at hblk
    exact ⟨L.g,by rw [he,hb0],hge,hblk,hm.below⟩
  ·cases h1
  ·exact absurd h2 (by show ¬ 2≤0;decide)
theorem aUz{m l c T:Nat}{cs:Rp SV}{us:List Value}(aH:X.P.follows .mixedOrders=true)(hH:bZ X H)(h:eP H X n g args .e 0=some (.s m 0 l c,st))
 (hb:st.hp.get m=some ⟨T,cs,0⟩) (hv:sK cs=some us) (ha:aX [] args vals) (hg:cG X w) :
 Calls X.P g vals.toArray w λe w'=>∃p,e=.returned (.slice (some ⟨p,0,none⟩) l c)∧E3 w w' T us p :=
 (u5 aH hH h ha hg).mono λe w' ⟨r,v,he,hd,hm⟩=>by
  obtain ⟨L,hL,vs,hdc,hk⟩:=hm.blk m _ hb
  rcases hk with ⟨_,hge,hb0,hblk⟩|⟨h1,_⟩|⟨h2,_⟩
  ·cases hd with|s hL' =>
    rw [hL] at hL';cases hL'
    rw [P8 hv hdc] at hblk
    exact ⟨L.g,by rw [he,hb0],hge,hblk,hm.below⟩
  ·cases h1
  ·exact absurd h2 (by show ¬ 2≤0;decide)
end
def jJ(H:Hk)(X:aI)(n:Nat)(g:FuncId)(args:List SV)(hp:Tr)(nx:Nat):Option Value:=match eP H X n g args hp nx with
 |some (y,_)=>zD y
 |none=>none
theorem aMg{H:Hk}{X:aI}{n:Nat}{g:FuncId}{args:List SV}{hp:Tr}{nx:Nat}{u:Value}(h:jJ H X n g args hp nx=some u):∃y st,eP H X n g args hp nx=some (y,st)∧zD y=some u:=by
 unfold jJ at h
 split at h
 ·rename_i y st hc;exact ⟨y,st,hc,h⟩
 ·cases h
theorem M3{X:aI}{H:Hk}{n:Nat}{g:FuncId}{args:List SV}{vals:List Value}{w:World}{u:Value}(aH:X.P.follows .mixedOrders=true)(hH:bZ X H)(h:jJ H X n g args .e 0=some u)(ha:aX [] args vals)(hg:cG X w):
 Calls X.P g vals.toArray w λe w'=>e=.returned u∧Below w.heap.size w w':=by
 obtain ⟨y,st,hc,hv⟩:=aMg h
 exact bB7 aH hH hc hv ha hg
def R3(H:Hk)(X:aI)(n:Nat)(g:FuncId)(args:List SV)(hp:Tr)(nx:Nat):Option (TypeId×List Value×Nat×Nat×Option (List Value)):=match eP H X n g args hp nx with
 |some (.t (.s m 0 l c::zs),st)=>(match st.hp.get m,tP zs with
  |some ⟨T,cs,0⟩,some uz=>(match sK cs with
   |some us=>some (T,us,l,c,some uz)
   |none=>none)
  |_,_=>none)
 |some (.s m 0 l c,st)=>(match st.hp.get m with
  |some ⟨T,cs,0⟩=>(match sK cs with
   |some us=>some (T,us,l,c,none)
   |none=>none)
  |_=>none)
 |_=>none
def aLD(x:Value):Option (List Value)->Value
 |none=>x
 |some uz=>.tuple (x::uz).toArray
theorem a4v{X:aI}{H:Hk}{n:Nat}{g:FuncId}{args:List SV}{vals:List Value}{w:World}{T:TypeId}{us:List Value}{l c:Nat}{uz:Option (List Value)}(aH:X.P.follows .mixedOrders=true)(hH:bZ X H)(h:R3 H X n g args .e 0=some (T,us,l,c,uz))
 (ha:aX [] args vals) (hg:cG X w):Calls X.P g vals.toArray w λe w'=>∃p,e=.returned (aLD (.slice (some ⟨p,0,none⟩) l c) uz)∧E3 w w' T us p:=by
 unfold R3 at h
 split at h
 ·rename_i hc
  split at h
  ·rename_i hb hz
   split at h
   ·rename_i hv;cases h;exact aPY aH hH hc hb hv hz ha hg
   ·cases h
  ·cases h
 ·rename_i hc
  split at h
  ·rename_i hb
   split at h
   ·rename_i hv;cases h;exact aUz aH hH hc hb hv ha hg
   ·cases h
  ·cases h
 ·cases h
def sA(T:TypeId)(cs:Rp SV):Tr:=bC.e.put 0 ⟨T,cs,2⟩
theorem aKO{X:aI}{H:Hk}{n T l c g0 o0:Nat}{g:FuncId}{cs:Rp SV}{vs:List Value}{w:World}{y:SV}{st:St}(aH:X.P.follows .mixedOrders=true)(hH:bZ X H)(hc:eP H X n g [.s 0 0 l c] (sA T cs) 1=some (y,st))
 (hd:aD [] cs vs) (hr:bH w w.heap.size 1 (some ⟨g0,o0,none⟩) l vs) (hl:0<l) (hg:cG X w):Calls X.P g #[.slice (some ⟨g0,o0,none⟩) l c] w λe w'=>∃r v,e=.returned v∧aP r y v∧Below w.heap.size w w':=by
 obtain ⟨ad,he,hlt,hcell⟩:=hr.2 hl
 cases he
 have hget:∀m b,(sA T cs).get m=some b->m=0∧b=⟨T,cs,2⟩:=by
  intro m b hb
  unfold sA at hb
  rw [bC.get_put] at hb
  by_cases h0:m=0
  ·rw [if_pos h0] at hb;cases hb;exact ⟨h0,rfl⟩
  ·rw [if_neg h0,bC.get_e] at hb;cases hb
 have hm:aG (E0 X w) [⟨g0,o0,c,none,λ_=>False⟩] (sA T cs) 1 w:=by
  refine ⟨rfl,λm b hb=>?_,λa b x y L M ha hb hne=>?_,Below.refl _ _,λ_ h=>h.elim,λ_ _ _ _ _ _ _ _ h=>h,aS _,λm b L hb _ _ hL=>?_,λ_ h=>h.elim,hg⟩
  ·obtain ⟨rfl,rfl⟩:=hget m b hb
   refine ⟨_,rfl,vs,hd.mono _,.inr (.inr ⟨aS _,hlt,λj v hv=>?_,⟨λh=>(by cases h),λh=>(by cases h),λh=>absurd h (by show ¬ 5≤2;decide),λh=>(by cases h)⟩⟩)⟩
   have:=hcell j v hv
   rwa [eX] at this
  ·exact absurd ((hget _ _ ha).1.trans (hget _ _ hb).1.symm) hne
  ·obtain ⟨rfl,rfl⟩:=hget m b hb
   cases hL;exact .inl hlt
 exact (oX (E:=E0 X w) (r:=[⟨g0,o0,c,none,λ_=>False⟩]) aH hH hc (.cons (aP.s (o:=0) rfl) .nil) hm).mono λe w' ⟨q,v,he,hdv,hm'⟩=>⟨_,v,he,hdv,hm'.below⟩
theorem aMR{X:aI}{H:Hk}{n T l c g0 o0:Nat}{g:FuncId}{cs:Rp SV}{vs:List Value}{w:World}{u:Value}(aH:X.P.follows .mixedOrders=true)(hH:bZ X H)(h:jJ H X n g [.s 0 0 l c] (sA T cs) 1=some u)
 (hd:aD [] cs vs) (hr:bH w w.heap.size 1 (some ⟨g0,o0,none⟩) l vs) (hl:0<l) (hg:cG X w):Calls X.P g #[.slice (some ⟨g0,o0,none⟩) l c] w λe w'=>e=.returned u∧Below w.heap.size w w':=by
 obtain ⟨y,st,hc,hv⟩:=aMg h
 exact (aKO aH hH hc hd hr hl hg).mono λe w' ⟨r,v,he,hdv,hb⟩=>⟨by rw [he,aDq hv hdv],hb⟩
abbrev bV:=List SV->Tr->Nat->Option (SV×St)
def bN(X:aI)(g:FuncId)(L:bV):Prop:=∀args hp nx res st,L args hp nx=some (res,st)->∀(E:bX) (r:List aF) (vals:List Value) (w:World),E.X=X->aX r args vals->aG E r hp nx w ->
 (∀w',(callFunc g vals.toArray).run X.P w'=.ok (.enter g vals.toArray) w')∧Calls X.P g vals.toArray w λe w'=>∃q v,e=.returned v∧aP (r++q) res v∧aG E (r++q) st.hp st.nx w'
def cU(f:List SV->Option SV):bV:=λargs hp nx=>match f args with
 |some y=>some (y,⟨⟨.e,0⟩,hp,nx⟩)
 |none=>none
theorem jY{X:aI}{g:FuncId}{f:List SV->Option SV}(he:fQ X.P g)
 (h:∀args y,f args=some y->∀r vals w,aX r args vals->cG X w->Calls X.P g vals.toArray w λe w'=>∃u,e=.returned u∧aP r y u∧Below w.heap.size w w'):bN X g (cU f):=by
 intro args hp nx res st hl E r vals w hE ha hm
 subst hE
 unfold cU at hl
 split at hl
 ·rename_i y hy
  cases hl
  exact ⟨λw'=>he _ w',(h args _ hy r vals w ha hm.globs).mono λe w' ⟨u,h1,h2,h3⟩=>⟨[],u,h1,by simpa using h2,by simpa using hm.grow h3⟩⟩
 ·cases hl
def kY(f:List SV->Option (TypeId×Rp SV×Nat×Nat×Option (List SV))):bV:=λargs hp nx=>match f args with
 |some (T,cs,l,c,none)=>some (.s nx 0 l c,⟨⟨.e,0⟩,hp.put nx ⟨T,cs,0⟩,nx+1⟩)
 |some (T,cs,l,c,some zs)=>some (.t (.s nx 0 l c::zs),⟨⟨.e,0⟩,hp.put nx ⟨T,cs,0⟩,nx+1⟩)
 |none=>none
theorem xN{X:aI}{g:FuncId}{f:List SV->Option (TypeId×Rp SV×Nat×Nat×Option (List SV))}(he:fQ X.P g)
 (h:∀args T cs l c zs,f args=some (T,cs,l,c,zs)->∀r vals w,aX r args vals->cG X w->∃us uz,aD r cs us∧(match zs with|none=>uz=none|some zs=>∃ys,uz=some ys∧aX r zs ys)∧Calls X.P g vals.toArray w λe w'=>∃p,e=.returned (aLD (.slice (some ⟨p,0,none⟩) l c) uz)∧E3 w w' T us p):bN X g (kY f):=by
 intro args hp nx res st hl E r vals w hE ha hm
 subst hE
 have key:∀T cs us p w',E3 w w' T us p->aD r cs us->aG E (r++[⟨p,0,0,none,λ_=>False⟩]) (hp.put nx ⟨T,cs,0⟩) (nx+1) w':=λT cs us p w' ⟨h1,h2,h3⟩ hd =>
  hm.add1 h3 ⟨p,0,0,none,λ_=>False⟩ ⟨T,cs,0⟩ h1 ⟨us,hd.mono _,.inl ⟨rfl,bI hm.below.size h1,rfl,h2⟩⟩ (.inl (by show 0<2;decide))
 have nm:∀p,(r++[(⟨p,0,0,none,λ_=>False⟩:aF)])[nx]?=some ⟨p,0,0,none,λ_=>False⟩:=λp=>by rw [<-hm.len];simp
 unfold kY at hl
 split at hl
 ·rename_i T cs l c hf
  cases hl
  obtain ⟨us,uz,hd,rfl,hc⟩:=h _ _ _ _ _ _ hf r vals w ha hm.globs
  refine ⟨λw'=>he _ w',hc.mono λe w' ⟨p,h1,h2⟩=>⟨[⟨p,0,0,none,λ_=>False⟩],_,h1,?_,key _ _ _ _ _ h2 hd⟩⟩
  exact aP.s (o:=0) (nm p)
 ·rename_i T cs l c zs hf
  cases hl
  obtain ⟨us,uz,hd,⟨ys,rfl,hz⟩,hc⟩:=h _ _ _ _ _ _ hf r vals w ha hm.globs
  refine ⟨λw'=>he _ w',hc.mono λe w' ⟨p,h1,h2⟩=>⟨[⟨p,0,0,none,λ_=>False⟩],_,h1,?_,key _ _ _ _ _ h2 hd⟩⟩
  exact .t (.cons (aP.s (o:=0) (nm p)) (hz.mono _))
 ·cases hl
def q9(f:Nat->Nat->Rp SV->Option SV):bV:=λargs hp nx=>match args with
 |[.s n o l c]=>(match jH hp 1 (.s n o l c) with
  |some (_,cs)=>(match f l c cs with
   |some y=>some (y,⟨⟨.e,0⟩,hp,nx⟩)
   |none=>none)
  |none=>none)
 |_=>none
theorem aCa{X:aI}{g:FuncId}{f:Nat->Nat->Rp SV->Option SV}(he:fQ X.P g)
 (h:∀l c cs y,f l c cs=some y->∀r vs g0 o0 w,aD r cs vs->bH w w.heap.size 1 (some ⟨g0,o0,none⟩) l vs->cG X w->Calls X.P g #[.slice (some ⟨g0,o0,none⟩) l c] w λe w'=>∃u,e=.returned u∧aP r y u∧Below w.heap.size w w'):bN X g (q9 f):=by
 intro args hp nx res st hl E r vals w hE ha hm
 subst hE
 unfold q9 at hl
 split at hl
 ·rename_i n o l c
  split at hl
  ·rename_i m cs hsc
   split at hl
   ·rename_i y hy
    cases hl
    cases ha with|cons d t=>cases t;cases d with|s hL =>
     rename_i L
     obtain ⟨A,c',zs,e1,hd,_,hr⟩:=uX hm (aP.s hL) hsc
     cases e1
     exact ⟨λw'=>he _ w',(h _ _ _ _ hy r zs _ _ w hd hr hm.globs).mono λe w' ⟨u,h1,h2,h3⟩=>⟨[],u,h1,by simpa using h2,by simpa using hm.grow h3⟩⟩
   ·cases hl
  ·cases hl
 ·cases hl
def cT:List (FuncId×bV)->FuncId->Option bV
 |[],_=>none
 |(k,L)::t,g=>Bool.rec (cT t g) (some L) (Nat.beq k g)
theorem aOo{X:aI}:∀{t:List (FuncId×bV)},(∀p∈t,bN X p.1 p.2)->∀g L,cT t g=some L->bN X g L
 |[],_,g,L,h=>by cases h
 |(k,M)::t,ht,g,L,h=>by
  have h':(Bool.rec (cT t g) (some M) (Nat.beq k g):Option bV)=some L:=h
  rw [bE] at h'
  by_cases hk:k=g
  ·subst hk
   simp only [decide_true,b6] at h'
   subst h'
   exact ht (k,M) (by simp)
  ·simp only [hk,decide_false] at h'
   exact aOo (λp hp=>ht p (by simp [hp])) g L h'
theorem eH{X:aI}{t:List (FuncId×bV)}{n:Nat}(aH:X.P.follows .mixedOrders=true)(h:∀p∈t,bN X p.1 p.2)(d:Nat):bZ X (cZ X (cT t) n d) :=
 a8z aH (λg L hl=>aOo h g L hl) d
def vV:Option aQ->List Value
 |some b=>[.bool true,.string (kB b.l)]
 |none=>[.bool false,.string .empty]
def lV(N:Nat)(w:World)(g:Nat)(cv:Nat->Prop)(l:List (Option aQ)):Prop :=
 ∀(k:Nat) (x:Option aQ),l[k]?=some x->∃b m c vs,w.cell? ⟨g,k,none⟩=some (.slice (some ⟨b,0,none⟩) (m+1) c)∧m≤N∧m+1≤c∧cv b∧vs.length=2*m∧(∀v∈vs,v.oneCell'=true) ∧
  ∀j v,(vs++vV x)[j]?=some v->w.cell? ⟨b,j,none⟩=some v
def aGW(w:World)(cv:Nat->Prop)(q:Nat)(b:aQ):Prop :=
 ∃a c num nxt,cv a∧b.n≤c∧w.cell? ⟨q,0,none⟩=some (.bool true)∧w.cell? ⟨q,1,none⟩=some (.slice (some ⟨a,0,none⟩) b.n c)∧w.cell? ⟨q,2,none⟩=some (.int .i64 num)∧w.cell? ⟨q,3,none⟩=some (.pointer nxt) ∧
  ∀j v,(nv .u8 b.l)[j]?=some v->w.cell? ⟨a,j,none⟩=some v
def uA(w:World)(g:Nat)(cv:Nat->Prop)(l:List (Option aQ)):Prop :=
 ∃p,w.cell? ⟨g,0,none⟩=some (.pointer (some ⟨p,0,none⟩))∧cv p∧∃ps:List (Option Nat),ps.length=64∧(∀(k:Nat) (y:Option Nat),ps[k]?=some y->w.cell? ⟨p,k,none⟩=some (.pointer (y.map λq=>(⟨q,0,none⟩:Addr)))) ∧
  ∀(k:Nat) (x:Option aQ),l[k]?=some x->match ps[k]? with
   |some (some q)=>cv q∧∃b,x=some b∧aGW w cv q b
   |_=>x=none
def uJ(t N:Nat)(w:World)(g:Nat)(cv:Nat->Prop)(l:List (Option aQ)):Prop:=match t with
 |0=>lV N w g cv l
 |1=>uA w g cv l
 |m+2=>lV N w g cv l∧l.length=m
theorem aGX(N:Nat)(w w':World)(g:Nat)(cv:Nat->Prop)(l:List (Option aQ))(h:lV N w g cv l)(hg:w'.heap[g]?=w.heap[g]?)(hc:∀k,cv k->w'.heap[k]?=w.heap[k]?):lV N w' g cv l:=by
 have cell:∀{b:Nat} (_:w'.heap[b]?=w.heap[b]?) (o:Nat),w'.cell? ⟨b,o,none⟩=w.cell? ⟨b,o,none⟩:=λhb o=>World.cell?_of_block (w:=w) hb
 intro k x hx
 obtain ⟨b,m,c,vs,h1,h0,h2,h3,h4,h5,h6⟩:=h k x hx
 exact ⟨b,m,c,vs,(cell hg _).trans h1,h0,h2,h3,h4,h5,λj v hv=>(cell (hc b h3) _).trans (h6 j v hv)⟩
theorem aG0(N N':Nat)(w:World)(g:Nat)(cv:Nat->Prop)(l:List (Option aQ))(hN:N≤N')(h:lV N w g cv l):lV N' w g cv l:=by
 intro k x hx
 obtain ⟨b,m,c,vs,h1,h0,h2⟩:=h k x hx
 exact ⟨b,m,c,vs,h1,bI h0 hN,h2⟩
theorem aDM(t N:Nat)(w w':World)(g:Nat)(cv:Nat->Prop)(l:List (Option aQ))(h:uJ t N w g cv l)(hg:w'.heap[g]?=w.heap[g]?)(hc:∀k,cv k->w'.heap[k]?=w.heap[k]?):uJ t N w' g cv l:=by
 have cell:∀{b:Nat} (_:w'.heap[b]?=w.heap[b]?) (o:Nat),w'.cell? ⟨b,o,none⟩=w.cell? ⟨b,o,none⟩:=λhb o=>World.cell?_of_block (w:=w) hb
 match t,h with
 |0,h=>exact aGX N w w' g cv l h hg hc
 |1,h =>
  obtain ⟨p,h1,h2,ps,h3,h4,h5⟩:=h
  refine ⟨p,(cell hg _).trans h1,h2,ps,h3,λk y hy=>(cell (hc p h2) _).trans (h4 k y hy),λk x hx=>?_⟩
  have:=h5 k x hx
  split at this
  ·obtain ⟨hq,b,hb,a,c,num,nxt,g1,g2,g3,g4,g5,g6,g7⟩:=this
   exact ⟨hq,b,hb,a,c,num,nxt,g1,g2,(cell (hc _ hq) _).trans g3,(cell (hc _ hq) _).trans g4,(cell (hc _ hq) _).trans g5,(cell (hc _ hq) _).trans g6,λj v hv=>(cell (hc a g1) _).trans (g7 j v hv)⟩
  ·exact this
 |m+2,h=>exact ⟨aGX N w w' g cv l h.1 hg hc,h.2⟩
theorem a9T(t N N':Nat)(w:World)(g:Nat)(cv:Nat->Prop)(l:List (Option aQ))(hN:N≤N')(h:uJ t N w g cv l):uJ t N' w g cv l:=by
 match t,h with
 |0,h=>exact aG0 N N' w g cv l hN h
 |1,h=>exact h
 |m+2,h=>exact ⟨aG0 N N' w g cv l hN h.1,h.2⟩
end Go.Proofs.YtjboelhcieepkaaGreatDoor
namespace Go.Proofs.YtjboelhcieepkaaGreatDoor
def xS(s c:Nat):Array Value:=#[.int .u32 (s:Int),.int .u64 (c:Int)]
theorem a8n(s c:Nat):(Tryz.prog.info? 59).map (·.size)=some (xS s c).size:=by
 show _=some 2
 kernel_rfl
end Go.Proofs.YtjboelhcieepkaaGreatDoor
namespace Go.Proofs.YtjboelhcieepkaaGreatDoor
open Go.RowKit Sh
theorem aNR{w:World}(dT sT ty:TypeId)(hu:Tryz.prog.underlying dT=some (.slice 5))(g o dLen dCap:Nat)(T:TypeId)(cur:List Nat)(hg:aC w g T (va .u8 cur))(A:Option Addr)(n c B:Nat)(m:List Nat)(hr:bH w B 1 A n (nv .u8 m))
 (hd:n≤dLen) (hfit:o+n≤cur.length) :
 ∃w',(Builtin.copy_ #[dT,sT] ty #[.slice (some ⟨g,o,none⟩) dLen dCap,.slice A n c]).run Tryz.prog w=.ok (.int .i64 (n:Int)) w'∧aC w' g T (va .u8 (cur.take o++(m++cur.drop (o+n))))∧Below g w w':=by
 have hl:=hr.len
 have hsz:(Tryz.prog.info? 5).map (·.size)=some 1:=by kernel_rfl
 rcases A with _|ad
 ·have hn:n=0:=by
   rcases Nat.eq_zero_or_pos n with h0|h0
   ·exact h0
   ·obtain ⟨ad,h,_⟩:=hr.2 h0
    cases h
  subst hn
  obtain rfl:=mJ hl
  refine ⟨w,?_,?_,Below.refl _ _⟩
  ·cases hq:Tryz.prog.info? 5 with
   |none=>simp [hq] at hsz
   |some i =>
    have hi:i.size=1:=by simpa [hq] using hsz
    simp [Builtin.copy_,run_underlying hu,Builtin.lenOf,Builtin.firstCells,sizeOf,typeInfo,hq,storeCells,goInt]
  ·have e:cur.take o++([]++cur.drop (o+0))=cur:=by simp
   rw [e];exact hg
 ·have hcp:=run_copy_row (P:=Tryz.prog) w dT sT ty 5 g o dLen dCap ad n c (va .u8 cur) T (nv .u8 m) hu hsz hg
   (by rw [aZ,hl];exact (Nat.min_eq_left hd).symm)
   (λj v hv=>by
    rcases Nat.eq_zero_or_pos n with h0|h0
    ·rw [mJ (hl.trans h0)] at hv;simp [nv] at hv
    ·obtain ⟨ad',h,_,hc⟩:=hr.2 h0
     injection h with h
     subst h
     exact hc j v hv)
   (by rw [aZ,b9,hl];exact hfit) (gN _ _)
  rw [aLP,aZ,hl] at hcp
  exact ⟨_,hcp,hg.row _,eJ (Below.refl _ _) (aS _) _⟩
theorem aC.own{w:World}{g n base:Nat}{t:TypeId}{k:IntKind}{l:List Nat}(h:aC w g t (va k l))(hn:l.length=n)(hb:base≤g)(hm:n≤maxLen):w.ownsRow base t 1 (.slice (some ⟨g,0,none⟩) n n) n (nv k l):=by
 subst hn
 exact ⟨by rw [aZ];omega,.inr ⟨g,l.length,va k l,rfl,hb,h,aS _,hm,by rw [b9];omega,by
  rw [Nat.mul_one,jB (by simp [va,nv])];simp [va]⟩⟩
def mV(ms:List (List Nat))(k:Nat):List Nat:=(ms.take k).flatten++List.replicate (ms.flatten.length-(ms.take k).flatten.length) 0
theorem a6M(ms:List (List Nat)):mV ms 0=List.replicate ms.flatten.length 0:=by simp [mV]
theorem aSZ(ms:List (List Nat))(k:Nat)(hk:k=ms.length):mV ms k=ms.flatten:=by
 subst hk;simp [mV]
theorem aPN(ms:List (List Nat))(k:Nat):(mV ms k).length=ms.flatten.length:=by
 have:=aFn ms k
 simp only [mV,eS,lR];omega
theorem aEs(ms:List (List Nat))(k:Nat)(hk:k<ms.length):(ms.take k).flatten.length+(ms.getD k []).length≤ms.flatten.length:=by
 have h:=aFn ms (k+1)
 rw [I8 ms k hk,eS] at h;exact h
theorem a77(ms:List (List Nat))(k:Nat)(hk:k<ms.length):
 (mV ms k).take (ms.take k).flatten.length++(ms.getD k []++(mV ms k).drop ((ms.take k).flatten.length+(ms.getD k []).length))=mV ms (k+1):=by
 have h1:=aEs ms k hk
 have e:(ms.take (k+1)).flatten=(ms.take k).flatten++ms.getD k []:=I8 ms k hk
 unfold mV
 rw [e]
 generalize ms.getD k []=p at *
 generalize (ms.take k).flatten=a at *
 generalize ms.flatten.length=N at *
 rw [List.take_left,List.drop_append,List.drop_eq_nil_of_le (by omega)]
 simp only [List.nil_append,List.drop_replicate,eS,List.append_assoc]
 congr 3
 omega
theorem aRc(ms:List (List Nat))(n c B N:Nat)(A:Option Addr)(w:World)(hp:J3 w B A n ms)(hn:n<4611686018427387904)(hB:B≤w.heap.size)(hN:ms.flatten.length=N)(hlen:N<281474976710656):
 Calls Tryz.prog 85 #[.slice A n c] w λe w'=>∃r,e=.returned r∧wA w r ms.flatten w':=by
 have hpn:=hp.1
 have hp':=Lib.hid hp
 have hN':=Lib.hid hN
 have hmk:=Z2 N (by omega)
 clear hp hN
 go_enter Tryz.func85,Tryz.ntmps85
 go_wp2
 go_loop [3,12] (λs i=>∃k:Nat,k≤n∧i=.int .i64 (k:Int)∧s=.int .i64 ((ms.take k).flatten.length:Int)) (λ_ i=>n-(intOf i).toNat)
 case atStart=>exact ⟨0,by omega,rfl,by simp⟩
 case round =>
  obtain ⟨k,hk,rfl,rfl⟩:=hrel
  by_cases hlt:k<n
  ·have hlt':(k:Int)<(n:Int):=by omega
   obtain ⟨ad,Ai,ni,ci,rfl,hadB,hc0,hnc,hr0,hby⟩:=hp'.out.2 k hlt
   have hst:=I8 ms k (by omega)
   have hle:=aEs ms k (by omega)
   have hl0:=hr0.len
   have hst':=Lib.hid hst
   have hN1:=hN'.out
   rw [hl0,hN1] at hle
   have hl0':=Lib.hid hl0
   clear hr0 hby hst hl0 hN1
   generalize hS:(ms.take k).flatten.length=S at *
   go_wp2
   go_round
   case rel=>exact ⟨k+1,by omega,by go_num,by rw [hst'.out,eS,hS,hl0'.out];go_num⟩
   case measure=>simp [intOf];omega
  ·obtain rfl:n=k:=by omega
   have hall:(ms.take n).flatten.length=N:=by rw [jB (by omega)];exact hN'.out
   rw [hall]
   have hblk0:aC (w.alloc (.cells (va .u8 (List.replicate N 0)) 5)) w.heap.size 5 (va .u8 (mV ms 0)):=by rw [a6M,hN'.out];exact aC.new _ _ _
   have hb0:=Lib.hid hblk0
   clear hall hblk0
   go_wp2
   have hblk:=hb0.out
   have hbel:Below w.heap.size w (w.alloc (.cells (va .u8 (List.replicate N 0)) 5)):=(Below.refl _ _).alloc (aS _) _
   generalize w.alloc (.cells (va .u8 (List.replicate N 0)) 5)=w1 at *
   clear hb0 hmk
   go_loopw [7,25] (λs i wr=>∃k:Nat,k≤n∧i=.int .i64 (k:Int)∧s=.int .i64 ((ms.take k).flatten.length:Int)∧aC wr w.heap.size 5 (va .u8 (mV ms k))∧Below w.heap.size w wr) (λ_ i _=>n-(intOf i).toNat)
   case atStart=>exact ⟨0,by omega,rfl,by simp,hblk,hbel⟩
   case round =>
    clear hblk hbel
    obtain ⟨k,hk,rfl,rfl,hblk,hbel⟩:=hrel
    by_cases hlt:k<n
    ·have hlt':(k:Int)<(n:Int):=by omega
     obtain ⟨ad,Ai,ni,ci,rfl,hadB,hc0,hnc,hr0,hby⟩:=hp'.out.2 k hlt
     have hst:=I8 ms k (by omega)
     have hle:=aEs ms k (by omega)
     have hl0:=hr0.len
     have hst':=Lib.hid hst
     have hN1:=hN'.out
     have hjs:=a77 ms k (by omega)
     have hjl:=aPN ms k
     rw [hl0] at hjs
     rw [hl0,hN1] at hle
     rw [hN1] at hjl
     have hl0':=Lib.hid hl0
     have hrw:=hr0.below (hbel.mono hB)
     have hcw:=(hbel.cell (p:=ad.add k) (by rw [D6];omega)).trans hc0
     have hrw':=Lib.hid hrw
     have hjs':=Lib.hid hjs
     have hjl':=Lib.hid hjl
     have hb':=Lib.hid hblk
     have hbl':=Lib.hid hbel
     clear hr0 hby hst hl0 hN1 hrw hjs hjl hblk hbel hc0
     generalize hS:(ms.take k).flatten.length=S at *
     by_cases hSN:S<N
     ·have hSN':(S:Int)<(N:Int):=by omega
      go_wp2
      obtain ⟨w',hrun,hb1,hbel1⟩:=aNR 23 23 3 Tryz.underlying23 w.heap.size S (N-S) (N-S) 5 (mV ms k) hb'.out Ai ni ci B _ hrw'.out (by omega) (by rw [hjl'.out];omega)
      rw [hrun]
      rw [hjs'.out] at hb1
      have hb2:=Lib.hid hb1
      have hbl2:=Lib.hid (hbl'.out.trans hbel1)
      clear hrun hb1 hbel1 hjs'
      go_wp2
      go_roundw
      case rel=>exact ⟨k+1,by omega,by go_num,by rw [hst'.out,eS,hS,hl0'.out];go_num,hb2.out,hbl2.out⟩
      case measure=>simp [intOf];omega
     ·obtain rfl:S=N:=by omega
      obtain rfl:ni=0:=by omega
      go_wp2
      obtain ⟨w',hrun,hb1,hbel1⟩:=aNR 23 23 3 Tryz.underlying23 w.heap.size 0 0 0 5 (mV ms k) hb'.out Ai 0 ci B _ hrw'.out (by omega) (by omega)
      rw [hrun]
      have hm0:ms.getD k []=[]:=mJ hl0'.out
      have e1:=hjs'.out
      rw [hm0,jB (by rw [hjl'.out];exact aS _),List.drop_eq_nil_of_le (by rw [hjl'.out];omega)] at e1
      simp only [eC] at e1
      rw [hm0] at hb1
      simp only [List.take_zero,List.nil_append,List.drop_zero,Nat.add_zero] at hb1
      rw [e1] at hb1
      have hb2:=Lib.hid hb1
      have hbl2:=Lib.hid (hbl'.out.trans hbel1)
      clear hrun hb1 hbel1 hjs' e1 hm0
      go_wp2
      go_roundw
      case rel=>exact ⟨k+1,by omega,by go_num,by rw [hst'.out,eS,hS,hl0'.out];go_num,hb2.out,hbl2.out⟩
      case measure=>simp [intOf];omega
    ·obtain rfl:n=k:=by omega
     go_wp2
     go_ret
     rw [aSZ ms n hpn.symm] at hblk
     exact ⟨.slice (some ⟨w.heap.size,0,none⟩) N N,rfl,w.heap.size,by rw [hN'.out],hblk,aS _,hbel⟩
theorem a5h(ms:List (List Nat))(l:List Nat)(n c B N:Nat)(A:Option Addr)(w:World)(hp:J3 w B A n ms)(hl:ms.flatten=l)(hn:n<4611686018427387904)(hB:B≤w.heap.size)(hN:l.length=N)(hlen:N<281474976710656):
 Calls Tryz.prog 85 #[.slice A n c] w λe w'=>∃g,e=.returned (.slice (some ⟨g,0,none⟩) N N)∧aC w' g 5 (va .u8 l)∧w.heap.size≤g∧Below w.heap.size w w':=by
 subst hl hN
 refine (aRc ms n c B _ A w hp hn hB rfl hlen).mono ?_
 rintro e w' ⟨r,rfl,g,rfl,h1,h2,h3⟩
 exact ⟨g,rfl,h1,h2,h3⟩
theorem aYd(v:Nat)(l:List Nat)(hl:beB v 4=l)(hv:v<4294967296)(w:World):
 Calls Tryz.prog 14 #[.int .u32 (v:Int)] w λe w'=>∃g,e=.returned (.slice (some ⟨g,0,none⟩) 4 4)∧aC w' g 5 (va .u8 l)∧w.heap.size≤g∧Below w.heap.size w w':=by
 subst hl
 refine (aKr v hv w).mono ?_
 rintro e w' ⟨r,rfl,g,rfl,h1,h2,h3⟩
 exact ⟨g,by rw [beB_len],h1,h2,h3⟩
theorem a0w(v:Nat)(l:List Nat)(hl:beB v 8=l)(w:World):
 Calls Tryz.prog 63 #[.int .u64 (v:Int)] w λe w'=>∃g,e=.returned (.slice (some ⟨g,0,none⟩) 8 8)∧aC w' g 5 (va .u8 l)∧w.heap.size≤g∧Below w.heap.size w w':=by
 subst hl
 refine (aD0 v w).mono ?_
 rintro e w' ⟨r,rfl,g,rfl,h1,h2,h3⟩
 exact ⟨g,by rw [beB_len],h1,h2,h3⟩
theorem aUx(v k:Nat):v / 2 ^ (8*k) / 256=v / 2 ^ (8*(k+1)):=by
 rw [Nat.div_div_eq_div_mul,show 8*(k+1)=8*k+8 from by omega,Nat.pow_add]
theorem aJz(v n:Nat)(hv:v<18446744073709551616)(h1:1≤n)(hn:n≤8)(w:World):
 Calls Tryz.prog 235 #[.int .u64 (v:Int),.int .i64 (n:Int)] w λe w'=>∃r,e=.returned r∧wA w r (beB v n) w':=by
 have hmk:=Z2 n (by omega)
 have hm:aC (w.alloc (.cells (va .u8 (List.replicate n 0)) 5)) w.heap.size 5 (va .u8 (j4 v n 0)):=by rw [aNE];exact aC.new _ _ _
 have hm':=Lib.hid hm
 clear hm
 have hn':(n:Int)≤8:=by omega
 have h1':1≤(n:Int):=by omega
 go_enter Tryz.func235,Tryz.ntmps235
 go_wp2
 have hm:=hm'.out
 have hb0:Below w.heap.size w (w.alloc (.cells (va .u8 (List.replicate n 0)) 5)):=(Below.refl _ _).alloc (aS _) _
 generalize w.alloc (.cells (va .u8 (List.replicate n 0)) 5)=w1 at *
 clear hm' hmk
 go_loopw [0,6] (λx s wr=>∃k:Nat,k≤n∧x=.int .u64 ((v / 2 ^ (8*k):Nat):Int)∧s=.int .i64 ((n:Int)-1-(k:Int))∧aC wr w.heap.size 5 (va .u8 (j4 v n k))∧Below w.heap.size w wr) (λ_ s _=>(intOf s+1).toNat)
 case atStart=>exact ⟨0,by omega,by simp,by simp,hm,hb0⟩
 case round =>
  obtain ⟨k,hk,rfl,rfl,hblk,hb⟩:=hrel
  clear hm hb0
  by_cases hlt:k<n
  ·have hge:0≤(n:Int)-1-(k:Int):=by omega
   have hc:=hblk.num (i:=n-1-k) (by rw [s9];omega)
   have hf:=hblk.frozen (n-1-k)
   have hidx:((n:Int)-1-(k:Int)).toNat=n-1-k:=by omega
   have hset:=hblk.setNum (n-1-k) (v / 2 ^ (8*k)%256)
   rw [aOh v n k hlt] at hset
   have hset':=Lib.hid hset
   have hst:=Lib.hid (aUx v k)
   have hvk:v / 2 ^ (8*k)<18446744073709551616:=Nat.lt_of_le_of_lt (Nat.div_le_self _ _) hv
   have hltn:(n:Int)-1-(k:Int)<(n:Int):=by omega
   clear hset
   generalize (j4 v n k).getD (n-1-k) 0=u at *
   generalize hx:v / 2 ^ (8*k)=x at *
   go_wp2
   go_roundw
   case rel =>
    have e:(x:Int)%256=((x%256:Nat):Int):=by omega
    refine ⟨k+1,by omega,?_,by go_num,by rw [e];exact hset'.out,hb.setCell (aS _) _⟩
    rw [<-hst.out];simp
   case measure=>simp [intOf];omega
  ·obtain rfl:n=k:=by omega
   go_wp2
   go_ret
   refine ⟨.slice (some ⟨w.heap.size,0,none⟩) n n,rfl,w.heap.size,?_,?_,aS _,hb⟩
   ·rw [beB_len]
   ·rw [<-aIZ];exact hblk
theorem aKW(v:Nat)(hv:v<4294967296)(w:World):
 Calls Tryz.prog 178 #[.int .u32 (v:Int)] w λe w'=>∃r,e=.returned r∧wA w r (beB v 4) w':=by
 go_enter Tryz.func178,Tryz.ntmps178
 go_wp2_with fail
 refine (aJz v 4 (by omega) (by omega) (by omega) _).mono ?_
 rintro e w1 ⟨r,rfl,hr⟩
 go_wp2
 go_ret
 exact ⟨r,rfl,hr⟩
theorem aOf(v:Nat)(hv:v<18446744073709551616)(w:World):
 Calls Tryz.prog 231 #[.int .u64 (v:Int)] w λe w'=>∃r,e=.returned r∧wA w r (beB v 8) w':=by
 go_enter Tryz.func231,Tryz.ntmps231
 go_wp2_with fail
 refine (aJz v 8 hv (by omega) (by omega) _).mono ?_
 rintro e w1 ⟨r,rfl,hr⟩
 go_wp2
 go_ret
 exact ⟨r,rfl,hr⟩
theorem aVe(A:Option Addr)(n c B:Nat)(l:List Nat)(z:Int)(hz:z=(n:Int))(hn:n≤8)(hl:Byt l)(w:World)(hr:bH w B 1 A n (nv .u8 l)):
 Calls Tryz.prog 274 #[.slice A n c,.int .i64 (z:Int)] w λe w'=>e=.returned (.tuple #[.int .u64 (fB l:Nat),.int .i64 0])∧w=w':=by
 subst hz
 have hlen:=hr.len
 go_enter Tryz.func274,Tryz.ntmps274
 go_wp2
 go_loop [6,7] (λv s=>∃k:Nat,k≤n∧s=.int .i64 (k:Int)∧v=.int .u64 (fB (l.take k):Nat)) (λ_ s=>n-(intOf s).toNat)
 case atStart=>exact ⟨0,by omega,rfl,rfl⟩
 case round =>
  obtain ⟨k,hk,rfl,rfl⟩:=hrel
  have hb:=aAa (l.take k) (hl.take k)
  by_cases hlt:k<n
  ·have hlt':(k:Int)<(n:Int):=by omega
   obtain ⟨ad,rfl,hbl,hc⟩:=hr.num hlt
   have hx:=hl.get k
   have hstep:=aBv l k (by omega)
   generalize hxk:l.getD k 0=x at *
   have hval:fB (l.take (k+1))=fB (l.take k)*256+x:=by rw [hstep,aGN]
   have hval':=Lib.hid hval
   have hb2:fB (l.take k)<72057594037927936:=by
    refine eQ hb (Nat.pow_le_pow_right (n:=2) (j:=56) (by omega) ?_)
    have:=List.length_take_le k l;omega
   clear hval hstep hxk hb
   go_wp2
   go_round
   case rel=>exact ⟨k+1,by omega,by go_num,by rw [hval'.out];go_num⟩
   case measure=>simp [intOf];omega
  ·obtain rfl:n=k:=by omega
   go_wp2
   go_ret2
   exact ⟨by rw [jB (by omega)];rfl,rfl⟩
theorem a1z{w:World}{g B c1 c2 n1 n2:Nat}{t:TypeId}{A1 A2:Option Addr}{a b:List Nat}(hg:aC w g t #[.slice A1 n1 c1,.slice A2 n2 c2])(hgB:g<B)(h1:bH w B 1 A1 n1 (nv .u8 a))(h2:bH w B 1 A2 n2 (nv .u8 b))(hc1:n1≤c1)(hc2:n2≤c2)(ha:Byt a)(hb:Byt b):
 J3 w B (some ⟨g,0,none⟩) 2 [a,b]:=by
 refine ⟨rfl,λj hj=>?_⟩
 rcases Nat.lt_or_ge j 1 with h0|h0
 ·obtain rfl:j=0:=by omega
  exact ⟨_,A1,n1,c1,rfl,hgB,by rw [eX];exact hg.cell 0,hc1,h1,ha⟩
 ·obtain rfl:j=1:=by omega
  exact ⟨_,A2,n2,c2,rfl,hgB,by rw [eX];exact hg.cell 1,hc2,h2,hb⟩
theorem aGL(s c:Nat)(hs:s<4294967296)(w:World):
 Calls Tryz.prog 22 #[.agg (xS s c)] w λe w'=>∃g,e=.returned (.slice (some ⟨g,0,none⟩) 12 12)∧aC w' g 5 (va .u8 (beB s 4++beB c 8))∧w.heap.size≤g∧Below w.heap.size w w':=by
 unfold xS
 have hB0:Below w.heap.size w (w.alloc (.cells #[.int .u32 (s:Int),.int .u64 (c:Int)] 59)).drew:=jV ((Below.refl _ _).alloc (aS _) _) 1
 have hX0:aC (w.alloc (.cells #[.int .u32 (s:Int),.int .u64 (c:Int)] 59)).drew w.heap.size 59 #[.int .u32 (s:Int),.int .u64 (c:Int)]:=(aC.newAt rfl).drew
 obtain ⟨a,ha⟩:∃a,beB s 4=a:=⟨_,rfl⟩
 obtain ⟨b,hb⟩:∃b,beB c 8=b:=⟨_,rfl⟩
 have hal:a.length=4:=by rw [<-ha,beB_len]
 have hbl:b.length=8:=by rw [<-hb,beB_len]
 have hab:Byt a:=ha▸beB_byt s 4
 have hbb:Byt b:=hb▸beB_byt c 8
 rw [ha,hb]
 have ha':=Lib.hid ha
 have hb':=Lib.hid hb
 have hB:=Lib.hid hB0
 have hX:=Lib.hid hX0
 clear hB0 hX0 ha hb
 go_enter Tryz.func22,Tryz.ntmps22
 go_wp2
 go_region_with (first
  |(go_at_call 14
    refine (aYd s a ha'.out hs _).mono ?_
    rintro e wq ⟨g1,rfl,hb1,hg1,b1⟩
    have hg1:=Lib.hid (bI hB.out.size hg1)
    replace hB:=Lib.hid (hB.out.trans (b1.mono hB.out.size))
    replace hX:=Lib.hid (hX.out.below b1 hX.out.lt)
    have x0:=hX.out.cell 0
    have x1:=hX.out.cell 1
    simp only [List.getElem?_toArray,List.getElem?_cons_zero,List.getElem?_cons_succ] at x0 x1
    try (replace hb2:=hb2.below b1 hb2.lt)
    clear b1)
  |(go_at_call 63
    refine (a0w c b hb'.out _).mono ?_
    rintro e wq ⟨g2,rfl,hb2,hg2,b2⟩
    have hg2:=Lib.hid (bI hB.out.size hg2)
    replace hB:=Lib.hid (hB.out.trans (b2.mono hB.out.size))
    replace hX:=Lib.hid (hX.out.below b2 hX.out.lt)
    have x0:=hX.out.cell 0
    have x1:=hX.out.cell 1
    simp only [List.getElem?_toArray,List.getElem?_cons_zero,List.getElem?_cons_succ] at x0 x1
    try (replace hb1:=hb1.below b2 hb1.lt)
    clear b2)
  |(go_at_call 85
    refine (a5h [a,b] (a++b) 2 2 (wq.heap.size+1) 12 _ _ ?hp ?hf ?hn ?hB ?hN ?hl).mono ?_
    case hp=>exact a1z (aC.newAt rfl) (by omega) ((hb1.alloc _).readsAll (by have:=hb1.lt;omega) hal) ((hb2.alloc _).readsAll (by have:=hb2.lt;omega) hbl) (aS _) (aS _) hab hbb
    case hf=>simp
    case hn=>omega
    case hB=>simp
    case hN=>simp [hal,hbl]
    case hl=>omega
    rintro e w5 ⟨g5,rfl,hb5,hg5,b5⟩
    have hz:=hB.out.size
    have hB5:=Lib.hid ((hB.out.alloc hz _).trans (b5.mono (by simp;omega)))
    have hg5:w.heap.size≤g5:=by simp at hg5;omega
    clear b5 hz))
 all_goals
  go_wp2
  go_ret
  exact ⟨g5,rfl,hb5,hg5,hB5.out⟩
theorem a2Q(v:Nat)(l:List Nat)(hl:beB v 4=l)(hv:v<4294967296)(w:World):
 Calls Tryz.prog 178 #[.int .u32 (v:Int)] w λe w'=>∃g,e=.returned (.slice (some ⟨g,0,none⟩) 4 4)∧aC w' g 5 (va .u8 l)∧w.heap.size≤g∧Below w.heap.size w w':=by
 subst hl
 refine (aKW v hv w).mono ?_
 rintro e w' ⟨r,rfl,g,rfl,h1,h2,h3⟩
 exact ⟨g,by rw [beB_len],h1,h2,h3⟩
theorem a0j(v:Nat)(l:List Nat)(hl:beB v 8=l)(hv:v<18446744073709551616)(w:World):
 Calls Tryz.prog 231 #[.int .u64 (v:Int)] w λe w'=>∃g,e=.returned (.slice (some ⟨g,0,none⟩) 8 8)∧aC w' g 5 (va .u8 l)∧w.heap.size≤g∧Below w.heap.size w w':=by
 subst hl
 refine (aOf v hv w).mono ?_
 rintro e w' ⟨r,rfl,g,rfl,h1,h2,h3⟩
 exact ⟨g,by rw [beB_len],h1,h2,h3⟩
theorem aIs(s c:Nat)(hs:s<4294967296)(hc:c<18446744073709551616)(w:World):
 Calls Tryz.prog 179 #[.agg (xS s c)] w λe w'=>∃v,e=.returned v∧w'.ownsRow w.heap.size 5 1 v 12 (nv .u8 (beB s 4++beB c 8))∧Below w.heap.size w w':=by
 unfold xS
 have hB0:Below w.heap.size w (w.alloc (.cells #[.int .u32 (s:Int),.int .u64 (c:Int)] 59)).drew:=jV ((Below.refl _ _).alloc (aS _) _) 1
 have hX0:aC (w.alloc (.cells #[.int .u32 (s:Int),.int .u64 (c:Int)] 59)).drew w.heap.size 59 #[.int .u32 (s:Int),.int .u64 (c:Int)]:=(aC.newAt rfl).drew
 obtain ⟨a,ha⟩:∃a,beB s 4=a:=⟨_,rfl⟩
 obtain ⟨b,hb⟩:∃b,beB c 8=b:=⟨_,rfl⟩
 have hal:a.length=4:=by rw [<-ha,beB_len]
 have hbl:b.length=8:=by rw [<-hb,beB_len]
 have hab:Byt a:=ha▸beB_byt s 4
 have hbb:Byt b:=hb▸beB_byt c 8
 rw [ha,hb]
 have ha':=Lib.hid ha
 have hb':=Lib.hid hb
 have hB:=Lib.hid hB0
 have hX:=Lib.hid hX0
 clear hB0 hX0 ha hb
 obtain ⟨i0,hi0,hz0,hz1,hz2⟩:=info_parts xM
 go_enter Tryz.func179,Tryz.ntmps179
 go_wp2
 go_region_law (first
  |(go_simp;go_at_call 178
    refine (a2Q s a ha'.out hs _).mono ?_
    rintro e wq ⟨g1,rfl,hb1,hg1,b1⟩
    have hg1:=Lib.hid (bI hB.out.size hg1)
    replace hB:=Lib.hid (hB.out.trans (b1.mono hB.out.size))
    replace hX:=Lib.hid (hX.out.below b1 hX.out.lt)
    have x0:=hX.out.cell 0
    have x1:=hX.out.cell 1
    simp only [List.getElem?_toArray,List.getElem?_cons_zero,List.getElem?_cons_succ] at x0 x1
    try (replace hb2:=hb2.below b1 hb2.lt)
    clear b1)
  |(go_simp;go_at_call 231
    refine (a0j c b hb'.out hc _).mono ?_
    rintro e wq ⟨g2,rfl,hb2,hg2,b2⟩
    have hg2:=Lib.hid (bI hB.out.size hg2)
    replace hB:=Lib.hid (hB.out.trans (b2.mono hB.out.size))
    replace hX:=Lib.hid (hX.out.below b2 hX.out.lt)
    have x0:=hX.out.cell 0
    have x1:=hX.out.cell 1
    simp only [List.getElem?_toArray,List.getElem?_cons_zero,List.getElem?_cons_succ] at x0 x1
    try (replace hb1:=hb1.below b2 hb1.lt)
    clear b2)
  |(refine a9D _ rfl (.tmp 5) (.tmp 8) 23 rfl w.heap.size 5 i0 (.int .u8 0) 1 1 Tryz.underlying23 hi0 hz0 hz1 hz2 rfl (by omega) (.slice (some ⟨g1,0,none⟩) 4 4) 4 (nv .u8 a) rfl ?q1 (wq.heap.size) (some ⟨g2,0,none⟩) 8 8 (nv .u8 b) rfl ?q2 (gN _ _) (by decide) (by decide) hB.out.size ?_
    case q1=>exact hb1.own hal hg1.out (by decide)
    case q2=>exact hb2.readsAll hb2.lt hbl
    intro v' w' ho hgr hor))
 all_goals
  rw [wZ] at ho
  have hB':=Lib.hid (hB.out.grown hgr hB.out.size (λk hk=>by simp [Value.ownBlock] at hk;subst hk;exact hg1.out))
  have ho':=Lib.hid ho
  clear hgr hor ho
  go_wp2
  go_ret
  exact ⟨v',rfl,ho'.out,hB'.out⟩
theorem aUC(A:Option Addr)(c B x y:Nat)(hc:12≤c)(l:List Nat)(hl:Byt l)(hx:fB (l.take 4)=x)(hy:fB (l.drop 4)=y)(w:World)(hr:bH w B 1 A 12 (nv .u8 l))(hB:B≤w.heap.size):
 Calls Tryz.prog 288 #[.slice A 12 c] w λe w'=>e=.returned (.tuple #[.agg (xS x y),.int .i64 0])∧Below w.heap.size w w':=by
 have hll:=hr.len
 obtain ⟨ad,rfl,hbl,_⟩:=hr.num (i:=0) (by omega)
 have hr1:bH w B 1 (some ad) 4 (nv .u8 (l.take 4)):=by
  refine ⟨by rw [aZ];simp;omega,λ_=>⟨ad,rfl,hbl,λj u hu=>?_⟩⟩
  obtain ⟨ad',e,_,h⟩:=hr.2 (by omega)
  injection e with e
  subst e
  refine h j u ?_
  rw [<-tW] at hu
  rw [List.getElem?_take] at hu
  split at hu
  ·exact hu
  ·cases hu
 have hr2:=hr.cut (k:=4) (by omega) (show 12≤c from hc)
 rw [rT,Nat.mul_one] at hr2
 have hne:c≠4:=by omega
 rw [if_neg hne] at hr2
 have h1:=Lib.hid hr1
 have h2:=Lib.hid hr2
 have hc12:(12:Int)≤(c:Int):=by omega
 clear hr hr1 hr2
 go_enter Tryz.func288,Tryz.ntmps288
 have hx':=Lib.hid hx
 have hy':=Lib.hid hy
 clear hx hy
 go_wp2_with fail
 refine (aJJ (some ad) c B (l.take 4) (hl.take 4) _ (h1.out.alloc hB _)).mono ?_
 rintro e w1 ⟨rfl,rfl⟩
 rw [hx'.out]
 go_wp2_with fail
 refine (a6a (some (ad.add 4)) (c-4) B (l.drop 4) (λz hz=>hl z (List.mem_of_mem_drop hz)) _ (h2.out.alloc hB _)).mono ?_
 rintro e w1 ⟨rfl,rfl⟩
 rw [hy'.out]
 go_wp2
 exact bodyPost_ret (aXA rfl _ _ w.heap.size 59 (xS x y) _ _ rfl (aC.newAt rfl) Tryz.underlying59 rfl (a8n _ _) rfl) rfl ⟨rfl,(Below.refl _ _).alloc (aS _) _⟩
theorem aT4(v:Nat)(hv:v<4294967296):fB (beB v 4)=v:=by
 have e:beB v 4=[v / 16777216%256,v / 65536%256,v / 256%256,v / 1%256]:=rfl
 rw [e]
 simp only [fB,List.foldl_cons,List.foldl_nil]
 omega
theorem bAi(v:Nat)(hv:v<18446744073709551616):fB (beB v 8)=v:=by
 have e:beB v 8=[v / 72057594037927936%256,v / 281474976710656%256,v / 1099511627776%256,v / 4294967296%256,v / 16777216%256,v / 65536%256,v / 256%256,v / 1%256]:=rfl
 rw [e]
 simp only [fB,List.foldl_cons,List.foldl_nil]
 omega
end Go.Proofs.YtjboelhcieepkaaGreatDoor
namespace Go.Proofs.YtjboelhcieepkaaGreatDoor
open Go.RowKit
def Gt(g:Nat):Option (Rp SV):=bif Nat.beq g 0 then some (.arr .i64 2 [45,33]) else bif Nat.beq g 2 then some (.arr .u32 64 Sh.kL) else bif Nat.beq g 1 then some (.arr .u32 8 Sh.hL) else none
def Xt:aI:=⟨Tryz.prog,Gt,uJ,aDM,a9T⟩
theorem aH:Xt.P.follows .mixedOrders=true:=by kernel_rfl
def bM:SV:=.v (.int .i64 0)
def aF7(args:List SV):Option (TypeId×Rp SV×Nat×Nat×Option (List SV)):=match args with
 |[.a (.q (.nnc x))]=>some (5,.q (.nncB x),12,12,none)
 |_=>none
theorem aZO:bN Xt 22 (kY aF7):=xN (bB (by kernel_rfl)) λargs T cs l c zs hf r vals w hd hg=>by
 unfold aF7 at hf
 split at hf
 ·rename_i x
  cases hf
  cases hd with
  |cons d t =>
   cases t
   cases d with
   |a d =>
    cases d
    refine ⟨_,none,.q _,rfl,(aGL x.sh x.c x.hsh w).mono ?_⟩
    rintro e w' ⟨p,rfl,h1,h2,h3⟩
    exact ⟨p,rfl,h2,h1,h3⟩
 ·cases hf
def aF2(l c:Nat)(cs:Rp SV):Option SV:=match cs with
 | .q (.nncB x)=>bif Nat.beq l 12&&Nat.ble 12 c then some (.t [.a (.q (.nnc x)),bM]) else none
 |_=>none
theorem a4e:bN Xt 288 (q9 aF2):=aCa (bB (by kernel_rfl)) λl c cs y hf r vs g0 o0 w hd hr hg=>by
 unfold aF2 at hf
 split at hf
 ·rename_i x
  cases hq:Nat.beq l 12&&Nat.ble 12 c with
  |false=>rw [hq] at hf;cases hf
  |true =>
   rw [hq] at hf;cases hf
   rw [bJ] at hq
   obtain rfl:l=12:=eU hq.1
   have hc:12≤c:=Nat.le_of_ble_eq_true hq.2
   cases hd
   have hl4:(Sh.beB x.sh 4).length=4:=Sh.beB_len _ _
   refine (aUC (some ⟨g0,o0,none⟩) c w.heap.size x.sh x.c hc x.nncB ?_ ?_ ?_ w hr (aS _)).mono ?_
   ·intro z hz
    rcases eL.1 hz with h|h
    ·exact Sh.beB_byt _ _ z h
    ·exact Sh.beB_byt _ _ z h
   ·unfold aA.nncB
    rw [List.take_append_of_le_length (by omega),jB (by omega)]
    exact aT4 _ x.hsh
   ·unfold aA.nncB
    rw [List.drop_append_of_le_length (by omega),kI (by omega),List.nil_append]
    exact bAi _ x.hc
   ·rintro e w' ⟨rfl,h3⟩
    exact ⟨_,rfl,.t (.cons (.a (.q _)) (.cons (.v _) .nil)),h3⟩
 ·cases hf
def Y6:List (FuncId×bV):=[(22,kY aF7),(288,q9 aF2)]
theorem aIt:∀p∈Y6,bN Xt p.1 p.2:=by
 intro p hp
 simp only [Y6,bG,cK,or_false] at hp
 rcases hp with rfl|rfl
 ·exact aZO
 ·exact a4e
def H1:Hk:=cZ Xt (cT Y6) 14 6
theorem aAU:bZ Xt H1:=eH aH aIt 6
theorem a7K(x:aA):jJ H1 Xt 12 91 [.a (.q (.rcd x))] .e 0=some (.int .i64 0):=by
 obtain ⟨s,sh,c,tag,hs,h0,h1,h2,h3,h4⟩:=x
 rcases s with _|_|_|s
 ·obtain ⟨rfl,rfl,rfl⟩:=h0 rfl;kernel_rfl
 ·kernel_rfl
 ·kernel_rfl
 ·omega
theorem bAB(x:aJ):jJ H1 Xt 12 115 [.a (.q (.ent x))] .e 0=some (.int .i64 0):=by
 obtain ⟨s,dig,hs,h0,h3,h4⟩:=x
 rcases s with _|_|_|s
 ·obtain rfl:=h0 rfl;kernel_rfl
 ·kernel_rfl
 ·kernel_rfl
 ·omega
theorem aZr(x:aA):R3 H1 Xt 12 58 [.a (.q (.rcd x))] .e 0=some (5,nv .u8 x.bytes,45,45,some [.int .i64 0]):=by
 obtain ⟨s,sh,c,tag,hs,h0,h1,h2,h3,h4⟩:=x
 rcases s with _|_|_|s
 ·obtain ⟨rfl,rfl,rfl⟩:=h0 rfl;kernel_rfl
 ·kernel_rfl
 ·kernel_rfl
 ·omega
theorem a2w(x:aJ):R3 H1 Xt 12 61 [.a (.q (.ent x))] .e 0=some (5,nv .u8 x.bytes,33,33,some [.int .i64 0]):=by
 obtain ⟨s,dig,hs,h0,h3,h4⟩:=x
 rcases s with _|_|_|s
 ·obtain rfl:=h0 rfl;kernel_rfl
 ·kernel_rfl
 ·kernel_rfl
 ·omega
