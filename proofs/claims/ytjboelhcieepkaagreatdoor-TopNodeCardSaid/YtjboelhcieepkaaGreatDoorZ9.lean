/-
  The symbolic machine again, cut so that the kernel has little to copy. (Printed by mksxz.py.)
-/
import Derived.Test.YtjboelhcieepkaaGreatDoorZ8
import Derived.Deep.RegionWith
import Derived.Deep.RegionLaw
import Derived.StillTailTactics
import Derived.Laws.Strings
namespace Go.Proofs.YtjboelhcieepkaaGreatDoor
set_option maxRecDepth 16384
open Go.RowKit
noncomputable def op_move(x:Operand)(_X:Ctx)(st:St)(_ty:TypeId):Option (SV×Tr×Nat):=pure1 st (some (ev st.ts x))
noncomputable def op_assign(x:Operand)(_X:Ctx)(st:St)(_ty:TypeId):Option (SV×Tr×Nat):=pure1 st (some (ev st.ts x))
noncomputable def op_pick(c:Operand)(a:Operand)(b:Operand)(_X:Ctx)(st:St)(_ty:TypeId):Option (SV×Tr×Nat):=(match ev st.ts c with
 | .v (.bool t)=>pure1 st (some (bif t then ev st.ts a else ev st.ts b))
 |_=>none)
noncomputable def op_alloc(T:TypeId)(X:Ctx)(st:St)(_ty:TypeId):Option (SV×Tr×Nat):=(match zeroS X.P T with
 |some cs=>some (newS st T cs (.p st.nx 0))
 |none=>none)
noncomputable def op_box(T:TypeId)(x:Operand)(_X:Ctx)(st:St)(_ty:TypeId):Option (SV×Tr×Nat):=(match (ev st.ts x).cells with
 |some cs=>some (newS st T cs (.p st.nx 0))
 |none=>none)
noncomputable def op_build(T:TypeId)(parts:Array (Nat×Operand))(X:Ctx)(st:St)(_ty:TypeId):Option (SV×Tr×Nat):=(match zeroS X.P T,X.P.underlying T with
 |some z,some (.struct fs)=>(match fs.toList.mapM (fun f=>(X.P.info? f.type).map fun i=>(f.offset,i.size)) with
  |some pl=>(match fillS (fun i=>pl[i]?) z (parts.toList.map fun x=>(x.1,ev st.ts x.2)) with
   |some cs=>some (.a cs,st.hp,st.nx)
   |none=>none)
  |none=>none)
 |some z,some (.array _ e)=>(match szOf X.P e with
  |some n=>(match fillS (fun i=>some (i*n,n)) z (parts.toList.map fun x=>(x.1,ev st.ts x.2)) with
   |some cs=>some (.a cs,st.hp,st.nx)
   |none=>none)
  |none=>none)
 |_,_=>none)
noncomputable def op_buildSlice(T:TypeId)(n:Nat)(parts:Array (Nat×Operand))(X:Ctx)(st:St)(_ty:TypeId):Option (SV×Tr×Nat):=(match X.P.underlying T with
 |some (.slice e)=>(match zeroS X.P e,szOf X.P e with
  |some z,some k=>bif Nat.ble (n*k) 16777216&&Nat.blt 0 k then (match fillS (fun i=>some (i*k,k)) (repS z n) (parts.toList.map fun x=>(x.1,ev st.ts x.2)) with
   |some cs=>some (newS st e cs (.s st.nx 0 n n))
   |none=>none) else none
  |_,_=>none)
 |_=>none)
noncomputable def op_load(T:TypeId)(x:Operand)(X:Ctx)(st:St)(_ty:TypeId):Option (SV×Tr×Nat):=pure1 st (loadS X st.hp T (ev st.ts x))
noncomputable def op_nilCheck(x:Operand)(_X:Ctx)(st:St)(_ty:TypeId):Option (SV×Tr×Nat):=(match ev st.ts x with
 | .p n o=>pure1 st (some (.p n o))
 | .v (.pointer (some a))=>pure1 st (some (.v (.pointer (some a))))
 | .f (.func g) a b=>pure1 st (some (.f (.func g) a b))
 | .y n=>pure1 st (some (.y n))
 |_=>none)
noncomputable def op_binOp(op:BinOp)(T:TypeId)(x:Operand)(y:Operand)(_q4:TypeId)(X:Ctx)(st:St)(_ty:TypeId):Option (SV×Tr×Nat):=pure1 st (bin X op T x y (ev st.ts x) (ev st.ts y))
noncomputable def op_unOp(op:UnOp)(_q1:TypeId)(x:Operand)(X:Ctx)(st:St)(_ty:TypeId):Option (SV×Tr×Nat):=(match ev st.ts x with
 | .v x=>pure1 st (nowV X.P (Op.unary op x))
 |_=>none)
noncomputable def op_convert(a:TypeId)(b:TypeId)(x:Operand)(X:Ctx)(st:St)(_ty:TypeId):Option (SV×Tr×Nat):=(match ev st.ts x with
 | .v x=>pure1 st (nowV X.P (convert a b x))
 | .s n o l c=>pure1 st (strS X st.hp a b (.s n o l c))
 | .w n l=>pure1 st (strS X st.hp a b (.w n l))
 |_=>none)
noncomputable def op_sliceToArrayPointer(T:TypeId)(x:Operand)(X:Ctx)(st:St)(_ty:TypeId):Option (SV×Tr×Nat):=(match X.P.underlying T,ev st.ts x with
 |some (.array n _),.s g o l _=>bif Nat.ble n l then pure1 st (some (.p g o)) else none
 |some (.array n _),.w g l=>bif Nat.ble n l then pure1 st (some (.p g 0)) else none
 |_,_=>none)
noncomputable def op_makeInterface(T:TypeId)(x:Operand)(X:Ctx)(st:St)(_ty:TypeId):Option (SV×Tr×Nat):=(match X.P.underlying T with
 |some (.interface _)=>none
 |some _=>pure1 st (some (.i T (ev st.ts x)))
 |none=>none)
noncomputable def op_makeFunc(fn:Fn)(a:Array Operand)(b:Array Operand)(_X:Ctx)(st:St)(_ty:TypeId):Option (SV×Tr×Nat):=pure1 st (some (.f fn (a.toList.map (ev st.ts)) (b.toList.map (ev st.ts))))
noncomputable def op_makeSlice(T:TypeId)(l:Operand)(c:Operand)(X:Ctx)(st:St)(_ty:TypeId):Option (SV×Tr×Nat):=(match X.P.underlying T,asN (ev st.ts l),asN (ev st.ts c) with
 |some (.slice e),some l,some c=>(match zeroS X.P e with
  |some z=>bif Nat.ble l c&&Nat.ble ((1+X.P.bytesOf e)*c) 281474976710656 then some (newS st e (repS z c) (.s st.nx 0 l c)) else none
  |none=>none)
 |_,_,_=>none)
noncomputable def op_slice(T:TypeId)(x:Operand)(lo:Option Operand)(hi:Option Operand)(mx:Option Operand)(X:Ctx)(st:St)(_ty:TypeId):Option (SV×Tr×Nat):=pure1 st (sliceS X.P T st.ts (ev st.ts x) lo hi mx)
noncomputable def op_fieldAddr(T:TypeId)(x:Operand)(f:Nat)(X:Ctx)(st:St)(_ty:TypeId):Option (SV×Tr×Nat):=(match X.P.underlying T with
 |some (.struct fs)=>(match fs.toList[f]?,ev st.ts x with
  |some fd,.p n o=>(match szOf X.P fd.type with
   |some (_+1)=>some (.p n (o+fd.offset),st.hp,st.nx)
   |_=>none)
  |_,_=>none)
 |_=>none)
noncomputable def op_field(T:TypeId)(x:Operand)(f:Nat)(X:Ctx)(st:St)(_ty:TypeId):Option (SV×Tr×Nat):=(match X.P.underlying T with
 |some (.struct fs)=>(match fs.toList[f]?,ev st.ts x with
  |some fd,.a cs=>pure1 st (ofElem X.P fd.type cs fd.offset)
  |_,_=>none)
 |_=>none)
noncomputable def op_indexAddr(T:TypeId)(x:Operand)(i:Operand)(X:Ctx)(st:St)(_ty:TypeId):Option (SV×Tr×Nat):=pure1 st (indexS X.P T (ev st.ts x) (ev st.ts i))
noncomputable def op_index(T:TypeId)(x:Operand)(i:Operand)(X:Ctx)(st:St)(_ty:TypeId):Option (SV×Tr×Nat):=(match X.P.underlying T,ev st.ts x,asN (ev st.ts i) with
 |some (.array n e),.a cs,some k=>(match szOf X.P e with
  |some z=>bif Nat.blt k n then pure1 st (ofElem X.P e cs (k*z)) else none
  |none=>none)
 |_,_,_=>none)
noncomputable def op_extract(x:Operand)(i:Nat)(_X:Ctx)(st:St)(_ty:TypeId):Option (SV×Tr×Nat):=(match ev st.ts x with
 | .t vs=>(match vs[i]? with
  |some y=>pure1 st (some y)
  |none=>none)
 |_=>none)
noncomputable def op_call(c:Call)(X:Ctx)(st:St)(ty:TypeId):Option (SV×Tr×Nat):=(match c.callee with
 | .builtin b=>builtinS X st b ty c.argTypes.toList (c.args.toList.map (ev st.ts))
 |_=>none)
noncomputable def opF(op:Op):Ctx→St→TypeId→Option (SV×Tr×Nat):=Op.rec (motive:=fun _=>Ctx→St→TypeId→Option (SV×Tr×Nat)) op_move op_assign op_pick op_alloc op_box op_build op_buildSlice (fun _ _ _ _ _ _ _=>none) op_load (fun _ _ _ _ _ _=>none) (fun _ _ _ _=>none) (fun _ _ _ _=>none) op_nilCheck op_binOp op_unOp op_convert op_sliceToArrayPointer op_makeInterface op_makeFunc (fun _ _ _ _ _=>none) (fun _ _ _ _ _=>none) op_makeSlice op_slice op_fieldAddr op_field op_indexAddr op_index (fun _ _ _ _ _ _ _=>none) (fun _ _ _ _ _ _ _=>none) (fun _ _ _ _ _ _=>none) (fun _ _ _ _ _ _ _=>none) (fun _ _ _ _ _=>none) (fun _ _ _ _ _=>none) (fun _ _ _ _=>none) (fun _ _ _ _ _ _ _=>none) op_extract op_call (fun _ _ _ _=>none) (fun _ _ _ _=>none) (fun _ _ _ _=>none) (fun _ _ _ _ _=>none) (fun _ _ _ _ _ _=>none) (fun _ _ _ _ _=>none) op
theorem opF_eq(op:Op)(X:Ctx)(st:St)(ty:TypeId):opF op X st ty=opS X st op ty:=by cases op<;>rfl
noncomputable def valF(o:Oper)(X:Ctx)(p:Pos)(ops:Array Oper)(rest:List Oper):Option Pos:=Option.rec (motive:=fun _=>Option Pos) none (fun r=>some ⟨.ops ops rest,p.k,⟨putS p.st.ts o.dst r.1,r.2.1,r.2.2⟩⟩) (opF o.op X p.st o.type)
theorem valF_eq(o:Oper)(X:Ctx)(p:Pos)(ops:Array Oper)(rest:List Oper):valF o X p ops rest=valS X p o ops rest:=by
 unfold valF valS
 rw [opF_eq]
 cases opS X p.st o.op o.type<;>rfl
noncomputable def one_store(T:TypeId)(x y:Operand)(o:Oper)(X:Ctx)(p:Pos)(ops:Array Oper)(rest:List Oper):Option Pos:=match ev p.st.ts x,(ev p.st.ts y).cells,szOf X.P T with
 | .p n i,some cs,some z=>bif Nat.beq (rsize cs) z&&o.dst.isNone then (match writeS p.st.hp n i cs with
  |some hp=>some ⟨.ops ops rest,p.k,⟨p.st.ts,hp,p.st.nx⟩⟩
  |none=>none) else none
 |_,_,_=>none
noncomputable def one_conv(a b:TypeId)(x:Operand)(o:Oper)(X:Ctx)(p:Pos)(ops:Array Oper)(rest:List Oper):Option Pos:=match convS X p a b (ev p.st.ts x) with
 |some (y,hp)=>some ⟨.ops ops rest,p.k,⟨putS p.st.ts o.dst y,hp,p.st.nx⟩⟩
 |none=>valF o X p ops rest
noncomputable def guard1(q:Nat×Bool)(ops:Array Oper)(ts:Sl):Option Bool:=guardS ops ts (some q)
noncomputable def guardF(g:Option (Nat×Bool)):Array Oper→Sl→Option Bool:=Option.casesOn (motive:=fun _=>Array Oper→Sl→Option Bool) g (fun _ _=>some true) guard1
theorem guardF_eq(g:Option (Nat×Bool))(ops:Array Oper)(ts:Sl):guardF g ops ts=guardS ops ts g:=by cases g<;>rfl
noncomputable def ex_frm(ts:Sl)(fn:Func)(d:Option Tmp)(ops:Array Oper)(rest:List Oper)(k:List KI)(X:Ctx)(st:St):Option Pos:=match retS X fn st with
 |some v=>some ⟨.ops ops rest,k,⟨putS ts d v,st.hp,st.nx⟩⟩
 |none=>none
noncomputable def nr_code(c:Code)(k:List KI)(_ih:Ctx→St→Option Pos)(_X:Ctx)(st:St):Option Pos:=some ⟨.code c,k,st⟩
noncomputable def nr_blk(_:Nat)(_k:List KI)(ih:Ctx→St→Option Pos):Ctx→St→Option Pos:=ih
noncomputable def nr_loop(c:Code)(k:List KI)(_ih:Ctx→St→Option Pos)(_X:Ctx)(st:St):Option Pos:=some ⟨.code c,.loop c::k,st⟩
noncomputable def nr_frm(ts:Sl)(fn:Func)(d:Option Tmp)(ops:Array Oper)(rest:List Oper)(k:List KI)(_ih:Ctx→St→Option Pos)(X:Ctx)(st:St):Option Pos:=ex_frm ts fn d ops rest k X st
noncomputable def nr_ds(n:Nat)(_k:List KI)(ih:Ctx→St→Option Pos)(X:Ctx)(st:St):Option Pos:=bif isDs st.hp n then ih X ⟨st.ts,st.hp.del n,st.nx⟩ else none
noncomputable def nr_rng(n:Nat)(_:Array Tmp)(_ _:Code)(fn:Func)(ts:Sl)(k:List KI)(ih:Ctx→St→Option Pos)(X:Ctx)(st:St):Option Pos :=
 rngQ (retS X fn st) (rngS (lpT st.hp n) (ih X ⟨ts,st.hp.del n,st.nx⟩) (fun c=>⟨.code c,k,⟨ts,st.hp.del n,st.nx⟩⟩))
noncomputable def nr_rbeg(n:Nat)(bdy:Code)(k:List KI)(_ih:Ctx→St→Option Pos)(_X:Ctx)(st:St):Option Pos:=match lpT st.hp n with
 |some 0=>some ⟨.code bdy,k,⟨st.ts,setLp st.hp n 1,st.nx⟩⟩
 |_=>none
noncomputable def nr_rend(n:Nat)(ts:Sl)(d:Option Tmp)(ops:Array Oper)(rest:List Oper)(k:List KI)(_ih:Ctx→St→Option Pos)(_X:Ctx)(st:St):Option Pos:=rendS st.hp st.nx n ts d ops rest k 0 true
noncomputable def norF(k:List KI):Ctx→St→Option Pos :=
 List.rec (motive:=fun _=>Ctx→St→Option Pos) (fun _ st=>some ⟨.done .normal,[],st⟩)
  (fun i k ih=>KI.rec (motive:=fun _=>List KI→(Ctx→St→Option Pos)→Ctx→St→Option Pos) nr_code nr_blk nr_loop nr_frm nr_ds nr_rng nr_rbeg nr_rend i k ih) k
theorem norF_eq(X:Ctx)(k:List KI):∀st,norF k X st=exitS X st .normal k:=by
 induction k with
 |nil=>intro st;rfl
 |cons i k ih =>
  intro st
  cases i with
  |blk _=>exact ih st
  |ds n =>
   show (bif isDs st.hp n then norF k X ⟨st.ts,st.hp.del n,st.nx⟩ else none)=_
   rw [ih];rfl
  |rng n prm asg bdy fn ts =>
   show rngQ (retS X fn st) (rngS (lpT st.hp n) (norF k X ⟨ts,st.hp.del n,st.nx⟩) (fun c=>⟨.code c,k,⟨ts,st.hp.del n,st.nx⟩⟩))=_
   rw [ih];rfl
  |_=>rfl
noncomputable def rt_sk1{α:Type}(_:α)(_k:List KI)(ih:Ctx→St→Option Pos):Ctx→St→Option Pos:=ih
noncomputable def rt_ds(n:Nat)(_k:List KI)(ih:Ctx→St→Option Pos)(X:Ctx)(st:St):Option Pos:=bif isDs st.hp n then ih X ⟨st.ts,st.hp.del n,st.nx⟩ else none
noncomputable def rt_rng(n:Nat)(_:Array Tmp)(_ _:Code)(fn:Func)(ts:Sl)(k:List KI)(_ih:Ctx→St→Option Pos)(X:Ctx)(st:St):Option Pos :=
 rngQ (retS X fn st) (rngS (lpT st.hp n) (exitS X ⟨ts,st.hp.del n,st.nx⟩ .normal k) (fun c=>⟨.code c,k,⟨ts,st.hp.del n,st.nx⟩⟩))
noncomputable def rt_rend(n:Nat)(ts:Sl)(d:Option Tmp)(ops:Array Oper)(rest:List Oper)(k:List KI)(_ih:Ctx→St→Option Pos)(_X:Ctx)(st:St):Option Pos:=rendS st.hp st.nx n ts d ops rest k 2 false
noncomputable def retF(k:List KI):Ctx→St→Option Pos :=
 List.rec (motive:=fun _=>Ctx→St→Option Pos) (fun _ st=>some ⟨.done .ret,[],st⟩)
  (fun i k ih=>KI.rec (motive:=fun _=>List KI→(Ctx→St→Option Pos)→Ctx→St→Option Pos) rt_sk1 rt_sk1 rt_sk1 nr_frm rt_ds rt_rng (fun _ _ _ _ _ _=>none) rt_rend i k ih) k
theorem retF_eq(X:Ctx)(k:List KI):∀st,retF k X st=exitS X st .ret k:=by
 induction k with
 |nil=>intro st;rfl
 |cons i k ih =>
  intro st
  cases i with
  |code _=>exact ih st
  |blk _=>exact ih st
  |loop _=>exact ih st
  |ds n =>
   show (bif isDs st.hp n then retF k X ⟨st.ts,st.hp.del n,st.nx⟩ else none)=_
   rw [ih];rfl
  |_=>rfl
noncomputable def co_cond(c:Operand)(a b:Code)(_:Ctx)(p:Pos):Option Pos:=match ev p.st.ts c with
 | .v (.bool true)=>some ⟨.code a,p.k,p.st⟩
 | .v (.bool false)=>some ⟨.code b,p.k,p.st⟩
 |_=>none
end Go.Proofs.YtjboelhcieepkaaGreatDoor
namespace Go.Proofs.YtjboelhcieepkaaGreatDoor
set_option maxRecDepth 16384
open Go.RowKit
structure Hk where
 leaf:FuncId→Option (List SV→Tr→Nat→Option (SV×St))
 reg:Array Oper→St→Option St
noncomputable def leafRec(H:Hk)(g:FuncId)(args:List SV)(hp:Tr)(nx:Nat):Option (SV×St):=match H.leaf g with
 |some L=>L args hp nx
 |none=>none
noncomputable def leafGo(p:Pos)(o:Oper)(ops:Array Oper)(rest:List Oper)(r:Option (SV×St)):Option Pos:=match r with
 |some (y,st)=>some ⟨.ops ops rest,p.k,⟨putS p.st.ts o.dst y,st.hp,st.nx⟩⟩
 |none=>none
noncomputable def enterW(H:Hk)(X:Ctx)(p:Pos)(o:Oper)(ops:Array Oper)(rest:List Oper)(g:FuncId)(args:List SV):Option Pos :=
 Option.rec (motive:=fun _=>List SV→Option Pos) (fun args=>enterS X p o ops rest g args) (fun L args=>leafGo p o ops rest (L args p.st.hp p.st.nx)) (H.leaf g) args
noncomputable def one_callW(H:Hk)(c:Call)(o:Oper)(X:Ctx)(p:Pos)(ops:Array Oper)(rest:List Oper):Option Pos:=match c.callee with
 | .value f=>(match ev p.st.ts f with
  | .f (.func g) a b=>enterW H X p o ops rest g (a++(c.args.toList.map (ev p.st.ts)++b))
  | .y n=>yieldS p o ops rest n (c.args.toList.map (ev p.st.ts))
  |_=>none)
 |_=>valF o X p ops rest
noncomputable def oneTW(H:Hk)(op:Op):Oper→Ctx→Pos→Array Oper→List Oper→Option Pos:=Op.rec (motive:=fun _=>Oper→Ctx→Pos→Array Oper→List Oper→Option Pos) (fun _=>valF) (fun _=>valF) (fun _ _ _=>valF) (fun _=>valF) (fun _ _=>valF) (fun _ _=>valF) (fun _ _ _=>valF) (fun _ _ _ _=>valF) (fun _ _=>valF) one_store (fun _=>valF) (fun _=>valF) (fun _=>valF) (fun _ _ _ _ _=>valF) (fun _ _ _=>valF) one_conv (fun _ _=>valF) (fun _ _=>valF) (fun _ _ _=>valF) (fun _ _=>valF) (fun _ _=>valF) (fun _ _ _=>valF) (fun _ _ _ _ _=>valF) (fun _ _ _=>valF) (fun _ _ _=>valF) (fun _ _ _=>valF) (fun _ _ _=>valF) (fun _ _ _ _=>valF) (fun _ _ _ _=>valF) (fun _ _ _=>valF) (fun _ _ _ _=>valF) (fun _ _=>valF) (fun _ _=>valF) (fun _=>valF) (fun _ _ _ _=>valF) (fun _ _=>valF) (one_callW H) (fun _=>valF) (fun _=>valF) (fun _=>valF) (fun _ _=>valF) (fun _ _ _=>valF) (fun _ _=>valF) op
noncomputable def oneW(H:Hk)(o:Oper)(X:Ctx)(p:Pos)(ops:Array Oper)(rest:List Oper):Option Pos :=
 Option.rec (motive:=fun _=>Option Pos) none (fun b=>Bool.rec (some ⟨.ops ops rest,p.k,⟨putS p.st.ts o.dst undefS,p.st.hp,p.st.nx⟩⟩) (oneTW H o.op o X p ops rest) b) (guardF o.guard ops p.st.ts)
def Took(H:Hk)(o:Oper)(p:Pos)(ops:Array Oper)(rest:List Oper)(q:Pos):Prop :=
 guardS ops p.st.ts o.guard=some true∧∃c f g a b y st,o.op=.call c∧c.callee=.value f∧ev p.st.ts f=.f (.func g) a b∧leafRec H g (a++(c.args.toList.map (ev p.st.ts)++b)) p.st.hp p.st.nx=some (y,st) ∧
  q=⟨.ops ops rest,p.k,⟨putS p.st.ts o.dst y,st.hp,st.nx⟩⟩
theorem oneW_cases{H:Hk}{X:Ctx}{o:Oper}{p q:Pos}{ops:Array Oper}{rest:List Oper}(h:oneW H o X p ops rest=some q):oneS X p o ops rest=some q∨Took H o p ops rest q:=by
 unfold oneW at h
 rw [guardF_eq] at h
 unfold oneS
 cases hg:guardS ops p.st.ts o.guard with
 |none=>rw [hg] at h;cases h
 |some b =>
  rw [hg] at h
  cases b with
  |false=>exact .inl h
  |true =>
   have h':oneTW H o.op o X p ops rest=some q:=h
   clear h
   cases ho:o.op with
   |store T x y=>rw [ho] at h';exact .inl h'
   |convert a b x =>
    rw [ho] at h'
    have h2:one_conv a b x o X p ops rest=some q:=h'
    unfold one_conv at h2
    refine .inl ?_
    show (match convS X p a b (ev p.st.ts x) with
     |some (y,hp)=>some ⟨.ops ops rest,p.k,⟨putS p.st.ts o.dst y,hp,p.st.nx⟩⟩
     |none=>valS X p o ops rest)=some q
    rw [←valF_eq]
    exact h2
   |call c =>
    rw [ho] at h'
    have h2:one_callW H c o X p ops rest=some q:=h'
    clear h'
    unfold one_callW at h2
    cases hc:c.callee with
    |value f =>
     rw [hc] at h2
     simp only at h2 ⊢
     split at h2
     ·rename_i g a b e
      unfold enterW at h2
      cases hl:H.leaf g with
      |none =>
       rw [hl] at h2
       simp only [hc,e]
       exact .inl h2
      |some L =>
       rw [hl] at h2
       have h3:leafGo p o ops rest (L (a++(c.args.toList.map (ev p.st.ts)++b)) p.st.hp p.st.nx)=some q:=h2
       unfold leafGo at h3
       split at h3
       ·rename_i y st hy
        cases h3
        refine .inr ⟨hg,c,f,g,a,b,y,st,ho,hc,e,?_,rfl⟩
        unfold leafRec
        rw [hl]
        exact hy
       ·cases h3
     ·rename_i n e
      simp only [hc,e]
      exact .inl h2
     ·cases h2
    |_=>rw [hc] at h2;simp only [hc];rw [←valF_eq];exact .inl h2
   |_=>rw [ho] at h';rw [←valF_eq];exact .inl h'
noncomputable def isTail(ops:Array Oper):Bool:=(match ops.toList.drop (ops.size-2) with
 |o::_=>(match o.op with
  | .call c=>(match c.callee with
   | .value (.tmp _)=>true
   |_=>false)
  |_=>false)
 |[]=>false)&&tailOk ops (ops.size-2)
noncomputable def isTail1(ops:Array Oper):Bool:=(match ops.toList.drop (ops.size-1) with
 |o::_=>(match o.op with
  | .call c=>(match c.callee with
   | .value (.tmp _)=>true
   |_=>false)
  |_=>false)
 |[]=>false)&&tailOk1 ops (ops.size-1)
noncomputable def regGo(X:Ctx)(k:List KI)(r:Option St):Option Pos:=match r with
 |some st=>norF k X st
 |none=>none
noncomputable def tailGo(ops:Array Oper)(k:List KI)(r:Option St):Option Pos:=match r with
 |some st=>some ⟨.ops ops (ops.toList.drop (ops.size-2)),k,st⟩
 |none=>none
noncomputable def tailGo1(ops:Array Oper)(k:List KI)(r:Option St):Option Pos:=match r with
 |some st=>some ⟨.ops ops (ops.toList.drop (ops.size-1)),k,st⟩
 |none=>none
noncomputable def drawW(H:Hk)(ops:Array Oper)(X:Ctx)(p:Pos):Option Pos:=Bool.rec (Bool.rec (regGo X p.k (H.reg ops p.st)) (tailGo1 ops p.k (H.reg (ops.toList.take (ops.size-1)).toArray p.st)) (isTail1 ops)) (tailGo ops p.k (H.reg (ops.toList.take (ops.size-2)).toArray p.st)) (isTail ops)
noncomputable def co_regionW(H:Hk)(_:Nat)(ops:Array Oper)(d:Bool)(X:Ctx)(p:Pos):Option Pos:=Bool.rec (some ⟨.ops ops ops.toList,p.k,p.st⟩) (drawW H ops X p) d
noncomputable def cw_nor(X:Ctx)(p:Pos):Option Pos:=norF p.k X p.st
noncomputable def cw_seq(a b:Code)(_ _:Ctx→Pos→Option Pos)(_:Ctx)(p:Pos):Option Pos:=some ⟨.code a,.code b::p.k,p.st⟩
noncomputable def cw_cond(c:Operand)(a b:Code)(_ _:Ctx→Pos→Option Pos)(X:Ctx)(p:Pos):Option Pos:=co_cond c a b X p
noncomputable def cw_block(id:Nat)(b:Code)(_:Ctx→Pos→Option Pos)(_:Ctx)(p:Pos):Option Pos:=some ⟨.code b,.blk id::p.k,p.st⟩
noncomputable def cw_loop(b:Code)(_:Ctx→Pos→Option Pos)(_:Ctx)(p:Pos):Option Pos:=some ⟨.code b,.loop b::p.k,p.st⟩
noncomputable def cw_range(g:Operand)(ps:Array Tmp)(a b:Code)(_ _:Ctx→Pos→Option Pos)(X:Ctx)(p:Pos):Option Pos:=rangeS X p g ps a b
noncomputable def cw_scope(b:Code)(_:Ctx→Pos→Option Pos)(_:Ctx)(p:Pos):Option Pos:=scopeS p b
noncomputable def cw_exit(id:Nat)(X:Ctx)(p:Pos):Option Pos:=exitS X p.st (.exit id) p.k
noncomputable def cw_ret(X:Ctx)(p:Pos):Option Pos:=retF p.k X p.st
noncomputable def codeW(H:Hk)(c:Code):Ctx→Pos→Option Pos:=Code.rec (motive:=fun _=>Ctx→Pos→Option Pos)
 cw_nor (co_regionW H) cw_seq cw_cond cw_block cw_loop cw_range cw_exit cw_scope (fun _=>cw_nor) (fun _ _ _=>none) cw_ret (fun _ _ _=>none) c
noncomputable def ow_nil(X:Ctx)(_ops:Array Oper)(p:Pos):Option Pos:=norF p.k X p.st
noncomputable def ow_cons(H:Hk)(o:Oper)(rest:List Oper)(_:Ctx→Array Oper→Pos→Option Pos)(X:Ctx)(ops:Array Oper)(p:Pos):Option Pos:=oneW H o X p ops rest
noncomputable def opsW(H:Hk)(ops:Array Oper)(l:List Oper)(X:Ctx)(p:Pos):Option Pos:=List.rec (motive:=fun _=>Ctx→Array Oper→Pos→Option Pos) ow_nil (ow_cons H) l X ops p
noncomputable def hdW(H:Hk)(h:Hd):Ctx→Pos→Option Pos:=Hd.rec (motive:=fun _=>Ctx→Pos→Option Pos) (codeW H) (opsW H) (fun _ _ _=>none) h
noncomputable def stepW(H:Hk)(X:Ctx)(p:Pos):Option Pos:=hdW H p.h X p
noncomputable def go_code(c:Code)(f:Pos→Pos)(k:List KI)(st:St):Pos:=f ⟨.code c,k,st⟩
noncomputable def go_ops(ops:Array Oper)(l:List Oper)(f:Pos→Pos)(k:List KI)(st:St):Pos:=f ⟨.ops ops l,k,st⟩
noncomputable def go_done(e:Exit)(_f:Pos→Pos)(k:List KI)(st:St):Pos:=⟨.done e,k,st⟩
noncomputable def go_pos(h:Hd)(k:List KI)(st:St)(f:Pos→Pos):Pos:=Hd.rec (motive:=fun _=>(Pos→Pos)→List KI→St→Pos) go_code go_ops go_done h f k st
noncomputable def goOn(f:Pos→Pos)(q:Pos):Pos:=Pos.rec (motive:=fun _=>(Pos→Pos)→Pos) go_pos q f
theorem goOn_cases(f:Pos→Pos)(q:Pos):goOn f q=f q∨goOn f q=q:=by
 obtain ⟨h,k,st⟩:=q
 cases h
 ·exact .inl rfl
 ·exact .inl rfl
 ·exact .inr rfl
noncomputable def runWS(H:Hk)(X:Ctx)(n:Nat):Pos→Pos:=Nat.rec (motive:=fun _=>Pos→Pos) (fun p=>Option.rec (motive:=fun _=>Pos) p (fun q=>q) (stepW H X p)) (fun _ ih p=>goOn ih (ih p)) n
theorem stepW_cases{H:Hk}{X:Ctx}{p q:Pos}(h:stepW H X p=some q):step X p=some q∨(∃ops o rest,p.h=.ops ops (o::rest)∧Took H o p ops rest q) ∨
 (∃id ops st,p.h=.code (.region id ops true)∧H.reg ops p.st=some st∧exitS X st .normal p.k=some q) ∨
 (∃id ops st,p.h=.code (.region id ops true)∧tailOk ops (ops.size-2)=true∧H.reg (ops.toList.take (ops.size-2)).toArray p.st=some st∧q=⟨.ops ops (ops.toList.drop (ops.size-2)),p.k,st⟩) ∨
 ∃id ops st,p.h=.code (.region id ops true)∧tailOk1 ops (ops.size-1)=true∧H.reg (ops.toList.take (ops.size-1)).toArray p.st=some st∧q=⟨.ops ops (ops.toList.drop (ops.size-1)),p.k,st⟩:=by
 obtain ⟨hd,k,st⟩:=p
 cases hd with
 |done e=>cases h
 |ops ops l =>
  cases l with
  |nil=>exact .inl ((norF_eq X k st).symm.trans h)
  |cons o rest =>
   rcases oneW_cases (p:=⟨.ops ops (o::rest),k,st⟩) h with h|h
   ·exact .inl h
   ·exact .inr (.inl ⟨ops,o,rest,rfl,h⟩)
 |code c =>
  cases c with
  |skip=>exact .inl ((norF_eq X k st).symm.trans h)
  |label l=>exact .inl ((norF_eq X k st).symm.trans h)
  |ret=>exact .inl ((retF_eq X k st).symm.trans h)
  |region id ops d =>
   cases d with
   |false=>exact .inl h
   |true =>
    have h2:drawW H ops X ⟨.code (.region id ops true),k,st⟩=some q:=h
    unfold drawW at h2
    cases ht:isTail ops with
    |false =>
     rw [ht] at h2
     have h4:(Bool.rec (regGo X k (H.reg ops st)) (tailGo1 ops k (H.reg (ops.toList.take (ops.size-1)).toArray st)) (isTail1 ops):Option Pos)=some q:=h2
     cases ht1:isTail1 ops with
     |false =>
      rw [ht1] at h4
      have h3:regGo X k (H.reg ops st)=some q:=h4
      unfold regGo at h3
      split at h3
      ·rename_i st' hst
       rw [norF_eq] at h3
       exact .inr (.inr (.inl ⟨id,ops,st',rfl,hst,h3⟩))
      ·cases h3
     |true =>
      rw [ht1] at h4
      have h3:tailGo1 ops k (H.reg (ops.toList.take (ops.size-1)).toArray st)=some q:=h4
      unfold tailGo1 at h3
      split at h3
      ·rename_i st' hst
       cases h3
       unfold isTail1 at ht1
       rw [Bool.and_eq_true] at ht1
       exact .inr (.inr (.inr (.inr ⟨id,ops,st',rfl,ht1.2,hst,rfl⟩)))
      ·cases h3
    |true =>
     rw [ht] at h2
     have h3:tailGo ops k (H.reg (ops.toList.take (ops.size-2)).toArray st)=some q:=h2
     unfold tailGo at h3
     split at h3
     ·rename_i st' hst
      cases h3
      unfold isTail at ht
      rw [Bool.and_eq_true] at ht
      exact .inr (.inr (.inr (.inl ⟨id,ops,st',rfl,ht.2,hst,rfl⟩)))
     ·cases h3
  |_=>exact .inl h
structure HkOk(X:Ctx)(H:Hk):Prop where
 leaf:∀w0,RecOk X w0 (leafRec H)
 reg:∀(E:Env) (Q:Post) (r:List Loc) (vs:List Value) (df:List Deferred) (w:World) (st st':St) (ops:Array Oper),E.X=X→H.reg ops st=some st'→DenS r st.ts vs→Mem E r st.hp st.nx w →
  (∀s vs' w',DenS (r++s) st'.ts vs'→Mem E (r++s) st'.hp st'.nx w'→Q .normal ⟨vs'.toArray,df⟩ w')→ops.all noDefer=true∧wpAny E.X.P .any ops (Nor Q) ops.size (Array.replicate ops.size false) ⟨vs.toArray,df⟩ w.drew
structure HkAt(E:Env)(H:Hk):Prop where
 leaf:RecOk E.X E.w0 (leafRec H)
 reg:∀(Q:Post) (r:List Loc) (vs:List Value) (df:List Deferred) (w:World) (st st':St) (ops:Array Oper),H.reg ops st=some st'→DenS r st.ts vs→Mem E r st.hp st.nx w →
  (∀s vs' w',DenS (r++s) st'.ts vs'→Mem E (r++s) st'.hp st'.nx w'→Q .normal ⟨vs'.toArray,df⟩ w')→ops.all noDefer=true∧wpAny E.X.P .any ops (Nor Q) ops.size (Array.replicate ops.size false) ⟨vs.toArray,df⟩ w.drew
theorem HkOk.at_{E:Env}{H:Hk}(h:HkOk E.X H):HkAt E H:=⟨h.leaf _,fun Q r vs df w st st' ops=>h.reg E Q r vs df w st st' ops rfl⟩
theorem WI_loud{m:Option Nat}{P:Program}{ops:Array Oper}{Q:Post}{o:Oper}{rest:List Oper}{ts:List Value}{df:List Deferred}{w:World}(hd:noDefer o=true)(hw:Region.wanted o (yielded ops ts.toArray)=true)
 (h:o.wp P ⟨ts.toArray,df⟩ w (fun a w=>WI m P ops Q rest a w) (Nor Q)):WI m P ops Q (o::rest) ⟨ts.toArray,df⟩ w :=
 ⟨wpListIn_step fun K hK=>by
  rw [if_pos hw]
  exact opIn_FR hd (fun a w h=>hK a w h.out) h⟩
section
variable {E:Env}{Q0:Post}{r0:List Loc}{H:Hk}
theorem stepW_at{p q:Pos}(hmx:E.X.P.follows .mixedOrders=true)(hH:HkAt E H)(h0:CollOk E.X.P Q0)(h:stepW H E.X p=some q)(hx:Xp E r0 Q0 q):Xp E r0 Q0 p:=by
 rcases stepW_cases h with h|⟨ops,o,rest,hp,hg,c,f,g,a,b,y,st,ho,hc,hf,hl,rfl⟩|⟨id,ops,st,hp,hr,he⟩|⟨id,ops,st,hp,ht,hr,rfl⟩|⟨id,ops,st,hp,ht,hr,rfl⟩
 ·exact step_ok h0 h hx
 ·intro r vs w Q hr hs hm hk
  rw [hp]
  refine WI_loud (by unfold noDefer;rw [ho]) (guardS_ok hs hg) ?_
  have hld:loudS E.X (leafRec H) o p.st.ts p.st.hp p.st.nx=some (y,st.hp,st.nx):=by
   unfold loudS
   simp only [ho,hc,hf,hl]
  refine loudS_ok hH.leaf hs hm hld fun s v w' hd hm'=>?_
  have:=hx (r++s) _ w' Q (ext hr s) (DenS.putS (hs.mono s) hd o.dst) hm' (hk.mono s)
  simp only [HdOk,(hk.same s).1,(hk.same s).2] at this
  exact this
 ·intro r vs w Q hr2 hs hm hk
  rw [hp]
  obtain ⟨hn,ha⟩:=hH.reg Q r vs (dfOf r p.k) w p.st st ops hr hs hm fun s vs' w' hs' hm'=>by
   have:=exitS_ok he hx (ext hr2 s) hs' hm' (hk.mono s)
   rwa [(hk.same s).2] at this
  exact wpIn_region_any hmx (anyIn_FR hn _ _ _ _ ha)
 ·intro r vs w Q hr2 hs hm hk
  rw [hp]
  have hsz:ops.size=ops.size-2+2:=by
   unfold tailOk at ht
   rw [Bool.and_eq_true] at ht
   exact Nat.eq_of_beq_eq_true ht.1
  obtain ⟨j,hj⟩:∃j,ops.size-2=j:=⟨_,rfl⟩
  rw [hj] at ht hr hsz hx
  have hoc:ops[j]?=some (ops[j]'(by omega)):=Array.getElem?_eq_getElem (by omega)
  have hot:ops[j+1]?=some (ops[j+1]'(by omega)):=Array.getElem?_eq_getElem (by omega)
  generalize ops[j]'(by omega)=oc at hoc
  generalize ops[j+1]'(by omega)=ot at hot
  have hdrop:ops.toList.drop j=[oc,ot]:=by
   apply List.ext_getElem?
   intro i
   rw [List.getElem?_drop]
   match i with
   |0=>simpa using hoc
   |1=>simpa using hot
   |i+2=>simp;omega
  rw [hdrop] at hx
  obtain ⟨-,ha⟩:=hH.reg (fun _ a w=>wpListIn (FR (frOf r p.k)) 0 E.X.P ops Q [oc,ot] a w) r vs (dfOf r p.k) w p.st st _ hr hs hm fun s vs' w' hs' hm'=>by
   have:=hx (r++s) _ w' Q (ext hr2 s) hs' hm' (hk.mono s)
   simp only [HdOk,(hk.same s).1,(hk.same s).2] at this
   exact this.out
  have hsz2:(ops.toList.take j).toArray.size=j:=by simp;omega
  rw [hsz2] at ha
  exact wpIn_region_any hmx (tail_any ht hoc hot ha)
 ·intro r vs w Q hr2 hs hm hk
  rw [hp]
  have hsz:ops.size=ops.size-1+1:=by
   unfold tailOk1 at ht
   rw [Bool.and_eq_true] at ht
   exact Nat.eq_of_beq_eq_true ht.1
  obtain ⟨j,hj⟩:∃j,ops.size-1=j:=⟨_,rfl⟩
  rw [hj] at ht hr hsz hx
  have hoc:ops[j]?=some (ops[j]'(by omega)):=Array.getElem?_eq_getElem (by omega)
  generalize ops[j]'(by omega)=oc at hoc
  have hdrop:ops.toList.drop j=[oc]:=by
   apply List.ext_getElem?
   intro i
   rw [List.getElem?_drop]
   match i with
   |0=>simpa using hoc
   |i+1=>simp;omega
  rw [hdrop] at hx
  obtain ⟨-,ha⟩:=hH.reg (fun _ a w=>wpListIn (FR (frOf r p.k)) 0 E.X.P ops Q [oc] a w) r vs (dfOf r p.k) w p.st st _ hr hs hm fun s vs' w' hs' hm'=>by
   have:=hx (r++s) _ w' Q (ext hr2 s) hs' hm' (hk.mono s)
   simp only [HdOk,(hk.same s).1,(hk.same s).2] at this
   exact this.out
  have hsz2:(ops.toList.take j).toArray.size=j:=by simp;omega
  rw [hsz2] at ha
  exact wpIn_region_any hmx (tail_any1 ht hoc ha)
theorem stepW_ok{p q:Pos}(hmx:E.X.P.follows .mixedOrders=true)(hH:HkOk E.X H)(h0:CollOk E.X.P Q0)(h:stepW H E.X p=some q)(hx:Xp E r0 Q0 q):Xp E r0 Q0 p:=stepW_at hmx hH.at_ h0 h hx
theorem runWS_ok(hmx:E.X.P.follows .mixedOrders=true)(hH:HkOk E.X H)(h0:CollOk E.X.P Q0):∀(n:Nat) {p:Pos},Xp E r0 Q0 (runWS H E.X n p)→Xp E r0 Q0 p
 |0,p,h=>by
  have h':Xp E r0 Q0 (Option.rec (motive:=fun _=>Pos) p (fun q=>q) (stepW H E.X p)):=h
  cases hq:stepW H E.X p with
  |none=>rw [hq] at h';exact h'
  |some q=>rw [hq] at h';exact stepW_ok hmx hH h0 hq h'
 |n+1,p,h=>by
  have h':Xp E r0 Q0 (goOn (runWS H E.X n) (runWS H E.X n p)):=h
  rcases goOn_cases (runWS H E.X n) (runWS H E.X n p) with e|e
  ·rw [e] at h';exact runWS_ok hmx hH h0 n (runWS_ok hmx hH h0 n h')
  ·rw [e] at h';exact runWS_ok hmx hH h0 n h'
end
noncomputable def finS(X:Ctx)(fn:Func)(p:Pos):Option (SV×St):=match p.h,p.k with
 | .done .ret,[]=>(match retS X fn p.st with
  |some v=>some (v,p.st)
  |none=>none)
 | .done .normal,[]=>(match retS X fn p.st with
  |some v=>some (v,p.st)
  |none=>none)
 |_,_=>none
noncomputable def callW(H:Hk)(X:Ctx)(n:Nat)(g:FuncId)(args:List SV)(hp:Tr)(nx:Nat):Option (SV×St):=match entryS X.P g with
 |some (fn,c)=>finS X fn (runWS H X n ⟨.code c,[],⟨frame args fn.ntmps,hp,nx⟩⟩)
 |none=>none
section
variable {E:Env}{r:List Loc}{vals:List Value}{w:World}{hp:Tr}{nx:Nat}
theorem finS_ok{fn:Func}{p:Pos}{res:SV}{st:St}(h:finS E.X fn p=some (res,st)):
 Xp E r (bodyPostM Fence.wide 0 E.X.P fn fun e w'=>∃q v,e=.returned v∧Den (r++q) res v∧Mem E (r++q) st.hp st.nx w') p:=by
 rintro r2 vs2 w2 Q ⟨q2,rfl⟩ hs hm2 hk
 unfold finS at h
 have key:∀e,p.h=.done e→(e=.ret∨e=.normal)→p.k=[]→(match retS E.X fn p.st with|some v=>some (v,p.st)|none=>none)=some (res,st)→HdOk (frOf (r++q2) p.k) (dfOf (r++q2) p.k) E.X.P p.h Q vs2 w2:=by
  intro e he hee hke h
  rw [hke] at hk ⊢
  have hQ:Q=_:=hk
  rw [he,hQ]
  split at h
  ·rename_i x hr
   cases h
   obtain ⟨u,hu,hd⟩:=retS_ok hs hm2 hr
   rcases hee with rfl|rfl
   ·exact ⟨u,hu,q2,u,rfl,hd,hm2⟩
   ·exact ⟨u,hu,q2,u,rfl,hd,hm2⟩
  ·cases h
 split at h
 ·rename_i he hke;exact key _ he (.inl rfl) hke h
 ·rename_i he hke;exact key _ he (.inr rfl) hke h
 ·cases h
theorem Mem.start(X:Ctx)(w:World)(hg:∀g cs,X.G g=some cs→∃vs,DenC [] cs vs∧g<w.heap.size∧∀j v,vs[j]?=some v→w.cell? ⟨g,j,none⟩=some v):Mem ⟨X,w,w,fun _=>False,fun _=>False⟩ [] .e 0 w :=
 ⟨rfl,fun n b h=>by simp [Tre.get_e] at h,fun n m b c L M h=>by simp [Tre.get_e] at h,Below.refl _ _,fun _ h=>h.elim,fun _ _ _ _ _ _ _ _ h=>h,Nat.le_refl _,fun n b L h=>by simp [Tre.get_e] at h,fun _ h=>h.elim,hg⟩
theorem callW_ok{H:Hk}{n:Nat}{g:FuncId}{args:List SV}{res:SV}{st:St}(hmx:E.X.P.follows .mixedOrders=true)(hH:HkOk E.X H)(h:callW H E.X n g args hp nx=some (res,st))(ha:DenL r args vals)(hm:Mem E r hp nx w):
 Calls E.X.P g vals.toArray w fun e w'=>∃q v,e=.returned v∧Den (r++q) res v∧Mem E (r++q) st.hp st.nx w':=by
 unfold callW at h
 split at h
 ·rename_i fn c hent
  exact calls_of_X2 (k:=[]) hent ⟨[],by simp⟩ ha hm rfl rfl rfl (runWS_ok hmx hH collOk_body n (finS_ok h))
 ·cases h
end
noncomputable def hkD(X:Ctx)(leaf:FuncId→Option (List SV→Tr→Nat→Option (SV×St)))(n:Nat):Nat→Hk
 |0=>⟨leaf,fun _ _=>none⟩
 |d+1=>⟨leaf,regF leaf X fun g args hp nx=>Option.rec (motive:=fun _=>List SV→Tr→Nat→Option (SV×St)) (callW (hkD X leaf n d) X n g) (fun L=>L) (leaf g) args hp nx⟩
theorem callW_rec{X:Ctx}{H:Hk}{n:Nat}(hmx:X.P.follows .mixedOrders=true)(hH:HkOk X H)(w0:World):RecOk X w0 (callW H X n):=by
 intro g args hp nx res st h E r vals w hE _ ha hm
 subst hE
 refine ⟨fun w'=>?_,callW_ok hmx hH h ha hm⟩
 unfold callW at h
 split at h
 ·rename_i fn c hent
  exact run_enter hent vals.toArray w'
 ·cases h
theorem hkD_ok{X:Ctx}{leaf:FuncId→Option (List SV→Tr→Nat→Option (SV×St))}{n:Nat}(hmx:X.P.follows .mixedOrders=true) (hl:∀g L,leaf g=some L→∀args hp nx res st,L args hp nx=some (res,st)→∀(E:Env) (r:List Loc) (vals:List Value) (w:World),E.X=X→DenL r args vals→Mem E r hp nx w →
 (∀w',(callFunc g vals.toArray).run X.P w'=.ok (.enter g vals.toArray) w')∧Calls X.P g vals.toArray w fun e w'=>∃q v,e=.returned v∧Den (r++q) res v∧Mem E (r++q) st.hp st.nx w'):∀d,HkOk X (hkD X leaf n d):=by
 have hlr:∀H:Hk,H.leaf=leaf→∀w0,RecOk X w0 (leafRec H):=by
  intro H hH w0 g args hp nx res st h E r vals w hE _
  unfold leafRec at h
  rw [hH] at h
  split at h
  ·rename_i L hL
   exact hl g L hL args hp nx res st h E r vals w hE
  ·cases h
 intro d
 induction d with
 |zero=>exact ⟨hlr _ rfl,fun E Q r vs df w st st' ops _ h=>by cases h⟩
 |succ d ih =>
  refine ⟨hlr _ rfl,fun E Q r vs df w st st' ops hE h hs hm hk=>?_⟩
  subst hE
  refine ⟨regS_noDefer (regF_ok h),regS_any (fun g args hp nx res st h E' r' vals' w' hE' h0'=>?_) (regF_ok h) hs hm hk⟩
  cases hg:leaf g with
  |none=>rw [hg] at h;exact callW_rec hmx ih _ g args hp nx res st h E' r' vals' w' hE' h0'
  |some L=>rw [hg] at h;exact hl g L hg args hp nx res st h E' r' vals' w' hE'
end Go.Proofs.YtjboelhcieepkaaGreatDoor
namespace Go.Proofs.YtjboelhcieepkaaGreatDoor
set_option maxRecDepth 16384
open Go.RowKit
noncomputable def valsC:Rp SV→Option (List Value)
 | .nil=>some []
 | .one (.v x)=>some [x]
 | .one _=>none
 | .arr k _ l=>some (nv k l)
 | .q a=>some a.vals
 | .node _ _ a b=>match valsC a,valsC b with
  |some us,some vs=>some (us++vs)
  |_,_=>none
theorem valsC_eq{r:List Loc}:∀{c:Rp SV} {us vs:List Value},valsC c=some us→DenC r c vs→vs=us
 | .nil,_,_,h,d=>by cases h;cases d;rfl
 | .one (.v x),_,_,h,d=>by cases h;cases d with|one h1 _=>cases h1;rfl
 | .arr k n l,_,_,h,d=>by cases h;cases d;rfl
 | .q a,_,_,h,d=>by cases h;cases d;rfl
 | .node s t a b,us,vs,h,d=>by
  unfold valsC at h
  split at h
  ·rename_i x y ha hb
   cases h
   cases d with
   |node h1 h2 _ _=>rw [valsC_eq ha h1,valsC_eq hb h2]
  ·cases h
noncomputable def valV:SV→Option Value
 | .v x=>some x
 | .a c=>match valsC c with
  |some l=>some (.agg l.toArray)
  |none=>none
 |_=>none
noncomputable def valL:List SV→Option (List Value)
 |[]=>some []
 |x::xs=>match valV x,valL xs with
  |some y,some ys=>some (y::ys)
  |_,_=>none
noncomputable def valR:SV→Option Value
 | .t xs=>match valL xs with
  |some l=>some (.tuple l.toArray)
  |none=>none
 |x=>valV x
theorem valV_eq{r:List Loc}{x:SV}{u v:Value}(h:valV x=some u)(d:Den r x v):v=u:=by
 unfold valV at h
 split at h
 ·cases h;cases d;rfl
 ·split at h
  ·rename_i hc
   cases h
   cases d with|a d=>rw [valsC_eq hc d]
  ·cases h
 ·cases h
theorem valL_eq{r:List Loc}:∀{xs:List SV} {us vs:List Value},valL xs=some us→DenL r xs vs→vs=us
 |[],_,_,h,d=>by cases h;cases d;rfl
 |x::xs,_,_,h,d=>by
  unfold valL at h
  split at h
  ·rename_i hx hxs
   cases h
   cases d with|cons d1 d2=>rw [valV_eq hx d1,valL_eq hxs d2]
  ·cases h
theorem valR_eq{r:List Loc}{x:SV}{u v:Value}(h:valR x=some u)(d:Den r x v):v=u:=by
 unfold valR at h
 split at h
 ·split at h
  ·rename_i hl
   cases h
   cases d with|t d=>rw [valL_eq hl d]
  ·cases h
 ·exact valV_eq h d
def GlobOk(X:Ctx)(w:World):Prop:=∀g cs,X.G g=some cs→∃vs,DenC [] cs vs∧g<w.heap.size∧∀j v,vs[j]?=some v→w.cell? ⟨g,j,none⟩=some v
theorem Mem.globs{E:Env}{r:List Loc}{hp:Tr}{nx:Nat}{w:World}(h:Mem E r hp nx w):GlobOk E.X w:=fun g cs hg=>by
 obtain ⟨vs,hd,hl,hc⟩:=h.glob g cs hg
 exact ⟨vs,hd,Nat.lt_of_lt_of_le hl h.below.size,fun j v hv=>(h.below.cell (p:=⟨g,j,none⟩) hl).trans (hc j v hv)⟩
def E0(X:Ctx)(w:World):Env:=⟨X,w,w,fun _=>False,fun _=>False⟩
def Enters(P:Program)(g:FuncId):Prop:=∀vals w,(callFunc g vals).run P w=.ok (.enter g vals) w
theorem enters{P:Program}{g:FuncId}(h:(entryS P g).isSome=true):Enters P g:=by
 obtain ⟨⟨fn,c⟩,h⟩:=Option.isSome_iff_exists.1 h
 exact fun vals w=>run_enter h vals w
section
variable {X:Ctx}{H:Hk}{n:Nat}{g:FuncId}{args:List SV}{vals:List Value}{w:World}{st:St}{y:SV}
theorem run_mem(hmx:X.P.follows .mixedOrders=true)(hH:HkOk X H)(h:callW H X n g args .e 0=some (y,st))(ha:DenL [] args vals)(hg:GlobOk X w):
 Calls X.P g vals.toArray w fun e w'=>∃r v,e=.returned v∧Den r y v∧Mem (E0 X w) r st.hp st.nx w' :=
 (callW_ok (E:=E0 X w) hmx hH h ha (Mem.start X w hg)).mono fun e w' ⟨q,v,he,hd,hm⟩=>⟨q,v,he,by simpa using hd,by simpa using hm⟩
theorem run_val{u:Value}(hmx:X.P.follows .mixedOrders=true)(hH:HkOk X H)(h:callW H X n g args .e 0=some (y,st))(hv:valR y=some u)(ha:DenL [] args vals)(hg:GlobOk X w):
 Calls X.P g vals.toArray w fun e w'=>e=.returned u∧Below w.heap.size w w' :=
 (run_mem hmx hH h ha hg).mono fun e w' ⟨r,v,he,hd,hm⟩=>⟨by rw [he,valR_eq hv hd],hm.below⟩
def NewS(w w':World)(T:TypeId)(us:List Value)(p:Nat):Prop:=w.heap.size≤p∧Blk w' p T us.toArray∧Below w.heap.size w w'
theorem run_new{m l c T:Nat}{cs:Rp SV}{us:List Value}{zs:List SV}{uz:List Value}(hmx:X.P.follows .mixedOrders=true)(hH:HkOk X H)(h:callW H X n g args .e 0=some (.t (.s m 0 l c::zs),st))
 (hb:st.hp.get m=some ⟨T,cs,0⟩) (hv:valsC cs=some us) (hz:valL zs=some uz) (ha:DenL [] args vals) (hg:GlobOk X w) :
 Calls X.P g vals.toArray w fun e w'=>∃p,e=.returned (.tuple (.slice (some ⟨p,0,none⟩) l c::uz).toArray)∧NewS w w' T us p :=
 (run_mem hmx hH h ha hg).mono fun e w' ⟨r,v,he,hd,hm⟩=>by
  obtain ⟨L,hL,vs,hdc,hk⟩:=hm.blk m _ hb
  rcases hk with ⟨_,hge,hb0,hblk⟩|⟨h1,_⟩|⟨h2,_⟩
  ·cases hd with|t hd=>cases hd with|cons d1 d2=>cases d1 with|s hL' =>
    rw [hL] at hL';cases hL'
    rw [valL_eq hz d2] at he
    rw [valsC_eq hv hdc] at hblk
    exact ⟨L.g,by rw [he,hb0],hge,hblk,hm.below⟩
  ·cases h1
  ·exact absurd h2 (by show ¬ 2≤0;decide)
theorem run_new1{m l c T:Nat}{cs:Rp SV}{us:List Value}(hmx:X.P.follows .mixedOrders=true)(hH:HkOk X H)(h:callW H X n g args .e 0=some (.s m 0 l c,st))
 (hb:st.hp.get m=some ⟨T,cs,0⟩) (hv:valsC cs=some us) (ha:DenL [] args vals) (hg:GlobOk X w) :
 Calls X.P g vals.toArray w fun e w'=>∃p,e=.returned (.slice (some ⟨p,0,none⟩) l c)∧NewS w w' T us p :=
 (run_mem hmx hH h ha hg).mono fun e w' ⟨r,v,he,hd,hm⟩=>by
  obtain ⟨L,hL,vs,hdc,hk⟩:=hm.blk m _ hb
  rcases hk with ⟨_,hge,hb0,hblk⟩|⟨h1,_⟩|⟨h2,_⟩
  ·cases hd with|s hL' =>
    rw [hL] at hL';cases hL'
    rw [valsC_eq hv hdc] at hblk
    exact ⟨L.g,by rw [he,hb0],hge,hblk,hm.below⟩
  ·cases h1
  ·exact absurd h2 (by show ¬ 2≤0;decide)
end
noncomputable def callR(H:Hk)(X:Ctx)(n:Nat)(g:FuncId)(args:List SV)(hp:Tr)(nx:Nat):Option Value:=match callW H X n g args hp nx with
 |some (y,_)=>valR y
 |none=>none
theorem callR_ok{H:Hk}{X:Ctx}{n:Nat}{g:FuncId}{args:List SV}{hp:Tr}{nx:Nat}{u:Value}(h:callR H X n g args hp nx=some u):∃y st,callW H X n g args hp nx=some (y,st)∧valR y=some u:=by
 unfold callR at h
 split at h
 ·rename_i y st hc;exact ⟨y,st,hc,h⟩
 ·cases h
theorem callR_val{X:Ctx}{H:Hk}{n:Nat}{g:FuncId}{args:List SV}{vals:List Value}{w:World}{u:Value}(hmx:X.P.follows .mixedOrders=true)(hH:HkOk X H)(h:callR H X n g args .e 0=some u)(ha:DenL [] args vals)(hg:GlobOk X w):
 Calls X.P g vals.toArray w fun e w'=>e=.returned u∧Below w.heap.size w w':=by
 obtain ⟨y,st,hc,hv⟩:=callR_ok h
 exact run_val hmx hH hc hv ha hg
noncomputable def callN(H:Hk)(X:Ctx)(n:Nat)(g:FuncId)(args:List SV)(hp:Tr)(nx:Nat):Option (TypeId×List Value×Nat×Nat×Option (List Value)):=match callW H X n g args hp nx with
 |some (.t (.s m 0 l c::zs),st)=>(match st.hp.get m,valL zs with
  |some ⟨T,cs,0⟩,some uz=>(match valsC cs with
   |some us=>some (T,us,l,c,some uz)
   |none=>none)
  |_,_=>none)
 |some (.s m 0 l c,st)=>(match st.hp.get m with
  |some ⟨T,cs,0⟩=>(match valsC cs with
   |some us=>some (T,us,l,c,none)
   |none=>none)
  |_=>none)
 |_=>none
def sliR(x:Value):Option (List Value)→Value
 |none=>x
 |some uz=>.tuple (x::uz).toArray
theorem callN_new{X:Ctx}{H:Hk}{n:Nat}{g:FuncId}{args:List SV}{vals:List Value}{w:World}{T:TypeId}{us:List Value}{l c:Nat}{uz:Option (List Value)}(hmx:X.P.follows .mixedOrders=true)(hH:HkOk X H)(h:callN H X n g args .e 0=some (T,us,l,c,uz))
 (ha:DenL [] args vals) (hg:GlobOk X w):Calls X.P g vals.toArray w fun e w'=>∃p,e=.returned (sliR (.slice (some ⟨p,0,none⟩) l c) uz)∧NewS w w' T us p:=by
 unfold callN at h
 split at h
 ·rename_i hc
  split at h
  ·rename_i hb hz
   split at h
   ·rename_i hv;cases h;exact run_new hmx hH hc hb hv hz ha hg
   ·cases h
  ·cases h
 ·rename_i hc
  split at h
  ·rename_i hb
   split at h
   ·rename_i hv;cases h;exact run_new1 hmx hH hc hb hv ha hg
   ·cases h
  ·cases h
 ·cases h
noncomputable def rd1(T:TypeId)(cs:Rp SV):Tr:=Tre.e.put 0 ⟨T,cs,2⟩
theorem rd_mem{X:Ctx}{H:Hk}{n T l c g0 o0:Nat}{g:FuncId}{cs:Rp SV}{vs:List Value}{w:World}{y:SV}{st:St}(hmx:X.P.follows .mixedOrders=true)(hH:HkOk X H)(hc:callW H X n g [.s 0 0 l c] (rd1 T cs) 1=some (y,st))
 (hd:DenC [] cs vs) (hr:Reads w w.heap.size 1 (some ⟨g0,o0,none⟩) l vs) (hl:0<l) (hg:GlobOk X w):Calls X.P g #[.slice (some ⟨g0,o0,none⟩) l c] w fun e w'=>∃r v,e=.returned v∧Den r y v∧Below w.heap.size w w':=by
 obtain ⟨ad,he,hlt,hcell⟩:=hr.2 hl
 cases he
 have hget:∀m b,(rd1 T cs).get m=some b→m=0∧b=⟨T,cs,2⟩:=by
  intro m b hb
  unfold rd1 at hb
  rw [Tre.get_put] at hb
  by_cases h0:m=0
  ·rw [if_pos h0] at hb;cases hb;exact ⟨h0,rfl⟩
  ·rw [if_neg h0,Tre.get_e] at hb;cases hb
 have hm:Mem (E0 X w) [⟨g0,o0,c,none,fun _=>False⟩] (rd1 T cs) 1 w:=by
  refine ⟨rfl,fun m b hb=>?_,fun a b x y L M ha hb hne=>?_,Below.refl _ _,fun _ h=>h.elim,fun _ _ _ _ _ _ _ _ h=>h,Nat.le_refl _,fun m b L hb _ _ hL=>?_,fun _ h=>h.elim,hg⟩
  ·obtain ⟨rfl,rfl⟩:=hget m b hb
   refine ⟨_,rfl,vs,hd.mono _,.inr (.inr ⟨Nat.le_refl _,hlt,fun j v hv=>?_,⟨fun h=>(by cases h),fun h=>(by cases h),fun h=>absurd h (by show ¬ 5≤2;decide),fun h=>(by cases h)⟩⟩)⟩
   have:=hcell j v hv
   rwa [add_none] at this
  ·exact absurd ((hget _ _ ha).1.trans (hget _ _ hb).1.symm) hne
  ·obtain ⟨rfl,rfl⟩:=hget m b hb
   cases hL;exact .inl hlt
 exact (callW_ok (E:=E0 X w) (r:=[⟨g0,o0,c,none,fun _=>False⟩]) hmx hH hc (.cons (Den.s (o:=0) rfl) .nil) hm).mono fun e w' ⟨q,v,he,hdv,hm'⟩=>⟨_,v,he,hdv,hm'.below⟩
theorem callR_rd{X:Ctx}{H:Hk}{n T l c g0 o0:Nat}{g:FuncId}{cs:Rp SV}{vs:List Value}{w:World}{u:Value}(hmx:X.P.follows .mixedOrders=true)(hH:HkOk X H)(h:callR H X n g [.s 0 0 l c] (rd1 T cs) 1=some u)
 (hd:DenC [] cs vs) (hr:Reads w w.heap.size 1 (some ⟨g0,o0,none⟩) l vs) (hl:0<l) (hg:GlobOk X w):Calls X.P g #[.slice (some ⟨g0,o0,none⟩) l c] w fun e w'=>e=.returned u∧Below w.heap.size w w':=by
 obtain ⟨y,st,hc,hv⟩:=callR_ok h
 exact (rd_mem hmx hH hc hd hr hl hg).mono fun e w' ⟨r,v,he,hdv,hb⟩=>⟨by rw [he,valR_eq hv hdv],hb⟩
abbrev Leaf:=List SV→Tr→Nat→Option (SV×St)
def LeafOk(X:Ctx)(g:FuncId)(L:Leaf):Prop:=∀args hp nx res st,L args hp nx=some (res,st)→∀(E:Env) (r:List Loc) (vals:List Value) (w:World),E.X=X→DenL r args vals→Mem E r hp nx w →
 (∀w',(callFunc g vals.toArray).run X.P w'=.ok (.enter g vals.toArray) w')∧Calls X.P g vals.toArray w fun e w'=>∃q v,e=.returned v∧Den (r++q) res v∧Mem E (r++q) st.hp st.nx w'
noncomputable def leafV(f:List SV→Option SV):Leaf:=fun args hp nx=>match f args with
 |some y=>some (y,⟨⟨.e,0⟩,hp,nx⟩)
 |none=>none
theorem leafV_ok{X:Ctx}{g:FuncId}{f:List SV→Option SV}(he:Enters X.P g)
 (h:∀args y,f args=some y→∀r vals w,DenL r args vals→GlobOk X w→Calls X.P g vals.toArray w fun e w'=>∃u,e=.returned u∧Den r y u∧Below w.heap.size w w'):LeafOk X g (leafV f):=by
 intro args hp nx res st hl E r vals w hE ha hm
 subst hE
 unfold leafV at hl
 split at hl
 ·rename_i y hy
  cases hl
  exact ⟨fun w'=>he _ w',(h args _ hy r vals w ha hm.globs).mono fun e w' ⟨u,h1,h2,h3⟩=>⟨[],u,h1,by simpa using h2,by simpa using hm.grow h3⟩⟩
 ·cases hl
noncomputable def leafS(f:List SV→Option (TypeId×Rp SV×Nat×Nat×Option (List SV))):Leaf:=fun args hp nx=>match f args with
 |some (T,cs,l,c,none)=>some (.s nx 0 l c,⟨⟨.e,0⟩,hp.put nx ⟨T,cs,0⟩,nx+1⟩)
 |some (T,cs,l,c,some zs)=>some (.t (.s nx 0 l c::zs),⟨⟨.e,0⟩,hp.put nx ⟨T,cs,0⟩,nx+1⟩)
 |none=>none
theorem leafS_ok{X:Ctx}{g:FuncId}{f:List SV→Option (TypeId×Rp SV×Nat×Nat×Option (List SV))}(he:Enters X.P g)
 (h:∀args T cs l c zs,f args=some (T,cs,l,c,zs)→∀r vals w,DenL r args vals→GlobOk X w→∃us uz,DenC r cs us∧(match zs with|none=>uz=none|some zs=>∃ys,uz=some ys∧DenL r zs ys)∧Calls X.P g vals.toArray w fun e w'=>∃p,e=.returned (sliR (.slice (some ⟨p,0,none⟩) l c) uz)∧NewS w w' T us p):LeafOk X g (leafS f):=by
 intro args hp nx res st hl E r vals w hE ha hm
 subst hE
 have key:∀T cs us p w',NewS w w' T us p→DenC r cs us→Mem E (r++[⟨p,0,0,none,fun _=>False⟩]) (hp.put nx ⟨T,cs,0⟩) (nx+1) w':=fun T cs us p w' ⟨h1,h2,h3⟩ hd =>
  hm.add1 h3 ⟨p,0,0,none,fun _=>False⟩ ⟨T,cs,0⟩ h1 ⟨us,hd.mono _,.inl ⟨rfl,Nat.le_trans hm.below.size h1,rfl,h2⟩⟩ (.inl (by show 0<2;decide))
 have nm:∀p,(r++[(⟨p,0,0,none,fun _=>False⟩:Loc)])[nx]?=some ⟨p,0,0,none,fun _=>False⟩:=fun p=>by rw [←hm.len];simp
 unfold leafS at hl
 split at hl
 ·rename_i T cs l c hf
  cases hl
  obtain ⟨us,uz,hd,rfl,hc⟩:=h _ _ _ _ _ _ hf r vals w ha hm.globs
  refine ⟨fun w'=>he _ w',hc.mono fun e w' ⟨p,h1,h2⟩=>⟨[⟨p,0,0,none,fun _=>False⟩],_,h1,?_,key _ _ _ _ _ h2 hd⟩⟩
  exact Den.s (o:=0) (nm p)
 ·rename_i T cs l c zs hf
  cases hl
  obtain ⟨us,uz,hd,⟨ys,rfl,hz⟩,hc⟩:=h _ _ _ _ _ _ hf r vals w ha hm.globs
  refine ⟨fun w'=>he _ w',hc.mono fun e w' ⟨p,h1,h2⟩=>⟨[⟨p,0,0,none,fun _=>False⟩],_,h1,?_,key _ _ _ _ _ h2 hd⟩⟩
  exact .t (.cons (Den.s (o:=0) (nm p)) (hz.mono _))
 ·cases hl
noncomputable def leafR(f:Nat→Nat→Rp SV→Option SV):Leaf:=fun args hp nx=>match args with
 |[.s n o l c]=>(match sliceCells hp 1 (.s n o l c) with
  |some (_,cs)=>(match f l c cs with
   |some y=>some (y,⟨⟨.e,0⟩,hp,nx⟩)
   |none=>none)
  |none=>none)
 |_=>none
theorem leafR_ok{X:Ctx}{g:FuncId}{f:Nat→Nat→Rp SV→Option SV}(he:Enters X.P g)
 (h:∀l c cs y,f l c cs=some y→∀r vs g0 o0 w,DenC r cs vs→Reads w w.heap.size 1 (some ⟨g0,o0,none⟩) l vs→GlobOk X w→Calls X.P g #[.slice (some ⟨g0,o0,none⟩) l c] w fun e w'=>∃u,e=.returned u∧Den r y u∧Below w.heap.size w w'):LeafOk X g (leafR f):=by
 intro args hp nx res st hl E r vals w hE ha hm
 subst hE
 unfold leafR at hl
 split at hl
 ·rename_i n o l c
  split at hl
  ·rename_i m cs hsc
   split at hl
   ·rename_i y hy
    cases hl
    cases ha with|cons d t=>cases t;cases d with|s hL =>
     rename_i L
     obtain ⟨A,c',zs,e1,hd,_,hr⟩:=sliceCells_ok hm (Den.s hL) hsc
     cases e1
     exact ⟨fun w'=>he _ w',(h _ _ _ _ hy r zs _ _ w hd hr hm.globs).mono fun e w' ⟨u,h1,h2,h3⟩=>⟨[],u,h1,by simpa using h2,by simpa using hm.grow h3⟩⟩
   ·cases hl
  ·cases hl
 ·cases hl
noncomputable def leafTab:List (FuncId×Leaf)→FuncId→Option Leaf
 |[],_=>none
 |(k,L)::t,g=>Bool.rec (leafTab t g) (some L) (Nat.beq k g)
theorem leafTab_ok{X:Ctx}:∀{t:List (FuncId×Leaf)},(∀p∈t,LeafOk X p.1 p.2)→∀g L,leafTab t g=some L→LeafOk X g L
 |[],_,g,L,h=>by cases h
 |(k,M)::t,ht,g,L,h=>by
  have h':(Bool.rec (leafTab t g) (some M) (Nat.beq k g):Option Leaf)=some L:=h
  rw [beq_iff] at h'
  by_cases hk:k=g
  ·subst hk
   simp only [decide_true,Option.some.injEq] at h'
   subst h'
   exact ht (k,M) (by simp)
  ·simp only [hk,decide_false] at h'
   exact leafTab_ok (fun p hp=>ht p (by simp [hp])) g L h'
theorem hkT_ok{X:Ctx}{t:List (FuncId×Leaf)}{n:Nat}(hmx:X.P.follows .mixedOrders=true)(h:∀p∈t,LeafOk X p.1 p.2)(d:Nat):HkOk X (hkD X (leafTab t) n d) :=
 hkD_ok hmx (fun g L hl=>leafTab_ok h g L hl) d
end Go.Proofs.YtjboelhcieepkaaGreatDoor
namespace Go.Proofs.YtjboelhcieepkaaGreatDoor
set_option maxRecDepth 16384
open Go.RowKit
def vV:Option VCnt→List Value
 |some b=>[.bool true,.string (bst b.l)]
 |none=>[.bool false,.string .empty]
def refAt(N:Nat)(w:World)(g:Nat)(cv:Nat→Prop)(l:List (Option VCnt)):Prop :=
 ∀(k:Nat) (x:Option VCnt),l[k]?=some x→∃b m c vs,w.cell? ⟨g,k,none⟩=some (.slice (some ⟨b,0,none⟩) (m+1) c)∧m≤N∧m+1≤c∧cv b∧vs.length=2*m∧(∀v∈vs,v.oneCell'=true) ∧
  ∀j v,(vs++vV x)[j]?=some v→w.cell? ⟨b,j,none⟩=some v
def verAt(w:World)(cv:Nat→Prop)(q:Nat)(b:VCnt):Prop :=
 ∃a c num nxt,cv a∧b.n≤c∧w.cell? ⟨q,0,none⟩=some (.bool true)∧w.cell? ⟨q,1,none⟩=some (.slice (some ⟨a,0,none⟩) b.n c)∧w.cell? ⟨q,2,none⟩=some (.int .i64 num)∧w.cell? ⟨q,3,none⟩=some (.pointer nxt) ∧
  ∀j v,(nv .u8 b.l)[j]?=some v→w.cell? ⟨a,j,none⟩=some v
def diskAt(w:World)(g:Nat)(cv:Nat→Prop)(l:List (Option VCnt)):Prop :=
 ∃p,w.cell? ⟨g,0,none⟩=some (.pointer (some ⟨p,0,none⟩))∧cv p∧∃ps:List (Option Nat),ps.length=64∧(∀(k:Nat) (y:Option Nat),ps[k]?=some y→w.cell? ⟨p,k,none⟩=some (.pointer (y.map fun q=>(⟨q,0,none⟩:Addr)))) ∧
  ∀(k:Nat) (x:Option VCnt),l[k]?=some x→match ps[k]? with
   |some (some q)=>cv q∧∃b,x=some b∧verAt w cv q b
   |_=>x=none
def ghT(t N:Nat)(w:World)(g:Nat)(cv:Nat→Prop)(l:List (Option VCnt)):Prop:=match t with
 |0=>refAt N w g cv l
 |1=>diskAt w g cv l
 |m+2=>refAt N w g cv l∧l.length=m
theorem refAt_s(N:Nat)(w w':World)(g:Nat)(cv:Nat→Prop)(l:List (Option VCnt))(h:refAt N w g cv l)(hg:w'.heap[g]?=w.heap[g]?)(hc:∀k,cv k→w'.heap[k]?=w.heap[k]?):refAt N w' g cv l:=by
 have cell:∀{b:Nat} (_:w'.heap[b]?=w.heap[b]?) (o:Nat),w'.cell? ⟨b,o,none⟩=w.cell? ⟨b,o,none⟩:=fun hb o=>World.cell?_of_block (w:=w) hb
 intro k x hx
 obtain ⟨b,m,c,vs,h1,h0,h2,h3,h4,h5,h6⟩:=h k x hx
 exact ⟨b,m,c,vs,(cell hg _).trans h1,h0,h2,h3,h4,h5,fun j v hv=>(cell (hc b h3) _).trans (h6 j v hv)⟩
theorem refAt_m(N N':Nat)(w:World)(g:Nat)(cv:Nat→Prop)(l:List (Option VCnt))(hN:N≤N')(h:refAt N w g cv l):refAt N' w g cv l:=by
 intro k x hx
 obtain ⟨b,m,c,vs,h1,h0,h2⟩:=h k x hx
 exact ⟨b,m,c,vs,h1,Nat.le_trans h0 hN,h2⟩
theorem ghT_s(t N:Nat)(w w':World)(g:Nat)(cv:Nat→Prop)(l:List (Option VCnt))(h:ghT t N w g cv l)(hg:w'.heap[g]?=w.heap[g]?)(hc:∀k,cv k→w'.heap[k]?=w.heap[k]?):ghT t N w' g cv l:=by
 have cell:∀{b:Nat} (_:w'.heap[b]?=w.heap[b]?) (o:Nat),w'.cell? ⟨b,o,none⟩=w.cell? ⟨b,o,none⟩:=fun hb o=>World.cell?_of_block (w:=w) hb
 match t,h with
 |0,h=>exact refAt_s N w w' g cv l h hg hc
 |1,h =>
  obtain ⟨p,h1,h2,ps,h3,h4,h5⟩:=h
  refine ⟨p,(cell hg _).trans h1,h2,ps,h3,fun k y hy=>(cell (hc p h2) _).trans (h4 k y hy),fun k x hx=>?_⟩
  have:=h5 k x hx
  split at this
  ·obtain ⟨hq,b,hb,a,c,num,nxt,g1,g2,g3,g4,g5,g6,g7⟩:=this
   exact ⟨hq,b,hb,a,c,num,nxt,g1,g2,(cell (hc _ hq) _).trans g3,(cell (hc _ hq) _).trans g4,(cell (hc _ hq) _).trans g5,(cell (hc _ hq) _).trans g6,fun j v hv=>(cell (hc a g1) _).trans (g7 j v hv)⟩
  ·exact this
 |m+2,h=>exact ⟨refAt_s N w w' g cv l h.1 hg hc,h.2⟩
theorem ghT_m(t N N':Nat)(w:World)(g:Nat)(cv:Nat→Prop)(l:List (Option VCnt))(hN:N≤N')(h:ghT t N w g cv l):ghT t N' w g cv l:=by
 match t,h with
 |0,h=>exact refAt_m N N' w g cv l hN h
 |1,h=>exact h
 |m+2,h=>exact ⟨refAt_m N N' w g cv l hN h.1,h.2⟩
end Go.Proofs.YtjboelhcieepkaaGreatDoor
namespace Go.Proofs.YtjboelhcieepkaaGreatDoor
set_option maxRecDepth 16384
def noV(s c:Nat):Array Value:=#[.int .u32 (s:Int),.int .u64 (c:Int)]
theorem noV_info(s c:Nat):(Tryz.prog.info? 59).map (·.size)=some (noV s c).size:=by
 show _=some 2
 kernel_rfl
end Go.Proofs.YtjboelhcieepkaaGreatDoor
namespace Go.Proofs.YtjboelhcieepkaaGreatDoor
set_option maxRecDepth 16384
open Go.RowKit Sh
theorem copy_reads{w:World}(dT sT ty:TypeId)(hu:Tryz.prog.underlying dT=some (.slice 5))(g o dLen dCap:Nat)(T:TypeId)(cur:List Nat)(hg:Blk w g T (va .u8 cur))(A:Option Addr)(n c B:Nat)(m:List Nat)(hr:Reads w B 1 A n (nv .u8 m))
 (hd:n≤dLen) (hfit:o+n≤cur.length) :
 ∃w',(Builtin.copy_ #[dT,sT] ty #[.slice (some ⟨g,o,none⟩) dLen dCap,.slice A n c]).run Tryz.prog w=.ok (.int .i64 (n:Int)) w'∧Blk w' g T (va .u8 (cur.take o++(m++cur.drop (o+n))))∧Below g w w':=by
 have hl:=hr.len
 have hsz:(Tryz.prog.info? 5).map (·.size)=some 1:=by kernel_rfl
 rcases A with _|ad
 ·have hn:n=0:=by
   rcases Nat.eq_zero_or_pos n with h0|h0
   ·exact h0
   ·obtain ⟨ad,h,_⟩:=hr.2 h0
    cases h
  subst hn
  obtain rfl:=List.eq_nil_of_length_eq_zero hl
  refine ⟨w,?_,?_,Below.refl _ _⟩
  ·cases hq:Tryz.prog.info? 5 with
   |none=>simp [hq] at hsz
   |some i =>
    have hi:i.size=1:=by simpa [hq] using hsz
    simp [Builtin.copy_,run_underlying hu,Builtin.lenOf,Builtin.firstCells,sizeOf,typeInfo,hq,storeCells,goInt]
  ·have e:cur.take o++([]++cur.drop (o+0))=cur:=by simp
   rw [e];exact hg
 ·have hcp:=run_copy_row (P:=Tryz.prog) w dT sT ty 5 g o dLen dCap ad n c (va .u8 cur) T (nv .u8 m) hu hsz hg
   (by rw [nv_len,hl];exact (Nat.min_eq_left hd).symm)
   (fun j v hv=>by
    rcases Nat.eq_zero_or_pos n with h0|h0
    ·rw [List.eq_nil_of_length_eq_zero (hl.trans h0)] at hv;simp [nv] at hv
    ·obtain ⟨ad',h,_,hc⟩:=hr.2 h0
     injection h with h
     subst h
     exact hc j v hv)
   (by rw [nv_len,va_size,hl];exact hfit) (nv_one _ _)
  rw [va_splice,nv_len,hl] at hcp
  exact ⟨_,hcp,hg.row _,below_setRow (Below.refl _ _) (Nat.le_refl _) _⟩
theorem Blk.own{w:World}{g n base:Nat}{t:TypeId}{k:IntKind}{l:List Nat}(h:Blk w g t (va k l))(hn:l.length=n)(hb:base≤g)(hm:n≤maxLen):w.ownsRow base t 1 (.slice (some ⟨g,0,none⟩) n n) n (nv k l):=by
 subst hn
 exact ⟨by rw [nv_len];omega,.inr ⟨g,l.length,va k l,rfl,hb,h,Nat.le_refl _,hm,by rw [va_size];omega,by
  rw [Nat.mul_one,List.take_of_length_le (by simp [va,nv])];simp [va]⟩⟩
end Go.Proofs.YtjboelhcieepkaaGreatDoor
namespace Go.Proofs.YtjboelhcieepkaaGreatDoor
set_option maxRecDepth 16384
open Go.RowKit Sh
def joinl(ms:List (List Nat))(k:Nat):List Nat:=(ms.take k).flatten++List.replicate (ms.flatten.length-(ms.take k).flatten.length) 0
theorem joinl_zero(ms:List (List Nat)):joinl ms 0=List.replicate ms.flatten.length 0:=by simp [joinl]
theorem joinl_all(ms:List (List Nat))(k:Nat)(hk:k=ms.length):joinl ms k=ms.flatten:=by
 subst hk;simp [joinl]
theorem joinl_len(ms:List (List Nat))(k:Nat):(joinl ms k).length=ms.flatten.length:=by
 have:=flat_take_len ms k
 simp only [joinl,List.length_append,List.length_replicate];omega
theorem flat_step_len(ms:List (List Nat))(k:Nat)(hk:k<ms.length):(ms.take k).flatten.length+(ms.getD k []).length≤ms.flatten.length:=by
 have h:=flat_take_len ms (k+1)
 rw [flat_take_succ ms k hk,List.length_append] at h;exact h
theorem joinl_step(ms:List (List Nat))(k:Nat)(hk:k<ms.length):
 (joinl ms k).take (ms.take k).flatten.length++(ms.getD k []++(joinl ms k).drop ((ms.take k).flatten.length+(ms.getD k []).length))=joinl ms (k+1):=by
 have h1:=flat_step_len ms k hk
 have e:(ms.take (k+1)).flatten=(ms.take k).flatten++ms.getD k []:=flat_take_succ ms k hk
 unfold joinl
 rw [e]
 generalize ms.getD k []=p at *
 generalize (ms.take k).flatten=a at *
 generalize ms.flatten.length=N at *
 rw [List.take_left,List.drop_append,List.drop_eq_nil_of_le (by omega)]
 simp only [List.nil_append,List.drop_replicate,List.length_append,List.append_assoc]
 congr 3
 omega
set_option maxHeartbeats 1000000 in
theorem join_any(ms:List (List Nat))(n c B N:Nat)(A:Option Addr)(w:World)(hp:Parts w B A n ms)(hn:n<4611686018427387904)(hB:B≤w.heap.size)(hN:ms.flatten.length=N)(hlen:N<281474976710656):
 Calls Tryz.prog 85 #[.slice A n c] w fun e w'=>∃r,e=.returned r∧NewBytes w r ms.flatten w':=by
 have hpn:=hp.1
 have hp':=Lib.hid hp
 have hN':=Lib.hid hN
 have hmk:=make_bytes N (by omega)
 clear hp hN
 go_enter Tryz.func85,Tryz.ntmps85
 go_wp2
 go_loop [3,12] (fun s i=>∃k:Nat,k≤n∧i=.int .i64 (k:Int)∧s=.int .i64 ((ms.take k).flatten.length:Int)) (fun _ i=>n-(intOf i).toNat)
 case atStart=>exact ⟨0,by omega,rfl,by simp⟩
 case round =>
  obtain ⟨k,hk,rfl,rfl⟩:=hrel
  by_cases hlt:k<n
  ·have hlt':(k:Int)<(n:Int):=by omega
   obtain ⟨ad,Ai,ni,ci,rfl,hadB,hc0,hnc,hr0,hby⟩:=hp'.out.2 k hlt
   have hst:=flat_take_succ ms k (by omega)
   have hle:=flat_step_len ms k (by omega)
   have hl0:=hr0.len
   have hst':=Lib.hid hst
   have hN1:=hN'.out
   rw [hl0,hN1] at hle
   have hl0':=Lib.hid hl0
   clear hr0 hby hst hl0 hN1
   generalize hS:(ms.take k).flatten.length=S at *
   go_wp2
   go_round
   case rel=>exact ⟨k+1,by omega,by go_num,by rw [hst'.out,List.length_append,hS,hl0'.out];go_num⟩
   case measure=>simp [intOf];omega
  ·obtain rfl:n=k:=by omega
   have hall:(ms.take n).flatten.length=N:=by rw [List.take_of_length_le (by omega)];exact hN'.out
   rw [hall]
   have hblk0:Blk (w.alloc (.cells (va .u8 (List.replicate N 0)) 5)) w.heap.size 5 (va .u8 (joinl ms 0)):=by rw [joinl_zero,hN'.out];exact Blk.new _ _ _
   have hb0:=Lib.hid hblk0
   clear hall hblk0
   go_wp2
   have hblk:=hb0.out
   have hbel:Below w.heap.size w (w.alloc (.cells (va .u8 (List.replicate N 0)) 5)):=(Below.refl _ _).alloc (Nat.le_refl _) _
   generalize w.alloc (.cells (va .u8 (List.replicate N 0)) 5)=w1 at *
   clear hb0 hmk
   go_loopw [7,25] (fun s i wr=>∃k:Nat,k≤n∧i=.int .i64 (k:Int)∧s=.int .i64 ((ms.take k).flatten.length:Int)∧Blk wr w.heap.size 5 (va .u8 (joinl ms k))∧Below w.heap.size w wr) (fun _ i _=>n-(intOf i).toNat)
   case atStart=>exact ⟨0,by omega,rfl,by simp,hblk,hbel⟩
   case round =>
    clear hblk hbel
    obtain ⟨k,hk,rfl,rfl,hblk,hbel⟩:=hrel
    by_cases hlt:k<n
    ·have hlt':(k:Int)<(n:Int):=by omega
     obtain ⟨ad,Ai,ni,ci,rfl,hadB,hc0,hnc,hr0,hby⟩:=hp'.out.2 k hlt
     have hst:=flat_take_succ ms k (by omega)
     have hle:=flat_step_len ms k (by omega)
     have hl0:=hr0.len
     have hst':=Lib.hid hst
     have hN1:=hN'.out
     have hjs:=joinl_step ms k (by omega)
     have hjl:=joinl_len ms k
     rw [hl0] at hjs
     rw [hl0,hN1] at hle
     rw [hN1] at hjl
     have hl0':=Lib.hid hl0
     have hrw:=hr0.below (hbel.mono hB)
     have hcw:=(hbel.cell (p:=ad.add k) (by rw [block_of_add];omega)).trans hc0
     have hrw':=Lib.hid hrw
     have hjs':=Lib.hid hjs
     have hjl':=Lib.hid hjl
     have hb':=Lib.hid hblk
     have hbl':=Lib.hid hbel
     clear hr0 hby hst hl0 hN1 hrw hjs hjl hblk hbel hc0
     generalize hS:(ms.take k).flatten.length=S at *
     by_cases hSN:S<N
     ·have hSN':(S:Int)<(N:Int):=by omega
      go_wp2
      obtain ⟨w',hrun,hb1,hbel1⟩:=copy_reads 23 23 3 Tryz.underlying23 w.heap.size S (N-S) (N-S) 5 (joinl ms k) hb'.out Ai ni ci B _ hrw'.out (by omega) (by rw [hjl'.out];omega)
      rw [hrun]
      rw [hjs'.out] at hb1
      have hb2:=Lib.hid hb1
      have hbl2:=Lib.hid (hbl'.out.trans hbel1)
      clear hrun hb1 hbel1 hjs'
      go_wp2
      go_roundw
      case rel=>exact ⟨k+1,by omega,by go_num,by rw [hst'.out,List.length_append,hS,hl0'.out];go_num,hb2.out,hbl2.out⟩
      case measure=>simp [intOf];omega
     ·obtain rfl:S=N:=by omega
      obtain rfl:ni=0:=by omega
      go_wp2
      obtain ⟨w',hrun,hb1,hbel1⟩:=copy_reads 23 23 3 Tryz.underlying23 w.heap.size 0 0 0 5 (joinl ms k) hb'.out Ai 0 ci B _ hrw'.out (by omega) (by omega)
      rw [hrun]
      have hm0:ms.getD k []=[]:=List.eq_nil_of_length_eq_zero hl0'.out
      have e1:=hjs'.out
      rw [hm0,List.take_of_length_le (by rw [hjl'.out];exact Nat.le_refl _),List.drop_eq_nil_of_le (by rw [hjl'.out];omega)] at e1
      simp only [List.append_nil] at e1
      rw [hm0] at hb1
      simp only [List.take_zero,List.nil_append,List.drop_zero,Nat.add_zero] at hb1
      rw [e1] at hb1
      have hb2:=Lib.hid hb1
      have hbl2:=Lib.hid (hbl'.out.trans hbel1)
      clear hrun hb1 hbel1 hjs' e1 hm0
      go_wp2
      go_roundw
      case rel=>exact ⟨k+1,by omega,by go_num,by rw [hst'.out,List.length_append,hS,hl0'.out];go_num,hb2.out,hbl2.out⟩
      case measure=>simp [intOf];omega
    ·obtain rfl:n=k:=by omega
     go_wp2
     go_ret
     rw [joinl_all ms n hpn.symm] at hblk
     exact ⟨.slice (some ⟨w.heap.size,0,none⟩) N N,rfl,w.heap.size,by rw [hN'.out],hblk,Nat.le_refl _,hbel⟩
theorem join_to(ms:List (List Nat))(l:List Nat)(n c B N:Nat)(A:Option Addr)(w:World)(hp:Parts w B A n ms)(hl:ms.flatten=l)(hn:n<4611686018427387904)(hB:B≤w.heap.size)(hN:l.length=N)(hlen:N<281474976710656):
 Calls Tryz.prog 85 #[.slice A n c] w fun e w'=>∃g,e=.returned (.slice (some ⟨g,0,none⟩) N N)∧Blk w' g 5 (va .u8 l)∧w.heap.size≤g∧Below w.heap.size w w':=by
 subst hl hN
 refine (join_any ms n c B _ A w hp hn hB rfl hlen).mono ?_
 rintro e w' ⟨r,rfl,g,rfl,h1,h2,h3⟩
 exact ⟨g,rfl,h1,h2,h3⟩
theorem put32_to(v:Nat)(l:List Nat)(hl:beB v 4=l)(hv:v<4294967296)(w:World):
 Calls Tryz.prog 14 #[.int .u32 (v:Int)] w fun e w'=>∃g,e=.returned (.slice (some ⟨g,0,none⟩) 4 4)∧Blk w' g 5 (va .u8 l)∧w.heap.size≤g∧Below w.heap.size w w':=by
 subst hl
 refine (put32_any v hv w).mono ?_
 rintro e w' ⟨r,rfl,g,rfl,h1,h2,h3⟩
 exact ⟨g,by rw [beB_len],h1,h2,h3⟩
theorem put64_to(v:Nat)(l:List Nat)(hl:beB v 8=l)(w:World):
 Calls Tryz.prog 63 #[.int .u64 (v:Int)] w fun e w'=>∃g,e=.returned (.slice (some ⟨g,0,none⟩) 8 8)∧Blk w' g 5 (va .u8 l)∧w.heap.size≤g∧Below w.heap.size w w':=by
 subst hl
 refine (put64_any v w).mono ?_
 rintro e w' ⟨r,rfl,g,rfl,h1,h2,h3⟩
 exact ⟨g,by rw [beB_len],h1,h2,h3⟩
end Go.Proofs.YtjboelhcieepkaaGreatDoor
namespace Go.Proofs.YtjboelhcieepkaaGreatDoor
set_option maxRecDepth 16384
open Go.RowKit Sh
theorem div_step(v k:Nat):v / 2 ^ (8*k) / 256=v / 2 ^ (8*(k+1)):=by
 rw [Nat.div_div_eq_div_mul,show 8*(k+1)=8*k+8 from by omega,Nat.pow_add]
set_option maxHeartbeats 400000 in
theorem rput_any(v n:Nat)(hv:v<18446744073709551616)(h1:1≤n)(hn:n≤8)(w:World):
 Calls Tryz.prog 235 #[.int .u64 (v:Int),.int .i64 (n:Int)] w fun e w'=>∃r,e=.returned r∧NewBytes w r (beB v n) w':=by
 have hmk:=make_bytes n (by omega)
 have hm:Blk (w.alloc (.cells (va .u8 (List.replicate n 0)) 5)) w.heap.size 5 (va .u8 (putl v n 0)):=by rw [putl_zero];exact Blk.new _ _ _
 have hm':=Lib.hid hm
 clear hm
 have hn':(n:Int)≤8:=by omega
 have h1':1≤(n:Int):=by omega
 go_enter Tryz.func235,Tryz.ntmps235
 go_wp2
 have hm:=hm'.out
 have hb0:Below w.heap.size w (w.alloc (.cells (va .u8 (List.replicate n 0)) 5)):=(Below.refl _ _).alloc (Nat.le_refl _) _
 generalize w.alloc (.cells (va .u8 (List.replicate n 0)) 5)=w1 at *
 clear hm' hmk
 go_loopw [0,6] (fun x s wr=>∃k:Nat,k≤n∧x=.int .u64 ((v / 2 ^ (8*k):Nat):Int)∧s=.int .i64 ((n:Int)-1-(k:Int))∧Blk wr w.heap.size 5 (va .u8 (putl v n k))∧Below w.heap.size w wr) (fun _ s _=>(intOf s+1).toNat)
 case atStart=>exact ⟨0,by omega,by simp,by simp,hm,hb0⟩
 case round =>
  obtain ⟨k,hk,rfl,rfl,hblk,hb⟩:=hrel
  clear hm hb0
  by_cases hlt:k<n
  ·have hge:0≤(n:Int)-1-(k:Int):=by omega
   have hc:=hblk.num (i:=n-1-k) (by rw [putl_len];omega)
   have hf:=hblk.frozen (n-1-k)
   have hidx:((n:Int)-1-(k:Int)).toNat=n-1-k:=by omega
   have hset:=hblk.setNum (n-1-k) (v / 2 ^ (8*k)%256)
   rw [putl_step v n k hlt] at hset
   have hset':=Lib.hid hset
   have hst:=Lib.hid (div_step v k)
   have hvk:v / 2 ^ (8*k)<18446744073709551616:=Nat.lt_of_le_of_lt (Nat.div_le_self _ _) hv
   have hltn:(n:Int)-1-(k:Int)<(n:Int):=by omega
   clear hset
   generalize (putl v n k).getD (n-1-k) 0=u at *
   generalize hx:v / 2 ^ (8*k)=x at *
   go_wp2
   go_roundw
   case rel =>
    have e:(x:Int)%256=((x%256:Nat):Int):=by omega
    refine ⟨k+1,by omega,?_,by go_num,by rw [e];exact hset'.out,hb.setCell (Nat.le_refl _) _⟩
    rw [←hst.out];simp
   case measure=>simp [intOf];omega
  ·obtain rfl:n=k:=by omega
   go_wp2
   go_ret
   refine ⟨.slice (some ⟨w.heap.size,0,none⟩) n n,rfl,w.heap.size,?_,?_,Nat.le_refl _,hb⟩
   ·rw [beB_len]
   ·rw [←putl_all];exact hblk
set_option maxHeartbeats 400000 in
theorem rput32_any(v:Nat)(hv:v<4294967296)(w:World):
 Calls Tryz.prog 178 #[.int .u32 (v:Int)] w fun e w'=>∃r,e=.returned r∧NewBytes w r (beB v 4) w':=by
 go_enter Tryz.func178,Tryz.ntmps178
 go_wp2_with fail
 refine (rput_any v 4 (by omega) (by omega) (by omega) _).mono ?_
 rintro e w1 ⟨r,rfl,hr⟩
 go_wp2
 go_ret
 exact ⟨r,rfl,hr⟩
set_option maxHeartbeats 400000 in
theorem rput64_any(v:Nat)(hv:v<18446744073709551616)(w:World):
 Calls Tryz.prog 231 #[.int .u64 (v:Int)] w fun e w'=>∃r,e=.returned r∧NewBytes w r (beB v 8) w':=by
 go_enter Tryz.func231,Tryz.ntmps231
 go_wp2_with fail
 refine (rput_any v 8 hv (by omega) (by omega) _).mono ?_
 rintro e w1 ⟨r,rfl,hr⟩
 go_wp2
 go_ret
 exact ⟨r,rfl,hr⟩
set_option maxHeartbeats 400000 in
theorem rget_any(A:Option Addr)(n c B:Nat)(l:List Nat)(z:Int)(hz:z=(n:Int))(hn:n≤8)(hl:Byt l)(w:World)(hr:Reads w B 1 A n (nv .u8 l)):
 Calls Tryz.prog 274 #[.slice A n c,.int .i64 (z:Int)] w fun e w'=>e=.returned (.tuple #[.int .u64 (beV l:Nat),.int .i64 0])∧w=w':=by
 subst hz
 have hlen:=hr.len
 go_enter Tryz.func274,Tryz.ntmps274
 go_wp2
 go_loop [6,7] (fun v s=>∃k:Nat,k≤n∧s=.int .i64 (k:Int)∧v=.int .u64 (beV (l.take k):Nat)) (fun _ s=>n-(intOf s).toNat)
 case atStart=>exact ⟨0,by omega,rfl,rfl⟩
 case round =>
  obtain ⟨k,hk,rfl,rfl⟩:=hrel
  have hb:=beV_lt (l.take k) (hl.take k)
  by_cases hlt:k<n
  ·have hlt':(k:Int)<(n:Int):=by omega
   obtain ⟨ad,rfl,hbl,hc⟩:=hr.num hlt
   have hx:=hl.get k
   have hstep:=take_succ_getD l k (by omega)
   generalize hxk:l.getD k 0=x at *
   have hval:beV (l.take (k+1))=beV (l.take k)*256+x:=by rw [hstep,beV_snoc]
   have hval':=Lib.hid hval
   have hb2:beV (l.take k)<72057594037927936:=by
    refine Nat.lt_of_lt_of_le hb (Nat.pow_le_pow_right (n:=2) (j:=56) (by omega) ?_)
    have:=List.length_take_le k l;omega
   clear hval hstep hxk hb
   go_wp2
   go_round
   case rel=>exact ⟨k+1,by omega,by go_num,by rw [hval'.out];go_num⟩
   case measure=>simp [intOf];omega
  ·obtain rfl:n=k:=by omega
   go_wp2
   go_ret2
   exact ⟨by rw [List.take_of_length_le (by omega)];rfl,rfl⟩
end Go.Proofs.YtjboelhcieepkaaGreatDoor
namespace Go.Proofs.YtjboelhcieepkaaGreatDoor
set_option maxRecDepth 16384
open Go.RowKit Sh
theorem parts_two5{w:World}{g B c1 c2 n1 n2:Nat}{t:TypeId}{A1 A2:Option Addr}{a b:List Nat}(hg:Blk w g t #[.slice A1 n1 c1,.slice A2 n2 c2])(hgB:g<B)(h1:Reads w B 1 A1 n1 (nv .u8 a))(h2:Reads w B 1 A2 n2 (nv .u8 b))(hc1:n1≤c1)(hc2:n2≤c2)(ha:Byt a)(hb:Byt b):
 Parts w B (some ⟨g,0,none⟩) 2 [a,b]:=by
 refine ⟨rfl,fun j hj=>?_⟩
 rcases Nat.lt_or_ge j 1 with h0|h0
 ·obtain rfl:j=0:=by omega
  exact ⟨_,A1,n1,c1,rfl,hgB,by rw [add_none];exact hg.cell 0,hc1,h1,ha⟩
 ·obtain rfl:j=1:=by omega
  exact ⟨_,A2,n2,c2,rfl,hgB,by rw [add_none];exact hg.cell 1,hc2,h2,hb⟩
set_option maxHeartbeats 1000000 in
theorem nput_any(s c:Nat)(hs:s<4294967296)(w:World):
 Calls Tryz.prog 22 #[.agg (noV s c)] w fun e w'=>∃g,e=.returned (.slice (some ⟨g,0,none⟩) 12 12)∧Blk w' g 5 (va .u8 (beB s 4++beB c 8))∧w.heap.size≤g∧Below w.heap.size w w':=by
 unfold noV
 have hB0:Below w.heap.size w (w.alloc (.cells #[.int .u32 (s:Int),.int .u64 (c:Int)] 59)).drew:=below_drewN ((Below.refl _ _).alloc (Nat.le_refl _) _) 1
 have hX0:Blk (w.alloc (.cells #[.int .u32 (s:Int),.int .u64 (c:Int)] 59)).drew w.heap.size 59 #[.int .u32 (s:Int),.int .u64 (c:Int)]:=(Blk.newAt rfl).drew
 obtain ⟨a,ha⟩:∃a,beB s 4=a:=⟨_,rfl⟩
 obtain ⟨b,hb⟩:∃b,beB c 8=b:=⟨_,rfl⟩
 have hal:a.length=4:=by rw [←ha,beB_len]
 have hbl:b.length=8:=by rw [←hb,beB_len]
 have hab:Byt a:=ha▸beB_byt s 4
 have hbb:Byt b:=hb▸beB_byt c 8
 rw [ha,hb]
 have ha':=Lib.hid ha
 have hb':=Lib.hid hb
 have hB:=Lib.hid hB0
 have hX:=Lib.hid hX0
 clear hB0 hX0 ha hb
 go_enter Tryz.func22,Tryz.ntmps22
 go_wp2
 go_region_with (first
  |(go_at_call 14
    refine (put32_to s a ha'.out hs _).mono ?_
    rintro e wq ⟨g1,rfl,hb1,hg1,b1⟩
    have hg1:=Lib.hid (Nat.le_trans hB.out.size hg1)
    replace hB:=Lib.hid (hB.out.trans (b1.mono hB.out.size))
    replace hX:=Lib.hid (hX.out.below b1 hX.out.lt)
    have x0:=hX.out.cell 0
    have x1:=hX.out.cell 1
    simp only [List.getElem?_toArray,List.getElem?_cons_zero,List.getElem?_cons_succ] at x0 x1
    try (replace hb2:=hb2.below b1 hb2.lt)
    clear b1)
  |(go_at_call 63
    refine (put64_to c b hb'.out _).mono ?_
    rintro e wq ⟨g2,rfl,hb2,hg2,b2⟩
    have hg2:=Lib.hid (Nat.le_trans hB.out.size hg2)
    replace hB:=Lib.hid (hB.out.trans (b2.mono hB.out.size))
    replace hX:=Lib.hid (hX.out.below b2 hX.out.lt)
    have x0:=hX.out.cell 0
    have x1:=hX.out.cell 1
    simp only [List.getElem?_toArray,List.getElem?_cons_zero,List.getElem?_cons_succ] at x0 x1
    try (replace hb1:=hb1.below b2 hb1.lt)
    clear b2)
  |(go_at_call 85
    refine (join_to [a,b] (a++b) 2 2 (wq.heap.size+1) 12 _ _ ?hp ?hf ?hn ?hB ?hN ?hl).mono ?_
    case hp=>exact parts_two5 (Blk.newAt rfl) (by omega) ((hb1.alloc _).readsAll (by have:=hb1.lt;omega) hal) ((hb2.alloc _).readsAll (by have:=hb2.lt;omega) hbl) (Nat.le_refl _) (Nat.le_refl _) hab hbb
    case hf=>simp
    case hn=>omega
    case hB=>simp
    case hN=>simp [hal,hbl]
    case hl=>omega
    rintro e w5 ⟨g5,rfl,hb5,hg5,b5⟩
    have hz:=hB.out.size
    have hB5:=Lib.hid ((hB.out.alloc hz _).trans (b5.mono (by simp;omega)))
    have hg5:w.heap.size≤g5:=by simp at hg5;omega
    clear b5 hz))
 all_goals
  go_wp2
  go_ret
  exact ⟨g5,rfl,hb5,hg5,hB5.out⟩
theorem rput32_to5(v:Nat)(l:List Nat)(hl:beB v 4=l)(hv:v<4294967296)(w:World):
 Calls Tryz.prog 178 #[.int .u32 (v:Int)] w fun e w'=>∃g,e=.returned (.slice (some ⟨g,0,none⟩) 4 4)∧Blk w' g 5 (va .u8 l)∧w.heap.size≤g∧Below w.heap.size w w':=by
 subst hl
 refine (rput32_any v hv w).mono ?_
 rintro e w' ⟨r,rfl,g,rfl,h1,h2,h3⟩
 exact ⟨g,by rw [beB_len],h1,h2,h3⟩
theorem rput64_to5(v:Nat)(l:List Nat)(hl:beB v 8=l)(hv:v<18446744073709551616)(w:World):
 Calls Tryz.prog 231 #[.int .u64 (v:Int)] w fun e w'=>∃g,e=.returned (.slice (some ⟨g,0,none⟩) 8 8)∧Blk w' g 5 (va .u8 l)∧w.heap.size≤g∧Below w.heap.size w w':=by
 subst hl
 refine (rput64_any v hv w).mono ?_
 rintro e w' ⟨r,rfl,g,rfl,h1,h2,h3⟩
 exact ⟨g,by rw [beB_len],h1,h2,h3⟩
set_option maxHeartbeats 1000000 in
theorem rnput_any(s c:Nat)(hs:s<4294967296)(hc:c<18446744073709551616)(w:World):
 Calls Tryz.prog 179 #[.agg (noV s c)] w fun e w'=>∃v,e=.returned v∧w'.ownsRow w.heap.size 5 1 v 12 (nv .u8 (beB s 4++beB c 8))∧Below w.heap.size w w':=by
 unfold noV
 have hB0:Below w.heap.size w (w.alloc (.cells #[.int .u32 (s:Int),.int .u64 (c:Int)] 59)).drew:=below_drewN ((Below.refl _ _).alloc (Nat.le_refl _) _) 1
 have hX0:Blk (w.alloc (.cells #[.int .u32 (s:Int),.int .u64 (c:Int)] 59)).drew w.heap.size 59 #[.int .u32 (s:Int),.int .u64 (c:Int)]:=(Blk.newAt rfl).drew
 obtain ⟨a,ha⟩:∃a,beB s 4=a:=⟨_,rfl⟩
 obtain ⟨b,hb⟩:∃b,beB c 8=b:=⟨_,rfl⟩
 have hal:a.length=4:=by rw [←ha,beB_len]
 have hbl:b.length=8:=by rw [←hb,beB_len]
 have hab:Byt a:=ha▸beB_byt s 4
 have hbb:Byt b:=hb▸beB_byt c 8
 rw [ha,hb]
 have ha':=Lib.hid ha
 have hb':=Lib.hid hb
 have hB:=Lib.hid hB0
 have hX:=Lib.hid hX0
 clear hB0 hX0 ha hb
 obtain ⟨i0,hi0,hz0,hz1,hz2⟩:=info_parts byte_info
 go_enter Tryz.func179,Tryz.ntmps179
 go_wp2
 go_region_law (first
  |(go_simp;go_at_call 178
    refine (rput32_to5 s a ha'.out hs _).mono ?_
    rintro e wq ⟨g1,rfl,hb1,hg1,b1⟩
    have hg1:=Lib.hid (Nat.le_trans hB.out.size hg1)
    replace hB:=Lib.hid (hB.out.trans (b1.mono hB.out.size))
    replace hX:=Lib.hid (hX.out.below b1 hX.out.lt)
    have x0:=hX.out.cell 0
    have x1:=hX.out.cell 1
    simp only [List.getElem?_toArray,List.getElem?_cons_zero,List.getElem?_cons_succ] at x0 x1
    try (replace hb2:=hb2.below b1 hb2.lt)
    clear b1)
  |(go_simp;go_at_call 231
    refine (rput64_to5 c b hb'.out hc _).mono ?_
    rintro e wq ⟨g2,rfl,hb2,hg2,b2⟩
    have hg2:=Lib.hid (Nat.le_trans hB.out.size hg2)
    replace hB:=Lib.hid (hB.out.trans (b2.mono hB.out.size))
    replace hX:=Lib.hid (hX.out.below b2 hX.out.lt)
    have x0:=hX.out.cell 0
    have x1:=hX.out.cell 1
    simp only [List.getElem?_toArray,List.getElem?_cons_zero,List.getElem?_cons_succ] at x0 x1
    try (replace hb1:=hb1.below b2 hb1.lt)
    clear b2)
  |(refine step_append_any _ rfl (.tmp 5) (.tmp 8) 23 rfl w.heap.size 5 i0 (.int .u8 0) 1 1 Tryz.underlying23 hi0 hz0 hz1 hz2 rfl (by omega) (.slice (some ⟨g1,0,none⟩) 4 4) 4 (nv .u8 a) rfl ?q1 (wq.heap.size) (some ⟨g2,0,none⟩) 8 8 (nv .u8 b) rfl ?q2 (nv_one _ _) (by decide) (by decide) hB.out.size ?_
    case q1=>exact hb1.own hal hg1.out (by decide)
    case q2=>exact hb2.readsAll hb2.lt hbl
    intro v' w' ho hgr hor))
 all_goals
  rw [nv_app] at ho
  have hB':=Lib.hid (hB.out.grown hgr hB.out.size (fun k hk=>by simp [Value.ownBlock] at hk;subst hk;exact hg1.out))
  have ho':=Lib.hid ho
  clear hgr hor ho
  go_wp2
  go_ret
  exact ⟨v',rfl,ho'.out,hB'.out⟩
set_option maxHeartbeats 800000 in
theorem nget_ok(A:Option Addr)(c B x y:Nat)(hc:12≤c)(l:List Nat)(hl:Byt l)(hx:beV (l.take 4)=x)(hy:beV (l.drop 4)=y)(w:World)(hr:Reads w B 1 A 12 (nv .u8 l))(hB:B≤w.heap.size):
 Calls Tryz.prog 288 #[.slice A 12 c] w fun e w'=>e=.returned (.tuple #[.agg (noV x y),.int .i64 0])∧Below w.heap.size w w':=by
 have hll:=hr.len
 obtain ⟨ad,rfl,hbl,_⟩:=hr.num (i:=0) (by omega)
 have hr1:Reads w B 1 (some ad) 4 (nv .u8 (l.take 4)):=by
  refine ⟨by rw [nv_len];simp;omega,fun _=>⟨ad,rfl,hbl,fun j u hu=>?_⟩⟩
  obtain ⟨ad',e,_,h⟩:=hr.2 (by omega)
  injection e with e
  subst e
  refine h j u ?_
  rw [←nv_take] at hu
  rw [List.getElem?_take] at hu
  split at hu
  ·exact hu
  ·cases hu
 have hr2:=hr.cut (k:=4) (by omega) (show 12≤c from hc)
 rw [nv_drop,Nat.mul_one] at hr2
 have hne:c≠4:=by omega
 rw [if_neg hne] at hr2
 have h1:=Lib.hid hr1
 have h2:=Lib.hid hr2
 have hc12:(12:Int)≤(c:Int):=by omega
 clear hr hr1 hr2
 go_enter Tryz.func288,Tryz.ntmps288
 have hx':=Lib.hid hx
 have hy':=Lib.hid hy
 clear hx hy
 go_wp2_with fail
 refine (get32_any (some ad) c B (l.take 4) (hl.take 4) _ (h1.out.alloc hB _)).mono ?_
 rintro e w1 ⟨rfl,rfl⟩
 rw [hx'.out]
 go_wp2_with fail
 refine (get64_any (some (ad.add 4)) (c-4) B (l.drop 4) (fun z hz=>hl z (List.mem_of_mem_drop hz)) _ (h2.out.alloc hB _)).mono ?_
 rintro e w1 ⟨rfl,rfl⟩
 rw [hy'.out]
 go_wp2
 exact bodyPost_ret (results_row_tmp rfl _ _ w.heap.size 59 (noV x y) _ _ rfl (Blk.newAt rfl) Tryz.underlying59 rfl (noV_info _ _) rfl) rfl ⟨rfl,(Below.refl _ _).alloc (Nat.le_refl _) _⟩
end Go.Proofs.YtjboelhcieepkaaGreatDoor
namespace Go.Proofs.YtjboelhcieepkaaGreatDoor
set_option maxRecDepth 16384
open Go.RowKit Sh
theorem beV_beB4(v:Nat)(hv:v<4294967296):beV (beB v 4)=v:=by
 have e:beB v 4=[v / 16777216%256,v / 65536%256,v / 256%256,v / 1%256]:=rfl
 rw [e]
 simp only [beV,List.foldl_cons,List.foldl_nil]
 omega
theorem beV_beB8(v:Nat)(hv:v<18446744073709551616):beV (beB v 8)=v:=by
 have e:beB v 8=[v / 72057594037927936%256,v / 281474976710656%256,v / 1099511627776%256,v / 4294967296%256,v / 16777216%256,v / 65536%256,v / 256%256,v / 1%256]:=rfl
 rw [e]
 simp only [beV,List.foldl_cons,List.foldl_nil]
 omega
end Go.Proofs.YtjboelhcieepkaaGreatDoor
namespace Go.Proofs.YtjboelhcieepkaaGreatDoor
set_option maxRecDepth 16384
open Go.RowKit
noncomputable def Gt(g:Nat):Option (Rp SV):=bif Nat.beq g 0 then some (.arr .i64 2 [45,33]) else bif Nat.beq g 2 then some (.arr .u32 64 Sh.kL) else bif Nat.beq g 1 then some (.arr .u32 8 Sh.hL) else none
noncomputable def Xt:Ctx:=⟨Tryz.prog,Gt,ghT,ghT_s,ghT_m⟩
theorem hmx:Xt.P.follows .mixedOrders=true:=by kernel_rfl
def ok0:SV:=.v (.int .i64 0)
noncomputable def fNput(args:List SV):Option (TypeId×Rp SV×Nat×Nat×Option (List SV)):=match args with
 |[.a (.q (.nnc x))]=>some (5,.q (.nncB x),12,12,none)
 |_=>none
theorem nput_leaf:LeafOk Xt 22 (leafS fNput):=leafS_ok (enters (by kernel_rfl)) fun args T cs l c zs hf r vals w hd hg=>by
 unfold fNput at hf
 split at hf
 ·rename_i x
  cases hf
  cases hd with
  |cons d t =>
   cases t
   cases d with
   |a d =>
    cases d
    refine ⟨_,none,.q _,rfl,(nput_any x.sh x.c x.hsh w).mono ?_⟩
    rintro e w' ⟨p,rfl,h1,h2,h3⟩
    exact ⟨p,rfl,h2,h1,h3⟩
 ·cases hf
noncomputable def fNget(l c:Nat)(cs:Rp SV):Option SV:=match cs with
 | .q (.nncB x)=>bif Nat.beq l 12&&Nat.ble 12 c then some (.t [.a (.q (.nnc x)),ok0]) else none
 |_=>none
theorem nget_leaf:LeafOk Xt 288 (leafR fNget):=leafR_ok (enters (by kernel_rfl)) fun l c cs y hf r vs g0 o0 w hd hr hg=>by
 unfold fNget at hf
 split at hf
 ·rename_i x
  cases hq:Nat.beq l 12&&Nat.ble 12 c with
  |false=>rw [hq] at hf;cases hf
  |true =>
   rw [hq] at hf;cases hf
   rw [Bool.and_eq_true] at hq
   obtain rfl:l=12:=Nat.eq_of_beq_eq_true hq.1
   have hc:12≤c:=Nat.le_of_ble_eq_true hq.2
   cases hd
   have hl4:(Sh.beB x.sh 4).length=4:=Sh.beB_len _ _
   refine (nget_ok (some ⟨g0,o0,none⟩) c w.heap.size x.sh x.c hc x.nncB ?_ ?_ ?_ w hr (Nat.le_refl _)).mono ?_
   ·intro z hz
    rcases List.mem_append.1 hz with h|h
    ·exact Sh.beB_byt _ _ z h
    ·exact Sh.beB_byt _ _ z h
   ·unfold VRec.nncB
    rw [List.take_append_of_le_length (by omega),List.take_of_length_le (by omega)]
    exact beV_beB4 _ x.hsh
   ·unfold VRec.nncB
    rw [List.drop_append_of_le_length (by omega),List.drop_of_length_le (by omega),List.nil_append]
    exact beV_beB8 _ x.hc
   ·rintro e w' ⟨rfl,h3⟩
    exact ⟨_,rfl,.t (.cons (.a (.q _)) (.cons (.v _) .nil)),h3⟩
 ·cases hf
noncomputable def tab1:List (FuncId×Leaf):=[(22,leafS fNput),(288,leafR fNget)]
theorem tab1_ok:∀p∈tab1,LeafOk Xt p.1 p.2:=by
 intro p hp
 simp only [tab1,List.mem_cons,List.not_mem_nil,or_false] at hp
 rcases hp with rfl|rfl
 ·exact nput_leaf
 ·exact nget_leaf
noncomputable def H1:Hk:=hkD Xt (leafTab tab1) 14 6
theorem H1_ok:HkOk Xt H1:=hkT_ok hmx tab1_ok 6
theorem chkR(x:VRec):callR H1 Xt 12 91 [.a (.q (.rcd x))] .e 0=some (.int .i64 0):=by
 obtain ⟨s,sh,c,tag,hs,h0,h1,h2,h3,h4⟩:=x
 rcases s with _|_|_|s
 ·obtain ⟨rfl,rfl,rfl⟩:=h0 rfl;kernel_rfl
 ·kernel_rfl
 ·kernel_rfl
 ·omega
theorem chkE(x:VEnt):callR H1 Xt 12 115 [.a (.q (.ent x))] .e 0=some (.int .i64 0):=by
 obtain ⟨s,dig,hs,h0,h3,h4⟩:=x
 rcases s with _|_|_|s
 ·obtain rfl:=h0 rfl;kernel_rfl
 ·kernel_rfl
 ·kernel_rfl
 ·omega
theorem putR(x:VRec):callN H1 Xt 12 58 [.a (.q (.rcd x))] .e 0=some (5,nv .u8 x.bytes,45,45,some [.int .i64 0]):=by
 obtain ⟨s,sh,c,tag,hs,h0,h1,h2,h3,h4⟩:=x
 rcases s with _|_|_|s
 ·obtain ⟨rfl,rfl,rfl⟩:=h0 rfl;kernel_rfl
 ·kernel_rfl
 ·kernel_rfl
 ·omega
theorem putE(x:VEnt):callN H1 Xt 12 61 [.a (.q (.ent x))] .e 0=some (5,nv .u8 x.bytes,33,33,some [.int .i64 0]):=by
 obtain ⟨s,dig,hs,h0,h3,h4⟩:=x
 rcases s with _|_|_|s
 ·obtain rfl:=h0 rfl;kernel_rfl
 ·kernel_rfl
 ·kernel_rfl
 ·omega
end Go.Proofs.YtjboelhcieepkaaGreatDoor
