/- A part of the proof of TopSealed. -/
import Derived.Test.YtjboelhcieepkaaGreatDoorW12
noncomputable section
set_option maxRecDepth 16384
set_option maxHeartbeats 1600000
namespace Go.Proofs.YtjboelhcieepkaaGreatDoor
open Go.RowKit
def lI(ns:List Nat)(n:Nat):Option Nat:=List.rec (motive:=λ_=>Nat->Option Nat) (λ_=>none) (λm _ ih j=>Bool.rec (ih (Nat.succ j)) (some j) (Nat.beq m n)) ns 0
def aNd(n:Nat)(ns:List Nat):Nat->Option Nat:=List.rec (motive:=λ_=>Nat->Option Nat) (λ_=>none) (λm _ ih j=>Bool.rec (ih (Nat.succ j)) (some j) (Nat.beq m n)) ns
theorem aJs(n:Nat):∀(ns:List Nat) (j i:Nat),aNd n ns j=some i->j≤i∧ns[i-j]?=some n
 |[],_,_,h=>by cases h
 |m::ns,j,i,h=>by
  have h':(Bool.rec (aNd n ns (j+1)) (some j) (Nat.beq m n):Option Nat)=some i:=h
  rw [bE] at h'
  by_cases e:m=n
  ·subst e
   simp only [decide_true,b6] at h'
   subst h'
   simp
  ·simp only [e,decide_false] at h'
   obtain ⟨h1,h2⟩:=aJs n ns (j+1) i h'
   refine ⟨by omega,?_⟩
   rw [show i-j=i-(j+1)+1 by omega]
   simpa using h2
theorem aNX{ns:List Nat}{n i:Nat}(h:lI ns n=some i):ns[i]?=some n:=by
 have:=(aJs n ns 0 i h).2
 simpa using this
def yX(o:Option Nat)(f:Nat->SV):SV:=match o with
 |some m=>f m
 |none=>.u
def yO(ns:List Nat)(x:SV):SV:=match x with
 | .v y=>.v y
 | .p n o=>yX (lI ns n) λm=>.p m o
 | .s n o l c=>yX (lI ns n) λm=>.s m o l c
 | .w n l=>yX (lI ns n) λm=>.w m l
 | .gs n l=>yX (lI ns n) λm=>.gs m l
 | .y n=>yX (lI ns n) λm=>.y m
 | .b y=>.b y
 |_=>.u
def yC(ns:List Nat)(x:SV):SV:=match x with
 | .f fn a b=>.f fn (a.map (yO ns)) (b.map (yO ns))
 | .i t y=>.i t (yO ns y)
 |x=>yO ns x
def pM(ns:List Nat)(c:Rp SV):Rp SV:=Rp.rec (motive:=λ_=>Rp SV) .nil (λx=>.one (yC ns x)) (λk n l=>.arr k n l) (λs t _ _ a b=>.node s t a b) (λa=>.q a) c
def lW(ns:List Nat)(x:SV):SV:=match x with
 | .a c=>.a (pM ns c)
 | .t l=>.t (l.map (yC ns))
 |x=>yC ns x
def T8(B N:Nat):Nat:=Bool.rec N B (Nat.ble N B)
theorem aVg(B N:Nat):N≤T8 B N:=by
 have e:T8 B N=(Bool.rec N B (Nat.ble N B):Nat):=rfl
 rw [e,cY]
 by_cases h:N≤B<;>simp [h]
def upC(B:Nat)(c:Rp SV):Rp SV:=match c with
 | .q (.gh t N l)=>.q (.gh t (T8 B N) l)
 |c=>c
def vX(ns:List Nat)(B:Nat)(b:HB):HB:=⟨b.T,bif Nat.beq b.k 8 then upC B b.cs else pM ns b.cs,b.k⟩
def aGd(ns:List Nat)(B:Nat):Option HB->Option HB
 |some b=>some (vX ns B b)
 |none=>none
def t7(ns:List Nat)(B:Nat)(hp:Tr)(l:List Nat)(j:Nat):List (Nat×Option HB):=List.rec (motive:=λ_=>Nat->List (Nat×Option HB)) (λ_=>[]) (λn _ ih j=>(j,match lI ns n with
 |some i=>bif Nat.beq i j then aGd ns B (hp.get n) else none
 |none=>none)::ih (Nat.succ j)) l j
def aDF(ts:Sl)(ns:List Nat)(l:List Nat):Sl:=F8 (l.map λi=>(i,lW ns (nth ts i))) ts.n
def aB1(ls ns:List Nat)(B:Nat)(p:aB):aB:=⟨p.h,p.k,⟨aDF p.st.ts ns ls,fD (t7 ns B p.st.hp ns 0),ns.length⟩⟩
def aEw:aF:=⟨0,0,0,none,λ_=>False⟩
def fI(r:List aF)(ns:List Nat):List aF:=ns.map λn=>(r[n]?).getD aEw
section
variable {r:List aF}{ns:List Nat}
theorem rU{n i:Nat}{L:aF}(h:lI ns n=some i)(hL:r[n]?=some L):(fI r ns)[i]?=some L:=by
 unfold fI
 rw [jC,aNX h]
 simp [hL]
theorem I1{o:Option Nat}{f:Nat->SV}{v:Value}{r':List aF}(h:∀m,o=some m->aP r' (f m) v):aP r' (yX o f) v:=by
 cases o with
 |none=>exact .u v
 |some m=>exact h m rfl
theorem aHJ{x:SV}{v:Value}(h:aP r x v):aP (fI r ns) (yO ns x) v:=by
 cases h with
 |v=>exact .v _
 |p hL=>exact I1 λm hm=>.p (rU hm hL)
 |s hL=>exact I1 λm hm=>.s (rU hm hL)
 |w hL hl=>exact I1 λm hm=>.w (rU hm hL) hl
 |gs hL hl=>exact I1 λm hm=>.gs (rU hm hL) hl
 |y hL=>exact I1 λm hm=>.y (rU hm hL)
 |b=>exact .b _
 |a=>exact .u _
 |t=>exact .u _
 |f=>exact .u _
 |i=>exact .u _
 |u=>exact .u _
theorem aCH:∀{xs:List SV} {vs:List Value},aX r xs vs->aX (fI r ns) (xs.map (yO ns)) vs
 |[],_,h=>by cases h;exact .nil
 |_::_,_,h=>by cases h with|cons h t=>exact .cons (aHJ h) (aCH t)
theorem aGt{x:SV}{v:Value}(h:aP r x v):aP (fI r ns) (yC ns x) v:=by
 unfold yC
 split
 ·cases h with|f ha hb=>exact .f (aCH ha) (aCH hb)
 ·cases h with|i h=>exact .i (aHJ h)
 ·exact aHJ h
theorem aOE:∀{xs:List SV} {vs:List Value},aX r xs vs->aX (fI r ns) (xs.map (yC ns)) vs
 |[],_,h=>by cases h;exact .nil
 |_::_,_,h=>by cases h with|cons h t=>exact .cons (aGt h) (aOE t)
theorem R8:∀{c:Rp SV} {us:List Value},aD r c us->aD (fI r ns) (pM ns c) us
 | .nil,_,h=>by cases h;exact .nil
 | .one x,_,h=>by cases h with|one h h1=>exact .one (aGt h) h1
 | .arr ..,_,h=>by cases h with|arr h=>exact .arr h
 | .q a,_,h=>by cases h;exact .q a
 | .node ..,_,h=>by cases h with|node ha hb hs ht=>exact .node (R8 ha) (R8 hb) hs ht
theorem aIu{x:SV}{v:Value}(h:aP r x v):aP (fI r ns) (lW ns x) v:=by
 unfold lW
 split
 ·cases h with|a h=>exact .a (R8 h)
 ·cases h with|t h=>exact .t (aOE h)
 ·exact aGt h
theorem aNb{ts:Sl}{vs:List Value}(h:bU r ts vs)(l:List Nat):bU (fI r ns) (aDF ts ns l) vs:=by
 refine ⟨h.1,λi=>?_⟩
 unfold aDF
 rw [aJF]
 cases hf:(l.map λi=>(i,lW ns (nth ts i))).find? λx=>x.1==i with
 |none=>exact .u _
 |some x =>
  have h1:=List.find?_some hf
  obtain ⟨j,_,rfl⟩:=dC.1 (List.mem_of_find?_eq_some hf)
  simp only [beq_iff_eq] at h1
  subst h1
  exact aIu (h.2 j)
theorem aKS{B:Nat}{hp:Tr}:∀{l:List Nat} {j:Nat} {x:Nat×Option HB} {b:HB},x∈t7 ns B hp l j->x.2=some b->∃n b0,lI ns n=some x.1∧hp.get n=some b0∧b=vX ns B b0
 |[],_,_,_,h,_=>by simp [t7] at h
 |n::l,j,x,b,h,hb=>by
  have e:t7 ns B hp (n::l) j=(j,match lI ns n with
   |some i=>bif Nat.beq i j then aGd ns B (hp.get n) else none
   |none=>none)::t7 ns B hp l (j+1):=rfl
  rw [e,bG] at h
  rcases h with rfl|h
  ·simp only at hb
   split at hb
   ·rename_i i hi
    rw [bE] at hb
    by_cases hij:i=j
    ·subst hij
     simp only [decide_true,cond_true] at hb
     unfold aGd at hb
     split at hb
     ·rename_i b0 h0
      cases hb
      exact ⟨n,b0,hi,h0,rfl⟩
     ·cases hb
    ·simp [hij] at hb
   ·cases hb
  ·exact aKS h hb
theorem G5{B:Nat}{hp:Tr}{l:List Nat}{m:Nat}{b:HB}(h:(fD (t7 ns B hp l 0)).get m=some b):∃n b0,lI ns n=some m∧hp.get n=some b0∧b=vX ns B b0:=by
 rw [O9] at h
 cases hf:(t7 ns B hp l 0).find? λx=>x.1==m with
 |none=>rw [hf] at h;cases h
 |some x =>
  rw [hf] at h
  have h1:=List.find?_some hf
  simp only [beq_iff_eq] at h1
  subst h1
  exact aKS (List.mem_of_find?_eq_some hf) h
variable {E:bX}{hp:Tr}{nx:Nat}{w:World}
theorem a3a{L:aF}{b:HB}(B:Nat)(h:eN E r L b w):eN E (fI r ns) L (vX ns B b) w:=by
 obtain ⟨vs,hd,hk⟩:=h
 by_cases h8:b.k=8
 ·rcases hk with ⟨h,_⟩|⟨h,_⟩|⟨h1,h2,h3,h4,h5,h6,h7⟩
  ·omega
  ·omega
  ·obtain ⟨t,N,l,e,h9,h10⟩:=h7 h8
   obtain ⟨T,cs,k⟩:=b
   simp only at e h8
   subst e h8
   have e2:vX ns B ⟨T,.q (.gh t N l),8⟩=⟨T,.q (.gh t (T8 B N) l),8⟩:=rfl
   rw [e2]
   refine ⟨[],.q (.gh t (T8 B N) l),.inr (.inr ⟨h1,h2,λj v hv=>by simp at hv,λh=>absurd h (by show ¬ 8=5;omega),λh=>absurd h (by show ¬ 8=6;omega),h6,λ_=>⟨t,_,l,rfl,h9,E.X.ghm _ _ _ _ _ _ _ (aVg B N) h10⟩⟩)⟩
 ·have e:vX ns B b=⟨b.T,pM ns b.cs,b.k⟩:=by unfold vX;rw [show Nat.beq b.k 8=false from by rw [bE];simpa using h8];rfl
  rw [e]
  refine ⟨vs,R8 hd,?_⟩
  rcases hk with h|h|⟨h1,h2,h3,h4⟩
  ·exact .inl h
  ·exact .inr (.inl h)
  ·exact .inr (.inr ⟨h1,h2,h3,h4.1,h4.2.1,h4.2.2.1,λh=>absurd h h8⟩)
theorem aIc(h:aG E r hp nx w)(B:Nat):aG E (fI r ns) (fD (t7 ns B hp ns 0)) ns.length w:=by
 have back:∀{n m:Nat} {b:HB} {L:aF},lI ns n=some m->hp.get n=some b->(fI r ns)[m]?=some L->r[n]?=some L:=by
  intro n m b L hi hb hL
  obtain ⟨L',h1,_⟩:=h.blk n b hb
  rw [rU hi h1] at hL
  cases hL
  exact h1
 refine ⟨by simp [fI],λm b hb=>?_,λm m' b c L M hb hc hne hk hL hM k hc1 hc2=>?_,h.below,h.fz,λm b L hb hk hL k hcv=>?_,h.up,λm b L hb h2 h5 hL=>?_,h.rlt,h.glob⟩
 ·obtain ⟨n,b0,hi,h0,rfl⟩:=G5 hb
  obtain ⟨L,hL,hk⟩:=h.blk n b0 h0
  exact ⟨L,rU hi hL,a3a B hk⟩
 ·obtain ⟨n,b0,hi,h0,rfl⟩:=G5 hb
  obtain ⟨n',c0,hi',h0',rfl⟩:=G5 hc
  exact h.sep n n' b0 c0 L M h0 h0' (λe=>hne (by subst e;rw [hi] at hi';exact jR hi')) hk (back hi h0 hL) (back hi' h0' hM) k hc1 hc2
 ·obtain ⟨n,b0,hi,h0,rfl⟩:=G5 hb
  exact h.far n b0 L h0 hk (back hi h0 hL) k hcv
 ·obtain ⟨n,b0,hi,h0,rfl⟩:=G5 hb
  exact h.old n b0 L h0 h2 h5 (back hi h0 hL)
end
def oT:List KI->Bool
 |[]=>true
 | .code _::k=>oT k
 | .blk _::k=>oT k
 | .loop _::k=>oT k
 |_=>false
theorem aCf:∀{k:List KI},oT k=true->nU k=none∧qO k=[]
 |[],_=>⟨rfl,rfl⟩
 | .code _::k,h=>aCf (k:=k) h
 | .blk _::k,h=>aCf (k:=k) h
 | .loop _::k,h=>aCf (k:=k) h
 | .frm ..::_,h=>by cases h
 | .ds ..::_,h=>by cases h
 | .rng ..::_,h=>by cases h
 | .rbeg ..::_,h=>by cases h
 | .rend ..::_,h=>by cases h
theorem uI{k:List KI}(h:oT k=true)(r:List aF):eG r k=none∧cX r k=[]:=by
 obtain ⟨h1,h2⟩:=aCf h
 exact ⟨by simp [eG,h1],by simp [cX,h2]⟩
theorem K0{P:Program}{r r':List aF}{Q0:cM}:∀{k:List KI} {Q:cM},oT k=true->cJ P r k Q0 Q->cJ P r' k Q0 Q
 |[],_,_,h=>h
 | .code _::k,_,hp,⟨Q',h,e⟩=>⟨Q',K0 (k:=k) hp h,by rw [e,(uI (k:=k) hp r).1,(uI (k:=k) hp r').1]⟩
 | .blk _::k,_,hp,⟨Q',h,e⟩=>⟨Q',K0 (k:=k) hp h,e⟩
 | .loop _::k,_,hp,⟨Q',h,e⟩=>⟨Q',K0 (k:=k) hp h,by rw [e,(uI (k:=k) hp r).1,(uI (k:=k) hp r').1]⟩
 | .frm ..::_,_,h,_=>by cases h
 | .ds ..::_,_,h,_=>by cases h
 | .rng ..::_,_,h,_=>by cases h
 | .rbeg ..::_,_,h,_=>by cases h
 | .rend ..::_,_,h,_=>by cases h
theorem aEn{E:bX}{Q0:cM}{p:aB}(ls ns:List Nat)(B:Nat)(hk:oT p.k=true)(h:Xp E [] Q0 (aB1 ls ns B p)):Xp E [] Q0 p:=by
 intro r vs w Q _ hs hm hq
 have:=h (fI r ns) vs w Q ⟨_,rfl⟩ (aNb hs ls) (aIc hm B) (K0 hk hq)
 obtain ⟨h1,h2⟩:=uI hk r
 obtain ⟨h3,h4⟩:=uI hk (fI r ns)
 have e:lZ (eG (fI r ns) p.k) (cX (fI r ns) p.k) E.X.P p.h Q vs w:=this
 rw [h1,h2]
 rwa [h3,h4] at e
inductive Ev where
 |b (x:Bool)
 |g (x:Bool)
 |c (ns:List Nat) (res:Nat->SV) (new:List HB)
 |k (n:Nat) (c:Rp SV) (adv:Bool)
inductive Ob where
 |t (e x:Bool)
 |c (g:FuncId) (args:List SV) (ns:List Nat) (bs:List (Option HB)) (nx:Nat) (res:SV) (new:List HB)
 |r (c c':Rp SV)
 |bad
structure gR where
 c:List Nat
 g:List Nat
 d:Nat
def aJb(t:Nat)(l:List Nat):Bool:=List.rec (motive:=λ_=>Bool) false (λx _ ih=>Bool.rec ih true (Nat.beq t x)) l
def aNS(k:List KI):Nat:=List.rec (motive:=λ_=>Nat) 0 (λi _ ih=>match i with
 | .frm _ _ _ _ _=>Nat.succ ih
 |_=>ih) k
def aUE(S:gR)(k:List KI)(c:Code):Bool:=match c with
 | .cond (.tmp t) _ _=>aJb t S.c&&Nat.beq (aNS k) S.d
 |_=>false
def bDv(S:gR)(k:List KI)(l:List Oper):Bool:=match l with
 |o::_=>(match o.dst with
  |some d=>aJb d S.g&&Nat.beq (aNS k) S.d
  |none=>false)
 |[]=>false
def aGk(S:gR)(p:aB):Bool:=aB.rec (motive:=λ_=>Bool) (λh k _=>Hd.rec (motive:=λ_=>Bool) (aUE S k) (λ_ l=>List.rec (motive:=λ_=>Bool) false (λ_ _ _=>bDv S k l) S.g) (λ_=>false) h) p
inductive Rn where
 |go (p:aB)
 |st (p:aB)
def Rn.pos:Rn->aB
 | .go p=>p
 | .st p=>p
def aBd(q:aB):Rn:=aB.rec (motive:=λ_=>Rn) (λh k st=>Hd.rec (motive:=λ_=>Rn) (λc=>.go ⟨.code c,k,st⟩) (λo l=>.go ⟨.ops o l,k,st⟩) (λe=>.st ⟨.done e,k,st⟩) h) q
def eV(H:Hk)(X:aI)(p:aB):Rn:=Option.rec (motive:=λ_=>Rn) (.st p) aBd (oD H X p)
def st0(S:gR)(H:Hk)(X:aI)(p:aB):Rn:=Bool.rec (motive:=λ_=>Rn) (eV H X p) (.st p) (aGk S p)
def aMu(f:aB->Rn)(r:Rn):Rn:=Rn.rec (motive:=λ_=>Rn) f (λp=>.st p) r
def aB7(S:gR)(H:Hk)(X:aI)(n:Nat):aB->Rn:=Nat.rec (motive:=λ_=>aB->Rn) (st0 S H X) (λ_ ih p=>aMu ih (ih p)) n
def gQ(S:gR)(H:Hk)(X:aI)(n:Nat)(p:aB):aB:=(aB7 S H X n p).pos
def qF(hp:Tr)(nx:Nat)(l:List HB):Tr×Nat:=List.rec (motive:=λ_=>Tr->Nat->Tr×Nat) (λhp nx=>(hp,nx)) (λb _ ih hp nx=>ih (hp.put nx b) (Nat.succ nx)) l hp nx
def aBy(x:Bool)(c:Operand)(a b:Code)(p:aB):aB×Ob:=match ev p.st.ts c with
 | .v (.bool e)=>(⟨.code (bif x then a else b),p.k,p.st⟩,.t e x)
 |_=>(p,.bad)
def aBp(H:Hk)(X:aI)(x:Bool)(ops:Array Oper)(o:Oper)(p:aB):aB×Ob:=match o.guard with
 |some (j,_)=>(match ops[j]? with
  |some o2=>(match o2.dst with
   |some d=>(match nth p.st.ts d with
    | .v (.bool e)=>((eV H X ⟨p.h,p.k,⟨sS p.st.ts d (.v (.bool x)),p.st.hp,p.st.nx⟩⟩).pos,.t e x)
    |_=>(p,.bad))
   |none=>(p,.bad))
  |none=>(p,.bad))
 |none=>(p,.bad)
def aBW(ns:List Nat)(res:Nat->SV)(new:List HB)(ops:Array Oper)(o:Oper)(rest:List Oper)(p:aB):aB×Ob:=match gB ops p.st.ts o.guard with
 |some true=>(match o.op with
  | .call c=>(match c.callee with
   | .value f=>(match ev p.st.ts f with
    | .f (.func g) a b=>(⟨.ops ops rest,p.k,⟨putS p.st.ts o.dst (res p.st.nx),(qF p.st.hp p.st.nx new).1,(qF p.st.hp p.st.nx new).2⟩⟩,.c g ((a++(c.args.toList.map (ev p.st.ts)++b)).map tY) ns (ns.map λn=>jW (p.st.hp.get n)) p.st.nx (res p.st.nx) new)
    |_=>(p,.bad))
   |_=>(p,.bad))
  |_=>(p,.bad))
 |_=>(p,.bad)
def aB9(H:Hk)(X:aI)(n:Nat)(c:Rp SV)(adv:Bool)(p:aB):aB×Ob:=match p.st.hp.get n with
 |some b=>bif Nat.beq b.k 8 then (p,.bad) else (bif adv then (eV H X ⟨p.h,p.k,⟨p.st.ts,p.st.hp.put n ⟨b.T,c,b.k⟩,p.st.nx⟩⟩).pos else ⟨p.h,p.k,⟨p.st.ts,p.st.hp.put n ⟨b.T,c,b.k⟩,p.st.nx⟩⟩,.r (mK b.cs) c)
 |none=>(p,.bad)
def u9(H:Hk)(X:aI)(e:Ev)(p:aB):aB×Ob:=match e,p.h with
 | .b x,.code (.cond c a b)=>aBy x c a b p
 | .g x,.ops ops (o::_)=>aBp H X x ops o p
 | .c ns res new,.ops ops (o::rest)=>aBW ns res new ops o rest p
 | .k n c adv,_=>aB9 H X n c adv p
 |_,_=>(p,.bad)
def evK(x:aB×Ob)(f:aB->aB×List Ob):aB×List Ob:=((f x.1).1,x.2::(f x.1).2)
def cL(S:gR)(H:Hk)(X:aI)(n:Nat)(es:List Ev):aB->aB×List Ob:=List.rec (motive:=λ_=>aB->aB×List Ob) (λp=>(gQ S H X n p,[])) (λe _ ih p=>evK (u9 H X e (gQ S H X n p)) ih) es
def o4(E:bX)(g:FuncId)(args:List SV)(ns:List Nat)(bs:List (Option HB))(nx:Nat)(res:SV)(new:List HB):Prop :=
 ∀(r:List aF) (vals:List Value) (w:World) (hp:Tr),aX r args vals->aG E r hp nx w->(ns.map λn=>jW (hp.get n))=bs ->
  (∀w',(callFunc g vals.toArray).run E.X.P w'=.ok (.enter g vals.toArray) w')∧Calls E.X.P g vals.toArray w λe w'=>∃q v,e=.returned v∧aP (r++q) res v∧aG E (r++q) (qF hp nx new).1 (qF hp nx new).2 w'
def Ob.Holds(E:bX):Ob->Prop
 | .t e x=>e=x
 | .c g args ns bs nx res new=>o4 E g args ns bs nx res new
 | .r x y=>∀r us,aD r x us->aD r y us
 | .bad=>False
theorem a6k{r:List aF}{ts:Sl}{vs:List Value}{d:Tmp}{v:Value}(h:bU r ts vs)(hd:nth ts d=.v v):bU r (sS ts d (.v v)) vs:=by
 have h1:=h.2 d
 rw [hd] at h1
 have h2:=bU.set d h (.v v)
 generalize hu:vs.getD d undef=u at h1
 cases h1
 have:vs.set d v=vs:=by
  apply List.ext_getElem?
  intro i
  by_cases hi:d=i
  ·subst hi
   by_cases hl:d<vs.length
   ·rw [List.getElem?_set_self hl]
    rw [cP,eZ hl] at hu
    rw [eZ hl]
    simpa using hu.symm
   ·rw [fA (by simpa using hl),fA (by simpa using hl)]
  ·rw [List.getElem?_set_ne hi]
 rwa [this] at h2
theorem V7{r:List aF}:∀{xs:List SV} {vs:List Value},aX r xs vs->aX r (xs.map tY) vs
 |[],_,h=>by cases h;exact .nil
 |_::_,_,h=>by cases h with|cons h t=>exact .cons (aIr h) (V7 t)
theorem aG.recast{E:bX}{r:List aF}{hp:Tr}{nx:Nat}{w:World}(h:aG E r hp nx w){n:Nat}{b:HB}(hb:hp.get n=some b)(h8:b.k≠8)(c:Rp SV)(hc:∀us,aD r (mK b.cs) us->aD r c us):aG E r (hp.put n ⟨b.T,c,b.k⟩) nx w:=by
 have key:∀{m:Nat} {x:HB},(hp.put n ⟨b.T,c,b.k⟩).get m=some x->∃y,hp.get m=some y∧y.k=x.k∧(x.k=8->y=x)∧∀L,eN E r L y w->eN E r L x w:=by
  intro m x hx
  rw [bC.get_put] at hx
  by_cases e:m=n
  ·subst e
   rw [if_pos rfl] at hx
   cases hx
   refine ⟨b,hb,rfl,λh=>absurd h h8,λL hL=>?_⟩
   obtain ⟨vs,hd,hk⟩:=hL
   refine ⟨vs,hc _ (aDs hd),?_⟩
   rcases hk with h|h|⟨h1,h2,h3,h4⟩
   ·exact .inl h
   ·exact .inr (.inl h)
   ·exact .inr (.inr ⟨h1,h2,h3,h4.1,h4.2.1,h4.2.2.1,λh=>absurd h h8⟩)
  ·rw [if_neg e] at hx
   exact ⟨x,hx,rfl,λ_=>rfl,λ_ h=>h⟩
 have cov:∀{x y:HB} {L:aF} {k:Nat},y.k=x.k->gJ x L k->gJ y L k:=λhk hc=>hc.elim .inl λh=>.inr ⟨hk.trans h.1,h.2⟩
 refine ⟨h.len,λm x hx=>?_,λm1 m2 x1 x2 L M h1 h2 hne hk hL hM k c1 c2=>?_,h.below,h.fz,λm x L hx hk hL k hcv=>?_,h.up,λm x L hx h2 h5 hL=>?_,h.rlt,h.glob⟩
 ·obtain ⟨y,hy,_,_,ho⟩:=key hx
  obtain ⟨L,hL,hB⟩:=h.blk m y hy
  exact ⟨L,hL,ho L hB⟩
 ·obtain ⟨y1,hy1,e1,_,_⟩:=key h1
  obtain ⟨y2,hy2,e2,_,_⟩:=key h2
  exact h.sep m1 m2 y1 y2 L M hy1 hy2 hne (by rw [e1];exact hk) hL hM k (cov e1 c1) (cov e2 c2)
 ·obtain ⟨y,hy,e,_,_⟩:=key hx
  exact h.far m y L hy (by rw [e];exact hk) hL k (cov e hcv)
 ·obtain ⟨y,hy,e,_,_⟩:=key hx
  exact h.old m y L hy (by rw [e];exact h2) (by rw [e];exact h5) hL
section
variable {E:bX}{Q0:cM}{r0:List aF}
theorem aZK{x:Bool}{c:Operand}{a b:Code}{p:aB}(h0:e8 E.X.P Q0)(hp:p.h=.code (.cond c a b))(ho:(aBy x c a b p).2.Holds E)(hx:Xp E r0 Q0 (aBy x c a b p).1):Xp E r0 Q0 p:=by
 revert ho hx
 unfold aBy
 split
 ·rename_i e he
  intro ho hx
  obtain rfl:e=x:=ho
  refine aLX h0 (q:=⟨.code (bif e then a else b),p.k,p.st⟩) ?_ hx
  unfold step
  rw [hp]
  simp only [he]
  cases e<;>rfl
 ·intro ho;exact ho.elim
theorem bEh(q:aB):(aBd q).pos=q:=by
 obtain ⟨h,k,st⟩:=q
 cases h<;>rfl
theorem aFb{H:Hk}(aH:E.X.P.follows .mixedOrders=true)(hH:bZ E.X H)(h0:e8 E.X.P Q0){p:aB}(h:Xp E r0 Q0 (eV H E.X p).pos):Xp E r0 Q0 p:=by
 have h':Xp E r0 Q0 (Option.rec (motive:=λ_=>Rn) (.st p) aBd (oD H E.X p):Rn).pos:=h
 cases hq:oD H E.X p with
 |none=>rw [hq] at h';exact h'
 |some q =>
  rw [hq] at h'
  have h2:Xp E r0 Q0 (aBd q).pos:=h'
  rw [bEh] at h2
  exact aGZ aH hH h0 hq h2
theorem jP{S:gR}{H:Hk}(aH:E.X.P.follows .mixedOrders=true)(hH:bZ E.X H)(h0:e8 E.X.P Q0):∀(n:Nat) {p:aB},Xp E r0 Q0 (gQ S H E.X n p)->Xp E r0 Q0 p
 |0,p,h=>by
  have h':Xp E r0 Q0 (Bool.rec (motive:=λ_=>Rn) (eV H E.X p) (.st p) (aGk S p):Rn).pos:=h
  cases hq:aGk S p with
  |false=>rw [hq] at h';exact aFb aH hH h0 h'
  |true=>rw [hq] at h';exact h'
 |n+1,p,h=>by
  have h':Xp E r0 Q0 (aMu (aB7 S H E.X n) (aB7 S H E.X n p)).pos:=h
  cases hq:aB7 S H E.X n p with
  |go q =>
   rw [hq] at h'
   have h2:Xp E r0 Q0 (gQ S H E.X n q):=h'
   refine jP (S:=S) aH hH h0 n (p:=p) ?_
   unfold gQ
   rw [hq]
   exact jP (S:=S) aH hH h0 n h2
  |st q =>
   rw [hq] at h'
   refine jP (S:=S) aH hH h0 n (p:=p) ?_
   unfold gQ
   rw [hq]
   exact h'
theorem aPw{H:Hk}{x:Bool}{ops:Array Oper}{o:Oper}{p:aB}(aH:E.X.P.follows .mixedOrders=true)(hH:bZ E.X H)(h0:e8 E.X.P Q0)(ho:(aBp H E.X x ops o p).2.Holds E)(hx:Xp E r0 Q0 (aBp H E.X x ops o p).1):Xp E r0 Q0 p:=by
 revert ho hx
 unfold aBp
 split
 ·split
  ·split
   ·split
    ·rename_i d _ e he
     intro ho hx
     obtain rfl:e=x:=ho
     intro r vs w Q hr hs hm hk
     exact aFb aH hH h0 hx r vs w Q hr (a6k hs he) hm hk
    ·intro ho;exact ho.elim
   ·intro ho;exact ho.elim
  ·intro ho;exact ho.elim
 ·intro ho;exact ho.elim
theorem aJO{r:List aF}{ts:Sl}{vs:List Value}{df:List Deferred}{w:World}{o:Oper}{c:Call}{f:Operand}{g:FuncId}{a b:List SV}{K:Act->World->Prop}{Q:cM}(ho:o.op=.call c)(hcal:c.callee=.value f)(e1:ev ts f=.f (.func g) a b)(hs:bU r ts vs)
 (hc:∀vals,aX r (a++(c.args.toList.map (ev ts)++b)) vals->(∀w',(callFunc g vals.toArray).run E.X.P w'=.ok (.enter g vals.toArray) w')∧Calls E.X.P g vals.toArray w λe w'=>∃v,e=.returned v∧K ⟨(j6 vs o.dst v).toArray,df⟩ w'):o.wp E.X.P ⟨vs.toArray,df⟩ w K Q:=by
 have h1:=aP.ev (df:=df) hs f
 rw [e1] at h1
 generalize hfv:Act.eval ⟨vs.toArray,df⟩ f=fv at h1
 cases h1 with
 |@f _ _ _ av bv ha hb2 =>
  have hargs:=aX.map_ev (r:=r) (ts:=ts) (vs:=vs) (df:=df) (aP.ev hs) c.args.toList
  obtain ⟨hent,hcc⟩:=hc _ (aX.app ha (aX.app hargs hb2))
  have e2:(av.toArray++c.args.map (Act.eval ⟨vs.toArray,df⟩)++bv.toArray)=(av++(c.args.toList.map (Act.eval ⟨vs.toArray,df⟩)++bv)).toArray:=by apply Array.toList_inj.1;simp
  have hrun:(execOp (Act.eval ⟨vs.toArray,df⟩) o).run E.X.P w=.ok (.enter g (av++(c.args.toList.map (Act.eval ⟨vs.toArray,df⟩)++bv)).toArray) w:=by
   simp only [execOp,ho,resolve,hcal,hfv,Deferred.ofValue,Sem.run_bind,Sem.run_pure,Result.andThen_ok,invoke,e2,hent w]
  unfold Oper.wp
  rw [hrun]
  refine hcc.mono λe w' ⟨v,he,hk⟩=>?_
  subst he
  rw [<-oR] at hk
  exact hk
theorem aWX{ns:List Nat}{res:Nat->SV}{new:List HB}{ops:Array Oper}{o:Oper}{rest:List Oper}{p:aB}(hp:p.h=.ops ops (o::rest))(ho:(aBW ns res new ops o rest p).2.Holds E)(hx:Xp E r0 Q0 (aBW ns res new ops o rest p).1):Xp E r0 Q0 p:=by
 revert ho hx
 unfold aBW
 split
 ·rename_i hg
  split
  ·rename_i c hc
   split
   ·rename_i f hf
    split
    ·rename_i g a b he
     intro ho hx r vs w Q hr hs hm hk
     rw [hp]
     refine aCW (by unfold fU;rw [hc]) (pJ hs hg) ?_
     refine aJO hc hf he hs λvals hv=>?_
     obtain ⟨h1,h2⟩:=ho r vals w _ (V7 hv) hm rfl
     refine ⟨h1,h2.mono λe w' ⟨s,v,h3,h4,h5⟩=>⟨v,h3,?_⟩⟩
     have:=hx (r++s) _ w' Q (ext hr s) (bU.putS (hs.mono s) h4 o.dst) h5 (hk.mono s)
     simp only [lZ,(hk.same s).1,(hk.same s).2] at this
     exact this
    ·intro ho;exact ho.elim
   ·intro ho;exact ho.elim
  ·intro ho;exact ho.elim
 ·intro ho;exact ho.elim
theorem a5I{H:Hk}{n:Nat}{c:Rp SV}{adv:Bool}{p:aB}(aH:E.X.P.follows .mixedOrders=true)(hH:bZ E.X H)(h0:e8 E.X.P Q0)(ho:(aB9 H E.X n c adv p).2.Holds E)(hx:Xp E r0 Q0 (aB9 H E.X n c adv p).1):Xp E r0 Q0 p:=by
 revert ho hx
 unfold aB9
 split
 ·rename_i b hb
  cases h8:Nat.beq b.k 8 with
  |true=>intro ho;exact ho.elim
  |false =>
   simp only [cond_false]
   rw [bE,decide_eq_false_iff_not] at h8
   intro ho hx
   intro r vs w Q hr hs hm hk
   have hm2:=hm.recast hb h8 c (λus=>ho r us)
   cases adv with
   |true=>exact aFb aH hH h0 hx r vs w Q hr hs hm2 hk
   |false=>exact hx r vs w Q hr hs hm2 hk
 ·intro ho;exact ho.elim
theorem aH8{H:Hk}{e:Ev}{p:aB}(aH:E.X.P.follows .mixedOrders=true)(hH:bZ E.X H)(h0:e8 E.X.P Q0)(ho:(u9 H E.X e p).2.Holds E)(hx:Xp E r0 Q0 (u9 H E.X e p).1):Xp E r0 Q0 p:=by
 revert ho hx
 unfold u9
 split
 ·rename_i hp;exact λho hx=>aZK h0 hp ho hx
 ·exact λho hx=>aPw aH hH h0 ho hx
 ·rename_i hp;exact λho hx=>aWX hp ho hx
 ·exact λho hx=>a5I aH hH h0 ho hx
 ·intro ho;exact ho.elim
theorem jG{S:gR}{H:Hk}(aH:E.X.P.follows .mixedOrders=true)(hH:bZ E.X H)(h0:e8 E.X.P Q0)(n:Nat):∀(es:List Ev) {p:aB},(∀ob∈(cL S H E.X n es p).2,ob.Holds E)->Xp E r0 Q0 (cL S H E.X n es p).1->Xp E r0 Q0 p
 |[],p,_,h=>jP (S:=S) aH hH h0 n h
 |e::es,p,ho,h=>by
  have e1:cL S H E.X n (e::es) p=evK (u9 H E.X e (gQ S H E.X n p)) (cL S H E.X n es):=rfl
  rw [e1] at ho h
  unfold evK at ho h
  exact jP (S:=S) aH hH h0 n (aH8 aH hH h0 (ho _ (by simp)) (jG aH hH h0 n es (λob hob=>ho ob (by simp [hob])) h))
end
def eA(X:aI)(g:FuncId)(args:List SV)(hp:Tr)(nx:Nat):aB:=match entryS X.P g with
 |some (fn,c)=>⟨.code c,[],⟨frame args fn.ntmps,hp,nx⟩⟩
 |none=>⟨.done .normal,[],⟨⟨.e,0⟩,.e,0⟩⟩
def dS(X:aI)(g:FuncId)(p:aB):Option (SV×St):=match entryS X.P g with
 |some (fn,_)=>uQ X fn p
 |none=>none
theorem iQ{E:bX}{r:List aF}{vals:List Value}{w:World}{hp:Tr}{nx:Nat}{S:gR}{H:Hk}{n:Nat}{es:List Ev}{g:FuncId}{args:List SV}{res:SV}{st:St}(aH:E.X.P.follows .mixedOrders=true)(hH:bZ E.X H)(h:dS E.X g (cL S H E.X n es (eA E.X g args hp nx)).1=some (res,st))
 (ho:∀ob∈(cL S H E.X n es (eA E.X g args hp nx)).2,ob.Holds E) (ha:aX r args vals) (hm:aG E r hp nx w) :
 Calls E.X.P g vals.toArray w λe w'=>∃q v,e=.returned v∧aP (r++q) res v∧aG E (r++q) st.hp st.nx w':=by
 unfold dS at h
 unfold eA at h ho
 cases hent:entryS E.X.P g with
 |none=>rw [hent] at h;cases h
 |some x =>
  obtain ⟨fn,c⟩:=x
  rw [hent] at h ho
  exact tB (k:=[]) hent ⟨[],by simp⟩ ha hm rfl rfl rfl (jG aH hH pC n es ho (xP h))
def aOp:bV:=λ_ _ _=>none
theorem aYJ(X:aI)(g:FuncId):bN X g aOp:=λ_ _ _ _ _ h=>by cases h
def stops(l:List FuncId)(t:List (FuncId×bV)):List (FuncId×bV):=l.map (λg=>(g,aOp))++t
theorem jQ{X:aI}{l:List FuncId}{t:List (FuncId×bV)}(h:∀p∈t,bN X p.1 p.2):∀p∈stops l t,bN X p.1 p.2:=by
 intro p hp
 rcases eL.1 hp with hp|hp
 ·obtain ⟨g,_,rfl⟩:=dC.1 hp
  exact aYJ X g
 ·exact h p hp
end Go.Proofs.YtjboelhcieepkaaGreatDoor
namespace Go.Proofs.YtjboelhcieepkaaGreatDoor
open Go.RowKit Sh
def cA(w:World)(B0:Nat)(A:Option Addr)(n c:Nat)(l:List Nat):Prop:=w.ownsRow B0 5 1 (.slice A n c) n (nv .u8 l)
def eI(A:Option Addr)(x:Nat):Prop:=∀a,A=some a->a.block≠x
section
variable {w w':World}{B0 n c:Nat}{A:Option Addr}{l:List Nat}
theorem aGY(A:Option Addr)(n c k:Nat):(Value.slice A n c).ownBlock=some k↔∃a,A=some a∧a.block=k:=by
 cases A<;>simp [Value.ownBlock]
theorem eI.ob{x:Nat}(h:eI A x)(n c:Nat):some x≠(Value.slice A n c).ownBlock:=λe=>by
 obtain ⟨a,ha,hb⟩:=(aGY A n c x).1 e.symm
 exact h a ha hb
theorem eI.nil(x:Nat):eI none x:=λ_ h=>by cases h
theorem cA.cap(h:cA w B0 A n c l):n≤c:=by
 rcases h.2 with ⟨e,h0⟩|⟨g,cap,cur,e,_,_,hc,_⟩
 ·omega
 ·injection e with _ _ e3;omega
theorem cA.lt(h:cA w B0 A n c l){a:Addr}(ha:A=some a):B0≤a.block∧a.block<w.heap.size :=
 World.ownsRow.lt h a.block ((aGY A n c _).2 ⟨a,ha,rfl⟩)
theorem cA.kept{row:Option Nat}(h:cA w B0 A n c l)(hg:w.grownBy w' row)(hne:∀a,A=some a->some a.block≠row):cA w' B0 A n c l:=by
 refine World.ownsRow.kept h hg ?_
 cases A with
 |none=>exact .inl rfl
 |some a=>exact .inr (hne a rfl)
theorem V1{w w':World}(h:Below w.heap.size w w'):w.grownBy w' none:=⟨h.os,h.tape,h.output,h.size,λk hk _=>h.block k hk⟩
theorem cA.below(h:cA w B0 A n c l)(bx:Below w.heap.size w w'):cA w' B0 A n c l:=h.kept (V1 bx) (λ_ _=>by simp)
theorem cA.alloc(h:cA w B0 A n c l)(o:Obj):cA (w.alloc o) B0 A n c l:=World.ownsRow.alloc h o
theorem cA.drew_(h:cA w B0 A n c l):cA w.drew B0 A n c l:=h
theorem aEm(w:World)(g:Nat)(cs:Array Value):w.grownBy (w.setRow g cs) (some g):=⟨rfl,rfl,rfl,by simp [World.setRow],λk _ hne=>sJ w g cs k (λe=>hne (by rw [e]))⟩
theorem cA.rowFar{g:Nat}(h:cA w B0 A n c l)(hne:eI A g)(cs:Array Value):cA (w.setRow g cs) B0 A n c l :=
 h.kept (aEm w g cs) (λa ha e=>hne a ha (jR e))
theorem cA.reads(h:cA w B0 A n c l):bH w w.heap.size 1 A n (nv .u8 l):=bH.of_own h
theorem cA.nil(w:World)(B0:Nat):cA w B0 none 0 0 []:=World.ownsRow_nil w B0 _ _
theorem cA.new_off(h:cA w B0 A n c l):eI A w.heap.size:=λa ha e=>by have:=(h.lt ha).2;omega
theorem cA.off_ge(h:cA w B0 A n c l){x:Nat}(hx:w.heap.size≤x):eI A x:=λa ha e=>by have:=(h.lt ha).2;omega
theorem aC.owned{g:Nat}(h:aC w g 5 (va .u8 l))(hn:l.length=n)(hb:B0≤g)(hm:n≤maxLen):cA w B0 (some ⟨g,0,none⟩) n n l:=aC.own h hn hb hm
theorem cA.form(h:cA w B0 A n c l):A=none∧n=0∧c=0∨∃g,A=some ⟨g,0,none⟩∧B0≤g∧g<w.heap.size:=by
 rcases h.2 with ⟨e,h0⟩|⟨g,cap,cur,e,hb,hh,_⟩
 ·injection e with e1 e2 e3
  exact .inl ⟨e1,h0,e3⟩
 ·injection e with e1
  exact .inr ⟨g,e1,hb,(lB.1 hh).1⟩
theorem nS(h:cA w B0 A n c l)(A2:Option Addr)(n2 c2 B:Nat)(m:List Nat)(hr:bH w B 1 A2 n2 (nv .u8 m))(hB0:B0≤w.heap.size)(new:List Nat)(hnew:l++m=new)(N:Nat)(hN:n+n2=N)(hmax:N≤100000000)(ty:TypeId):
 ∃A' c' w',(Builtin.append_ #[23,23] ty #[.slice A n c,.slice A2 n2 c2]).run Tryz.prog w=.ok (.slice A' N c') w'∧cA w' B0 A' N c' new∧N≤c'∧w.grownBy w' (Value.slice A n c).ownBlock ∧
  ∀x,eI A x->x<w.heap.size->eI A' x:=by
 subst hnew hN
 obtain ⟨i0,hi0,hz0,hz1,hz2⟩:=info_parts xM
 obtain ⟨v',w',hrun,h2,h3,h4⟩:=R4 (P:=Tryz.prog) w B0 23 ty 5 i0 (.int .u8 0) 1 1 Tryz.underlying23 hi0 hz0 hz1 hz2 rfl (by omega) (.slice A n c) n (nv .u8 l) h B A2 n2 c2 (nv .u8 m) hr (gN _ _)
  (by unfold maxLen;omega) (by omega) hB0
 have hf:∃A' c',v'=.slice A' (n+n2) c'∧n+n2≤c':=by
  rcases h2.2 with ⟨e,h0⟩|⟨g,cap,cur,e,_,_,hc,_⟩
  ·exact ⟨none,0,by rw [e,h0],by omega⟩
  ·exact ⟨_,_,e,hc⟩
 obtain ⟨A',c',rfl,hc⟩:=hf
 rw [wZ] at h2
 refine ⟨A',c',w',hrun,h2,hc,h3,λx hx hlt a ha e=>?_⟩
 have h5:(Value.slice A' (n+n2) c').ownBlock=some x:=(aGY _ _ _ _).2 ⟨a,ha,e⟩
 rcases h4 with h4|h4
 ·rw [h4] at h5
  exact hx.ob n c h5.symm
 ·rw [h4] at h5
  have:=jR h5
  omega
theorem cA.belowG{B:Nat}{a:World}(hW:Below B a w)(hB:B≤w.heap.size)(hA:∀k,(Value.slice A n c).ownBlock=some k->B≤k)(hg:w.grownBy w' (Value.slice A n c).ownBlock):Below B a w':=hW.grown hg hB hA
theorem cA.from_(h:cA w B0 A n c l):∀k,(Value.slice A n c).ownBlock=some k->B0≤k:=λk hk=>(World.ownsRow.lt h k hk).1
theorem mR.grown{g:Nat}{row:Option Nat}{m:List Nat}(h:mR w g m)(hb:w.grownBy w' row)(hg:some g≠row):mR w' g m :=
 ⟨eQ h.lt hb.size,λj v hv=>(World.cell?_of_block (a:=⟨g,j,none⟩) (hb.block g h.lt hg)).trans (h.c j v hv)⟩
theorem cA.grown{A2:Option Addr}{n2 c2:Nat}(h:cA w B0 A n c l)(hb:w.grownBy w' (Value.slice A2 n2 c2).ownBlock)(hne:∀a,A=some a->eI A2 a.block):cA w' B0 A n c l :=
 h.kept hb (λa ha=>(hne a ha).ob n2 c2)
theorem cA.new_sep{A2:Option Addr}{n2 c2:Nat}{l2:List Nat}(_h:cA w B0 A n c l)(_h2:cA w B0 A2 n2 c2 l2)(hs:∀a,A=some a->eI A2 a.block):∀a,A2=some a->eI A a.block:=λa ha b hb e=>hs b hb a ha e.symm
theorem cA.readsAt{g:Nat}(h:cA w B0 (some ⟨g,0,none⟩) n c l)(o m:Nat)(hm:o+m≤n):bH w w.heap.size 1 (some ⟨g,o,none⟩) m (nv .u8 ((l.drop o).take m)):=by
 have h1:=h.reads.part (o:=o) (m:=m) hm
 rwa [eX,Nat.zero_add] at h1
theorem cA.byB{g:Nat}(h:cA w B0 (some ⟨g,0,none⟩) n c l):mR w g l :=
 ⟨(h.lt rfl).2,λj v hv=>by
  have h1:=World.ownsRow.cells h (g:=g) rfl j v hv
  rwa [eX,Nat.zero_add] at h1⟩
theorem mR.num{g i:Nat}(h:mR w g l)(hi:i<l.length):w.cell? ⟨g,i,none⟩=some (.int .u8 ((l.getD i 0:Nat):Int)):=h.c i _ (mL hi)
end
end Go.Proofs.YtjboelhcieepkaaGreatDoor
namespace Go.Proofs.YtjboelhcieepkaaGreatDoor
open Go.RowKit
def iN(w:World)(B0 M:Nat)(v:Value)(x:Option aQ):Prop :=
 ∃b m c vs,v=.slice (some ⟨b,0,none⟩) (m+1) c∧m≤M∧vs.length=2*m∧(∀u∈vs,u.oneCell'=true)∧w.ownsRow B0 121 2 v (m+1) (vs++vV x)
theorem aEi(x:Option aQ):(vV x).length=2:=by cases x<;>rfl
theorem aAX(x:Option aQ):∀u∈vV x,u.oneCell'=true:=by
 intro u hu
 cases x with
 |none =>
  simp only [vV,bG,cK,or_false] at hu
  rcases hu with rfl|rfl<;>rfl
 |some b =>
  simp only [vV,bG,cK,or_false] at hu
  rcases hu with rfl|rfl<;>rfl
theorem iN.from_{w:World}{B0 M:Nat}{v:Value}{x:Option aQ}(h:iN w B0 M v x):∀j,v.ownBlock=some j->B0≤j:=by
 obtain ⟨b,m,c,vs,rfl,_,_,_,ho⟩:=h
 exact λj hj=>(World.ownsRow.lt ho j hj).1
theorem iN.more{w:World}{B0 M:Nat}{v:Value}{x:Option aQ}(h:iN w B0 M v x):iN w B0 (M+1) v x:=by
 obtain ⟨b,m,c,vs,e,h1,h2⟩:=h
 exact ⟨b,m,c,vs,e,Nat.le_succ_of_le h1,h2⟩
theorem iN.kept{w w':World}{B0 M:Nat}{v:Value}{x:Option aQ}{row:Option Nat}(h:iN w B0 M v x)(hg:w.grownBy w' row)(hne:∀g,row=some g->∀cur,w.heap[g]?≠some (.cells cur 121 (0,0))):iN w' B0 M v x:=by
 obtain ⟨b,m,c,vs,rfl,hm,hl,h1,ho⟩:=h
 refine ⟨b,m,c,vs,rfl,hm,hl,h1,World.ownsRow.kept ho hg (.inr λe=>?_)⟩
 rcases ho.2 with ⟨e1,_⟩|⟨g,cap,cur,e1,_,hh,_⟩
 ·cases e1
 ·cases e1
  exact hne b e.symm cur hh
theorem iN.below{w w':World}{B0 M:Nat}{v:Value}{x:Option aQ}(h:iN w B0 M v x)(bx:Below w.heap.size w w'):iN w' B0 M v x:=h.kept (V1 bx) (λg e=>by cases e)
def iG(w:World)(B0 M:Nat)(outs:List Value)(xs:List (Option aQ)):Prop:=outs.length=xs.length∧∀(j:Nat) v x,outs[j]?=some v->xs[j]?=some x->iN w B0 M v x
theorem iG.nil(w:World)(B0 M:Nat):iG w B0 M [] []:=⟨rfl,λj v x h=>by simp at h⟩
theorem iG.kept{w w':World}{B0 M:Nat}{outs:List Value}{xs:List (Option aQ)}{row:Option Nat}(h:iG w B0 M outs xs)(hg:w.grownBy w' row)(hne:∀g,row=some g->∀cur,w.heap[g]?≠some (.cells cur 121 (0,0))):iG w' B0 M outs xs :=
 ⟨h.1,λj v x h1 h2=>(h.2 j v x h1 h2).kept hg hne⟩
theorem iG.below{w w':World}{B0 M:Nat}{outs:List Value}{xs:List (Option aQ)}(h:iG w B0 M outs xs)(bx:Below w.heap.size w w'):iG w' B0 M outs xs:=h.kept (V1 bx) (λg e=>by cases e)
theorem iG.snoc{w:World}{B0 M:Nat}{outs:List Value}{xs:List (Option aQ)}{v:Value}{x:Option aQ}(h:iG w B0 M outs xs)(hv:iN w B0 M v x):iG w B0 M (outs++[v]) (xs++[x]):=by
 refine ⟨by simp [h.1],λj u y h1 h2=>?_⟩
 rcases Nat.lt_or_ge j outs.length with hj|hj
 ·rw [mZ hj] at h1
  rw [mZ (by rw [<-h.1];exact hj)] at h2
  exact h.2 j u y h1 h2
 ·rw [o3 hj] at h1
  rw [o3 (by rw [<-h.1];exact hj),<-h.1] at h2
  cases hq:j-outs.length with
  |zero=>rw [hq] at h1 h2;cases h1;cases h2;exact hv
  |succ n=>rw [hq] at h1;cases h1
theorem iG.ref{w:World}{B0 M g n c:Nat}{outs:List Value}{xs:List (Option aQ)}{cv:Nat->Prop}(h:iG w B0 M outs xs)(ho:w.ownsRow B0 221 1 (.slice (some ⟨g,0,none⟩) n c) n outs)(hcv:∀k,B0≤k->k<w.heap.size->cv k):lV M w g cv xs:=by
 intro k x hx
 have hk:k<outs.length:=by rw [h.1];exact (rI.1 hx).1
 obtain ⟨b,m,c',vs,e,hm,hl,h1,how⟩:=h.2 k outs[k] x (eZ hk) hx
 have hc:=World.ownsRow.cells ho (g:=g) rfl k outs[k] (eZ hk)
 rw [eX,Nat.zero_add,e] at hc
 rw [e] at how
 have hlt:=World.ownsRow.lt how b rfl
 have hcap:m+1≤c':=by
  rcases how.2 with ⟨e1,_⟩|⟨g2,cap,cur,e1,_,_,hc,_⟩
  ·cases e1
  ·cases e1;exact hc
 refine ⟨b,m,c',vs,hc,hm,hcap,hcv b hlt.1 hlt.2,hl,h1,λj v hv=>?_⟩
 have:=World.ownsRow.cells how (g:=b) rfl j v hv
 rwa [eX,Nat.zero_add] at this
theorem aHr:(Tryz.prog.info? 121).map (λi=>(i.zero,i.size,i.bytes))=some (some (.agg (vV none).toArray),2,24):=by kernel_rfl
theorem aJ9:(Tryz.prog.info? 221).map (λi=>(i.zero,i.size,i.bytes))=some (some (.slice none 0 0),1,24):=by kernel_rfl
theorem aB8(w:World):(zeroValue 31).run Tryz.prog w=.ok (.agg #[.slice none 0 0]) w:=by kernel_rfl
theorem N2(x:Option aQ):(Tryz.prog.info? 121).map (·.size)=some (vV x).toArray.size:=by cases x<;>kernel_rfl
theorem bDo{w:World}{B0 N b m c:Nat}{vs:List Value}{x:Option aQ}(hB0:B0≤w.heap.size)(hN:m≤N)(hN1:N≤1000)(hl:vs.length=2*m)(h1:∀u∈vs,u.oneCell'=true)(_hb:b<w.heap.size)
 (hc:∀(j:Nat) v,(vs++vV x)[j]?=some v->w.cell? ⟨b,j,none⟩=some v) (ty:TypeId) :
 ∃v2 w2,(Builtin.append_ #[221,221] ty #[.slice none 0 0,.slice (some ⟨b,0,none⟩) (m+1) c]).run Tryz.prog w=.ok v2 w2∧iN w2 B0 N v2 x∧Below w.heap.size w w2:=by
 obtain ⟨i0,hi0,hz0,hz1,hz2⟩:=info_parts aHr
 have hr:bH w (b+1) 2 (some ⟨b,0,none⟩) (m+1) (vs++vV x):=⟨by rw [eS,hl,aEi];omega,λ_=>⟨_,rfl,Nat.lt_succ_self _,λj v hv=>by rw [eX,Nat.zero_add];exact hc j v hv⟩⟩
 obtain ⟨v2,w2,hrun,h2,h3,h4⟩:=R4 (P:=Tryz.prog) w B0 221 ty 121 i0 _ 2 24 Tryz.underlying221 hi0 hz0 hz1 hz2 (by rfl) (by omega) (.slice none 0 0) 0 [] (World.ownsRow_nil w _ _ _) (b+1) (some ⟨b,0,none⟩) (m+1) c (vs++vV x) hr
  (λu hu=>(eL.1 hu).elim (h1 u) (aAX x u)) (by unfold maxLen;omega) (by omega) hB0
 have hform:∃g2 c2,v2=.slice (some ⟨g2,0,none⟩) (m+1) c2:=by
  rcases h2.2 with ⟨_,h0⟩|⟨g2,cap,cur,e,_⟩
  ·omega
  ·exact ⟨g2,cap,by rw [e,Nat.zero_add]⟩
 obtain ⟨g2,c2,rfl⟩:=hform
 rw [Nat.zero_add,List.nil_append] at h2
 exact ⟨_,w2,hrun,⟨g2,m,c2,vs,rfl,hN,hl,h1,h2⟩,⟨h3.os,h3.tape,h3.output,h3.size,λk hk=>h3.block k hk (by intro e;cases e)⟩⟩
theorem a2G{w:World}{B0 N q:Nat}{v:Value}{x0 x:Option aQ}(hB0:B0≤w.heap.size)(hN1:N≤1000)(h:iN w B0 N v x0)(hq:aC w q 121 (vV x).toArray)(ty:TypeId):
 ∃v2 w2,(Builtin.append_ #[221,221] ty #[v,.slice (some ⟨q,0,none⟩) 1 1]).run Tryz.prog w=.ok v2 w2∧iN w2 B0 (N+1) v2 x∧w.grownBy w2 v.ownBlock:=by
 obtain ⟨i0,hi0,hz0,hz1,hz2⟩:=info_parts aHr
 obtain ⟨b,m,c,vs,rfl,hm,hl,h1,ho⟩:=h
 have hr:bH w (q+1) 2 (some ⟨q,0,none⟩) 1 (vV x):=⟨by rw [aEi],λ_=>⟨_,rfl,Nat.lt_succ_self _,λj u hu=>by rw [eX,Nat.zero_add,hq.cell];simpa using hu⟩⟩
 obtain ⟨v2,w2,hrun,h2,h3,h4⟩:=R4 (P:=Tryz.prog) w B0 221 ty 121 i0 _ 2 24 Tryz.underlying221 hi0 hz0 hz1 hz2 (by rfl) (by omega) (.slice (some ⟨b,0,none⟩) (m+1) c) (m+1) (vs++vV x0) ho (q+1) (some ⟨q,0,none⟩) 1 1 (vV x) hr
  (aAX x) (by unfold maxLen;omega) (by omega) hB0
 have hform:∃g2 c2,v2=.slice (some ⟨g2,0,none⟩) (m+1+1) c2:=by
  rcases h2.2 with ⟨_,h0⟩|⟨g2,cap,cur,e,_⟩
  ·omega
  ·exact ⟨g2,cap,e⟩
 obtain ⟨g2,c2,rfl⟩:=hform
 exact ⟨_,w2,hrun,⟨g2,m+1,c2,vs++vV x0,rfl,by omega,by rw [eS,hl,aEi];omega,λu hu=>(eL.1 hu).elim (h1 u) (aAX x0 u),h2⟩,h3⟩
theorem aL2{w:World}{B0 k q:Nat}{u v:Value}{outs:List Value}(hB0:B0≤w.heap.size)(hk:k≤1000)(ho:w.ownsRow B0 221 1 u k outs)(hv:v.oneCell'=true)(hq:aC w q 221 #[v])(ty:TypeId):
 ∃u2 w2 c2 g2,(Builtin.append_ #[29,29] ty #[u,.slice (some ⟨q,0,none⟩) 1 1]).run Tryz.prog w=.ok u2 w2∧u2=.slice (some ⟨g2,0,none⟩) (k+1) c2∧w2.ownsRow B0 221 1 u2 (k+1) (outs++[v])∧w.grownBy w2 u.ownBlock:=by
 obtain ⟨i0,hi0,hz0,hz1,hz2⟩:=info_parts aJ9
 have hr:bH w (q+1) 1 (some ⟨q,0,none⟩) 1 [v]:=⟨rfl,λ_=>⟨_,rfl,Nat.lt_succ_self _,λj u hu=>by rw [eX,Nat.zero_add,hq.cell];simpa using hu⟩⟩
 have key:∃v',∃w2,(Builtin.append_ #[29,29] ty #[u,.slice (some ⟨q,0,none⟩) 1 1]).run Tryz.prog w=.ok v' w2∧w2.ownsRow B0 221 1 v' (k+1) (outs++[v])∧w.grownBy w2 u.ownBlock∧(v'.ownBlock=u.ownBlock∨v'.ownBlock=some w.heap.size) :=
  R4 (P:=Tryz.prog) w B0 29 ty 221 i0 _ 1 24 Tryz.underlying29 hi0 hz0 hz1 hz2 (by rfl) (by omega) u k outs ho (q+1) (some ⟨q,0,none⟩) 1 1 [v] hr
  (λx hx=>by rw [iY] at hx;rw [hx];exact hv) (by unfold maxLen;omega) (by omega) hB0
 obtain ⟨u2,w2,hrun,h2,h3,h4⟩:=key
 have hform:∃g2 c2,u2=.slice (some ⟨g2,0,none⟩) (k+1) c2:=by
  rcases h2.2 with ⟨_,h0⟩|⟨g2,cap,cur,e,_⟩
  ·omega
  ·exact ⟨g2,cap,e⟩
 obtain ⟨g2,c2,rfl⟩:=hform
 exact ⟨_,w2,c2,g2,hrun,rfl,h2,h3⟩
theorem aKT(x:Option aQ)(W:World):(Instr.buildSlice 221 1 #[(0,.agg (vV x).toArray)]).run Tryz.prog W=.ok (.slice (some ⟨W.heap.size,0,none⟩) 1 1) (W.alloc (.cells (vV x).toArray 121)):=by
 obtain ⟨ie,hie,h0,h1,h2⟩:=info_parts aHr
 refine run_buildSlice W _ 121 1 _ (vV x).toArray ie _ Tryz.underlying221 hie h0 (by rw [h1];decide) (by rw [h1];decide) ?_
 rw [h1]
 cases x<;>kernel_rfl
theorem aEL(a:Addr)(n c:Nat)(W:World):(Instr.buildSlice 29 1 #[(0,.slice (some a) n c)]).run Tryz.prog W=.ok (.slice (some ⟨W.heap.size,0,none⟩) 1 1) (W.alloc (.cells #[.slice (some a) n c] 221)):=by
 obtain ⟨ie,hie,h0,h1,h2⟩:=info_parts aJ9
 refine run_buildSlice W _ 221 1 _ #[.slice (some a) n c] ie _ Tryz.underlying29 hie h0 (by rw [h1];decide) (by rw [h1];decide) ?_
 rw [h1]
 kernel_rfl
theorem rE{w:World}{B0 k p:Nat}{u:Value}{outs:List Value}{T:TypeId}{cs:Array Value}(ho:w.ownsRow B0 221 1 u k outs)(hb:aC w p T cs)(hT:T≠221):some p≠u.ownBlock:=by
 rcases ho.2 with ⟨rfl,_⟩|⟨g,cap,cur,rfl,_,hh,_⟩
 ·simp [Value.ownBlock]
 ·intro e
  have e2:p=g:=jR e
  subst e2
  unfold aC at hb
  rw [hb] at hh
  cases hh
  exact hT rfl
theorem aMq{w:World}{B0 k:Nat}{u:Value}{outs:List Value}(ho:w.ownsRow B0 221 1 u k outs):∀g,u.ownBlock=some g->∀cur,w.heap[g]?≠some (.cells cur 121 (0,0)):=by
 intro g hg cur e
 rcases ho.2 with ⟨rfl,_⟩|⟨g',cap,cur',rfl,_,hh,_⟩
 ·cases hg
 ·cases hg
  rw [hh] at e
  have:(221:TypeId)≠121:=by decide
  cases e
theorem aJe{w wr w':World}{B0 N k g m c p3 p5 p6 p7:Nat}{u v:Value}{outs:List Value}{xs:List (Option aQ)}{x x':Option aQ}(hB0:B0≤w.heap.size)(hk:k≤1000)(lw7:B0≤p7)
 (hp3:aC wr p3 31 #[.slice (some ⟨g,0,none⟩) m c]) (hp5:aC wr p5 121 (vV x).toArray) (hp6:aC wr p6 31 #[.slice none 0 0]) (hp7:aC wr p7 31 #[u]) (n37:p3≠p7) (n57:p5≠p7) (n67:p6≠p7)
 (hu:wr.ownsRow B0 221 1 u k outs) (hin:iG wr B0 N outs xs) (hW:Below B0 w wr) (bx:Below wr.heap.size wr w') (hv:iN w' wr.heap.size N v x') (ty:TypeId) :
 ∃a n cc u2 w6,v=.slice (some a) n cc∧(Builtin.append_ #[29,29] ty #[u,.slice (some ⟨w'.heap.size,0,none⟩) 1 1]).run Tryz.prog (w'.alloc (.cells #[v] 221))=.ok u2 w6∧(∃g2 c2,u2=.slice (some ⟨g2,0,none⟩) (k+1) c2)∧aC w' p7 31 #[u]∧aC w6 p7 31 #[u] ∧
  aC (w6.setCell ⟨p7,0,none⟩ u2) p3 31 #[.slice (some ⟨g,0,none⟩) m c]∧aC (w6.setCell ⟨p7,0,none⟩ u2) p5 121 (vV x).toArray∧aC (w6.setCell ⟨p7,0,none⟩ u2) p6 31 #[.slice none 0 0]∧aC (w6.setCell ⟨p7,0,none⟩ u2) p7 31 #[u2] ∧
  (w6.setCell ⟨p7,0,none⟩ u2).ownsRow B0 221 1 u2 (k+1) (outs++[v])∧iG (w6.setCell ⟨p7,0,none⟩ u2) B0 N (outs++[v]) (xs++[x'])∧Below B0 w (w6.setCell ⟨p7,0,none⟩ u2):=by
 have hBw:=bI hB0 hW.size
 have hu':=World.ownsRow.kept hu (V1 bx) (by cases u.ownBlock<;>simp)
 have hin':=hin.below bx
 have q3:=hp3.below bx hp3.lt
 have q5:=hp5.below bx hp5.lt
 have q6:=hp6.below bx hp6.lt
 have q7:=hp7.below bx hp7.lt
 have hW':=hW.trans (bx.mono hBw)
 have hBw':=bI hB0 hW'.size
 have hv':iN w' B0 N v x':=by
  obtain ⟨b,m0,c0,vs,rfl,h1,h2,h3,h4⟩:=hv
  refine ⟨b,m0,c0,vs,rfl,h1,h2,h3,h4.1,?_⟩
  rcases h4.2 with h0|⟨g2,cap,cur,e,hg,r⟩
  ·exact .inl h0
  ·exact .inr ⟨g2,cap,cur,e,bI hBw hg,r⟩
 obtain ⟨a,n,cc,rfl⟩:∃a n cc,v=.slice (some a) n cc:=by
  obtain ⟨b,m0,c0,vs,rfl,_⟩:=hv
  exact ⟨_,_,_,rfl⟩
 have bA:Below w'.heap.size w' (w'.alloc (.cells #[.slice (some a) n cc] 221)):=(Below.refl _ _).alloc (aS _) _
 have hq:=aC.new w' 221 #[.slice (some a) n cc]
 obtain ⟨u2,w6,c2,g2,hrun,e2,ho2,hgr⟩:=aL2 (bI hBw' bA.size) hk (World.ownsRow.alloc hu' _) rfl hq ty
 have huA:=World.ownsRow.alloc hu' (.cells #[.slice (some a) n cc] 221)
 have r3:=(q3.alloc (.cells #[.slice (some a) n cc] 221)).grown hgr (rE huA (q3.alloc _) (by decide))
 have r5:=(q5.alloc (.cells #[.slice (some a) n cc] 221)).grown hgr (rE huA (q5.alloc _) (by decide))
 have r6:=(q6.alloc (.cells #[.slice (some a) n cc] 221)).grown hgr (rE huA (q6.alloc _) (by decide))
 have r7:=(q7.alloc (.cells #[.slice (some a) n cc] 221)).grown hgr (rE huA (q7.alloc _) (by decide))
 have hinA:=((hin'.below bA).snoc (hv'.below bA)).kept hgr (λg hg=>aMq huA g hg)
 have hW6:=(hW'.alloc hBw' (.cells #[.slice (some a) n cc] 221)).grown hgr (bI hBw' bA.size) (λj hj=>(World.ownsRow.lt huA j hj).1)
 have gS:w6.grownBy (w6.setCell ⟨p7,0,none⟩ u2) (some p7):=⟨rfl,rfl,rfl,by simp [World.setCell],λk _ hk=>Below.heap_setCell w6 _ u2 k (λe=>hk (by rw [e]))⟩
 refine ⟨a,n,cc,u2,w6,rfl,hrun,⟨g2,c2,e2⟩,q7,r7,r3.far (p:=⟨p7,0,none⟩) n37 _,r5.far (p:=⟨p7,0,none⟩) n57 _,r6.far (p:=⟨p7,0,none⟩) n67 _,r7.set_ 0 _,?_,hinA.kept gS (λg hg cur e=>?_),hW6.setCell (p:=⟨p7,0,none⟩) lw7 _⟩
 ·exact World.ownsRow.kept ho2 gS (.inr λe=>rE ho2 r7 (by decide) e.symm)
 ·cases hg
  unfold aC at r7
  rw [r7] at e
  cases e
end Go.Proofs.YtjboelhcieepkaaGreatDoor
namespace Go.Proofs.YtjboelhcieepkaaGreatDoor
open Go.RowKit Sh
set_option maxRecDepth 100000 in
theorem aMj(N g m c s:Nat)(cv:Nat->Prop)(l:List (Option aQ))(x:Option aQ)(hl:l.length=m)(hm:m≤1000)(hm0:0<m)(hN:N≤1000)(hs:s≤100000)(w:World)(hg:g<w.heap.size)(hcv:∀k,cv k->k<w.heap.size)(h:lV N w g cv l):
 Calls Tryz.prog 33 #[.agg #[.slice (some ⟨g,0,none⟩) m c],.int .i64 (s:Int),.agg (vV x).toArray] w λe w'=>∃g' c',e=.returned (.agg #[.slice (some ⟨g',0,none⟩) m c'])∧m≤c'∧w.heap.size≤g'∧g'<w'.heap.size∧lV (N+1) w' g' (λk=>w.heap.size≤k∧k<w'.heap.size) (l.set s x)∧Below w.heap.size w w':=by
 obtain ⟨B0,hB0e,hW,hB0⟩:=B9 w
 rw [hB0e]
 have rd:Hid (∀W,Below B0 w W->lV N W g cv l):=Lib.hid λW hb=>aDM 0 N w W g cv l h (hb.block g (by omega)) (λk hk=>hb.block k (by have:=hcv k hk;omega))
 clear h
 have hcvB:∀k,cv k->k<B0:=λk hk=>by have:=hcv k hk;omega
 have hB0q:=Lib.hid hB0e
 clear hB0e
 go_enter Tryz.func33,Tryz.ntmps33
 go_upto_region 0 with fail
 refine c9 ?_
 refine dD 3 (.pointer (some ⟨w.heap.size,0,none⟩)) (w.alloc (.cells (#[.slice (some ⟨g,0,none⟩) m c]) 31)) rfl (by rfl) (aEY 31 (.tmp 0) rfl (.agg (#[.slice (some ⟨g,0,none⟩) m c])) rfl) ?_
 simp only [Ls]
 have lw_p3:=bI hB0 hW.size
 have hp3:=aC.new w 31 (#[.slice (some ⟨g,0,none⟩) m c])
 replace hW:=lQ hW hB0 (.cells (#[.slice (some ⟨g,0,none⟩) m c]) 31)
 generalize w.alloc (.cells (#[.slice (some ⟨g,0,none⟩) m c]) 31)=w1 at *
 generalize w.heap.size=p3 at hp3 lw_p3  ⊢
 refine dD 5 (.pointer (some ⟨w1.heap.size,0,none⟩)) (w1.alloc (.cells ((vV x).toArray) 121)) rfl (by rfl) (aEY 121 (.tmp 2) rfl (.agg ((vV x).toArray)) rfl) ?_
 simp only [Ls]
 have lp3_p5:=hp3.lt
 have lw_p5:=bI hB0 hW.size
 have hp5:=aC.new w1 121 ((vV x).toArray)
 have bx:=sE w1 (.cells ((vV x).toArray) 121)
 replace hp3:=gO hp3 bx
 replace hW:=kQ hW hB0 bx
 clear bx
 generalize w1.alloc (.cells ((vV x).toArray) 121)=w2 at *
 generalize w1.heap.size=p5 at hp5 lw_p5 lp3_p5 ⊢
 refine dD 6 (.pointer (some ⟨w2.heap.size,0,none⟩)) (w2.alloc (.cells (#[.slice none 0 0]) 31)) rfl (by rfl) (oO 31 rfl _ (aB8 _)) ?_
 simp only [Ls]
 have lp3_p6:=hp3.lt
 have lp5_p6:=hp5.lt
 have lw_p6:=bI hB0 hW.size
 have hp6:=aC.new w2 31 (#[.slice none 0 0])
 have bx:=sE w2 (.cells (#[.slice none 0 0]) 31)
 replace hp3:=gO hp3 bx
 replace hp5:=gO hp5 bx
 replace hW:=kQ hW hB0 bx
 clear bx
 generalize w2.alloc (.cells (#[.slice none 0 0]) 31)=w3 at *
 generalize w2.heap.size=p6 at hp6 lw_p6 lp3_p6 lp5_p6 ⊢
 refine dA ?_
 go_upto_region 1 with fail
 refine c9 ?_
 refine dD 7 (.pointer (some ⟨w3.heap.size,0,none⟩)) (w3.alloc (.cells (#[.slice none 0 0]) 31)) rfl (by rfl) (oO 31 rfl _ (aB8 _)) ?_
 simp only [Ls]
 have lp3_p7:=hp3.lt
 have lp5_p7:=hp5.lt
 have lp6_p7:=hp6.lt
 have lw_p7:=bI hB0 hW.size
 have hp7:=aC.new w3 31 (#[.slice none 0 0])
 have bx:=sE w3 (.cells (#[.slice none 0 0]) 31)
 replace hp3:=gO hp3 bx
 replace hp5:=gO hp5 bx
 replace hp6:=gO hp6 bx
 replace hW:=kQ hW hB0 bx
 clear bx
 generalize w3.alloc (.cells (#[.slice none 0 0]) 31)=w4 at *
 generalize w3.heap.size=p7 at hp7 lw_p7 lp3_p7 lp5_p7 lp6_p7 ⊢
 refine dA ?_
 go_upto_region 2 with fail
 refine c9 ?_
 refine aY 8 (.int .i64 0) rfl (by rfl) (by go_simp) ?_
 simp only [Ls]
 refine dA ?_
 go_wp2
 go_loopw [8] (λv wr=>∃(k:Nat) (u:Value) (outs:List Value),k≤m∧v=.int .i64 (k:Int)∧aC wr p3 31 #[.slice (some ⟨g,0,none⟩) m c]∧aC wr p5 121 (vV x).toArray∧aC wr p6 31 #[.slice none 0 0]∧aC wr p7 31 #[u]∧wr.ownsRow B0 221 1 u k outs∧iG wr B0 (N+1) outs ((l.set s x).take k)∧Below B0 w wr) (λv _=>m-(intOf v).toNat)
 case atStart=>exact ⟨0,_,[],by omega,rfl,hp3,hp5,hp6,hp7,World.ownsRow_nil _ _ _ _,iG.nil _ _ _,hW⟩
 case round =>
  clear hp3 hp5 hp6 hp7 hW
  have n37:p3≠p7:=by omega
  have n57:p5≠p7:=by omega
  have n67:p6≠p7:=by omega
  obtain ⟨k,u,outs,hk,rfl,hp3,hp5,hp6,hp7,hu,hin,hW⟩:=hrel
  by_cases hlt:k<m
  ·
   have hltI:(k:Int)<(m:Int):=by omega
   have hkn:¬ (k:Int)<0:=by omega
   have hwi:IntKind.i64.wrap ((k:Int)+1)=((k+1:Nat):Int):=by rw [IntWalk.i64_in _ (by omega)];omega
   obtain ⟨x0,hx0⟩:∃x0,l[k]?=some x0:=⟨l[k]'(by omega),eZ (by omega)⟩
   obtain ⟨b,mm,cc,vs,e1,e0,e2,e3,e4,e5,e6⟩:=rd.out _ hW k x0 hx0
   have hbl:b<wr.heap.size:=eQ (hcvB b e3) (bI hB0 hW.size)
   go_upto_region 3 with fail
   refine c9 ?_
   refine aY 10 (.int .i64 (k:Int)) rfl (by rfl) (by go_simp) ?_
   refine aY 11 (.pointer (some ⟨p3,0,none⟩)) rfl (by rfl) (by go_simp) ?_
   refine aY 12 (.slice (some ⟨g,0,none⟩) m c) rfl (by rfl) (mC 29 (.tmp 11) rfl p3 0 rfl (.slice (some ⟨g,0,none⟩) m c) _ Tryz.underlying29 rfl (hp3.cellIs 0 rfl)) ?_
   refine aY 13 (.int .i64 m) rfl (by rfl) (by go_simp) ?_
   refine aY 14 (.bool true) rfl (by rfl) (by go_simp) ?_
   simp only [Ls]
   refine dA ?_
   go_upto_region 5 with fail
   refine c9 ?_
   refine aY 17 (.pointer (some ⟨p3,0,none⟩)) rfl (by rfl) (by go_simp) ?_
   refine aY 18 (.slice (some ⟨g,0,none⟩) m c) rfl (by rfl) (mC 29 (.tmp 17) rfl p3 0 rfl (.slice (some ⟨g,0,none⟩) m c) _ Tryz.underlying29 rfl (hp3.cellIs 0 rfl)) ?_
   refine aY 19 (.int .i64 (k:Int)) rfl (by rfl) (by go_simp) ?_
   refine aY 20 (.pointer (some ⟨g,k,none⟩)) rfl (by rfl) (by go_simp) ?_
   refine aY 21 (.slice (some ⟨b,0,none⟩) (mm+1) cc) rfl (by rfl) (mC 221 (.tmp 20) rfl g k rfl (.slice (some ⟨b,0,none⟩) (mm+1) cc) _ Tryz.underlying221 rfl e1) ?_
   simp only [Ls]
   obtain ⟨v2,w2,hap,hv2,bx⟩:=bDo (aS _) e0 hN e4 e5 hbl e6 221
   refine dD 22 v2 w2 rfl (by rfl) (j8 _ _ _ _ rfl _ _ _ rfl rfl hap) ?_
   simp only [Ls]
   clear hap e1 e0 e2 e3 e4 e5 e6 hbl
   refine aY 9 v2 rfl (by rfl) (by go_simp) ?_
   simp only [Ls]
   refine dA ?_
   by_cases hks:k=s
   ·have hksI:((k:Int)==(s:Int))=true:=by rw [beq_iff_eq];omega
    have hx1:(l.set s x)[k]?=some x:=by subst hks;rw [List.getElem?_set_self (by omega)]
    go_upto_region 6 with fail
    refine c9 ?_
    refine aY 23 (.int .i64 (k:Int)) rfl (by rfl) (by go_simp) ?_
    refine aY 24 (.int .i64 (s:Int)) rfl (by rfl) (by go_simp) ?_
    refine aY 25 (.bool true) rfl (by rfl) (by go_simp) ?_
    simp only [Ls]
    refine dA ?_
    go_upto_region 7 with fail
    refine c9 ?_
    refine aY 26 v2 rfl (by rfl) (by go_simp) ?_
    refine aY 27 (.agg (vV x).toArray) rfl (by rfl) (N4 121 (.tmp 5) rfl p5 rfl 121 (vV x).toArray _ (hp5.below bx hp5.lt) Tryz.underlying121 rfl (N2 x)) ?_
    simp only [Ls]
    refine dD 28 (.slice (some ⟨w2.heap.size,0,none⟩) 1 1) (w2.alloc (.cells (vV x).toArray 121)) rfl (by rfl) (kP 221 1 [(0,.tmp 27)] rfl _ (by exact aKT x _)) ?_
    simp only [Ls]
    have bA:Below w2.heap.size w2 (w2.alloc (.cells (vV x).toArray 121)):=(Below.refl _ _).alloc (aS _) _
    obtain ⟨v4,w4,hap2,hv4,hgr⟩:=a2G (bI bx.size bA.size) hN (hv2.below bA) (aC.new w2 121 (vV x).toArray) 221
    refine dD 29 v4 w4 rfl (by rfl) (j8 _ _ _ _ rfl _ _ _ rfl rfl hap2) ?_
    simp only [Ls]
    have bx4:Below wr.heap.size wr w4:=(bx.alloc bx.size (.cells (vV x).toArray 121)).grown hgr (bI bx.size bA.size) hv2.from_
    clear hap2 hgr bA hv2 bx
    refine aY 9 v4 rfl (by rfl) (by go_simp) ?_
    simp only [Ls]
    refine dA ?_
    go_upto_region 8 with fail
    obtain ⟨a,n,cc2,u2,w6,rfl,hrun,⟨g2,c2,rfl⟩,q7,r7,s3,s5,s6,s7,so,si,sW⟩:=aJe hB0 (by omega) lw_p7 hp3 hp5 hp6 hp7 n37 n57 n67 hu hin hW bx4 hv4 29
    clear hp3 hp5 hp6 hp7 hu hin hW
    refine c9 ?_
    refine aY 30 (.pointer (some ⟨p7,0,none⟩)) rfl (by rfl) (by go_simp) ?_
    refine aY 31 u rfl (by rfl) (mC 29 (.tmp 30) rfl p7 0 rfl u _ Tryz.underlying29 rfl (q7.cellIs 0 rfl)) ?_
    refine aY 32 (.slice (some a) n cc2) rfl (by rfl) (by go_simp) ?_
    simp only [Ls]
    refine dD 33 (.slice (some ⟨w4.heap.size,0,none⟩) 1 1) (w4.alloc (.cells #[.slice (some a) n cc2] 221)) rfl (by rfl) (kP 29 1 [(0,.tmp 32)] rfl _ (by exact aEL a n cc2 _)) ?_
    simp only [Ls]
    refine dD 34 (.slice (some ⟨g2,0,none⟩) (k+1) c2) w6 rfl (by rfl) (j8 _ _ _ _ rfl _ _ _ rfl rfl hrun) ?_
    refine aY 35 (.pointer (some ⟨p7,0,none⟩)) rfl (by rfl) (by go_simp) ?_
    simp only [Ls]
    refine oG (w6.setCell ⟨p7,0,none⟩ (.slice (some ⟨g2,0,none⟩) (k+1) c2)) rfl (by rfl) (W8 29 (.tmp 35) (.tmp 34) rfl p7 0 rfl (.slice (some ⟨g2,0,none⟩) (k+1) c2) rfl rfl rfl 31 #[u] r7 (by show 0<1;decide) (by kernel_rfl)) ?_
    refine dA ?_
    have hx2:(l.set s x).take (k+1)=(l.set s x).take k++[x]:=by rw [List.take_add_one,hx1];rfl
    rw [<-hx2] at si
    clear q7 r7 hrun hx2
    generalize w6.setCell ⟨p7,0,none⟩ (.slice (some ⟨g2,0,none⟩) (k+1) c2)=w7 at *
    have soq:=Lib.hid so
    have siq:=Lib.hid si
    have sWq:=Lib.hid sW
    clear so si sW
    go_wp2
    go_roundw
    case rel=>exact ⟨k+1,_,_,by omega,by go_num,s3,s5,s6,s7,soq.out,siq.out,sWq.out⟩
    case measure=>simp [intOf];omega
   ·have hksI:((k:Int)==(s:Int))=false:=by rw [beq_eq_false_iff_ne];omega
    have hx1:(l.set s x)[k]?=some x0:=by rw [List.getElem?_set_ne (by omega)];exact hx0
    go_upto_region 6 with fail
    refine c9 ?_
    refine aY 23 (.int .i64 (k:Int)) rfl (by rfl) (by go_simp) ?_
    refine aY 24 (.int .i64 (s:Int)) rfl (by rfl) (by go_simp) ?_
    refine aY 25 (.bool false) rfl (by rfl) (by go_simp) ?_
    simp only [Ls]
    refine dA ?_
    go_upto_region 8 with fail
    obtain ⟨a,n,cc2,u2,w6,rfl,hrun,⟨g2,c2,rfl⟩,q7,r7,s3,s5,s6,s7,so,si,sW⟩:=aJe hB0 (by omega) lw_p7 hp3 hp5 hp6 hp7 n37 n57 n67 hu hin hW bx hv2.more 29
    clear hp3 hp5 hp6 hp7 hu hin hW
    refine c9 ?_
    refine aY 30 (.pointer (some ⟨p7,0,none⟩)) rfl (by rfl) (by go_simp) ?_
    refine aY 31 u rfl (by rfl) (mC 29 (.tmp 30) rfl p7 0 rfl u _ Tryz.underlying29 rfl (q7.cellIs 0 rfl)) ?_
    refine aY 32 (.slice (some a) n cc2) rfl (by rfl) (by go_simp) ?_
    simp only [Ls]
    refine dD 33 (.slice (some ⟨w2.heap.size,0,none⟩) 1 1) (w2.alloc (.cells #[.slice (some a) n cc2] 221)) rfl (by rfl) (kP 29 1 [(0,.tmp 32)] rfl _ (by exact aEL a n cc2 _)) ?_
    simp only [Ls]
    refine dD 34 (.slice (some ⟨g2,0,none⟩) (k+1) c2) w6 rfl (by rfl) (j8 _ _ _ _ rfl _ _ _ rfl rfl hrun) ?_
    refine aY 35 (.pointer (some ⟨p7,0,none⟩)) rfl (by rfl) (by go_simp) ?_
    simp only [Ls]
    refine oG (w6.setCell ⟨p7,0,none⟩ (.slice (some ⟨g2,0,none⟩) (k+1) c2)) rfl (by rfl) (W8 29 (.tmp 35) (.tmp 34) rfl p7 0 rfl (.slice (some ⟨g2,0,none⟩) (k+1) c2) rfl rfl rfl 31 #[u] r7 (by show 0<1;decide) (by kernel_rfl)) ?_
    refine dA ?_
    have hx2:(l.set s x).take (k+1)=(l.set s x).take k++[x0]:=by rw [List.take_add_one,hx1];rfl
    rw [<-hx2] at si
    clear q7 r7 hrun hx2
    generalize w6.setCell ⟨p7,0,none⟩ (.slice (some ⟨g2,0,none⟩) (k+1) c2)=w7 at *
    have soq:=Lib.hid so
    have siq:=Lib.hid si
    have sWq:=Lib.hid sW
    clear so si sW
    go_wp2
    go_roundw
    case rel=>exact ⟨k+1,_,_,by omega,by go_num,s3,s5,s6,s7,soq.out,siq.out,sWq.out⟩
    case measure=>simp [intOf];omega
  ·
   have hltI:¬ (k:Int)<(m:Int):=by omega
   obtain rfl:m=k:=by omega
   obtain ⟨gu,cu,rfl,hcu⟩:∃gu cu,u=.slice (some ⟨gu,0,none⟩) m cu∧m≤cu:=by
    rcases hu.2 with ⟨_,h0⟩|⟨g2,cap,cur,e,_,_,hc,_⟩
    ·omega
    ·exact ⟨g2,cap,e,hc⟩
   go_upto_region 3 with fail
   refine c9 ?_
   refine aY 10 (.int .i64 (m:Int)) rfl (by rfl) (by go_simp) ?_
   refine aY 11 (.pointer (some ⟨p3,0,none⟩)) rfl (by rfl) (by go_simp) ?_
   refine aY 12 (.slice (some ⟨g,0,none⟩) m c) rfl (by rfl) (mC 29 (.tmp 11) rfl p3 0 rfl (.slice (some ⟨g,0,none⟩) m c) _ Tryz.underlying29 rfl (hp3.cellIs 0 rfl)) ?_
   refine aY 13 (.int .i64 m) rfl (by rfl) (by go_simp) ?_
   refine aY 14 (.bool false) rfl (by rfl) (by go_simp) ?_
   simp only [Ls]
   refine dA ?_
   go_upto_region 9 with fail
   refine c9 ?_
   refine aY 36 (.agg #[.slice (some ⟨gu,0,none⟩) m cu]) rfl (by rfl) (N4 31 (.tmp 7) rfl p7 rfl 31 #[.slice (some ⟨gu,0,none⟩) m cu] _ hp7 Tryz.underlying31 rfl (by kernel_rfl)) ?_
   simp only [Ls]
   refine oG (wr.setRow p6 #[.slice (some ⟨gu,0,none⟩) m cu]) rfl (by rfl) (qG 31 (.tmp 6) (.tmp 36) rfl p6 rfl (#[.slice (some ⟨gu,0,none⟩) m cu]) rfl 31 (#[.slice none 0 0]) hp6 (by rfl) (by kernel_rfl) (by simp [Value.oneCell'])) ?_
   refine dA ?_
   have gS:wr.grownBy (wr.setRow p6 #[.slice (some ⟨gu,0,none⟩) m cu]) (some p6):=aEm _ _ _
   have hu2:=World.ownsRow.kept hu gS (.inr λe=>rE hu hp6 (by decide) e.symm)
   have hin2:=hin.kept gS (λg hg cur e=>by cases hg;unfold aC at hp6;rw [hp6] at e;cases e)
   have hW2:=eJ hW lw_p6 (#[.slice (some ⟨gu,0,none⟩) m cu])
   have hp62:=hp6.row (#[.slice (some ⟨gu,0,none⟩) m cu])
   rw [jB (by rw [List.length_set];omega)] at hin2
   clear hu hin hW hp6 gS
   generalize wr.setRow p6 #[.slice (some ⟨gu,0,none⟩) m cu]=wz at *
   go_wp2_with fail
   exact bodyPost_ret (results_cell_row rfl _ _ p6 31 (#[.slice (some ⟨gu,0,none⟩) m cu]) (0,0) _ rfl hp62 (by exact Tryz.underlying31) rfl (by kernel_rfl)) rfl ⟨gu,cu,rfl,hcu,(World.ownsRow.lt hu2 gu rfl).1,(World.ownsRow.lt hu2 gu rfl).2,hin2.ref hu2 (λk h1 h2=>⟨h1,h2⟩),hW2⟩
theorem a8b{P:Program}{op:Oper}{a:Act}{w:World}(ty:TypeId)(x:Operand)(ho:op.op=.load ty x)(b o:Nat)(hx:a.eval x=.pointer (some ⟨b,o,none⟩))(cs:List Value)(d:TypeDesc)(hc:w.rangeAt b o cs)
 (hu:P.underlying ty=some d) (hd:d.isRow=true) (hi:(P.info? ty).map (·.size)=some cs.length):(execOp a.eval op).run P w=.ok (.value (.agg cs.toArray)) w:=by
 unfold execOp
 simp only [ho,hx,Instr.loadAt,Instr.sureAddr,Sem.run_bind,Sem.run_pure,Result.andThen_ok,run_loadVar_mid w b o ty cs d hc hu hd hi]
theorem aSM(w:World):(zeroValue 121).run Tryz.prog w=.ok (.agg #[.bool false,.string .empty]) w:=by kernel_rfl
set_option maxRecDepth 100000 in
theorem a8m(N g m c k:Nat)(cv:Nat->Prop)(l:List (Option aQ))(x:Option aQ)(hk:k<m)(_hm:m≤1000)(hN:N≤1000)(hx:l[k]?=some x)(w:World)(hg:g<w.heap.size)(hcv:∀k,cv k->k<w.heap.size)(h:lV N w g cv l):
 Calls Tryz.prog 52 #[.agg #[.slice (some ⟨g,0,none⟩) m c],.int .i64 (k:Int)] w λe w'=>e=.returned (.agg (vV x).toArray)∧Below w.heap.size w w':=by
 obtain ⟨B0,hB0e,hW,hB0⟩:=B9 w
 rw [hB0e]
 obtain ⟨b,mm,cc,vs,e1,e0,e2,e3,e4,e5,e6⟩:=h k x hx
 have R1:Hid (∀W,Below B0 w W->W.cell? ⟨g,k,none⟩=some (.slice (some ⟨b,0,none⟩) (mm+1) cc)):=Lib.hid λW hb=>(World.cell?_of_block (hb.block g (by omega))).trans e1
 have hbB:b<B0:=by have:=hcv b e3;omega
 have R2:Hid (∀W,Below B0 w W->W.rangeAt b (mm*2) (vV x)):=Lib.hid λW hb j v hv=>(World.cell?_of_block (hb.block b hbB)).trans (e6 _ v (by rw [o3 (by omega),e4];rw [<-hv];congr 1;omega))
 have hkI:(k:Int)<(m:Int):=by omega
 have hkn:¬ (k:Int)<0:=by omega
 have lJ:(mm:Int)<((mm+1:Nat):Int):=by omega
 have hmI2:(mm:Int)<(mm:Int)+1:=by omega
 have hmn:¬ (mm:Int)<0:=by omega
 have hwi:IntKind.i64.wrap (((mm+1:Nat):Int)-1)=(mm:Int):=by rw [IntWalk.i64_in _ (by omega)];omega
 have hwm:IntKind.i64.wrap (mm:Int)=(mm:Int):=IntWalk.i64_in _ (by omega)
 clear h e1 e2 e3 e4 e5 e6
 have hB0q:=Lib.hid hB0e
 clear hB0e
 go_enter Tryz.func52,Tryz.ntmps52
 go_upto_region 0 with fail
 refine c9 ?_
 refine dD 2 (.pointer (some ⟨w.heap.size,0,none⟩)) (w.alloc (.cells (#[.slice (some ⟨g,0,none⟩) m c]) 31)) rfl (by rfl) (aEY 31 (.tmp 0) rfl (.agg (#[.slice (some ⟨g,0,none⟩) m c])) rfl) ?_
 simp only [Ls]
 have lw_p2:=bI hB0 hW.size
 have hp2:=aC.new w 31 (#[.slice (some ⟨g,0,none⟩) m c])
 replace hW:=lQ hW hB0 (.cells (#[.slice (some ⟨g,0,none⟩) m c]) 31)
 generalize w.alloc (.cells (#[.slice (some ⟨g,0,none⟩) m c]) 31)=w1 at *
 generalize w.heap.size=p2 at hp2 lw_p2  ⊢
 refine dD 4 (.pointer (some ⟨w1.heap.size,0,none⟩)) (w1.alloc (.cells (#[.bool false,.string .empty]) 121)) rfl (by rfl) (oO 121 rfl _ (aSM _)) ?_
 simp only [Ls]
 have lp2_p4:=hp2.lt
 have lw_p4:=bI hB0 hW.size
 have hp4:=aC.new w1 121 (#[.bool false,.string .empty])
 have bx:=sE w1 (.cells (#[.bool false,.string .empty]) 121)
 replace hp2:=gO hp2 bx
 replace hW:=kQ hW hB0 bx
 clear bx
 generalize w1.alloc (.cells (#[.bool false,.string .empty]) 121)=w2 at *
 generalize w1.heap.size=p4 at hp4 lw_p4 lp2_p4 ⊢
 refine dA ?_
 go_upto_region 1 with fail
 replace hp4:=hp4.drew
 refine wp_region_held_drew (S:=λwr=>aC wr p2 31 (#[.slice (some ⟨g,0,none⟩) m c])∧Below B0 w wr) (by kernel_rfl) ⟨hp2.drew,jV hW 1⟩ (λhH=>?_)
 clear hp2 hW
 obtain ⟨hp2,hW⟩:=hH
 generalize w2.drew=w3 at *
 refine iX 14 0 5 (.pointer (some ⟨p2,0,none⟩)) rfl rfl (by kernel_rfl) (by kernel_rfl) (by kernel_rfl) (λ_ _ _ h=>h) (Or.inl ⟨by rfl,λw _=>by go_simp⟩) ⟨hp2,hW⟩ ?_
 simp only [Ls]
 refine iX 13 1 6 (.slice (some ⟨g,0,none⟩) m c) rfl rfl (by kernel_rfl) (by kernel_rfl) (by kernel_rfl) (λ_ _ _ h=>h) (Or.inl ⟨by rfl,λ_ h=>mC 29 (.tmp 5) rfl p2 0 rfl (.slice (some ⟨g,0,none⟩) m c) _ Tryz.underlying29 rfl (h.1.cellIs 0 rfl)⟩) ⟨hp2,hW⟩ ?_
 simp only [Ls]
 refine iX 12 2 7 (.int .i64 (k:Int)) rfl rfl (by kernel_rfl) (by kernel_rfl) (by kernel_rfl) (λ_ _ _ h=>h) (Or.inl ⟨by rfl,λw _=>by go_simp⟩) ⟨hp2,hW⟩ ?_
 simp only [Ls]
 refine iX 11 3 8 (.pointer (some ⟨g,k,none⟩)) rfl rfl (by kernel_rfl) (by kernel_rfl) (by kernel_rfl) (λ_ _ _ h=>h) (Or.inl ⟨by rfl,λw _=>by go_simp⟩) ⟨hp2,hW⟩ ?_
 simp only [Ls]
 refine iX 10 4 9 (.slice (some ⟨b,0,none⟩) (mm+1) cc) rfl rfl (by kernel_rfl) (by kernel_rfl) (by kernel_rfl) (λ_ _ _ h=>h) (Or.inl ⟨by rfl,λ_ h=>mC 221 (.tmp 8) rfl g k rfl (.slice (some ⟨b,0,none⟩) (mm+1) cc) _ Tryz.underlying221 rfl (R1.out _ h.2)⟩) ⟨hp2,hW⟩ ?_
 simp only [Ls]
 refine iX 9 5 10 (.pointer (some ⟨p2,0,none⟩)) rfl rfl (by kernel_rfl) (by kernel_rfl) (by kernel_rfl) (λ_ _ _ h=>h) (Or.inl ⟨by rfl,λw _=>by go_simp⟩) ⟨hp2,hW⟩ ?_
 simp only [Ls]
 refine iX 8 6 11 (.slice (some ⟨g,0,none⟩) m c) rfl rfl (by kernel_rfl) (by kernel_rfl) (by kernel_rfl) (λ_ _ _ h=>h) (Or.inl ⟨by rfl,λ_ h=>mC 29 (.tmp 10) rfl p2 0 rfl (.slice (some ⟨g,0,none⟩) m c) _ Tryz.underlying29 rfl (h.1.cellIs 0 rfl)⟩) ⟨hp2,hW⟩ ?_
 simp only [Ls]
 refine iX 7 7 12 (.int .i64 (k:Int)) rfl rfl (by kernel_rfl) (by kernel_rfl) (by kernel_rfl) (λ_ _ _ h=>h) (Or.inl ⟨by rfl,λw _=>by go_simp⟩) ⟨hp2,hW⟩ ?_
 simp only [Ls]
 refine iX 6 8 13 (.pointer (some ⟨g,k,none⟩)) rfl rfl (by kernel_rfl) (by kernel_rfl) (by kernel_rfl) (λ_ _ _ h=>h) (Or.inl ⟨by rfl,λw _=>by go_simp⟩) ⟨hp2,hW⟩ ?_
 simp only [Ls]
 refine iX 5 9 14 (.slice (some ⟨b,0,none⟩) (mm+1) cc) rfl rfl (by kernel_rfl) (by kernel_rfl) (by kernel_rfl) (λ_ _ _ h=>h) (Or.inl ⟨by rfl,λ_ h=>mC 221 (.tmp 13) rfl g k rfl (.slice (some ⟨b,0,none⟩) (mm+1) cc) _ Tryz.underlying221 rfl (R1.out _ h.2)⟩) ⟨hp2,hW⟩ ?_
 simp only [Ls]
 refine iX 4 10 15 (.int .i64 ((mm+1:Nat):Int)) rfl rfl (by kernel_rfl) (by kernel_rfl) (by kernel_rfl) (λ_ _ _ h=>h) (Or.inl ⟨by rfl,λw _=>by go_simp⟩) ⟨hp2,hW⟩ ?_
 simp only [Ls]
 refine iX 3 11 16 (.int .i64 (mm:Int)) rfl rfl (by kernel_rfl) (by kernel_rfl) (by kernel_rfl) (λ_ _ _ h=>h) (Or.inl ⟨by rfl,λw _=>by go_simp⟩) ⟨hp2,hW⟩ ?_
 simp only [Ls]
 refine iX 2 12 17 (.pointer (some ⟨b,mm*2,none⟩)) rfl rfl (by kernel_rfl) (by kernel_rfl) (by kernel_rfl) (λ_ _ _ h=>h) (Or.inl ⟨by rfl,λw _=>by go_simp⟩) ⟨hp2,hW⟩ ?_
 simp only [Ls]
 refine iX 1 13 18 (.agg ((vV x).toArray)) rfl rfl (by kernel_rfl) (by kernel_rfl) (by kernel_rfl) (λ_ _ _ h=>h) (Or.inl ⟨by rfl,λ_ h=>a8b 121 (.tmp 17) rfl b (mm*2) rfl (vV x) _ (R2.out _ h.2) Tryz.underlying121 rfl ((N2 x).trans (by simp))⟩) ⟨hp2,hW⟩ ?_
 simp only [Ls]
 refine wpAnyH_ready (by kernel_rfl) (by simp) (aMU 0 14 (w3.setRow p4 ((vV x).toArray)) rfl rfl (by rfl) (qG 121 (.tmp 4) (.tmp 18) rfl p4 rfl ((vV x).toArray) rfl 121 (#[.bool false,.string .empty]) hp4 (uR (by kernel_rfl) (N2 x)) (N2 x) (aAX x)) ⟨hp2.rowFar (show p4≠p2 from (by omega)) _,eJ hW lw_p4 _⟩ (λ_=>?_) AllReadyH.nil)
 replace hp2:=hp2.rowFar (show p4≠p2 from (by omega)) ((vV x).toArray)
 replace hp4:=hp4.row ((vV x).toArray)
 replace hW:=eJ hW lw_p4 ((vV x).toArray)
 generalize w3.setRow p4 ((vV x).toArray)=w4 at *
 refine wpAnyH_done (by kernel_rfl) ?_ _
 go_wp2_with fail
 exact bodyPost_ret (results_cell_row rfl _ _ p4 121 ((vV x).toArray) (0,0) _ rfl hp4 (by exact Tryz.underlying121) rfl (N2 x)) rfl ⟨rfl,hW⟩
theorem aRv{w wr w':World}{B0 N k p2 p7:Nat}{u v:Value}{outs:List Value}{xs:List (Option aQ)}{x':Option aQ}(hB0:B0≤w.heap.size)(hk:k≤1000)(lw7:B0≤p7)
 (hp6:aC wr p2 31 #[.slice none 0 0]) (hp7:aC wr p7 31 #[u]) (n67:p2≠p7)
 (hu:wr.ownsRow B0 221 1 u k outs) (hin:iG wr B0 N outs xs) (hW:Below B0 w wr) (bx:Below wr.heap.size wr w') (hv:iN w' wr.heap.size N v x') (ty:TypeId) :
 ∃a n cc u2 w6,v=.slice (some a) n cc∧(Builtin.append_ #[29,29] ty #[u,.slice (some ⟨w'.heap.size,0,none⟩) 1 1]).run Tryz.prog (w'.alloc (.cells #[v] 221))=.ok u2 w6∧(∃g2 c2,u2=.slice (some ⟨g2,0,none⟩) (k+1) c2)∧aC w' p7 31 #[u]∧aC w6 p7 31 #[u] ∧
  aC (w6.setCell ⟨p7,0,none⟩ u2) p2 31 #[.slice none 0 0]∧aC (w6.setCell ⟨p7,0,none⟩ u2) p7 31 #[u2] ∧
  (w6.setCell ⟨p7,0,none⟩ u2).ownsRow B0 221 1 u2 (k+1) (outs++[v])∧iG (w6.setCell ⟨p7,0,none⟩ u2) B0 N (outs++[v]) (xs++[x'])∧Below B0 w (w6.setCell ⟨p7,0,none⟩ u2):=by
 have hBw:=bI hB0 hW.size
 have hu':=World.ownsRow.kept hu (V1 bx) (by cases u.ownBlock<;>simp)
 have hin':=hin.below bx
 have q6:=hp6.below bx hp6.lt
 have q7:=hp7.below bx hp7.lt
 have hW':=hW.trans (bx.mono hBw)
 have hBw':=bI hB0 hW'.size
 have hv':iN w' B0 N v x':=by
  obtain ⟨b,m0,c0,vs,rfl,h1,h2,h3,h4⟩:=hv
  refine ⟨b,m0,c0,vs,rfl,h1,h2,h3,h4.1,?_⟩
  rcases h4.2 with h0|⟨g2,cap,cur,e,hg,r⟩
  ·exact .inl h0
  ·exact .inr ⟨g2,cap,cur,e,bI hBw hg,r⟩
 obtain ⟨a,n,cc,rfl⟩:∃a n cc,v=.slice (some a) n cc:=by
  obtain ⟨b,m0,c0,vs,rfl,_⟩:=hv
  exact ⟨_,_,_,rfl⟩
 have bA:Below w'.heap.size w' (w'.alloc (.cells #[.slice (some a) n cc] 221)):=(Below.refl _ _).alloc (aS _) _
 have hq:=aC.new w' 221 #[.slice (some a) n cc]
 obtain ⟨u2,w6,c2,g2,hrun,e2,ho2,hgr⟩:=aL2 (bI hBw' bA.size) hk (World.ownsRow.alloc hu' _) rfl hq ty
 have huA:=World.ownsRow.alloc hu' (.cells #[.slice (some a) n cc] 221)
 have r6:=(q6.alloc (.cells #[.slice (some a) n cc] 221)).grown hgr (rE huA (q6.alloc _) (by decide))
 have r7:=(q7.alloc (.cells #[.slice (some a) n cc] 221)).grown hgr (rE huA (q7.alloc _) (by decide))
 have hinA:=((hin'.below bA).snoc (hv'.below bA)).kept hgr (λg hg=>aMq huA g hg)
 have hW6:=(hW'.alloc hBw' (.cells #[.slice (some a) n cc] 221)).grown hgr (bI hBw' bA.size) (λj hj=>(World.ownsRow.lt huA j hj).1)
 have gS:w6.grownBy (w6.setCell ⟨p7,0,none⟩ u2) (some p7):=⟨rfl,rfl,rfl,by simp [World.setCell],λk _ hk=>Below.heap_setCell w6 _ u2 k (λe=>hk (by rw [e]))⟩
 refine ⟨a,n,cc,u2,w6,rfl,hrun,⟨g2,c2,e2⟩,q7,r7,r6.far (p:=⟨p7,0,none⟩) n67 _,r7.set_ 0 _,?_,hinA.kept gS (λg hg cur e=>?_),hW6.setCell (p:=⟨p7,0,none⟩) lw7 _⟩
 ·exact World.ownsRow.kept ho2 gS (.inr λe=>rE ho2 r7 (by decide) e.symm)
 ·cases hg
  unfold aC at r7
  rw [r7] at e
  cases e
set_option maxRecDepth 100000 in
theorem aKp(m:Nat)(hm:m≤1000)(hm0:0<m)(w:World):
 Calls Tryz.prog 29 #[.int .i64 (m:Int)] w λe w'=>∃g' c',e=.returned (.agg #[.slice (some ⟨g',0,none⟩) m c'])∧m≤c'∧w.heap.size≤g'∧g'<w'.heap.size∧lV 0 w' g' (λk=>w.heap.size≤k∧k<w'.heap.size) (List.replicate m none)∧Below w.heap.size w w':=by
 obtain ⟨B0,hB0e,hW,hB0⟩:=B9 w
 rw [hB0e]
 have hB0q:=Lib.hid hB0e
 clear hB0e
 go_enter Tryz.func29,Tryz.ntmps29
 go_upto_region 0 with fail
 refine c9 ?_
 refine dD 2 (.pointer (some ⟨w.heap.size,0,none⟩)) (w.alloc (.cells (#[.slice none 0 0]) 31)) rfl (by rfl) (oO 31 rfl _ (aB8 _)) ?_
 simp only [Ls]
 have lw_p2:=bI hB0 hW.size
 have hp2:=aC.new w 31 (#[.slice none 0 0])
 replace hW:=lQ hW hB0 (.cells (#[.slice none 0 0]) 31)
 generalize w.alloc (.cells (#[.slice none 0 0]) 31)=w1 at *
 generalize w.heap.size=p2 at hp2 lw_p2  ⊢
 refine dA ?_
 go_upto_region 1 with fail
 refine c9 ?_
 refine dD 3 (.pointer (some ⟨w1.heap.size,0,none⟩)) (w1.alloc (.cells (#[.slice none 0 0]) 31)) rfl (by rfl) (oO 31 rfl _ (aB8 _)) ?_
 simp only [Ls]
 have lp2_p3:=hp2.lt
 have lw_p3:=bI hB0 hW.size
 have hp3:=aC.new w1 31 (#[.slice none 0 0])
 have bx:=sE w1 (.cells (#[.slice none 0 0]) 31)
 replace hp2:=gO hp2 bx
 replace hW:=kQ hW hB0 bx
 clear bx
 generalize w1.alloc (.cells (#[.slice none 0 0]) 31)=w2 at *
 generalize w1.heap.size=p3 at hp3 lw_p3 lp2_p3 ⊢
 refine dA ?_
 go_upto_region 2 with fail
 refine c9 ?_
 refine aY 4 (.int .i64 0) rfl (by rfl) (by go_simp) ?_
 simp only [Ls]
 refine dA ?_
 go_wp2
 go_loopw [4] (λv wr=>∃(k:Nat) (u:Value) (outs:List Value),k≤m∧v=.int .i64 (k:Int)∧aC wr p2 31 #[.slice none 0 0]∧aC wr p3 31 #[u]∧wr.ownsRow B0 221 1 u k outs∧iG wr B0 0 outs (List.replicate k none)∧Below B0 w wr) (λv _=>m-(intOf v).toNat)
 case atStart=>exact ⟨0,_,[],by omega,rfl,hp2,hp3,World.ownsRow_nil _ _ _ _,iG.nil _ _ _,hW⟩
 case round =>
  clear hp2 hp3 hW
  have n23:p2≠p3:=by omega
  obtain ⟨k,u,outs,hk,rfl,hp2,hp3,hu,hin,hW⟩:=hrel
  by_cases hlt:k<m
  ·
   have hltI:(k:Int)<(m:Int):=by omega
   have hkn:¬ (k:Int)<0:=by omega
   have hwi:IntKind.i64.wrap ((k:Int)+1)=((k+1:Nat):Int):=by rw [IntWalk.i64_in _ (by omega)];omega
   go_upto_region 3 with fail
   refine c9 ?_
   refine aY 5 (.int .i64 (k:Int)) rfl (by rfl) (by go_simp) ?_
   refine aY 6 (.int .i64 (m:Int)) rfl (by rfl) (by go_simp) ?_
   refine aY 7 (.bool true) rfl (by rfl) (by go_simp) ?_
   simp only [Ls]
   refine dA ?_
   go_upto_region 5 with fail
   refine c9 ?_
   have bx:Below wr.heap.size wr (wr.alloc (.cells (vV none).toArray 121)):=(Below.refl _ _).alloc (aS _) _
   have hv:iN (wr.alloc (.cells (vV none).toArray 121)) wr.heap.size 0 (.slice (some ⟨wr.heap.size,0,none⟩) 1 1) none:=⟨_,0,1,[],rfl,aS _,rfl,λ_ h=>by simp at h,World.ownsRow_lit wr (vV none).toArray 1 (aS _) (by unfold maxLen;omega) rfl⟩
   obtain ⟨a,n,cc2,u2,w6,ea,hrun,⟨g2,c2,rfl⟩,q7,r7,s6,s7,so,si,sW⟩:=aRv hB0 (by omega) lw_p3 hp2 hp3 n23 hu hin hW bx hv 29
   cases ea
   refine aY 10 (.pointer (some ⟨p3,0,none⟩)) rfl (by rfl) (by go_simp) ?_
   refine aY 11 u rfl (by rfl) (mC 29 (.tmp 10) rfl p3 0 rfl u _ Tryz.underlying29 rfl (hp3.cellIs 0 rfl)) ?_
   refine aY 12 (.agg (vV none).toArray) rfl (by rfl) (aCO 121 [] rfl _ (by kernel_rfl)) ?_
   simp only [Ls]
   refine dD 13 (.slice (some ⟨wr.heap.size,0,none⟩) 1 1) (wr.alloc (.cells (vV none).toArray 121)) rfl (by rfl) (kP 221 1 [(0,.tmp 12)] rfl _ (by exact aKT none _)) ?_
   simp only [Ls]
   clear hp2 hp3 hu hin hW bx hv
   refine dD 14 (.slice (some ⟨(wr.alloc (.cells (vV none).toArray 121)).heap.size,0,none⟩) 1 1) ((wr.alloc (.cells (vV none).toArray 121)).alloc (.cells #[.slice (some ⟨wr.heap.size,0,none⟩) 1 1] 221)) rfl (by rfl) (kP 29 1 [(0,.tmp 13)] rfl _ (by exact aEL ⟨wr.heap.size,0,none⟩ 1 1 _)) ?_
   simp only [Ls]
   refine dD 15 (.slice (some ⟨g2,0,none⟩) (k+1) c2) w6 rfl (by rfl) (j8 _ _ _ _ rfl _ _ _ rfl rfl hrun) ?_
   refine aY 16 (.pointer (some ⟨p3,0,none⟩)) rfl (by rfl) (by go_simp) ?_
   simp only [Ls]
   refine oG (w6.setCell ⟨p3,0,none⟩ (.slice (some ⟨g2,0,none⟩) (k+1) c2)) rfl (by rfl) (W8 29 (.tmp 16) (.tmp 15) rfl p3 0 rfl (.slice (some ⟨g2,0,none⟩) (k+1) c2) rfl rfl rfl 31 #[u] r7 (by show 0<1;decide) (by kernel_rfl)) ?_
   refine dA ?_
   have hx2:List.replicate (k+1) (none:Option aQ)=List.replicate k none++[none]:=by rw [<-List.replicate_append_replicate];rfl
   rw [<-hx2] at si
   clear q7 r7 hrun hx2
   generalize w6.setCell ⟨p3,0,none⟩ (.slice (some ⟨g2,0,none⟩) (k+1) c2)=w7 at *
   have soq:=Lib.hid so
   have siq:=Lib.hid si
   have sWq:=Lib.hid sW
   clear so si sW
   go_wp2
   go_roundw
   case rel=>exact ⟨k+1,_,_,by omega,by go_num,s6,s7,soq.out,siq.out,sWq.out⟩
   case measure=>simp [intOf];omega
  ·
   have hltI:¬ (k:Int)<(m:Int):=by omega
   obtain rfl:m=k:=by omega
   obtain ⟨gu,cu,rfl,hcu⟩:∃gu cu,u=.slice (some ⟨gu,0,none⟩) m cu∧m≤cu:=by
    rcases hu.2 with ⟨_,h0⟩|⟨g2,cap,cur,e,_,_,hc,_⟩
    ·omega
    ·exact ⟨g2,cap,e,hc⟩
   go_upto_region 3 with fail
   refine c9 ?_
   refine aY 5 (.int .i64 (m:Int)) rfl (by rfl) (by go_simp) ?_
   refine aY 6 (.int .i64 (m:Int)) rfl (by rfl) (by go_simp) ?_
   refine aY 7 (.bool false) rfl (by rfl) (by go_simp) ?_
   simp only [Ls]
   refine dA ?_
   go_upto_region 6 with fail
   refine c9 ?_
   refine aY 17 (.agg #[.slice (some ⟨gu,0,none⟩) m cu]) rfl (by rfl) (N4 31 (.tmp 3) rfl p3 rfl 31 #[.slice (some ⟨gu,0,none⟩) m cu] _ hp3 Tryz.underlying31 rfl (by kernel_rfl)) ?_
   simp only [Ls]
   refine oG (wr.setRow p2 #[.slice (some ⟨gu,0,none⟩) m cu]) rfl (by rfl) (qG 31 (.tmp 2) (.tmp 17) rfl p2 rfl (#[.slice (some ⟨gu,0,none⟩) m cu]) rfl 31 (#[.slice none 0 0]) hp2 (by rfl) (by kernel_rfl) (by simp [Value.oneCell'])) ?_
   refine dA ?_
   have gS:wr.grownBy (wr.setRow p2 #[.slice (some ⟨gu,0,none⟩) m cu]) (some p2):=aEm _ _ _
   have hu2:=World.ownsRow.kept hu gS (.inr λe=>rE hu hp2 (by decide) e.symm)
   have hin2:=hin.kept gS (λg hg cur e=>by cases hg;unfold aC at hp2;rw [hp2] at e;cases e)
   have hW2:=eJ hW lw_p2 (#[.slice (some ⟨gu,0,none⟩) m cu])
   have hp22:=hp2.row (#[.slice (some ⟨gu,0,none⟩) m cu])
   clear hu hin hW hp2 gS
   generalize wr.setRow p2 #[.slice (some ⟨gu,0,none⟩) m cu]=wz at *
   go_wp2_with fail
   exact bodyPost_ret (results_cell_row rfl _ _ p2 31 (#[.slice (some ⟨gu,0,none⟩) m cu]) (0,0) _ rfl hp22 (by exact Tryz.underlying31) rfl (by kernel_rfl)) rfl ⟨gu,cu,rfl,hcu,(World.ownsRow.lt hu2 gu rfl).1,(World.ownsRow.lt hu2 gu rfl).2,hin2.ref hu2 (λk h1 h2=>⟨h1,h2⟩),hW2⟩
