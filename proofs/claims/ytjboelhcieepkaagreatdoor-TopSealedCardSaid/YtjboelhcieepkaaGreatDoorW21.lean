/- A part of the proof of TopSealed. -/
import Derived.Test.YtjboelhcieepkaaGreatDoorW20
noncomputable section
set_option maxRecDepth 16384
namespace Go.Proofs.YtjboelhcieepkaaGreatDoor
open Go.RowKit
def qB(x:aJ):Bool:=!((x.s:Int)==0)
theorem a1Z(x:aJ):qB x=!(Nat.beq x.s 0):=by
 unfold qB
 congr 1
 cases h:x.s with
 |zero=>rfl
 |succ k=>rfl
def us2(x:bD)(p:List Bool):aB×List Ob:=cL ⟨[31],[],0⟩ H4 Xt 12 (p.map .b) (eA Xt 215 [.a (.q (.node x))] .e 0)
def aAy(x:bD)(p:List Bool):Option SV×List Ob:=((dS Xt 215 (us2 x p).1).map (·.1),(us2 x p).2)
def aCp(a b c d:aJ)(p:List Bool):Option SV×List Ob:=(some (aM (kR p)),[.t (qB a) (p.getD 0 false),.t (qB b) (p.getD 1 false),.t (qB c) (p.getD 2 false),.t (qB d) (p.getD 3 false)])
theorem bDt(ix:Nat)(a b c d:aJ)(hl:1≤1∧1≤2)(h:ix≤7):(m8 4).map (aAy (.inner 1 ix a b c d hl h))=(m8 4).map (aCp a b c d):=by kernel_rfl
theorem bBN(ix:Nat)(a b c d:aJ)(hl:1≤2∧2≤2)(h:ix≤7):(m8 4).map (aAy (.inner 2 ix a b c d hl h))=(m8 4).map (aCp a b c d):=by kernel_rfl
def yM(a b c d:aJ):List Bool:=[qB a,qB b,qB c,qB d]
def t8:bD->List Bool
 | .leaf _ a b c d _=>wH a b c d
 | .inner _ _ a b c d _ _=>yM a b c d
theorem bDH(lv ix:Nat)(a b c d:aJ)(hl:1≤lv∧lv≤2)(h:ix≤7)(w:World)(hg:cG Xt w):Calls Xt.P 215 #[.agg (bD.inner lv ix a b c d hl h).vals.toArray] w λe w'=>e=.returned (.int .i64 ((kR (yM a b c d):Nat):Int))∧Below w.heap.size w w':=by
 have hall:(m8 4).map (aAy (.inner lv ix a b c d hl h))=(m8 4).map (aCp a b c d):=by
  have h12:lv=1∨lv=2:=by omega
  rcases h12 with rfl|rfl
  ·exact bDt ix a b c d hl h
  ·exact bBN ix a b c d hl h
 have h0:=cW hall (W7 (k:=4) (l:=yM a b c d) rfl)
 unfold aAy aCp at h0
 simp only [cH] at h0
 obtain ⟨h1,h2⟩:=h0
 obtain ⟨⟨res,st⟩,h3,h4⟩:=dE.1 h1
 simp only at h4
 subst h4
 refine (iQ (E:=E0 Xt w) (r:=[]) (vals:=[.agg (bD.inner lv ix a b c d hl h).vals.toArray]) aH sG h3 ?_ (.cons (.a (.q (.node (.inner lv ix a b c d hl h)))) .nil) (aG.start Xt w hg)).mono ?_
 ·intro ob hob
  have hob':ob∈(us2 (.inner lv ix a b c d hl h) (yM a b c d)).2:=hob
  rw [h2] at hob'
  simp only [bG,cK,or_false] at hob'
  rcases hob' with rfl|rfl|rfl|rfl<;>rfl
 ·rintro e w' ⟨q,v,rfl,hd,hm⟩
  cases hd
  exact ⟨rfl,hm.below⟩
theorem a3Z(x:bD)(w:World)(hg:cG Xt w):Calls Xt.P 215 #[.agg x.vals.toArray] w λe w'=>e=.returned (.int .i64 ((kR (t8 x):Nat):Int))∧Below w.heap.size w w':=by
 cases x with
 |leaf ix a b c d h=>exact aIS ix a b c d h w hg
 |inner lv ix a b c d hl h=>exact bDH lv ix a b c d hl h w hg
theorem aXj:(eP H4 Xt 12 160 [.v (.int .i64 0)] .e 0).map (·.1)=some (.t [.v (.int .u8 1),bM]):=by kernel_rfl
theorem a1O:(eP H4 Xt 12 160 [.v (.int .i64 1)] .e 0).map (·.1)=some (.t [.v (.int .u8 2),bM]):=by kernel_rfl
theorem aLL(b:Bool)(w:World)(hg:cG Xt w):Calls Xt.P 160 #[.int .i64 ((aV b:Nat):Int)] w λe w'=>e=.returned (.tuple #[.int .u8 ((aV b+1:Nat):Int),.int .i64 0])∧Below w.heap.size w w':=by
 cases b with
 |false =>
  obtain ⟨⟨res,st⟩,h1,h2⟩:=dE.1 aXj
  simp only at h2
  subst h2
  refine (oX (E:=E0 Xt w) (r:=[]) (vals:=[.int .i64 0]) aH sG h1 (.cons (.v _) .nil) (aG.start Xt w hg)).mono ?_
  rintro e' w' ⟨q,v,rfl,hd,hm⟩
  cases hd with|t t =>
   cases t with|cons d1 t=>cases t with|cons d2 t=>cases t;cases d1;cases d2;exact ⟨rfl,hm.below⟩
 |true =>
  obtain ⟨⟨res,st⟩,h1,h2⟩:=dE.1 a1O
  simp only at h2
  subst h2
  refine (oX (E:=E0 Xt w) (r:=[]) (vals:=[.int .i64 1]) aH sG h1 (.cons (.v _) .nil) (aG.start Xt w hg)).mono ?_
  rintro e' w' ⟨q,v,rfl,hd,hm⟩
  cases hd with|t t =>
   cases t with|cons d1 t=>cases t with|cons d2 t=>cases t;cases d1;cases d2;exact ⟨rfl,hm.below⟩
def bEb:List (FuncId×bV):=stops [215,160] oL
def HY:Hk:=cZ Xt (cT bEb) 14 6
theorem aP1:bZ Xt HY:=eH aH (jQ pG) 6
def oH(x:bD)(s:Nat)(d c0 c1 c2 c3:Bool):Rp SV:=cB [.q (.node x),.one (aM s),bS d,bS c0,bS c1,bS c2,bS c3]
def enX(x:bD)(s st u:Nat)(d c0 c1 c2 c3 f:Bool):aB×List Ob:=cL S0 HY Xt 12 (.c [] (λ_=>aM u) []::bif f then [] else [.c [] (λ_=>.t [.v (.int .u8 (st:Int)),bM]) []]) (eA Xt 162 [.a (oH x s d c0 c1 c2 c3)] .e 0)
def O7(x:bD)(s st u:Nat)(d c0 c1 c2 c3 f:Bool):Option SV×List Ob:=((dS Xt 162 (enX x s st u d c0 c1 c2 c3 f).1).map (·.1),(enX x s st u d c0 c1 c2 c3 f).2)
def aCw(x:bD)(u:Nat):Ob:=.c 215 [.a (.q (.node x))] [] [] 2 (aM u) []
def aGO(z:Int)(st:Nat):Ob:=.c 160 [.v (.int .i64 z)] [] [] 4 (.t [.v (.int .u8 (st:Int)),bM]) []
theorem aTa(x:bD)(s st:Nat)(d c0 c1 c2 c3:Bool):O7 x s st 0 d c0 c1 c2 c3 true=(some (.a (.node 1 33 (.one (.v (.int .u8 0))) (.arr .u8 32 (List.replicate 32 0)))),[aCw x 0]):=by kernel_rfl
theorem bBE(x:bD)(s st u:Nat)(c0 c1 c2 c3:Bool):O7 x s st (u+1) false c0 c1 c2 c3 false=(some (.a (.node 1 33 (.one (.v (.int .u8 (st:Int)))) (.q (.sha x.bytes)))),[aCw x (u+1),aGO s st]):=by kernel_rfl
theorem a4R(x:bD)(s st u:Nat)(c0 c1 c2 c3:Bool):O7 x s st (u+1) true c0 c1 c2 c3 false=(some (.a (.node 1 33 (.one (.v (.int .u8 (st:Int)))) (.q (.sha x.bytes)))),[aCw x (u+1),aGO (IntKind.i64.wrap (1-s)) st]):=by kernel_rfl
theorem aEb{r:List aF}{x:bD}{s:Nat}{d c0 c1 c2 c3:Bool}{us:List Value}(h:aD r (oH x s d c0 c1 c2 c3) us)(r':List aF):aD r' (oH x s d c0 c1 c2 c3) us:=by
 have hf:=nX h
 cases hf with|cons g1 hf=>cases hf with|cons g2 hf=>cases hf with|cons g3 hf=>cases hf with|cons g4 hf=>cases hf with|cons g5 hf=>cases hf with|cons g6 hf=>cases hf with|cons g7 hf =>
  cases hf
  exact aD.cat (g1.toQ r') (aD.cat (g2.toV r') (aD.cat (g3.toV r') (aD.cat (g4.toV r') (aD.cat (g5.toV r') (aD.cat (g6.toV r') (aD.cat (g7.toV r') .nil))))))
def p8(x:bD)(b d:Bool):aJ:=sH (Nat.beq (kR (t8 x)) 0) (Bool.xor d b) x.bytes
theorem aIJ(x:bD)(b d c0 c1 c2 c3:Bool){r:List aF}{vals:List Value}{w:World}(hg:cG Xt w)(ha:aX r [.a (oH x (aV b) d c0 c1 c2 c3)] vals):
 Calls Xt.P 162 vals.toArray w λe w'=>e=.returned (.agg (p8 x b d).vals.toArray)∧Below w.heap.size w w':=by
 have ha':aX [] [.a (oH x (aV b) d c0 c1 c2 c3)] vals:=by
  cases ha with|cons d1 t =>
   cases t
   cases d1 with|a d1=>exact .cons (.a (aEb d1 [])) .nil
 have hUs:∀{u:Nat} {E:bX},E.X=Xt->kR (t8 x)=u->(aCw x u).Holds E:=by
  intro u E hE hu
  have hent:fQ E.X.P 215:=by rw [hE];exact bB (by kernel_rfl)
  refine fV hent λr vals w1 hp ha hm=>?_
  cases ha with|cons d1 t =>
   cases t
   cases d1 with|a d1 =>
    cases d1
    rw [hE]
    refine (a3Z x w1 (hE▸hm.globs)).mono ?_
    rintro e w' ⟨rfl,hb⟩
    exact ⟨_,rfl,by rw [hu];exact .v _,hb⟩
 have hSt:∀{z:Int} {q:Bool} {E:bX},E.X=Xt->z=((aV q:Nat):Int)->(aGO z (aV q+1)).Holds E:=by
  intro z q E hE hz
  subst hz
  have hent:fQ E.X.P 160:=by rw [hE];exact bB (by kernel_rfl)
  refine fV hent λr vals w1 hp ha hm=>?_
  cases ha with|cons d1 t =>
   cases t
   cases d1
   rw [hE]
   refine (aLL q w1 (hE▸hm.globs)).mono ?_
   rintro e w' ⟨rfl,hb⟩
   exact ⟨_,rfl,.t (.cons (.v _) (.cons (.v _) .nil)),hb⟩
 have fin:∀{s st u:Nat} {f:Bool} {res:SV} {obs:List Ob},s=aV b->O7 x s st u d c0 c1 c2 c3 f=(some res,obs)->(∀ob∈obs,ob.Holds (E0 Xt w))->(∀q v,aP q res v->v=.agg (p8 x b d).vals.toArray) ->
  Calls Xt.P 162 vals.toArray w λe w'=>e=.returned (.agg (p8 x b d).vals.toArray)∧Below w.heap.size w w':=by
  intro s st u f res obs hs hgo hob hres
  subst hs
  unfold O7 at hgo
  simp only [cH] at hgo
  obtain ⟨h1,h2⟩:=hgo
  obtain ⟨⟨res',st'⟩,h3,h4⟩:=dE.1 h1
  simp only at h4
  subst h4
  refine (iQ (E:=E0 Xt w) (r:=[]) aH aP1 h3 (by
   intro ob hob'
   refine hob ob ?_
   rw [<-h2]
   exact hob') ha' (aG.start Xt w hg)).mono ?_
  rintro e w' ⟨q,v,rfl,hd,hm⟩
  exact ⟨by rw [hres _ _ hd],hm.below⟩
 have hv0:kR (t8 x)=0->(p8 x b d)=cC:=by intro h;unfold p8;rw [h];rfl
 have hv1:∀k,kR (t8 x)=k+1->(p8 x b d).vals=.int .u8 ((aV (Bool.xor d b)+1:Nat):Int)::nv .u8 (Sh.shaF x.bytes):=by
  intro k h
  unfold p8
  rw [h]
  rfl
 cases hu:kR (t8 x) with
 |zero =>
  refine fin rfl (aTa x (aV b) 0 d c0 c1 c2 c3) (λob hob=>?_) (λq v hd=>?_)
  ·simp only [bG,cK,or_false] at hob
   subst hob
   exact hUs rfl hu
  ·rw [hv0 hu]
   cases hd with|a hd=>cases hd with|node h1 h2 _ _=>cases h1 with|one h1 _=>cases h1;cases h2;rfl
 |succ k =>
  have hres:∀q v,aP q (.a (.node 1 33 (.one (.v (.int .u8 ((aV (Bool.xor d b)+1:Nat):Int)))) (.q (.sha x.bytes)))) v->v=.agg (p8 x b d).vals.toArray:=by
   intro q v hd
   rw [hv1 k hu]
   cases hd with|a hd=>cases hd with|node h1 h2 _ _=>cases h1 with|one h1 _=>cases h1;cases h2;rfl
  cases d with
  |false =>
   refine fin rfl (bBE x (aV b) (aV b+1) k c0 c1 c2 c3) (λob hob=>?_) (by rw [Bool.false_xor] at hres;exact hres)
   simp only [bG,cK,or_false] at hob
   rcases hob with rfl|rfl
   ·exact hUs rfl hu
   ·exact hSt rfl rfl
  |true =>
   refine fin rfl (a4R x (aV b) (aV (!b)+1) k c0 c1 c2 c3) (λob hob=>?_) (by rw [Bool.true_xor] at hres;exact hres)
   simp only [bG,cK,or_false] at hob
   rcases hob with rfl|rfl
   ·exact hUs rfl hu
   ·exact hSt rfl (by cases b<;>rfl)
def aA9:List (FuncId×bV):=stops [219,162,154,160] oL
def HX:Hk:=cZ Xt (cT aA9) 14 6
theorem wM:bZ Xt HX:=eH aH (jQ pG) 6
def O4(n i:Nat)(v:aA):List SV:=[.a (iK n 0),aM i,.a (.q (.nnc v)),.a (.q (.tag v))]
def su0(n i:Nat)(v:aA)(R:Nat->aA)(Ee:Nat->aJ)(B:Nat->Bool):aB:=gQ S0 HX Xt 14 (eA Xt 80 (O4 n i v) (fD [(0,some (fG n 1000 R Ee B 2))]) 1)
def su1(n i:Nat)(v:aA)(R:Nat->aA)(Ee:Nat->aJ)(B:Nat->Bool):Option (aB×List b8):=T3 S0 HX (cT aA9) (uvE n Ee) (su0 n i v R Ee B)
def qP:gR:=⟨[85],[],0⟩
def aFF(c:Rp SV)(k:Nat):Option (List (Rp SV)):=match eF nG c (280*k) 274,uN c (280*k+274) 6 with
 |some x,some d=>some (.q (.node x)::iA d [])
 |_,_=>none
def V9(c:Rp SV):List Nat->Option (List (Rp SV))
 |[]=>some []
 |k::l=>match aFF c k,V9 c l with
  |some a,some b=>some (a++b)
  |_,_=>none
def K8(nb T:Nat)(p:aB):Option aB:=match p.st.hp.get nb with
 |some b=>bif Nat.beq b.k 8 || !(Nat.beq (dK b.cs) (280*T)) then none else (V9 b.cs (List.range T)).map λl=>⟨p.h,p.k,⟨p.st.ts,p.st.hp.put nb ⟨b.T,cB l,b.k⟩,p.st.nx⟩⟩
 |none=>none
def suL(nb T:Nat):List aJ->aB->Option (aB×List Ob×List b8)
 |[],p=>some (p,[],[])
 |e::l,p=>match q8 Xt (cT aA9) 14 6 (aIv e) [] (cL qP HX Xt 13 [.b true] p).1 with
  |some y=>(match (K8 nb T (gQ qP HX Xt 13 y.1)).bind (K8 (nb+3) 1) with
   |some q=>(match suL nb T l q with
    |some z=>some (z.1,(cL qP HX Xt 13 [.b true] p).2++z.2.1,y.2++z.2.2)
    |none=>none)
   |none=>none)
  |none=>none
def su2(t:Bool)(p:aB):aB×List Ob:=cL qP HX Xt 13 [.c [] (λ_=>aM (aV t)) [],.c [] (λ_=>.t [.v (.int .u8 ((aV t+1:Nat):Int)),bM]) []] p
def suR(nb:Nat)(t:Bool)(n i:Nat)(v:aA)(R:Nat->aA)(Ee:Nat->aJ)(B:Nat->Bool)(es:List aJ):Option (aB×List Ob×List b8):=match su1 n i v R Ee B with
 |some y=>(match K8 nb (aT n) (su2 t y.1).1 with
  |some q=>(match suL nb (aT n) es (cL qP HX Xt 13 [.b false] q).1 with
   |some z=>some (z.1,(su2 t y.1).2++((cL qP HX Xt 13 [.b false] q).2++z.2.1),y.2++z.2.2)
   |none=>none)
  |none=>none)
 |none=>none
def jI:Ob->Ob
 | .c g args ns bs _ res new=>.c g args ns bs 0 res new
 |o=>o
def F4(n:Nat):Nat:=9*aT n+21+4*aO n
def aOn(t:Bool)(n i:Nat)(v:aA)(R:Nat->aA)(Ee:Nat->aJ)(B:Nat->Bool)(es:List aJ):Option ((Option SV×Option HB)×List Ob×List b8):=(suR (F4 n) t n i v R Ee B es).map λz=>(((dS Xt 80 z.1).map (·.1),z.1.st.hp.get (F4 n)),z.2.1.map jI,z.2.2.map qS)
def EU(n i:Nat)(e0 e1:aJ)(Ee:Nat->aJ)(k:Nat):aJ:=bif Nat.beq k (num n 0 (i / 4)) then e0 else bif Nat.beq k (num n 1 (i / 16)) then e1 else Ee k
def K3(t:Bool)(n i:Nat)(R:Nat->aA)(Ee:Nat->aJ)(B:Nat->Bool):List Ob:=[.c 154 [.a (cB (s8 n 1000 R Ee B 0 (i / 4))),aM (i%4)] [] [] 0 (aM (aV t)) [],.c 160 [aM (aV t)] [] [] 0 (.t [.v (.int .u8 ((aV t+1:Nat):Int)),bM]) [],.t false false]++List.replicate (aO n) (.t true true)
def aMO(t:Bool)(n i:Nat)(v:aA)(R:Nat->aA)(Ee:Nat->aJ)(B:Nat->Bool)(e0 e1:aJ):Option ((Option SV×Option HB)×List Ob×List b8) :=
 some ((some (.t [.a (iK n (F4 n)),aM (aV t),bM]),some (fG n i (RU i (dV t v) R) (EU n i e0 e1 Ee) B 0)),K3 t n i R Ee B,A8 n 1000 R Ee B++(([zV n i (RU i (dV t v) R) (EU n i e0 e1 Ee) B 0 (i / 4),zV n i (RU i (dV t v) R) (EU n i e0 e1 Ee) B 1 (i / 16)]:List b8).take (aO n)))
def cR(n g:Nat):Prop:=∀(v:aA) (R:Nat->aA) (Ee:Nat->aJ) (B:Nat->Bool) (e0 e1:aJ),(V2 n (g+1)).map (λi=>[false,true].map λt=>aOn t n i v R Ee B ([e0,e1].take (aO n)))=(V2 n (g+1)).map λi=>[false,true].map λt=>aMO t n i v R Ee B e0 e1
