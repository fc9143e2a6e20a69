/- A part of the proof of TopSealed. -/
import Derived.Test.YtjboelhcieepkaaGreatDoorW17
noncomputable section
set_option maxRecDepth 16384
set_option maxHeartbeats 1000000
namespace Go.Proofs.YtjboelhcieepkaaGreatDoor
open Go.RowKit
section
abbrev jS:=FuncId->List SV->Tr->Nat->Option (SV×St)
structure fT where
 g:FuncId
 ns:List Nat
 ds:List Nat
 res:Nat->SV
 new:List HB
def o7.Any(X:aI)(w0:World)(o:o7):Prop:=∀E:bX,E.X=X->E.w0=w0->o.Holds E
inductive b8 where
 |c (o:o7)
 |t (e x:Bool)
def b8.Any(X:aI)(w0:World):b8->Prop
 | .c o=>o.Any X w0
 | .t e x=>e=x
def aEr(d:Tmp):List (Tmp×Bool)->Option Bool
 |[]=>none
 |p::l=>bif Nat.beq p.1 d then some p.2 else aEr d l
def U7(tl:List (Tmp×Bool))(d:Option Tmp)(y:SV):SV×List b8:=match d with
 |some t=>(match aEr t tl with
  |some x=>(match y with
   | .v (.bool e)=>(.v (.bool x),[.t e x])
   |_=>(y,[]))
  |none=>(y,[]))
 |none=>(y,[])
theorem a99{X:aI}{w0:World}{tl:List (Tmp×Bool)}{d:Option Tmp}{y:SV}(h:∀ob∈(U7 tl d y).2,ob.Any X w0):(U7 tl d y).1=y:=by
 unfold U7 at h ⊢
 cases d with
 |none=>rfl
 |some t =>
  simp only at h ⊢
  cases hx:aEr t tl with
  |none=>rfl
  |some x =>
   rw [hx] at h
   simp only at h ⊢
   revert h
   split
   ·rename_i e
    intro h
    have:=h (.t e x) (by simp)
    rw [show e=x from this]
   ·intro _;rfl
def aBb(g:FuncId):List fT->Option fT
 |[]=>none
 |o::l=>bif Nat.beq o.g g then some o else aBb g l
def kS(tb:List fT)(rec:jS):jS:=λg args hp nx=>match aBb g tb with
 |some o=>some (o.res nx,⟨⟨.e,0⟩,(qF (C6 hp o.ds) nx o.new).1,(qF (C6 hp o.ds) nx o.new).2⟩)
 |none=>rec g args hp nx
def obO(tb:List fT)(g:FuncId)(args:List SV)(hp:Tr)(nx:Nat):List b8:=match aBb g tb with
 |some o=>[.c ⟨g,args.map tY,o.ns,o.ns.map λn=>jW (hp.get n),o.ds,nx,o.res nx,o.new⟩]
 |none=>[]
def aHe(tb:List fT)(o:Oper)(ts:Sl)(hp:Tr)(nx:Nat):List b8:=match o.op with
 | .call c=>(match c.callee with
  | .value f=>(match ev ts f with
   | .f (.func g) a b=>obO tb g (a++(c.args.toList.map (ev ts)++b)) hp nx
   |_=>[])
  |_=>[])
 |_=>[]
def aIg(X:aI)(w0:World)(rec:jS)(g:FuncId)(args:List SV)(hp:Tr)(nx:Nat):Prop:=∀res st,rec g args hp nx=some (res,st)->∀(E:bX) (r:List aF) (vals:List Value) (w:World),E.X=X->E.w0=w0->aX r args vals->aG E r hp nx w ->
 (∀w',(callFunc g vals.toArray).run X.P w'=.ok (.enter g vals.toArray) w')∧Calls X.P g vals.toArray w λe w'=>∃q v,e=.returned v∧aP (r++q) res v∧aG E (r++q) st.hp st.nx w'
open Classical in
def mO(X:aI)(w0:World)(rec:jS):jS:=λg args hp nx=>if aIg X w0 rec g args hp nx then rec g args hp nx else none
theorem aM2(X:aI)(w0:World)(rec:jS):kO X w0 (mO X w0 rec):=by
 intro g args hp nx res st h
 unfold mO at h
 split at h
 ·rename_i hg;exact hg res st h
 ·cases h
section
variable {X:aI}{w0:World}{tb:List fT}{rec:jS}
theorem a3F(hrec:kO X w0 rec){g:FuncId}{args:List SV}{hp:Tr}{nx:Nat}(ho:∀ob∈obO tb g args hp nx,ob.Any X w0):aIg X w0 (kS tb rec) g args hp nx:=by
 intro res st h E r vals w hE h0 ha hm
 unfold kS at h
 unfold obO at ho
 cases hl:aBb g tb with
 |none =>
  rw [hl] at h
  exact hrec g args hp nx res st h E r vals w hE h0 ha hm
 |some o =>
  rw [hl] at h ho
  simp only [b6,cH] at h
  obtain ⟨rfl,rfl⟩:=h
  have:=ho _ (iY.2 rfl) E hE h0 r vals w hp (V7 ha) hm rfl
  rw [hE] at this
  exact this
theorem bCB(hrec:kO X w0 rec){o:Oper}{ts:Sl}{hp:Tr}{nx:Nat}(h:∀ob∈aHe tb o ts hp nx,ob.Any X w0):pZ X (mO X w0 (kS tb rec)) o ts hp nx=pZ X (kS tb rec) o ts hp nx:=by
 have key:∀g args,(∀ob∈obO tb g args hp nx,ob.Any X w0)->mO X w0 (kS tb rec) g args hp nx=kS tb rec g args hp nx:=λg args h=>if_pos (a3F hrec h)
 unfold pZ
 unfold aHe at h
 split
 ·rfl
 ·rename_i c hc
  rw [hc] at h
  simp only at h
  split
  ·rename_i f hf
   rw [hf] at h
   simp only at h
   split
   ·rename_i g a b hv
    rw [hv] at h
    simp only at h
    rw [key _ _ h]
   ·rfl
  ·rfl
 ·rfl
end
def B6(X:aI)(tb:List fT)(tl:List (Tmp×Bool))(rec:jS)(ops:Array Oper)(te:List En)(stop:Nat->Bool)(hpF:Nat->Tr):Nat->Nat->Sl->Tr->Nat->List b8->Option (Nat×St×List b8)
 |0,_,_,_,_,_=>none
 |fu+1,m,ts,hp,nx,lg =>
  bif qJ stop ((dY te m).map En.i) then some (m,⟨ts,hp,nx⟩,lg) else
  bif ((dY te m).filter (λe=>dZ ops ts e.i)).all (wT X ops m ts) then
   (match o5 X ops m ts hpF nx (dY te m) with
   |some (e,o,y)=>B6 X tb tl rec ops te stop hpF fu (Nat.lor m e.w) (putS ts o.dst (U7 tl o.dst y).1) hp nx ((U7 tl o.dst y).2++lg)
   |none=>(match (dY te m).filter (λe=>!dZ ops ts e.i) with
    |[c]=>(match ops[c.i]? with
     |some o=>bif qR (dY te (nV m ((dY te m).filter (λe=>dZ ops ts e.i)))) c.i then (match gB ops ts o.guard,pZ X (kS tb rec) o ts hp nx with
      |some true,some (y,hp',nx')=>B6 X tb tl rec ops te stop hpF fu (Nat.lor m c.w) (putS ts o.dst y) hp' nx' (aHe tb o ts hp nx++lg)
      |_,_=>none) else none
     |none=>none)
    |[]=>(match (dY te m).filter (λe=>dZ ops ts e.i) with
     |a::rest=>(match ops[a.i]? with
      |some o=>bif qR (dY te (nV m rest)) a.i then (match dI X ⟨ts,hp,nx⟩ o.op o.type with
       |some (y,hp',nx')=>B6 X tb tl rec ops te stop hpF fu (Nat.lor m a.w) (putS ts o.dst y) hp' nx' lg
       |none=>none) else none
      |none=>none)
     |[]=>none)
    |_=>none))
  else none
def Z7(X:aI)(tb:List fT)(tl:List (Tmp×Bool))(rec:jS)(ops:Array Oper)(te:List En)(tab:List (Nat×Nat))(hpF:Nat->Tr):Nat->List (Nat×HB)->Nat->St->List b8->Option (St×List b8)
 |0,_,_,_,_=>none
 |f+1,lk,m,st,lg=>match B6 X tb tl rec ops te (aCB ops tab lk) hpF (ops.size+1) m st.ts st.hp st.nx lg with
  |none=>none
  |some (m1,eV,lg1)=>match dY te m1 with
   |[]=>(match rR (λ_=>true) lk eV.hp with
    |some (hp,_)=>some (⟨eV.ts,hp,eV.nx⟩,lg1)
    |none=>none)
   |c::_=>(match rR (λn=>cN ops tab n c.i) lk eV.hp with
    |some (hp,lk')=>Z7 X tb tl rec ops te tab hpF f lk' m1 ⟨eV.ts,hp,eV.nx⟩ lg1
    |none=>none)
def aAw(X:aI)(tb:List fT)(tl:List (Tmp×Bool))(rec:jS)(ops:Array Oper)(st:St)(tab:List (Nat×Nat)):Option (St×List b8):=match sO tab st.hp [] with
 |(hp,lk)=>Z7 X tb tl rec ops (i3 ops) tab (C3 tab st.hp) (lk.length+2) lk 0 ⟨hideS ops.toList st.ts,hp,st.nx⟩ []
def Y3(hl:FuncId->Option (List SV->Tr->Nat->Option (SV×St)))(X:aI)(tb:List fT)(tl:List (Tmp×Bool))(rec:jS)(ops:Array Oper)(st:St):Option (St×List b8) :=
 bif Region.noSelect ops&&(mN ops&&ops.toList.all fU) then aAw X tb tl rec ops st (xT hl X st.hp st.nx ops.toList 0 st.ts []) else none
section
variable {X:aI}{w0:World}{tb:List fT}{tl:List (Tmp×Bool)}{rec:jS}{ops:Array Oper}
theorem aA3(hrec:kO X w0 rec){te:List En}{stop:Nat->Bool}{hpF:Nat->Tr}:∀(fu:Nat) {m:Nat} {ts:Sl} {hp:Tr} {nx:Nat} {lg:List b8} {m':Nat} {st':St} {lg':List b8},B6 X tb tl rec ops te stop hpF fu m ts hp nx lg=some (m',st',lg') ->
 (∀ob∈lg,ob∈lg')∧((∀ob∈lg',ob.Any X w0)->tM X (mO X w0 (kS tb rec)) ops te stop hpF fu m ts hp nx=some (m',st'))
 |0,_,_,_,_,_,_,_,_,h=>by cases h
 |fu+1,m,ts,hp,nx,lg,m',st',lg',h=>by
  unfold B6 at h
  unfold tM
  cases h1:qJ stop ((dY te m).map En.i) with
  |true =>
   rw [h1] at h
   cases h
   exact ⟨λ_ h=>h,λ_=>rfl⟩
  |false =>
   rw [h1] at h
   simp only [cond_false] at h ⊢
   cases h2:((dY te m).filter (λe=>dZ ops ts e.i)).all (wT X ops m ts) with
   |false=>rw [h2] at h;cases h
   |true =>
    rw [h2] at h
    simp only [cond_true] at h ⊢
    split at h
    ·rename_i e o y h3
     rw [h3]
     obtain ⟨i1,i2⟩:=aA3 hrec fu h
     refine ⟨λob hob=>i1 ob (gW _ hob),λhall=>?_⟩
     have:=i2 hall
     rw [a99 λob hob=>hall ob (i1 ob (kJ _ hob))] at this
     exact this
    ·rename_i h3
     rw [h3]
     simp only
     split at h
     ·rename_i c h4
      rw [h4]
      simp only
      split at h
      ·rename_i o h5
       rw [h5]
       simp only
       cases h6:qR (dY te (nV m ((dY te m).filter (λe=>dZ ops ts e.i)))) c.i with
       |false=>rw [h6] at h;cases h
       |true =>
        rw [h6] at h
        simp only [cond_true] at h ⊢
        split at h
        ·rename_i y hp' nx' h7 h8
         obtain ⟨i1,i2⟩:=aA3 hrec fu h
         refine ⟨λob hob=>i1 ob (gW _ hob),λhall=>?_⟩
         rw [h7,bCB hrec (λob hob=>hall ob (i1 ob (kJ _ hob))),h8]
         exact i2 hall
        ·cases h
      ·cases h
     ·rename_i h4
      rw [h4]
      simp only
      split at h
      ·rename_i a rest h5
       rw [h5]
       simp only
       split at h
       ·rename_i o h6
        rw [h6]
        simp only
        cases h7:qR (dY te (nV m rest)) a.i with
        |false=>rw [h7] at h;cases h
        |true =>
         rw [h7] at h
         simp only [cond_true] at h ⊢
         split at h
         ·rename_i y hp' nx' h8
          rw [h8]
          exact aA3 hrec fu h
         ·cases h
       ·cases h
      ·cases h
     ·cases h
theorem aFP(hrec:kO X w0 rec){te:List En}{tab:List (Nat×Nat)}{hpF:Nat->Tr}:∀(f:Nat) {lk:List (Nat×HB)} {m:Nat} {st:St} {lg:List b8} {st':St} {lg':List b8},Z7 X tb tl rec ops te tab hpF f lk m st lg=some (st',lg') ->
 (∀ob∈lg,ob∈lg')∧((∀ob∈lg',ob.Any X w0)->yD X (mO X w0 (kS tb rec)) ops te tab hpF f lk m st=some st')
 |0,_,_,_,_,_,_,h=>by cases h
 |f+1,lk,m,st,lg,st',lg',h=>by
  unfold Z7 at h
  unfold yD
  split at h
  ·cases h
  ·rename_i m1 eV lg1 h1
   obtain ⟨i1,i2⟩:=aA3 hrec _ h1
   split at h
   ·rename_i h2
    split at h
    ·rename_i hp x h3
     simp only [b6,cH] at h
     obtain ⟨rfl,rfl⟩:=h
     refine ⟨i1,λhall=>?_⟩
     rw [i2 hall]
     simp only [h2,h3]
    ·cases h
   ·rename_i c x h2
    split at h
    ·rename_i hp lk' h3
     obtain ⟨j1,j2⟩:=aFP hrec f h
     refine ⟨λob hob=>j1 ob (i1 ob hob),λhall=>?_⟩
     rw [i2 λob hob=>hall ob (j1 ob hob)]
     simp only [h2,h3]
     exact j2 hall
    ·cases h
theorem bAt(hrec:kO X w0 rec){hl:FuncId->Option (List SV->Tr->Nat->Option (SV×St))}{st st':St}{lg:List b8}(h:Y3 hl X tb tl rec ops st=some (st',lg))(ho:∀ob∈lg,ob.Any X w0):vL hl X (mO X w0 (kS tb rec)) ops st=some st':=by
 unfold Y3 at h
 unfold vL
 cases hc:(Region.noSelect ops&&(mN ops&&ops.toList.all fU)) with
 |false=>rw [hc] at h;cases h
 |true =>
  rw [hc] at h
  simp only [cond_true] at h ⊢
  unfold aAw at h
  unfold B7
  split at h
  rename_i hp lk hlk
  rw [hlk]
  exact (aFP hrec _ h).2 ho
end
def xA(f:Option St->Option aB)(r:Option (St×List b8)):Option (aB×List b8):=match r with
 |some (st,l)=>(match f (some st) with
  |some q=>some (q,l)
  |none=>none)
 |none=>none
def Z1(reg:Array Oper->St->Option (St×List b8))(ops:Array Oper)(X:aI)(p:aB):Option (aB×List b8) :=
 bif yJ ops then xA (aB6 ops p.k) (reg (ops.toList.take (ops.size-2)).toArray p.st) else
 bif xE ops then xA (K4 ops p.k) (reg (ops.toList.take (ops.size-1)).toArray p.st) else xA (T6 X p.k) (reg ops p.st)
def nY(X:aI)(leaf:FuncId->Option (List SV->Tr->Nat->Option (SV×St)))(n d:Nat):jS:=λg args hp nx=>Option.rec (motive:=λ_=>List SV->Tr->Nat->Option (SV×St)) (eP (cZ X leaf n d) X n g) (λL=>L) (leaf g) args hp nx
def q8(X:aI)(leaf:FuncId->Option (List SV->Tr->Nat->Option (SV×St)))(n d:Nat)(tb:List fT)(tl:List (Tmp×Bool))(p:aB):Option (aB×List b8):=match p.h with
 | .code (.region _ ops true)=>Z1 (Y3 leaf X tb tl (nY X leaf n d)) ops X p
 |_=>none
theorem aDZ{X:aI}{leaf:FuncId->Option (List SV->Tr->Nat->Option (SV×St))}{n:Nat}:∀d,(cZ X leaf n d).leaf=leaf
 |0=>rfl
 |_+1=>rfl
theorem aN0{X:aI}{leaf:FuncId->Option (List SV->Tr->Nat->Option (SV×St))}{n d:Nat}(aH:X.P.follows .mixedOrders=true)(hH:bZ X (cZ X leaf n d))(w0:World):kO X w0 (nY X leaf n d):=by
 intro g args hp nx res st h
 unfold nY at h
 cases hg:leaf g with
 |none=>rw [hg] at h;exact aNs aH hH w0 g args hp nx res st h
 |some L =>
  rw [hg] at h
  refine hH.leaf w0 g args hp nx res st ?_
  unfold qM
  rw [aDZ,hg]
  exact h
theorem sD{E:bX}{Q0:cM}{r0:List aF}{leaf:FuncId->Option (List SV->Tr->Nat->Option (SV×St))}{n d:Nat}{tb:List fT}{tl:List (Tmp×Bool)}{p q:aB}{obs:List b8}(aH:E.X.P.follows .mixedOrders=true)(hH:bZ E.X (cZ E.X leaf n d))(h0:e8 E.X.P Q0)(h:q8 E.X leaf n d tb tl p=some (q,obs))(ho:∀ob∈obs,ob.Any E.X E.w0)(hx:Xp E r0 Q0 q):Xp E r0 Q0 p:=by
 have hrec:=aN0 aH hH E.w0
 have hH2:aAp E ⟨leaf,vL leaf E.X (mO E.X E.w0 (kS tb (nY E.X leaf n d)))⟩:=by
  refine ⟨λg args hp nx res st h=>hH.leaf E.w0 g args hp nx res st ?_,λQ r vs df w st st' ops h hs hm hk=>?_⟩
  ·unfold qM at h ⊢
   rw [aDZ]
   exact h
  ·exact ⟨aKU (aCi h),aK3 (aM2 E.X E.w0 _) (aCi h) hs hm hk⟩
 unfold q8 at h
 split at h
 ·rename_i id ops hp
  obtain ⟨hd,k,st⟩:=p
  simp only at hp
  subst hp
  refine aFG (H:=⟨leaf,vL leaf E.X (mO E.X E.w0 (kS tb (nY E.X leaf n d)))⟩) aH hH2 h0 ?_ hx
  show vU _ ops E.X ⟨.code (.region id ops true),k,st⟩=some q
  unfold Z1 at h
  unfold vU
  have key:∀(f:Option St->Option aB) (o2:Array Oper),xA f (Y3 leaf E.X tb tl (nY E.X leaf n d) o2 st)=some (q,obs)->f (vL leaf E.X (mO E.X E.w0 (kS tb (nY E.X leaf n d))) o2 st)=some q:=by
   intro f o2 hg
   unfold xA at hg
   split at hg
   ·rename_i st' l hr
    split at hg
    ·rename_i q' hq
     simp only [b6,cH] at hg
     obtain ⟨rfl,rfl⟩:=hg
     rw [bAt hrec hr ho]
     exact hq
    ·cases hg
   ·cases hg
  cases ht:yJ ops with
  |true=>rw [ht,cond_true] at h;exact key _ _ h
  |false =>
   rw [ht,cond_false] at h
   cases ht1:xE ops with
   |true=>rw [ht1,cond_true] at h;exact key _ _ h
   |false=>rw [ht1,cond_false] at h;exact key _ _ h
 ·cases h
end
theorem aFZ{r:List aF}{a b:Rp SV}{us:List Value}(h:aD r (cat a b) us):∃u v,us=u++v∧aD r a u∧aD r b v:=by
 by_cases ha:a=.nil
 ·subst ha
  have h':aD r b us:=by cases b<;>exact h
  exact ⟨[],us,rfl,.nil,h'⟩
 ·by_cases hb:b=.nil
  ·subst hb
   have h':aD r a us:=by cases a<;>first|exact absurd rfl ha|exact h
   exact ⟨us,[],by simp,h',.nil⟩
  ·have e:cat a b=.node (dK a) (dK a+dK b) a b:=by
    cases a<;>first|exact absurd rfl ha|(cases b<;>first|exact absurd rfl hb|rfl)
   rw [e] at h
   cases h with|node h1 h2 _ _=>exact ⟨_,_,rfl,h1,h2⟩
theorem xG{E:bX}{r:List aF}{vals:List Value}{w:World}{hp:Tr}{nx:Nat}{g:FuncId}{args:List SV}{res:SV}{st:St}{q:aB}(hs:∀Q0:cM,e8 E.X.P Q0->Xp E r Q0 q->Xp E r Q0 (eA E.X g args hp nx))(h:dS E.X g q=some (res,st))(ha:aX r args vals)(hm:aG E r hp nx w):
 Calls E.X.P g vals.toArray w λe w'=>∃q v,e=.returned v∧aP (r++q) res v∧aG E (r++q) st.hp st.nx w':=by
 unfold dS at h
 unfold eA at hs
 cases hent:entryS E.X.P g with
 |none=>rw [hent] at h;cases h
 |some x =>
  obtain ⟨fn,c⟩:=x
  rw [hent] at h hs
  exact tB (k:=[]) (r0:=r) hent ⟨[],by simp⟩ ha hm rfl rfl rfl (hs _ pC (xP h))
def aHK:List (FuncId×bV):=stops [46,181] oL
def HR:Hk:=cZ Xt (cT aHK) 14 6
theorem aEW:bZ Xt HR:=eH aH (jQ pG) 6
def oU(dg:List Nat)(e m:Value):Rp SV:=cB [.arr .u8 32 dg,.one (.v e),.one (.v m)]
def vQ(n:Nat)(q:Int)(v:Value)(dg:List Nat)(e m:Value):List SV:=[aM n,.a (mA (aW n) q v),.a (oU dg e m)]
def tbR(s:Nat)(x:bD):List fT:=[⟨46,[],[],λ_=>aM s,[]⟩,⟨181,[],[],λ_=>nE x,[]⟩]
def S0:gR:=⟨[],[],0⟩
def aVO(n:Nat)(q:Int)(v:Value)(dg:List Nat)(e m:Value):aB:=gQ S0 HR Xt 12 (eA Xt 44 (vQ n q v dg e m) .e 0)
def aKe(n s:Nat)(x:bD)(q:Int)(v:Value)(dg:List Nat)(e m:Value):Option (SV×List b8):=match q8 Xt (cT aHK) 14 6 (tbR s x) [] (aVO n q v dg e m) with
 |some (p,obs)=>(dS Xt 44 (gQ S0 HR Xt 12 p)).map λy=>(y.1,obs)
 |none=>none
def aL8(n s:Nat)(x:bD)(q:Int)(v:Value)(dg:List Nat)(e m:Value):List b8:=[.c ⟨181,ndA n (aO n) 0 s q v dg,[],[],[],12,nE x,[]⟩,.c ⟨46,[.a (oU dg e m)],[],[],[],12,aM s,[]⟩]
def iR(n:Nat):Prop:=∀(x:bD) (q:Int) (v:Value) (dg:List Nat) (e m:Value),[0,1].map (λs=>aKe n s x q v dg e m)=[0,1].map λs=>some (nE x,aL8 n s x q v dg e m)
theorem aVA:iR 1:=by intro x q v dg e m;kernel_rfl
theorem a2I:iR 2:=by intro x q v dg e m;kernel_rfl
theorem aTV:iR 3:=by intro x q v dg e m;kernel_rfl
theorem a8u:iR 4:=by intro x q v dg e m;kernel_rfl
theorem bBf:iR 5:=by intro x q v dg e m;kernel_rfl
theorem aQs:iR 6:=by intro x q v dg e m;kernel_rfl
theorem aYF:iR 7:=by intro x q v dg e m;kernel_rfl
theorem aPa:iR 8:=by intro x q v dg e m;kernel_rfl
theorem aY2:iR 9:=by intro x q v dg e m;kernel_rfl
theorem a1D:iR 10:=by intro x q v dg e m;kernel_rfl
theorem bCe:iR 11:=by intro x q v dg e m;kernel_rfl
theorem aVs:iR 12:=by intro x q v dg e m;kernel_rfl
theorem bAT:iR 13:=by intro x q v dg e m;kernel_rfl
theorem a1k:iR 14:=by intro x q v dg e m;kernel_rfl
theorem a1r:iR 15:=by intro x q v dg e m;kernel_rfl
theorem a2J:iR 16:=by intro x q v dg e m;kernel_rfl
theorem bBM:iR 17:=by intro x q v dg e m;kernel_rfl
theorem a4f:iR 18:=by intro x q v dg e m;kernel_rfl
theorem bBm:iR 19:=by intro x q v dg e m;kernel_rfl
theorem aVF:iR 20:=by intro x q v dg e m;kernel_rfl
theorem a5L:∀n,1≤n->n≤20->iR n
 |1,_,_=>aVA
 |2,_,_=>a2I
 |3,_,_=>aTV
 |4,_,_=>a8u
 |5,_,_=>bBf
 |6,_,_=>aQs
 |7,_,_=>aYF
 |8,_,_=>aPa
 |9,_,_=>aY2
 |10,_,_=>a1D
 |11,_,_=>bCe
 |12,_,_=>aVs
 |13,_,_=>bAT
 |14,_,_=>a1k
 |15,_,_=>a1r
 |16,_,_=>a2J
 |17,_,_=>bBM
 |18,_,_=>a4f
 |19,_,_=>bBm
 |20,_,_=>aVF
 |n+21,_,h=>absurd h (by omega)
 |0,h,_=>absurd h (by omega)
def H4:Hk:=cZ Xt (cT oL) 14 6
theorem sG:bZ Xt H4:=eH aH pG 6
def aLG(dg:List Nat)(e:Int)(m:Value):Option SV:=(eP H4 Xt 12 46 [.a (oU dg (.int .u64 e) m)] .e 0).map (·.1)
theorem a1t(dg:List Nat)(e:Int)(m:Value):aLG dg e m=some (.v (.int .i64 (IntKind.i64.wrap (e.tmod 2)))):=by kernel_rfl
theorem aLb{dg:List Nat}{e:Int}{m:Value}{s:Nat}(hs:IntKind.i64.wrap (e.tmod 2)=(s:Int)){vs:List Value}(hv:aD [] (oU dg (.int .u64 e) m) vs)(w:World)(hg:cG Xt w):Calls Xt.P 46 #[.agg vs.toArray] w λe' w'=>e'=.returned (.int .i64 (s:Int))∧Below w.heap.size w w':=by
 have h:=a1t dg e m
 unfold aLG at h
 obtain ⟨⟨res,st⟩,h1,h2⟩:=dE.1 h
 simp only at h2
 subst h2
 refine (oX (E:=E0 Xt w) (r:=[]) (vals:=[.agg vs.toArray]) aH sG h1 (.cons (.a hv) .nil) (aG.start Xt w hg)).mono ?_
 rintro e' w' ⟨q,v,rfl,hd,hm⟩
 cases hd
 rw [hs]
 exact ⟨rfl,hm.below⟩
theorem fV{E:bX}{g:FuncId}{args:List SV}{nx:Nat}{res:SV}(he:fQ E.X.P g)(h:∀(r:List aF) (vals:List Value) (w1:World) (hp:Tr),aX r args vals->aG E r hp nx w1->Calls E.X.P g vals.toArray w1 λe w'=>∃v,e=.returned v∧aP r res v∧Below w1.heap.size w1 w'):tJ E g args [] [] [] nx res []:=by
 intro r vals w1 hp ha hm _
 refine ⟨λw'=>he _ w',(h r vals w1 hp ha hm).mono ?_⟩
 rintro e w' ⟨v,rfl,hd,hb⟩
 exact ⟨[],v,rfl,by rw [eC];exact hd,by have:=hm.grow hb;rw [eC];exact this⟩
theorem P7{r r':List aF}{dg:List Nat}{e m:Value}{vs:List Value}(h:aD r (oU dg e m) vs):aD r' (oU dg e m) vs:=by
 obtain ⟨u,v,rfl,h1,h2⟩:=aFZ (a:=.arr .u8 32 dg) (b:=cB [.one (.v e),.one (.v m)]) h
 obtain ⟨u2,v2,rfl,h3,h4⟩:=aFZ (a:=.one (.v e)) (b:=cB [.one (.v m)]) h2
 obtain ⟨u3,v3,rfl,h5,h6⟩:=aFZ (a:=.one (.v m)) (b:=cB []) h4
 show aD r' (cat (.arr .u8 32 dg) (cat (.one (.v e)) (cat (.one (.v m)) .nil))) _
 refine aD.cat ?_ (aD.cat ?_ (aD.cat ?_ ?_))
 ·cases h1 with|arr h1=>exact .arr h1
 ·cases h3 with|one h3 h3'=>cases h3;exact .one (.v _) h3'
 ·cases h5 with|one h5 h5'=>cases h5;exact .one (.v _) h5'
 ·have h6':aD r .nil v3:=h6
  cases h6';exact .nil
def mT.keep{w w1:World}{g c0:Nat}{L:List (Option aQ)}(hd:mT w g c0 L)(hb:Below w.heap.size w w1):mT w1 g c0 L:=⟨hd.cv,eQ hd.hg hb.size,hd.hc,λj hj=>eQ (hd.hcv j hj) hb.size,aDR hd.hd hb hd.hg hd.hcv⟩
theorem a4F{n s g c0:Nat}{R:Nat->aA}{Ee:Nat->aJ}{q e:Int}{m:Value}{dg:List Nat}(h1:1≤n)(h20:n≤20)(hl:aO n<3)(hc:0<aL n (aO n))(hs2:s<2)(hs:IntKind.i64.wrap (e.tmod 2)=(s:Int))(w:World)(hg:cG Xt w)(L:List (Option aQ))(hd:mT w g c0 L)
 (hL:L[lO n (aO n) 0 s]?=some (some (.nd (bP n R Ee (aO n) 0)))) (hdg:Sh.shaF (bP n R Ee (aO n) 0).bytes=dg) {cs:List Value} (hcs:aD [] (oU dg (.int .u64 e) m) cs) :
 Calls Xt.P 44 #[.int .i64 (n:Int),.agg #[.int .i64 (aW n:Int),.int .i64 q,.slice (some ⟨g,0,none⟩) 1 c0],.agg cs.toArray] w λe' w' =>
  e'=.returned (.tuple #[.agg (bP n R Ee (aO n) 0).vals.toArray,.agg #[.int .i64 0,.int .u8 0],.int .i64 0])∧Below w.heap.size w w':=by
 obtain ⟨x,hx⟩:∃x,x=bP n R Ee (aO n) 0:=⟨_,rfl⟩
 have h:=cW (a5L n h1 h20 x q (.slice (some ⟨g,0,none⟩) 1 c0) dg (.int .u64 e) m) (show s∈[0,1] by simp;omega)
 unfold aKe at h
 split at h
 ·rename_i p obs hdr
  obtain ⟨⟨res,st⟩,hfin,heq⟩:=dE.1 h
  simp only [cH] at heq
  obtain ⟨rfl,rfl⟩:=heq
  refine (xG (E:=E0 Xt w) (r:=[]) (vals:=[.int .i64 (n:Int),.agg #[.int .i64 (aW n:Int),.int .i64 q,.slice (some ⟨g,0,none⟩) 1 c0],.agg cs.toArray]) (g:=44) (args:=vQ n q (.slice (some ⟨g,0,none⟩) 1 c0) dg (.int .u64 e) m) (λQ0 h0 hq=>?_) hfin ?_ (aG.start Xt w hg)).mono ?_
  ·refine jP (S:=S0) (E:=E0 Xt w) aH aEW h0 12 (sD (E:=E0 Xt w) aH aEW h0 hdr ?_ (jP (S:=S0) (E:=E0 Xt w) aH aEW h0 12 hq))
   intro ob hob
   simp only [aL8,bG,cK,or_false] at hob
   rcases hob with rfl|rfl
   all_goals
    intro E hE hw
    obtain ⟨X,w0,wU,U,RR⟩:=E
    simp only at hE hw
    subst hE
    subst hw
   ·refine fV (bB (by kernel_rfl)) λr vals w1 hp ha hm=>?_
    have hb:Below w0.heap.size w0 w1:=hm.below
    have hv:vals=[.agg #[.int .i64 (n:Int),.int .i64 (aW n:Int),.int .i64 q,.slice (some ⟨g,0,none⟩) 1 c0],.agg #[.int .i64 ((aO n:Nat):Int),.int .i64 ((0:Nat):Int)],.int .i64 (s:Int),.agg (nv .u8 dg).toArray]:=by
     cases ha with|cons d1 t=>cases t with|cons d2 t=>cases t with|cons d3 t=>cases t with|cons d4 t =>
      cases t;cases d3
      cases d1 with|a d1 =>
       have d1':aD r (.node 1 4 (.one (aM n)) (.node 1 3 (.one (aM (aW n))) (.node 1 2 (.one (.v (.int .i64 q))) (.one (.v (.slice (some ⟨g,0,none⟩) 1 c0)))))) _:=d1
       cases d1' with|node e1 e2 _ _=>cases e2 with|node e2 e3 _ _=>cases e3 with|node e3 e4 _ _ =>
        rw [bQ e1,bQ e2,bQ e3,bQ e4]
        cases d2 with|a d2=>cases d2 with|node f1 f2 _ _ =>
         rw [bQ f1,bQ f2]
         cases d4 with|a d4=>rw [fJ d4];rfl
    rw [hv]
    refine (aL7 n (aO n) 0 s g c0 R Ee q h1 h20 hl hc hs2 w1 hm.globs L (hd.keep hb) hL dg hdg).mono ?_
    rintro e' w' ⟨rfl,hb'⟩
    refine ⟨_,rfl,?_,hb'⟩
    rw [hx]
    exact .t (.cons (.a (.q (.node _))) (.cons (.a (vs:=[.int .i64 0,.int .u8 0]) (.node (us:=[.int .i64 0]) (.one (.v _) rfl) (.one (.v _) rfl) rfl rfl)) (.cons (.v _) .nil)))
   ·refine fV (bB (by kernel_rfl)) λr vals w1 hp ha hm=>?_
    cases ha with|cons d1 t=>cases t;cases d1 with|a d1 =>
     refine (aLb hs (P7 d1) w1 hm.globs).mono ?_
     rintro e' w' ⟨rfl,hb'⟩
     exact ⟨_,rfl,.v _,hb'⟩
  ·refine .cons (.v _) (.cons (.a (vs:=[.int .i64 (aW n:Int),.int .i64 q,.slice (some ⟨g,0,none⟩) 1 c0]) ?_) (.cons (.a hcs) .nil))
   exact .node (us:=[.int .i64 (aW n:Int)]) (.one (.v _) rfl) (.node (us:=[.int .i64 q]) (.one (.v _) rfl) (.one (.v _) rfl) rfl rfl) rfl rfl
  ·rintro e' w' ⟨qq,v,he,hdv,hm⟩
   refine ⟨?_,hm.below⟩
   rw [he,<-hx]
   cases hdv with|t d=>cases d with|cons d1 d=>cases d with|cons d2 d=>cases d with|cons d3 d =>
    cases d;cases d3
    cases d1 with|a d1 =>
     cases d1
     cases d2 with|a d2=>cases d2 with|node e1 e2 _ _=>rw [bQ e1,bQ e2];rfl
 ·cases h
def sC(k m:cD):Rp SV:=cB [.q (.byt k),.q (.byt m)]
def SI:gR:=⟨[10],[8],1⟩
def idO(i:Nat):List Ob:=[.t false false,.t (decide (4096≤(i:Int))) false]
def seX(k m b:cD)(i:Nat)(v:aA):aB×List Ob:=cL SI H9 Xt 14 [.g false,.b false] (eA Xt 79 [.a (sC k m),aM i,.a (.q (.nnc v)),.a (.q (.byt b))] .e 0)
def aIL(x:Option (SV×St)):Option (List (Rp SV)×List (Rp SV)):=match x with
 |some (.t [.a c,.a d,.v (.int .i64 (.ofNat 0))],_)=>some (iA c [],iA d [])
 |_=>none
def aBQ(f:Nat->Nat):List Nat:=(List.range 64).map λj=>bif Nat.blt j 32 then f j else 0
def wB(f:Nat->Nat)(m:List Nat):List Nat:=Sh.xorB (aBQ f) (List.replicate 64 92)++(Sh.shaF (Sh.xorB (aBQ f) (List.replicate 64 54)++m)++[])
def kE(i:Nat)(v:aA)(d:List Nat):List Nat:=Sh.beB (i%4294967296%18446744073709551616) 4++(v.nncB++d)
theorem aWB(k:List Nat)(hk:k.length=16)(hkb:Sh.Byt k)(fm:Nat->Nat)(hfm:∀j,fm j<256)(b:List Nat)(hb:b.length=32)(hbb:Sh.Byt b)(i:Nat)(v:aA):
 (aIL (dS Xt 79 (seX ⟨k,16,hk,hkb⟩ (jL 32 fm hfm) ⟨b,32,hb,hbb⟩ i v).1),(seX ⟨k,16,hk,hkb⟩ (jL 32 fm hfm) ⟨b,32,hb,hbb⟩ i v).2) =
  (some ([.q (.byt (k8 k b v))],[.q (.sha (wB fm (kE i v (eY k b v))))]),idO i):=by kernel_rfl
def SO:gR:=⟨[15],[],2⟩
def ev3(S1 S2:gR)(H:Hk)(n:Nat)(es1:List Ev)(e:Ev)(es2:List Ev)(p:aB):aB×List Ob:=((cL S2 H Xt n es2 (u9 H Xt e (cL S1 H Xt n es1 p).1).1).1,(cL S1 H Xt n es1 p).2++((u9 H Xt e (cL S1 H Xt n es1 p).1).2::(cL S2 H Xt n es2 (u9 H Xt e (cL S1 H Xt n es1 p).1).1).2))
theorem a3n{S1 S2:gR}{H:Hk}{n:Nat}{es1:List Ev}{e:Ev}{es2:List Ev}{p:aB}{w:World}{r0:List aF}{Q0:cM}(hH:bZ Xt H)(h0:e8 Xt.P Q0)(hall:∀ob∈(ev3 S1 S2 H n es1 e es2 p).2,ob.Holds (E0 Xt w))(hq:Xp (E0 Xt w) r0 Q0 (ev3 S1 S2 H n es1 e es2 p).1):Xp (E0 Xt w) r0 Q0 p :=
 jG (S:=S1) (E:=E0 Xt w) aH hH h0 n es1 (λob hob=>hall ob (kJ _ hob)) (aH8 (E:=E0 Xt w) (H:=H) (e:=e) aH hH h0 (hall _ (gW _ List.mem_cons_self)) (jG (S:=S2) (E:=E0 Xt w) aH hH h0 n es2 (λob hob=>hall ob (gW _ (List.mem_cons_of_mem _ hob))) hq))
def opX(k m d:cD)(i:Nat)(v z:aA):aB×List Ob:=ev3 SI SO H9 14 [.g false] (.b false) [.b false] (eA Xt 96 [.a (sC k m),aM i,.a (.q (.nnc v)),.a (.q (.byt d)),.a (.q (.tag z))] .e 0)
def vfy(a b:Nat->Int):Nat->Int
 |0=>0
 |n+1=>bits .or .u8 (vfy a b n) (bits .xor .u8 (a n) (b n))
def aJX(x:Option (SV×St)):Option (List (Rp SV)):=match x with
 |some (.t [.a c,.v (.int .i64 (.ofNat 0))],_)=>some (iA c [])
 |_=>none
def opE(f:Nat->Nat)(i:Nat)(v:aA)(d t:List Nat):Bool:=!(vfy (λj=>((Sh.shaF (wB f (kE i v d))).getD j 0:Int)) (λj=>(t.getD j 0:Int)) 32==0)
theorem aXy(k:List Nat)(hk:k.length=16)(hkb:Sh.Byt k)(fm:Nat->Nat)(hfm:∀j,fm j<256)(d:List Nat)(hd:d.length=32)(hdb:Sh.Byt d)(i:Nat)(v z:aA):
 (aJX (dS Xt 96 (opX ⟨k,16,hk,hkb⟩ (jL 32 fm hfm) ⟨d,32,hd,hdb⟩ i v z).1),(opX ⟨k,16,hk,hkb⟩ (jL 32 fm hfm) ⟨d,32,hd,hdb⟩ i v z).2)=(some [.q (.byt (k8 k d v))],idO i++[.t (opE fm i v d z.tag) false]):=by kernel_rfl
theorem xor_self(x:Int):bits .xor .u8 x x=0:=by
 simp [bits]
 decide
theorem bCF:bits .or .u8 0 0=0:=by decide
theorem aKQ(a:Nat->Int):∀n,vfy a a n=0
 |0=>rfl
 |n+1=>by
  unfold vfy
  rw [aKQ a n,xor_self]
  exact bCF
theorem aUK{f:Nat->Nat}{i:Nat}{v:aA}{d:List Nat}:opE f i v d (Sh.shaF (wB f (kE i v d)))=false:=by
 unfold opE
 rw [aKQ]
 rfl
theorem aZd{a c:Nat}(ha:a<256):yT (yT a c) c=a:=by
 unfold yT
 have e:∀x:BitVec 8,BitVec.ofInt 8 ((x.toNat%256:Nat):Int)=x:=λx=>by
  rw [Nat.mod_eq_of_lt x.isLt]
  simp
 rw [e]
 have e2:BitVec.ofInt 8 (a:Int) ^^^ BitVec.ofInt 8 (c:Int) ^^^ BitVec.ofInt 8 (c:Int)=BitVec.ofInt 8 (a:Int):=by rw [BitVec.xor_assoc,BitVec.xor_self,BitVec.xor_zero]
 rw [e2]
 simp
 omega
theorem aVK{k b:List Nat}{v:aA}(hl:b.length=32)(hb:Sh.Byt b):eY k (eY k b v) v=b:=by
 have e:∀j,j<32->(eY k b v).getD j 0=T4 k (λj=>b.getD j 0) v j:=λj hj=>by
  unfold eY
  rw [cP,jC,rJ hj]
  rfl
 rw [<-H5 hl]
 show (List.range 32).map _=_
 refine vN λj hj=>?_
 rw [dF] at hj
 show yT ((eY k ((List.range 32).map λj=>b.getD j 0) v).getD j 0) ((ksV k v (j / 16)).getD (j%16) 0)=b.getD j 0
 rw [H5 hl,e j hj]
 exact aZd (pB hb j)
def oP(m:List Nat)(l:List Nat):List Nat:=wB (λj=>m.getD j 0) l
theorem aIN{E:bX}{i:Nat}(hi:i<4096):∀ob∈idO i,ob.Holds E:=by
 intro ob hob
 simp only [idO,bG,cK,or_false] at hob
 rcases hob with rfl|rfl
 ·rfl
 ·show decide (4096≤(i:Int))=false
  rw [decide_eq_false_iff_not]
  omega
section
variable {k m b:cD}{i:Nat}{v z:aA}{w:World}
theorem Z3(r:List aF):aD r (sC k m) (nv .u8 k.l++nv .u8 m.l):=by
 have:=aD.cat (.q (.byt k)) (aD.cat (.q (.byt m)) (.nil (r:=r)))
 rw [eC] at this
 exact this
theorem a07(hk:k.n=16)(hm:m.n=32)(hb:b.n=32)(hi:i<4096)(hg:cG Xt w):
 Calls Xt.P 79 #[.agg (nv .u8 k.l++nv .u8 m.l).toArray,.int .i64 (i:Int),.agg v.nnc.toArray,.agg (nv .u8 b.l).toArray] w λe w'=>e=.returned (.tuple #[.agg (nv .u8 (eY k.l b.l v)).toArray,.agg (nv .u8 (Sh.shaF (oP m.l (kE i v (eY k.l b.l v))))).toArray,.int .i64 0])∧Below w.heap.size w w':=by
 have hmv:=aFB m hm
 obtain ⟨kl,kn,hkl,hkb⟩:=k
 obtain ⟨bl,bn,hbl,hbb⟩:=b
 simp only at hk hb
 subst hk hb
 have h:=aWB kl hkl hkb (λj=>m.l.getD j 0) (pB m.hb) bl hbl hbb i v
 rw [hmv] at h
 simp only [cH] at h
 obtain ⟨h1,h2⟩:=h
 unfold aIL at h1
 split at h1
 ·rename_i c d st hfin
  simp only [b6,cH] at h1
  refine (iQ (E:=E0 Xt w) (r:=[]) (vals:=[.agg (nv .u8 kl++nv .u8 m.l).toArray,.int .i64 (i:Int),.agg v.nnc.toArray,.agg (nv .u8 bl).toArray]) aH aLE hfin (λob hob=>?_) (.cons (.a (Z3 (k:=⟨kl,16,hkl,hkb⟩) [])) (.cons (.v _) (.cons (.a (.q (.nnc v))) (.cons (.a (.q (.byt ⟨bl,32,hbl,hbb⟩))) .nil)))) (aG.start Xt w hg)).mono ?_
  ·have hob':ob∈(seX ⟨kl,16,hkl,hkb⟩ m ⟨bl,32,hbl,hbb⟩ i v).2:=hob
   rw [h2] at hob'
   exact aIN hi ob hob'
  ·rintro e w' ⟨q,u,rfl,hd,hm'⟩
   refine ⟨?_,hm'.below⟩
   cases hd with|t hd=>cases hd with|cons d1 hd=>cases hd with|cons d2 hd=>cases hd with|cons d3 hd =>
    cases hd;cases d3
    cases d1 with|a d1=>cases d2 with|a d2 =>
     have f1:=hZ _ d1
     have f2:=hZ _ d2
     rw [h1.1] at f1
     rw [h1.2] at f2
     rw [G8 f1,G8 f2]
     rfl
 ·cases h1
theorem aVE(hk:k.n=16)(hm:m.n=32)(hb:b.n=32)(hi:i<4096)(ht:z.tag=Sh.shaF (oP m.l (kE i v b.l)))(hg:cG Xt w):
 Calls Xt.P 96 #[.agg (nv .u8 k.l++nv .u8 m.l).toArray,.int .i64 (i:Int),.agg v.nnc.toArray,.agg (nv .u8 b.l).toArray,.agg (nv .u8 z.tag).toArray] w λe w'=>e=.returned (.tuple #[.agg (nv .u8 (eY k.l b.l v)).toArray,.int .i64 0])∧Below w.heap.size w w':=by
 have hmv:=aFB m hm
 obtain ⟨kl,kn,hkl,hkb⟩:=k
 obtain ⟨bl,bn,hbl,hbb⟩:=b
 simp only at hk hb ht
 subst hk hb
 have h:=aXy kl hkl hkb (λj=>m.l.getD j 0) (pB m.hb) bl hbl hbb i v z
 rw [hmv] at h
 simp only [cH] at h
 obtain ⟨h1,h2⟩:=h
 have hall:∀ob∈(opX ⟨kl,16,hkl,hkb⟩ m ⟨bl,32,hbl,hbb⟩ i v z).2,ob.Holds (E0 Xt w):=by
  rw [h2]
  intro ob hob
  rcases eL.1 hob with hob|hob
  ·exact aIN hi ob hob
  ·rw [iY.1 hob]
   show opE (λj=>m.l.getD j 0) i v bl z.tag=false
   rw [ht]
   exact aUK
 unfold aJX at h1
 split at h1
 ·rename_i c st hfin
  simp only [b6] at h1
  unfold opX at hall hfin
  refine (xG (E:=E0 Xt w) (r:=[]) (g:=96) (args:=[.a (sC ⟨kl,16,hkl,hkb⟩ m),aM i,.a (.q (.nnc v)),.a (.q (.byt ⟨bl,32,hbl,hbb⟩)),.a (.q (.tag z))]) (vals:=[.agg (nv .u8 kl++nv .u8 m.l).toArray,.int .i64 (i:Int),.agg v.nnc.toArray,.agg (nv .u8 bl).toArray,.agg (nv .u8 z.tag).toArray]) (λQ0 h0 hq=>?_) hfin (.cons (.a (Z3 (k:=⟨kl,16,hkl,hkb⟩) [])) (.cons (.v _) (.cons (.a (.q (.nnc v))) (.cons (.a (.q (.byt ⟨bl,32,hbl,hbb⟩))) (.cons (.a (.q (.tag z))) .nil))))) (aG.start Xt w hg)).mono ?_
  ·show Xp (E0 Xt w) [] Q0 (eA Xt 96 [.a (sC ⟨kl,16,hkl,hkb⟩ m),aM i,.a (.q (.nnc v)),.a (.q (.byt ⟨bl,32,hbl,hbb⟩)),.a (.q (.tag z))] .e 0)
   exact a3n (S1:=SI) (S2:=SO) (H:=H9) (n:=14) (es1:=[.g false]) (e:=.b false) (es2:=[.b false]) aLE h0 hall hq
  ·rintro e w' ⟨q,u,rfl,hd,hm'⟩
   refine ⟨?_,hm'.below⟩
   cases hd with|t hd=>cases hd with|cons d1 hd=>cases hd with|cons d2 hd =>
    cases hd;cases d2
    cases d1 with|a d1 =>
     have f1:=hZ _ d1
     rw [h1] at f1
     rw [G8 f1]
     rfl
 ·cases h1
end
def E8(ns:List Nat):Option HB->Option HB
 |some b=>bif Nat.blt b.k 5 || Nat.beq b.k 7 then some ⟨b.T,pM ns b.cs,2⟩ else none
 |none=>none
def G1(ns:List Nat)(bs:List (Option HB))(j:Nat):List (Nat×Option HB):=List.rec (motive:=λ_=>Nat->List (Nat×Option HB)) (λ_=>[]) (λb _ ih j=>(j,E8 ns b)::ih (Nat.succ j)) bs j
def kH(ns:List Nat)(bs:List (Option HB)):Tr:=fD (G1 ns bs 0)
theorem aJa{ns:List Nat}:∀{bs:List (Option HB)} {j:Nat} {x:Nat×Option HB},x∈G1 ns bs j->∃m o,x=(j+m,E8 ns o)∧bs[m]?=some o
 |[],_,_,h=>by simp [G1] at h
 |b::bs,j,x,h=>by
  have e:G1 ns (b::bs) j=(j,E8 ns b)::G1 ns bs (j+1):=rfl
  rw [e,bG] at h
  rcases h with rfl|h
  ·exact ⟨0,b,rfl,rfl⟩
  ·obtain ⟨m,o,rfl,h2⟩:=aJa h
   exact ⟨m+1,o,by rw [show j+1+m=j+(m+1) by omega],by simpa using h2⟩
theorem frG{ns:List Nat}{bs:List (Option HB)}{m:Nat}{b:HB}(h:(kH ns bs).get m=some b):∃b0,bs[m]?=some (some b0)∧b=⟨b0.T,pM ns b0.cs,2⟩∧b0.k≠8:=by
 unfold kH at h
 rw [O9] at h
 cases hf:(G1 ns bs 0).find? λx=>x.1==m with
 |none=>rw [hf] at h;cases h
 |some x =>
  rw [hf] at h
  have h1:=List.find?_some hf
  simp only [beq_iff_eq] at h1
  obtain ⟨i,o,rfl,h2⟩:=aJa (List.mem_of_find?_eq_some hf)
  simp only [Nat.zero_add] at h1
  subst h1
  simp only [Option.map_some,Option.getD_some] at h
  unfold E8 at h
  split at h
  ·rename_i b0
   cases hq:Nat.blt b0.k 5 || Nat.beq b0.k 7 with
   |false=>rw [hq] at h;cases h
   |true =>
    rw [hq,cond_true] at h
    cases h
    refine ⟨b0,h2,rfl,λh8=>?_⟩
    rw [h8] at hq
    cases hq
  ·cases h
section
variable {E:bX}{r:List aF}{hp:Tr}{nx:Nat}{w:World}
theorem aG.fr(hm:aG E r hp nx w)(hE:E.X=Xt){ns:List Nat}{bs:List (Option HB)}(hbs:(ns.map λn=>jW (hp.get n))=bs):aG (E0 Xt w) (fI r ns) (kH ns bs) ns.length w:=by
 refine ⟨by simp [fI],λm b hb=>?_,λn m b c L M hb hc hne hk=>?_,Below.refl _ _,λk h=>h.elim,λn b L hb hk=>?_,aS _,λn b L hb h2 h5 hL=>?_,λk h=>h.elim,λg cs hg=>?_⟩
 ·obtain ⟨b0,h1,rfl,h8⟩:=frG hb
  rw [<-hbs,jC] at h1
  obtain ⟨n,hn,hnb⟩:=dE.1 h1
  obtain ⟨b1,hb1,e1⟩:∃b1,hp.get n=some b1∧oF b1=b0:=by
   cases h:hp.get n with
   |none=>rw [h] at hnb;cases hnb
   |some b1=>rw [h] at hnb;exact ⟨b1,rfl,jR hnb⟩
  obtain ⟨L,hL,hB⟩:=hm.blk n b1 hb1
  have hB':=Q2 hB
  rw [e1] at hB'
  obtain ⟨vs,hd,hcell⟩:=hB'.cells
  refine ⟨L,?_,vs,R8 hd,.inr (.inr ⟨aS 2,hB'.lt,hcell,λh=>absurd h (by show ¬ 2=5;decide),λh=>absurd h (by show ¬ 2=6;decide),λh=>absurd h (by show ¬ 5≤2;decide),λh=>absurd h (by show ¬ 2=8;decide)⟩)⟩
  unfold fI
  rw [jC,hn]
  simp [hL]
 ·obtain ⟨b0,_,rfl,_⟩:=frG hb
  exact absurd rfl hk
 ·obtain ⟨b0,_,rfl,_⟩:=frG hb
  exact absurd hk (by show ¬ (2<2∨5≤2);decide)
 ·refine .inl ?_
  obtain ⟨b0,h1,rfl,h8⟩:=frG hb
  rw [<-hbs,jC] at h1
  obtain ⟨n',hn,hnb⟩:=dE.1 h1
  obtain ⟨b1,hb1⟩:∃b1,hp.get n'=some b1:=by
   cases h:hp.get n' with
   |none=>rw [h] at hnb;cases hnb
   |some b1=>exact ⟨b1,rfl⟩
  obtain ⟨L2,hL2,hB⟩:=hm.blk n' b1 hb1
  unfold fI at hL
  rw [jC,hn] at hL
  simp [hL2] at hL
  subst hL
  exact hB.lt
 ·rw [<-hE] at hg
  obtain ⟨vs,h1,h2,h3⟩:=hm.globs g cs hg
  exact ⟨vs,h1,h2,h3⟩
theorem N6{ns:List Nat}:∀{xs:List SV} {vs:List Value},aX r xs vs->aX (fI r ns) (xs.map (lW ns)) vs
 |[],_,h=>by cases h;exact .nil
 |_::_,_,h=>by cases h with|cons h t=>exact .cons (aIu h) (N6 t)
end
theorem X8{E:bX}{g:FuncId}{args:List SV}{ns:List Nat}{bs:List (Option HB)}{nx:Nat}{y:Value}(hE:E.X=Xt)(hent:fQ Xt.P g)
 (h:∀(r:List aF) (vals:List Value) (w:World),cG Xt w->aX r (args.map (lW ns)) vals->aG (E0 Xt w) r (kH ns bs) ns.length w->Calls Xt.P g vals.toArray w λe w'=>e=.returned y∧Below w.heap.size w w'):tJ E g args ns bs [] nx (.v y) []:=by
 intro r vals w1 hp ha hm hbs
 rw [hE]
 refine ⟨λw'=>hent _ w',?_⟩
 refine (h _ vals w1 (hE▸hm.globs) (N6 ha) (hm.fr hE hbs)).mono ?_
 rintro e w' ⟨rfl,hb⟩
 exact ⟨[],_,rfl,.v _,by have:=hm.grow hb;rw [eC];exact this⟩
def aTk:List (FuncId×bV):=stops [23,181] oL
def HK:Hk:=cZ Xt (cT aTk) 14 6
theorem aRH:bZ Xt HK:=eH aH (jQ pG) 6
def chA(n l j:Nat)(R:Nat->aA)(Ee:Nat->aJ)(q:Int)(v:Value):List SV:=[aM n,.a (mA (aW n) q v),.a (.q (.node (bP n R Ee (l+1) (j / 4)))),aM (j%4)]
def slO(s:Nat)(_:Nat):SV:=.t [aM s,bM]
def chE(s:Nat)(x:bD):List Ev:=[.b false,.c [] (slO s) [],.c [] (λ_=>nE x) []]
def chX(n l j s:Nat)(R:Nat->aA)(Ee:Nat->aJ)(x:bD)(q:Int)(v:Value):aB×List Ob:=cL ⟨[35],[],0⟩ HK Xt 12 (chE s x) (eA Xt 49 (chA n l j R Ee q v) .e 0)
def aNn(n l j s:Nat)(R:Nat->aA)(Ee:Nat->aJ)(x:bD)(q:Int)(v:Value):Option SV×List Ob:=((dS Xt 49 (chX n l j s R Ee x q v).1).map (·.1),(chX n l j s R Ee x q v).2)
def uY(n l j:Nat)(Ee:Nat->aJ):aJ:=ee n Ee l (4*(j / 4)+j%4)
def chO(n l j s:Nat)(Ee:Nat->aJ)(x:bD)(q:Int)(v:Value):List Ob:=[.t (decide (((uY n l j Ee).s:Int)=0)) false,.c 23 [.v (.int .u8 (.ofNat (uY n l j Ee).s))] [] [] 13 (slO s 0) [],.c 181 (ndA n l j s q v (uY n l j Ee).dig) [] [] 13 (nE x) []]
def Y0(n:Nat):List ((Nat×Nat)×Nat):=((fR n).filter λp=>Nat.blt p.1 (aO n)).flatMap λp=>[(p,0),(p,1)]
def iS(n:Nat):Prop:=∀(R:Nat->aA) (Ee:Nat->aJ) (x:bD) (q:Int) (v:Value),(Y0 n).map (λd=>aNn n d.1.1 d.1.2 d.2 R Ee x q v)=(Y0 n).map λd=>(some (nE x),chO n d.1.1 d.1.2 d.2 Ee x q v)
theorem aPj:iS 1:=by intro R Ee x q v;kernel_rfl
theorem a2Z:iS 2:=by intro R Ee x q v;kernel_rfl
theorem aPX:iS 3:=by intro R Ee x q v;kernel_rfl
theorem a3H:iS 4:=by intro R Ee x q v;kernel_rfl
theorem a6N:iS 5:=by intro R Ee x q v;kernel_rfl
theorem aSr:iS 6:=by intro R Ee x q v;kernel_rfl
theorem a2N:iS 7:=by intro R Ee x q v;kernel_rfl
theorem aPA:iS 8:=by intro R Ee x q v;kernel_rfl
theorem bAq:iS 9:=by intro R Ee x q v;kernel_rfl
theorem a9e:iS 10:=by intro R Ee x q v;kernel_rfl
theorem aZQ:iS 11:=by intro R Ee x q v;kernel_rfl
theorem aPd:iS 12:=by intro R Ee x q v;kernel_rfl
theorem bA3:iS 13:=by intro R Ee x q v;kernel_rfl
theorem a3S:iS 14:=by intro R Ee x q v;kernel_rfl
theorem aRh:iS 15:=by intro R Ee x q v;kernel_rfl
theorem aS0:iS 16:=by intro R Ee x q v;kernel_rfl
theorem a9k:iS 17:=by intro R Ee x q v;kernel_rfl
theorem bAW:iS 18:=by intro R Ee x q v;kernel_rfl
theorem bDO:iS 19:=by intro R Ee x q v;kernel_rfl
theorem aSw:iS 20:=by intro R Ee x q v;kernel_rfl
theorem aZt:∀n,1≤n->n≤20->iS n
 |1,_,_=>aPj
 |2,_,_=>a2Z
 |3,_,_=>aPX
 |4,_,_=>a3H
 |5,_,_=>a6N
 |6,_,_=>aSr
 |7,_,_=>a2N
 |8,_,_=>aPA
 |9,_,_=>bAq
 |10,_,_=>a9e
 |11,_,_=>aZQ
 |12,_,_=>aPd
 |13,_,_=>bA3
 |14,_,_=>a3S
 |15,_,_=>aRh
 |16,_,_=>aS0
 |17,_,_=>a9k
 |18,_,_=>bAW
 |19,_,_=>bDO
 |20,_,_=>aSw
 |n+21,_,h=>absurd h (by omega)
 |0,h,_=>absurd h (by omega)
theorem aPf{n l j s:Nat}(hl3:l<3)(hl:l<aO n)(hj:j<aL n l)(hs:s<2):((l,j),s)∈Y0 n:=by
 simp only [Y0,List.mem_flatMap,fY,bO,bR]
 refine ⟨(l,j),⟨aIC hl3 hj,hl⟩,?_⟩
 rcases s with _|_|s
 ·simp
 ·simp
 ·omega
theorem bBp:[0,1].map (λs=>(eP H4 Xt 12 23 [.v (.int .u8 (.ofNat (s+1)))] .e 0).map (·.1))=[0,1].map λs=>some (slO s 0):=by kernel_rfl
theorem aDf{s:Nat}(hs:s<2)(w:World)(hg:cG Xt w):Calls Xt.P 23 #[.int .u8 ((s+1:Nat):Int)] w λe' w'=>e'=.returned (.tuple #[.int .i64 (s:Int),.int .i64 0])∧Below w.heap.size w w':=by
 have h:=cW bBp (show s∈[0,1] by simp;omega)
 obtain ⟨⟨res,st⟩,h1,h2⟩:=dE.1 h
 simp only at h2
 subst h2
 refine (oX (E:=E0 Xt w) (r:=[]) (vals:=[.int .u8 ((s+1:Nat):Int)]) aH sG h1 (.cons (.v _) .nil) (aG.start Xt w hg)).mono ?_
 rintro e' w' ⟨q,v,rfl,hd,hm⟩
 cases hd with|t d=>cases d with|cons d1 d=>cases d with|cons d2 d =>
  cases d;cases d1;cases d2
  exact ⟨rfl,hm.below⟩
theorem aWs{n l j s g c0:Nat}{R:Nat->aA}{Ee:Nat->aJ}{q:Int}(h1:1≤n)(h20:n≤20)(hl3:l<3)(hl:l<aO n)(hj:j<aL n l)(hs:s<2)(w:World)(hg:cG Xt w)(L:List (Option aQ))(hd:mT w g c0 L)
 (hL:L[lO n l j s]?=some (some (.nd (bP n R Ee l j)))) (hst:(ee n Ee l j).s=s+1) (hdg:Sh.shaF (bP n R Ee l j).bytes=(ee n Ee l j).dig) :
 Calls Xt.P 49 #[.int .i64 (n:Int),.agg #[.int .i64 (aW n:Int),.int .i64 q,.slice (some ⟨g,0,none⟩) 1 c0],.agg (bP n R Ee (l+1) (j / 4)).vals.toArray,.int .i64 ((j%4:Nat):Int)] w λe' w' =>
  e'=.returned (.tuple #[.agg (bP n R Ee l j).vals.toArray,.agg #[.int .i64 0,.int .u8 0],.int .i64 0])∧Below w.heap.size w w':=by
 have hjj:uY n l j Ee=ee n Ee l j:=by unfold uY;rw [show 4*(j / 4)+j%4=j by omega]
 obtain ⟨x,hx⟩:∃x,x=bP n R Ee l j:=⟨_,rfl⟩
 have h:=cW (aZt n h1 h20 R Ee x q (.slice (some ⟨g,0,none⟩) 1 c0)) (aPf hl3 hl hj hs)
 unfold aNn at h
 simp only [cH] at h
 obtain ⟨h2,h3⟩:=h
 obtain ⟨⟨res,st⟩,h4,h5⟩:=dE.1 h2
 simp only at h5
 subst h5
 refine (iQ (E:=E0 Xt w) (r:=[]) (vals:=[.int .i64 (n:Int),.agg #[.int .i64 (aW n:Int),.int .i64 q,.slice (some ⟨g,0,none⟩) 1 c0],.agg (bP n R Ee (l+1) (j / 4)).vals.toArray,.int .i64 ((j%4:Nat):Int)]) aH aRH h4 ?_ ?_ (aG.start Xt w hg)).mono ?_
 ·intro ob hob
  have hob':ob∈(chX n l j s R Ee x q (.slice (some ⟨g,0,none⟩) 1 c0)).2:=hob
  rw [h3] at hob'
  simp only [chO,hjj,bG,cK,or_false] at hob'
  rcases hob' with rfl|rfl|rfl
  ·show decide (((ee n Ee l j).s:Int)=0)=false
   rw [hst]
   exact decide_eq_false (by omega)
  ·refine fV (E:=E0 Xt w) (bB (by kernel_rfl)) λr vals w1 hp ha hm=>?_
   cases ha with|cons d1 t =>
    cases t
    cases d1
    rw [hst]
    refine (aDf hs w1 hm.globs).mono ?_
    rintro e' w' ⟨rfl,hb'⟩
    exact ⟨_,rfl,.t (.cons (.v _) (.cons (.v _) .nil)),hb'⟩
  ·refine fV (E:=E0 Xt w) (bB (by kernel_rfl)) λr vals w1 hp ha hm=>?_
   have hb:Below w.heap.size w w1:=hm.below
   have hv:vals=[.agg #[.int .i64 (n:Int),.int .i64 (aW n:Int),.int .i64 q,.slice (some ⟨g,0,none⟩) 1 c0],.agg #[.int .i64 (l:Int),.int .i64 (j:Int)],.int .i64 (s:Int),.agg (nv .u8 (ee n Ee l j).dig).toArray]:=by
    cases ha with|cons d1 t=>cases t with|cons d2 t=>cases t with|cons d3 t=>cases t with|cons d4 t =>
     cases t;cases d3
     cases d1 with|a d1 =>
      have d1':aD r (.node 1 4 (.one (aM n)) (.node 1 3 (.one (aM (aW n))) (.node 1 2 (.one (.v (.int .i64 q))) (.one (.v (.slice (some ⟨g,0,none⟩) 1 c0)))))) _:=d1
      cases d1' with|node e1 e2 _ _=>cases e2 with|node e2 e3 _ _=>cases e3 with|node e3 e4 _ _ =>
       rw [bQ e1,bQ e2,bQ e3,bQ e4]
       cases d2 with|a d2=>cases d2 with|node f1 f2 _ _ =>
        rw [bQ f1,bQ f2]
        cases d4 with|a d4=>rw [fJ d4];rfl
   rw [hv]
   refine (aL7 n l j s g c0 R Ee q h1 h20 hl3 hj hs w1 hm.globs L (hd.keep hb) hL _ hdg).mono ?_
   rintro e' w' ⟨rfl,hb'⟩
   refine ⟨_,rfl,?_,hb'⟩
   rw [hx]
   exact .t (.cons (.a (.q (.node _))) (.cons (.a (vs:=[.int .i64 0,.int .u8 0]) (.node (us:=[.int .i64 0]) (.one (.v _) rfl) (.one (.v _) rfl) rfl rfl)) (.cons (.v _) .nil)))
 ·refine .cons (.v _) (.cons (.a (vs:=[.int .i64 (aW n:Int),.int .i64 q,.slice (some ⟨g,0,none⟩) 1 c0]) ?_) (.cons (.a (.q (.node _))) (.cons (.v _) .nil)))
  exact .node (us:=[.int .i64 (aW n:Int)]) (.one (.v _) rfl) (.node (us:=[.int .i64 q]) (.one (.v _) rfl) (.one (.v _) rfl) rfl rfl) rfl rfl
 ·rintro e' w' ⟨qq,v,he,hdv,hm⟩
  refine ⟨?_,hm.below⟩
  rw [he,<-hx]
  cases hdv with|t d=>cases d with|cons d1 d=>cases d with|cons d2 d=>cases d with|cons d3 d =>
   cases d;cases d3
   cases d1 with|a d1 =>
    cases d1
    cases d2 with|a d2=>cases d2 with|node e1 e2 _ _=>rw [bQ e1,bQ e2];rfl
def aH4:List (FuncId×bV):=stops [44,46,23,49,50] oL
def HT:Hk:=cZ Xt (cT aH4) 14 6
theorem aDC:bZ Xt HT:=eH aH (jQ pG) 6
def zI(z:Nat):SV:=aM z
def aAk(n:Nat):List (Nat×Nat):=((List.range (aO n)).reverse).flatMap λl=>(List.range (aL n l)).map λj=>(l,j)
def trE(n:Nat)(em:Nat->Nat->Bool)(Z:Nat->Nat)(R:Nat->aA)(Ee:Nat->aJ):List Ev:=(aAk n).flatMap λp=>bif em p.1 p.2 then [.c [] (λ_=>.t [aM 0,aM 11]) []] else [.c [] (λ_=>.t [zI (Z (num n p.1 p.2)),bM]) [],.c [] (λ_=>nE (bP n R Ee p.1 p.2)) []]
def aJn(n:Nat)(x:bD)(q:Int)(v:Value)(dg:List Nat)(e m:Value):aB×List Ob:=cL S0 HT Xt 12 [.c [] (λ_=>nE x) []] (eA Xt 6 (vQ n q v dg e m) .e 0)
def trP(n:Nat)(x:bD)(z0:Nat)(q:Int)(v:Value)(dg:List Nat)(e m:Value):Option ((aB×List Ob)×List b8):=(q8 Xt (cT aH4) 14 6 [⟨46,[],[],λ_=>zI z0,[]⟩] [] (aJn n x q v dg e m).1).map λy=>((y.1,(aJn n x q v dg e m).2),y.2)
def trX(n:Nat)(em:Nat->Nat->Bool)(Z:Nat->Nat)(R:Nat->aA)(Ee:Nat->aJ)(z0:Nat)(q:Int)(v:Value)(dg:List Nat)(e m:Value)(es:List Ev):Option ((aB×List Ob)×List b8):=(trP n (bP n R Ee (aO n) 0) z0 q v dg e m).map λy=>(((cL S0 HT Xt 13 (trE n em Z R Ee++es) y.1.1).1,y.1.2++(cL S0 HT Xt 13 (trE n em Z R Ee++es) y.1.1).2),y.2)
def f9(n:Nat)(R:Nat->aA)(Ee:Nat->aJ):Rp SV:=cB ((fR n).map λp=>.q (.node (bP n R Ee p.1 p.2)))
def aGD(n:Nat)(R:Nat->aA)(Ee:Nat->aJ):List Ev:=[.k 5 (f9 n R Ee) false,.c [5] (λ_=>bM) []]
def trF(y:Option ((aB×List Ob)×List b8)):Option (((Option SV×Option HB)×Option HB)×List Ob×List b8):=y.map λy=>((((dS Xt 6 y.1.1).map (·.1),y.1.1.st.hp.get 5),y.1.1.st.hp.get 6),y.1.2,y.2)
def aDp(lv ix:Nat)(ps:List (Rp SV)):List (Rp SV):=.one (.v (.int .u8 (lv:Int)))::.one (.v (.int .u32 (ix:Int)))::jT (jT (jT (jT (jU (jU (jU (jU ps)))))))
def aI2(n:Nat)(em:Nat->Nat->Bool)(R:Nat->aA)(Ee:Nat->aJ):List (Rp SV):=(fR n).foldr (λp ps=>bif Nat.blt p.1 (aO n)&&em p.1 p.2 then aDp p.1 p.2 ps else .q (.node (bP n R Ee p.1 p.2))::ps) []
def aFx(n l j nx:Nat)(pe em:Bool)(Z:Nat->Nat)(Ee:Nat->aJ):Ob:=.c 23 [.v (.int .u8 (.ofNat (bif pe then 0 else (uY n l j Ee).s)))] [] [] nx (bif em then .t [aM 0,aM 11] else .t [zI (Z (num n l j)),bM]) []
def O0(n:Nat)(em:Nat->Nat->Bool)(Z:Nat->Nat)(R:Nat->aA)(Ee:Nat->aJ)(q:Int)(v:Value):List (Nat×Nat)->Nat->List Ob
 |[],_=>[]
 |p::l,nx=>aFx n p.1 p.2 nx (Nat.blt (p.1+1) (aO n)&&em (p.1+1) (p.2 / 4)) (em p.1 p.2) Z Ee::(bif em p.1 p.2 then O0 n em Z R Ee q v l (nx+3) else .c 49 (chA n p.1 p.2 R Ee q v) [] [] nx (nE (bP n R Ee p.1 p.2)) []::O0 n em Z R Ee q v l (nx+3))
def aK6(n:Nat):Rp SV:=.node 1 2 (.one (aM n)) (.one (.s 5 0 (aT n) (aT n)))
def aCX(n:Nat)(em:Nat->Nat->Bool)(Z:Nat->Nat)(R:Nat->aA)(Ee:Nat->aJ)(q:Int)(v:Value)(dg:List Nat)(e m:Value):List Ob:=.c 44 (vQ n q v dg e m) [] [] 4 (nE (bP n R Ee (aO n) 0)) []::(O0 n em Z R Ee q v (aAk n) 10 ++
 [.r (cB (aI2 n em R Ee)) (f9 n R Ee),.c 50 [.a (aK6 n)] [5] [some ⟨67,f9 n R Ee,0⟩] (4+3*aT n) bM []])
def bBu(n:Nat):SV:=.t [.a (aK6 n),.s 6 0 (aT n) (aT n),.a oV,bM]
def E2:Nat->List (List Bool)
 |0=>[[]]
 |k+1=>(E2 k).flatMap λp=>[false::p,true::p]
def emP(n:Nat)(p:List Bool)(l j:Nat):Bool:=bif Nat.beq l 0 then p.getD j false else (List.range (aL n 0)).all λi=>!(Nat.beq (i / 4) j) || p.getD i false
def i5(l:List Nat):Rp SV:=cB (l.map λx=>.one (aM x))
def F6(n:Nat)(em:Nat->Nat->Bool)(Z:Nat->Nat)(z0:Nat):List Nat:=(fR n).map λp=>bif Nat.beq p.1 (aO n) then z0 else bif em p.1 p.2 then 1 else Z (num n p.1 p.2)
def aNz(n:Nat)(em:Nat->Nat->Bool)(Z:Nat->Nat)(R:Nat->aA)(Ee:Nat->aJ)(z0:Nat)(q:Int)(v:Value)(dg:List Nat)(e m:Value):Option (((Option SV×Option HB)×Option HB)×List Ob×List b8):=trF (trX n em Z R Ee z0 q v dg e m (aGD n R Ee))
def aLg(n:Nat)(em:Nat->Nat->Bool)(Z:Nat->Nat)(R:Nat->aA)(Ee:Nat->aJ)(z0:Nat)(q:Int)(v:Value)(dg:List Nat)(e m:Value):Option (((Option SV×Option HB)×Option HB)×List Ob×List b8):=some (((some (bBu n),some ⟨67,f9 n R Ee,0⟩),some ⟨3,i5 (F6 n em Z z0),0⟩),aCX n em Z R Ee q v dg e m,[.c ⟨46,[.a (oU dg e m)],[],[],[],7,zI z0,[]⟩])
def iF(n:Nat):Prop:=∀(Z:Nat->Nat) (R:Nat->aA) (Ee:Nat->aJ) (z0:Nat) (q:Int) (v:Value) (dg:List Nat) (e m:Value),
 (E2 (aL n 0)).map (λp=>aNz n (emP n p) Z R Ee z0 q v dg e m)=(E2 (aL n 0)).map λp=>aLg n (emP n p) Z R Ee z0 q v dg e m
def usX(x:bD)(p:List Bool):aB×List Ob:=cL ⟨[],[20],0⟩ H4 Xt 12 (p.map .g) (eA Xt 215 [.a (.q (.node x))] .e 0)
def aL1(x:bD)(p:List Bool):Option SV×List Ob:=((dS Xt 215 (usX x p).1).map (·.1),(usX x p).2)
def kR(p:List Bool):Nat:=p.foldl (λn b=>bif b then n+1 else n) 0
theorem aQI(ix:Nat)(a b c d:aA)(h:ix≤7):(m8 4).map (aL1 (.leaf ix a b c d h))=(m8 4).map λp=>(some (aM (kR p)),[.t (mM a) (p.getD 0 false),.t (mM b) (p.getD 1 false),.t (mM c) (p.getD 2 false),.t (mM d) (p.getD 3 false)]):=by kernel_rfl
def wH(a b c d:aA):List Bool:=[mM a,mM b,mM c,mM d]
theorem aIS(ix:Nat)(a b c d:aA)(h:ix≤7)(w:World)(hg:cG Xt w):Calls Xt.P 215 #[.agg (bD.leaf ix a b c d h).vals.toArray] w λe w'=>e=.returned (.int .i64 ((kR (wH a b c d):Nat):Int))∧Below w.heap.size w w':=by
 have h0:=cW (aQI ix a b c d h) (W7 (k:=4) (l:=wH a b c d) rfl)
 unfold aL1 at h0
 simp only [cH] at h0
 obtain ⟨h1,h2⟩:=h0
 obtain ⟨⟨res,st⟩,h3,h4⟩:=dE.1 h1
 simp only at h4
 subst h4
 refine (iQ (E:=E0 Xt w) (r:=[]) (vals:=[.agg (bD.leaf ix a b c d h).vals.toArray]) aH sG h3 ?_ (.cons (.a (.q (.node (.leaf ix a b c d h)))) .nil) (aG.start Xt w hg)).mono ?_
 ·intro ob hob
  have hob':ob∈(usX (.leaf ix a b c d h) (wH a b c d)).2:=hob
  rw [h2] at hob'
  simp only [bG,cK,or_false] at hob'
  rcases hob' with rfl|rfl|rfl|rfl<;>rfl
 ·rintro e w' ⟨q,v,rfl,hd,hm⟩
  cases hd
  exact ⟨rfl,hm.below⟩
theorem aEB{a b c d:aA}:kR (wH a b c d)=0↔a.s=0∧b.s=0∧c.s=0∧d.s=0:=by
 unfold wH
 simp only [aG5,bE]
 by_cases ha:a.s=0<;>by_cases hb:b.s=0<;>by_cases hc:c.s=0<;>by_cases hd:d.s=0<;>simp [kR,ha,hb,hc,hd]
def aM0:List (FuncId×bV):=stops [279,215] oL
def HJ:Hk:=cZ Xt (cT aM0) 14 6
theorem xO:bZ Xt HJ:=eH aH (jQ pG) 6
def zB(n:Nat):List Nat:=(List.range (aO n+1)).map (aL n)
def wR(n nC nF:Nat):Rp SV:=cB [.one (aM n),.one (.w nC (aO n+1)),.one (.w nF (aO n+1))]
def aML(n:Nat):Rp SV:=cB [.one (aM n),.one (.w 3 (aO n+1)),.one .u]
def emF:SV:=.f (.func 279) [] [.p 0 0,.p 1 0,.p 2 0]
def G9(n c:Nat)(R:Nat->aA)(Ee:Nat->aJ):Tr:=fD [(0,some ⟨42,.one (.s 4 0 (aT n) c),2⟩),(1,some ⟨236,aML n,2⟩),(2,some ⟨368,.one emF,2⟩),(3,some ⟨3,i5 (zB n),2⟩),(4,some ⟨67,f9 n R Ee,2⟩)]
def aBs(l j:Nat):List SV:=[aM l,aM j,.p 0 0,.p 1 0,.p 2 0]
def jX(n c:Nat)(R:Nat->aA)(Ee:Nat->aJ)(l j:Nat)(es:List Ev):aB×List Ob:=cL S0 HJ Xt 12 es (eA Xt 279 (aBs l j) (G9 n c R Ee) 5)
def aBr(n c:Nat)(R:Nat->aA)(Ee:Nat->aJ)(l j:Nat)(es:List Ev):Option SV×List Ob:=((dS Xt 279 (jX n c R Ee l j es).1).map (·.1),(jX n c R Ee l j es).2)
def Q5(V:Nat->Nat)(j:Nat)(e:Bool):SV:=aM (bif e then 0 else V j+1)
def aH5(n c:Nat)(R:Nat->aA)(Ee:Nat->aJ)(V:Nat->Nat)(d:Nat×Bool):Option SV×List Ob:=aBr n c R Ee 0 d.1 [.c [] (λ_=>Q5 V d.1 d.2) []]
def aHW(n:Nat)(R:Nat->aA)(Ee:Nat->aJ)(V:Nat->Nat)(d:Nat×Bool):Option SV×List Ob:=(some (.v (.bool d.2)),[.c 215 [.a (.q (.node (bP n R Ee 0 d.1)))] [] [] 5 (Q5 V d.1 d.2) []])
def Y5(n:Nat):List (Nat×Bool):=(List.range (aL n 0)).flatMap λj=>[(j,true),(j,false)]
def iW(n:Nat):Prop:=∀(c:Nat) (R:Nat->aA) (Ee:Nat->aJ) (V:Nat->Nat),(Y5 n).map (aH5 n c R Ee V)=(Y5 n).map (aHW n R Ee V)
def bsJ(n c:Nat)(R:Nat->aA)(Ee:Nat->aJ):List (Option HB):=[some ⟨42,.one (.s 4 0 (aT n) c),2⟩,some ⟨236,aML n,2⟩,some ⟨368,.one emF,2⟩,some ⟨3,i5 (zB n),2⟩,some ⟨67,f9 n R Ee,2⟩]
def n5:List Nat:=[0,1,2,3,4]
def evJ(b:Bool):Ev:=.c n5 (λ_=>.v (.bool b)) []
def aJG(n c:Nat)(R:Nat->aA)(Ee:Nat->aJ)(d:Nat×Nat):Option SV×List Ob:=aBr n c R Ee 1 d.1 (List.replicate d.2 (evJ true)++bif Nat.beq d.2 (cS n 1 d.1) then [] else [evJ false])
def obJ(n c:Nat)(R:Nat->aA)(Ee:Nat->aJ)(k:Nat)(b:Bool):Ob:=.c 279 (aBs 0 k) n5 (bsJ n c R Ee) 5 (.v (.bool b)) []
def aKL(n c:Nat)(R:Nat->aA)(Ee:Nat->aJ)(d:Nat×Nat):Option SV×List Ob:=(some (.v (.bool (Nat.beq d.2 (cS n 1 d.1)))),((List.range d.2).map λk=>obJ n c R Ee (4*d.1+k) true)++bif Nat.beq d.2 (cS n 1 d.1) then [] else [obJ n c R Ee (4*d.1+d.2) false])
def aAf(n:Nat):List (Nat×Nat):=bif Nat.blt (aO n) 2 then [] else (List.range (aL n 1)).flatMap λj=>(List.range (cS n 1 j+1)).map λf=>(j,f)
def iT(n:Nat):Prop:=∀(c:Nat) (R:Nat->aA) (Ee:Nat->aJ),(aAf n).map (aJG n c R Ee)=(aAf n).map (aKL n c R Ee)
def aFj(n:Nat):List Nat:=(List.range (aO n+1)).map λl=>num n l 0
def vO(n c:Nat):Rp SV:=.node 1 2 (.one (aM n)) (.one (.s 0 0 (aT n) c))
def hpC(n:Nat)(R:Nat->aA)(Ee:Nat->aJ):Tr:=fD [(0,some ⟨67,f9 n R Ee,2⟩),(1,some ⟨3,i5 (zB n),2⟩),(2,some ⟨3,i5 (aFj n),2⟩)]
def bEF(n c:Nat):List SV:=[.a (wR n 1 2),.a (vO n c)]
def ckP(n c:Nat)(R:Nat->aA)(Ee:Nat->aJ):aB:=gQ S0 HJ Xt 14 (eA Xt 186 (bEF n c) (hpC n R Ee) 3)
def tbJ(x:Bool):List fT:=[⟨279,[6,5,7,1,0],[],λ_=>.v (.bool x),[]⟩]
def gX(n:Nat):List (Nat×Nat):=(List.range (aO n)).flatMap λl=>(List.range (aL n l)).map λj=>(l,j)
def aG6:SV:=.f (.func 279) [] [.p 6 0,.p 5 0,.p 7 0]
def bsC(n c:Nat)(R:Nat->aA)(Ee:Nat->aJ):List (Option HB):=[some ⟨42,.one (.s 0 0 (aT n) c),0⟩,some ⟨236,wR n 1 2,0⟩,some ⟨368,.one aG6,0⟩,some ⟨3,i5 (zB n),2⟩,some ⟨67,f9 n R Ee,2⟩]
def aF1(n:Nat)(p:Nat×Nat):Nat:=num n (p.1+1) (p.2 / 4)
def vD(n:Nat)(p:Nat×Nat):Nat:=8+(2*(aF1 n p+1)+3*(num n p.1 p.2+1))
def aC5(n:Nat)(p:Nat×Nat):Nat:=9+(2*aF1 n p+3*num n p.1 (4*(p.2 / 4)))
def lsC:List Nat:=[2,3,4,5,6,7,8,9,10,11,12,13,20,21,22,27,28]
def lhC(n:Nat)(p:Nat×Nat):List Nat:=[0,1,2,3,4,5,6,7,aC5 n p,vD n p-3,vD n p-1]
def aSH:List uF:=[.r,.r,.l,.r,.b,.b,.r,.r,.l,.b,.r,.r,.b,.b,.r,.r,.l,.b,.r,.r,.r,.r,.r,.r,.b,.b,.r,.l,.b,.r,.r,.l]
def PC(n c:Nat)(R:Nat->aA)(Ee:Nat->aJ)(p:Nat×Nat):aB :=
 rF 186 aSH [(2,.p 3 0),(3,.p 4 0),(4,.v .nilIface),(5,aG6),(6,aM (p.1+1)),(7,aM (aL n (p.1+1))),(8,aM (p.2 / 4)),(9,aM (aF1 n p)),(10,.p (aC5 n p) 0),(11,aM p.2),(12,.p (vD n p-3) 0),(13,.p (vD n p-1) 0),(20,.w 1 (aO n+1)),(21,aM (aO n+1)),(22,aM (p.1+1)),(27,aM (aL n (p.1+1))),(28,aM (p.2 / 4))]
  [(0,some ⟨67,f9 n R Ee,2⟩),(1,some ⟨3,i5 (zB n),2⟩),(2,some ⟨3,i5 (aFj n),2⟩),(3,some ⟨236,wR n 1 2,0⟩),(4,some ⟨44,vO n c,0⟩),(5,some ⟨236,wR n 1 2,0⟩),(6,some ⟨42,.one (.s 0 0 (aT n) c),0⟩),(7,some ⟨368,.one aG6,0⟩),
   (aC5 n p,some ⟨67,.q (.node (bP n R Ee (p.1+1) (p.2 / 4))),0⟩),(vD n p-3,some ⟨64,.q (.ent (ee n Ee p.1 p.2)),0⟩),(vD n p-1,some ⟨32,.arr .u8 32 (Sh.shaF (bP n R Ee p.1 p.2).bytes),0⟩)] (vD n p)
def aQC(n c:Nat)(R:Nat->aA)(Ee:Nat->aJ)(p:Nat×Nat)(e:Bool):b8:=.c ⟨279,[aM p.1,aM p.2,.p 6 0,.p 5 0,.p 7 0],[6,5,7,1,0],bsC n c R Ee,[],vD n p,.v (.bool e),[]⟩
def X1(n c:Nat)(R:Nat->aA)(Ee:Nat->aJ)(p:Nat×Nat)(e:Bool):List b8:=(bif e then [] else [.t (!(decide ((ee n Ee p.1 p.2).dig=Sh.shaF (bP n R Ee p.1 p.2).bytes)&&true)) false])++[.t (!(((ee n Ee p.1 p.2).s:Int)==0)) (!e),aQC n c R Ee p e,.t (decide (((ee n Ee p.1 p.2).s:Int)=0)) e]
def ckD(e:Bool)(p:aB):Option (aB×List b8):=q8 Xt (cT aM0) 14 6 (tbJ e) [(100,e),(110,!e),(115,false)] p
def gU(n k:Nat):Nat×Nat:=(gX n).getD k (0,0)
def bDm(n c:Nat)(R:Nat->aA)(Ee:Nat->aJ)(k:Nat)(e:Bool):Option (aB×List b8):=(ckD e (PC n c R Ee (gU n k))).map λy=>(A7 lsC (lhC n (gU n (k+1))) (gQ S0 HJ Xt 13 y.1),y.2)
def aXJ(n c:Nat)(R:Nat->aA)(Ee:Nat->aJ)(k:Nat)(e:Bool):Option (aB×List b8):=some (PC n c R Ee (gU n (k+1)),X1 n c R Ee (gU n k) e)
def aN8(n c:Nat)(R:Nat->aA)(Ee:Nat->aJ)(k:Nat)(e:Bool):Option (Option SV×List b8):=(ckD e (PC n c R Ee (gU n k))).map λy=>((dS Xt 186 (gQ S0 HJ Xt 13 y.1)).map (·.1),y.2)
def aJ0(n c:Nat)(R:Nat->aA)(Ee:Nat->aJ)(k:Nat)(e:Bool):Option (Option SV×List b8):=some (some (.v .nilIface),X1 n c R Ee (gU n k) e)
def L8(n:Nat):Prop:=∀(c:Nat) (R:Nat->aA) (Ee:Nat->aJ),(dS Xt 186 (ckP n c R Ee)).map (·.1)=some (.v .nilIface)
def k9(n:Nat):Prop:=∀(c:Nat) (R:Nat->aA) (Ee:Nat->aJ),A7 lsC (lhC n (gU n 0)) (ckP n c R Ee)=PC n c R Ee (gU n 0)∧(List.range ((gX n).length-1)).map (λk=>[true,false].map (bDm n c R Ee k))=(List.range ((gX n).length-1)).map (λk=>[true,false].map (aXJ n c R Ee k))∧[true,false].map (aN8 n c R Ee ((gX n).length-1))=[true,false].map (aJ0 n c R Ee ((gX n).length-1))
def aLS:List (FuncId×bV):=stops [186] oL
def HU:Hk:=cZ Xt (cT aLS) 14 6
theorem aGG:bZ Xt HU:=eH aH (jQ pG) 6
def vaP(n c:Nat)(R:Nat->aA)(Ee:Nat->aJ):aB:=gQ S0 HU Xt 14 (eA Xt 50 [.a (vO n c)] (fD [(0,some ⟨67,f9 n R Ee,2⟩)]) 1)
def nC(n:Nat):Nat:=7+4*aO n
def nF(n:Nat):Nat:=9+4*aO n
def tbU(n:Nat):List fT:=[⟨186,[0,nC n,nF n],[],λ_=>.v .nilIface,[]⟩]
def aJQ(n c:Nat)(R:Nat->aA)(Ee:Nat->aJ):Option (Option SV×List b8):=(q8 Xt (cT aLS) 14 6 (tbU n) [] (vaP n c R Ee)).map λy=>((dS Xt 50 (gQ S0 HU Xt 12 y.1)).map (·.1),y.2)
def bsV(n:Nat)(R:Nat->aA)(Ee:Nat->aJ):List (Option HB):=[some ⟨67,f9 n R Ee,2⟩,some ⟨3,i5 (zB n),1⟩,some ⟨3,i5 (aFj n),1⟩]
def aN5(n c:Nat)(R:Nat->aA)(Ee:Nat->aJ):Option (Option SV×List b8):=some (some bM,[.c ⟨186,[.a (wR n (nC n) (nF n)),.a (vO n c)],[0,nC n,nF n],bsV n R Ee,[],12+4*aO n,.v .nilIface,[]⟩])
def iL(n:Nat):Prop:=∀(c:Nat) (R:Nat->aA) (Ee:Nat->aJ),kH n5 (bsJ n c R Ee)=G9 n c R Ee∧kH [6,5,7,1,0] (bsC n c R Ee)=G9 n c R Ee∧kH [0,nC n,nF n] (bsV n R Ee)=hpC n R Ee∧[SV.a (wR n (nC n) (nF n)),.a (vO n c)].map (lW [0,nC n,nF n])=bEF n c
def gZ(n:Nat):Prop:=∀(c:Nat) (R:Nat->aA) (Ee:Nat->aJ),aJQ n c R Ee=aN5 n c R Ee
def aFC:List (FuncId×bV):=stops [219,162] oL
def HW:Hk:=cZ Xt (cT aFC) 14 6
theorem aMi:bZ Xt HW:=eH aH (jQ pG) 6
def gE(o lv ix:Nat):Bool:=Nat.beq ix (o / 4 ^ (lv+1))
def lY(o lv ix w:Nat):Bool:=Nat.beq lv 0&&Nat.beq (4*ix+w) o
def dV(t:Bool)(z:aA):aA:=⟨Nat.succ (aV t),z.sh,z.c,z.tag,by have:=vE t;omega,λh=>by omega,z.hsh,z.hc,z.ht,z.hb⟩
def RU(o:Nat)(v:aA)(R:Nat->aA)(k:Nat):aA:=bif Nat.beq k o then v else R k
def sU(B:Nat->Bool)(k:Nat):SV:=aM (aV (B k))
def bS(b:Bool):Rp SV:=.one (.v (.bool b))
def s8(n o:Nat)(R:Nat->aA)(Ee:Nat->aJ)(B:Nat->Bool)(lv ix:Nat):List (Rp SV):=[.q (.node (bP n R Ee lv ix)),.one (sU B (num n lv ix)),bS (gE o lv ix),bS (lY o lv ix 0),bS (lY o lv ix 1),bS (lY o lv ix 2),bS (lY o lv ix 3)]
def fL(n o:Nat)(R:Nat->aA)(Ee:Nat->aJ)(B:Nat->Bool):Rp SV:=cB ((fR n).flatMap λp=>s8 n o R Ee B p.1 p.2)
def iK(n k:Nat):Rp SV:=.node 1 2 (.one (aM n)) (.one (.s k 0 (aT n) (aT n)))
def fG(n o:Nat)(R:Nat->aA)(Ee:Nat->aJ)(B:Nat->Bool)(k:Nat):HB:=⟨192,fL n o R Ee B,k⟩
def vu0(n o:Nat)(R:Nat->aA)(Ee:Nat->aJ)(B:Nat->Bool):aB:=gQ S0 HW Xt 14 (eA Xt 163 [.a (iK n 0)] (fD [(0,some (fG n o R Ee B 2))]) 1)
def aQ8:List fT:=[⟨218,[0],[],λ_=>.v (.bool false),[]⟩]
def aIv(e:aJ):List fT:=[⟨162,[],[],λ_=>.a (.q (.ent e)),[]⟩]
def T3(S:gR)(H:Hk)(tab:FuncId->Option bV):List (List fT×List (Tmp×Bool))->aB->Option (aB×List b8)
 |[],p=>some (p,[])
 |t::l,p=>match q8 Xt tab 14 6 t.1 t.2 p with
  |some y=>(match T3 S H tab l (gQ S H Xt 13 y.1) with
   |some z=>some (z.1,y.2++z.2)
   |none=>none)
  |none=>none
theorem aDV{w:World}{S:gR}{tab:List (FuncId×bV)}(hH:bZ Xt (cZ Xt (cT tab) 14 6)){r0:List aF}{Q0:cM}(h0:e8 Xt.P Q0):∀{l:List (List fT×List (Tmp×Bool))} {p q:aB} {obs:List b8},T3 S (cZ Xt (cT tab) 14 6) (cT tab) l p=some (q,obs)->(∀ob∈obs,ob.Any Xt w)->Xp (E0 Xt w) r0 Q0 q->Xp (E0 Xt w) r0 Q0 p
 |[],_,_,_,h,_,hq=>by
  cases h
  exact hq
 |t::l,p,q,obs,h,ho,hq=>by
  unfold T3 at h
  split at h
  ·rename_i y hy
   split at h
   ·rename_i z hz
    simp only [b6,cH] at h
    obtain ⟨rfl,rfl⟩:=h
    refine sD (E:=E0 Xt w) (q:=y.1) (obs:=y.2) aH hH h0 hy (λob hob=>ho ob (kJ _ hob)) ?_
    exact jP (S:=S) (E:=E0 Xt w) aH hH h0 13 (aDV hH h0 (q:=z.1) (obs:=z.2) hz (λob hob=>ho ob (gW _ hob)) hq)
   ·cases h
  ·cases h
def qS:b8->b8
 | .c o=>.c ⟨o.g,o.args,o.ns,o.bs,o.ds,0,o.res,o.new⟩
 | .t e x=>.t e x
def uvE(n:Nat)(Ee:Nat->aJ):List (List fT×List (Tmp×Bool)):=(aQ8,[])::((fR n).take (aT n-1)).map λp=>(aIv (ee n Ee p.1 p.2),[(39,false)])
def uvR(n o:Nat)(R:Nat->aA)(Ee:Nat->aJ)(B:Nat->Bool):Option (aB×List b8):=T3 S0 HW (cT aFC) (uvE n Ee) (vu0 n o R Ee B)
def aHx(n o:Nat)(R:Nat->aA)(Ee:Nat->aJ)(B:Nat->Bool):Option (Option SV×List b8):=(uvR n o R Ee B).map λy=>((dS Xt 163 y.1).map (·.1),y.2.map qS)
def uC(n:Nat):Nat:=6+4*aO n
def aWy(n:Nat):Rp SV:=.node 1 2 (.one (.w (uC n) (aO n+1))) (.one (.w (uC n+2) (aO n+1)))
def zV(n o:Nat)(R:Nat->aA)(Ee:Nat->aJ)(B:Nat->Bool)(l j:Nat):b8:=.c ⟨162,[.a (cB (s8 n o R Ee B l j))],[],[],[],0,.a (.q (.ent (ee n Ee l j))),[]⟩
def aOW(x:aJ):b8:=.t (!(decide ((x.s:Int)=x.s)&&(decide (x.dig=x.dig)&&true))) false
def A8(n o:Nat)(R:Nat->aA)(Ee:Nat->aJ)(B:Nat->Bool):List b8:=.c ⟨218,[.s 0 0 (aT n) (aT n),.f (.func 219) [] []],[0],[some (fG n o R Ee B 2)],[],0,.v (.bool false),[]⟩::((fR n).take (aT n-1)).flatMap λp=>[aOW (ee n Ee p.1 p.2),zV n o R Ee B p.1 p.2]
def aF6(n o:Nat)(R:Nat->aA)(Ee:Nat->aJ)(B:Nat->Bool):Option (Option SV×List b8):=some (some (.t [.a (aWy n),bM]),A8 n o R Ee B)
def V2(n:Nat):Nat->List Nat
 |0=>[1000]
 |g+1=>(List.range (min 4 (n-4*g))).map λj=>4*g+j
def b7(n g:Nat):Prop:=∀(t:Bool) (z:aA) (R:Nat->aA) (Ee:Nat->aJ) (B:Nat->Bool),(V2 n g).map (λo=>aHx n o (RU o (dV t z) R) Ee B)=(V2 n g).map λo=>aF6 n o (RU o (dV t z) R) Ee B
