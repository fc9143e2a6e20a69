/- A part of the proof of TopSealed. -/
import Derived.Test.YtjboelhcieepkaaGreatDoorW5
import Derived.Conc.MuLone
import Derived.TacticsIn
noncomputable section
set_option maxRecDepth 16384
namespace Go.Proofs.YtjboelhcieepkaaGreatDoor
open Go.RowKit
abbrev cM:=Exit->Act->World->Prop
def FR:Option Nat->Fence
 |none=>Fence.wide
 |some l=>Fence.wide.inRound l
theorem oC(m:Option Nat)(f:FuncId):(FR m).fn f:=by cases m<;>trivial
theorem Q7(m:Option Nat){p:Prop}(h:(FR m).depth.isSome=true):p:=by cases m<;>simp [FR,Fence.wide,Fence.inRound] at h
theorem aBE(m:Option Nat)(n:Nat):(FR m).room n:=by cases m<;>(intro d h;simp [FR,Fence.wide,Fence.inRound] at h)
theorem a1A(m:Option Nat)(l:Nat):(FR m).inRound l=FR (some l):=by cases m<;>rfl
theorem aK9{m:Option Nat}{n:Nat}{P:Program}{f:FuncId}{args:Array Value}{w:World}{R:Ending->World->Prop}(h:Calls P f args w R):CallsIn (FR m) n P f args w R:=by
 cases m with
 |none=>exact callsIn_wide.2 h
 |some l=>exact CallsIn.inRound l (callsIn_wide.2 h)
def S5(m:Option Nat)(P:Program)(c:Code)(Q:cM)(a:Act)(w:World):Prop:=∀(b:Frame) (k:List Item) (cs:List Frame),b.roundOf=(FR m).round->∃e a' w',Q e a' w'∧ArrivesIn (Machine.fenced P (FR m)) P (lone (b.atR a (.inLoop c::k)) cs w) b k cs e a' w'
theorem aM9{m:Option Nat}{P:Program}{c:Code}{Q:cM}{a:Act}{w:World}(h:c.wpIn (FR m) 0 P (Exit.then (S5 m P c Q) Q) a w)(b:Frame)(k:List Item)(cs:List Frame)(hro:b.roundOf=(FR m).round):
 ∃e a' w',Q e a' w'∧ArrivesIn (Machine.fenced P (FR m)) P (lone (b.atR a (.code c::.inLoop c::k)) cs w) b k cs e a' w':=by
 obtain ⟨e,a₁,w₁,hq,harr⟩:=h b (.inLoop c::k) cs hro (oC _ _) (aBE _ _)
 cases e with
 |normal =>
  obtain ⟨e₂,a₂,w₂,hq₂,harr₂⟩:=hq b k cs hro
  exact ⟨e₂,a₂,w₂,hq₂,.of_steps harr harr₂⟩
 |exit id=>exact ⟨_,a₁,w₁,hq,.pass (x:=.inLoop c) rfl (λ_ _=>.inl (by simp)) harr⟩
 |goto l=>exact ⟨_,a₁,w₁,hq,.pass (x:=.inLoop c) rfl (λ_ _=>.inl (by simp)) harr⟩
 |ret=>exact ⟨_,a₁,w₁,hq,.pass (x:=.inLoop c) rfl (λ_ _=>.inl (by simp)) harr⟩
 |panic ch=>exact ⟨_,a₁,w₁,hq,.pass (x:=.inLoop c) rfl (λ_ _=>.inl (by simp)) harr⟩
 |outgrown=>exact ⟨_,a₁,w₁,hq,.pass (x:=.inLoop c) rfl (λ_ _=>.inl (by simp)) harr⟩
theorem bBF{m:Option Nat}{P:Program}{c:Code}{Q:cM}{a:Act}{w:World}(h:c.wpIn (FR m) 0 P (Exit.then (S5 m P c Q) Q) a w):(Code.loop c).wpIn (FR m) 0 P Q a w:=λb k cs hro hb hr =>
 let ⟨e,a',w',q,r⟩:=aM9 h b k cs hro
 ⟨e,a',w',q,.of_steps (.one (fenced_calm hb hr rfl) stepR_loop) r⟩
theorem aT1{m:Option Nat}{P:Program}{c:Code}{Q:cM}{a:Act}{w:World}(h:c.wpIn (FR m) 0 P (Exit.then (S5 m P c Q) Q) a w):S5 m P c Q a w:=λb k cs hro =>
 let ⟨e,a',w',q,r⟩:=aM9 h b k cs hro
 ⟨e,a',w',q,.of_steps (.one (fenced_calm (n:=0) (oC m _) (aBE m _) rfl) stepR_inLoop) r⟩
structure WI(m:Option Nat)(P:Program)(ops:Array Oper)(Q:cM)(l:List Oper)(a:Act)(w:World):Prop where
 out:wpListIn (FR m) 0 P ops Q l a w
def j6(ts:List Value)(d:Option Tmp)(v:Value):List Value:=match d with
 |some d=>ts.set d v
 |none=>ts
theorem oR(ts:List Value)(df:List Deferred)(d:Option Tmp)(v:Value):Act.put ⟨ts.toArray,df⟩ d v=⟨(j6 ts d v).toArray,df⟩:=by
 cases d<;>simp [Act.put,j6]
def mI(r:List aF)(n:Nat):Nat:=((r[n]?).map (·.g)).getD 0
theorem B3{r:List aF}{n:Nat}{L:aF}(h:r[n]?=some L):mI r n=L.g:=by simp [mI,h]
theorem aE8{r:List aF}{n:Nat}{L:aF}(h:r[n]?=some L)(s:List aF):mI (r++s) n=mI r n:=by rw [B3 h,B3 (jK s h)]
def sQ(g:Nat):Deferred:={ target:=.collected g,args:=#[] }
def eG(r:List aF)(k:List KI):Option Nat:=(nU k).map (mI r)
def cX(r:List aF)(k:List KI):List Deferred:=(qO k).map λn=>sQ (mI r n)
def e8(P:Program)(Q:cM):Prop:=(∀e t ds w w' D,(e=Exit.normal∨e=Exit.ret)->(Instr.takeDeferred D).run P w=.ok [] w'->Q e ⟨t,ds⟩ w'->Q e ⟨t,sQ D::ds⟩ w)∧∀l a w,¬ Q (.goto l) a w
theorem pC{P:Program}{fn:Func}{R:Ending->World->Prop}:e8 P (bodyPostM Fence.wide 0 P fn R):=by
 refine ⟨?_,λ_ _ _ h=>h⟩
 rintro e t ds w w' D (rfl|rfl) h hq
 ·exact ⟨by simp,.inl ⟨D,w',rfl,h,hq⟩⟩
 ·exact ⟨by simp,.inl ⟨D,w',rfl,h,hq⟩⟩
def cJ(P:Program)(r:List aF):List KI->cM->cM->Prop
 |[],Q0,Q=>Q=Q0
 | .code c::k,Q0,Q=>∃Q',cJ P r k Q0 Q'∧Q=Exit.then (λa w=>c.wpIn (FR (eG r k)) 0 P Q' a w) Q'
 | .blk id::k,Q0,Q=>∃Q',cJ P r k Q0 Q'∧Q=Exit.inBlock id Q'
 | .loop c::k,Q0,Q=>∃Q',cJ P r k Q0 Q'∧Q=Exit.then (S5 (eG r k) P c Q') Q'
 | .frm ts fn d ops rest::k,Q0,Q=>∃Q' tl,cJ P r k Q0 Q'∧bU r ts tl∧Q=bodyPostM Fence.wide 0 P fn λe w'=>∃v,e=.returned v∧WI (eG r k) P ops Q' rest ⟨(j6 tl d v).toArray,cX r k⟩ w'
 | .ds n::k,Q0,Q=>(∃L,r[n]?=some L)∧e8 P Q∧cJ P r k Q0 Q
 | .rng n prm asg bdy fn ts::k,Q0,Q=>∃Q' tl L rc,cJ P r k Q0 Q'∧bU r ts tl∧r[n]?=some L∧L.rc=some rc∧(rc.params=prm∧rc.assign=asg∧rc.body=bdy∧rc.tmps=tl.toArray)∧Q=bodyPostM Fence.wide 0 P fn λe w'=>∃v,e=.returned v ∧
  ∃jump w4,(Instr.endLoop L.g).run P w'=.ok jump w4∧(match jump with
   |none=>Q' .normal ⟨tl.toArray,cX r k⟩ w4
   |some c=>c.wpIn (FR (eG r k)) 0 P Q' ⟨tl.toArray,cX r k⟩ w4)
 | .rbeg n bdy::k,Q0,Q=>∃Q' L,cJ P r k Q0 Q'∧r[n]?=some L∧(eG r k=some L.g∧cX r k=[])∧Q=Exit.then (λa w=>∃w2,(Instr.beginRound L.g).run P w=.ok () w2∧bdy.wpIn (FR (eG r k)) 0 P Q' a w2) (λ_ _ _=>False)
 | .rend n ts d ops rest::k,Q0,Q=>∃Q' tl L,cJ P r k Q0 Q'∧bU r ts tl∧r[n]?=some L∧Q=roundPost P L.g λe w'=>∃v,e=.returned v∧WI (eG r k) P ops Q' rest ⟨(j6 tl d v).toArray,cX r k⟩ w'
theorem cJ.noGoto{P:Program}{r:List aF}{Q0:cM}(h0:e8 P Q0):∀{k:List KI} {Q:cM},cJ P r k Q0 Q->nU k=none->∀l a w,¬ Q (.goto l) a w
 |[],_,h,_,l,a,w=>by cases h;exact h0.2 l a w
 | .code _::_,_,⟨_,h,e⟩,hm,l,a,w=>by rw [e];exact cJ.noGoto h0 h hm l a w
 | .blk _::_,_,⟨_,h,e⟩,hm,l,a,w=>by rw [e];exact cJ.noGoto h0 h hm l a w
 | .loop _::_,_,⟨_,h,e⟩,hm,l,a,w=>by rw [e];exact cJ.noGoto h0 h hm l a w
 | .frm ..::_,_,⟨_,_,_,_,e⟩,_,l,a,w=>by rw [e];exact λh=>h
 | .ds _::_,_,h,_,l,a,w=>h.2.1.2 l a w
 | .rng ..::_,_,⟨_,_,_,_,_,_,_,_,_,e⟩,_,l,a,w=>by rw [e];exact λh=>h
 | .rbeg ..::_,_,_,hm,_,_,_=>by cases hm
 | .rend ..::_,_,_,hm,_,_,_=>by cases hm
theorem bEl{m:Option Nat}{P:Program}{c:Code}{Q:cM}{a:Act}{w:World}(hg:∀l a w,¬ Q (.goto l) a w)(h:c.wpIn (FR m) 0 P Q a w):(Code.scope c).wpIn (FR m) 0 P Q a w:=λb k cs hro hb hr=>by
 obtain ⟨e,a₁,w₁,hq,harr⟩:=h b (.inScope c::k) cs hro (oC _ _) (aBE _ _)
 have h1:Go.step P (lone (b.atR a (.code (.scope c)::k)) cs w)=.next (lone (b.atR a (.code c::.inScope c::k)) cs w):=step_lone_go (by simp [stepG,stepG.exec,Frame.atR])
 have h2:∀a w,Go.step P (lone (b.atR a (.inScope c::k)) cs w)=.next (lone (b.atR a k) cs w):=λa w=>step_lone_go (by simp [stepG,stepG.exec,Frame.atR])
 refine ⟨e,a₁,w₁,hq,.of_steps (.one (fenced_calm hb hr rfl) h1) ?_⟩
 cases e with
 |normal=>exact .of_steps harr (.one (fenced_calm (n:=0) (oC m _) (aBE m _) rfl) (h2 _ _))
 |goto l=>exact (hg l a₁ w₁ hq).elim
 |exit id=>exact ⟨λk' hk=>harr.1 k' (by simp only [exitTo];exact hk),λhr hk=>harr.2 hr (by simp only [exitTo];exact hk)⟩
 |ret=>exact harr
 |panic ch=>exact harr
 |outgrown=>exact harr
theorem cJ.same{P:Program}{r:List aF}(s:List aF):∀{k:List KI} {Q0 Q:cM},cJ P r k Q0 Q->eG (r++s) k=eG r k∧cX (r++s) k=cX r k
 |[],_,_,_=>⟨rfl,rfl⟩
 | .code _::k,_,_,⟨_,h,_⟩=>(cJ.same s h:eG (r++s) k=eG r k∧cX (r++s) k=cX r k)
 | .blk _::k,_,_,⟨_,h,_⟩=>(cJ.same s h:eG (r++s) k=eG r k∧cX (r++s) k=cX r k)
 | .loop _::k,_,_,⟨_,h,_⟩=>(cJ.same s h:eG (r++s) k=eG r k∧cX (r++s) k=cX r k)
 | .frm _ _ _ _ _::_,_,_,_=>⟨rfl,rfl⟩
 | .ds n::k,_,_,⟨⟨L,hL⟩,_,h⟩=>by
  obtain ⟨h1,h2⟩:=cJ.same s h
  refine ⟨h1,?_⟩
  show sQ (mI (r++s) n)::cX (r++s) k=sQ (mI r n)::cX r k
  rw [h2,aE8 hL]
 | .rng _ _ _ _ _ _::_,_,_,_=>⟨rfl,rfl⟩
 | .rbeg n _::k,_,_,⟨_,L,h,hL,⟨_,h4⟩,_⟩=>by
  obtain ⟨h1,h2⟩:=cJ.same s h
  refine ⟨?_,?_⟩
  ·show some (mI (r++s) n)=some (mI r n)
   rw [aE8 hL]
  ·exact h2
 | .rend n _ _ _ _::_,_,_,⟨_,_,L,_,_,hL,_⟩=>by
  refine ⟨?_,rfl⟩
  show some (mI (r++s) n)=some (mI r n)
  rw [aE8 hL]
theorem cJ.mono{P:Program}{r:List aF}(s:List aF):∀{k:List KI} {Q0 Q:cM},cJ P r k Q0 Q->cJ P (r++s) k Q0 Q
 |[],_,_,h=>h
 | .code _::_,_,_,⟨Q',h,e⟩=>⟨Q',cJ.mono s h,by rw [(cJ.same s h).1];exact e⟩
 | .blk _::_,_,_,⟨Q',h,e⟩=>⟨Q',cJ.mono s h,e⟩
 | .loop _::_,_,_,⟨Q',h,e⟩=>⟨Q',cJ.mono s h,by rw [(cJ.same s h).1];exact e⟩
 | .frm ..::_,_,_,⟨Q',tl,h,hd,e⟩=>⟨Q',tl,cJ.mono s h,hd.mono s,by rw [(cJ.same s h).1,(cJ.same s h).2];exact e⟩
 | .ds _::_,_,_,⟨⟨L,hL⟩,hc,h⟩=>⟨⟨L,jK s hL⟩,hc,cJ.mono s h⟩
 | .rng ..::_,_,_,⟨Q',tl,L,rc,h,hd,hL,hrc,hx,e⟩=>⟨Q',tl,L,rc,cJ.mono s h,hd.mono s,jK s hL,hrc,hx,by rw [(cJ.same s h).1,(cJ.same s h).2];exact e⟩
 | .rbeg ..::_,_,_,⟨Q',L,h,hL,hx,e⟩=>⟨Q',L,cJ.mono s h,jK s hL,by rw [(cJ.same s h).1,(cJ.same s h).2];exact hx,by rw [(cJ.same s h).1];exact e⟩
 | .rend ..::_,_,_,⟨Q',tl,L,h,hd,hL,e⟩=>⟨Q',tl,L,cJ.mono s h,hd.mono s,jK s hL,by rw [(cJ.same s h).1,(cJ.same s h).2];exact e⟩
theorem cJ.find{P:Program}{r:List aF}{n:Nat}{prm:Array Tmp}{asg bdy:Code}{ts:Sl}:∀{k:List KI} {Q0 Q:cM},cJ P r k Q0 Q->J0 n k=some (prm,asg,bdy,ts) ->
 ∃L rc tl,r[n]?=some L∧L.rc=some rc∧(rc.params=prm∧rc.assign=asg∧rc.body=bdy∧rc.tmps=tl.toArray)∧bU r ts tl
 |[],_,_,_,h=>by cases h
 | .code _::k,_,_,⟨_,h,_⟩,hf=>cJ.find h hf
 | .blk _::k,_,_,⟨_,h,_⟩,hf=>cJ.find h hf
 | .loop _::k,_,_,⟨_,h,_⟩,hf=>cJ.find h hf
 | .frm _ _ _ _ _::_,_,_,⟨_,_,h,_⟩,hf=>cJ.find h hf
 | .ds _::_,_,_,⟨_,_,h⟩,hf=>cJ.find h hf
 | .rng m prm' asg' bdy' fn ts'::k,_,_,⟨_,tl,L,rc,h,hd,hL,hrc,hx,_⟩,hf=>by
  have hf':(bif Nat.beq m n then some (prm',asg',bdy',ts') else J0 n k)=some (prm,asg,bdy,ts):=hf
  rw [bE] at hf'
  by_cases e:m=n
  ·subst e
   simp only [decide_true,cond_true,b6,cH] at hf'
   obtain ⟨rfl,rfl,rfl,rfl⟩:=hf'
   exact ⟨L,rc,tl,hL,hrc,hx,hd⟩
  ·simp only [e,decide_false,cond_false] at hf'
   exact cJ.find h hf'
 | .rbeg _ _::_,_,_,⟨_,_,h,_⟩,hf=>cJ.find h hf
 | .rend _ _ _ _ _::_,_,_,⟨_,_,_,h,_⟩,hf=>cJ.find h hf
theorem aBg(n:Nat):∀k,nU (pH n k)=nU k
 |[]=>rfl
 | .code _::k=>aBg n k
 | .blk _::k=>aBg n k
 | .loop _::k=>aBg n k
 | .frm ..::_=>rfl
 | .ds _::_=>rfl
 | .rng ..::_=>rfl
 | .rbeg ..::_=>rfl
 | .rend ..::_=>rfl
theorem aBz(n:Nat):∀k,qO (pH n k)=n::qO k
 |[]=>rfl
 | .code _::k=>aBz n k
 | .blk _::k=>aBz n k
 | .loop _::k=>aBz n k
 | .frm ..::_=>rfl
 | .ds _::_=>rfl
 | .rng ..::_=>rfl
 | .rbeg ..::_=>rfl
 | .rend ..::_=>rfl
theorem aFM(r:List aF)(n:Nat)(k:List KI):eG r (pH n k)=eG r k:=by unfold eG;rw [aBg]
theorem cJ.add{P:Program}{r:List aF}{n:Nat}{Q0:cM}(h0:e8 P Q0)(hn:∃L,r[n]?=some L):∀{k:List KI} {Q:cM},cJ P r k Q0 Q->nU k=none->cJ P r (pH n k) Q0 Q
 |[],_,h,_=>⟨hn,by cases h;exact h0,h⟩
 | .code c::k,_,⟨Q',h,e⟩,hm=>⟨Q',cJ.add h0 hn h hm,by rw [aFM];exact e⟩
 | .blk _::k,_,⟨Q',h,e⟩,hm=>⟨Q',cJ.add h0 hn h hm,e⟩
 | .loop _::k,_,⟨Q',h,e⟩,hm=>⟨Q',cJ.add h0 hn h hm,by rw [aFM];exact e⟩
 | .frm ..::_,_,h,_=>⟨hn,by obtain ⟨_,_,_,_,e⟩:=h;rw [e];exact pC,h⟩
 | .ds _::_,_,h,_=>⟨hn,h.2.1,h⟩
 | .rng ..::_,_,h,_=>⟨hn,by obtain ⟨_,_,_,_,_,_,_,_,_,e⟩:=h;rw [e];exact pC,h⟩
 | .rbeg ..::_,_,_,hm=>by cases hm
 | .rend ..::_,_,_,hm=>by cases hm
def lZ(m:Option Nat)(df:List Deferred)(P:Program):Hd->cM->List Value->World->Prop
 | .code c,Q,vs,w=>c.wpIn (FR m) 0 P Q ⟨vs.toArray,df⟩ w
 | .ops ops l,Q,vs,w=>WI m P ops Q l ⟨vs.toArray,df⟩ w
 | .done e,Q,vs,w=>Q e ⟨vs.toArray,df⟩ w
def Xp(E:bX)(r0:List aF)(Q0:cM)(p:aB):Prop:=∀r vs w Q,(∃s,r=r0++s)->bU r p.st.ts vs->aG E r p.st.hp p.st.nx w->cJ E.X.P r p.k Q0 Q->lZ (eG r p.k) (cX r p.k) E.X.P p.h Q vs w
theorem ext{r0 r:List aF}(h:∃s,r=r0++s)(q:List aF):∃s,r++q=r0++s:=by
 obtain ⟨s,rfl⟩:=h
 exact ⟨s++q,by simp⟩
section
variable {E:bX}{Q0:cM}{r0 r:List aF}{vs:List Value}{w:World}
theorem bU.putS{ts:Sl}{vs:List Value}{x:SV}{v:Value}(h:bU r ts vs)(hx:aP r x v)(d:Option Tmp):bU r (putS ts d x) (j6 vs d v):=by
 cases d with
 |none=>exact h
 |some d=>exact h.set d hx
def aBO(tmps:Array Value):ResultVar->Sem Value
 | .tmp t=>pure (tmps.getD t undef)
 | .cell a t=>do loadVar t (<-asAddr (tmps.getD a undef))
theorem aV4(fn:Func)(tmps:Array Value):results fn tmps=(do let vs <-fn.results.mapM (aBO tmps);pure (if h:vs.size=1 then vs[0] else .tuple vs)):=by
 unfold results
 congr 1
theorem aVo{st:St}{x:SV}{v:ResultVar}(hs:bU r st.ts vs)(hm:aG E r st.hp st.nx w)(h:aBI E.X st v=some x):
 ∃u,(aBO vs.toArray v).run E.X.P w=.ok u w∧aP r x u:=by
 cases v with
 |tmp t =>
  simp only [aBI,b6] at h
  subst h
  refine ⟨_,rfl,?_⟩
  simpa  using bU.nth t hs
 |cell t T =>
  simp only [aBI] at h
  have hx:=bU.nth t hs
  have e:vs.toArray.getD t undef=vs.getD t undef:=by simp 
  simp only [aBO]
  rw [e]
  obtain ⟨u,hu,hd⟩:=aJk hm hx h
  refine ⟨u,?_,hd⟩
  unfold sR at h
  generalize vs.getD t undef=pv at hx hu
  split at h
  ·rename_i n k e2
   rw [e2] at hx
   cases hx
   simpa [Instr.loadAt,Instr.sureAddr,asAddr] using hu
  ·rename_i g k e2
   rw [e2] at hx
   cases hx
   simpa [Instr.loadAt,Instr.sureAddr,asAddr] using hu
  ·cases h
theorem aLV{st:St}(hs:bU r st.ts vs)(hm:aG E r st.hp st.nx w):∀{l:List ResultVar} {xs:List SV},F1 E.X st l=some xs ->
 ∃us,(l.mapM (aBO vs.toArray)).run E.X.P w=.ok us w∧aX r xs us
 |[],xs,h=>by
  simp only [F1,b6] at h
  subst h
  exact ⟨[],by simp,.nil⟩
 |v::l,xs,h=>by
  simp only [F1] at h
  split at h
  ·rename_i x xs' h1 h2
   cases h
   obtain ⟨u,hu,hd⟩:=aVo hs hm h1
   obtain ⟨us,hus,hds⟩:=aLV hs hm h2
   refine ⟨u::us,?_,.cons hd hds⟩
   rw [List.mapM_cons]
   rw [Sem.run_bind,hu]
   simp only [Result.andThen_ok]
   rw [Sem.run_bind,hus]
   simp
  ·cases h
theorem aCL{st:St}{fn:Func}{x:SV}(hs:bU r st.ts vs)(hm:aG E r st.hp st.nx w)(h:mH E.X fn st=some x):∃u,(results fn vs.toArray).run E.X.P w=.ok u w∧aP r x u:=by
 have key:∀{xs:List SV},F1 E.X st fn.results.toList=some xs->∃us,aX r xs us∧(results fn vs.toArray).run E.X.P w=.ok (if h:us.toArray.size=1 then us.toArray[0] else .tuple us.toArray) w:=by
  intro xs hx
  obtain ⟨us,hu,hd⟩:=aLV hs hm hx
  refine ⟨us,hd,?_⟩
  rw [aV4,Array.mapM_eq_mapM_toList]
  simp only [Sem.run_bind,Sem.run_map,hu,Result.andThen_ok,Sem.run_pure]
 unfold mH at h
 split at h
 ·rename_i y hy
  cases h
  obtain ⟨us,hd,hr⟩:=key hy
  cases hd with
  |cons h1 h2=>cases h2;exact ⟨_,hr,by simpa using h1⟩
 ·rename_i xs hne hy
  cases h
  obtain ⟨us,hd,hr⟩:=key hy
  have hl:=hd.length_eq
  have:¬ us.toArray.size=1:=by
   intro h1
   rw [List.size_toArray,hl] at h1
   obtain ⟨y,rfl⟩:=List.length_eq_one_iff.1 h1
   exact hne y rfl
  rw [dif_neg this] at hr
  exact ⟨_,hr,.t hd⟩
 ·cases h
theorem zS:∀{k:List KI} {vs:List Value} {w:World} {e:Exit} {st:St} {p:aB} {Q:cM},cF E.X st e k=some p->Xp E r0 Q0 p->(∃s,r=r0++s)->bU r st.ts vs->aG E r st.hp st.nx w->cJ E.X.P r k Q0 Q->Q e ⟨vs.toArray,cX r k⟩ w:=by
 intro k
 induction k with
 |nil =>
  intro vs w e st p Q h hx hr hs hm hk
  have:p=⟨.done e,[],st⟩:=by cases e<;>simpa [cF] using h.symm
  subst this
  exact hx r vs w Q hr hs hm hk
 |cons i k ih =>
  intro vs w e st p Q h hx hr hs hm hk
  cases i with
  |code c =>
   obtain ⟨Q',hk',rfl⟩:=hk
   cases e with
   |normal=>simp only [cF,b6] at h;subst h;exact hx r vs w Q' hr hs hm hk'
   |exit id=>exact (ih (by simpa [cF] using h) hx hr hs hm hk':Q' _ _ _)
   |goto l=>exact (ih (by simpa [cF] using h) hx hr hs hm hk':Q' _ _ _)
   |ret=>exact (ih (by simpa [cF] using h) hx hr hs hm hk':Q' _ _ _)
   |panic ch=>exact (ih (by simpa [cF] using h) hx hr hs hm hk':Q' _ _ _)
   |outgrown=>exact (ih (by simpa [cF] using h) hx hr hs hm hk':Q' _ _ _)
  |blk id =>
   obtain ⟨Q',hk',rfl⟩:=hk
   cases e with
   |normal=>exact (ih (by simpa [cF] using h) hx hr hs hm hk':Q' _ _ _)
   |exit id' =>
    simp only [cF,bE] at h
    by_cases he:id'=id
    ·subst he
     simp only [decide_true,cond_true] at h
     simp only [Exit.inBlock,if_true]
     exact ih h hx hr hs hm hk'
    ·simp only [he,decide_false,cond_false] at h
     simp only [Exit.inBlock,he,if_false]
     exact ih h hx hr hs hm hk'
   |goto l=>exact (ih (by simpa [cF] using h) hx hr hs hm hk':Q' _ _ _)
   |ret=>exact (ih (by simpa [cF] using h) hx hr hs hm hk':Q' _ _ _)
   |panic ch=>exact (ih (by simpa [cF] using h) hx hr hs hm hk':Q' _ _ _)
   |outgrown=>exact (ih (by simpa [cF] using h) hx hr hs hm hk':Q' _ _ _)
  |loop c =>
   obtain ⟨Q',hk',rfl⟩:=hk
   cases e with
   |normal=>simp only [cF,b6] at h;subst h;exact aT1 (hx r vs w _ hr hs hm ⟨Q',hk',rfl⟩)
   |exit id=>exact (ih (by simpa [cF] using h) hx hr hs hm hk':Q' _ _ _)
   |goto l=>exact (ih (by simpa [cF] using h) hx hr hs hm hk':Q' _ _ _)
   |ret=>exact (ih (by simpa [cF] using h) hx hr hs hm hk':Q' _ _ _)
   |panic ch=>exact (ih (by simpa [cF] using h) hx hr hs hm hk':Q' _ _ _)
   |outgrown=>exact (ih (by simpa [cF] using h) hx hr hs hm hk':Q' _ _ _)
  |frm ts fn d ops rest =>
   obtain ⟨Q',tl,hk',hd,rfl⟩:=hk
   have key:∀x,mH E.X fn st=some x->p=⟨.ops ops rest,k,⟨putS ts d x,st.hp,st.nx⟩⟩->∃v,(results fn vs.toArray).run E.X.P w=.ok v w∧∃u,Ending.returned v=.returned u∧WI (eG r k) E.X.P ops Q' rest ⟨(j6 tl d u).toArray,cX r k⟩ w:=by
    rintro x hre rfl
    obtain ⟨u,hu,hdu⟩:=aCL hs hm hre
    exact ⟨u,hu,u,rfl,hx r _ w Q' hr (bU.putS hd hdu d) hm hk'⟩
   cases e with
   |normal =>
    simp only [cF] at h
    split at h
    ·rename_i x hr;exact key x hr (by cases h;rfl)
    ·cases h
   |ret =>
    simp only [cF] at h
    split at h
    ·rename_i x hr;exact key x hr (by cases h;rfl)
    ·cases h
   |exit id=>simp [cF] at h
   |goto l=>simp [cF] at h
   |panic ch=>simp [cF] at h
   |outgrown=>simp [cF] at h
  |ds n =>
   obtain ⟨⟨L,hL⟩,hc,hk'⟩:=hk
   have key:∀e,(e=Exit.normal∨e=.ret)->(bif pY st.hp n then cF E.X ⟨st.ts,st.hp.del n,st.nx⟩ e k else none)=some p->Q e ⟨vs.toArray,cX r (.ds n::k)⟩ w:=by
    intro e he h
    cases hd:pY st.hp n with
    |false=>rw [hd] at h;cases h
    |true =>
     rw [hd,cond_true] at h
     obtain ⟨b,L',hb,hbk,hL',hw⟩:=aQj hm hd
     rw [hL] at hL';cases hL'
     have hm':=hm.dropObj hb (by omega) hL (lB.1 hw).1 (.deferred none)
     have:=ih h hx hr (vs:=vs) hs hm' hk'
     have hg:cX r (.ds n::k)=sQ L.g::cX r k:=by
      show sQ (mI r n)::cX r k=_
      rw [B3 hL]
     rw [hg]
     exact hc.1 e _ _ _ _ _ he (run_takeDeferred hw) this
   cases e with
   |normal=>exact key _ (.inl rfl) (by simpa only [cF] using h)
   |ret=>exact key _ (.inr rfl) (by simpa only [cF] using h)
   |exit id=>simp [cF] at h
   |goto l=>simp [cF] at h
   |panic ch=>simp [cF] at h
   |outgrown=>simp [cF] at h
  |rng n prm asg bdy fn ts =>
   obtain ⟨Q',tl,L,rc,hk',hd,hL,hrc,_,rfl⟩:=hk
   have key:wC (mH E.X fn st) (wY (l9 st.hp n) (cF E.X ⟨ts,st.hp.del n,st.nx⟩ .normal k) (λc=>⟨.code c,k,⟨ts,st.hp.del n,st.nx⟩⟩))=some p->∃v,(results fn vs.toArray).run E.X.P w=.ok v w∧∃u,Ending.returned v=.returned u∧∃jump w4,(Instr.endLoop L.g).run E.X.P w=.ok jump w4∧(match jump with
    |none=>Q' .normal ⟨tl.toArray,cX r k⟩ w4
    |some c=>c.wpIn (FR (eG r k)) 0 E.X.P Q' ⟨tl.toArray,cX r k⟩ w4):=by
    intro h
    unfold wC at h
    split at h
    ·rename_i x hre
     obtain ⟨u,hu,-⟩:=aCL hs hm hre
     refine ⟨u,hu,u,rfl,?_⟩
     have run:∀T,l9 st.hp n=some T->(i8 rc T).state≠.busy->(Instr.endLoop L.g).run E.X.P w=.ok (i8 rc T).pending (w.putObj L.g (.loop { i8 rc T with state:=.exhausted }))∧aG E r (st.hp.del n) st.nx (w.putObj L.g (.loop { i8 rc T with state:=.exhausted })):=by
      intro T hT hb
      obtain ⟨b,L',rc',hb1,_,hL',hrc',hw⟩:=A0 hm hT
      rw [hL] at hL';cases hL'
      rw [hrc] at hrc';cases hrc'
      exact ⟨run_endLoop hw hb,hm.dropLp hT hL _⟩
     unfold wY at h
     split at h
     ·rename_i hT
      obtain ⟨h1,h2⟩:=run 0 hT (by simp [i8])
      exact ⟨none,_,h1,ih h hx hr hd h2 hk'⟩
     ·rename_i hT
      obtain ⟨h1,h2⟩:=run 2 hT (by simp [i8])
      cases h
      exact ⟨some .ret,_,h1,hx r _ _ Q' hr hd h2 hk'⟩
     ·rename_i i hT
      obtain ⟨h1,h2⟩:=run (i+3) hT (by simp [i8])
      cases h
      exact ⟨some (.exit i),_,h1,hx r _ _ Q' hr hd h2 hk'⟩
     ·cases h
    ·cases h
   cases e with
   |normal=>exact key (by simpa only [cF] using h)
   |ret=>exact key (by simpa only [cF] using h)
   |exit id=>simp [cF] at h
   |goto l=>simp [cF] at h
   |panic ch=>simp [cF] at h
   |outgrown=>simp [cF] at h
  |rbeg n bdy =>
   obtain ⟨Q',L,hk',hL,_,rfl⟩:=hk
   cases e with
   |normal =>
    simp only [cF] at h
    split at h
    ·rename_i hT
     cases h
     obtain ⟨b,L',rc',hb1,_,hL',hrc',hw⟩:=A0 hm hT
     rw [hL] at hL';cases hL'
     exact ⟨_,run_beginRound hw (by simp [i8]),hx r vs _ Q' hr hs (hm.turnLp hT hL hrc' (T':=1) rfl) hk'⟩
    ·cases h
   |ret=>simp [cF] at h
   |exit id=>simp [cF] at h
   |goto l=>simp [cF] at h
   |panic ch=>simp [cF] at h
   |outgrown=>simp [cF] at h
  |rend n ts d ops rest =>
   obtain ⟨Q',tl,L,hk',hd,hL,rfl⟩:=hk
   have key:∀(jump:Option Code) (T:Nat) (b:Bool),b=jump.isNone->(∀rc,({ i8 rc 1 with state:=if jump.isNone then .ready else .done,pending:=jump }:Loop)=i8 rc T)->xW st.hp st.nx n ts d ops rest k T b=some p ->
    ∃v w',(Instr.endRound L.g jump).run E.X.P w=.ok v w'∧∃u,Ending.returned v=.returned u∧WI (eG r k) E.X.P ops Q' rest ⟨(j6 tl d u).toArray,cX r k⟩ w':=by
    intro jump T b hb hrcT h
    unfold xW at h
    split at h
    ·rename_i hT
     cases h
     obtain ⟨b1,L',rc',hb1,_,hL',hrc',hw⟩:=A0 hm hT
     rw [hL] at hL';cases hL'
     refine ⟨_,_,run_endRound jump hw,_,rfl,hx r _ _ Q' hr (bU.putS hd ?_ d) (hm.turnLp hT hL hrc' (hrcT rc')) hk'⟩
     rw [<-hb];exact .v _
    ·cases h
   cases e with
   |normal=>exact key none 0 true rfl (λ_=>rfl) (by simpa only [cF] using h)
   |ret=>exact key (some .ret) 2 false rfl (λ_=>rfl) (by simpa only [cF] using h)
   |exit id=>exact key (some (.exit id)) (id+3) false rfl (λ_=>rfl) (by simpa only [cF] using h)
   |goto l=>simp [cF] at h
   |panic ch=>simp [cF] at h
   |outgrown=>simp [cF] at h
theorem pJ{ops:Array Oper}{ts:Sl}{o:Oper}{b:Bool}(hs:bU r ts vs)(h:gB ops ts o.guard=some b):Region.wanted o (yielded ops vs.toArray)=b:=by
 unfold Region.wanted
 unfold gB at h
 cases hg:o.guard with
 |none=>rw [hg] at h;simpa using h
 |some q =>
  obtain ⟨j,c⟩:=q
  rw [hg] at h
  simp only at h ⊢
  split at h
  ·rename_i o2 ho2
   split at h
   ·rename_i d hd
    have hn:=bU.nth d hs
    split at h
    ·rename_i t e
     rw [e] at hn
     generalize hv:vs.getD d undef=v at hn
     cases hn
     have hv2:vs[d]?=some (.bool t):=by
      cases hq:vs[d]? with
      |none=>simp [hq,undef] at hv
      |some u=>simp [hq] at hv;rw [hv]
     have:yielded ops vs.toArray j=some t:=by simp [yielded,ho2,hd,hv2]
     rw [this]
     simp only [b6] at h
     rw [<-h]
     cases t<;>cases c<;>rfl
    ·rename_i q e
     rw [e] at hn
     generalize hv:vs.getD d undef=v at hn
     cases hn
     cases h
     have:yielded ops vs.toArray j=none:=by
      cases hq:vs[d]? with
      |none=>simp [yielded,ho2,hd,hq]
      |some u=>simp [hq] at hv;simp [yielded,ho2,hd,hq,hv]
     rw [this];rfl
    ·cases h
   ·cases h
  ·cases h
theorem aBK{m:Option Nat}{o:Oper}{e:Operand->Value}{P:Program}{w w':World}{x:Next}(h:(execOp e o).run P w=.ok x w')(hd:∀d,x≠.defer d):(o.semAt m e).run P w=.ok x w':=by
 cases m with
 |none=>exact h
 |some l =>
  rw [Oper.semAt_some l e o ?_]
  ·exact h
  ·intro c hc
   simp only [execOp,hc,Sem.run_bind] at h
   cases hr:(resolve e c o.type).run P w with
   |ok d w1 =>
    rw [hr] at h
    simp at h
    exact hd d h.1.symm
   |halt z w1=>rw [hr] at h;simp at h
section
variable {m:Option Nat}{P:Program}{ops:Array Oper}{Q:cM}{o:Oper}{rest:List Oper}{ts:List Value}{df:List Deferred}
theorem aDW{v:Value}{w w':World}(hw:Region.wanted o (yielded ops ts.toArray)=true)(hrun:(execOp (Act.eval ⟨ts.toArray,df⟩) o).run P w=.ok (.value v) w')
 (h:WI m P ops Q rest ⟨(j6 ts o.dst v).toArray,df⟩ w'):WI m P ops Q (o::rest) ⟨ts.toArray,df⟩ w :=
 ⟨wpListIn_step λK hK=>by
  rw [if_pos hw]
  refine ⟨λf _=>oC m f,?_⟩
  rw [aBK hrun (by intro d hd;cases hd)]
  refine hK _ _ ?_
  rw [oR]
  exact h.out⟩
theorem aZM{w:World}(hw:Region.wanted o (yielded ops ts.toArray)=false)
 (h:WI m P ops Q rest ⟨(j6 ts o.dst undef).toArray,df⟩ w):WI m P ops Q (o::rest) ⟨ts.toArray,df⟩ w :=
 ⟨wpListIn_step λK hK=>by
  rw [if_neg (by rw [hw];simp)]
  refine ⟨λf _=>oC m f,hK _ _ ?_⟩
  rw [oR]
  exact h.out⟩
theorem aY8{w w':World}{f:FuncId}{args:Array Value}(hw:Region.wanted o (yielded ops ts.toArray)=true)(hrun:(execOp (Act.eval ⟨ts.toArray,df⟩) o).run P w=.ok (.enter f args) w')
 (hc:Calls P f args w' λe w'=>∃v,e=.returned v∧WI m P ops Q rest ⟨(j6 ts o.dst v).toArray,df⟩ w'):WI m P ops Q (o::rest) ⟨ts.toArray,df⟩ w :=
 ⟨wpListIn_step λK hK=>by
  rw [if_pos hw]
  refine ⟨λf _=>oC m f,?_⟩
  rw [aBK hrun (by intro d hd;cases hd)]
  refine ⟨λh=>Q7 m h,aK9 (hc.mono λe w' ⟨v,he,hv⟩=>?_)⟩
  subst he
  refine hK _ _ ?_
  rw [oR]
  exact hv.out⟩
theorem aOR{w:World}{l:Nat}{f:FuncId}{tmps:Array Value}{asg bdy:Code}(hw:Region.wanted o (yielded ops ts.toArray)=true)(hrun:(execOp (Act.eval ⟨ts.toArray,df⟩) o).run P w=.ok (.round l f tmps asg bdy) w)
 (hc:asg.wpIn (FR (some l)) 0 P (Exit.then (λa w=>∃w2,(Instr.beginRound l).run P w=.ok () w2∧bdy.wpIn (FR (some l)) 0 P (roundPost P l λe w'=>∃v,e=.returned v∧WI m P ops Q rest ⟨(j6 ts o.dst v).toArray,df⟩ w') a w2) (λ_ _ _=>False)) ⟨tmps,[]⟩ w) :
 WI m P ops Q (o::rest) ⟨ts.toArray,df⟩ w :=
 ⟨wpListIn_step λK hK=>by
  rw [if_pos hw]
  refine ⟨λf _=>oC m f,?_⟩
  rw [aBK hrun (by intro d hd;cases hd)]
  rw [<-a1A m l] at hc
  refine ⟨λh=>Q7 m h,(roundIn_of_wpIn (oC m f) hc).mono λe w' ⟨v,he,hv⟩=>?_⟩
  subst he
  refine hK _ _ ?_
  rw [oR]
  exact hv.out⟩
theorem a33{a:Act}{w:World}(h:Q .normal a w):WI m P ops Q [] a w:=⟨h⟩
end
theorem entryS_ok {P : Program} {g : FuncId} {fn : Func} {c : Code} (h : entryS P g = some (fn, c)) : P.funcs[g]? = some fn ∧ fn.body = some c ∧ (fn.name == "runtime.NumGoroutine") = false := by
 unfold entryS at h
 split at h
 ·rename_i f hf
  split at h
  ·rename_i b hb
   cases hn : f.name == "runtime.NumGoroutine" with
   |true=>rw [hn] at h;simp at h
   |false=>rw [hn] at h;simp at h;obtain ⟨rfl,rfl⟩:=h;exact ⟨hf,hb,hn⟩
  ·cases h
 ·cases h
theorem aCE{P:Program}{g:FuncId}{fn:Func}{c:Code}(h:entryS P g=some (fn,c))(args:Array Value)(w:World):(callFunc g args).run P w=.ok (.enter g args) w:=by
 obtain ⟨hf,hb,hn⟩:=entryS_ok h
 have hn' : ¬ fn.name = "runtime.NumGoroutine" := by simpa using hn
 simp [callFunc,hf,hn',hb]
theorem aGm{p q:aB}{o:Oper}{ops:Array Oper}{rest:List Oper}{Q:cM}(hr:∃s,r=r0++s)(hs:bU r p.st.ts vs)(hm:aG E r p.st.hp p.st.nx w)(hk:cJ E.X.P r p.k Q0 Q)(hw:Region.wanted o (yielded ops vs.toArray)=true)(h:uT E.X p o ops rest=some q)(hx:Xp E r0 Q0 q):
 WI (eG r p.k) E.X.P ops Q (o::rest) ⟨vs.toArray,cX r p.k⟩ w:=by
 unfold uT at h
 split at h
 ·rename_i res hres
  cases h
  obtain ⟨v,w',s,hrn,hd,hm'⟩:=aKq (df:=cX r p.k) hs hm hres
  have:=hx (r++s) _ w' Q (ext hr s) (bU.putS (hs.mono s) hd o.dst) hm' (hk.mono s)
  simp only at this
  rw [(hk.same s).1,(hk.same s).2] at this
  exact aDW hw hrn this
 ·cases h
theorem bBZ{p:aB}{a b:TypeId}{x y:SV}{hp:Tr}{v:Value}(hm:aG E r p.st.hp p.st.nx w)(hd:aP r x v)(h:I4 E.X p a b x=some (y,hp)):∃w',(convert a b v).run E.X.P w=.ok v w'∧aG E r hp p.st.nx w'∧y=x:=by
 unfold I4 at h
 split at h
 ·rename_i n i l c
  split at h
  ·rename_i e hu
   split at h
   ·rename_i hu8
    split at h
    ·rename_i bl hb
     cases hq:Nat.beq a b&&Nat.beq bl.k 0 with
     |false=>rw [hq] at h;cases h
     |true =>
      rw [hq] at h
      simp only [cond_true,b6,cH] at h
      obtain ⟨rfl,rfl⟩:=h
      rw [bJ,bE,bE,bR,bR] at hq
      obtain ⟨rfl,hk0⟩:=hq
      cases hd with
      |@s _ _ _ _ L hL =>
       obtain ⟨L',hL',vs,hdc,⟨_,hge,hb0,hblk⟩|⟨h1,_⟩|⟨h2,_⟩⟩:=hm.blk n bl hb
       ·rw [hL] at hL';cases hL'
        have hs:w.shape? L.g=some (bl.T,vs.length):=by
         unfold aC at hblk
         unfold World.shape?
         rw [hblk]
         simp
        have hru:=run_underlying (P:=E.X.P) (w:=w) hu
        have hrun:∀o,(convert a a (.slice (some ⟨L.g,o,none⟩) l c)).run E.X.P w=.ok (.slice (some ⟨L.g,o,none⟩) l c) (w.freeze ⟨L.g,vs.length,none⟩ 1):=by
         intro o
         have h1:=λw=>run_underlying (P:=E.X.P) (w:=w) hu
         have h2:=λw=>run_underlying (P:=E.X.P) (w:=w) hu8
         simp [convert,h1,h2,markStringish,hs,Result.andThen]
        refine ⟨_,hrun _,?_,rfl⟩
        have hbf:=Lib.below_freeze (Below.refl (L.g) w) (p:=⟨L.g,vs.length,none⟩) (aS _) 1
        refine hm.writeG hb (.inl (by omega)) hL (aJp _ _ _) (λk hk=>?_) hbf.os hbf.tape hbf.output ⟨vs,hdc,.inr (.inr ⟨by show 2≤7;decide,by rw [aJp];exact hblk.lt,λj v hv=>?_,λh=>(by cases h),λh=>(by cases h),λ_=>hge,λh=>(by cases h)⟩)⟩ (.inr (by show 5≤7;decide)) (by show 7≠8;decide)
        ·unfold World.freeze
         split
         ·rfl
         ·simp only [Array.getElem?_modify]
          rw [if_neg (by exact λh=>hk h.symm)]
        ·rw [bBj,hb0,Nat.zero_add,hblk.cell];simpa using hv
       ·omega
       ·omega
    ·cases h
   ·cases h
  ·cases h
 ·cases h
theorem aLi:∀{ps:List Tmp} {ts:Sl} {tl:List Value} {xs:List SV} {ys:List Value},bU r ts tl->aX r xs ys->∃tl',bU r (aFh ts ps xs) tl'∧tl'.toArray=(ps.zip ys).foldl (λt (p,v)=>t.setIfInBounds p v) tl.toArray
 |[],_,tl,_,_,hs,_=>⟨tl,hs,by simp⟩
 |p::ps,_,tl,[],_,hs,h=>by cases h;exact ⟨tl,hs,by simp⟩
 |p::ps,ts,tl,x::xs,_,hs,.cons (y:=y) h t=>by
  obtain ⟨tl',h1,h2⟩:=aLi (ps:=ps) (hs.set p h) t
  refine ⟨tl',h1,?_⟩
  rw [h2]
  simp
theorem tB{g:FuncId}{fn:Func}{c:Code}{R:Ending->World->Prop}{args:List SV}{vals:List Value}{hp:Tr}{nx:Nat}{k:List KI}(hent:entryS E.X.P g=some (fn,c))(hr:∃s,r=r0++s)(ha:aX r args vals)(hm:aG E r hp nx w)(hmd:nU k=none)(hds:qO k=[])
 (hk:cJ E.X.P r k Q0 (bodyPostM Fence.wide 0 E.X.P fn R)) (hx:Xp E r0 Q0 ⟨.code c,k,⟨frame args fn.ntmps,hp,nx⟩⟩):Calls E.X.P g vals.toArray w R:=by
 obtain ⟨hf,hb,_⟩:=entryS_ok hent
 refine (callsIn_wide (n:=0)).1 (callsIn_of_wp_marks hf hb trivial ?_)
 have:=hx r _ w _ hr (bU.frame ha fn.ntmps) hm hk
 have e1:eG r k=none:=by simp [eG,hmd]
 have e2:cX r k=[]:=by simp [cX,hds]
 simp only [lZ,e1,e2] at this
 have e3:(vals++List.replicate (fn.ntmps-args.length) undef).toArray=vals.toArray++Array.replicate (fn.ntmps-vals.toArray.size) undef:=by
  rw [<-ha.length_eq]
  apply Array.toList_inj.1;simp
 rw [<-e3]
 exact this
theorem bCp{p q:aB}{o:Oper}{ops:Array Oper}{rest:List Oper}{Q:cM}(hr:∃s,r=r0++s)(hs:bU r p.st.ts vs)(hm:aG E r p.st.hp p.st.nx w)(hk:cJ E.X.P r p.k Q0 Q)(h:T0 E.X p o ops rest=some q)(hx:Xp E r0 Q0 q):
 WI (eG r p.k) E.X.P ops Q (o::rest) ⟨vs.toArray,cX r p.k⟩ w:=by
 obtain ⟨df,hdf⟩:∃df,cX r p.k=df:=⟨_,rfl⟩
 unfold T0 at h
 split at h
 ·rename_i hg
  cases h
  exact aZM (pJ hs hg) (hx r _ w Q hr (bU.putS hs (.v _) o.dst) hm hk)
 ·rename_i hg
  have hw:=pJ hs hg
  split at h
  ·rename_i T x y ho
   split at h
   ·rename_i n i cs z e1 e2 e3
    simp only [bE] at h
    by_cases hc:(decide (dK cs=z)&&o.dst.isNone)=true
    ·rw [hc,cond_true] at h
     simp only [bJ,bR] at hc
     obtain ⟨hc1,hc2⟩:=hc
     split at h
     ·rename_i hp' hwr
      cases h
      rw [hdf]
      have h1:=aP.ev (df:=df) hs x
      rw [e1] at h1
      generalize hxv:Act.eval ⟨vs.toArray,df⟩ x=xv at h1
      cases h1 with
      |@p _ _ L hL =>
       obtain ⟨hdc,hlen⟩:=R5 (aP.ev (df:=df) hs y) e2
       obtain ⟨w',hst,hm'⟩:=I5 hm hL hdc hwr
       have hrun:(execOp (Act.eval ⟨vs.toArray,df⟩) o).run E.X.P w=.ok .skip w':=by
        have hsz:¬ ((Act.eval ⟨vs.toArray,df⟩ y).cells.size≠z):=by rw [<-lC,hlen,hc1];simp
        simp [execOp,ho,hxv,Instr.storeAt,Instr.sureAddr,storeVar,i9 e3,hsz,hst]
       refine ⟨wpListIn_step λK hK=>?_⟩
       rw [if_pos hw]
       refine ⟨λf _=>oC _ f,?_⟩
       rw [aBK hrun (by intro d hd;cases hd)]
       have hdn:o.dst=none:=by cases hq:o.dst with|none=>rfl|some d=>rw [hq] at hc2;simp at hc2
       refine hK _ _ ?_
       rw [hdn]
       have:=hx r vs w' Q hr hs hm' hk
       simp only [lZ,hdf] at this
       exact this.out
     ·cases h
    ·rw [jD] at hc
     rw [hc] at h;simp at h
   ·cases h
  ·rename_i c ho
   split at h
   ·rename_i f hcal
    split at h
    ·rename_i g a b e1
     unfold aEK at h
     split at h
     ·rename_i fn body hent
      cases h
      have h1:=aP.ev (df:=df) hs f
      rw [e1] at h1
      generalize hfv:Act.eval ⟨vs.toArray,df⟩ f=fv at h1
      cases h1 with
      |@f _ _ _ av bv ha hb2 =>
       have hargs:=aX.map_ev (r:=r) (ts:=p.st.ts) (vs:=vs) (df:=df) (aP.ev hs) c.args.toList
       have hall:=aX.app ha (aX.app hargs hb2)
       have hrun:(execOp (Act.eval ⟨vs.toArray,df⟩) o).run E.X.P w=.ok (.enter g (av++(c.args.toList.map (Act.eval ⟨vs.toArray,df⟩)++bv)).toArray) w:=by
        have e2:(av.toArray++c.args.map (Act.eval ⟨vs.toArray,df⟩)++bv.toArray)=(av++(c.args.toList.map (Act.eval ⟨vs.toArray,df⟩)++bv)).toArray:=by apply Array.toList_inj.1;simp
        simp only [execOp,ho,resolve,hcal,hfv,Deferred.ofValue,Sem.run_bind,Sem.run_pure,Result.andThen_ok,invoke,e2,aCE hent]
       rw [hdf]
       refine aY8 hw hrun ?_
       refine tB (k:=.frm p.st.ts fn o.dst ops rest::p.k) hent hr hall hm rfl rfl ⟨Q,vs,hk,hs,?_⟩ hx
       rw [hdf]
     ·cases h
    ·rename_i n e1
     unfold aC8 at h
     split at h
     ·rename_i prm asg bdy ts hf hT
      by_cases hlen:prm.toList.length=(c.args.toList.map (ev p.st.ts)).length
      ·rw [show Nat.beq prm.toList.length (c.args.toList.map (ev p.st.ts)).length=true from by rw [bE];simpa using hlen,cond_true] at h
       cases h
       obtain ⟨L,rc,tl,hL,hrc,⟨hp1,hp2,hp3,hp4⟩,hd⟩:=hk.find hf
       obtain ⟨b,L',rc',hb1,_,hL',hrc',hwl⟩:=A0 hm hT
       rw [hL] at hL';cases hL'
       rw [hrc] at hrc';cases hrc'
       have h1:=aP.ev (df:=df) hs f
       rw [e1] at h1
       generalize hfv:Act.eval ⟨vs.toArray,df⟩ f=fv at h1
       cases h1 with
       |@y _ L2 hL2 =>
        rw [hL] at hL2;cases hL2
        have hargs:=aX.map_ev (r:=r) (ts:=p.st.ts) (vs:=vs) (df:=df) (aP.ev hs) c.args.toList
        obtain ⟨tl',ht1,ht2⟩:=aLi (ps:=prm.toList) hd hargs
        have hsz:(c.args.map (Act.eval ⟨vs.toArray,df⟩)).size=(i8 rc 0).params.size:=by
         show _=rc.params.size
         rw [hp1]
         simp at hlen ⊢
         exact hlen.symm
        have hry:=run_yield (P:=E.X.P) hwl hsz
        have hrun:(execOp (Act.eval ⟨vs.toArray,df⟩) o).run E.X.P w=.ok (.round L.g rc.fn tl'.toArray asg bdy) w:=by
         have e2:tl'.toArray=((i8 rc 0).params.zip (c.args.map (Act.eval ⟨vs.toArray,df⟩))).foldl (λtmps (t,a)=>tmps.setIfInBounds t a) (i8 rc 0).tmps:=by
          show _=(rc.params.zip _).foldl _ rc.tmps
          rw [ht2,hp1,hp4]
          rw [<-Array.foldl_toList]
          congr 1
          simp
         rw [e2]
         have e3:asg=(i8 rc 0).assign:=hp2.symm
         have e4:bdy=(i8 rc 0).body:=hp3.symm
         have e5:rc.fn=(i8 rc 0).fn:=rfl
         rw [e3,e4,e5]
         simp only [execOp,ho,resolve,hcal,hfv,Deferred.ofValue,Sem.run_bind,Sem.run_pure,Result.andThen_ok,invoke]
         simpa using hry
        rw [hdf]
        refine aOR hw hrun ?_
        have e5:eG r (.rend n p.st.ts o.dst ops rest::p.k)=some L.g:=by show some (mI r n)=_;rw [B3 hL]
        have:=hx r tl' w _ hr ht1 hm ⟨_,L,⟨Q,vs,L,hk,hs,hL,rfl⟩,hL,⟨e5,rfl⟩,rfl⟩
        have e6:eG r (.rbeg n bdy::.rend n p.st.ts o.dst ops rest::p.k)=some L.g:=by show some (mI r n)=_;rw [B3 hL]
        simp only [lZ,e5,e6,hdf] at this
        exact this
      ·rw [show Nat.beq prm.toList.length (c.args.toList.map (ev p.st.ts)).length=false from by rw [bE];simpa using hlen] at h
       cases h
     ·cases h
    ·cases h
   ·exact aGm hr hs hm hk hw h hx
  ·rename_i a b x ho
   split at h
   ·rename_i y hp' hc
    cases h
    rw [hdf]
    have h1:=aP.ev (df:=df) hs x
    generalize hxv:Act.eval ⟨vs.toArray,df⟩ x=xv at h1
    obtain ⟨w',hrn,hm',rfl⟩:=bBZ hm h1 hc
    have:=hx r _ w' Q hr (bU.putS hs h1 o.dst) hm' hk
    simp only [lZ,hdf] at this
    exact aDW hw (by simp [execOp,ho,hxv,hrn]) this
   ·exact aGm hr hs hm hk hw h hx
  ·exact aGm hr hs hm hk hw h hx
 ·cases h
theorem aQx{p q:aB}{g:Operand}{prm:Array Tmp}{asg bdy:Code}{Q:cM}(h0:e8 E.X.P Q0)(hr:∃s,r=r0++s)(hs:bU r p.st.ts vs)(hm:aG E r p.st.hp p.st.nx w)(hk:cJ E.X.P r p.k Q0 Q)(h:aBJ E.X p g prm asg bdy=some q)(hx:Xp E r0 Q0 q):
 (Code.rangeFunc g prm asg bdy).wpIn (FR (eG r p.k)) 0 E.X.P Q ⟨vs.toArray,cX r p.k⟩ w:=by
 obtain ⟨df,hdf⟩:∃df,cX r p.k=df:=⟨_,rfl⟩
 unfold aBJ at h
 split at h
 ·rename_i gf b e1 hmd
  split at h
  ·rename_i fn c hent
   cases h
   have hfr:eG r p.k=none:=by simp [eG,hmd]
   rw [hfr,hdf]
   have h1:=aP.ev (df:=df) hs g
   rw [e1] at h1
   generalize hgv:Act.eval ⟨vs.toArray,df⟩ g=gv at h1
   cases h1 with
   |@f _ _ _ av bv ha hb =>
    cases ha
    refine wpIn_rangeFunc λfni _=>?_
    obtain ⟨rc,hrc⟩:∃rc:Loop,rc={ state:=.ready,pending:=none,fn:=fni,tmps:=vs.toArray,params:=prm,assign:=asg,body:=bdy,defers:=w.heap.size }:=⟨_,rfl⟩
    have hm1:=hm.newDs
    have hm2:=hm1.newLp rc (by rw [hrc];rfl)
    have esz:(w.alloc (.deferred (some []))).heap.size=w.heap.size+1:=by simp
    obtain ⟨W1,hW1⟩:∃W1,(w.alloc (.deferred (some []))).alloc (.loop rc)=W1:=⟨_,rfl⟩
    rw [hW1] at hm2
    refine ⟨w.heap.size+1,[sQ w.heap.size],W1,{ target:=.fn (.func gf) bv.toArray,args:=#[.func (.yield (w.heap.size+1)) #[] #[]] },W1,gf,#[.func (.yield (w.heap.size+1)) #[] #[]]++bv.toArray,W1,?_,?_,λ_ _=>trivial,?_,λh=>Q7 none h,?_⟩
    ·rw [<-hW1,hrc];exact run_enterLoop_outer _ _ _ _ _
    ·simp only [resolve,hgv]
     simp [go_sem]
    ·simp [invoke,go_sem,aCE hent]
    ·rw [esz] at hm2
     have hD:(r++[(⟨w.heap.size,0,0,none,λ_=>False⟩:aF)]++[⟨w.heap.size+1,0,0,some rc,λ_=>False⟩])[p.st.nx]?=some ⟨w.heap.size,0,0,none,λ_=>False⟩:=by rw [<-hm.len];simp
     have hL:(r++[(⟨w.heap.size,0,0,none,λ_=>False⟩:aF)]++[⟨w.heap.size+1,0,0,some rc,λ_=>False⟩])[p.st.nx+1]?=some ⟨w.heap.size+1,0,0,some rc,λ_=>False⟩:=by rw [<-hm.len];simp
     have happ:r++[(⟨w.heap.size,0,0,none,λ_=>False⟩:aF)]++[⟨w.heap.size+1,0,0,some rc,λ_=>False⟩]=r++[⟨w.heap.size,0,0,none,λ_=>False⟩,⟨w.heap.size+1,0,0,some rc,λ_=>False⟩]:=by simp
     rw [happ] at hm2 hD hL
     generalize hr2:r++[(⟨w.heap.size,0,0,none,λ_=>False⟩:aF),⟨w.heap.size+1,0,0,some rc,λ_=>False⟩]=r2 at hm2 hD hL
     have hk2:=hk.mono [(⟨w.heap.size,0,0,none,λ_=>False⟩:aF),⟨w.heap.size+1,0,0,some rc,λ_=>False⟩]
     have hsame:=hk.same [(⟨w.heap.size,0,0,none,λ_=>False⟩:aF),⟨w.heap.size+1,0,0,some rc,λ_=>False⟩]
     have hs2:=hs.mono [(⟨w.heap.size,0,0,none,λ_=>False⟩:aF),⟨w.heap.size+1,0,0,some rc,λ_=>False⟩]
     have hb2:=hb.mono [(⟨w.heap.size,0,0,none,λ_=>False⟩:aF),⟨w.heap.size+1,0,0,some rc,λ_=>False⟩]
     have hext:=ext hr [(⟨w.heap.size,0,0,none,λ_=>False⟩:aF),⟨w.heap.size+1,0,0,some rc,λ_=>False⟩]
     rw [hr2] at hk2 hsame hs2 hb2 hext
     have hka:=cJ.add h0 ⟨_,hD⟩ hk2 hmd
     have efr:eG r2 (pH p.st.nx p.k)=none:=by rw [aFM,hsame.1,hfr]
     have edf:cX r2 (pH p.st.nx p.k)=sQ w.heap.size::df:=by
      unfold cX
      rw [aBz,List.map_cons,B3 hD]
      show sQ w.heap.size::cX r2 p.k=_
      rw [hsame.2,hdf]
     have hargs:aX r2 (.y (p.st.nx+1)::b) (.func (.yield (w.heap.size+1)) #[] #[]::bv):=.cons (.y hL) hb2
     have e9:(#[Value.func (.yield (w.heap.size+1)) #[] #[]]++bv.toArray)=(Value.func (.yield (w.heap.size+1)) #[] #[]::bv).toArray:=by apply Array.toList_inj.1;simp
     rw [e9]
     have hc:=tB (k:=.rng (p.st.nx+1) prm asg bdy fn p.st.ts::pH p.st.nx p.k) hent hext hargs hm2 rfl rfl ⟨Q,vs,_,rc,hka,hs2,hL,rfl,(by rw [hrc];exact ⟨rfl,rfl,rfl,rfl⟩),rfl⟩ hx
     rw [efr,edf] at hc
     refine callsIn_wide.2 (hc.mono λe w' he=>?_)
     obtain ⟨v,rfl,jump,w4,h1,h2⟩:=he
     exact ⟨jump,w4,h1,h2⟩
  ·cases h
 ·cases h
theorem aLX{p q:aB}(h0:e8 E.X.P Q0)(h:step E.X p=some q)(hx:Xp E r0 Q0 q):Xp E r0 Q0 p:=by
 intro r vs w Q hr hs hm hk
 obtain ⟨hd,k,st⟩:=p
 unfold step at h
 simp only at h hs hm hk ⊢
 split at h
 ·exact wpIn_skip (zS h hx hr hs hm hk)
 ·exact wpIn_label (zS h hx hr hs hm hk)
 ·unfold aHH at h
  split at h
  ·rename_i hmd
   cases h
   exact bEl (hk.noGoto h0 hmd) (hx r vs w Q hr hs hm hk)
  ·cases h
 ·cases h;exact wpIn_seq (hx r vs w _ hr hs hm ⟨Q,hk,rfl⟩)
 ·cases h;exact wpIn_block (hx r vs w _ hr hs hm ⟨Q,hk,rfl⟩)
 ·exact wpIn_exit (zS h hx hr hs hm hk)
 ·exact wpIn_ret (zS h hx hr hs hm hk)
 ·rename_i c a b
  have hc:=aP.ev (df:=cX r k) hs c
  split at h
  ·rename_i e
   cases h
   rw [e] at hc
   generalize hv:Act.eval ⟨vs.toArray,cX r k⟩ c=v at hc
   cases hc
   exact wpIn_cond_true hv (hx r vs w Q hr hs hm hk)
  ·rename_i e
   cases h
   rw [e] at hc
   generalize hv:Act.eval ⟨vs.toArray,cX r k⟩ c=v at hc
   cases hc
   exact wpIn_cond_false hv (hx r vs w Q hr hs hm hk)
  ·cases h
 ·cases h;exact bBF (hx r vs w _ hr hs hm ⟨Q,hk,rfl⟩)
 ·cases h
  have:=(hx r vs w Q hr hs hm hk)
  exact wpIn_region_list this.out
 ·exact aQx (p:=⟨_,k,st⟩) h0 hr hs hm hk h hx
 ·exact a33 (zS h hx hr hs hm hk)
 ·exact bCp (p:=⟨_,k,st⟩) hr hs hm hk h hx
 ·cases h
end
section
variable {df:List Deferred}
section
variable {E:bX}{r:List aF}{st:St}{vs:List Value}{o:Oper}
theorem aKZ{res:SV×Tr×Nat}(hs:bU r st.ts vs)(hal:oA o.op=true)(h:dI E.X st o.op o.type=some res):
 ∃T cs us,∃yf:Nat->SV,∃vf:Nat->Value,res=rB st T cs (yf st.nx)∧aD r cs us∧(∀w:World,(execOp (Act.eval ⟨vs.toArray,df⟩) o).run E.X.P w=.ok (.value (vf w.heap.size)) (w.alloc (.cells us.toArray T))) ∧
  ∀(r2:List aF) (n g:Nat),r2[n]?=some ⟨g,0,0,none,λ_=>False⟩->aP r2 (yf n) (vf g):=by
 have ev_:=aP.ev (df:=df) hs
 generalize ho:o.op=op at h hal
 cases op with
 |alloc T =>
  simp only [dI] at h
  split at h
  ·rename_i cs hz
   cases h
   obtain ⟨i,z,hi,hzz,hd,hsz,hrun⟩:=qV (r:=r) hz
   refine ⟨_,_,_,λn'=>.p n' 0,λg=>.pointer (some ⟨g,0,none⟩),rfl,hd,λw=>?_,λr2 n' g h9=>by simpa using aP.p (o:=0) h9⟩
   simp [execOp,ho,Instr.alloc,hrun,newVar,newRow]
  ·cases h
 |box T x =>
  simp only [dI] at h
  split at h
  ·rename_i cs hc
   cases h
   obtain ⟨hd,hl⟩:=R5 (ev_ x) hc
   refine ⟨_,_,_,λn'=>.p n' 0,λg=>.pointer (some ⟨g,0,none⟩),rfl,hd,λw=>?_,λr2 n' g h9=>by simpa using aP.p (o:=0) h9⟩
   simp [execOp,ho,Instr.box,newVar,newRow]
  ·cases h
 |buildSlice T n parts =>
  simp only [dI] at h
  obtain ⟨hp1,hp2⟩:=aGP (df:=df) parts hs
  split at h
  ·rename_i e hu
   split at h
   ·rename_i z k hz hk
    obtain ⟨ie,hie,rfl⟩:=yI hk
    obtain ⟨i,zv,hi,hzz,hd,hsz,hrun⟩:=qV (r:=r) hz
    rw [hie] at hi;cases hi
    simp only [cY,bO] at h
    by_cases hc:(decide (n*ie.size≤16777216)&&decide (0<ie.size))=true
    ·rw [hc,cond_true] at h
     simp only [bJ,bR] at hc
     split at h
     ·rename_i cs hf
      cases h
      obtain ⟨out,h1,h2⟩:=K5 hp1 hp2 (hd.rep n) hf
      have hzl:zv.cells.toList.length=ie.size:=by rw [lC];exact hsz
      have hrow:=P9 zv.cells.toList n (by omega)
      rw [hzl] at hrow
      by_cases h0:n=0
      ·subst h0
       refine ⟨_,_,out.toList,λn'=>.s n' 0 0 0,λg=>.slice (some ⟨g,0,none⟩) 0 0,rfl,h2,λw=>?_,λr2 n' g h9=>by simpa using aP.s (o:=0) (l:=0) (c:=0) h9⟩
       simp only [List.replicate_zero,List.flatten_nil] at h1
       have hA:(Array.map (λ(_:Nat)=>(default:Value)) (Array.range 0))=#[]:=Array.eq_empty_of_size_eq_zero (by simp)
       simp [execOp,ho,Instr.buildSlice,run_underlying hu,sizeOf,typeInfo,hie,hA,h1,newRow]
      ·refine ⟨_,_,out.toList,λn'=>.s n' 0 n n,λg=>.slice (some ⟨g,0,none⟩) n n,rfl,h2,λw=>?_,λr2 n' g h9=>by simpa using aP.s (o:=0) (l:=n) (c:=n) h9⟩
       refine kP T n parts.toList (by simpa using ho) _ ?_
       rw [Array.toArray_toList]
       refine run_buildSlice (P:=E.X.P) w T e n _ out ie zv hu hie hzz (by omega) (by intro h9;rcases Nat.mul_eq_zero.1 h9 with h9|h9<;>omega) ?_
       rw [hrow] at h1
       simpa using h1
     ·cases h
    ·rw [jD] at hc
     rw [hc] at h;simp at h
   ·cases h
  ·cases h
 |makeSlice T l c =>
  simp only [dI] at h
  split at h
  ·rename_i e ln cn hu hl hc
   obtain ⟨kl,hlv⟩:=rZ (ev_ l) hl
   obtain ⟨kc,hcv⟩:=rZ (ev_ c) hc
   split at h
   ·rename_i z hz
    obtain ⟨i,zv,hi,hzz,hd,hsz,hrun⟩:=qV (r:=r) hz
    have hbe:E.X.P.bytesOf e=i.bytes:=by simp [Program.bytesOf,hi]
    simp only [cY,hbe] at h
    by_cases hcnd:(decide (ln≤cn)&&decide ((1+i.bytes)*cn≤281474976710656))=true
    ·rw [hcnd,cond_true] at h
     cases h
     simp only [bJ,bR] at hcnd
     obtain ⟨h1,h2⟩:=hcnd
     rw [Nat.add_mul,Nat.one_mul] at h2
     have hmade:(madeCells zv.cells (cn*i.size))=((List.replicate cn zv.cells.toList).flatten).toArray:=by
      by_cases h0:0<i.size
      ·rw [P9 zv.cells.toList cn (by rw [lC];omega),lC,hsz]
       simp [madeCells,hsz]
      ·have e1:i.size=0:=by omega
       have e2:zv.cells.toList=[]:=mJ (by rw [lC];omega)
       rw [e1,e2]
       simp [madeCells]
     refine ⟨_,_,_,λn'=>.s n' 0 ln cn,λg=>.slice (some ⟨g,0,none⟩) ln cn,rfl,(hd.rep cn),λw=>?_,λr2 n' g h9=>by simpa using aP.s (o:=0) (l:=ln) (c:=cn) h9⟩
     have hr:=aFs (P:=E.X.P) T e i zv hu hi hzz kl kc ln cn h1 (by omega) (by omega) w
     rw [hmade] at hr
     simp [execOp,ho,hlv,hcv,hr]
    ·rw [jD] at hcnd
     rw [hcnd] at h;simp at h
   ·cases h
  ·cases h
 |_=>cases hal
end
def kO(X:aI)(w0:World)(rec:FuncId->List SV->Tr->Nat->Option (SV×St)):Prop :=
 ∀g args hp nx res st,rec g args hp nx=some (res,st)->∀(E:bX) (r:List aF) (vals:List Value) (w:World),E.X=X->E.w0=w0->aX r args vals->aG E r hp nx w ->
  (∀w',(callFunc g vals.toArray).run X.P w'=.ok (.enter g vals.toArray) w')∧Calls X.P g vals.toArray w λe w'=>∃q v,e=.returned v∧aP (r++q) res v∧aG E (r++q) st.hp st.nx w'
def pZ(X:aI)(rec:FuncId->List SV->Tr->Nat->Option (SV×St))(o:Oper)(ts:Sl)(hp:Tr)(nx:Nat):Option (SV×Tr×Nat):=match o.op with
 | .store T x y=>(match ev ts x,(ev ts y).cells,gH X.P T with
  | .p n i,some cs,some z=>bif Nat.beq (dK cs) z&&o.dst.isNone then (match qI hp n i cs with
   |some hp=>some (mX,hp,nx)
   |none=>none) else none
  |_,_,_=>none)
 | .call c=>(match c.callee with
  | .value f=>(match ev ts f with
   | .f (.func g) a b=>(match rec g (a++(c.args.toList.map (ev ts)++b)) hp nx with
    |some (res,st)=>some (res,st.hp,st.nx)
    |none=>none)
   |_=>none)
  |_=>dI X ⟨ts,hp,nx⟩ o.op o.type)
 |_=>dI X ⟨ts,hp,nx⟩ o.op o.type
section
variable {E:bX}{r:List aF}{hp hp':Tr}{nx nx':Nat}{ts:Sl}{vs:List Value}{w:World}{o:Oper}{rec:FuncId->List SV->Tr->Nat->Option (SV×St)}
theorem aMT{y:SV}(hrec:kO E.X E.w0 rec)(hs:bU r ts vs)(hm:aG E r hp nx w)(h:pZ E.X rec o ts hp nx=some (y,hp',nx')){K:Act->World->Prop}{Q:cM}
 (hk:∀q v w',aP (r++q) y v->aG E (r++q) hp' nx' w'->K ⟨(j6 vs o.dst v).toArray,df⟩ w'):o.wp E.X.P ⟨vs.toArray,df⟩ w K Q:=by
 have val:∀{y hp' nx'},dI E.X ⟨ts,hp,nx⟩ o.op o.type=some (y,hp',nx')->(∀q v w',aP (r++q) y v->aG E (r++q) hp' nx' w'->K ⟨(j6 vs o.dst v).toArray,df⟩ w')->o.wp E.X.P ⟨vs.toArray,df⟩ w K Q:=by
  intro y hp' nx' h hk
  obtain ⟨v,w',q,hrun,hd,hm'⟩:=aKq (st:=⟨ts,hp,nx⟩) hs hm h
  unfold Oper.wp
  rw [hrun]
  have:=hk q v w' hd hm'
  rw [<-oR] at this
  exact this
 unfold pZ at h
 split at h
 ·rename_i T x yy ho
  split at h
  ·rename_i n i cs z e1 e2 e3
   simp only [bE] at h
   by_cases hc:(decide (dK cs=z)&&o.dst.isNone)=true
   ·rw [hc,cond_true] at h
    simp only [bJ,bR] at hc
    obtain ⟨hc1,hc2⟩:=hc
    split at h
    ·rename_i hpw hwr
     cases h
     have h1:=aP.ev (df:=df) hs x
     rw [e1] at h1
     generalize hxv:Act.eval ⟨vs.toArray,df⟩ x=xv at h1
     cases h1 with
     |@p _ _ L hL =>
      obtain ⟨hdc,hlen⟩:=R5 (aP.ev (df:=df) hs yy) e2
      obtain ⟨w',hst,hm'⟩:=I5 hm hL hdc hwr
      unfold Oper.wp
      have hrun:(execOp (Act.eval ⟨vs.toArray,df⟩) o).run E.X.P w=.ok .skip w':=by
       have hsz:¬ ((Act.eval ⟨vs.toArray,df⟩ yy).cells.size≠z):=by rw [<-lC,hlen,hc1];simp
       simp [execOp,ho,hxv,Instr.storeAt,Instr.sureAddr,storeVar,i9 e3,hsz,hst]
      rw [hrun]
      have:=hk [] undef w' (.v _) (by rw [eC];exact hm')
      rw [<-oR] at this
      exact this
    ·cases h
   ·rw [jD] at hc
    rw [hc] at h;simp at h
  ·cases h
 ·rename_i c ho
  split at h
  ·rename_i f hcal
   split at h
   ·rename_i g a b e1
    split at h
    ·rename_i res st hre
     cases h
     have h1:=aP.ev (df:=df) hs f
     rw [e1] at h1
     generalize hfv:Act.eval ⟨vs.toArray,df⟩ f=fv at h1
     cases h1 with
     |@f _ _ _ av bv ha hb2 =>
      have hargs:=aX.map_ev (r:=r) (ts:=ts) (vs:=vs) (df:=df) (aP.ev hs) c.args.toList
      obtain ⟨hent,hc⟩:=hrec _ _ _ _ _ _ hre E r _ w rfl rfl (aX.app ha (aX.app hargs hb2)) hm
      have e2:(av.toArray++c.args.map (Act.eval ⟨vs.toArray,df⟩)++bv.toArray)=(av++(c.args.toList.map (Act.eval ⟨vs.toArray,df⟩)++bv)).toArray:=by apply Array.toList_inj.1;simp
      have hrun:(execOp (Act.eval ⟨vs.toArray,df⟩) o).run E.X.P w=.ok (.enter g (av++(c.args.toList.map (Act.eval ⟨vs.toArray,df⟩)++bv)).toArray) w:=by
       simp only [execOp,ho,resolve,hcal,hfv,Deferred.ofValue,Sem.run_bind,Sem.run_pure,Result.andThen_ok,invoke,e2,hent w]
      unfold Oper.wp
      rw [hrun]
      refine hc.mono λe w' he=>?_
      obtain ⟨q,v,rfl,hd,hm'⟩:=he
      have:=hk q v w' hd hm'
      rw [<-oR] at this
      exact this
    ·cases h
   ·cases h
  ·exact val h hk
 ·exact val h hk
end
def pL(X:aI)(ops:Array Oper)(L:Array Bool)(ts:Sl)(hpF:Nat->Tr)(nx:Nat):List Nat->Option (Nat×Oper×SV)
 |[]=>none
 |i::is=>match ops[i]? with
  |some o=>bif Region.free .any ops L i then (match gB ops ts o.guard with
   |some false=>some (i,o,mX)
   |some true=>(match mB o.op,dI X ⟨ts,hpF i,nx⟩ o.op o.type with
    |true,some r=>some (i,o,r.1)
    |_,_=>pL X ops L ts hpF nx is)
   |none=>pL X ops L ts hpF nx is) else pL X ops L ts hpF nx is
  |none=>pL X ops L ts hpF nx is
def isU:SV->Bool
 | .u=>true
 |_=>false
def gdT:Option Bool->Bool
 |some true=>true
 |_=>false
def dZ(ops:Array Oper)(ts:Sl)(i:Nat):Bool:=match ops[i]? with
 |some o=>oA o.op&&gdT (gB ops ts o.guard)
 |none=>false
def sV(X:aI)(ops:Array Oper)(L:Array Bool)(ts:Sl)(i:Nat):Bool:=Region.free .any ops L i&&(match ops[i]? with
 |some o=>(match o.dst with
  |some d=>isU (nth ts d)
  |none=>false)&&(dI X ⟨ts,.e,0⟩ o.op o.type).isSome
 |none=>false)
def setL(L:Array Bool)(l:List Nat):Array Bool:=l.foldl (λL i=>L.setIfInBounds i true) L
def qJ(stop:Nat->Bool):List Nat->Bool
 |[]=>true
 |[c]=>stop c
 |_=>false
def nW(X:aI)(rec:FuncId->List SV->Tr->Nat->Option (SV×St))(ops:Array Oper)(stop:Nat->Bool)(hpF:Nat->Tr):Nat->Array Bool->Sl->Tr->Nat->Option (Array Bool×St)
 |0,_,_,_,_=>none
 |m+1,L,ts,hp,nx =>
  bif qJ stop (Region.ready .any ops L) then some (L,⟨ts,hp,nx⟩) else
  bif ((Region.ready .any ops L).filter (dZ ops ts)).all (sV X ops L ts) then
   (match pL X ops L ts hpF nx (Region.ready .any ops L) with
   |some (i,o,y)=>nW X rec ops stop hpF m (L.setIfInBounds i true) (putS ts o.dst y) hp nx
   |none=>(match (Region.ready .any ops L).filter (λi=>!dZ ops ts i) with
    |[c]=>(match ops[c]? with
     |some o=>bif decide (Region.ready .any ops (setL L ((Region.ready .any ops L).filter (dZ ops ts)))=[c]) then (match gB ops ts o.guard,pZ X rec o ts hp nx with
      |some true,some (y,hp',nx')=>nW X rec ops stop hpF m (L.setIfInBounds c true) (putS ts o.dst y) hp' nx'
      |_,_=>none) else none
     |none=>none)
    |[]=>(match (Region.ready .any ops L).filter (dZ ops ts) with
     |a::rest=>(match ops[a]? with
      |some o=>bif decide (Region.ready .any ops (setL L rest)=[a]) then (match dI X ⟨ts,hp,nx⟩ o.op o.type with
       |some (y,hp',nx')=>nW X rec ops stop hpF m (L.setIfInBounds a true) (putS ts o.dst y) hp' nx'
       |none=>none) else none
      |none=>none)
     |[]=>none)
    |_=>none))
  else none
def tD(ops:Array Oper)(c:Nat):List Nat:=match ops[c]? with
 |some o=>(o.after.toList.filter λe=>Region.binds .any e).map (·.on)
 |none=>[]
def tN(m i:Nat):Bool:=Nat.beq (Nat.land (Nat.shiftRight m i) 1) 1
def uL(l:List Nat):Nat:=List.rec (motive:=λ_=>Nat) 0 (λi _ ih=>Nat.lor ih (Nat.pow 2 i)) l
def n9(ops:Array Oper)(c:Nat):Nat:=uL (tD ops c)
def zW(ops:Array Oper)(i:Nat):Nat->Nat:=Nat.rec (motive:=λ_=>Nat->Nat) (λacc=>acc) (λj ih acc=>ih (Bool.rec acc (Nat.lor acc (n9 ops j)) (tN acc j))) i
theorem J4(m i:Nat):tN m i=m.testBit i:=by
 unfold tN
 rw [show Nat.land (Nat.shiftRight m i) 1=(m >>> i) &&& 1 from rfl,Nat.and_one_is_mod,Nat.shiftRight_eq_div_pow,Nat.testBit_eq_decide_div_mod_eq]
 by_cases h:m / 2 ^ i%2=1
 ·simp [h]
 ·simp only [h,decide_false]
  cases hb:Nat.beq (m / 2 ^ i%2) 1 with
  |false=>rfl
  |true=>exact absurd (eU hb) h
theorem wN:∀{l:List Nat} {k:Nat},(uL l).testBit k=true↔k∈l
 |[],k=>by simp [uL]
 |i::l,k=>by
  have e:uL (i::l)=uL l ||| 2 ^ i:=rfl
  rw [e,Nat.testBit_or,Bool.or_eq_true,wN,Nat.testBit_two_pow,bG,bR]
  constructor
  ·rintro (h|h)
   ·exact .inr h
   ·exact .inl h.symm
  ·rintro (h|h)
   ·exact .inr h.symm
   ·exact .inl h
theorem aAr{ops:Array Oper}{c k:Nat}:(n9 ops c).testBit k=true↔∃o e,ops[c]?=some o∧e∈o.after∧Region.binds .any e=true∧e.on=k:=by
 unfold n9
 rw [wN]
 unfold tD
 split
 ·rename_i o ho
  simp only [dC,fY,Array.mem_toList_iff]
  constructor
  ·rintro ⟨e,⟨h1,h2⟩,h3⟩;exact ⟨o,e,ho,h1,h2,h3⟩
  ·rintro ⟨o',e,h0,h1,h2,h3⟩;rw [ho] at h0;cases h0;exact ⟨e,⟨h1,h2⟩,h3⟩
 ·rename_i hn
  constructor
  ·intro h;cases h
  ·rintro ⟨o',e,h0,_⟩;rw [hn] at h0;cases h0
def cN(ops:Array Oper)(tab:List (Nat×Nat))(n c:Nat):Bool:=match ops[c]? with
 |some o=>!mB o.op&&(!oA o.op&&(o.guard.isNone&&tab.all λx=>!Nat.beq x.2 n || tN (zW ops (c+1) (Nat.pow 2 c)) x.1))
 |none=>false
end
