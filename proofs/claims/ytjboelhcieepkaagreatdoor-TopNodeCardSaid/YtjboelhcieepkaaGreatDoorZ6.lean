/-
  What the symbolic machine runs holds of the model's own run.
-/
import Derived.Test.YtjboelhcieepkaaGreatDoorZ5
import Derived.Conc.MuLone
import Derived.TacticsIn
import Derived.OrdersIn
import Derived.RangeFuncLeaves
import Derived.Deep.RegionHeld3
namespace Go.Proofs.YtjboelhcieepkaaGreatDoor
set_option maxRecDepth 16384
open Go.RowKit
abbrev Post:=Exit→Act→World→Prop
def FR:Option Nat→Fence
 |none=>Fence.wide
 |some l=>Fence.wide.inRound l
theorem FR_fn(m:Option Nat)(f:FuncId):(FR m).fn f:=by cases m<;>trivial
theorem FR_depth(m:Option Nat){p:Prop}(h:(FR m).depth.isSome=true):p:=by cases m<;>simp [FR,Fence.wide,Fence.inRound] at h
theorem FR_room(m:Option Nat)(n:Nat):(FR m).room n:=by cases m<;>(intro d h;simp [FR,Fence.wide,Fence.inRound] at h)
theorem FR_in(m:Option Nat)(l:Nat):(FR m).inRound l=FR (some l):=by cases m<;>rfl
theorem calls_FR{m:Option Nat}{n:Nat}{P:Program}{f:FuncId}{args:Array Value}{w:World}{R:Ending→World→Prop}(h:Calls P f args w R):CallsIn (FR m) n P f args w R:=by
 cases m with
 |none=>exact callsIn_wide.2 h
 |some l=>exact CallsIn.inRound l (callsIn_wide.2 h)
def InL(m:Option Nat)(P:Program)(c:Code)(Q:Post)(a:Act)(w:World):Prop:=∀(b:Frame) (k:List Item) (cs:List Frame),b.roundOf=(FR m).round→∃e a' w',Q e a' w'∧ArrivesIn (Machine.fenced P (FR m)) P (lone (b.atR a (.inLoop c::k)) cs w) b k cs e a' w'
theorem loop_round{m:Option Nat}{P:Program}{c:Code}{Q:Post}{a:Act}{w:World}(h:c.wpIn (FR m) 0 P (Exit.then (InL m P c Q) Q) a w)(b:Frame)(k:List Item)(cs:List Frame)(hro:b.roundOf=(FR m).round):
 ∃e a' w',Q e a' w'∧ArrivesIn (Machine.fenced P (FR m)) P (lone (b.atR a (.code c::.inLoop c::k)) cs w) b k cs e a' w':=by
 obtain ⟨e,a₁,w₁,hq,harr⟩:=h b (.inLoop c::k) cs hro (FR_fn _ _) (FR_room _ _)
 cases e with
 |normal =>
  obtain ⟨e₂,a₂,w₂,hq₂,harr₂⟩:=hq b k cs hro
  exact ⟨e₂,a₂,w₂,hq₂,.of_steps harr harr₂⟩
 |exit id=>exact ⟨_,a₁,w₁,hq,.pass (x:=.inLoop c) rfl (fun _ _=>.inl (by simp)) harr⟩
 |goto l=>exact ⟨_,a₁,w₁,hq,.pass (x:=.inLoop c) rfl (fun _ _=>.inl (by simp)) harr⟩
 |ret=>exact ⟨_,a₁,w₁,hq,.pass (x:=.inLoop c) rfl (fun _ _=>.inl (by simp)) harr⟩
 |panic ch=>exact ⟨_,a₁,w₁,hq,.pass (x:=.inLoop c) rfl (fun _ _=>.inl (by simp)) harr⟩
 |outgrown=>exact ⟨_,a₁,w₁,hq,.pass (x:=.inLoop c) rfl (fun _ _=>.inl (by simp)) harr⟩
theorem wp_loop_in{m:Option Nat}{P:Program}{c:Code}{Q:Post}{a:Act}{w:World}(h:c.wpIn (FR m) 0 P (Exit.then (InL m P c Q) Q) a w):(Code.loop c).wpIn (FR m) 0 P Q a w:=fun b k cs hro hb hr =>
 let ⟨e,a',w',q,r⟩:=loop_round h b k cs hro
 ⟨e,a',w',q,.of_steps (.one (fenced_calm hb hr rfl) stepR_loop) r⟩
theorem inL_round{m:Option Nat}{P:Program}{c:Code}{Q:Post}{a:Act}{w:World}(h:c.wpIn (FR m) 0 P (Exit.then (InL m P c Q) Q) a w):InL m P c Q a w:=fun b k cs hro =>
 let ⟨e,a',w',q,r⟩:=loop_round h b k cs hro
 ⟨e,a',w',q,.of_steps (.one (fenced_calm (n:=0) (FR_fn m _) (FR_room m _) rfl) stepR_inLoop) r⟩
structure WI(m:Option Nat)(P:Program)(ops:Array Oper)(Q:Post)(l:List Oper)(a:Act)(w:World):Prop where
 out:wpListIn (FR m) 0 P ops Q l a w
def putL(ts:List Value)(d:Option Tmp)(v:Value):List Value:=match d with
 |some d=>ts.set d v
 |none=>ts
theorem put_putL(ts:List Value)(df:List Deferred)(d:Option Tmp)(v:Value):Act.put ⟨ts.toArray,df⟩ d v=⟨(putL ts d v).toArray,df⟩:=by
 cases d<;>simp [Act.put,putL]
def gOf(r:List Loc)(n:Nat):Nat:=((r[n]?).map (·.g)).getD 0
theorem gOf_eq{r:List Loc}{n:Nat}{L:Loc}(h:r[n]?=some L):gOf r n=L.g:=by simp [gOf,h]
theorem gOf_app{r:List Loc}{n:Nat}{L:Loc}(h:r[n]?=some L)(s:List Loc):gOf (r++s) n=gOf r n:=by rw [gOf_eq h,gOf_eq (get_app s h)]
def coll(g:Nat):Deferred:={ target:=.collected g,args:=#[] }
def frOf(r:List Loc)(k:List KI):Option Nat:=(mdOf k).map (gOf r)
def dfOf(r:List Loc)(k:List KI):List Deferred:=(dsOf k).map fun n=>coll (gOf r n)
def CollOk(P:Program)(Q:Post):Prop:=(∀e t ds w w' D,(e=Exit.normal∨e=Exit.ret)→(Instr.takeDeferred D).run P w=.ok [] w'→Q e ⟨t,ds⟩ w'→Q e ⟨t,coll D::ds⟩ w)∧∀l a w,¬ Q (.goto l) a w
theorem collOk_body{P:Program}{fn:Func}{R:Ending→World→Prop}:CollOk P (bodyPostM Fence.wide 0 P fn R):=by
 refine ⟨?_,fun _ _ _ h=>h⟩
 rintro e t ds w w' D (rfl|rfl) h hq
 ·exact ⟨by simp,.inl ⟨D,w',rfl,h,hq⟩⟩
 ·exact ⟨by simp,.inl ⟨D,w',rfl,h,hq⟩⟩
def KOk(P:Program)(r:List Loc):List KI→Post→Post→Prop
 |[],Q0,Q=>Q=Q0
 | .code c::k,Q0,Q=>∃Q',KOk P r k Q0 Q'∧Q=Exit.then (fun a w=>c.wpIn (FR (frOf r k)) 0 P Q' a w) Q'
 | .blk id::k,Q0,Q=>∃Q',KOk P r k Q0 Q'∧Q=Exit.inBlock id Q'
 | .loop c::k,Q0,Q=>∃Q',KOk P r k Q0 Q'∧Q=Exit.then (InL (frOf r k) P c Q') Q'
 | .frm ts fn d ops rest::k,Q0,Q=>∃Q' tl,KOk P r k Q0 Q'∧DenS r ts tl∧Q=bodyPostM Fence.wide 0 P fn fun e w'=>∃v,e=.returned v∧WI (frOf r k) P ops Q' rest ⟨(putL tl d v).toArray,dfOf r k⟩ w'
 | .ds n::k,Q0,Q=>(∃L,r[n]?=some L)∧CollOk P Q∧KOk P r k Q0 Q
 | .rng n prm asg bdy fn ts::k,Q0,Q=>∃Q' tl L rc,KOk P r k Q0 Q'∧DenS r ts tl∧r[n]?=some L∧L.rc=some rc∧(rc.params=prm∧rc.assign=asg∧rc.body=bdy∧rc.tmps=tl.toArray)∧Q=bodyPostM Fence.wide 0 P fn fun e w'=>∃v,e=.returned v ∧
  ∃jump w4,(Instr.endLoop L.g).run P w'=.ok jump w4∧(match jump with
   |none=>Q' .normal ⟨tl.toArray,dfOf r k⟩ w4
   |some c=>c.wpIn (FR (frOf r k)) 0 P Q' ⟨tl.toArray,dfOf r k⟩ w4)
 | .rbeg n bdy::k,Q0,Q=>∃Q' L,KOk P r k Q0 Q'∧r[n]?=some L∧(frOf r k=some L.g∧dfOf r k=[])∧Q=Exit.then (fun a w=>∃w2,(Instr.beginRound L.g).run P w=.ok () w2∧bdy.wpIn (FR (frOf r k)) 0 P Q' a w2) (fun _ _ _=>False)
 | .rend n ts d ops rest::k,Q0,Q=>∃Q' tl L,KOk P r k Q0 Q'∧DenS r ts tl∧r[n]?=some L∧Q=roundPost P L.g fun e w'=>∃v,e=.returned v∧WI (frOf r k) P ops Q' rest ⟨(putL tl d v).toArray,dfOf r k⟩ w'
theorem KOk.noGoto{P:Program}{r:List Loc}{Q0:Post}(h0:CollOk P Q0):∀{k:List KI} {Q:Post},KOk P r k Q0 Q→mdOf k=none→∀l a w,¬ Q (.goto l) a w
 |[],_,h,_,l,a,w=>by cases h;exact h0.2 l a w
 | .code _::_,_,⟨_,h,e⟩,hm,l,a,w=>by rw [e];exact KOk.noGoto h0 h hm l a w
 | .blk _::_,_,⟨_,h,e⟩,hm,l,a,w=>by rw [e];exact KOk.noGoto h0 h hm l a w
 | .loop _::_,_,⟨_,h,e⟩,hm,l,a,w=>by rw [e];exact KOk.noGoto h0 h hm l a w
 | .frm ..::_,_,⟨_,_,_,_,e⟩,_,l,a,w=>by rw [e];exact fun h=>h
 | .ds _::_,_,h,_,l,a,w=>h.2.1.2 l a w
 | .rng ..::_,_,⟨_,_,_,_,_,_,_,_,_,e⟩,_,l,a,w=>by rw [e];exact fun h=>h
 | .rbeg ..::_,_,_,hm,_,_,_=>by cases hm
 | .rend ..::_,_,_,hm,_,_,_=>by cases hm
theorem wp_scope_in{m:Option Nat}{P:Program}{c:Code}{Q:Post}{a:Act}{w:World}(hg:∀l a w,¬ Q (.goto l) a w)(h:c.wpIn (FR m) 0 P Q a w):(Code.scope c).wpIn (FR m) 0 P Q a w:=fun b k cs hro hb hr=>by
 obtain ⟨e,a₁,w₁,hq,harr⟩:=h b (.inScope c::k) cs hro (FR_fn _ _) (FR_room _ _)
 have h1:Go.step P (lone (b.atR a (.code (.scope c)::k)) cs w)=.next (lone (b.atR a (.code c::.inScope c::k)) cs w):=step_lone_go (by simp [stepG,stepG.exec,Frame.atR])
 have h2:∀a w,Go.step P (lone (b.atR a (.inScope c::k)) cs w)=.next (lone (b.atR a k) cs w):=fun a w=>step_lone_go (by simp [stepG,stepG.exec,Frame.atR])
 refine ⟨e,a₁,w₁,hq,.of_steps (.one (fenced_calm hb hr rfl) h1) ?_⟩
 cases e with
 |normal=>exact .of_steps harr (.one (fenced_calm (n:=0) (FR_fn m _) (FR_room m _) rfl) (h2 _ _))
 |goto l=>exact (hg l a₁ w₁ hq).elim
 |exit id=>exact ⟨fun k' hk=>harr.1 k' (by simp only [exitTo];exact hk),fun hr hk=>harr.2 hr (by simp only [exitTo];exact hk)⟩
 |ret=>exact harr
 |panic ch=>exact harr
 |outgrown=>exact harr
theorem KOk.same{P:Program}{r:List Loc}(s:List Loc):∀{k:List KI} {Q0 Q:Post},KOk P r k Q0 Q→frOf (r++s) k=frOf r k∧dfOf (r++s) k=dfOf r k
 |[],_,_,_=>⟨rfl,rfl⟩
 | .code _::k,_,_,⟨_,h,_⟩=>(KOk.same s h:frOf (r++s) k=frOf r k∧dfOf (r++s) k=dfOf r k)
 | .blk _::k,_,_,⟨_,h,_⟩=>(KOk.same s h:frOf (r++s) k=frOf r k∧dfOf (r++s) k=dfOf r k)
 | .loop _::k,_,_,⟨_,h,_⟩=>(KOk.same s h:frOf (r++s) k=frOf r k∧dfOf (r++s) k=dfOf r k)
 | .frm _ _ _ _ _::_,_,_,_=>⟨rfl,rfl⟩
 | .ds n::k,_,_,⟨⟨L,hL⟩,_,h⟩=>by
  obtain ⟨h1,h2⟩:=KOk.same s h
  refine ⟨h1,?_⟩
  show coll (gOf (r++s) n)::dfOf (r++s) k=coll (gOf r n)::dfOf r k
  rw [h2,gOf_app hL]
 | .rng _ _ _ _ _ _::_,_,_,_=>⟨rfl,rfl⟩
 | .rbeg n _::k,_,_,⟨_,L,h,hL,⟨_,h4⟩,_⟩=>by
  obtain ⟨h1,h2⟩:=KOk.same s h
  refine ⟨?_,?_⟩
  ·show some (gOf (r++s) n)=some (gOf r n)
   rw [gOf_app hL]
  ·exact h2
 | .rend n _ _ _ _::_,_,_,⟨_,_,L,_,_,hL,_⟩=>by
  refine ⟨?_,rfl⟩
  show some (gOf (r++s) n)=some (gOf r n)
  rw [gOf_app hL]
theorem KOk.mono{P:Program}{r:List Loc}(s:List Loc):∀{k:List KI} {Q0 Q:Post},KOk P r k Q0 Q→KOk P (r++s) k Q0 Q
 |[],_,_,h=>h
 | .code _::_,_,_,⟨Q',h,e⟩=>⟨Q',KOk.mono s h,by rw [(KOk.same s h).1];exact e⟩
 | .blk _::_,_,_,⟨Q',h,e⟩=>⟨Q',KOk.mono s h,e⟩
 | .loop _::_,_,_,⟨Q',h,e⟩=>⟨Q',KOk.mono s h,by rw [(KOk.same s h).1];exact e⟩
 | .frm ..::_,_,_,⟨Q',tl,h,hd,e⟩=>⟨Q',tl,KOk.mono s h,hd.mono s,by rw [(KOk.same s h).1,(KOk.same s h).2];exact e⟩
 | .ds _::_,_,_,⟨⟨L,hL⟩,hc,h⟩=>⟨⟨L,get_app s hL⟩,hc,KOk.mono s h⟩
 | .rng ..::_,_,_,⟨Q',tl,L,rc,h,hd,hL,hrc,hx,e⟩=>⟨Q',tl,L,rc,KOk.mono s h,hd.mono s,get_app s hL,hrc,hx,by rw [(KOk.same s h).1,(KOk.same s h).2];exact e⟩
 | .rbeg ..::_,_,_,⟨Q',L,h,hL,hx,e⟩=>⟨Q',L,KOk.mono s h,get_app s hL,by rw [(KOk.same s h).1,(KOk.same s h).2];exact hx,by rw [(KOk.same s h).1];exact e⟩
 | .rend ..::_,_,_,⟨Q',tl,L,h,hd,hL,e⟩=>⟨Q',tl,L,KOk.mono s h,hd.mono s,get_app s hL,by rw [(KOk.same s h).1,(KOk.same s h).2];exact e⟩
theorem KOk.find{P:Program}{r:List Loc}{n:Nat}{prm:Array Tmp}{asg bdy:Code}{ts:Sl}:∀{k:List KI} {Q0 Q:Post},KOk P r k Q0 Q→findR n k=some (prm,asg,bdy,ts) →
 ∃L rc tl,r[n]?=some L∧L.rc=some rc∧(rc.params=prm∧rc.assign=asg∧rc.body=bdy∧rc.tmps=tl.toArray)∧DenS r ts tl
 |[],_,_,_,h=>by cases h
 | .code _::k,_,_,⟨_,h,_⟩,hf=>KOk.find h hf
 | .blk _::k,_,_,⟨_,h,_⟩,hf=>KOk.find h hf
 | .loop _::k,_,_,⟨_,h,_⟩,hf=>KOk.find h hf
 | .frm _ _ _ _ _::_,_,_,⟨_,_,h,_⟩,hf=>KOk.find h hf
 | .ds _::_,_,_,⟨_,_,h⟩,hf=>KOk.find h hf
 | .rng m prm' asg' bdy' fn ts'::k,_,_,⟨_,tl,L,rc,h,hd,hL,hrc,hx,_⟩,hf=>by
  have hf':(bif Nat.beq m n then some (prm',asg',bdy',ts') else findR n k)=some (prm,asg,bdy,ts):=hf
  rw [beq_iff] at hf'
  by_cases e:m=n
  ·subst e
   simp only [decide_true,cond_true,Option.some.injEq,Prod.mk.injEq] at hf'
   obtain ⟨rfl,rfl,rfl,rfl⟩:=hf'
   exact ⟨L,rc,tl,hL,hrc,hx,hd⟩
  ·simp only [e,decide_false,cond_false] at hf'
   exact KOk.find h hf'
 | .rbeg _ _::_,_,_,⟨_,_,h,_⟩,hf=>KOk.find h hf
 | .rend _ _ _ _ _::_,_,_,⟨_,_,_,h,_⟩,hf=>KOk.find h hf
theorem mdOf_add(n:Nat):∀k,mdOf (addDs n k)=mdOf k
 |[]=>rfl
 | .code _::k=>mdOf_add n k
 | .blk _::k=>mdOf_add n k
 | .loop _::k=>mdOf_add n k
 | .frm ..::_=>rfl
 | .ds _::_=>rfl
 | .rng ..::_=>rfl
 | .rbeg ..::_=>rfl
 | .rend ..::_=>rfl
theorem dsOf_add(n:Nat):∀k,dsOf (addDs n k)=n::dsOf k
 |[]=>rfl
 | .code _::k=>dsOf_add n k
 | .blk _::k=>dsOf_add n k
 | .loop _::k=>dsOf_add n k
 | .frm ..::_=>rfl
 | .ds _::_=>rfl
 | .rng ..::_=>rfl
 | .rbeg ..::_=>rfl
 | .rend ..::_=>rfl
theorem frOf_add(r:List Loc)(n:Nat)(k:List KI):frOf r (addDs n k)=frOf r k:=by unfold frOf;rw [mdOf_add]
theorem KOk.add{P:Program}{r:List Loc}{n:Nat}{Q0:Post}(h0:CollOk P Q0)(hn:∃L,r[n]?=some L):∀{k:List KI} {Q:Post},KOk P r k Q0 Q→mdOf k=none→KOk P r (addDs n k) Q0 Q
 |[],_,h,_=>⟨hn,by cases h;exact h0,h⟩
 | .code c::k,_,⟨Q',h,e⟩,hm=>⟨Q',KOk.add h0 hn h hm,by rw [frOf_add];exact e⟩
 | .blk _::k,_,⟨Q',h,e⟩,hm=>⟨Q',KOk.add h0 hn h hm,e⟩
 | .loop _::k,_,⟨Q',h,e⟩,hm=>⟨Q',KOk.add h0 hn h hm,by rw [frOf_add];exact e⟩
 | .frm ..::_,_,h,_=>⟨hn,by obtain ⟨_,_,_,_,e⟩:=h;rw [e];exact collOk_body,h⟩
 | .ds _::_,_,h,_=>⟨hn,h.2.1,h⟩
 | .rng ..::_,_,h,_=>⟨hn,by obtain ⟨_,_,_,_,_,_,_,_,_,e⟩:=h;rw [e];exact collOk_body,h⟩
 | .rbeg ..::_,_,_,hm=>by cases hm
 | .rend ..::_,_,_,hm=>by cases hm
def HdOk(m:Option Nat)(df:List Deferred)(P:Program):Hd→Post→List Value→World→Prop
 | .code c,Q,vs,w=>c.wpIn (FR m) 0 P Q ⟨vs.toArray,df⟩ w
 | .ops ops l,Q,vs,w=>WI m P ops Q l ⟨vs.toArray,df⟩ w
 | .done e,Q,vs,w=>Q e ⟨vs.toArray,df⟩ w
def Xp(E:Env)(r0:List Loc)(Q0:Post)(p:Pos):Prop:=∀r vs w Q,(∃s,r=r0++s)→DenS r p.st.ts vs→Mem E r p.st.hp p.st.nx w→KOk E.X.P r p.k Q0 Q→HdOk (frOf r p.k) (dfOf r p.k) E.X.P p.h Q vs w
theorem ext{r0 r:List Loc}(h:∃s,r=r0++s)(q:List Loc):∃s,r++q=r0++s:=by
 obtain ⟨s,rfl⟩:=h
 exact ⟨s++q,by simp⟩
section
variable {E:Env}{Q0:Post}{r0 r:List Loc}{vs:List Value}{w:World}
theorem DenS.putS{ts:Sl}{vs:List Value}{x:SV}{v:Value}(h:DenS r ts vs)(hx:Den r x v)(d:Option Tmp):DenS r (putS ts d x) (putL vs d v):=by
 cases d with
 |none=>exact h
 |some d=>exact h.set d hx
def resF(tmps:Array Value):ResultVar→Sem Value
 | .tmp t=>pure (tmps.getD t undef)
 | .cell a t=>do loadVar t (←asAddr (tmps.getD a undef))
theorem results_eq(fn:Func)(tmps:Array Value):results fn tmps=(do let vs ←fn.results.mapM (resF tmps);pure (if h:vs.size=1 then vs[0] else .tuple vs)):=by
 unfold results
 congr 1
theorem resS_ok{st:St}{x:SV}{v:ResultVar}(hs:DenS r st.ts vs)(hm:Mem E r st.hp st.nx w)(h:resS E.X st v=some x):
 ∃u,(resF vs.toArray v).run E.X.P w=.ok u w∧Den r x u:=by
 cases v with
 |tmp t =>
  simp only [resS,Option.some.injEq] at h
  subst h
  refine ⟨_,rfl,?_⟩
  simpa [Array.getD_eq_getD_getElem?,List.getD_eq_getElem?_getD] using DenS.nth t hs
 |cell t T =>
  simp only [resS] at h
  have hx:=DenS.nth t hs
  have e:vs.toArray.getD t undef=vs.getD t undef:=by simp [Array.getD_eq_getD_getElem?,List.getD_eq_getElem?_getD]
  simp only [resF]
  rw [e]
  obtain ⟨u,hu,hd⟩:=loadS_ok hm hx h
  refine ⟨u,?_,hd⟩
  unfold loadS at h
  generalize vs.getD t undef=pv at hx hu
  split at h
  ·rename_i n k e2
   rw [e2] at hx
   cases hx
   simpa [Instr.loadAt,Instr.sureAddr,asAddr] using hu
  ·rename_i g k e2
   rw [e2] at hx
   cases hx
   simpa [Instr.loadAt,Instr.sureAddr,asAddr] using hu
  ·cases h
theorem resultsS_ok{st:St}(hs:DenS r st.ts vs)(hm:Mem E r st.hp st.nx w):∀{l:List ResultVar} {xs:List SV},resultsS E.X st l=some xs →
 ∃us,(l.mapM (resF vs.toArray)).run E.X.P w=.ok us w∧DenL r xs us
 |[],xs,h=>by
  simp only [resultsS,Option.some.injEq] at h
  subst h
  exact ⟨[],by simp,.nil⟩
 |v::l,xs,h=>by
  simp only [resultsS] at h
  split at h
  ·rename_i x xs' h1 h2
   cases h
   obtain ⟨u,hu,hd⟩:=resS_ok hs hm h1
   obtain ⟨us,hus,hds⟩:=resultsS_ok hs hm h2
   refine ⟨u::us,?_,.cons hd hds⟩
   rw [List.mapM_cons]
   rw [Sem.run_bind,hu]
   simp only [Result.andThen_ok]
   rw [Sem.run_bind,hus]
   simp
  ·cases h
theorem retS_ok{st:St}{fn:Func}{x:SV}(hs:DenS r st.ts vs)(hm:Mem E r st.hp st.nx w)(h:retS E.X fn st=some x):∃u,(results fn vs.toArray).run E.X.P w=.ok u w∧Den r x u:=by
 have key:∀{xs:List SV},resultsS E.X st fn.results.toList=some xs→∃us,DenL r xs us∧(results fn vs.toArray).run E.X.P w=.ok (if h:us.toArray.size=1 then us.toArray[0] else .tuple us.toArray) w:=by
  intro xs hx
  obtain ⟨us,hu,hd⟩:=resultsS_ok hs hm hx
  refine ⟨us,hd,?_⟩
  rw [results_eq,Array.mapM_eq_mapM_toList]
  simp only [Sem.run_bind,Sem.run_map,hu,Result.andThen_ok,Sem.run_pure]
 unfold retS at h
 split at h
 ·rename_i y hy
  cases h
  obtain ⟨us,hd,hr⟩:=key hy
  cases hd with
  |cons h1 h2=>cases h2;exact ⟨_,hr,by simpa using h1⟩
 ·rename_i xs hne hy
  cases h
  obtain ⟨us,hd,hr⟩:=key hy
  have hl:=hd.length_eq
  have:¬ us.toArray.size=1:=by
   intro h1
   rw [List.size_toArray,hl] at h1
   obtain ⟨y,rfl⟩:=List.length_eq_one_iff.1 h1
   exact hne y rfl
  rw [dif_neg this] at hr
  exact ⟨_,hr,.t hd⟩
 ·cases h
theorem exitS_ok:∀{k:List KI} {vs:List Value} {w:World} {e:Exit} {st:St} {p:Pos} {Q:Post},exitS E.X st e k=some p→Xp E r0 Q0 p→(∃s,r=r0++s)→DenS r st.ts vs→Mem E r st.hp st.nx w→KOk E.X.P r k Q0 Q→Q e ⟨vs.toArray,dfOf r k⟩ w:=by
 intro k
 induction k with
 |nil =>
  intro vs w e st p Q h hx hr hs hm hk
  have:p=⟨.done e,[],st⟩:=by cases e<;>simpa [exitS] using h.symm
  subst this
  exact hx r vs w Q hr hs hm hk
 |cons i k ih =>
  intro vs w e st p Q h hx hr hs hm hk
  cases i with
  |code c =>
   obtain ⟨Q',hk',rfl⟩:=hk
   cases e with
   |normal=>simp only [exitS,Option.some.injEq] at h;subst h;exact hx r vs w Q' hr hs hm hk'
   |exit id=>exact (ih (by simpa [exitS] using h) hx hr hs hm hk':Q' _ _ _)
   |goto l=>exact (ih (by simpa [exitS] using h) hx hr hs hm hk':Q' _ _ _)
   |ret=>exact (ih (by simpa [exitS] using h) hx hr hs hm hk':Q' _ _ _)
   |panic ch=>exact (ih (by simpa [exitS] using h) hx hr hs hm hk':Q' _ _ _)
   |outgrown=>exact (ih (by simpa [exitS] using h) hx hr hs hm hk':Q' _ _ _)
  |blk id =>
   obtain ⟨Q',hk',rfl⟩:=hk
   cases e with
   |normal=>exact (ih (by simpa [exitS] using h) hx hr hs hm hk':Q' _ _ _)
   |exit id' =>
    simp only [exitS,beq_iff] at h
    by_cases he:id'=id
    ·subst he
     simp only [decide_true,cond_true] at h
     simp only [Exit.inBlock,if_true]
     exact ih h hx hr hs hm hk'
    ·simp only [he,decide_false,cond_false] at h
     simp only [Exit.inBlock,he,if_false]
     exact ih h hx hr hs hm hk'
   |goto l=>exact (ih (by simpa [exitS] using h) hx hr hs hm hk':Q' _ _ _)
   |ret=>exact (ih (by simpa [exitS] using h) hx hr hs hm hk':Q' _ _ _)
   |panic ch=>exact (ih (by simpa [exitS] using h) hx hr hs hm hk':Q' _ _ _)
   |outgrown=>exact (ih (by simpa [exitS] using h) hx hr hs hm hk':Q' _ _ _)
  |loop c =>
   obtain ⟨Q',hk',rfl⟩:=hk
   cases e with
   |normal=>simp only [exitS,Option.some.injEq] at h;subst h;exact inL_round (hx r vs w _ hr hs hm ⟨Q',hk',rfl⟩)
   |exit id=>exact (ih (by simpa [exitS] using h) hx hr hs hm hk':Q' _ _ _)
   |goto l=>exact (ih (by simpa [exitS] using h) hx hr hs hm hk':Q' _ _ _)
   |ret=>exact (ih (by simpa [exitS] using h) hx hr hs hm hk':Q' _ _ _)
   |panic ch=>exact (ih (by simpa [exitS] using h) hx hr hs hm hk':Q' _ _ _)
   |outgrown=>exact (ih (by simpa [exitS] using h) hx hr hs hm hk':Q' _ _ _)
  |frm ts fn d ops rest =>
   obtain ⟨Q',tl,hk',hd,rfl⟩:=hk
   have key:∀x,retS E.X fn st=some x→p=⟨.ops ops rest,k,⟨putS ts d x,st.hp,st.nx⟩⟩→∃v,(results fn vs.toArray).run E.X.P w=.ok v w∧∃u,Ending.returned v=.returned u∧WI (frOf r k) E.X.P ops Q' rest ⟨(putL tl d u).toArray,dfOf r k⟩ w:=by
    rintro x hre rfl
    obtain ⟨u,hu,hdu⟩:=retS_ok hs hm hre
    exact ⟨u,hu,u,rfl,hx r _ w Q' hr (DenS.putS hd hdu d) hm hk'⟩
   cases e with
   |normal =>
    simp only [exitS] at h
    split at h
    ·rename_i x hr;exact key x hr (by cases h;rfl)
    ·cases h
   |ret =>
    simp only [exitS] at h
    split at h
    ·rename_i x hr;exact key x hr (by cases h;rfl)
    ·cases h
   |exit id=>simp [exitS] at h
   |goto l=>simp [exitS] at h
   |panic ch=>simp [exitS] at h
   |outgrown=>simp [exitS] at h
  |ds n =>
   obtain ⟨⟨L,hL⟩,hc,hk'⟩:=hk
   have key:∀e,(e=Exit.normal∨e=.ret)→(bif isDs st.hp n then exitS E.X ⟨st.ts,st.hp.del n,st.nx⟩ e k else none)=some p→Q e ⟨vs.toArray,dfOf r (.ds n::k)⟩ w:=by
    intro e he h
    cases hd:isDs st.hp n with
    |false=>rw [hd] at h;cases h
    |true =>
     rw [hd,cond_true] at h
     obtain ⟨b,L',hb,hbk,hL',hw⟩:=isDs_ok hm hd
     rw [hL] at hL';cases hL'
     have hm':=hm.dropObj hb (by omega) hL (Array.getElem?_eq_some_iff.1 hw).1 (.deferred none)
     have:=ih h hx hr (vs:=vs) hs hm' hk'
     have hg:dfOf r (.ds n::k)=coll L.g::dfOf r k:=by
      show coll (gOf r n)::dfOf r k=_
      rw [gOf_eq hL]
     rw [hg]
     exact hc.1 e _ _ _ _ _ he (run_takeDeferred hw) this
   cases e with
   |normal=>exact key _ (.inl rfl) (by simpa only [exitS] using h)
   |ret=>exact key _ (.inr rfl) (by simpa only [exitS] using h)
   |exit id=>simp [exitS] at h
   |goto l=>simp [exitS] at h
   |panic ch=>simp [exitS] at h
   |outgrown=>simp [exitS] at h
  |rng n prm asg bdy fn ts =>
   obtain ⟨Q',tl,L,rc,hk',hd,hL,hrc,_,rfl⟩:=hk
   have key:rngQ (retS E.X fn st) (rngS (lpT st.hp n) (exitS E.X ⟨ts,st.hp.del n,st.nx⟩ .normal k) (fun c=>⟨.code c,k,⟨ts,st.hp.del n,st.nx⟩⟩))=some p→∃v,(results fn vs.toArray).run E.X.P w=.ok v w∧∃u,Ending.returned v=.returned u∧∃jump w4,(Instr.endLoop L.g).run E.X.P w=.ok jump w4∧(match jump with
    |none=>Q' .normal ⟨tl.toArray,dfOf r k⟩ w4
    |some c=>c.wpIn (FR (frOf r k)) 0 E.X.P Q' ⟨tl.toArray,dfOf r k⟩ w4):=by
    intro h
    unfold rngQ at h
    split at h
    ·rename_i x hre
     obtain ⟨u,hu,-⟩:=retS_ok hs hm hre
     refine ⟨u,hu,u,rfl,?_⟩
     have run:∀T,lpT st.hp n=some T→(lpOf rc T).state≠.busy→(Instr.endLoop L.g).run E.X.P w=.ok (lpOf rc T).pending (w.putObj L.g (.loop { lpOf rc T with state:=.exhausted }))∧Mem E r (st.hp.del n) st.nx (w.putObj L.g (.loop { lpOf rc T with state:=.exhausted })):=by
      intro T hT hb
      obtain ⟨b,L',rc',hb1,_,hL',hrc',hw⟩:=lpT_ok hm hT
      rw [hL] at hL';cases hL'
      rw [hrc] at hrc';cases hrc'
      exact ⟨run_endLoop hw hb,hm.dropLp hT hL _⟩
     unfold rngS at h
     split at h
     ·rename_i hT
      obtain ⟨h1,h2⟩:=run 0 hT (by simp [lpOf])
      exact ⟨none,_,h1,ih h hx hr hd h2 hk'⟩
     ·rename_i hT
      obtain ⟨h1,h2⟩:=run 2 hT (by simp [lpOf])
      cases h
      exact ⟨some .ret,_,h1,hx r _ _ Q' hr hd h2 hk'⟩
     ·rename_i i hT
      obtain ⟨h1,h2⟩:=run (i+3) hT (by simp [lpOf])
      cases h
      exact ⟨some (.exit i),_,h1,hx r _ _ Q' hr hd h2 hk'⟩
     ·cases h
    ·cases h
   cases e with
   |normal=>exact key (by simpa only [exitS] using h)
   |ret=>exact key (by simpa only [exitS] using h)
   |exit id=>simp [exitS] at h
   |goto l=>simp [exitS] at h
   |panic ch=>simp [exitS] at h
   |outgrown=>simp [exitS] at h
  |rbeg n bdy =>
   obtain ⟨Q',L,hk',hL,_,rfl⟩:=hk
   cases e with
   |normal =>
    simp only [exitS] at h
    split at h
    ·rename_i hT
     cases h
     obtain ⟨b,L',rc',hb1,_,hL',hrc',hw⟩:=lpT_ok hm hT
     rw [hL] at hL';cases hL'
     exact ⟨_,run_beginRound hw (by simp [lpOf]),hx r vs _ Q' hr hs (hm.turnLp hT hL hrc' (T':=1) rfl) hk'⟩
    ·cases h
   |ret=>simp [exitS] at h
   |exit id=>simp [exitS] at h
   |goto l=>simp [exitS] at h
   |panic ch=>simp [exitS] at h
   |outgrown=>simp [exitS] at h
  |rend n ts d ops rest =>
   obtain ⟨Q',tl,L,hk',hd,hL,rfl⟩:=hk
   have key:∀(jump:Option Code) (T:Nat) (b:Bool),b=jump.isNone→(∀rc,({ lpOf rc 1 with state:=if jump.isNone then .ready else .done,pending:=jump }:Loop)=lpOf rc T)→rendS st.hp st.nx n ts d ops rest k T b=some p →
    ∃v w',(Instr.endRound L.g jump).run E.X.P w=.ok v w'∧∃u,Ending.returned v=.returned u∧WI (frOf r k) E.X.P ops Q' rest ⟨(putL tl d u).toArray,dfOf r k⟩ w':=by
    intro jump T b hb hrcT h
    unfold rendS at h
    split at h
    ·rename_i hT
     cases h
     obtain ⟨b1,L',rc',hb1,_,hL',hrc',hw⟩:=lpT_ok hm hT
     rw [hL] at hL';cases hL'
     refine ⟨_,_,run_endRound jump hw,_,rfl,hx r _ _ Q' hr (DenS.putS hd ?_ d) (hm.turnLp hT hL hrc' (hrcT rc')) hk'⟩
     rw [←hb];exact .v _
    ·cases h
   cases e with
   |normal=>exact key none 0 true rfl (fun _=>rfl) (by simpa only [exitS] using h)
   |ret=>exact key (some .ret) 2 false rfl (fun _=>rfl) (by simpa only [exitS] using h)
   |exit id=>exact key (some (.exit id)) (id+3) false rfl (fun _=>rfl) (by simpa only [exitS] using h)
   |goto l=>simp [exitS] at h
   |panic ch=>simp [exitS] at h
   |outgrown=>simp [exitS] at h
theorem guardS_ok{ops:Array Oper}{ts:Sl}{o:Oper}{b:Bool}(hs:DenS r ts vs)(h:guardS ops ts o.guard=some b):Region.wanted o (yielded ops vs.toArray)=b:=by
 unfold Region.wanted
 unfold guardS at h
 cases hg:o.guard with
 |none=>rw [hg] at h;simpa using h
 |some q =>
  obtain ⟨j,c⟩:=q
  rw [hg] at h
  simp only at h ⊢
  split at h
  ·rename_i o2 ho2
   split at h
   ·rename_i d hd
    have hn:=DenS.nth d hs
    split at h
    ·rename_i t e
     rw [e] at hn
     generalize hv:vs.getD d undef=v at hn
     cases hn
     have hv2:vs[d]?=some (.bool t):=by
      cases hq:vs[d]? with
      |none=>simp [List.getD_eq_getElem?_getD,hq,undef] at hv
      |some u=>simp [List.getD_eq_getElem?_getD,hq] at hv;rw [hv]
     have:yielded ops vs.toArray j=some t:=by simp [yielded,ho2,hd,hv2]
     rw [this]
     simp only [Option.some.injEq] at h
     rw [←h]
     cases t<;>cases c<;>rfl
    ·rename_i q e
     rw [e] at hn
     generalize hv:vs.getD d undef=v at hn
     cases hn
     cases h
     have:yielded ops vs.toArray j=none:=by
      cases hq:vs[d]? with
      |none=>simp [yielded,ho2,hd,hq]
      |some u=>simp [List.getD_eq_getElem?_getD,hq] at hv;simp [yielded,ho2,hd,hq,hv]
     rw [this];rfl
    ·cases h
   ·cases h
  ·cases h
theorem semAt_run{m:Option Nat}{o:Oper}{e:Operand→Value}{P:Program}{w w':World}{x:Next}(h:(execOp e o).run P w=.ok x w')(hd:∀d,x≠.defer d):(o.semAt m e).run P w=.ok x w':=by
 cases m with
 |none=>exact h
 |some l =>
  rw [Oper.semAt_some l e o ?_]
  ·exact h
  ·intro c hc
   simp only [execOp,hc,Sem.run_bind] at h
   cases hr:(resolve e c o.type).run P w with
   |ok d w1 =>
    rw [hr] at h
    simp at h
    exact hd d h.1.symm
   |halt z w1=>rw [hr] at h;simp at h
section
variable {m:Option Nat}{P:Program}{ops:Array Oper}{Q:Post}{o:Oper}{rest:List Oper}{ts:List Value}{df:List Deferred}
theorem WI_val{v:Value}{w w':World}(hw:Region.wanted o (yielded ops ts.toArray)=true)(hrun:(execOp (Act.eval ⟨ts.toArray,df⟩) o).run P w=.ok (.value v) w')
 (h:WI m P ops Q rest ⟨(putL ts o.dst v).toArray,df⟩ w'):WI m P ops Q (o::rest) ⟨ts.toArray,df⟩ w :=
 ⟨wpListIn_step fun K hK=>by
  rw [if_pos hw]
  refine ⟨fun f _=>FR_fn m f,?_⟩
  rw [semAt_run hrun (by intro d hd;cases hd)]
  refine hK _ _ ?_
  rw [put_putL]
  exact h.out⟩
theorem WI_skip{w:World}(hw:Region.wanted o (yielded ops ts.toArray)=false)
 (h:WI m P ops Q rest ⟨(putL ts o.dst undef).toArray,df⟩ w):WI m P ops Q (o::rest) ⟨ts.toArray,df⟩ w :=
 ⟨wpListIn_step fun K hK=>by
  rw [if_neg (by rw [hw];simp)]
  refine ⟨fun f _=>FR_fn m f,hK _ _ ?_⟩
  rw [put_putL]
  exact h.out⟩
theorem WI_call{w w':World}{f:FuncId}{args:Array Value}(hw:Region.wanted o (yielded ops ts.toArray)=true)(hrun:(execOp (Act.eval ⟨ts.toArray,df⟩) o).run P w=.ok (.enter f args) w')
 (hc:Calls P f args w' fun e w'=>∃v,e=.returned v∧WI m P ops Q rest ⟨(putL ts o.dst v).toArray,df⟩ w'):WI m P ops Q (o::rest) ⟨ts.toArray,df⟩ w :=
 ⟨wpListIn_step fun K hK=>by
  rw [if_pos hw]
  refine ⟨fun f _=>FR_fn m f,?_⟩
  rw [semAt_run hrun (by intro d hd;cases hd)]
  refine ⟨fun h=>FR_depth m h,calls_FR (hc.mono fun e w' ⟨v,he,hv⟩=>?_)⟩
  subst he
  refine hK _ _ ?_
  rw [put_putL]
  exact hv.out⟩
theorem WI_round{w:World}{l:Nat}{f:FuncId}{tmps:Array Value}{asg bdy:Code}(hw:Region.wanted o (yielded ops ts.toArray)=true)(hrun:(execOp (Act.eval ⟨ts.toArray,df⟩) o).run P w=.ok (.round l f tmps asg bdy) w)
 (hc:asg.wpIn (FR (some l)) 0 P (Exit.then (fun a w=>∃w2,(Instr.beginRound l).run P w=.ok () w2∧bdy.wpIn (FR (some l)) 0 P (roundPost P l fun e w'=>∃v,e=.returned v∧WI m P ops Q rest ⟨(putL ts o.dst v).toArray,df⟩ w') a w2) (fun _ _ _=>False)) ⟨tmps,[]⟩ w) :
 WI m P ops Q (o::rest) ⟨ts.toArray,df⟩ w :=
 ⟨wpListIn_step fun K hK=>by
  rw [if_pos hw]
  refine ⟨fun f _=>FR_fn m f,?_⟩
  rw [semAt_run hrun (by intro d hd;cases hd)]
  rw [←FR_in m l] at hc
  refine ⟨fun h=>FR_depth m h,(roundIn_of_wpIn (FR_fn m f) hc).mono fun e w' ⟨v,he,hv⟩=>?_⟩
  subst he
  refine hK _ _ ?_
  rw [put_putL]
  exact hv.out⟩
theorem nilI{a:Act}{w:World}(h:Q .normal a w):WI m P ops Q [] a w:=⟨h⟩
end
theorem entryS_ok {P : Program} {g : FuncId} {fn : Func} {c : Code} (h : entryS P g = some (fn, c)) : P.funcs[g]? = some fn ∧ fn.body = some c ∧ (fn.name == "runtime.NumGoroutine") = false := by
 unfold entryS at h
 split at h
 ·rename_i f hf
  split at h
  ·rename_i b hb
   cases hn : f.name == "runtime.NumGoroutine" with
   |true=>rw [hn] at h;simp at h
   |false=>rw [hn] at h;simp at h;obtain ⟨rfl,rfl⟩:=h;exact ⟨hf,hb,hn⟩
  ·cases h
 ·cases h
theorem run_enter{P:Program}{g:FuncId}{fn:Func}{c:Code}(h:entryS P g=some (fn,c))(args:Array Value)(w:World):(callFunc g args).run P w=.ok (.enter g args) w:=by
 obtain ⟨hf,hb,hn⟩:=entryS_ok h
 have hn' : ¬ fn.name = "runtime.NumGoroutine" := by simpa using hn
 simp [callFunc,hf,hn',hb]
theorem valS_ok{p q:Pos}{o:Oper}{ops:Array Oper}{rest:List Oper}{Q:Post}(hr:∃s,r=r0++s)(hs:DenS r p.st.ts vs)(hm:Mem E r p.st.hp p.st.nx w)(hk:KOk E.X.P r p.k Q0 Q)(hw:Region.wanted o (yielded ops vs.toArray)=true)(h:valS E.X p o ops rest=some q)(hx:Xp E r0 Q0 q):
 WI (frOf r p.k) E.X.P ops Q (o::rest) ⟨vs.toArray,dfOf r p.k⟩ w:=by
 unfold valS at h
 split at h
 ·rename_i res hres
  cases h
  obtain ⟨v,w',s,hrn,hd,hm'⟩:=opS_ok (df:=dfOf r p.k) hs hm hres
  have:=hx (r++s) _ w' Q (ext hr s) (DenS.putS (hs.mono s) hd o.dst) hm' (hk.mono s)
  simp only at this
  rw [(hk.same s).1,(hk.same s).2] at this
  exact WI_val hw hrn this
 ·cases h
theorem convS_ok{p:Pos}{a b:TypeId}{x y:SV}{hp:Tr}{v:Value}(hm:Mem E r p.st.hp p.st.nx w)(hd:Den r x v)(h:convS E.X p a b x=some (y,hp)):∃w',(convert a b v).run E.X.P w=.ok v w'∧Mem E r hp p.st.nx w'∧y=x:=by
 unfold convS at h
 split at h
 ·rename_i n i l c
  split at h
  ·rename_i e hu
   split at h
   ·rename_i hu8
    split at h
    ·rename_i bl hb
     cases hq:Nat.beq a b&&Nat.beq bl.k 0 with
     |false=>rw [hq] at h;cases h
     |true =>
      rw [hq] at h
      simp only [cond_true,Option.some.injEq,Prod.mk.injEq] at h
      obtain ⟨rfl,rfl⟩:=h
      rw [Bool.and_eq_true,beq_iff,beq_iff,decide_eq_true_eq,decide_eq_true_eq] at hq
      obtain ⟨rfl,hk0⟩:=hq
      cases hd with
      |@s _ _ _ _ L hL =>
       obtain ⟨L',hL',vs,hdc,⟨_,hge,hb0,hblk⟩|⟨h1,_⟩|⟨h2,_⟩⟩:=hm.blk n bl hb
       ·rw [hL] at hL';cases hL'
        have hs:w.shape? L.g=some (bl.T,vs.length):=by
         unfold Blk at hblk
         unfold World.shape?
         rw [hblk]
         simp
        have hru:=run_underlying (P:=E.X.P) (w:=w) hu
        have hrun:∀o,(convert a a (.slice (some ⟨L.g,o,none⟩) l c)).run E.X.P w=.ok (.slice (some ⟨L.g,o,none⟩) l c) (w.freeze ⟨L.g,vs.length,none⟩ 1):=by
         intro o
         have h1:=fun w=>run_underlying (P:=E.X.P) (w:=w) hu
         have h2:=fun w=>run_underlying (P:=E.X.P) (w:=w) hu8
         simp [convert,h1,h2,markStringish,hs,Result.andThen]
        refine ⟨_,hrun _,?_,rfl⟩
        have hbf:=Lib.below_freeze (Below.refl (L.g) w) (p:=⟨L.g,vs.length,none⟩) (Nat.le_refl _) 1
        refine hm.writeG hb (.inl (by omega)) hL (freeze_size _ _ _) (fun k hk=>?_) hbf.os hbf.tape hbf.output ⟨vs,hdc,.inr (.inr ⟨by show 2≤7;decide,by rw [freeze_size];exact hblk.lt,fun j v hv=>?_,fun h=>(by cases h),fun h=>(by cases h),fun _=>hge,fun h=>(by cases h)⟩)⟩ (.inr (by show 5≤7;decide)) (by show 7≠8;decide)
        ·unfold World.freeze
         split
         ·rfl
         ·simp only [Array.getElem?_modify]
          rw [if_neg (by exact fun h=>hk h.symm)]
        ·rw [freeze_cell,hb0,Nat.zero_add,hblk.cell];simpa using hv
       ·omega
       ·omega
    ·cases h
   ·cases h
  ·cases h
 ·cases h
theorem bindS_ok:∀{ps:List Tmp} {ts:Sl} {tl:List Value} {xs:List SV} {ys:List Value},DenS r ts tl→DenL r xs ys→∃tl',DenS r (bindS ts ps xs) tl'∧tl'.toArray=(ps.zip ys).foldl (fun t (p,v)=>t.setIfInBounds p v) tl.toArray
 |[],_,tl,_,_,hs,_=>⟨tl,hs,by simp⟩
 |p::ps,_,tl,[],_,hs,h=>by cases h;exact ⟨tl,hs,by simp⟩
 |p::ps,ts,tl,x::xs,_,hs,.cons (y:=y) h t=>by
  obtain ⟨tl',h1,h2⟩:=bindS_ok (ps:=ps) (hs.set p h) t
  refine ⟨tl',h1,?_⟩
  rw [h2]
  simp
theorem calls_of_X2{g:FuncId}{fn:Func}{c:Code}{R:Ending→World→Prop}{args:List SV}{vals:List Value}{hp:Tr}{nx:Nat}{k:List KI}(hent:entryS E.X.P g=some (fn,c))(hr:∃s,r=r0++s)(ha:DenL r args vals)(hm:Mem E r hp nx w)(hmd:mdOf k=none)(hds:dsOf k=[])
 (hk:KOk E.X.P r k Q0 (bodyPostM Fence.wide 0 E.X.P fn R)) (hx:Xp E r0 Q0 ⟨.code c,k,⟨frame args fn.ntmps,hp,nx⟩⟩):Calls E.X.P g vals.toArray w R:=by
 obtain ⟨hf,hb,_⟩:=entryS_ok hent
 refine (callsIn_wide (n:=0)).1 (callsIn_of_wp_marks hf hb trivial ?_)
 have:=hx r _ w _ hr (DenS.frame ha fn.ntmps) hm hk
 have e1:frOf r k=none:=by simp [frOf,hmd]
 have e2:dfOf r k=[]:=by simp [dfOf,hds]
 simp only [HdOk,e1,e2] at this
 have e3:(vals++List.replicate (fn.ntmps-args.length) undef).toArray=vals.toArray++Array.replicate (fn.ntmps-vals.toArray.size) undef:=by
  rw [←ha.length_eq]
  apply Array.toList_inj.1;simp
 rw [←e3]
 exact this
theorem oneS_ok{p q:Pos}{o:Oper}{ops:Array Oper}{rest:List Oper}{Q:Post}(hr:∃s,r=r0++s)(hs:DenS r p.st.ts vs)(hm:Mem E r p.st.hp p.st.nx w)(hk:KOk E.X.P r p.k Q0 Q)(h:oneS E.X p o ops rest=some q)(hx:Xp E r0 Q0 q):
 WI (frOf r p.k) E.X.P ops Q (o::rest) ⟨vs.toArray,dfOf r p.k⟩ w:=by
 obtain ⟨df,hdf⟩:∃df,dfOf r p.k=df:=⟨_,rfl⟩
 unfold oneS at h
 split at h
 ·rename_i hg
  cases h
  exact WI_skip (guardS_ok hs hg) (hx r _ w Q hr (DenS.putS hs (.v _) o.dst) hm hk)
 ·rename_i hg
  have hw:=guardS_ok hs hg
  split at h
  ·rename_i T x y ho
   split at h
   ·rename_i n i cs z e1 e2 e3
    simp only [beq_iff] at h
    by_cases hc:(decide (rsize cs=z)&&o.dst.isNone)=true
    ·rw [hc,cond_true] at h
     simp only [Bool.and_eq_true,decide_eq_true_eq] at hc
     obtain ⟨hc1,hc2⟩:=hc
     split at h
     ·rename_i hp' hwr
      cases h
      rw [hdf]
      have h1:=Den.ev (df:=df) hs x
      rw [e1] at h1
      generalize hxv:Act.eval ⟨vs.toArray,df⟩ x=xv at h1
      cases h1 with
      |@p _ _ L hL =>
       obtain ⟨hdc,hlen⟩:=cells_ok (Den.ev (df:=df) hs y) e2
       obtain ⟨w',hst,hm'⟩:=writeS_ok hm hL hdc hwr
       have hrun:(execOp (Act.eval ⟨vs.toArray,df⟩) o).run E.X.P w=.ok .skip w':=by
        have hsz:¬ ((Act.eval ⟨vs.toArray,df⟩ y).cells.size≠z):=by rw [←Array.length_toList,hlen,hc1];simp
        simp [execOp,ho,hxv,Instr.storeAt,Instr.sureAddr,storeVar,run_sizeOf e3,hsz,hst]
       refine ⟨wpListIn_step fun K hK=>?_⟩
       rw [if_pos hw]
       refine ⟨fun f _=>FR_fn _ f,?_⟩
       rw [semAt_run hrun (by intro d hd;cases hd)]
       have hdn:o.dst=none:=by cases hq:o.dst with|none=>rfl|some d=>rw [hq] at hc2;simp at hc2
       refine hK _ _ ?_
       rw [hdn]
       have:=hx r vs w' Q hr hs hm' hk
       simp only [HdOk,hdf] at this
       exact this.out
     ·cases h
    ·rw [Bool.not_eq_true] at hc
     rw [hc] at h;simp at h
   ·cases h
  ·rename_i c ho
   split at h
   ·rename_i f hcal
    split at h
    ·rename_i g a b e1
     unfold enterS at h
     split at h
     ·rename_i fn body hent
      cases h
      have h1:=Den.ev (df:=df) hs f
      rw [e1] at h1
      generalize hfv:Act.eval ⟨vs.toArray,df⟩ f=fv at h1
      cases h1 with
      |@f _ _ _ av bv ha hb2 =>
       have hargs:=DenL.map_ev (r:=r) (ts:=p.st.ts) (vs:=vs) (df:=df) (Den.ev hs) c.args.toList
       have hall:=DenL.app ha (DenL.app hargs hb2)
       have hrun:(execOp (Act.eval ⟨vs.toArray,df⟩) o).run E.X.P w=.ok (.enter g (av++(c.args.toList.map (Act.eval ⟨vs.toArray,df⟩)++bv)).toArray) w:=by
        have e2:(av.toArray++c.args.map (Act.eval ⟨vs.toArray,df⟩)++bv.toArray)=(av++(c.args.toList.map (Act.eval ⟨vs.toArray,df⟩)++bv)).toArray:=by apply Array.toList_inj.1;simp
        simp only [execOp,ho,resolve,hcal,hfv,Deferred.ofValue,Sem.run_bind,Sem.run_pure,Result.andThen_ok,invoke,e2,run_enter hent]
       rw [hdf]
       refine WI_call hw hrun ?_
       refine calls_of_X2 (k:=.frm p.st.ts fn o.dst ops rest::p.k) hent hr hall hm rfl rfl ⟨Q,vs,hk,hs,?_⟩ hx
       rw [hdf]
     ·cases h
    ·rename_i n e1
     unfold yieldS at h
     split at h
     ·rename_i prm asg bdy ts hf hT
      by_cases hlen:prm.toList.length=(c.args.toList.map (ev p.st.ts)).length
      ·rw [show Nat.beq prm.toList.length (c.args.toList.map (ev p.st.ts)).length=true from by rw [beq_iff];simpa using hlen,cond_true] at h
       cases h
       obtain ⟨L,rc,tl,hL,hrc,⟨hp1,hp2,hp3,hp4⟩,hd⟩:=hk.find hf
       obtain ⟨b,L',rc',hb1,_,hL',hrc',hwl⟩:=lpT_ok hm hT
       rw [hL] at hL';cases hL'
       rw [hrc] at hrc';cases hrc'
       have h1:=Den.ev (df:=df) hs f
       rw [e1] at h1
       generalize hfv:Act.eval ⟨vs.toArray,df⟩ f=fv at h1
       cases h1 with
       |@y _ L2 hL2 =>
        rw [hL] at hL2;cases hL2
        have hargs:=DenL.map_ev (r:=r) (ts:=p.st.ts) (vs:=vs) (df:=df) (Den.ev hs) c.args.toList
        obtain ⟨tl',ht1,ht2⟩:=bindS_ok (ps:=prm.toList) hd hargs
        have hsz:(c.args.map (Act.eval ⟨vs.toArray,df⟩)).size=(lpOf rc 0).params.size:=by
         show _=rc.params.size
         rw [hp1]
         simp at hlen ⊢
         exact hlen.symm
        have hry:=run_yield (P:=E.X.P) hwl hsz
        have hrun:(execOp (Act.eval ⟨vs.toArray,df⟩) o).run E.X.P w=.ok (.round L.g rc.fn tl'.toArray asg bdy) w:=by
         have e2:tl'.toArray=((lpOf rc 0).params.zip (c.args.map (Act.eval ⟨vs.toArray,df⟩))).foldl (fun tmps (t,a)=>tmps.setIfInBounds t a) (lpOf rc 0).tmps:=by
          show _=(rc.params.zip _).foldl _ rc.tmps
          rw [ht2,hp1,hp4]
          rw [←Array.foldl_toList]
          congr 1
          simp
         rw [e2]
         have e3:asg=(lpOf rc 0).assign:=hp2.symm
         have e4:bdy=(lpOf rc 0).body:=hp3.symm
         have e5:rc.fn=(lpOf rc 0).fn:=rfl
         rw [e3,e4,e5]
         simp only [execOp,ho,resolve,hcal,hfv,Deferred.ofValue,Sem.run_bind,Sem.run_pure,Result.andThen_ok,invoke]
         simpa using hry
        rw [hdf]
        refine WI_round hw hrun ?_
        have e5:frOf r (.rend n p.st.ts o.dst ops rest::p.k)=some L.g:=by show some (gOf r n)=_;rw [gOf_eq hL]
        have:=hx r tl' w _ hr ht1 hm ⟨_,L,⟨Q,vs,L,hk,hs,hL,rfl⟩,hL,⟨e5,rfl⟩,rfl⟩
        have e6:frOf r (.rbeg n bdy::.rend n p.st.ts o.dst ops rest::p.k)=some L.g:=by show some (gOf r n)=_;rw [gOf_eq hL]
        simp only [HdOk,e5,e6,hdf] at this
        exact this
      ·rw [show Nat.beq prm.toList.length (c.args.toList.map (ev p.st.ts)).length=false from by rw [beq_iff];simpa using hlen] at h
       cases h
     ·cases h
    ·cases h
   ·exact valS_ok hr hs hm hk hw h hx
  ·rename_i a b x ho
   split at h
   ·rename_i y hp' hc
    cases h
    rw [hdf]
    have h1:=Den.ev (df:=df) hs x
    generalize hxv:Act.eval ⟨vs.toArray,df⟩ x=xv at h1
    obtain ⟨w',hrn,hm',rfl⟩:=convS_ok hm h1 hc
    have:=hx r _ w' Q hr (DenS.putS hs h1 o.dst) hm' hk
    simp only [HdOk,hdf] at this
    exact WI_val hw (by simp [execOp,ho,hxv,hrn]) this
   ·exact valS_ok hr hs hm hk hw h hx
  ·exact valS_ok hr hs hm hk hw h hx
 ·cases h
theorem rangeS_ok{p q:Pos}{g:Operand}{prm:Array Tmp}{asg bdy:Code}{Q:Post}(h0:CollOk E.X.P Q0)(hr:∃s,r=r0++s)(hs:DenS r p.st.ts vs)(hm:Mem E r p.st.hp p.st.nx w)(hk:KOk E.X.P r p.k Q0 Q)(h:rangeS E.X p g prm asg bdy=some q)(hx:Xp E r0 Q0 q):
 (Code.rangeFunc g prm asg bdy).wpIn (FR (frOf r p.k)) 0 E.X.P Q ⟨vs.toArray,dfOf r p.k⟩ w:=by
 obtain ⟨df,hdf⟩:∃df,dfOf r p.k=df:=⟨_,rfl⟩
 unfold rangeS at h
 split at h
 ·rename_i gf b e1 hmd
  split at h
  ·rename_i fn c hent
   cases h
   have hfr:frOf r p.k=none:=by simp [frOf,hmd]
   rw [hfr,hdf]
   have h1:=Den.ev (df:=df) hs g
   rw [e1] at h1
   generalize hgv:Act.eval ⟨vs.toArray,df⟩ g=gv at h1
   cases h1 with
   |@f _ _ _ av bv ha hb =>
    cases ha
    refine wpIn_rangeFunc fun fni _=>?_
    obtain ⟨rc,hrc⟩:∃rc:Loop,rc={ state:=.ready,pending:=none,fn:=fni,tmps:=vs.toArray,params:=prm,assign:=asg,body:=bdy,defers:=w.heap.size }:=⟨_,rfl⟩
    have hm1:=hm.newDs
    have hm2:=hm1.newLp rc (by rw [hrc];rfl)
    have esz:(w.alloc (.deferred (some []))).heap.size=w.heap.size+1:=by simp
    obtain ⟨W1,hW1⟩:∃W1,(w.alloc (.deferred (some []))).alloc (.loop rc)=W1:=⟨_,rfl⟩
    rw [hW1] at hm2
    refine ⟨w.heap.size+1,[coll w.heap.size],W1,{ target:=.fn (.func gf) bv.toArray,args:=#[.func (.yield (w.heap.size+1)) #[] #[]] },W1,gf,#[.func (.yield (w.heap.size+1)) #[] #[]]++bv.toArray,W1,?_,?_,fun _ _=>trivial,?_,fun h=>FR_depth none h,?_⟩
    ·rw [←hW1,hrc];exact run_enterLoop_outer _ _ _ _ _
    ·simp only [resolve,hgv]
     simp [go_sem]
    ·simp [invoke,go_sem,run_enter hent]
    ·rw [esz] at hm2
     have hD:(r++[(⟨w.heap.size,0,0,none,fun _=>False⟩:Loc)]++[⟨w.heap.size+1,0,0,some rc,fun _=>False⟩])[p.st.nx]?=some ⟨w.heap.size,0,0,none,fun _=>False⟩:=by rw [←hm.len];simp
     have hL:(r++[(⟨w.heap.size,0,0,none,fun _=>False⟩:Loc)]++[⟨w.heap.size+1,0,0,some rc,fun _=>False⟩])[p.st.nx+1]?=some ⟨w.heap.size+1,0,0,some rc,fun _=>False⟩:=by rw [←hm.len];simp
     have happ:r++[(⟨w.heap.size,0,0,none,fun _=>False⟩:Loc)]++[⟨w.heap.size+1,0,0,some rc,fun _=>False⟩]=r++[⟨w.heap.size,0,0,none,fun _=>False⟩,⟨w.heap.size+1,0,0,some rc,fun _=>False⟩]:=by simp
     rw [happ] at hm2 hD hL
     generalize hr2:r++[(⟨w.heap.size,0,0,none,fun _=>False⟩:Loc),⟨w.heap.size+1,0,0,some rc,fun _=>False⟩]=r2 at hm2 hD hL
     have hk2:=hk.mono [(⟨w.heap.size,0,0,none,fun _=>False⟩:Loc),⟨w.heap.size+1,0,0,some rc,fun _=>False⟩]
     have hsame:=hk.same [(⟨w.heap.size,0,0,none,fun _=>False⟩:Loc),⟨w.heap.size+1,0,0,some rc,fun _=>False⟩]
     have hs2:=hs.mono [(⟨w.heap.size,0,0,none,fun _=>False⟩:Loc),⟨w.heap.size+1,0,0,some rc,fun _=>False⟩]
     have hb2:=hb.mono [(⟨w.heap.size,0,0,none,fun _=>False⟩:Loc),⟨w.heap.size+1,0,0,some rc,fun _=>False⟩]
     have hext:=ext hr [(⟨w.heap.size,0,0,none,fun _=>False⟩:Loc),⟨w.heap.size+1,0,0,some rc,fun _=>False⟩]
     rw [hr2] at hk2 hsame hs2 hb2 hext
     have hka:=KOk.add h0 ⟨_,hD⟩ hk2 hmd
     have efr:frOf r2 (addDs p.st.nx p.k)=none:=by rw [frOf_add,hsame.1,hfr]
     have edf:dfOf r2 (addDs p.st.nx p.k)=coll w.heap.size::df:=by
      unfold dfOf
      rw [dsOf_add,List.map_cons,gOf_eq hD]
      show coll w.heap.size::dfOf r2 p.k=_
      rw [hsame.2,hdf]
     have hargs:DenL r2 (.y (p.st.nx+1)::b) (.func (.yield (w.heap.size+1)) #[] #[]::bv):=.cons (.y hL) hb2
     have e9:(#[Value.func (.yield (w.heap.size+1)) #[] #[]]++bv.toArray)=(Value.func (.yield (w.heap.size+1)) #[] #[]::bv).toArray:=by apply Array.toList_inj.1;simp
     rw [e9]
     have hc:=calls_of_X2 (k:=.rng (p.st.nx+1) prm asg bdy fn p.st.ts::addDs p.st.nx p.k) hent hext hargs hm2 rfl rfl ⟨Q,vs,_,rc,hka,hs2,hL,rfl,(by rw [hrc];exact ⟨rfl,rfl,rfl,rfl⟩),rfl⟩ hx
     rw [efr,edf] at hc
     refine callsIn_wide.2 (hc.mono fun e w' he=>?_)
     obtain ⟨v,rfl,jump,w4,h1,h2⟩:=he
     exact ⟨jump,w4,h1,h2⟩
  ·cases h
 ·cases h
theorem step_ok{p q:Pos}(h0:CollOk E.X.P Q0)(h:step E.X p=some q)(hx:Xp E r0 Q0 q):Xp E r0 Q0 p:=by
 intro r vs w Q hr hs hm hk
 obtain ⟨hd,k,st⟩:=p
 unfold step at h
 simp only at h hs hm hk ⊢
 split at h
 ·exact wpIn_skip (exitS_ok h hx hr hs hm hk)
 ·exact wpIn_label (exitS_ok h hx hr hs hm hk)
 ·unfold scopeS at h
  split at h
  ·rename_i hmd
   cases h
   exact wp_scope_in (hk.noGoto h0 hmd) (hx r vs w Q hr hs hm hk)
  ·cases h
 ·cases h;exact wpIn_seq (hx r vs w _ hr hs hm ⟨Q,hk,rfl⟩)
 ·cases h;exact wpIn_block (hx r vs w _ hr hs hm ⟨Q,hk,rfl⟩)
 ·exact wpIn_exit (exitS_ok h hx hr hs hm hk)
 ·exact wpIn_ret (exitS_ok h hx hr hs hm hk)
 ·rename_i c a b
  have hc:=Den.ev (df:=dfOf r k) hs c
  split at h
  ·rename_i e
   cases h
   rw [e] at hc
   generalize hv:Act.eval ⟨vs.toArray,dfOf r k⟩ c=v at hc
   cases hc
   exact wpIn_cond_true hv (hx r vs w Q hr hs hm hk)
  ·rename_i e
   cases h
   rw [e] at hc
   generalize hv:Act.eval ⟨vs.toArray,dfOf r k⟩ c=v at hc
   cases hc
   exact wpIn_cond_false hv (hx r vs w Q hr hs hm hk)
  ·cases h
 ·cases h;exact wp_loop_in (hx r vs w _ hr hs hm ⟨Q,hk,rfl⟩)
 ·cases h
  have:=(hx r vs w Q hr hs hm hk)
  exact wpIn_region_list this.out
 ·exact rangeS_ok (p:=⟨_,k,st⟩) h0 hr hs hm hk h hx
 ·exact nilI (exitS_ok h hx hr hs hm hk)
 ·exact oneS_ok (p:=⟨_,k,st⟩) hr hs hm hk h hx
 ·cases h
end
end Go.Proofs.YtjboelhcieepkaaGreatDoor
namespace Go.Proofs.YtjboelhcieepkaaGreatDoor
set_option maxRecDepth 16384
open Go.RowKit
variable {df:List Deferred}
section
variable {E:Env}{r:List Loc}{st:St}{vs:List Value}{o:Oper}
theorem alS_ok{res:SV×Tr×Nat}(hs:DenS r st.ts vs)(hal:allocOp o.op=true)(h:opS E.X st o.op o.type=some res):
 ∃T cs us,∃yf:Nat→SV,∃vf:Nat→Value,res=newS st T cs (yf st.nx)∧DenC r cs us∧(∀w:World,(execOp (Act.eval ⟨vs.toArray,df⟩) o).run E.X.P w=.ok (.value (vf w.heap.size)) (w.alloc (.cells us.toArray T))) ∧
  ∀(r2:List Loc) (n g:Nat),r2[n]?=some ⟨g,0,0,none,fun _=>False⟩→Den r2 (yf n) (vf g):=by
 have ev_:=Den.ev (df:=df) hs
 generalize ho:o.op=op at h hal
 cases op with
 |alloc T =>
  simp only [opS] at h
  split at h
  ·rename_i cs hz
   cases h
   obtain ⟨i,z,hi,hzz,hd,hsz,hrun⟩:=zeroS_ok (r:=r) hz
   refine ⟨_,_,_,fun n'=>.p n' 0,fun g=>.pointer (some ⟨g,0,none⟩),rfl,hd,fun w=>?_,fun r2 n' g h9=>by simpa using Den.p (o:=0) h9⟩
   simp [execOp,ho,Instr.alloc,hrun,newVar,newRow]
  ·cases h
 |box T x =>
  simp only [opS] at h
  split at h
  ·rename_i cs hc
   cases h
   obtain ⟨hd,hl⟩:=cells_ok (ev_ x) hc
   refine ⟨_,_,_,fun n'=>.p n' 0,fun g=>.pointer (some ⟨g,0,none⟩),rfl,hd,fun w=>?_,fun r2 n' g h9=>by simpa using Den.p (o:=0) h9⟩
   simp [execOp,ho,Instr.box,newVar,newRow]
  ·cases h
 |buildSlice T n parts =>
  simp only [opS] at h
  obtain ⟨hp1,hp2⟩:=build_pairs (df:=df) parts hs
  split at h
  ·rename_i e hu
   split at h
   ·rename_i z k hz hk
    obtain ⟨ie,hie,rfl⟩:=szOf_some hk
    obtain ⟨i,zv,hi,hzz,hd,hsz,hrun⟩:=zeroS_ok (r:=r) hz
    rw [hie] at hi;cases hi
    simp only [ble_iff,blt_iff] at h
    by_cases hc:(decide (n*ie.size≤16777216)&&decide (0<ie.size))=true
    ·rw [hc,cond_true] at h
     simp only [Bool.and_eq_true,decide_eq_true_eq] at hc
     split at h
     ·rename_i cs hf
      cases h
      obtain ⟨out,h1,h2⟩:=fillS_ok hp1 hp2 (hd.rep n) hf
      have hzl:zv.cells.toList.length=ie.size:=by rw [Array.length_toList];exact hsz
      have hrow:=rep_eq zv.cells.toList n (by omega)
      rw [hzl] at hrow
      by_cases h0:n=0
      ·subst h0
       refine ⟨_,_,out.toList,fun n'=>.s n' 0 0 0,fun g=>.slice (some ⟨g,0,none⟩) 0 0,rfl,h2,fun w=>?_,fun r2 n' g h9=>by simpa using Den.s (o:=0) (l:=0) (c:=0) h9⟩
       simp only [List.replicate_zero,List.flatten_nil] at h1
       have hA:(Array.map (fun (_:Nat)=>(default:Value)) (Array.range 0))=#[]:=Array.eq_empty_of_size_eq_zero (by simp)
       simp [execOp,ho,Instr.buildSlice,run_underlying hu,sizeOf,typeInfo,hie,hA,h1,newRow]
      ·refine ⟨_,_,out.toList,fun n'=>.s n' 0 n n,fun g=>.slice (some ⟨g,0,none⟩) n n,rfl,h2,fun w=>?_,fun r2 n' g h9=>by simpa using Den.s (o:=0) (l:=n) (c:=n) h9⟩
       refine exec_bslice T n parts.toList (by simpa using ho) _ ?_
       rw [Array.toArray_toList]
       refine run_buildSlice (P:=E.X.P) w T e n _ out ie zv hu hie hzz (by omega) (by intro h9;rcases Nat.mul_eq_zero.1 h9 with h9|h9<;>omega) ?_
       rw [hrow] at h1
       simpa using h1
     ·cases h
    ·rw [Bool.not_eq_true] at hc
     rw [hc] at h;simp at h
   ·cases h
  ·cases h
 |makeSlice T l c =>
  simp only [opS] at h
  split at h
  ·rename_i e ln cn hu hl hc
   obtain ⟨kl,hlv⟩:=asN_ok (ev_ l) hl
   obtain ⟨kc,hcv⟩:=asN_ok (ev_ c) hc
   split at h
   ·rename_i z hz
    obtain ⟨i,zv,hi,hzz,hd,hsz,hrun⟩:=zeroS_ok (r:=r) hz
    have hbe:E.X.P.bytesOf e=i.bytes:=by simp [Program.bytesOf,hi]
    simp only [ble_iff,hbe] at h
    by_cases hcnd:(decide (ln≤cn)&&decide ((1+i.bytes)*cn≤281474976710656))=true
    ·rw [hcnd,cond_true] at h
     cases h
     simp only [Bool.and_eq_true,decide_eq_true_eq] at hcnd
     obtain ⟨h1,h2⟩:=hcnd
     rw [Nat.add_mul,Nat.one_mul] at h2
     have hmade:(madeCells zv.cells (cn*i.size))=((List.replicate cn zv.cells.toList).flatten).toArray:=by
      by_cases h0:0<i.size
      ·rw [rep_eq zv.cells.toList cn (by rw [Array.length_toList];omega),Array.length_toList,hsz]
       simp [madeCells,hsz]
      ·have e1:i.size=0:=by omega
       have e2:zv.cells.toList=[]:=List.eq_nil_of_length_eq_zero (by rw [Array.length_toList];omega)
       rw [e1,e2]
       simp [madeCells]
     refine ⟨_,_,_,fun n'=>.s n' 0 ln cn,fun g=>.slice (some ⟨g,0,none⟩) ln cn,rfl,(hd.rep cn),fun w=>?_,fun r2 n' g h9=>by simpa using Den.s (o:=0) (l:=ln) (c:=cn) h9⟩
     have hr:=run_make_rowN (P:=E.X.P) T e i zv hu hi hzz kl kc ln cn h1 (by omega) (by omega) w
     rw [hmade] at hr
     simp [execOp,ho,hlv,hcv,hr]
    ·rw [Bool.not_eq_true] at hcnd
     rw [hcnd] at h;simp at h
   ·cases h
  ·cases h
 |_=>cases hal
end
def RecOk(X:Ctx)(w0:World)(rec:FuncId→List SV→Tr→Nat→Option (SV×St)):Prop :=
 ∀g args hp nx res st,rec g args hp nx=some (res,st)→∀(E:Env) (r:List Loc) (vals:List Value) (w:World),E.X=X→E.w0=w0→DenL r args vals→Mem E r hp nx w →
  (∀w',(callFunc g vals.toArray).run X.P w'=.ok (.enter g vals.toArray) w')∧Calls X.P g vals.toArray w fun e w'=>∃q v,e=.returned v∧Den (r++q) res v∧Mem E (r++q) st.hp st.nx w'
noncomputable def loudS(X:Ctx)(rec:FuncId→List SV→Tr→Nat→Option (SV×St))(o:Oper)(ts:Sl)(hp:Tr)(nx:Nat):Option (SV×Tr×Nat):=match o.op with
 | .store T x y=>(match ev ts x,(ev ts y).cells,szOf X.P T with
  | .p n i,some cs,some z=>bif Nat.beq (rsize cs) z&&o.dst.isNone then (match writeS hp n i cs with
   |some hp=>some (undefS,hp,nx)
   |none=>none) else none
  |_,_,_=>none)
 | .call c=>(match c.callee with
  | .value f=>(match ev ts f with
   | .f (.func g) a b=>(match rec g (a++(c.args.toList.map (ev ts)++b)) hp nx with
    |some (res,st)=>some (res,st.hp,st.nx)
    |none=>none)
   |_=>none)
  |_=>opS X ⟨ts,hp,nx⟩ o.op o.type)
 |_=>opS X ⟨ts,hp,nx⟩ o.op o.type
section
variable {E:Env}{r:List Loc}{hp hp':Tr}{nx nx':Nat}{ts:Sl}{vs:List Value}{w:World}{o:Oper}{rec:FuncId→List SV→Tr→Nat→Option (SV×St)}
theorem loudS_ok{y:SV}(hrec:RecOk E.X E.w0 rec)(hs:DenS r ts vs)(hm:Mem E r hp nx w)(h:loudS E.X rec o ts hp nx=some (y,hp',nx')){K:Act→World→Prop}{Q:Post}
 (hk:∀q v w',Den (r++q) y v→Mem E (r++q) hp' nx' w'→K ⟨(putL vs o.dst v).toArray,df⟩ w'):o.wp E.X.P ⟨vs.toArray,df⟩ w K Q:=by
 have val:∀{y hp' nx'},opS E.X ⟨ts,hp,nx⟩ o.op o.type=some (y,hp',nx')→(∀q v w',Den (r++q) y v→Mem E (r++q) hp' nx' w'→K ⟨(putL vs o.dst v).toArray,df⟩ w')→o.wp E.X.P ⟨vs.toArray,df⟩ w K Q:=by
  intro y hp' nx' h hk
  obtain ⟨v,w',q,hrun,hd,hm'⟩:=opS_ok (st:=⟨ts,hp,nx⟩) hs hm h
  unfold Oper.wp
  rw [hrun]
  have:=hk q v w' hd hm'
  rw [←put_putL] at this
  exact this
 unfold loudS at h
 split at h
 ·rename_i T x yy ho
  split at h
  ·rename_i n i cs z e1 e2 e3
   simp only [beq_iff] at h
   by_cases hc:(decide (rsize cs=z)&&o.dst.isNone)=true
   ·rw [hc,cond_true] at h
    simp only [Bool.and_eq_true,decide_eq_true_eq] at hc
    obtain ⟨hc1,hc2⟩:=hc
    split at h
    ·rename_i hpw hwr
     cases h
     have h1:=Den.ev (df:=df) hs x
     rw [e1] at h1
     generalize hxv:Act.eval ⟨vs.toArray,df⟩ x=xv at h1
     cases h1 with
     |@p _ _ L hL =>
      obtain ⟨hdc,hlen⟩:=cells_ok (Den.ev (df:=df) hs yy) e2
      obtain ⟨w',hst,hm'⟩:=writeS_ok hm hL hdc hwr
      unfold Oper.wp
      have hrun:(execOp (Act.eval ⟨vs.toArray,df⟩) o).run E.X.P w=.ok .skip w':=by
       have hsz:¬ ((Act.eval ⟨vs.toArray,df⟩ yy).cells.size≠z):=by rw [←Array.length_toList,hlen,hc1];simp
       simp [execOp,ho,hxv,Instr.storeAt,Instr.sureAddr,storeVar,run_sizeOf e3,hsz,hst]
      rw [hrun]
      have:=hk [] undef w' (.v _) (by rw [List.append_nil];exact hm')
      rw [←put_putL] at this
      exact this
    ·cases h
   ·rw [Bool.not_eq_true] at hc
    rw [hc] at h;simp at h
  ·cases h
 ·rename_i c ho
  split at h
  ·rename_i f hcal
   split at h
   ·rename_i g a b e1
    split at h
    ·rename_i res st hre
     cases h
     have h1:=Den.ev (df:=df) hs f
     rw [e1] at h1
     generalize hfv:Act.eval ⟨vs.toArray,df⟩ f=fv at h1
     cases h1 with
     |@f _ _ _ av bv ha hb2 =>
      have hargs:=DenL.map_ev (r:=r) (ts:=ts) (vs:=vs) (df:=df) (Den.ev hs) c.args.toList
      obtain ⟨hent,hc⟩:=hrec _ _ _ _ _ _ hre E r _ w rfl rfl (DenL.app ha (DenL.app hargs hb2)) hm
      have e2:(av.toArray++c.args.map (Act.eval ⟨vs.toArray,df⟩)++bv.toArray)=(av++(c.args.toList.map (Act.eval ⟨vs.toArray,df⟩)++bv)).toArray:=by apply Array.toList_inj.1;simp
      have hrun:(execOp (Act.eval ⟨vs.toArray,df⟩) o).run E.X.P w=.ok (.enter g (av++(c.args.toList.map (Act.eval ⟨vs.toArray,df⟩)++bv)).toArray) w:=by
       simp only [execOp,ho,resolve,hcal,hfv,Deferred.ofValue,Sem.run_bind,Sem.run_pure,Result.andThen_ok,invoke,e2,hent w]
      unfold Oper.wp
      rw [hrun]
      refine hc.mono fun e w' he=>?_
      obtain ⟨q,v,rfl,hd,hm'⟩:=he
      have:=hk q v w' hd hm'
      rw [←put_putL] at this
      exact this
    ·cases h
   ·cases h
  ·exact val h hk
 ·exact val h hk
end
noncomputable def pureTry(X:Ctx)(ops:Array Oper)(L:Array Bool)(ts:Sl)(hpF:Nat→Tr)(nx:Nat):List Nat→Option (Nat×Oper×SV)
 |[]=>none
 |i::is=>match ops[i]? with
  |some o=>bif Region.free .any ops L i then (match guardS ops ts o.guard with
   |some false=>some (i,o,undefS)
   |some true=>(match pureOp o.op,opS X ⟨ts,hpF i,nx⟩ o.op o.type with
    |true,some r=>some (i,o,r.1)
    |_,_=>pureTry X ops L ts hpF nx is)
   |none=>pureTry X ops L ts hpF nx is) else pureTry X ops L ts hpF nx is
  |none=>pureTry X ops L ts hpF nx is
def isU:SV→Bool
 | .u=>true
 |_=>false
def gdT:Option Bool→Bool
 |some true=>true
 |_=>false
noncomputable def isAl(ops:Array Oper)(ts:Sl)(i:Nat):Bool:=match ops[i]? with
 |some o=>allocOp o.op&&gdT (guardS ops ts o.guard)
 |none=>false
noncomputable def alOk(X:Ctx)(ops:Array Oper)(L:Array Bool)(ts:Sl)(i:Nat):Bool:=Region.free .any ops L i&&(match ops[i]? with
 |some o=>(match o.dst with
  |some d=>isU (nth ts d)
  |none=>false)&&(opS X ⟨ts,.e,0⟩ o.op o.type).isSome
 |none=>false)
def setL(L:Array Bool)(l:List Nat):Array Bool:=l.foldl (fun L i=>L.setIfInBounds i true) L
def stopAt(stop:Nat→Bool):List Nat→Bool
 |[]=>true
 |[c]=>stop c
 |_=>false
noncomputable def anyS(X:Ctx)(rec:FuncId→List SV→Tr→Nat→Option (SV×St))(ops:Array Oper)(stop:Nat→Bool)(hpF:Nat→Tr):Nat→Array Bool→Sl→Tr→Nat→Option (Array Bool×St)
 |0,_,_,_,_=>none
 |m+1,L,ts,hp,nx =>
  bif stopAt stop (Region.ready .any ops L) then some (L,⟨ts,hp,nx⟩) else
  bif ((Region.ready .any ops L).filter (isAl ops ts)).all (alOk X ops L ts) then
   (match pureTry X ops L ts hpF nx (Region.ready .any ops L) with
   |some (i,o,y)=>anyS X rec ops stop hpF m (L.setIfInBounds i true) (putS ts o.dst y) hp nx
   |none=>(match (Region.ready .any ops L).filter (fun i=>!isAl ops ts i) with
    |[c]=>(match ops[c]? with
     |some o=>bif decide (Region.ready .any ops (setL L ((Region.ready .any ops L).filter (isAl ops ts)))=[c]) then (match guardS ops ts o.guard,loudS X rec o ts hp nx with
      |some true,some (y,hp',nx')=>anyS X rec ops stop hpF m (L.setIfInBounds c true) (putS ts o.dst y) hp' nx'
      |_,_=>none) else none
     |none=>none)
    |[]=>(match (Region.ready .any ops L).filter (isAl ops ts) with
     |a::rest=>(match ops[a]? with
      |some o=>bif decide (Region.ready .any ops (setL L rest)=[a]) then (match opS X ⟨ts,hp,nx⟩ o.op o.type with
       |some (y,hp',nx')=>anyS X rec ops stop hpF m (L.setIfInBounds a true) (putS ts o.dst y) hp' nx'
       |none=>none) else none
      |none=>none)
     |[]=>none)
    |_=>none))
  else none
def edgesOf(ops:Array Oper)(c:Nat):List Nat:=match ops[c]? with
 |some o=>(o.after.toList.filter fun e=>Region.binds .any e).map (·.on)
 |none=>[]
noncomputable def bitB(m i:Nat):Bool:=Nat.beq (Nat.land (Nat.shiftRight m i) 1) 1
noncomputable def bitsL(l:List Nat):Nat:=List.rec (motive:=fun _=>Nat) 0 (fun i _ ih=>Nat.lor ih (Nat.pow 2 i)) l
noncomputable def afterM(ops:Array Oper)(c:Nat):Nat:=bitsL (edgesOf ops c)
noncomputable def closB(ops:Array Oper)(i:Nat):Nat→Nat:=Nat.rec (motive:=fun _=>Nat→Nat) (fun acc=>acc) (fun j ih acc=>ih (Bool.rec acc (Nat.lor acc (afterM ops j)) (bitB acc j))) i
theorem bitB_eq(m i:Nat):bitB m i=m.testBit i:=by
 unfold bitB
 rw [show Nat.land (Nat.shiftRight m i) 1=(m >>> i) &&& 1 from rfl,Nat.and_one_is_mod,Nat.shiftRight_eq_div_pow,Nat.testBit_eq_decide_div_mod_eq]
 by_cases h:m / 2 ^ i%2=1
 ·simp [h]
 ·simp only [h,decide_false]
  cases hb:Nat.beq (m / 2 ^ i%2) 1 with
  |false=>rfl
  |true=>exact absurd (Nat.eq_of_beq_eq_true hb) h
theorem bitsL_ok:∀{l:List Nat} {k:Nat},(bitsL l).testBit k=true↔k∈l
 |[],k=>by simp [bitsL]
 |i::l,k=>by
  have e:bitsL (i::l)=bitsL l ||| 2 ^ i:=rfl
  rw [e,Nat.testBit_or,Bool.or_eq_true,bitsL_ok,Nat.testBit_two_pow,List.mem_cons,decide_eq_true_eq]
  constructor
  ·rintro (h|h)
   ·exact .inr h
   ·exact .inl h.symm
  ·rintro (h|h)
   ·exact .inr h.symm
   ·exact .inl h
theorem afterM_ok{ops:Array Oper}{c k:Nat}:(afterM ops c).testBit k=true↔∃o e,ops[c]?=some o∧e∈o.after∧Region.binds .any e=true∧e.on=k:=by
 unfold afterM
 rw [bitsL_ok]
 unfold edgesOf
 split
 ·rename_i o ho
  simp only [List.mem_map,List.mem_filter,Array.mem_toList_iff]
  constructor
  ·rintro ⟨e,⟨h1,h2⟩,h3⟩;exact ⟨o,e,ho,h1,h2,h3⟩
  ·rintro ⟨o',e,h0,h1,h2,h3⟩;rw [ho] at h0;cases h0;exact ⟨e,⟨h1,h2⟩,h3⟩
 ·rename_i hn
  constructor
  ·intro h;cases h
  ·rintro ⟨o',e,h0,_⟩;rw [hn] at h0;cases h0
noncomputable def cN(ops:Array Oper)(tab:List (Nat×Nat))(n c:Nat):Bool:=match ops[c]? with
 |some o=>!pureOp o.op&&(!allocOp o.op&&(o.guard.isNone&&tab.all fun x=>!Nat.beq x.2 n || bitB (closB ops (c+1) (Nat.pow 2 c)) x.1))
 |none=>false
end Go.Proofs.YtjboelhcieepkaaGreatDoor
