/-
  Regions that draw their order: what the symbolic machine tells of them holds whatever the order.
-/
import Derived.Test.YtjboelhcieepkaaGreatDoorZ6
namespace Go.Proofs.YtjboelhcieepkaaGreatDoor
set_option maxRecDepth 16384
open Go.RowKit
variable {df:List Deferred}
def PanicOk(Q:Post):Prop:=∀c a (d:Option Tmp) (v:Value) w,Q (.panic c) (a.put d v) w→Q (.panic c) a w
structure Pend where
 i:Nat
 o:Oper
 d:Tmp
 g:Nat
 T:TypeId
 us:List Value
 vf:Nat→Value
def LP(L:Array Bool)(P:List Pend):Array Bool:=(L.toList.zipIdx.map fun x=>x.1 || P.any (fun q=>q.i==x.2)).toArray
theorem LP_get(L:Array Bool)(P:List Pend)(j:Nat):(LP L P)[j]?=(L[j]?).map fun b=>b || P.any (fun q=>q.i==j):=by
 simp [LP,List.getElem?_zipIdx]
 cases L[j]?<;>simp
theorem LP_nil(L:Array Bool):LP L []=L:=by
 apply Array.ext_getElem?
 intro j
 rw [LP_get]
 cases L[j]?<;>simp
theorem LP_set(L:Array Bool)(P:List Pend)(i:Nat):(LP L P).setIfInBounds i true=LP (L.setIfInBounds i true) P:=by
 apply Array.ext_getElem?
 intro j
 rw [Array.getElem?_setIfInBounds,LP_get,LP_get,Array.getElem?_setIfInBounds]
 have hsz:(LP L P).size=L.size:=by simp [LP]
 rw [hsz]
 by_cases hj:i=j
 ·subst hj
  by_cases hl:i<L.size
  ·simp [hl]
  ·simp [hl]
 ·simp [hj]
theorem LP_cons(L:Array Bool)(P:List Pend)(q:Pend):(LP L P).setIfInBounds q.i true=LP L (q::P):=by
 apply Array.ext_getElem?
 intro j
 rw [Array.getElem?_setIfInBounds,LP_get,LP_get]
 have hsz:(LP L P).size=L.size:=by simp [LP]
 rw [hsz]
 by_cases hj:q.i=j
 ·subst hj
  by_cases hl:q.i<L.size
  ·simp [hl]
  ·simp [hl]
 ·have h2:(q.i==j)=false:=by simp [hj]
  simp [hj,h2]
theorem LP_drop(L:Array Bool)(P:List Pend)(i:Nat)(h:∃q∈P,q.i=i):LP L P=LP (L.setIfInBounds i true) (P.filter fun q=>q.i != i):=by
 apply Array.ext_getElem?
 intro j
 rw [LP_get,LP_get,Array.getElem?_setIfInBounds]
 by_cases hj:i=j
 ·subst hj
  have h1:P.any (fun q=>q.i==i)=true:=by
   obtain ⟨q,hq,e⟩:=h
   exact List.any_eq_true.2 ⟨q,hq,by simp [e]⟩
  by_cases hl:i<L.size
  ·simp [hl,h1]
  ·simp [hl]
 ·have h1:(P.filter fun q=>q.i != i).any (fun q=>q.i==j)=P.any (fun q=>q.i==j):=by
   rw [List.any_filter]
   congr 1
   funext q
   by_cases hq:q.i=j
   ·subst hq;simp [Ne.symm hj]
   ·simp [hq]
  simp [hj,h1]
theorem LP_getD(L:Array Bool)(P:List Pend)(j:Nat)(d:Bool)(h:(LP L P).getD j d=false)(hd:d=true∨j<L.size):L.getD j d=false∧∀q∈P,q.i≠j:=by
 rw [Array.getD_eq_getD_getElem?,LP_get] at h
 rw [Array.getD_eq_getD_getElem?]
 cases hq:L[j]? with
 |none =>
  rw [hq] at h
  simp at h
  rcases hd with rfl|hd
  ·cases h
  ·rw [Array.getElem?_eq_none_iff] at hq;omega
 |some b =>
  rw [hq] at h
  simp at h
  exact ⟨by simpa using h.1,fun q hqm e=>h.2 q hqm e⟩
def unl(A:Array Bool):Nat:=(A.toList.filter fun b=>!b).length
theorem unl_set{A:Array Bool}{i:Nat}(h:A[i]?=some false):unl (A.setIfInBounds i true)+1=unl A:=by
 unfold unl
 rw [Array.toList_setIfInBounds]
 have h':A.toList[i]?=some false:=by simpa using h
 clear h
 generalize A.toList=l at h' ⊢
 induction l generalizing i with
 |nil=>simp at h'
 |cons b l ih =>
  cases i with
  |zero=>simp at h';subst h';simp
  |succ i =>
   simp at h'
   have:=ih h'
   cases b<;>simp<;>omega
section
variable {X:Ctx}{E:Env}{r:List Loc}{hp:Tr}{nx:Nat}{ts:Sl}{vs:List Value}{w w':World}{ops:Array Oper}{L:Array Bool}
structure Pok(df:List Deferred)(E:Env)(ops:Array Oper)(L:Array Bool)(vs:List Value)(hp:Tr)(r:List Loc)(w:World)(q:Pend):Prop where
 hop:ops[q.i]?=some q.o
 hd:q.o.dst=some q.d
 hal:allocOp q.o.op=true
 hrd:q.i∈Region.ready .any ops L
 hsl:q.d<vs.length→vs.getD q.d undef=q.vf q.g
 hrun:∀w':World,(execOp (Act.eval ⟨vs.toArray,df⟩) q.o).run E.X.P w'=.ok (.value (q.vf w'.heap.size)) (w'.alloc (.cells q.us.toArray q.T))
 hblk:Blk w q.g q.T q.us.toArray
 hge:E.w0.heap.size≤q.g
 hU:¬ E.U q.g
 hR:¬ E.R q.g
 hfar:∀n b M,hp.get n=some b→r[n]?=some M→¬ Cov b M q.g
theorem Pok.put0{q:Pend}(h:Pok df E ops L vs hp r w q){i:Nat}{o:Oper}(hi:ops[i]?=some o)(hir:i∈Region.ready .any ops L)(hne:i≠q.i)(hfree:Region.free .any ops L q.i=true)(hsel:Region.noSelect ops=true)(v:Value):Pok df E ops L (putL vs o.dst v) hp r w q:=by
 have hun:L.getD q.i true=false:=(mem_ready.1 h.hrd).1
 obtain ⟨hiun,o',ho',hall⟩:=mem_ready.1 hir
 rw [hi] at ho';cases ho'
 have hno:∀e∈o.after,Region.binds .any e=true→e.on≠q.i:=fun e he hb heq=>by
  have h1:=hall e he hb
  rw [heq] at h1
  rcases Nat.lt_or_ge q.i L.size with h'|h'
  ·simp [h'] at hun h1;rw [hun] at h1;cases h1
  ·simp [Array.getElem?_eq_none h'] at h1
 have hap:=Region.free_spec h.hop hfree i o hi hne hiun hno
 obtain ⟨h1,h2,h3⟩:=Oper.apart_spec hap
 refine { h with hsl:=fun hl=>?_,hrun:=fun w'=>?_ }
 ·obtain hd|⟨d,hd⟩:o.dst=none∨∃d,o.dst=some d:=by cases o.dst<;>simp
  ·rw [hd] at hl ⊢;exact h.hsl hl
  ·rw [hd] at hl ⊢
   have hne2:d≠q.d:=fun e=>h2 q.d h.hd (by rw [hd,e])
   simp only [putL,List.length_set] at hl ⊢
   rw [List.getD_eq_getElem?_getD,List.getElem?_set_ne hne2,←List.getD_eq_getElem?_getD]
   exact h.hsl hl
 ·have e:=execOp_put q.o (fun cs b=>Region.noSelect_spec hsel q.i q.o cs b h.hop) ⟨vs.toArray,df⟩ o.dst v (fun d hd=>h3 d hd)
  rw [put_putL] at e
  rw [e]
  exact h.hrun w'
theorem nth_ne{ts:Sl}{d j:Nat}(y:SV)(h:d≠j):nth (setN ts d y) j=nth ts j:=by
 show Option.rec (motive:=fun _=>SV) undefS (fun x=>x) ((Bool.rec ⟨ts.t.put d y,ts.n⟩ ts (Nat.ble ts.n d):Sl).t.get j)=Option.rec (motive:=fun _=>SV) undefS (fun x=>x) (ts.t.get j)
 cases Nat.ble ts.n d with
 |true=>rfl
 |false =>
  show Option.rec (motive:=fun _=>SV) undefS (fun x=>x) ((ts.t.put d y).get j)=_
  rw [Tri.get_put,if_neg (Ne.symm h)]
theorem guardS_put{o:Oper}{dst:Option Tmp}{y:SV}(h:∀d,dst=some d→d ∉ o.looksAt ops):guardS ops (putS ts dst y) o.guard=guardS ops ts o.guard:=by
 cases dst with
 |none=>rfl
 |some d =>
  have hd:=h d rfl
  unfold Oper.looksAt at hd
  unfold guardS
  cases hg:o.guard with
  |none=>rfl
  |some q =>
   obtain ⟨j,b⟩:=q
   rw [hg] at hd
   simp only
   cases ho:ops[j]? with
   |none=>rfl
   |some o2 =>
    simp only
    cases hd2:o2.dst with
    |none=>rfl
    |some d2 =>
     simp only
     have hne:d≠d2:=fun e=>hd (List.mem_append_right _ (by simp [ho,hd2,e]))
     rw [show nth (putS ts (some d) y) d2=nth ts d2 from nth_ne y hne]
theorem Pok.gput{q:Pend}(h:Pok df E ops L vs hp r w q){i:Nat}{o:Oper}(hi:ops[i]?=some o)(hir:i∈Region.ready .any ops L)(hne:i≠q.i)(hfree:Region.free .any ops L q.i=true)(y:SV)(hg:guardS ops ts q.o.guard=some true):guardS ops (putS ts o.dst y) q.o.guard=some true:=by
 have hun:L.getD q.i true=false:=(mem_ready.1 h.hrd).1
 obtain ⟨hiun,o',ho',hall⟩:=mem_ready.1 hir
 rw [hi] at ho';cases ho'
 have hno:∀e∈o.after,Region.binds .any e=true→e.on≠q.i:=fun e he hb heq=>by
  have h1:=hall e he hb
  rw [heq] at h1
  rcases Nat.lt_or_ge q.i L.size with h'|h'
  ·simp [h'] at hun h1;rw [hun] at h1;cases h1
  ·simp [Array.getElem?_eq_none h'] at h1
 have hap:=Region.free_spec h.hop hfree i o hi hne hiun hno
 obtain ⟨h1,h2,h3⟩:=Oper.apart_spec hap
 rw [guardS_put h3,hg]
theorem Pok.put{q:Pend}(h:Pok df E ops L vs hp r w q){i:Nat}{o:Oper}(hi:ops[i]?=some o)(hir:i∈Region.ready .any ops L)(hne:i≠q.i)(hfree:Region.free .any ops L q.i=true)(hsel:Region.noSelect ops=true)(v:Value):Pok df E ops (L.setIfInBounds i true) (putL vs o.dst v) hp r w q :=
 { h.put0 hi hir hne hfree hsel v with hrd:=ready_mono h.hrd (Ne.symm hne) }
theorem DenS.hide{d:Nat}(h:DenS r ts vs)(hu:isU (Go.Proofs.YtjboelhcieepkaaGreatDoor.nth ts d)=true)(v:Value):DenS r ts (vs.set d v):=by
 refine ⟨by simp [h.1],fun i=>?_⟩
 by_cases hi:i=d
 ·subst hi
  cases hq:Go.Proofs.YtjboelhcieepkaaGreatDoor.nth ts i<;>rw [hq] at hu<;>first|exact .u _|cases hu
 ·rw [List.getD_eq_getElem?_getD,List.getElem?_set_ne (Ne.symm hi),←List.getD_eq_getElem?_getD]
  exact h.2 i
theorem DenS.tell{d:Nat}{y:SV}(h:DenS r ts vs)(hy:d<vs.length→Den r y (vs.getD d undef)):DenS r (setN ts d y) vs:=by
 by_cases hd:d<vs.length
 ·have:=h.set d (hy hd)
  have e:vs.set d (vs.getD d undef)=vs:=by
   apply List.ext_getElem?
   intro j
   by_cases hj:d=j
   ·subst hj;simp [hd,List.getD_eq_getElem?_getD]
   ·rw [List.getElem?_set_ne hj]
  rwa [e] at this
 ·have e:setN ts d y=ts:=by
   show Bool.rec (motive:=fun _=>Sl) ⟨ts.t.put d y,ts.n⟩ ts (Nat.ble ts.n d)=ts
   rw [ble_iff]
   have:=h.1
   simp [show ts.n≤d by omega]
  rw [e];exact h
theorem Mem.frame(hm:Mem E r hp nx w){P:List Pend}(hP:∀q∈P,Pok df E ops L vs hp r w q):Mem { E with wU:=w,U:=fun k=>E.U k∨∃q∈P,q.g=k } r hp nx w:=by
 refine { hm with blk:=hm.blk,fz:=fun k hk=>⟨?_,rfl⟩,far:=fun n b M hn hk hM k hc hu=>?_,up:=Nat.le_refl _,rlt:=fun k hk=>.inl (hm.rlt k hk) }
 ·rcases hk with hk|⟨q,hq,rfl⟩
  ·exact Nat.lt_of_lt_of_le (hm.fz k hk).1 hm.up
  ·exact (hP q hq).hblk.lt
 ·rcases hu with hu|⟨q,hq,e⟩
  ·exact hm.far n b M hn hk hM k hc hu
  ·exact (hP q hq).hfar n b M hn hM (e▸hc)
theorem BlkOk.env{E E':Env}(hX:E'.X=E.X)(h0:E'.w0=E.w0){M:Loc}{b:HB}(h:BlkOk E r M b w):BlkOk E' r M b w:=by
 unfold BlkOk LpOk at *
 rw [hX,h0]
 exact h
theorem Mem.unframe(hm:Mem E r hp nx w){P:List Pend}{r':List Loc}{hp':Tr}{nx':Nat}(hm':Mem { E with wU:=w,U:=fun k=>E.U k∨∃q∈P,q.g=k } r' hp' nx' w'):Mem E r' hp' nx' w':=by
 refine { hm' with blk:=hm'.blk,fz:=fun k hk=>⟨(hm.fz k hk).1,(hm'.fz k (.inl hk)).2.trans (hm.fz k hk).2⟩,far:=fun n b M hn hk hM k hc hu=>hm'.far n b M hn hk hM k hc (.inl hu),up:=Nat.le_trans hm.up hm'.up,rlt:=hm.rlt }
theorem Pok.moved{P:List Pend}{q:Pend}(h:Pok df E ops L vs hp r w q)(hq:q∈P){r':List Loc}{hp':Tr}{nx':Nat}(hm':Mem { E with wU:=w,U:=fun k=>E.U k∨∃q∈P,q.g=k } r' hp' nx' w'):Pok df E ops L vs hp' r' w' q:=by
 refine { h with hblk:=(hm'.fz q.g (.inr ⟨q,hq,rfl⟩)).2.trans h.hblk,hfar:=fun n b M hn hM e=>?_ }
 by_cases hk:b.k<2
 ·exact hm'.far n b M hn (.inl hk) hM _ e (.inr ⟨q,hq,rfl⟩)
 by_cases hk5:5≤b.k
 ·exact hm'.far n b M hn (.inr hk5) hM _ e (.inr ⟨q,hq,rfl⟩)
 ·rcases hm'.old n b M hn (by omega) (by omega) hM with h1|h1
  ·have:=h.hge
   rw [←e.eq (by omega)] at h1
   exact absurd h1 (by show ¬ q.g<E.w0.heap.size;omega)
  ·rw [←e.eq (by omega)] at h1
   exact h.hR h1
theorem Mem.name(hm:Mem E r hp nx w){q:Pend}(h:Pok df E ops L vs hp r w q){cs:Rp SV}(hd:DenC r cs q.us):Mem E (r++[⟨q.g,0,0,none,fun _=>False⟩]) (hp.put nx ⟨q.T,cs,0⟩) (nx+1) w:=by
 have hnew:(r++[(⟨q.g,0,0,none,fun _=>False⟩:Loc)])[nx]?=some ⟨q.g,0,0,none,fun _=>False⟩:=by rw [←hm.len];simp
 have old:∀n b',(hp.put nx ⟨q.T,cs,0⟩).get n=some b'→n≠nx→hp.get n=some b'∧n<r.length:=by
  intro n b' hn hne
  rw [Tre.get_put,if_neg hne] at hn
  obtain ⟨M,hM,_⟩:=hm.blk n b' hn
  exact ⟨hn,get_lt hM⟩
 refine ⟨by simp [hm.len],fun n b' hn=>?_,fun n m b1 c1 L1 M1 hn hm1 hne hk1 hL1 hM1 k hc1 hc2=>?_,hm.below,hm.fz,fun n b' M hn hk' hM k hc hu=>?_,hm.up,fun n b' M hn hk' hk5 hM=>?_,hm.rlt,hm.glob⟩
 ·by_cases hne:n=nx
  ·subst hne
   rw [Tre.get_put,if_pos rfl] at hn;cases hn
   exact ⟨_,hnew,q.us,hd.mono _,.inl ⟨rfl,h.hge,rfl,h.hblk⟩⟩
  ·obtain ⟨h1,h2⟩:=old n b' hn hne
   obtain ⟨M,hM,hk'⟩:=hm.blk n b' h1
   exact ⟨M,get_app _ hM,hk'.move _ (fun _ _=>rfl) (Nat.le_refl _)⟩
 ·by_cases h1:n=nx
  ·subst h1
   rw [hnew] at hL1;cases hL1
   rw [Tre.get_put,if_pos rfl] at hn;cases hn
   obtain ⟨h3,h4⟩:=old m c1 hm1 (Ne.symm hne)
   have e:k=q.g:=hc1.eq (by show 0≠8;decide)
   exact h.hfar m c1 M1 h3 (get_app_old hM1 h4) (e▸hc2)
  ·obtain ⟨h3,h4⟩:=old n b1 hn h1
   have h5:=get_app_old hL1 h4
   by_cases h2:m=nx
   ·subst h2
    rw [hnew] at hM1;cases hM1
    rw [Tre.get_put,if_pos rfl] at hm1;cases hm1
    have e:k=q.g:=hc2.eq (by show 0≠8;decide)
    exact h.hfar n b1 L1 h3 h5 (e▸hc1)
   ·obtain ⟨h6,h7⟩:=old m c1 hm1 h2
    exact hm.sep n m b1 c1 L1 M1 h3 h6 hne hk1 h5 (get_app_old hM1 h7) k hc1 hc2
 ·by_cases hne:n=nx
  ·subst hne
   rw [hnew] at hM;cases hM
   rw [Tre.get_put,if_pos rfl] at hn;cases hn
   have e:k=q.g:=hc.eq (by show 0≠8;decide)
   exact h.hU (e▸hu)
  ·obtain ⟨h4,h5⟩:=old n b' hn hne
   exact hm.far n b' M h4 hk' (get_app_old hM h5) k hc hu
 ·by_cases hne:n=nx
  ·subst hne
   rw [Tre.get_put,if_pos rfl] at hn;cases hn;exact absurd hk' (by show ¬ 2≤0;decide)
  ·obtain ⟨h4,h5⟩:=old n b' hn hne
   exact hm.old n b' M h4 hk' hk5 (get_app_old hM h5)
def SR(E:Env):World→Prop:=fun w=>(∀k,E.U k→w.heap[k]?=E.wU.heap[k]?)∧E.wU.heap.size≤w.heap.size∧Below E.w0.heap.size E.w0 w
theorem Mem.sr(hm:Mem E r hp nx w):SR E w:=⟨fun k hk=>(hm.fz k hk).2,hm.up,hm.below⟩
def RoT(T:World→Prop)(r:List Loc)(hpL:Tr):Prop:=∀n b,hpL.get n=some b→∃M vs,r[n]?=some M∧DenC r b.cs vs∧∀w',T w'→∀j v,vs[j]?=some v→w'.cell? ⟨M.g,M.b+j,none⟩=some v
theorem RoT.mono{T:World→Prop}{hpL:Tr}(h:RoT T r hpL)(q:List Loc):RoT T (r++q) hpL:=fun n b hn=>by
 obtain ⟨M,vs,h1,h2,h3⟩:=h n b hn
 exact ⟨M,vs,get_app q h1,h2.mono q,h3⟩
theorem ro_load{T_:World→Prop}{hpL:Tr}(h:RoT T_ r hpL)(hTB:∀w,T_ w→Below E.w0.heap.size E.w0 w)(hg:∀g cs,E.X.G g=some cs→∃vs,DenC [] cs vs∧g<E.w0.heap.size∧∀j v,vs[j]?=some v→E.w0.cell? ⟨g,j,none⟩=some v)(T:TypeId)(x y:SV)(v:Value)(hx:Den r x v)(hl:loadS E.X hpL T x=some y):
 ∃u,(∀w,T_ w→(Instr.loadAt T v).run E.X.P w=.ok u w)∧Den r y u:=by
 have uni:∀{T:TypeId} {cs:Rp SV} {vs:List Value} {o g b:Nat} {y:SV} {S:World→Prop},DenC r cs vs→(∀w',S w'→∀j v,vs[j]?=some v→w'.cell? ⟨g,b+j,none⟩=some v)→ofElem E.X.P T cs o=some y→∃u,(∀w,S w→(loadVar T ⟨g,b+o,none⟩).run E.X.P w=.ok u w)∧Den r y u:=by
  intro T cs vs o g b y S hd hc h
  have hh:=h
  unfold ofElem at hh
  split at hh
  ·rename_i n hr hz
   split at hh
   ·rename_i c hcs
    cases hh
    obtain ⟨h1,h2⟩:=hd.sub hcs
    refine ⟨_,fun w hw=>?_,.a h1⟩
    have hl:=run_loadCells_list (P:=E.X.P) (w:=w) ⟨g,b+o,none⟩ ((vs.drop o).take n) (fun j v hv=>by rw [add_none,Nat.add_assoc];exact hc w hw _ v (sub_get hv))
    have e:((vs.drop o).take n).length=n:=by simp;omega
    rw [e] at hl
    simp [loadVar,run_isAgg_true hr,run_sizeOf hz,hl]
   ·cases hh
  ·rename_i n hr hz
   obtain ⟨v,hv,hdv⟩:=hd.get hh
   refine ⟨v,fun w hw=>?_,hdv⟩
   have:=hc w hw o v hv
   simp [loadVar,run_isAgg_false hr,load,Sem.run,this]
  ·cases hh
 unfold loadS at hl
 split at hl
 ·rename_i n o
  cases hx with
  |@p _ _ M hM =>
   split at hl
   ·rename_i b hb
    obtain ⟨M',vs,h1,h2,h3⟩:=h n b hb
    rw [hM] at h1;cases h1
    obtain ⟨u,hu,hy⟩:=uni h2 h3 hl
    exact ⟨u,fun w hw=>by simp [Instr.loadAt,Instr.sureAddr,hu w hw],hy⟩
   ·cases hl
 ·rename_i g o
  cases hx
  split at hl
  ·rename_i cs hG
   obtain ⟨vs,hd,hlt,hc⟩:=hg g cs hG
   have hc2:∀w',T_ w'→∀j v,vs[j]?=some v→w'.cell? ⟨g,0+j,none⟩=some v:=fun w' hw j v hv=>by
    rw [Nat.zero_add]
    exact ((hTB w' hw).cell (p:=⟨g,j,none⟩) hlt).trans (hc j v hv)
   obtain ⟨u,hu,hy⟩:=uni (b:=0) (by have:=hd.mono r;simpa using this) hc2 hl
   simp only [Nat.zero_add] at hu
   exact ⟨u,fun w hw=>by simp [Instr.loadAt,Instr.sureAddr,hu w hw],hy⟩
  ·cases hl
 ·cases hl
theorem pureTry_ok{hpF:Nat→Tr}:∀{l:List Nat} {i:Nat} {o:Oper} {y:SV},pureTry X ops L ts hpF nx l=some (i,o,y)→i∈l∧ops[i]?=some o∧Region.free .any ops L i=true ∧
 ((guardS ops ts o.guard=some false∧y=undefS)∨(guardS ops ts o.guard=some true∧pureOp o.op=true∧∃res,opS X ⟨ts,hpF i,nx⟩ o.op o.type=some res∧res.1=y))
 |[],i,o,y,h=>by simp [pureTry] at h
 |j::l,i,o,y,h=>by
  have rec_:pureTry X ops L ts hpF nx l=some (i,o,y)→_:=fun h=>by
   obtain ⟨h1,h2⟩:=pureTry_ok h
   exact (⟨List.mem_cons_of_mem _ h1,h2⟩:i∈j::l∧_)
  unfold pureTry at h
  split at h
  ·rename_i o' ho
   cases hf:Region.free .any ops L j with
   |false=>rw [hf,cond_false] at h;exact rec_ h
   |true =>
    rw [hf,cond_true] at h
    split at h
    ·rename_i hgd
     simp only [Option.some.injEq,Prod.mk.injEq] at h
     obtain ⟨rfl,rfl,rfl⟩:=h
     exact ⟨by simp,ho,hf,.inl ⟨hgd,rfl⟩⟩
    ·rename_i hgd
     split at h
     ·rename_i res hpu hop
      simp only [Option.some.injEq,Prod.mk.injEq] at h
      obtain ⟨rfl,rfl,rfl⟩:=h
      exact ⟨by simp,ho,hf,.inr ⟨hgd,hpu,res,hop,rfl⟩⟩
     ·exact rec_ h
    ·exact rec_ h
  ·exact rec_ h
theorem free_mono{md:Region.Mode}{L L':Array Bool}{i:Nat}(h:Region.free md ops L i=true)(hl:∀j,L.getD j true=true→L'.getD j true=true):Region.free md ops L' i=true:=by
 unfold Region.free at *
 split at h
 ·cases h
 ·rw [List.all_eq_true] at h ⊢
  intro j hj
  have:=h j hj
  simp only [Bool.or_eq_true] at this ⊢
  rcases this with (h1|h1)|h1
  ·exact .inl (.inl h1)
  ·exact .inl (.inr (hl j h1))
  ·exact .inr h1
theorem setL_get:∀(l:List Nat) (L:Array Bool) (j:Nat),(setL L l)[j]?=(L[j]?).map fun b=>b || l.contains j
 |[],L,j=>by simp [setL]
 |i::l,L,j=>by
  have ih:=setL_get l (L.setIfInBounds i true) j
  have e:setL L (i::l)=setL (L.setIfInBounds i true) l:=rfl
  rw [e,ih,Array.getElem?_setIfInBounds]
  by_cases hj:i=j
  ·subst hj
   by_cases hl:i<L.size
   ·simp [hl]
   ·simp [hl]
  ·have h2:(j==i)=false:=by simp [Ne.symm hj]
   have h3:decide (j=i)=false:=by simp [Ne.symm hj]
   simp [hj,h3]
theorem ready_LP{P:List Pend}{al:List Nat}(hsub:∀q∈P,q.i∈al){j:Nat}(hj:j∈Region.ready .any ops (LP L P))(hL:L.size=ops.size):(∀q∈P,q.i≠j)∧(j∈al∨j∈Region.ready .any ops (setL L al)):=by
 obtain ⟨hun,o,ho,hall⟩:=mem_ready.1 hj
 have hjs:j<L.size:=by rw [hL];exact (Array.getElem?_eq_some_iff.1 ho).1
 obtain ⟨h1,h2⟩:=LP_getD L P j true hun (.inl rfl)
 refine ⟨h2,?_⟩
 by_cases hjal:j∈al
 ·exact .inl hjal
 ·refine .inr (mem_ready.2 ⟨?_,o,ho,fun e he hb=>?_⟩)
  ·rw [Array.getD_eq_getD_getElem?,setL_get]
   rw [Array.getD_eq_getD_getElem?] at h1
   cases hq:L[j]? with
   |none=>rw [hq] at h1;simp at h1
   |some b=>rw [hq] at h1;simp at h1;subst h1;simp [hjal]
  ·have:=hall e he hb
   rw [Array.getD_eq_getD_getElem?,LP_get] at this
   rw [Array.getD_eq_getD_getElem?,setL_get]
   cases hq:L[e.on]? with
   |none=>rw [hq] at this;simp at this
   |some b =>
    rw [hq] at this
    simp at this
    simp
    rcases this with h3|⟨q,hq1,hq2⟩
    ·exact .inl h3
    ·exact .inr (by rw [←hq2];exact hsub q hq1)
end
section
variable {E:Env}{ops:Array Oper}{rec:FuncId→List SV→Tr→Nat→Option (SV×St)}{hpF:Nat→Tr}{T:Nat→World→Prop}{Q:Post}{r0:List Loc}
theorem isAl_ok{ops:Array Oper}{ts:Sl}{i:Nat}(h:isAl ops ts i=true):∃o,ops[i]?=some o∧allocOp o.op=true∧guardS ops ts o.guard=some true:=by
 unfold isAl at h
 split at h
 ·rename_i o ho
  rw [Bool.and_eq_true] at h
  refine ⟨o,ho,h.1,?_⟩
  have h2:=h.2
  unfold gdT at h2
  split at h2
  ·assumption
  ·cases h2
 ·cases h
theorem alOk_ok{X:Ctx}{L:Array Bool}{ts:Sl}{i:Nat}(h:alOk X ops L ts i=true):Region.free .any ops L i=true∧∃o d res,ops[i]?=some o∧o.dst=some d∧isU (nth ts d)=true∧opS X ⟨ts,.e,0⟩ o.op o.type=some res:=by
 unfold alOk at h
 rw [Bool.and_eq_true] at h
 obtain ⟨h1,h2⟩:=h
 refine ⟨h1,?_⟩
 split at h2
 ·rename_i o ho
  rw [Bool.and_eq_true] at h2
  obtain ⟨h3,h4⟩:=h2
  split at h3
  ·rename_i d hd
   obtain ⟨res,hres⟩:=Option.isSome_iff_exists.1 h4
   exact ⟨o,d,res,ho,hd,h3,hres⟩
  ·cases h3
 ·cases h2
theorem pure_not_alloc{o:Op}(h:allocOp o=true):pureOp o=false:=by cases o<;>first|rfl|cases h
theorem getD_some{A:Array Bool}{i:Nat}(h:A.getD i true=false):A[i]?=some false:=by
 rw [Array.getD_eq_getD_getElem?] at h
 cases hq:A[i]? with
 |none=>rw [hq] at h;cases h
 |some b=>rw [hq] at h;simpa using h
theorem LP_ready{L:Array Bool}{P:List Pend}{i:Nat}(h:i∈Region.ready .any ops L)(hne:∀q∈P,q.i≠i):i∈Region.ready .any ops (LP L P):=by
 obtain ⟨hun,o,ho,hall⟩:=mem_ready.1 h
 refine mem_ready.2 ⟨?_,o,ho,fun e he hb=>?_⟩
 ·rw [Array.getD_eq_getD_getElem?,LP_get,getD_some hun]
  simp
  exact hne
 ·have:=hall e he hb
  rw [Array.getD_eq_getD_getElem?] at this
  rw [Array.getD_eq_getD_getElem?,LP_get]
  cases hq:L[e.on]? with
  |none=>rw [hq] at this;simp at this
  |some b=>rw [hq] at this;simp at this;simp [this]
theorem LP_le{L:Array Bool}{P:List Pend}(j:Nat)(h:L.getD j true=true):(LP L P).getD j true=true:=by
 rw [Array.getD_eq_getD_getElem?] at h
 rw [Array.getD_eq_getD_getElem?,LP_get]
 cases hq:L[j]? with
 |none=>simp
 |some b=>rw [hq] at h;simp at h;simp [h]
theorem al_same{P:Program}{a:Act}{o:Oper}{us us':List Value}{T T':TypeId}{vf vf':Nat→Value}(w:World)
 (h1:∀w:World,(execOp a.eval o).run P w=.ok (.value (vf w.heap.size)) (w.alloc (.cells us.toArray T)))
 (h2:∀w:World,(execOp a.eval o).run P w=.ok (.value (vf' w.heap.size)) (w.alloc (.cells us'.toArray T'))):us=us'∧T=T'∧vf=vf':=by
 have key:∀w:World,(vf w.heap.size=vf' w.heap.size)∧(w.alloc (.cells us.toArray T)=w.alloc (.cells us'.toArray T')):=fun w=>by
  have:=(h1 w).symm.trans (h2 w)
  simp only [Result.ok.injEq,Next.value.injEq] at this
  exact this
 have h3:=(key w).2
 have h4:(w.alloc (.cells us.toArray T)).heap[w.heap.size]?=(w.alloc (.cells us'.toArray T')).heap[w.heap.size]?:=by rw [h3]
 rw [heap_alloc_new,heap_alloc_new] at h4
 simp at h4
 refine ⟨h4.1,h4.2,?_⟩
 funext k
 have:=(key { w with heap:=Array.replicate k (.cells #[] 0) }).1
 simpa using this
theorem Pok.grow{L:Array Bool}{vs:List Value}{hp:Tr}{r:List Loc}{w w':World}{q:Pend}(h:Pok df E ops L vs hp r w q)(hb:Below w.heap.size w w'):Pok df E ops L vs hp r w' q :=
 { h with hblk:=(hb.block q.g h.hblk.lt).trans h.hblk }
def Clo(ops:Array Oper)(M:Array Bool):Prop:=∀k o,ops[k]?=some o→M.getD k false=true→∀e∈o.after,Region.binds .any e=true→M.getD e.on false=true
theorem getD_conv{M:Array Bool}{k:Nat}(h:k<M.size):M.getD k true=M.getD k false:=by simp [h]
theorem Clo.set{M:Array Bool}{j:Nat}(h:Clo ops M)(hj:j∈Region.ready .any ops M):Clo ops (M.setIfInBounds j true):=by
 intro k o hk hM e he hb
 by_cases hkj:j=k
 ·subst hkj
  obtain ⟨_,o',ho',hall⟩:=mem_ready.1 hj
  rw [hk] at ho';cases ho'
  exact getD_set_true (hall e he hb)
 ·rw [getD_set_ne false hkj] at hM
  exact getD_set_true (h k o hk hM e he hb)
def wpAnyV(P:Program)(ops:Array Oper)(Q:Post)(S:Array Bool→World→Prop):Nat→Array Bool→Act→World→Prop
 |0,L,a,w=>Region.ready .any ops L=[]∧Q .normal a w
 |f+1,L,a,w=>(Region.ready .any ops L=[]→Q .normal a w) ∧
  ∀i∈Region.ready .any ops L,wpOp P ops Q i (fun a' w'=>S (L.setIfInBounds i true) w'∧wpAnyV P ops Q S f (L.setIfInBounds i true) a' w') a w
section
variable {P:Program}{S:Array Bool→World→Prop}
theorem V_any:∀(f:Nat) (L:Array Bool) (a:Act) (w:World),wpAnyV P ops Q S f L a w→wpAny P .any ops Q f L a w
 |0,_,_,_,h=>h
 |f+1,_,_,_,h=>⟨h.1,fun i hi=>wpOp_mono (fun a' w' h'=>V_any f _ a' w' h'.2) (h.2 i hi)⟩
theorem V_done{L:Array Bool}{a:Act}{w:World}(hr:Region.ready .any ops L=[])(h:Q .normal a w):∀f,wpAnyV P ops Q S f L a w
 |0=>⟨hr,h⟩
 |_+1=>⟨fun _=>h,by rw [hr];simp⟩
theorem V_take{i:Nat}{oi:Oper}{v:Value}{Si:World→Prop}(hi:ops[i]?=some oi)(hs:Region.noSelect ops=true)(hQ:∀c a w,Q (.panic c) (a.put oi.dst v) w→Q (.panic c) a w)
 (hb:∀M w,Clo ops M→i∈Region.ready .any ops M→S M w→Si w) (hc:∀M w,S (M.setIfInBounds i true) w→S M w):∀(f:Nat) (L:Array Bool) (a:Act) (w:World),Clo ops L→Region.free .any ops L i=true→i∈Region.ready .any ops L →
  YieldsIf P ops Si oi v a→Si w→S (L.setIfInBounds i true) w→wpAnyV P ops Q S f (L.setIfInBounds i true) (a.put oi.dst v) w→wpAnyV P ops Q S (f+1) L a w:=by
 have other:∀(f:Nat) (L:Array Bool) (a:Act) (w:World),Clo ops L→Region.free .any ops L i=true→i∈Region.ready .any ops L→YieldsIf P ops Si oi v a →
  ∀j,j∈Region.ready .any ops L→j≠i→∀K,wpOp P ops Q j K (a.put oi.dst v) w→wpOp P ops Q j (fun a' w'=>YieldsIf P ops Si oi v a'∧K (a'.put oi.dst v) w') a w:=by
  intro f L a w hcl hfree hr hy j hj hji K h1
  obtain ⟨hjun,oj,hoj,hall⟩:=mem_ready.1 hj
  have hnot:∀e∈oj.after,Region.binds .any e=true→e.on≠i:=fun e he hb heq=>by
   have h1:=hall e he hb
   have h0:=getD_some (mem_ready.1 hr).1
   rw [heq,Array.getD_eq_getD_getElem?,h0] at h1
   cases h1
  exact wpOp_putIf hoj (Region.free_spec hi hfree j oj hoj hji hjun hnot) (fun cs b=>Region.noSelect_spec hs i oi cs b hi) (fun cs b=>Region.noSelect_spec hs j oj cs b hoj) hQ hy h1
 intro f
 induction f with
 |zero =>
  intro L a w hcl hfree hr hy hSi hS H
  refine ⟨fun h=>(by rw [h] at hr;cases hr),fun j hj=>?_⟩
  by_cases hji:j=i
  ·subst hji;exact hy.wpOp hi hSi ⟨hS,H⟩
  ·have:=ready_mono hj hji
   rw [H.1] at this
   cases this
 |succ f ih =>
  intro L a w hcl hfree hr hy hSi hS H
  refine ⟨fun h=>(by rw [h] at hr;cases hr),fun j hj=>?_⟩
  by_cases hji:j=i
  ·subst hji;exact hy.wpOp hi hSi ⟨hS,H⟩
  ·have h1:=H.2 j (ready_mono hj hji)
   refine wpOp_mono (fun a' w' h3=>?_) (other f L a w hcl hfree hr hy j hj hji _ h1)
   obtain ⟨hy',hS',H'⟩:=h3
   rw [Array.setIfInBounds_comm _ _ (Ne.symm hji)] at hS'
   have hSj:=hc _ _ hS'
   have hr':=ready_mono hr (Ne.symm hji)
   refine ⟨hSj,ih _ _ _ (hcl.set hj) (free_mono hfree fun k hk=>?_) hr' hy' (hb _ _ (hcl.set hj) hr' hSj) hS' ?_⟩
   ·by_cases hjk:j=k
    ·subst hjk
     by_cases hl:j<L.size
     ·simp [hl]
     ·simp
    ·rw [getD_set_ne true hjk];exact hk
   ·rw [Array.setIfInBounds_comm _ _ hji];exact H'
end
theorem closB_ok{M:Array Bool}(hcl:Clo ops M):∀(i acc:Nat),(∀k,acc.testBit k=true→M.getD k false=true)→∀k,(closB ops i acc).testBit k=true→M.getD k false=true
 |0,_,h=>h
 |i+1,acc,h=>by
  have e:closB ops (i+1) acc=closB ops i (Bool.rec acc (Nat.lor acc (afterM ops i)) (bitB acc i)):=rfl
  rw [e]
  refine closB_ok hcl i _ fun k hk=>?_
  rw [bitB_eq] at hk
  cases hb:acc.testBit i with
  |false=>rw [hb] at hk;exact h k hk
  |true =>
   rw [hb] at hk
   have hk':(acc ||| afterM ops i).testBit k=true:=hk
   rw [Nat.testBit_or,Bool.or_eq_true] at hk'
   rcases hk' with hk|hk
   ·exact h k hk
   ·obtain ⟨o,e,ho,he,hbd,rfl⟩:=afterM_ok.1 hk
    exact hcl i o ho (h i hb) e he hbd
theorem any_ok(hq:PanicOk Q)(hsel:Region.noSelect ops=true)(hself:∀(i:Nat) (o:Oper) (d:Tmp),ops[i]?=some o→allocOp o.op=true→o.dst=some d→d ∉ o.looksAt ops)(hrec:RecOk E.X E.w0 rec){stop:Nat→Bool}{S:Array Bool→World→Prop}(hstop:∀c ts,stop c=true→isAl ops ts c=false)
 (hTB:∀i w,T i w→Below E.w0.heap.size E.w0 w) (hSb:∀M w i o,ops[i]?=some o→isLd o.op=true→Clo ops M→i∈Region.ready .any ops M→S M w→T i w) (hSc:∀M w i o,ops[i]?=some o→(o.guard≠none∨pureOp o.op=true)→S (M.setIfInBounds i true) w→S M w) :
 ∀(m:Nat) (L:Array Bool) (ts:Sl) (hp:Tr) (nx:Nat) (L':Array Bool) (st':St),anyS E.X rec ops stop hpF m L ts hp nx=some (L',st')→L.size=ops.size →
 (∀M w,(∀k,L.getD k false=true→M.getD k false=true)→(∃j∈Region.ready .any ops L,M.getD j false=true)→SR E w→S M w) →
 (∀M w i o,(∀k,L.getD k false=true→M.getD k false=true)→Clo ops M→ops[i]?=some o→isLd o.op=true→i∈Region.ready .any ops M→SR E w→T i w)→∀(fuel:Nat) (r:List Loc) (vs:List Value) (w:World) (P:List Pend),(∃s,r=r0++s)→DenS r ts vs→Mem E r hp nx w→(∀i,RoT (T i) r (hpF i))→(∀q∈P,Pok df E ops L vs hp r w q)→(∀q∈P,guardS ops ts q.o.guard=some true)→(∀x∈P,∀y∈P,x.i≠y.i→x.g≠y.g)→unl (LP L P)≤fuel→Clo ops (LP L P) →
 (∀r' vs' w' f',(∃s,r'=r0++s)→DenS r' st'.ts vs'→Mem E r' st'.hp st'.nx w'→L'.size=ops.size→unl L'≤f'→Clo ops L'→stopAt stop (Region.ready .any ops L')=true→wpAnyV E.X.P ops Q S f' L' ⟨vs'.toArray,df⟩ w') →
 wpAnyV E.X.P ops Q S fuel (LP L P) ⟨vs.toArray,df⟩ w:=by
 intro m
 induction m with
 |zero=>intro L ts hp nx L' st' h;simp [anyS] at h
 |succ m ihm =>
  intro L ts hp nx L' st' h hL hSa hT fuel
  induction fuel using Nat.strongRecOn with
  |ind fuel ihf =>
   intro r vs w P hr hs hm hro hP hPg hPd hfu hcl hk
   unfold anyS at h
   cases he:stopAt stop (Region.ready .any ops L) with
   |true =>
    rw [he,cond_true] at h
    cases h
    have hP0:P=[]:=List.eq_nil_iff_forall_not_mem.2 fun q hq=>by
     have h1:=(hP q hq).hrd
     unfold stopAt at he
     split at he
     ·rename_i e;rw [e] at h1;cases h1
     ·rename_i c e
      rw [e] at h1
      have h2:q.i=c:=by simpa using h1
      have h3:=hstop c ts he
      have h4:isAl ops ts q.i=true:=by
       unfold isAl
       rw [(hP q hq).hop]
       simp [(hP q hq).hal,hPg q hq,gdT]
      rw [h2,h3] at h4;cases h4
     ·cases he
    subst hP0
    rw [LP_nil] at hcl hfu ⊢
    exact hk r vs w fuel hr hs hm hL hfu hcl he
   |false =>
    rw [he,cond_false] at h
    have hSa2:∀i∈Region.ready .any ops L,∀M w,(∀k,(L.setIfInBounds i true).getD k false=true→M.getD k false=true)→(∃j∈Region.ready .any ops (L.setIfInBounds i true),M.getD j false=true)→SR E w→S M w:=fun i hi M w hM _ hw =>
     hSa M w (fun k hk=>hM k (getD_set_true hk)) ⟨i,hi,hM i (by
      have:i<L.size:=by have:=getD_some (mem_ready.1 hi).1;exact (Array.getElem?_eq_some_iff.1 this).1
      simp [this])⟩ hw
    have hT2:∀i,∀M w i2 o,(∀k,(L.setIfInBounds i true).getD k false=true→M.getD k false=true)→Clo ops M→ops[i2]?=some o→isLd o.op=true→i2∈Region.ready .any ops M→SR E w→T i2 w:=fun i M w i2 o hM=>hT M w i2 o fun k hk=>hM k (getD_set_true hk)
    have hLP:∀k,L.getD k false=true→(LP L P).getD k false=true:=fun k hk=>by
     rw [Array.getD_eq_getD_getElem?] at hk
     rw [Array.getD_eq_getD_getElem?,LP_get]
     cases hq:L[k]? with
     |none=>rw [hq] at hk;simp at hk
     |some b=>rw [hq] at hk;simp at hk;simp [hk]
    have hSe:∀j∈Region.ready .any ops L,∀w,SR E w→S ((LP L P).setIfInBounds j true) w:=fun j hj w hw=>hSa _ w (fun k hk=>getD_set_true (by
     rw [Array.getD_eq_getD_getElem?] at hk
     rw [Array.getD_eq_getD_getElem?,LP_get]
     cases hq:L[k]? with
     |none=>rw [hq] at hk;simp at hk
     |some b=>rw [hq] at hk;simp at hk;simp [hk])) ⟨j,hj,by
     have h1:=getD_some (mem_ready.1 hj).1
     have:j<(LP L P).size:=by
      have h2:=(Array.getElem?_eq_some_iff.1 h1).1
      simpa [LP] using h2
     simp [this]⟩ hw
    cases hal:((Region.ready .any ops L).filter (isAl ops ts)).all (alOk E.X ops L ts) with
    |false=>rw [hal,cond_false] at h;cases h
    |true =>
     rw [hal,cond_true] at h
     have hok:∀i∈Region.ready .any ops L,isAl ops ts i=true→alOk E.X ops L ts i=true:=fun i hi h1=>List.all_eq_true.1 hal i (List.mem_filter.2 ⟨hi,h1⟩)
     have hqal:∀q∈P,isAl ops ts q.i=true:=fun q hq=>by
      have:=hP q hq
      unfold isAl
      rw [this.hop]
      simp [this.hal,hPg q hq,gdT]
     have hqfree:∀q∈P,Region.free .any ops L q.i=true:=fun q hq=>(alOk_ok (hok q.i (hP q hq).hrd (hqal q hq))).1
     have hbs:∀{j:Nat},j∈Region.ready .any ops (LP L P)→∃f,fuel=f+1∧unl ((LP L P).setIfInBounds j true)≤f:=fun {j} hj=>by
      have:=unl_set (getD_some (mem_ready.1 hj).1)
      exact ⟨fuel-1,by omega,by omega⟩
     have early:∀f,fuel=f+1→∀j,j∈Region.ready .any ops (LP L P)→isAl ops ts j=true→j∈Region.ready .any ops L→(∀q∈P,q.i≠j) →
      wpOp E.X.P ops Q j (fun a' w'=>S ((LP L P).setIfInBounds j true) w'∧wpAnyV E.X.P ops Q S f ((LP L P).setIfInBounds j true) a' w') ⟨vs.toArray,df⟩ w:=by
      intro f hf j hj hjal hjr hjP
      obtain ⟨f',hf',hun⟩:=hbs hj
      obtain rfl:f'=f:=by omega
      obtain ⟨hfree,o,d,res,ho,hd,hu,hop⟩:=alOk_ok (hok j hjr hjal)
      obtain ⟨o',ho',hao,hg⟩:=isAl_ok hjal
      rw [ho] at ho';cases ho'
      obtain ⟨T,cs,us,yf,vf,-,hdc,hrun,-⟩:=alS_ok (E:=E) (st:=⟨ts,.e,0⟩) hs hao hop
      unfold wpOp
      have hw:Region.wanted o (yielded ops vs.toArray)=true:=guardS_ok hs hg
      simp only [ho,hw,if_true]
      refine .inl ?_
      unfold Oper.wp
      rw [hrun w]
      show S _ _∧wpAnyV _ _ _ _ _ _ _ _
      rw [put_putL,hd]
      have hb:=alloc_below w (.cells us.toArray T)
      have hm1:=hm.grow hb
      refine ⟨hSe j hjr _ hm1.sr,?_⟩
      have hcl2:=hcl.set hj
      have e:=LP_cons L P ⟨j,o,d,w.heap.size,T,us,vf⟩
      show wpAnyV _ _ _ _ _ ((LP L P).setIfInBounds j true) _ _
      simp only at e
      rw [e] at hun hcl2 ⊢
      refine ihf f' (by omega) r (vs.set d (vf w.heap.size)) _ _ hr (DenS.hide hs hu _) hm1 hro (fun q hq=>?_) (fun q hq=>by
       rcases List.mem_cons.1 hq with rfl|hq
       ·exact hg
       ·exact hPg q hq) (fun x hx y hy hne=>?_) hun hcl2 hk
      ·rcases List.mem_cons.1 hq with rfl|hq
       ·refine ⟨ho,hd,hao,hjr,fun hl=>?_,fun w'=>?_,Blk.new _ _ _,hm.below.size,fun hu=>?_,fun hu=>?_,fun n b M hn hM=>?_⟩
        ·rw [List.length_set] at hl
         simp [List.getD_eq_getElem?_getD,hl]
        ·have e1:=execOp_put o (fun cs b=>Region.noSelect_spec hsel j o cs b ho) ⟨vs.toArray,df⟩ (some d) (vf w.heap.size) (fun d' hd'=>by cases hd';exact hself j o d ho hao hd)
         rw [put_putL] at e1
         show (execOp (Act.eval ⟨(vs.set d (vf w.heap.size)).toArray,df⟩) o).run _ _=_
         have e2:putL vs (some d) (vf w.heap.size)=vs.set d (vf w.heap.size):=rfl
         rw [e2] at e1
         rw [e1]
         exact hrun w'
        ·have:=(hm.fz _ hu).1
         have:=hm.up
         simp only at *
         omega
        ·have:=(hm.fz _ (hm.rlt _ hu)).1
         have:=hm.up
         simp only at *
         omega
        ·obtain ⟨M',hM',hk'⟩:=hm.blk n b hn
         rw [hM] at hM';cases hM'
         intro hc
         have:=hk'.cov hc
         simp only at this
         omega
       ·have h1:=((hP q hq).grow hb).put0 ho hjr (fun e=>hjP q hq e.symm) (hqfree q hq) hsel (vf w.heap.size)
        rw [hd] at h1
        exact h1
      ·rcases List.mem_cons.1 hx with rfl|hx
       ·rcases List.mem_cons.1 hy with rfl|hy
        ·exact absurd rfl hne
        ·have:=(hP y hy).hblk.lt
         show w.heap.size≠y.g
         omega
       ·rcases List.mem_cons.1 hy with rfl|hy
        ·have:=(hP x hx).hblk.lt
         show x.g≠w.heap.size
         omega
        ·exact hPd x hx y hy hne
     split at h
     ·rename_i i o y hpt
      obtain ⟨hi,ho,hfree,hc⟩:=pureTry_ok hpt
      have hne:∀q∈P,q.i≠i:=fun q hq e=>by
       have h1:=(hP q hq)
       have h2:=h1.hop
       rw [e,ho] at h2;cases h2
       rcases hc with ⟨hg,-⟩|⟨-,hp,-⟩
       ·rw [hPg q hq] at hg;cases hg
       ·rw [pure_not_alloc h1.hal] at hp;cases hp
      have hiR:=LP_ready hi hne
      obtain ⟨f,rfl,hun⟩:=hbs hiR
      have hi2:o.guard≠none∨pureOp o.op=true:=by
       rcases hc with ⟨hg,-⟩|⟨-,hp,-⟩
       ·exact .inl fun e=>by rw [e] at hg;cases hg
       ·exact .inr hp
      have hy:∃v,∃Si:World→Prop,YieldsIf E.X.P ops Si o v ⟨vs.toArray,df⟩∧Den r y v∧(∀M w,Clo ops M→i∈Region.ready .any ops M→S M w→Si w)∧Si w:=by
       rcases hc with ⟨hg,rfl⟩|⟨hg,hpu,res,hres,rfl⟩
       ·exact ⟨undef,fun _=>True,.inr ⟨guardS_ok hs hg,rfl⟩,.v _,fun _ _ _ _ _=>trivial,trivial⟩
       ·cases hld:isLd o.op with
        |true =>
         obtain ⟨y',v,rfl,hd,hrun⟩:=opP_ok (E:=E) (st:=⟨ts,hpF i,nx⟩) (S:=T i) (fun _=>⟨fun T x y v hx hl=>ro_load (hro i) (hTB i) hm.glob T x y v hx hl,fun a b x y v hx hl=>strS_of (fun n bl L h1 h2=>by obtain ⟨M,us,h3,h4,h5⟩:=hro i n bl h1;rw [h2] at h3;cases h3;exact ⟨us,h4,h5⟩) hx hl⟩) hs hpu hres
         exact ⟨v,T i,.inl ⟨guardS_ok hs hg,hrun⟩,hd,fun M w h1 h2 h3=>hSb M w i o ho hld h1 h2 h3,hT _ w i o hLP hcl ho hld hiR hm.sr⟩
        |false =>
         obtain ⟨y',v,rfl,hd,hrun⟩:=opP_ok (E:=E) (st:=⟨ts,hpF i,nx⟩) (S:=fun _=>True) (fun h=>by rw [hld] at h;cases h) hs hpu hres
         exact ⟨v,fun _=>True,.inl ⟨guardS_ok hs hg,hrun⟩,hd,fun _ _ _ _ _=>trivial,trivial⟩
      obtain ⟨v,Si,hyi,hd,hbi,hSw⟩:=hy
      refine V_take ho hsel (fun c a w h=>hq c a _ _ w h) hbi (fun M w=>hSc M w i o ho hi2) f (LP L P) _ w hcl (free_mono hfree fun j hj=>LP_le j hj) hiR hyi hSw (hSe i hi w hm.sr) ?_
      have hcl2:=hcl.set hiR
      rw [LP_set] at hun hcl2 ⊢
      rw [put_putL]
      exact ihm _ _ _ _ _ _ h (by simpa using hL) (hSa2 i hi) (hT2 i) f r _ w P hr (DenS.putS hs hd o.dst) hm hro (fun q hq'=>(hP q hq').put ho hi (Ne.symm (hne q hq')) (hqfree q hq') hsel v) (fun q hq'=>(hP q hq').gput ho hi (Ne.symm (hne q hq')) (hqfree q hq') y (hPg q hq')) hPd hun hcl2 hk
     ·split at h
      ·rename_i c hlo
       have hcl0:c∈(Region.ready .any ops L).filter (fun i=>!isAl ops ts i):=by rw [hlo];simp
       obtain ⟨hcr,hcn⟩:=List.mem_filter.1 hcl0
       simp only [Bool.not_eq_true'] at hcn
       have hne:∀q∈P,q.i≠c:=fun q hq e=>by
        have:=hqal q hq
        rw [e,hcn] at this;cases this
       have hcR:=LP_ready hcr hne
       obtain ⟨f,rfl,-⟩:=hbs hcR
       split at h
       ·rename_i o ho
        by_cases hrd:Region.ready .any ops (setL L ((Region.ready .any ops L).filter (isAl ops ts)))=[c]
        ·rw [decide_eq_true hrd,cond_true] at h
         split at h
         ·rename_i y hp' nx' hg hl
          refine ⟨fun e=>(by rw [e] at hcR;cases hcR),fun j hj=>?_⟩
          obtain ⟨hjP,hj2⟩:=ready_LP (fun q hq=>List.mem_filter.2 ⟨(hP q hq).hrd,hqal q hq⟩) hj hL
          rcases hj2 with hj2|hj2
          ·obtain ⟨hj3,hj4⟩:=List.mem_filter.1 hj2
           exact early f rfl j hj hj4 hj3 hjP
          ·rw [hrd] at hj2
           obtain rfl:j=c:=by simpa using hj2
           obtain ⟨f',hf',hun⟩:=hbs hcR
           obtain rfl:f'=f:=by omega
           unfold wpOp
           simp only [ho,guardS_ok hs hg,if_true]
           refine .inl ?_
           refine loudS_ok (E:={ E with wU:=w,U:=fun k=>E.U k∨∃q∈P,q.g=k }) hrec hs (hm.frame hP) hl (fun q v w' hd hm1=>?_)
           have hm2:=hm.unframe hm1
           refine ⟨hSe _ hcr _ hm2.sr,?_⟩
           have hcl2:=hcl.set hcR
           rw [LP_set] at hun hcl2 ⊢
           refine ihm _ _ _ _ _ _ h (by simpa using hL) (hSa2 _ hcr) (hT2 _) f' (r++q) _ w' P ?_ (DenS.putS (hs.mono q) hd o.dst) hm2 (fun i=>(hro i).mono q) (fun p hp=>((hP p hp).moved hp hm1).put ho hcr (Ne.symm (hne p hp)) (hqfree p hp) hsel v) (fun p hp=>(hP p hp).gput ho hcr (Ne.symm (hne p hp)) (hqfree p hp) y (hPg p hp)) hPd hun hcl2 hk
           obtain ⟨s,rfl⟩:=hr
           exact ⟨s++q,by simp⟩
         ·cases h
        ·rw [decide_eq_false hrd] at h;cases h
       ·cases h
      ·split at h
       ·rename_i hlo a rest hall
        have hal2:a∈(Region.ready .any ops L).filter (isAl ops ts):=by rw [hall];simp
        obtain ⟨har,haa⟩:=List.mem_filter.1 hal2
        split at h
        ·rename_i o ho
         by_cases hrd:Region.ready .any ops (setL L rest)=[a]
         ·rw [decide_eq_true hrd,cond_true] at h
          split at h
          ·rename_i y hp' nx' hop
           by_cases hpen:∃q∈P,q.i=a
           ·have hpen':=hpen
            obtain ⟨q,hqP,hqi⟩:=hpen
            have hq0:=hP q hqP
            have e1:=hq0.hop
            rw [hqi,ho] at e1;cases e1
            obtain ⟨T,cs,us,yf,vf,hres,hdc,hrun,hyf⟩:=alS_ok (E:=E) (st:=⟨ts,hp,nx⟩) hs hq0.hal hop
            obtain ⟨rfl,rfl,rfl⟩:=al_same w hrun hq0.hrun
            cases hres
            have hm1:=hm.name hq0 hdc
            have hnew:(r++[(⟨q.g,0,0,none,fun _=>False⟩:Loc)])[nx]?=some ⟨q.g,0,0,none,fun _=>False⟩:=by rw [←hm.len];simp
            have hdy:=hyf _ nx q.g hnew
            rw [LP_drop L P a hpen'] at hfu hcl ⊢
            refine ihm _ _ _ _ _ _ h (by simpa using hL) (hSa2 a har) (hT2 a) fuel _ vs w _ ?_ ?_ hm1 (fun i=>(hro i).mono _) (fun p hp=>?_) (fun p hp=>by
             obtain ⟨hp1,hp2⟩:=List.mem_filter.1 hp
             have hpi:p.i≠a:=by simpa using hp2
             exact (hP p hp1).gput ho har (Ne.symm hpi) (hqfree p hp1) _ (hPg p hp1)) (fun x hx y hy=>hPd x (List.mem_filter.1 hx).1 y (List.mem_filter.1 hy).1) hfu hcl hk
            ·obtain ⟨s,rfl⟩:=hr
             exact ⟨s++[⟨q.g,0,0,none,fun _=>False⟩],by simp⟩
            ·rw [hq0.hd]
             exact DenS.tell (hs.mono _) fun hl=>by rw [hq0.hsl hl];exact hdy
            ·obtain ⟨hp1,hp2⟩:=List.mem_filter.1 hp
             have hpi:p.i≠a:=by simpa using hp2
             have hpo:=hP p hp1
             refine { hpo with hrd:=ready_mono hpo.hrd hpi,hfar:=fun n b M hn hM=>?_ }
             by_cases hne:n=nx
             ·subst hne
              rw [hnew] at hM;cases hM
              rw [Tre.get_put,if_pos rfl] at hn;cases hn
              exact fun hc=>hPd q hqP p hp1 (by rw [hqi];exact Ne.symm hpi) (hc.eq (by show 0≠8;decide)).symm
             ·rw [Tre.get_put,if_neg hne] at hn
              obtain ⟨M',hM',_⟩:=hm.blk n b hn
              exact hpo.hfar n b M hn (get_app_old hM (get_lt hM'))
           ·have hne:∀q∈P,q.i≠a:=fun q hq e=>hpen ⟨q,hq,e⟩
            have haR:=LP_ready har hne
            obtain ⟨f,rfl,-⟩:=hbs haR
            refine ⟨fun e=>(by rw [e] at haR;cases haR),fun j hj=>?_⟩
            have hsub:∀q∈P,q.i∈rest:=fun q hq=>by
             have h1:q.i∈(Region.ready .any ops L).filter (isAl ops ts):=List.mem_filter.2 ⟨(hP q hq).hrd,hqal q hq⟩
             rw [hall] at h1
             exact (List.mem_cons.1 h1).resolve_left (hne q hq)
            obtain ⟨hjP,hj2⟩:=ready_LP hsub hj hL
            have hj3:j∈(Region.ready .any ops L).filter (isAl ops ts):=by
             rw [hall]
             rcases hj2 with hj2|hj2
             ·exact List.mem_cons_of_mem _ hj2
             ·rw [hrd] at hj2
              simp at hj2
              simp [hj2]
            obtain ⟨hj4,hj5⟩:=List.mem_filter.1 hj3
            exact early f rfl j hj hj5 hj4 hjP
          ·cases h
         ·rw [decide_eq_false hrd] at h;cases h
        ·cases h
       ·cases h
      ·cases h
end
end Go.Proofs.YtjboelhcieepkaaGreatDoor
