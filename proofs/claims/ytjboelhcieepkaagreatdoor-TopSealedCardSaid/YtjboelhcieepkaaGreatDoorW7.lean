/- A part of the proof of TopSealed. -/
import Derived.Test.YtjboelhcieepkaaGreatDoorW6
noncomputable section
set_option maxRecDepth 16384
namespace Go.Proofs.YtjboelhcieepkaaGreatDoor
open Go.RowKit
section
variable {df:List Deferred}
def aF4(Q:cM):Prop:=∀c a (d:Option Tmp) (v:Value) w,Q (.panic c) (a.put d v) w->Q (.panic c) a w
structure iD where
 i:Nat
 o:Oper
 d:Tmp
 g:Nat
 T:TypeId
 us:List Value
 vf:Nat->Value
def LP(L:Array Bool)(P:List iD):Array Bool:=(L.toList.zipIdx.map λx=>x.1 || P.any (λq=>q.i==x.2)).toArray
theorem mQ(L:Array Bool)(P:List iD)(j:Nat):(LP L P)[j]?=(L[j]?).map λb=>b || P.any (λq=>q.i==j):=by
 simp [LP,List.getElem?_zipIdx]
 cases L[j]?<;>simp
theorem aNZ(L:Array Bool):LP L []=L:=by
 apply Array.ext_getElem?
 intro j
 rw [mQ]
 cases L[j]?<;>simp
theorem aOF(L:Array Bool)(P:List iD)(i:Nat):(LP L P).setIfInBounds i true=LP (L.setIfInBounds i true) P:=by
 apply Array.ext_getElem?
 intro j
 rw [Array.getElem?_setIfInBounds,mQ,mQ,Array.getElem?_setIfInBounds]
 have hsz:(LP L P).size=L.size:=by simp [LP]
 rw [hsz]
 by_cases hj:i=j
 ·subst hj
  by_cases hl:i<L.size
  ·simp [hl]
  ·simp [hl]
 ·simp [hj]
theorem bBc(L:Array Bool)(P:List iD)(q:iD):(LP L P).setIfInBounds q.i true=LP L (q::P):=by
 apply Array.ext_getElem?
 intro j
 rw [Array.getElem?_setIfInBounds,mQ,mQ]
 have hsz:(LP L P).size=L.size:=by simp [LP]
 rw [hsz]
 by_cases hj:q.i=j
 ·subst hj
  by_cases hl:q.i<L.size
  ·simp [hl]
  ·simp [hl]
 ·have h2:(q.i==j)=false:=by simp [hj]
  simp [hj,h2]
theorem a1g(L:Array Bool)(P:List iD)(i:Nat)(h:∃q∈P,q.i=i):LP L P=LP (L.setIfInBounds i true) (P.filter λq=>q.i != i):=by
 apply Array.ext_getElem?
 intro j
 rw [mQ,mQ,Array.getElem?_setIfInBounds]
 by_cases hj:i=j
 ·subst hj
  have h1:P.any (λq=>q.i==i)=true:=by
   obtain ⟨q,hq,e⟩:=h
   exact List.any_eq_true.2 ⟨q,hq,by simp [e]⟩
  by_cases hl:i<L.size
  ·simp [hl,h1]
  ·simp [hl]
 ·have h1:(P.filter λq=>q.i != i).any (λq=>q.i==j)=P.any (λq=>q.i==j):=by
   rw [List.any_filter]
   congr 1
   funext q
   by_cases hq:q.i=j
   ·subst hq;simp [Ne.symm hj]
   ·simp [hq]
  simp [hj,h1]
theorem a0C(L:Array Bool)(P:List iD)(j:Nat)(d:Bool)(h:(LP L P).getD j d=false)(hd:d=true∨j<L.size):L.getD j d=false∧∀q∈P,q.i≠j:=by
 rw [fK,mQ] at h
 rw [fK]
 cases hq:L[j]? with
 |none =>
  rw [hq] at h
  simp at h
  rcases hd with rfl|hd
  ·cases h
  ·rw [Array.getElem?_eq_none_iff] at hq;omega
 |some b =>
  rw [hq] at h
  simp at h
  exact ⟨by simpa using h.1,λq hqm e=>h.2 q hqm e⟩
def rO(A:Array Bool):Nat:=(A.toList.filter λb=>!b).length
theorem aPF{A:Array Bool}{i:Nat}(h:A[i]?=some false):rO (A.setIfInBounds i true)+1=rO A:=by
 unfold rO
 rw [Array.toList_setIfInBounds]
 have h':A.toList[i]?=some false:=by simpa using h
 clear h
 generalize A.toList=l at h' ⊢
 induction l generalizing i with
 |nil=>simp at h'
 |cons b l ih =>
  cases i with
  |zero=>simp at h';subst h';simp
  |succ i =>
   simp at h'
   have:=ih h'
   cases b<;>simp<;>omega
section
variable {X:aI}{E:bX}{r:List aF}{hp:Tr}{nx:Nat}{ts:Sl}{vs:List Value}{w w':World}{ops:Array Oper}{L:Array Bool}
structure kW(df:List Deferred)(E:bX)(ops:Array Oper)(L:Array Bool)(vs:List Value)(hp:Tr)(r:List aF)(w:World)(q:iD):Prop where
 hop:ops[q.i]?=some q.o
 hd:q.o.dst=some q.d
 hal:oA q.o.op=true
 hrd:q.i∈Region.ready .any ops L
 hsl:q.d<vs.length->vs.getD q.d undef=q.vf q.g
 hrun:∀w':World,(execOp (Act.eval ⟨vs.toArray,df⟩) q.o).run E.X.P w'=.ok (.value (q.vf w'.heap.size)) (w'.alloc (.cells q.us.toArray q.T))
 hblk:aC w q.g q.T q.us.toArray
 hge:E.w0.heap.size≤q.g
 hU:¬ E.U q.g
 hR:¬ E.R q.g
 hfar:∀n b M,hp.get n=some b->r[n]?=some M->¬ gJ b M q.g
theorem kW.put0{q:iD}(h:kW df E ops L vs hp r w q){i:Nat}{o:Oper}(hi:ops[i]?=some o)(hir:i∈Region.ready .any ops L)(hne:i≠q.i)(hfree:Region.free .any ops L q.i=true)(hsel:Region.noSelect ops=true)(v:Value):kW df E ops L (j6 vs o.dst v) hp r w q:=by
 have hun:L.getD q.i true=false:=(mem_ready.1 h.hrd).1
 obtain ⟨hiun,o',ho',hall⟩:=mem_ready.1 hir
 rw [hi] at ho';cases ho'
 have hno:∀e∈o.after,Region.binds .any e=true->e.on≠q.i:=λe he hb heq=>by
  have h1:=hall e he hb
  rw [heq] at h1
  rcases Nat.lt_or_ge q.i L.size with h'|h'
  ·simp [h'] at hun h1;rw [hun] at h1;cases h1
  ·simp [Array.getElem?_eq_none h'] at h1
 have hap:=Region.free_spec h.hop hfree i o hi hne hiun hno
 obtain ⟨h1,h2,h3⟩:=Oper.apart_spec hap
 refine { h with hsl:=λhl=>?_,hrun:=λw'=>?_ }
 ·obtain hd|⟨d,hd⟩:o.dst=none∨∃d,o.dst=some d:=by cases o.dst<;>simp
  ·rw [hd] at hl ⊢;exact h.hsl hl
  ·rw [hd] at hl ⊢
   have hne2:d≠q.d:=λe=>h2 q.d h.hd (by rw [hd,e])
   simp only [j6,List.length_set] at hl ⊢
   rw [cP,List.getElem?_set_ne hne2,<-cP]
   exact h.hsl hl
 ·have e:=execOp_put q.o (λcs b=>Region.noSelect_spec hsel q.i q.o cs b h.hop) ⟨vs.toArray,df⟩ o.dst v (λd hd=>h3 d hd)
  rw [oR] at e
  rw [e]
  exact h.hrun w'
theorem aOV{ts:Sl}{d j:Nat}(y:SV)(h:d≠j):nth (sS ts d y) j=nth ts j:=by
 show Option.rec (motive:=λ_=>SV) mX (λx=>x) ((Bool.rec ⟨ts.t.put d y,ts.n⟩ ts (Nat.ble ts.n d):Sl).t.get j)=Option.rec (motive:=λ_=>SV) mX (λx=>x) (ts.t.get j)
 cases Nat.ble ts.n d with
 |true=>rfl
 |false =>
  show Option.rec (motive:=λ_=>SV) mX (λx=>x) ((ts.t.put d y).get j)=_
  rw [dQ.get_put,if_neg (Ne.symm h)]
theorem a9x{o:Oper}{dst:Option Tmp}{y:SV}(h:∀d,dst=some d->d ∉ o.looksAt ops):gB ops (putS ts dst y) o.guard=gB ops ts o.guard:=by
 cases dst with
 |none=>rfl
 |some d =>
  have hd:=h d rfl
  unfold Oper.looksAt at hd
  unfold gB
  cases hg:o.guard with
  |none=>rfl
  |some q =>
   obtain ⟨j,b⟩:=q
   rw [hg] at hd
   simp only
   cases ho:ops[j]? with
   |none=>rfl
   |some o2 =>
    simp only
    cases hd2:o2.dst with
    |none=>rfl
    |some d2 =>
     simp only
     have hne:d≠d2:=λe=>hd (gW _ (by simp [ho,hd2,e]))
     rw [show nth (putS ts (some d) y) d2=nth ts d2 from aOV y hne]
theorem kW.gput{q:iD}(h:kW df E ops L vs hp r w q){i:Nat}{o:Oper}(hi:ops[i]?=some o)(hir:i∈Region.ready .any ops L)(hne:i≠q.i)(hfree:Region.free .any ops L q.i=true)(y:SV)(hg:gB ops ts q.o.guard=some true):gB ops (putS ts o.dst y) q.o.guard=some true:=by
 have hun:L.getD q.i true=false:=(mem_ready.1 h.hrd).1
 obtain ⟨hiun,o',ho',hall⟩:=mem_ready.1 hir
 rw [hi] at ho';cases ho'
 have hno:∀e∈o.after,Region.binds .any e=true->e.on≠q.i:=λe he hb heq=>by
  have h1:=hall e he hb
  rw [heq] at h1
  rcases Nat.lt_or_ge q.i L.size with h'|h'
  ·simp [h'] at hun h1;rw [hun] at h1;cases h1
  ·simp [Array.getElem?_eq_none h'] at h1
 have hap:=Region.free_spec h.hop hfree i o hi hne hiun hno
 obtain ⟨h1,h2,h3⟩:=Oper.apart_spec hap
 rw [a9x h3,hg]
theorem kW.put{q:iD}(h:kW df E ops L vs hp r w q){i:Nat}{o:Oper}(hi:ops[i]?=some o)(hir:i∈Region.ready .any ops L)(hne:i≠q.i)(hfree:Region.free .any ops L q.i=true)(hsel:Region.noSelect ops=true)(v:Value):kW df E ops (L.setIfInBounds i true) (j6 vs o.dst v) hp r w q :=
 { h.put0 hi hir hne hfree hsel v with hrd:=ready_mono h.hrd (Ne.symm hne) }
theorem bU.hide{d:Nat}(h:bU r ts vs)(hu:isU (Go.Proofs.YtjboelhcieepkaaGreatDoor.nth ts d)=true)(v:Value):bU r ts (vs.set d v):=by
 refine ⟨by simp [h.1],λi=>?_⟩
 by_cases hi:i=d
 ·subst hi
  cases hq:Go.Proofs.YtjboelhcieepkaaGreatDoor.nth ts i<;>rw [hq] at hu<;>first|exact .u _|cases hu
 ·rw [cP,List.getElem?_set_ne (Ne.symm hi),<-cP]
  exact h.2 i
theorem bU.tell{d:Nat}{y:SV}(h:bU r ts vs)(hy:d<vs.length->aP r y (vs.getD d undef)):bU r (sS ts d y) vs:=by
 by_cases hd:d<vs.length
 ·have:=h.set d (hy hd)
  have e:vs.set d (vs.getD d undef)=vs:=by
   apply List.ext_getElem?
   intro j
   by_cases hj:d=j
   ·subst hj;simp [hd]
   ·rw [List.getElem?_set_ne hj]
  rwa [e] at this
 ·have e:sS ts d y=ts:=by
   show Bool.rec (motive:=λ_=>Sl) ⟨ts.t.put d y,ts.n⟩ ts (Nat.ble ts.n d)=ts
   rw [cY]
   have:=h.1
   simp [show ts.n≤d by omega]
  rw [e];exact h
theorem aG.frame(hm:aG E r hp nx w){P:List iD}(hP:∀q∈P,kW df E ops L vs hp r w q):aG { E with wU:=w,U:=λk=>E.U k∨∃q∈P,q.g=k } r hp nx w:=by
 refine { hm with blk:=hm.blk,fz:=λk hk=>⟨?_,rfl⟩,far:=λn b M hn hk hM k hc hu=>?_,up:=aS _,rlt:=λk hk=>.inl (hm.rlt k hk) }
 ·rcases hk with hk|⟨q,hq,rfl⟩
  ·exact eQ (hm.fz k hk).1 hm.up
  ·exact (hP q hq).hblk.lt
 ·rcases hu with hu|⟨q,hq,e⟩
  ·exact hm.far n b M hn hk hM k hc hu
  ·exact (hP q hq).hfar n b M hn hM (e▸hc)
theorem eN.env{E E':bX}(hX:E'.X=E.X)(h0:E'.w0=E.w0){M:aF}{b:HB}(h:eN E r M b w):eN E' r M b w:=by
 unfold eN aLC at *
 rw [hX,h0]
 exact h
theorem aG.unframe(hm:aG E r hp nx w){P:List iD}{r':List aF}{hp':Tr}{nx':Nat}(hm':aG { E with wU:=w,U:=λk=>E.U k∨∃q∈P,q.g=k } r' hp' nx' w'):aG E r' hp' nx' w':=by
 refine { hm' with blk:=hm'.blk,fz:=λk hk=>⟨(hm.fz k hk).1,(hm'.fz k (.inl hk)).2.trans (hm.fz k hk).2⟩,far:=λn b M hn hk hM k hc hu=>hm'.far n b M hn hk hM k hc (.inl hu),up:=bI hm.up hm'.up,rlt:=hm.rlt }
theorem kW.moved{P:List iD}{q:iD}(h:kW df E ops L vs hp r w q)(hq:q∈P){r':List aF}{hp':Tr}{nx':Nat}(hm':aG { E with wU:=w,U:=λk=>E.U k∨∃q∈P,q.g=k } r' hp' nx' w'):kW df E ops L vs hp' r' w' q:=by
 refine { h with hblk:=(hm'.fz q.g (.inr ⟨q,hq,rfl⟩)).2.trans h.hblk,hfar:=λn b M hn hM e=>?_ }
 by_cases hk:b.k<2
 ·exact hm'.far n b M hn (.inl hk) hM _ e (.inr ⟨q,hq,rfl⟩)
 by_cases hk5:5≤b.k
 ·exact hm'.far n b M hn (.inr hk5) hM _ e (.inr ⟨q,hq,rfl⟩)
 ·rcases hm'.old n b M hn (by omega) (by omega) hM with h1|h1
  ·have:=h.hge
   rw [<-e.eq (by omega)] at h1
   exact absurd h1 (by show ¬ q.g<E.w0.heap.size;omega)
  ·rw [<-e.eq (by omega)] at h1
   exact h.hR h1
theorem aG.name(hm:aG E r hp nx w){q:iD}(h:kW df E ops L vs hp r w q){cs:Rp SV}(hd:aD r cs q.us):aG E (r++[⟨q.g,0,0,none,λ_=>False⟩]) (hp.put nx ⟨q.T,cs,0⟩) (nx+1) w:=by
 have hnew:(r++[(⟨q.g,0,0,none,λ_=>False⟩:aF)])[nx]?=some ⟨q.g,0,0,none,λ_=>False⟩:=by rw [<-hm.len];simp
 have old:∀n b',(hp.put nx ⟨q.T,cs,0⟩).get n=some b'->n≠nx->hp.get n=some b'∧n<r.length:=by
  intro n b' hn hne
  rw [bC.get_put,if_neg hne] at hn
  obtain ⟨M,hM,_⟩:=hm.blk n b' hn
  exact ⟨hn,zL hM⟩
 refine ⟨by simp [hm.len],λn b' hn=>?_,λn m b1 c1 L1 M1 hn hm1 hne hk1 hL1 hM1 k hc1 hc2=>?_,hm.below,hm.fz,λn b' M hn hk' hM k hc hu=>?_,hm.up,λn b' M hn hk' hk5 hM=>?_,hm.rlt,hm.glob⟩
 ·by_cases hne:n=nx
  ·subst hne
   rw [bC.get_put,if_pos rfl] at hn;cases hn
   exact ⟨_,hnew,q.us,hd.mono _,.inl ⟨rfl,h.hge,rfl,h.hblk⟩⟩
  ·obtain ⟨h1,h2⟩:=old n b' hn hne
   obtain ⟨M,hM,hk'⟩:=hm.blk n b' h1
   exact ⟨M,jK _ hM,hk'.move _ (λ_ _=>rfl) (aS _)⟩
 ·by_cases h1:n=nx
  ·subst h1
   rw [hnew] at hL1;cases hL1
   rw [bC.get_put,if_pos rfl] at hn;cases hn
   obtain ⟨h3,h4⟩:=old m c1 hm1 (Ne.symm hne)
   have e:k=q.g:=hc1.eq (by show 0≠8;decide)
   exact h.hfar m c1 M1 h3 (hO hM1 h4) (e▸hc2)
  ·obtain ⟨h3,h4⟩:=old n b1 hn h1
   have h5:=hO hL1 h4
   by_cases h2:m=nx
   ·subst h2
    rw [hnew] at hM1;cases hM1
    rw [bC.get_put,if_pos rfl] at hm1;cases hm1
    have e:k=q.g:=hc2.eq (by show 0≠8;decide)
    exact h.hfar n b1 L1 h3 h5 (e▸hc1)
   ·obtain ⟨h6,h7⟩:=old m c1 hm1 h2
    exact hm.sep n m b1 c1 L1 M1 h3 h6 hne hk1 h5 (hO hM1 h7) k hc1 hc2
 ·by_cases hne:n=nx
  ·subst hne
   rw [hnew] at hM;cases hM
   rw [bC.get_put,if_pos rfl] at hn;cases hn
   have e:k=q.g:=hc.eq (by show 0≠8;decide)
   exact h.hU (e▸hu)
  ·obtain ⟨h4,h5⟩:=old n b' hn hne
   exact hm.far n b' M h4 hk' (hO hM h5) k hc hu
 ·by_cases hne:n=nx
  ·subst hne
   rw [bC.get_put,if_pos rfl] at hn;cases hn;exact absurd hk' (by show ¬ 2≤0;decide)
  ·obtain ⟨h4,h5⟩:=old n b' hn hne
   exact hm.old n b' M h4 hk' hk5 (hO hM h5)
def SR(E:bX):World->Prop:=λw=>(∀k,E.U k->w.heap[k]?=E.wU.heap[k]?)∧E.wU.heap.size≤w.heap.size∧Below E.w0.heap.size E.w0 w
theorem aG.sr(hm:aG E r hp nx w):SR E w:=⟨λk hk=>(hm.fz k hk).2,hm.up,hm.below⟩
def zF(T:World->Prop)(r:List aF)(hpL:Tr):Prop:=∀n b,hpL.get n=some b->∃M vs,r[n]?=some M∧aD r b.cs vs∧∀w',T w'->∀j v,vs[j]?=some v->w'.cell? ⟨M.g,M.b+j,none⟩=some v
theorem zF.mono{T:World->Prop}{hpL:Tr}(h:zF T r hpL)(q:List aF):zF T (r++q) hpL:=λn b hn=>by
 obtain ⟨M,vs,h1,h2,h3⟩:=h n b hn
 exact ⟨M,vs,jK q h1,h2.mono q,h3⟩
theorem a5v{T_:World->Prop}{hpL:Tr}(h:zF T_ r hpL)(hTB:∀w,T_ w->Below E.w0.heap.size E.w0 w)(hg:∀g cs,E.X.G g=some cs->∃vs,aD [] cs vs∧g<E.w0.heap.size∧∀j v,vs[j]?=some v->E.w0.cell? ⟨g,j,none⟩=some v)(T:TypeId)(x y:SV)(v:Value)(hx:aP r x v)(hl:sR E.X hpL T x=some y):
 ∃u,(∀w,T_ w->(Instr.loadAt T v).run E.X.P w=.ok u w)∧aP r y u:=by
 have uni:∀{T:TypeId} {cs:Rp SV} {vs:List Value} {o g b:Nat} {y:SV} {S:World->Prop},aD r cs vs->(∀w',S w'->∀j v,vs[j]?=some v->w'.cell? ⟨g,b+j,none⟩=some v)->oN E.X.P T cs o=some y->∃u,(∀w,S w->(loadVar T ⟨g,b+o,none⟩).run E.X.P w=.ok u w)∧aP r y u:=by
  intro T cs vs o g b y S hd hc h
  have hh:=h
  unfold oN at hh
  split at hh
  ·rename_i n hr hz
   split at hh
   ·rename_i c hcs
    cases hh
    obtain ⟨h1,h2⟩:=hd.sub hcs
    refine ⟨_,λw hw=>?_,.a h1⟩
    have hl:=run_loadCells_list (P:=E.X.P) (w:=w) ⟨g,b+o,none⟩ ((vs.drop o).take n) (λj v hv=>by rw [eX,Nat.add_assoc];exact hc w hw _ v (aBL hv))
    have e:((vs.drop o).take n).length=n:=by simp;omega
    rw [e] at hl
    simp [loadVar,aCv hr,i9 hz,hl]
   ·cases hh
  ·rename_i n hr hz
   obtain ⟨v,hv,hdv⟩:=hd.get hh
   refine ⟨v,λw hw=>?_,hdv⟩
   have:=hc w hw o v hv
   simp [loadVar,aAC hr,load,Sem.run,this]
  ·cases hh
 unfold sR at hl
 split at hl
 ·rename_i n o
  cases hx with
  |@p _ _ M hM =>
   split at hl
   ·rename_i b hb
    obtain ⟨M',vs,h1,h2,h3⟩:=h n b hb
    rw [hM] at h1;cases h1
    obtain ⟨u,hu,hy⟩:=uni h2 h3 hl
    exact ⟨u,λw hw=>by simp [Instr.loadAt,Instr.sureAddr,hu w hw],hy⟩
   ·cases hl
 ·rename_i g o
  cases hx
  split at hl
  ·rename_i cs hG
   obtain ⟨vs,hd,hlt,hc⟩:=hg g cs hG
   have hc2:∀w',T_ w'->∀j v,vs[j]?=some v->w'.cell? ⟨g,0+j,none⟩=some v:=λw' hw j v hv=>by
    rw [Nat.zero_add]
    exact ((hTB w' hw).cell (p:=⟨g,j,none⟩) hlt).trans (hc j v hv)
   obtain ⟨u,hu,hy⟩:=uni (b:=0) (by have:=hd.mono r;simpa using this) hc2 hl
   simp only [Nat.zero_add] at hu
   exact ⟨u,λw hw=>by simp [Instr.loadAt,Instr.sureAddr,hu w hw],hy⟩
  ·cases hl
 ·cases hl
theorem aF0{hpF:Nat->Tr}:∀{l:List Nat} {i:Nat} {o:Oper} {y:SV},pL X ops L ts hpF nx l=some (i,o,y)->i∈l∧ops[i]?=some o∧Region.free .any ops L i=true ∧
 ((gB ops ts o.guard=some false∧y=mX)∨(gB ops ts o.guard=some true∧mB o.op=true∧∃res,dI X ⟨ts,hpF i,nx⟩ o.op o.type=some res∧res.1=y))
 |[],i,o,y,h=>by simp [pL] at h
 |j::l,i,o,y,h=>by
  have rec_:pL X ops L ts hpF nx l=some (i,o,y)->_:=λh=>by
   obtain ⟨h1,h2⟩:=aF0 h
   exact (⟨List.mem_cons_of_mem _ h1,h2⟩:i∈j::l∧_)
  unfold pL at h
  split at h
  ·rename_i o' ho
   cases hf:Region.free .any ops L j with
   |false=>rw [hf,cond_false] at h;exact rec_ h
   |true =>
    rw [hf,cond_true] at h
    split at h
    ·rename_i hgd
     simp only [b6,cH] at h
     obtain ⟨rfl,rfl,rfl⟩:=h
     exact ⟨by simp,ho,hf,.inl ⟨hgd,rfl⟩⟩
    ·rename_i hgd
     split at h
     ·rename_i res hpu hop
      simp only [b6,cH] at h
      obtain ⟨rfl,rfl,rfl⟩:=h
      exact ⟨by simp,ho,hf,.inr ⟨hgd,hpu,res,hop,rfl⟩⟩
     ·exact rec_ h
    ·exact rec_ h
  ·exact rec_ h
theorem aLm{md:Region.Mode}{L L':Array Bool}{i:Nat}(h:Region.free md ops L i=true)(hl:∀j,L.getD j true=true->L'.getD j true=true):Region.free md ops L' i=true:=by
 unfold Region.free at *
 split at h
 ·cases h
 ·rw [kK] at h ⊢
  intro j hj
  have:=h j hj
  simp only [Bool.or_eq_true] at this ⊢
  rcases this with (h1|h1)|h1
  ·exact .inl (.inl h1)
  ·exact .inl (.inr (hl j h1))
  ·exact .inr h1
theorem aBD:∀(l:List Nat) (L:Array Bool) (j:Nat),(setL L l)[j]?=(L[j]?).map λb=>b || l.contains j
 |[],L,j=>by simp [setL]
 |i::l,L,j=>by
  have ih:=aBD l (L.setIfInBounds i true) j
  have e:setL L (i::l)=setL (L.setIfInBounds i true) l:=rfl
  rw [e,ih,Array.getElem?_setIfInBounds]
  by_cases hj:i=j
  ·subst hj
   by_cases hl:i<L.size
   ·simp [hl]
   ·simp [hl]
  ·have h2:(j==i)=false:=by simp [Ne.symm hj]
   have h3:decide (j=i)=false:=by simp [Ne.symm hj]
   simp [hj,h3]
theorem aKC{P:List iD}{al:List Nat}(hsub:∀q∈P,q.i∈al){j:Nat}(hj:j∈Region.ready .any ops (LP L P))(hL:L.size=ops.size):(∀q∈P,q.i≠j)∧(j∈al∨j∈Region.ready .any ops (setL L al)):=by
 obtain ⟨hun,o,ho,hall⟩:=mem_ready.1 hj
 have hjs:j<L.size:=by rw [hL];exact (lB.1 ho).1
 obtain ⟨h1,h2⟩:=a0C L P j true hun (.inl rfl)
 refine ⟨h2,?_⟩
 by_cases hjal:j∈al
 ·exact .inl hjal
 ·refine .inr (mem_ready.2 ⟨?_,o,ho,λe he hb=>?_⟩)
  ·rw [fK,aBD]
   rw [fK] at h1
   cases hq:L[j]? with
   |none=>rw [hq] at h1;simp at h1
   |some b=>rw [hq] at h1;simp at h1;subst h1;simp [hjal]
  ·have:=hall e he hb
   rw [fK,mQ] at this
   rw [fK,aBD]
   cases hq:L[e.on]? with
   |none=>rw [hq] at this;simp at this
   |some b =>
    rw [hq] at this
    simp at this
    simp
    rcases this with h3|⟨q,hq1,hq2⟩
    ·exact .inl h3
    ·exact .inr (by rw [<-hq2];exact hsub q hq1)
end
section
variable {E:bX}{ops:Array Oper}{rec:FuncId->List SV->Tr->Nat->Option (SV×St)}{hpF:Nat->Tr}{T:Nat->World->Prop}{Q:cM}{r0:List aF}
theorem a3k{ops:Array Oper}{ts:Sl}{i:Nat}(h:dZ ops ts i=true):∃o,ops[i]?=some o∧oA o.op=true∧gB ops ts o.guard=some true:=by
 unfold dZ at h
 split at h
 ·rename_i o ho
  rw [bJ] at h
  refine ⟨o,ho,h.1,?_⟩
  have h2:=h.2
  unfold gdT at h2
  split at h2
  ·assumption
  ·cases h2
 ·cases h
theorem aOb{X:aI}{L:Array Bool}{ts:Sl}{i:Nat}(h:sV X ops L ts i=true):Region.free .any ops L i=true∧∃o d res,ops[i]?=some o∧o.dst=some d∧isU (nth ts d)=true∧dI X ⟨ts,.e,0⟩ o.op o.type=some res:=by
 unfold sV at h
 rw [bJ] at h
 obtain ⟨h1,h2⟩:=h
 refine ⟨h1,?_⟩
 split at h2
 ·rename_i o ho
  rw [bJ] at h2
  obtain ⟨h3,h4⟩:=h2
  split at h3
  ·rename_i d hd
   obtain ⟨res,hres⟩:=Option.isSome_iff_exists.1 h4
   exact ⟨o,d,res,ho,hd,h3,hres⟩
  ·cases h3
 ·cases h2
theorem a2S{o:Op}(h:oA o=true):mB o=false:=by cases o<;>first|rfl|cases h
theorem getD_some{A:Array Bool}{i:Nat}(h:A.getD i true=false):A[i]?=some false:=by
 rw [fK] at h
 cases hq:A[i]? with
 |none=>rw [hq] at h;cases h
 |some b=>rw [hq] at h;simpa using h
theorem aEe{L:Array Bool}{P:List iD}{i:Nat}(h:i∈Region.ready .any ops L)(hne:∀q∈P,q.i≠i):i∈Region.ready .any ops (LP L P):=by
 obtain ⟨hun,o,ho,hall⟩:=mem_ready.1 h
 refine mem_ready.2 ⟨?_,o,ho,λe he hb=>?_⟩
 ·rw [fK,mQ,getD_some hun]
  simp
  exact hne
 ·have:=hall e he hb
  rw [fK] at this
  rw [fK,mQ]
  cases hq:L[e.on]? with
  |none=>rw [hq] at this;simp at this
  |some b=>rw [hq] at this;simp at this;simp [this]
theorem aQK{L:Array Bool}{P:List iD}(j:Nat)(h:L.getD j true=true):(LP L P).getD j true=true:=by
 rw [fK] at h
 rw [fK,mQ]
 cases hq:L[j]? with
 |none=>simp
 |some b=>rw [hq] at h;simp at h;simp [h]
theorem a2Y{P:Program}{a:Act}{o:Oper}{us us':List Value}{T T':TypeId}{vf vf':Nat->Value}(w:World)
 (h1:∀w:World,(execOp a.eval o).run P w=.ok (.value (vf w.heap.size)) (w.alloc (.cells us.toArray T)))
 (h2:∀w:World,(execOp a.eval o).run P w=.ok (.value (vf' w.heap.size)) (w.alloc (.cells us'.toArray T'))):us=us'∧T=T'∧vf=vf':=by
 have key:∀w:World,(vf w.heap.size=vf' w.heap.size)∧(w.alloc (.cells us.toArray T)=w.alloc (.cells us'.toArray T')):=λw=>by
  have:=(h1 w).symm.trans (h2 w)
  simp only [Result.ok.injEq,Next.value.injEq] at this
  exact this
 have h3:=(key w).2
 have h4:(w.alloc (.cells us.toArray T)).heap[w.heap.size]?=(w.alloc (.cells us'.toArray T')).heap[w.heap.size]?:=by rw [h3]
 rw [heap_alloc_new,heap_alloc_new] at h4
 simp at h4
 refine ⟨h4.1,h4.2,?_⟩
 funext k
 have:=(key { w with heap:=Array.replicate k (.cells #[] 0) }).1
 simpa using this
theorem kW.grow{L:Array Bool}{vs:List Value}{hp:Tr}{r:List aF}{w w':World}{q:iD}(h:kW df E ops L vs hp r w q)(hb:Below w.heap.size w w'):kW df E ops L vs hp r w' q :=
 { h with hblk:=(hb.block q.g h.hblk.lt).trans h.hblk }
def jM(ops:Array Oper)(M:Array Bool):Prop:=∀k o,ops[k]?=some o->M.getD k false=true->∀e∈o.after,Region.binds .any e=true->M.getD e.on false=true
theorem i6{M:Array Bool}{k:Nat}(h:k<M.size):M.getD k true=M.getD k false:=by simp [h]
theorem jM.set{M:Array Bool}{j:Nat}(h:jM ops M)(hj:j∈Region.ready .any ops M):jM ops (M.setIfInBounds j true):=by
 intro k o hk hM e he hb
 by_cases hkj:j=k
 ·subst hkj
  obtain ⟨_,o',ho',hall⟩:=mem_ready.1 hj
  rw [hk] at ho';cases ho'
  exact getD_set_true (hall e he hb)
 ·rw [getD_set_ne false hkj] at hM
  exact getD_set_true (h k o hk hM e he hb)
def pK(P:Program)(ops:Array Oper)(Q:cM)(S:Array Bool->World->Prop):Nat->Array Bool->Act->World->Prop
 |0,L,a,w=>Region.ready .any ops L=[]∧Q .normal a w
 |f+1,L,a,w=>(Region.ready .any ops L=[]->Q .normal a w) ∧
  ∀i∈Region.ready .any ops L,wpOp P ops Q i (λa' w'=>S (L.setIfInBounds i true) w'∧pK P ops Q S f (L.setIfInBounds i true) a' w') a w
section
variable {P:Program}{S:Array Bool->World->Prop}
theorem aC1:∀(f:Nat) (L:Array Bool) (a:Act) (w:World),pK P ops Q S f L a w->wpAny P .any ops Q f L a w
 |0,_,_,_,h=>h
 |f+1,_,_,_,h=>⟨h.1,λi hi=>wpOp_mono (λa' w' h'=>aC1 f _ a' w' h'.2) (h.2 i hi)⟩
theorem aR6{L:Array Bool}{a:Act}{w:World}(hr:Region.ready .any ops L=[])(h:Q .normal a w):∀f,pK P ops Q S f L a w
 |0=>⟨hr,h⟩
 |_+1=>⟨λ_=>h,by rw [hr];simp⟩
theorem aXE{i:Nat}{oi:Oper}{v:Value}{Si:World->Prop}(hi:ops[i]?=some oi)(hs:Region.noSelect ops=true)(hQ:∀c a w,Q (.panic c) (a.put oi.dst v) w->Q (.panic c) a w)
 (hb:∀M w,jM ops M->i∈Region.ready .any ops M->S M w->Si w) (hc:∀M w,S (M.setIfInBounds i true) w->S M w):∀(f:Nat) (L:Array Bool) (a:Act) (w:World),jM ops L->Region.free .any ops L i=true->i∈Region.ready .any ops L ->
  YieldsIf P ops Si oi v a->Si w->S (L.setIfInBounds i true) w->pK P ops Q S f (L.setIfInBounds i true) (a.put oi.dst v) w->pK P ops Q S (f+1) L a w:=by
 have other:∀(f:Nat) (L:Array Bool) (a:Act) (w:World),jM ops L->Region.free .any ops L i=true->i∈Region.ready .any ops L->YieldsIf P ops Si oi v a ->
  ∀j,j∈Region.ready .any ops L->j≠i->∀K,wpOp P ops Q j K (a.put oi.dst v) w->wpOp P ops Q j (λa' w'=>YieldsIf P ops Si oi v a'∧K (a'.put oi.dst v) w') a w:=by
  intro f L a w hcl hfree hr hy j hj hji K h1
  obtain ⟨hjun,oj,hoj,hall⟩:=mem_ready.1 hj
  have hnot:∀e∈oj.after,Region.binds .any e=true->e.on≠i:=λe he hb heq=>by
   have h1:=hall e he hb
   have h0:=getD_some (mem_ready.1 hr).1
   rw [heq,fK,h0] at h1
   cases h1
  exact wpOp_putIf hoj (Region.free_spec hi hfree j oj hoj hji hjun hnot) (λcs b=>Region.noSelect_spec hs i oi cs b hi) (λcs b=>Region.noSelect_spec hs j oj cs b hoj) hQ hy h1
 intro f
 induction f with
 |zero =>
  intro L a w hcl hfree hr hy hSi hS H
  refine ⟨λh=>(by rw [h] at hr;cases hr),λj hj=>?_⟩
  by_cases hji:j=i
  ·subst hji;exact hy.wpOp hi hSi ⟨hS,H⟩
  ·have:=ready_mono hj hji
   rw [H.1] at this
   cases this
 |succ f ih =>
  intro L a w hcl hfree hr hy hSi hS H
  refine ⟨λh=>(by rw [h] at hr;cases hr),λj hj=>?_⟩
  by_cases hji:j=i
  ·subst hji;exact hy.wpOp hi hSi ⟨hS,H⟩
  ·have h1:=H.2 j (ready_mono hj hji)
   refine wpOp_mono (λa' w' h3=>?_) (other f L a w hcl hfree hr hy j hj hji _ h1)
   obtain ⟨hy',hS',H'⟩:=h3
   rw [Array.setIfInBounds_comm _ _ (Ne.symm hji)] at hS'
   have hSj:=hc _ _ hS'
   have hr':=ready_mono hr (Ne.symm hji)
   refine ⟨hSj,ih _ _ _ (hcl.set hj) (aLm hfree λk hk=>?_) hr' hy' (hb _ _ (hcl.set hj) hr' hSj) hS' ?_⟩
   ·by_cases hjk:j=k
    ·subst hjk
     by_cases hl:j<L.size
     ·simp [hl]
     ·simp
    ·rw [getD_set_ne true hjk];exact hk
   ·rw [Array.setIfInBounds_comm _ _ hji];exact H'
end
theorem aA4{M:Array Bool}(hcl:jM ops M):∀(i acc:Nat),(∀k,acc.testBit k=true->M.getD k false=true)->∀k,(zW ops i acc).testBit k=true->M.getD k false=true
 |0,_,h=>h
 |i+1,acc,h=>by
  have e:zW ops (i+1) acc=zW ops i (Bool.rec acc (Nat.lor acc (n9 ops i)) (tN acc i)):=rfl
  rw [e]
  refine aA4 hcl i _ λk hk=>?_
  rw [J4] at hk
  cases hb:acc.testBit i with
  |false=>rw [hb] at hk;exact h k hk
  |true =>
   rw [hb] at hk
   have hk':(acc ||| n9 ops i).testBit k=true:=hk
   rw [Nat.testBit_or,Bool.or_eq_true] at hk'
   rcases hk' with hk|hk
   ·exact h k hk
   ·obtain ⟨o,e,ho,he,hbd,rfl⟩:=aAr.1 hk
    exact hcl i o ho (h i hb) e he hbd
theorem a9r(hq:aF4 Q)(hsel:Region.noSelect ops=true)(hself:∀(i:Nat) (o:Oper) (d:Tmp),ops[i]?=some o->oA o.op=true->o.dst=some d->d ∉ o.looksAt ops)(hrec:kO E.X E.w0 rec){stop:Nat->Bool}{S:Array Bool->World->Prop}(hstop:∀c ts,stop c=true->dZ ops ts c=false)
 (hTB:∀i w,T i w->Below E.w0.heap.size E.w0 w) (hSb:∀M w i o,ops[i]?=some o->T7 o.op=true->jM ops M->i∈Region.ready .any ops M->S M w->T i w) (hSc:∀M w i o,ops[i]?=some o->(o.guard≠none∨mB o.op=true)->S (M.setIfInBounds i true) w->S M w) :
 ∀(m:Nat) (L:Array Bool) (ts:Sl) (hp:Tr) (nx:Nat) (L':Array Bool) (st':St),nW E.X rec ops stop hpF m L ts hp nx=some (L',st')->L.size=ops.size ->
 (∀M w,(∀k,L.getD k false=true->M.getD k false=true)->(∃j∈Region.ready .any ops L,M.getD j false=true)->SR E w->S M w) ->
 (∀M w i o,(∀k,L.getD k false=true->M.getD k false=true)->jM ops M->ops[i]?=some o->T7 o.op=true->i∈Region.ready .any ops M->SR E w->T i w)->∀(fuel:Nat) (r:List aF) (vs:List Value) (w:World) (P:List iD),(∃s,r=r0++s)->bU r ts vs->aG E r hp nx w->(∀i,zF (T i) r (hpF i))->(∀q∈P,kW df E ops L vs hp r w q)->(∀q∈P,gB ops ts q.o.guard=some true)->(∀x∈P,∀y∈P,x.i≠y.i->x.g≠y.g)->rO (LP L P)≤fuel->jM ops (LP L P) ->
 (∀r' vs' w' f',(∃s,r'=r0++s)->bU r' st'.ts vs'->aG E r' st'.hp st'.nx w'->L'.size=ops.size->rO L'≤f'->jM ops L'->qJ stop (Region.ready .any ops L')=true->pK E.X.P ops Q S f' L' ⟨vs'.toArray,df⟩ w') ->
 pK E.X.P ops Q S fuel (LP L P) ⟨vs.toArray,df⟩ w:=by
 intro m
 induction m with
 |zero=>intro L ts hp nx L' st' h;simp [nW] at h
 |succ m ihm =>
  intro L ts hp nx L' st' h hL hSa hT fuel
  induction fuel using Nat.strongRecOn with
  |ind fuel ihf =>
   intro r vs w P hr hs hm hro hP hPg hPd hfu hcl hk
   unfold nW at h
   cases he:qJ stop (Region.ready .any ops L) with
   |true =>
    rw [he,cond_true] at h
    cases h
    have hP0:P=[]:=List.eq_nil_iff_forall_not_mem.2 λq hq=>by
     have h1:=(hP q hq).hrd
     unfold qJ at he
     split at he
     ·rename_i e;rw [e] at h1;cases h1
     ·rename_i c e
      rw [e] at h1
      have h2:q.i=c:=by simpa using h1
      have h3:=hstop c ts he
      have h4:dZ ops ts q.i=true:=by
       unfold dZ
       rw [(hP q hq).hop]
       simp [(hP q hq).hal,hPg q hq,gdT]
      rw [h2,h3] at h4;cases h4
     ·cases he
    subst hP0
    rw [aNZ] at hcl hfu ⊢
    exact hk r vs w fuel hr hs hm hL hfu hcl he
   |false =>
    rw [he,cond_false] at h
    have hSa2:∀i∈Region.ready .any ops L,∀M w,(∀k,(L.setIfInBounds i true).getD k false=true->M.getD k false=true)->(∃j∈Region.ready .any ops (L.setIfInBounds i true),M.getD j false=true)->SR E w->S M w:=λi hi M w hM _ hw =>
     hSa M w (λk hk=>hM k (getD_set_true hk)) ⟨i,hi,hM i (by
      have:i<L.size:=by have:=getD_some (mem_ready.1 hi).1;exact (lB.1 this).1
      simp [this])⟩ hw
    have hT2:∀i,∀M w i2 o,(∀k,(L.setIfInBounds i true).getD k false=true->M.getD k false=true)->jM ops M->ops[i2]?=some o->T7 o.op=true->i2∈Region.ready .any ops M->SR E w->T i2 w:=λi M w i2 o hM=>hT M w i2 o λk hk=>hM k (getD_set_true hk)
    have hLP:∀k,L.getD k false=true->(LP L P).getD k false=true:=λk hk=>by
     rw [fK] at hk
     rw [fK,mQ]
     cases hq:L[k]? with
     |none=>rw [hq] at hk;simp at hk
     |some b=>rw [hq] at hk;simp at hk;simp [hk]
    have hSe:∀j∈Region.ready .any ops L,∀w,SR E w->S ((LP L P).setIfInBounds j true) w:=λj hj w hw=>hSa _ w (λk hk=>getD_set_true (by
     rw [fK] at hk
     rw [fK,mQ]
     cases hq:L[k]? with
     |none=>rw [hq] at hk;simp at hk
     |some b=>rw [hq] at hk;simp at hk;simp [hk])) ⟨j,hj,by
     have h1:=getD_some (mem_ready.1 hj).1
     have:j<(LP L P).size:=by
      have h2:=(lB.1 h1).1
      simpa [LP] using h2
     simp [this]⟩ hw
    cases hal:((Region.ready .any ops L).filter (dZ ops ts)).all (sV E.X ops L ts) with
    |false=>rw [hal,cond_false] at h;cases h
    |true =>
     rw [hal,cond_true] at h
     have hok:∀i∈Region.ready .any ops L,dZ ops ts i=true->sV E.X ops L ts i=true:=λi hi h1=>kK.1 hal i (fY.2 ⟨hi,h1⟩)
     have hqal:∀q∈P,dZ ops ts q.i=true:=λq hq=>by
      have:=hP q hq
      unfold dZ
      rw [this.hop]
      simp [this.hal,hPg q hq,gdT]
     have hqfree:∀q∈P,Region.free .any ops L q.i=true:=λq hq=>(aOb (hok q.i (hP q hq).hrd (hqal q hq))).1
     have hbs:∀{j:Nat},j∈Region.ready .any ops (LP L P)->∃f,fuel=f+1∧rO ((LP L P).setIfInBounds j true)≤f:=λ{j} hj=>by
      have:=aPF (getD_some (mem_ready.1 hj).1)
      exact ⟨fuel-1,by omega,by omega⟩
     have early:∀f,fuel=f+1->∀j,j∈Region.ready .any ops (LP L P)->dZ ops ts j=true->j∈Region.ready .any ops L->(∀q∈P,q.i≠j) ->
      wpOp E.X.P ops Q j (λa' w'=>S ((LP L P).setIfInBounds j true) w'∧pK E.X.P ops Q S f ((LP L P).setIfInBounds j true) a' w') ⟨vs.toArray,df⟩ w:=by
      intro f hf j hj hjal hjr hjP
      obtain ⟨f',hf',hun⟩:=hbs hj
      obtain rfl:f'=f:=by omega
      obtain ⟨hfree,o,d,res,ho,hd,hu,hop⟩:=aOb (hok j hjr hjal)
      obtain ⟨o',ho',hao,hg⟩:=a3k hjal
      rw [ho] at ho';cases ho'
      obtain ⟨T,cs,us,yf,vf,-,hdc,hrun,-⟩:=aKZ (E:=E) (st:=⟨ts,.e,0⟩) hs hao hop
      unfold wpOp
      have hw:Region.wanted o (yielded ops vs.toArray)=true:=pJ hs hg
      simp only [ho,hw,if_true]
      refine .inl ?_
      unfold Oper.wp
      rw [hrun w]
      show S _ _∧pK _ _ _ _ _ _ _ _
      rw [oR,hd]
      have hb:=aCg w (.cells us.toArray T)
      have hm1:=hm.grow hb
      refine ⟨hSe j hjr _ hm1.sr,?_⟩
      have hcl2:=hcl.set hj
      have e:=bBc L P ⟨j,o,d,w.heap.size,T,us,vf⟩
      show pK _ _ _ _ _ ((LP L P).setIfInBounds j true) _ _
      simp only at e
      rw [e] at hun hcl2 ⊢
      refine ihf f' (by omega) r (vs.set d (vf w.heap.size)) _ _ hr (bU.hide hs hu _) hm1 hro (λq hq=>?_) (λq hq=>by
       rcases bG.1 hq with rfl|hq
       ·exact hg
       ·exact hPg q hq) (λx hx y hy hne=>?_) hun hcl2 hk
      ·rcases bG.1 hq with rfl|hq
       ·refine ⟨ho,hd,hao,hjr,λhl=>?_,λw'=>?_,aC.new _ _ _,hm.below.size,λhu=>?_,λhu=>?_,λn b M hn hM=>?_⟩
        ·rw [List.length_set] at hl
         simp [hl]
        ·have e1:=execOp_put o (λcs b=>Region.noSelect_spec hsel j o cs b ho) ⟨vs.toArray,df⟩ (some d) (vf w.heap.size) (λd' hd'=>by cases hd';exact hself j o d ho hao hd)
         rw [oR] at e1
         show (execOp (Act.eval ⟨(vs.set d (vf w.heap.size)).toArray,df⟩) o).run _ _=_
         have e2:j6 vs (some d) (vf w.heap.size)=vs.set d (vf w.heap.size):=rfl
         rw [e2] at e1
         rw [e1]
         exact hrun w'
        ·have:=(hm.fz _ hu).1
         have:=hm.up
         simp only at *
         omega
        ·have:=(hm.fz _ (hm.rlt _ hu)).1
         have:=hm.up
         simp only at *
         omega
        ·obtain ⟨M',hM',hk'⟩:=hm.blk n b hn
         rw [hM] at hM';cases hM'
         intro hc
         have:=hk'.cov hc
         simp only at this
         omega
       ·have h1:=((hP q hq).grow hb).put0 ho hjr (λe=>hjP q hq e.symm) (hqfree q hq) hsel (vf w.heap.size)
        rw [hd] at h1
        exact h1
      ·rcases bG.1 hx with rfl|hx
       ·rcases bG.1 hy with rfl|hy
        ·exact absurd rfl hne
        ·have:=(hP y hy).hblk.lt
         show w.heap.size≠y.g
         omega
       ·rcases bG.1 hy with rfl|hy
        ·have:=(hP x hx).hblk.lt
         show x.g≠w.heap.size
         omega
        ·exact hPd x hx y hy hne
     split at h
     ·rename_i i o y hpt
      obtain ⟨hi,ho,hfree,hc⟩:=aF0 hpt
      have hne:∀q∈P,q.i≠i:=λq hq e=>by
       have h1:=(hP q hq)
       have h2:=h1.hop
       rw [e,ho] at h2;cases h2
       rcases hc with ⟨hg,-⟩|⟨-,hp,-⟩
       ·rw [hPg q hq] at hg;cases hg
       ·rw [a2S h1.hal] at hp;cases hp
      have hiR:=aEe hi hne
      obtain ⟨f,rfl,hun⟩:=hbs hiR
      have hi2:o.guard≠none∨mB o.op=true:=by
       rcases hc with ⟨hg,-⟩|⟨-,hp,-⟩
       ·exact .inl λe=>by rw [e] at hg;cases hg
       ·exact .inr hp
      have hy:∃v,∃Si:World->Prop,YieldsIf E.X.P ops Si o v ⟨vs.toArray,df⟩∧aP r y v∧(∀M w,jM ops M->i∈Region.ready .any ops M->S M w->Si w)∧Si w:=by
       rcases hc with ⟨hg,rfl⟩|⟨hg,hpu,res,hres,rfl⟩
       ·exact ⟨undef,λ_=>True,.inr ⟨pJ hs hg,rfl⟩,.v _,λ_ _ _ _ _=>trivial,trivial⟩
       ·cases hld:T7 o.op with
        |true =>
         obtain ⟨y',v,rfl,hd,hrun⟩:=aDE (E:=E) (st:=⟨ts,hpF i,nx⟩) (S:=T i) (λ_=>⟨λT x y v hx hl=>a5v (hro i) (hTB i) hm.glob T x y v hx hl,λa b x y v hx hl=>aLR (λn bl L h1 h2=>by obtain ⟨M,us,h3,h4,h5⟩:=hro i n bl h1;rw [h2] at h3;cases h3;exact ⟨us,h4,h5⟩) hx hl⟩) hs hpu hres
         exact ⟨v,T i,.inl ⟨pJ hs hg,hrun⟩,hd,λM w h1 h2 h3=>hSb M w i o ho hld h1 h2 h3,hT _ w i o hLP hcl ho hld hiR hm.sr⟩
        |false =>
         obtain ⟨y',v,rfl,hd,hrun⟩:=aDE (E:=E) (st:=⟨ts,hpF i,nx⟩) (S:=λ_=>True) (λh=>by rw [hld] at h;cases h) hs hpu hres
         exact ⟨v,λ_=>True,.inl ⟨pJ hs hg,hrun⟩,hd,λ_ _ _ _ _=>trivial,trivial⟩
      obtain ⟨v,Si,hyi,hd,hbi,hSw⟩:=hy
      refine aXE ho hsel (λc a w h=>hq c a _ _ w h) hbi (λM w=>hSc M w i o ho hi2) f (LP L P) _ w hcl (aLm hfree λj hj=>aQK j hj) hiR hyi hSw (hSe i hi w hm.sr) ?_
      have hcl2:=hcl.set hiR
      rw [aOF] at hun hcl2 ⊢
      rw [oR]
      exact ihm _ _ _ _ _ _ h (by simpa using hL) (hSa2 i hi) (hT2 i) f r _ w P hr (bU.putS hs hd o.dst) hm hro (λq hq'=>(hP q hq').put ho hi (Ne.symm (hne q hq')) (hqfree q hq') hsel v) (λq hq'=>(hP q hq').gput ho hi (Ne.symm (hne q hq')) (hqfree q hq') y (hPg q hq')) hPd hun hcl2 hk
     ·split at h
      ·rename_i c hlo
       have hcl0:c∈(Region.ready .any ops L).filter (λi=>!dZ ops ts i):=by rw [hlo];simp
       obtain ⟨hcr,hcn⟩:=fY.1 hcl0
       simp only [Bool.not_eq_true'] at hcn
       have hne:∀q∈P,q.i≠c:=λq hq e=>by
        have:=hqal q hq
        rw [e,hcn] at this;cases this
       have hcR:=aEe hcr hne
       obtain ⟨f,rfl,-⟩:=hbs hcR
       split at h
       ·rename_i o ho
        by_cases hrd:Region.ready .any ops (setL L ((Region.ready .any ops L).filter (dZ ops ts)))=[c]
        ·rw [decide_eq_true hrd,cond_true] at h
         split at h
         ·rename_i y hp' nx' hg hl
          refine ⟨λe=>(by rw [e] at hcR;cases hcR),λj hj=>?_⟩
          obtain ⟨hjP,hj2⟩:=aKC (λq hq=>fY.2 ⟨(hP q hq).hrd,hqal q hq⟩) hj hL
          rcases hj2 with hj2|hj2
          ·obtain ⟨hj3,hj4⟩:=fY.1 hj2
           exact early f rfl j hj hj4 hj3 hjP
          ·rw [hrd] at hj2
           obtain rfl:j=c:=by simpa using hj2
           obtain ⟨f',hf',hun⟩:=hbs hcR
           obtain rfl:f'=f:=by omega
           unfold wpOp
           simp only [ho,pJ hs hg,if_true]
           refine .inl ?_
           refine aMT (E:={ E with wU:=w,U:=λk=>E.U k∨∃q∈P,q.g=k }) hrec hs (hm.frame hP) hl (λq v w' hd hm1=>?_)
           have hm2:=hm.unframe hm1
           refine ⟨hSe _ hcr _ hm2.sr,?_⟩
           have hcl2:=hcl.set hcR
           rw [aOF] at hun hcl2 ⊢
           refine ihm _ _ _ _ _ _ h (by simpa using hL) (hSa2 _ hcr) (hT2 _) f' (r++q) _ w' P ?_ (bU.putS (hs.mono q) hd o.dst) hm2 (λi=>(hro i).mono q) (λp hp=>((hP p hp).moved hp hm1).put ho hcr (Ne.symm (hne p hp)) (hqfree p hp) hsel v) (λp hp=>(hP p hp).gput ho hcr (Ne.symm (hne p hp)) (hqfree p hp) y (hPg p hp)) hPd hun hcl2 hk
           obtain ⟨s,rfl⟩:=hr
           exact ⟨s++q,by simp⟩
         ·cases h
        ·rw [decide_eq_false hrd] at h;cases h
       ·cases h
      ·split at h
       ·rename_i hlo a rest hall
        have hal2:a∈(Region.ready .any ops L).filter (dZ ops ts):=by rw [hall];simp
        obtain ⟨har,haa⟩:=fY.1 hal2
        split at h
        ·rename_i o ho
         by_cases hrd:Region.ready .any ops (setL L rest)=[a]
         ·rw [decide_eq_true hrd,cond_true] at h
          split at h
          ·rename_i y hp' nx' hop
           by_cases hpen:∃q∈P,q.i=a
           ·have hpen':=hpen
            obtain ⟨q,hqP,hqi⟩:=hpen
            have hq0:=hP q hqP
            have e1:=hq0.hop
            rw [hqi,ho] at e1;cases e1
            obtain ⟨T,cs,us,yf,vf,hres,hdc,hrun,hyf⟩:=aKZ (E:=E) (st:=⟨ts,hp,nx⟩) hs hq0.hal hop
            obtain ⟨rfl,rfl,rfl⟩:=a2Y w hrun hq0.hrun
            cases hres
            have hm1:=hm.name hq0 hdc
            have hnew:(r++[(⟨q.g,0,0,none,λ_=>False⟩:aF)])[nx]?=some ⟨q.g,0,0,none,λ_=>False⟩:=by rw [<-hm.len];simp
            have hdy:=hyf _ nx q.g hnew
            rw [a1g L P a hpen'] at hfu hcl ⊢
            refine ihm _ _ _ _ _ _ h (by simpa using hL) (hSa2 a har) (hT2 a) fuel _ vs w _ ?_ ?_ hm1 (λi=>(hro i).mono _) (λp hp=>?_) (λp hp=>by
             obtain ⟨hp1,hp2⟩:=fY.1 hp
             have hpi:p.i≠a:=by simpa using hp2
             exact (hP p hp1).gput ho har (Ne.symm hpi) (hqfree p hp1) _ (hPg p hp1)) (λx hx y hy=>hPd x (fY.1 hx).1 y (fY.1 hy).1) hfu hcl hk
            ·obtain ⟨s,rfl⟩:=hr
             exact ⟨s++[⟨q.g,0,0,none,λ_=>False⟩],by simp⟩
            ·rw [hq0.hd]
             exact bU.tell (hs.mono _) λhl=>by rw [hq0.hsl hl];exact hdy
            ·obtain ⟨hp1,hp2⟩:=fY.1 hp
             have hpi:p.i≠a:=by simpa using hp2
             have hpo:=hP p hp1
             refine { hpo with hrd:=ready_mono hpo.hrd hpi,hfar:=λn b M hn hM=>?_ }
             by_cases hne:n=nx
             ·subst hne
              rw [hnew] at hM;cases hM
              rw [bC.get_put,if_pos rfl] at hn;cases hn
              exact λhc=>hPd q hqP p hp1 (by rw [hqi];exact Ne.symm hpi) (hc.eq (by show 0≠8;decide)).symm
             ·rw [bC.get_put,if_neg hne] at hn
              obtain ⟨M',hM',_⟩:=hm.blk n b hn
              exact hpo.hfar n b M hn (hO hM (zL hM'))
           ·have hne:∀q∈P,q.i≠a:=λq hq e=>hpen ⟨q,hq,e⟩
            have haR:=aEe har hne
            obtain ⟨f,rfl,-⟩:=hbs haR
            refine ⟨λe=>(by rw [e] at haR;cases haR),λj hj=>?_⟩
            have hsub:∀q∈P,q.i∈rest:=λq hq=>by
             have h1:q.i∈(Region.ready .any ops L).filter (dZ ops ts):=fY.2 ⟨(hP q hq).hrd,hqal q hq⟩
             rw [hall] at h1
             exact (bG.1 h1).resolve_left (hne q hq)
            obtain ⟨hjP,hj2⟩:=aKC hsub hj hL
            have hj3:j∈(Region.ready .any ops L).filter (dZ ops ts):=by
             rw [hall]
             rcases hj2 with hj2|hj2
             ·exact List.mem_cons_of_mem _ hj2
             ·rw [hrd] at hj2
              simp at hj2
              simp [hj2]
            obtain ⟨hj4,hj5⟩:=fY.1 hj3
            exact early f rfl j hj hj5 hj4 hjP
          ·cases h
         ·rw [decide_eq_false hrd] at h;cases h
        ·cases h
       ·cases h
      ·cases h
end
end
