/- A part of the proof of TopSealed. -/
import Derived.Test.YtjboelhcieepkaaGreatDoorRows
import Derived.WalkKit
import Derived.WalkSpells
import Derived.WalkLawsBesides
import Derived.Lib.Hide
import Derived.ProofKit
import Derived.OpenShut
import Derived.ChangeSame
import Derived.Laws.OwnMore
import Derived.Deep.AppendLies
import Derived.Deep.Draws
import Derived.Laws.Rows
import Derived.Maps.AppendAt
import Derived.RegionTactic
import Derived.OwnWalk
import Derived.Laws.MakeOwn
import Derived.Laws.Entries
import Derived.Deep.WholeRow
import Derived.Deep.MidRow
import Derived.Deep.RegionLaw
import Derived.Laws.CopyRow
import Derived.Laws.Tables
import Derived.BigRegion
import Derived.BigQuiet
import Derived.Deep.QuietTactic
noncomputable section
set_option maxRecDepth 16384
set_option maxHeartbeats 800000
namespace Go.Proofs.YtjboelhcieepkaaGreatDoor
universe u v
theorem bG:∀{α:Type u} {b:α} {l:List α} {a:α},a∈b::l↔a=b∨a∈l:=@List.mem_cons
theorem cK:∀{α:Type u} {a:α},¬a∈[]:=@List.not_mem_nil
theorem b6:∀{α:Type u} (x w:α),(some x=some w)=(x=w):=@Option.some.injEq
theorem cH:∀{α:Type u} {β:Type v} (a:α) (b:β) (c:α) (d:β),((a,b)=(c,d))=(a=c∧b=d):=@Prod.mk.injEq
theorem bJ:∀(a b:Bool),((a && b)=true)=(a=true∧b=true):=@Bool.and_eq_true
theorem aS:∀(n:Nat),n≤n:=@Nat.le_refl
theorem bI:∀{n m k:Nat},n≤m->m≤k->n≤k:=@Nat.le_trans
theorem cP:∀{α:Type u} {l:List α} {i:Nat} {a:α},l.getD i a=l[i]?.getD a:=@List.getD_eq_getElem?_getD
theorem dE:∀{α:Type u} {b:α} {γ:Type v} {x:Option γ} {f:γ->α},Option.map f x=some b↔∃ a,x=some a∧f a=b:=@Option.map_eq_some_iff
theorem eZ:∀{α:Type u} {l:List α} {i:Nat} (h:i<l.length),l[i]?=some l[i]:=@List.getElem?_eq_getElem
theorem fK:∀{α:Type u} {xs:Array α} {i:Nat} {d:α},xs.getD i d=xs[i]?.getD d:=@Array.getD_eq_getD_getElem?
theorem eU:∀{n m:Nat},n.beq m=true->n=m:=@Nat.eq_of_beq_eq_true
theorem fA:∀{α:Type u} {l:List α} {i:Nat},l.length≤i->l[i]?=none:=@List.getElem?_eq_none
theorem eQ:∀{n m k:Nat},n<m->m≤k->n<k:=@Nat.lt_of_lt_of_le
theorem eS:∀{α:Type u} {k m:List α},(k++m).length=k.length+m.length:=@List.length_append
theorem dF:∀{m n:Nat},m∈List.range n↔m<n:=@List.mem_range
theorem eC:∀{α:Type u} (k:List α),k++[]=k:=@List.append_nil
theorem eL:∀{α:Type u} {a:α} {s t:List α},a∈s++t↔a∈s∨a∈t:=@List.mem_append
theorem dC:∀{α:Type u} {β:Type v} {b:β} {f:α->β} {l:List α},b∈List.map f l↔∃ a,a∈l∧f a=b:=@List.mem_map
theorem gW:∀{α:Type u} {b:α} (k:List α) {bs:List α},b∈bs->b∈k++bs:=@List.mem_append_right
theorem mJ:∀{α:Type u} {l:List α},l.length=0->l=[]:=@List.eq_nil_of_length_eq_zero
theorem lB:∀{α:Type u} {i:Nat} {b:α} {xs:Array α},xs[i]?=some b↔∃ h,xs[i]=b:=@Array.getElem?_eq_some_iff
theorem gD:∀{x y n:Nat},x<2 ^ n->y<2 ^ n->x^^^y<2 ^ n:=@Nat.xor_lt_two_pow
theorem jB:∀{α:Type u} {i:Nat} {l:List α},l.length≤i->List.take i l=l:=@List.take_of_length_le
theorem kI:∀{α:Type u} {i:Nat} {l:List α},l.length≤i->List.drop i l=[]:=@List.drop_of_length_le
theorem iY:∀{α:Type u} {a b:α},a∈[b]↔a=b:=@List.mem_singleton
theorem fY:∀{α:Type u} {p:α->Bool} {k:List α} {x:α},x∈List.filter p k↔x∈k∧p x=true:=@List.mem_filter
theorem mZ:∀{α:Type u} {l₁ l₂:List α} {i:Nat},i<l₁.length->(l₁++l₂)[i]?=l₁[i]?:=@List.getElem?_append_left
theorem kJ:∀{α:Type u} {a:α} {k:List α} (bs:List α),a∈k->a∈k++bs:=@List.mem_append_left
theorem lR:∀{α:Type u} {n:Nat} {a:α},(List.replicate n a).length=n:=@List.length_replicate
theorem o3:∀{α:Type u} {l₁ l₂:List α} {i:Nat},l₁.length≤i->(l₁++l₂)[i]?=l₂[i - l₁.length]?:=@List.getElem?_append_right
theorem jC:∀{α:Type u} {β:Type v} {f:α->β} {l:List α} {i:Nat},(List.map f l)[i]?=Option.map f l[i]?:=@List.getElem?_map
theorem lC:∀{α:Type u} {xs:Array α},xs.toList.length=xs.size:=@Array.length_toList
theorem jD:∀(b:Bool),(¬b=true)=(b=false):=@Bool.not_eq_true
theorem tL:∀{α:Type u} {xs:Array α} {i:Nat} (h:i<xs.size),xs[i]?=some xs[i]:=@Array.getElem?_eq_getElem
theorem kK:∀{α:Type u} {p:α->Bool} {l:List α},l.all p=true↔∀(x:α),x∈l->p x=true:=@List.all_eq_true
theorem rI:∀{α:Type u} {i:Nat} {a:α} {l:List α},l[i]?=some a↔∃ h,l[i]=a:=@List.getElem?_eq_some_iff
theorem jR:∀{α:Type u} {x w:α},some x=some w->x=w:=@Option.some.inj
theorem bR:∀{p:Prop} [Decidable p],(decide p=true)=p:=@decide_eq_true_eq
theorem vN:∀{α:Type u} {l:List α} {γ:Type v} {f g:α->γ},(∀(a:α),a∈l->f a=g a)->List.map f l=List.map g l:=@List.map_congr_left
theorem rJ:∀{i n:Nat},i<n->(List.range n)[i]?=some i:=@List.getElem?_range
section
theorem ls0{α:Type _}{a b:α}{l:List α}:(a::l).set 0 b=b::l:=rfl
theorem ls1{α:Type _}{a b:α}{l:List α}{n:Nat}:(a::l).set (n+1) b=a::l.set n b:=rfl
theorem Ls{α:Type _}:(∀(a b:α) (l:List α),(a::l).set 0 b=b::l)∧∀(a b:α) (l:List α) (n:Nat),(a::l).set (n+1) b=a::l.set n b:=⟨λ_ _ _=>rfl,λ_ _ _ _=>rfl⟩
open Go.RowKit
theorem aBF(a:Nat)(ha:a<9223372036854775808):(BitVec.ofInt 64 (a:Int)).toNat=a:=by
 rw [BitVec.ofInt_natCast,BitVec.toNat_ofNat];exact Nat.mod_eq_of_lt (by omega)
theorem aTv(a b:Nat)(ha:a<9223372036854775808)(hb:b<9223372036854775808):bits .and .i64 (a:Int) (b:Int)=((a &&& b:Nat):Int):=by
 have hx:a &&& b<2 ^ 63:=Nat.and_lt_two_pow _ (by omega)
 show IntKind.i64.wrap ((BitVec.ofInt 64 (a:Int) &&& BitVec.ofInt 64 (b:Int)).toNat:Int)=_
 rw [BitVec.toNat_and,aBF a ha,aBF b hb,IntKind.wrap_i64]
 omega
theorem aRj(a b:Nat)(ha:a<9223372036854775808)(hb:b<9223372036854775808):bits .xor .i64 (a:Int) (b:Int)=((a ^^^ b:Nat):Int):=by
 have hx:a ^^^ b<2 ^ 63:=gD (by omega) (by omega)
 show IntKind.i64.wrap ((BitVec.ofInt 64 (a:Int) ^^^ BitVec.ofInt 64 (b:Int)).toNat:Int)=_
 rw [BitVec.toNat_xor,aBF a ha,aBF b hb,IntKind.wrap_i64]
 omega
theorem bCr(k:Nat)(hk:k<9223372036854775808):bits .and .i64 (k:Int) 1=((k%2:Nat):Int):=by
 rw [show (1:Int)=((1:Nat):Int) from rfl,aTv k 1 hk (by omega),nat_mask1]
theorem aL6{W w1 w2:World}(h:Below W.heap.size W w1)(k:Below w1.heap.size w1 w2):Below W.heap.size W w2 :=
 h.trans (k.mono h.size)
theorem jV{B:Nat}{a w:World}(h:Below B a w)(n:Nat):Below B a (w.drewN n):=⟨h.os,h.tape,h.output,h.size,h.block⟩
theorem bCN{w:World}{a:Addr}{v u:Value}(h:w.cell? a=some u):(w.setCell a v).cell? a=some v:=World.cell?_setCell_same' w a v (by rw [h];rfl)
theorem a2e{w:World}{g i j:Nat}{v:Value}(h:i≠j):(w.setCell ⟨g,i,none⟩ v).cell? ⟨g,j,none⟩=w.cell? ⟨g,j,none⟩ :=
 World.cell?_setCell_other w ⟨g,i,none⟩ ⟨g,j,none⟩ v (λe=>h (by injection e))
theorem z6{w:World}{g g' i j:Nat}{v:Value}(h:g≠g'):(w.setCell ⟨g,i,none⟩ v).cell? ⟨g',j,none⟩=w.cell? ⟨g',j,none⟩ :=
 World.cell?_setCell_other w ⟨g,i,none⟩ ⟨g',j,none⟩ v (λe=>h (by injection e))
theorem wX{k:IntKind}{a b:Int}(h:a=b):Ending.returned (.int k a)=.returned (.int k b):=by rw [h]
end
end Go.Proofs.YtjboelhcieepkaaGreatDoor
namespace Go.Proofs.YtjboelhcieepkaaGreatDoor
open Go.RowKit Go.WideShapes Go.ChangeShapes
section
variable {H:Type}{enc:TypeId×Value->H}{P:Program}
theorem a4w{f:Func}{s:ChangeSpec}{apart fresh handsOn again:Bool}{W W':World}{args:Array Value}{v:Value}{ds gs:List (DataW H)}{before pa pv:List MemPlace}
 (hW:DataW.Whole enc P f.params.toList s.vars apart W args.toList ds gs before)
 (hres:∀(b:Nat) (sp:Nat->Bool) (hd:Bool),DataW.TrodAll enc P W' b sp hd f.resultTypes.toList (v.resultList f.resultTypes.size) (s.fn H (ds++gs)).results [])
 (hargs:∀sp:Nat->Bool,(∀p∈before,sp p.block=true)->DataW.TrodAll enc P W' 0 sp true f.params.toList args.toList (s.fn H (ds++gs)).args pa)
 (hvars:∀sp:Nat->Bool,(∀p∈before,sp p.block=true)->DataW.TrodVars enc P W' sp s.vars (s.fn H (ds++gs)).vars pv)
 (hps:before=pa++pv) (hb:Below W.heap.size W W')
 (hok:∀(j:Nat) (t:TypeId) (r:Value),f.resultTypes[j]?=some t->(v.resultList f.resultTypes.size)[j]?=some r->Value.okWide P W' .any 0 t r) :
 s.post enc P f apart fresh handsOn again W args v W':=by
 have hlt:∀p∈before,p.block<W.heap.size:=λp hp=>hW.lt p hp
 have hold:∀p∈before,(λb=>decide (b<W.heap.size)) p.block=true:=λp hp=>by simpa using hlt p hp
 refine ⟨ds,gs,before,[],pa,pv,hW,hres _ _ _,hargs _ hold,hvars _ hold,World.keptBut_mono (λp hp=>⟨hp,?_⟩) (hb.frame (·∈before)),λ_=>?_⟩
 ·rw [hps,eL] at hp
  exact Or.inr hp
 ·obtain ⟨_,_,_,_,_,hz,hn⟩:=hW
  refine ⟨hok,_,_,([]++pa)++pv,⟨[]++pa,pv,trodAll_append (hargs _ (λ_ _=>rfl)) (hres _ _ _),hvars _ (λ_ _=>rfl),rfl,?_,?_⟩,?_⟩
  ·intro b off hp
   have hin:MemPlace.cell b off∈before:=by rw [hps];simpa using hp
   rw [hb.frozen (hlt _ hin)]
   exact hz b off hin
  ·intro ha
   have:=hn ha
   rw [hps] at this
   simpa using this
  ·intro p hp _
   rw [hps]
   simpa using hp
end
end Go.Proofs.YtjboelhcieepkaaGreatDoor
namespace Go.Proofs.YtjboelhcieepkaaGreatDoor
open Go.RowKit
theorem D6(a:Addr)(n:Nat):(a.add n).block=a.block:=by unfold Addr.add;split<;>rfl
theorem aKK(a:Addr)(i j:Nat):(a.add i).add j=a.add (i+j):=by
 unfold Addr.add
 by_cases hi:i=0<;>by_cases hj:j=0<;>simp [hi,hj,Nat.add_assoc]
def bH(w:World)(B size:Nat)(A:Option Addr)(n:Nat)(xs:List Value):Prop :=
 xs.length=n*size∧(0<n->∃ad,A=some ad∧ad.block<B∧∀j u,xs[j]?=some u->w.cell? (ad.add j)=some u)
section
variable {w w':World}{B B' size n:Nat}{A:Option Addr}{xs:List Value}
theorem bH.none_:bH w B size A 0 []:=⟨by simp,λh=>absurd h (by omega)⟩
theorem bH.at_{k:Nat}(h:bH w B 1 A n xs)(hk:k<n):∃ad u,A=some ad∧ad.block<B∧xs[k]?=some u∧w.cell? (ad.add k)=some u:=by
 obtain ⟨ad,e,hb,hc⟩:=h.2 (by omega)
 have hl:k<xs.length:=by have:=h.1;omega
 exact ⟨ad,xs[k],e,hb,eZ hl,hc k _ (eZ hl)⟩
theorem bH.keep(h:bH w B size A n xs)(hk:∀p:Addr,p.block<B->w'.cell? p=w.cell? p):bH w' B size A n xs :=
 ⟨h.1,λhn=>by
  obtain ⟨ad,e,hb,hc⟩:=h.2 hn
  exact ⟨ad,e,hb,λj u hu=>(hk _ (by rw [D6];exact hb)).trans (hc j u hu)⟩⟩
theorem bH.below(h:bH w B size A n xs)(hb:Below B w w'):bH w' B size A n xs:=h.keep λ_ hp=>hb.cell hp
theorem bH.alloc(h:bH w B size A n xs)(hB:B≤w.heap.size)(o:Obj):bH (w.alloc o) B size A n xs:=h.keep λp hp=>World.cell?_alloc_lt w o p (by omega)
theorem bH.setCell(h:bH w B size A n xs){p:Addr}(hB:B≤p.block)(u:Value):bH (w.setCell p u) B size A n xs :=
 h.keep λq hq=>World.cell?_setCell_other w p q u (λe=>by subst e;omega)
theorem bH.cut(h:bH w B size A n xs){k cap:Nat}(hk:k≤n)(hc:n≤cap):
 bH w B size (if cap=k then A else A.map (·.add (k*size))) (n-k) (xs.drop (k*size)):=by
 refine ⟨by rw [List.length_drop,h.1,Nat.sub_mul],λhn=>?_⟩
 obtain ⟨ad,rfl,hb,hcell⟩:=h.2 (by omega)
 rw [if_neg (by omega)]
 refine ⟨ad.add (k*size),rfl,by rw [D6];exact hb,λj u hu=>?_⟩
 rw [aKK]
 exact hcell _ u (by rw [<-hu,List.getElem?_drop])
theorem bH.of_own{base:Nat}{e:TypeId}{c:Nat}(h:w.ownsRow base e size (.slice A n c) n xs):bH w w.heap.size size A n xs:=by
 refine ⟨h.1,λhn=>?_⟩
 obtain ⟨g,cap,hv,_,hlt⟩:=h.form hn
 have hA:A=some ⟨g,0,none⟩:=by injection hv
 subst hA
 exact ⟨_,rfl,hlt,h.cells (g:=g) rfl⟩
end
def aC(w:World)(g:Nat)(t:TypeId)(cs:Array Value):Prop:=w.heap[g]?=some (.cells cs t (0,0))
section
variable {w w':World}{g:Nat}{t:TypeId}{cs:Array Value}
theorem aC.lt(h:aC w g t cs):g<w.heap.size:=by
 rcases Nat.lt_or_ge g w.heap.size with hlt|hge
 ·exact hlt
 ·unfold aC at h;rw [Array.getElem?_eq_none hge] at h;cases h
theorem aC.cell(h:aC w g t cs)(i:Nat):w.cell? ⟨g,i,none⟩=cs[i]?:=cell_of_row w g i cs t (0,0) h
theorem aC.frozen(h:aC w g t cs)(i:Nat):w.frozen? ⟨g,i,none⟩=false:=by
 unfold aC at h
 simp [World.frozen?,h]
theorem aC.new(w:World)(t:TypeId)(cs:Array Value):aC (w.alloc (.cells cs t)) w.heap.size t cs:=heap_alloc_new w _
theorem aC.drew(h:aC w g t cs):aC w.drew g t cs:=h
theorem aC.alloc(h:aC w g t cs)(o:Obj):aC (w.alloc o) g t cs:=(Below.heap_alloc w o g h.lt).trans h
theorem aC.set_(h:aC w g t cs)(i:Nat)(u:Value):aC (w.setCell ⟨g,i,none⟩ u) g t (cs.setIfInBounds i u):=by
 unfold aC at h ⊢
 simp [World.setCell,Array.getElem?_modify,h]
theorem aC.far(h:aC w g t cs){p:Addr}(hp:g≠p.block)(u:Value):aC (w.setCell p u) g t cs:=(Below.heap_setCell w p u g hp).trans h
theorem aC.below{B:Nat}(h:aC w g t cs)(hb:Below B w w')(hg:g<B):aC w' g t cs:=(hb.block g hg).trans h
theorem gO{g:Nat}{t:TypeId}{cs:Array Value}{w w':World}(h:aC w g t cs)(hb:Below w.heap.size w w'):aC w' g t cs:=h.below hb h.lt
theorem kQ{B:Nat}{a b c:World}(h:Below B a b)(hB:B≤a.heap.size)(k:Below b.heap.size b c):Below B a c:=h.trans (k.mono (bI hB h.size))
theorem lQ{B:Nat}{a b:World}(h:Below B a b)(hB:B≤a.heap.size)(o:Obj):Below B a (b.alloc o):=h.alloc (bI hB h.size) o
theorem sE(w:World)(o:Obj):Below w.heap.size w (w.alloc o):=(Below.refl _ _).alloc (aS _) o
theorem B9(w:World):∃B,w.heap.size=B∧Below B w w∧B≤w.heap.size:=⟨_,rfl,Below.refl _ _,aS _⟩
theorem aC.grown{row:Option Nat}(h:aC w g t cs)(hb:w.grownBy w' row)(hg:some g≠row):aC w' g t cs:=(hb.block g h.lt hg).trans h
end
section
variable {P:Program}(w:World)
theorem a5z(base:Nat)(t ty e:TypeId)(i:TypeInfo)(size:Nat)(ht:P.underlying t=some (.slice e))(hi:P.info? e=some i)
 (v:Value) (n:Nat) (xs:List Value) (hown:w.ownsRow base e size v n xs) (c:Nat):(Builtin.append_ #[t,t] ty #[v,.slice none 0 c]).run P w=.ok v w:=by
 rcases hown.2 with ⟨rfl,rfl⟩|⟨g,cap,cur,rfl,_,_,hnc,_⟩
 ·simp [Builtin.append_,run_underlying ht,sizeOf,typeInfo,hi,Builtin.lenOf,Builtin.firstCells]
 ·simp [Builtin.append_,run_underlying ht,sizeOf,typeInfo,hi,Builtin.lenOf,Builtin.firstCells,hnc,storeCells]
theorem R4(base:Nat)(t ty e:TypeId)(i:TypeInfo)(z:Value)(size bytes:Nat)(ht:P.underlying t=some (.slice e))(hi:P.info? e=some i)(hz:i.zero=some z)
 (hsize:i.size=size) (hby:i.bytes=bytes) (hzs:z.cells.size=size) (hsz:0<size)
 (v:Value) (n:Nat) (xs:List Value) (hown:w.ownsRow base e size v n xs)
 (B:Nat) (A:Option Addr) (m c:Nat) (news:List Value) (hr:bH w B size A m news) (h1:∀u∈news,u.oneCell'=true)
 (h63:n+m≤maxLen) (hbytes:(n+m)*bytes≤140737488355328) (hbase:base≤w.heap.size) :
 ∃v' w',(Builtin.append_ #[t,t] ty #[v,.slice A m c]).run P w=.ok v' w'∧w'.ownsRow base e size v' (n+m) (xs++news)∧w.grownBy w' v.ownBlock ∧
  (v'.ownBlock=v.ownBlock∨v'.ownBlock=some w.heap.size):=by
 rcases A with _|ad
 ·have hm:m=0:=by
   rcases Nat.eq_zero_or_pos m with h0|h0
   ·exact h0
   ·obtain ⟨ad,h,_⟩:=hr.2 h0
    cases h
  subst hm
  have hn:news=[]:=mJ (by simpa using hr.1)
  subst hn
  exact ⟨v,w,a5z w base t ty e i size ht hi v n xs hown c,by simpa using hown,World.grownBy.refl w _,.inl rfl⟩
 ·have hcells:∀j u,news[j]?=some u->w.cell? (ad.add j)=some u:=by
   intro j u hu
   rcases Nat.eq_zero_or_pos m with h0|h0
   ·subst h0
    have hn:news=[]:=mJ (by simpa using hr.1)
    subst hn
    simp at hu
   ·obtain ⟨ad',h,_,hc⟩:=hr.2 h0
    injection h with h
    subst h
    exact hc j u hu
  obtain ⟨v',w',hrun,h2,h3,_,h5⟩:=run_append_own_at (P:=P) w base t ty e i z size bytes ht hi hz hsize hby hzs hsz v n xs hown ad m c news hr.1 hcells h1 h63 hbytes hbase
  exact ⟨v',w',hrun,h2,h3,h5⟩
theorem aYM{o:Oper}{a:Act}{K:Act->World->Prop}{Q:Exit->Act->World->Prop}(s x:Operand)(t:TypeId)
 (ho:o.op=.call { callee:=.builtin .append,args:=#[s,x],argTypes:=#[t,t] })
 (base:Nat) (e:TypeId) (i:TypeInfo) (z:Value) (size bytes:Nat) (ht:P.underlying t=some (.slice e)) (hi:P.info? e=some i) (hz:i.zero=some z)
 (hsize:i.size=size) (hby:i.bytes=bytes) (hzs:z.cells.size=size) (hsz:0<size)
 (v:Value) (n:Nat) (xs:List Value) (hs:a.eval s=v) (hown:w.ownsRow base e size v n xs)
 (B:Nat) (A:Option Addr) (m c:Nat) (news:List Value) (hx:a.eval x=.slice A m c) (hr:bH w B size A m news) (h1:∀u∈news,u.oneCell'=true)
 (h63:n+m≤maxLen) (hbytes:(n+m)*bytes≤140737488355328) (hbase:base≤w.heap.size)
 (h:∀v' w',w'.ownsRow base e size v' (n+m) (xs++news)->w.grownBy w' v.ownBlock->(v'.ownBlock=v.ownBlock∨v'.ownBlock=some w.heap.size)->K (a.put o.dst v') w'):o.wp P a w K Q:=by
 obtain ⟨v',w',hrun,h2,h3,h4⟩:=R4 (P:=P) w base t o.type e i z size bytes ht hi hz hsize hby hzs hsz v n xs hown B A m c news hr h1 h63 hbytes hbase
 unfold Oper.wp execOp
 simp only [ho,resolve,invoke,builtin,Sem.run_bind,Sem.run_pure,Result.andThen_ok,List.map_toArray,List.map_cons,List.map_nil,hs,hx,hrun]
 exact h v' w' h2 h3 h4
theorem a9D{ops:Array Oper}{o:Oper}{a:Act}{K:Act->World->Prop}{Q:Exit->Act->World->Prop}{E:Prop}(hgd:o.guard=none)(s x:Operand)(t:TypeId)
 (ho:o.op=.call { callee:=.builtin .append,args:=#[s,x],argTypes:=#[t,t] })
 (base:Nat) (e:TypeId) (i:TypeInfo) (z:Value) (size bytes:Nat) (ht:P.underlying t=some (.slice e)) (hi:P.info? e=some i) (hz:i.zero=some z)
 (hsize:i.size=size) (hby:i.bytes=bytes) (hzs:z.cells.size=size) (hsz:0<size)
 (v:Value) (n:Nat) (xs:List Value) (hs:a.eval s=v) (hown:w.ownsRow base e size v n xs)
 (B:Nat) (A:Option Addr) (m c:Nat) (news:List Value) (hx:a.eval x=.slice A m c) (hr:bH w B size A m news) (h1:∀u∈news,u.oneCell'=true)
 (h63:n+m≤maxLen) (hbytes:(n+m)*bytes≤140737488355328) (hbase:base≤w.heap.size)
 (h:∀v' w',w'.ownsRow base e size v' (n+m) (xs++news)->w.grownBy w' v.ownBlock->(v'.ownBlock=v.ownBlock∨v'.ownBlock=some w.heap.size)->K (a.put o.dst v') w') :
 if Region.wanted o (yielded ops a.tmps)=true then Oper.wp P o a w K Q else E:=by
 have hw:Region.wanted o (yielded ops a.tmps)=true:=by simp [Region.wanted,hgd]
 rw [if_pos hw]
 exact aYM w s x t ho base e i z size bytes ht hi hz hsize hby hzs hsz v n xs hs hown B A m c news hx hr h1 h63 hbytes hbase h
end
def nv(k:IntKind)(l:List Nat):List Value:=l.map λx:Nat=>Value.int k (x:Int)
def va(k:IntKind)(l:List Nat):Array Value:=(nv k l).toArray
theorem aZ(k:IntKind)(l:List Nat):(nv k l).length=l.length:=by simp [nv]
theorem b9(k:IntKind)(l:List Nat):(va k l).size=l.length:=by simp [va,nv]
theorem mL{k:IntKind}{l:List Nat}{i:Nat}(hi:i<l.length):(nv k l)[i]?=some (.int k ((l.getD i 0:Nat):Int)):=by
 simp [nv,hi]
theorem aFk{k:IntKind}{l:List Nat}{i:Nat}(hi:i<l.length):(va k l)[i]?=some (.int k ((l.getD i 0:Nat):Int)):=by
 have:=mL (k:=k) hi
 simpa [va] using this
theorem aI7(k:IntKind)(l:List Nat)(i v:Nat):(va k l).setIfInBounds i (.int k (v:Int))=va k (l.set i v):=by
 simp [va,nv,List.map_set]
theorem wZ(k:IntKind)(l m:List Nat):nv k l++nv k m=nv k (l++m):=by simp [nv]
theorem gN(k:IntKind)(l:List Nat):∀u∈nv k l,u.oneCell'=true:=by
 intro u hu;simp [nv] at hu;obtain ⟨x,_,rfl⟩:=hu;rfl
theorem rT(k:IntKind)(l:List Nat)(n:Nat):(nv k l).drop n=nv k (l.drop n):=by simp [nv]
theorem tW(k:IntKind)(l:List Nat)(n:Nat):(nv k l).take n=nv k (l.take n):=by simp [nv]
theorem aC.num{w:World}{g:Nat}{t:TypeId}{k:IntKind}{l:List Nat}(h:aC w g t (va k l)){i:Nat}(hi:i<l.length):w.cell? ⟨g,i,none⟩=some (.int k ((l.getD i 0:Nat):Int)):=by
 rw [h.cell,aFk hi]
theorem aC.setNum{w:World}{g:Nat}{t:TypeId}{k:IntKind}{l:List Nat}(h:aC w g t (va k l))(i v:Nat):aC (w.setCell ⟨g,i,none⟩ (.int k (v:Int))) g t (va k (l.set i v)):=by
 have:=h.set_ i (.int k (v:Int))
 rwa [aI7] at this
theorem eX(g o i:Nat):(⟨g,o,none⟩:Addr).add i=⟨g,o+i,none⟩:=by
 unfold Addr.add;split
 ·rename_i h;subst h;rfl
 ·rfl
theorem sJ(w:World)(g:Nat)(c:Array Value)(k:Nat)(h:g≠k):(w.setRow g c).heap[k]?=w.heap[k]?:=by
 simp only [World.setRow,Array.getElem?_modify]
 rw [if_neg h]
theorem eJ{B:Nat}{a w:World}(h:Below B a w){g:Nat}(hg:B≤g)(c:Array Value):Below B a (w.setRow g c) :=
 h.trans ⟨rfl,rfl,rfl,by simp [World.setRow],λk hk=>sJ w g c k (by omega)⟩
theorem aC.row{w:World}{g:Nat}{t:TypeId}{cs:Array Value}(h:aC w g t cs)(c:Array Value):aC (w.setRow g c) g t c:=setRow_heap w g cs c t _ h
theorem aC.rowFar{w:World}{g g':Nat}{t:TypeId}{cs:Array Value}(h:aC w g t cs)(hne:g'≠g)(c:Array Value):aC (w.setRow g' c) g t cs:=(sJ w g' c g hne).trans h
theorem mU{P:Program}{w:World}{g:Nat}{t:TypeId}{old:Array Value}(h:aC w g t old)(k:IntKind)(l:List Nat)(hs:old.size=l.length):
 (storeCells ⟨g,0,none⟩ (va k l).toList).run P w=.ok () (w.setRow g (va k l)):=by
 have e:=run_storeCells_from (P:=P) g t (va k l).toList 0 old w h (by simp [b9];omega) (λv hv=>gN k l v (by simpa [va] using hv))
 simpa using e
theorem tF{P:Program}(u:World)(t:TypeId)(old:Array Value)(k:IntKind)(l:List Nat)(hs:old.size=l.length):
 (storeCells ⟨u.heap.size,0,none⟩ (va k l).toList).run P (u.alloc (.cells old t))=.ok () (u.alloc (.cells (va k l) t)):=by
 have e:=mU (P:=P) (aC.new u t old) k l hs
 rw [e,World.setRow_alloc_new]
theorem aHZ{P:Program}(u:World)(t:TypeId)(old c:Array Value)(hs:old.size=c.size)(h1:∀v∈c.toList,v.oneCell'=true):
 (storeCells ⟨u.heap.size,0,none⟩ c.toList).run P (u.alloc (.cells old t))=.ok () (u.alloc (.cells c t)):=by
 have e:=run_storeCells_from (P:=P) u.heap.size t c.toList 0 old (u.alloc (.cells old t)) (aC.new u t old) (by simp;omega) h1
 rw [e,World.setRow_alloc_new];simp
theorem aFs{P:Program}(t e:TypeId)(i:TypeInfo)(z:Value)(ht:P.underlying t=some (.slice e))(hi:P.info? e=some i)(hz:i.zero=some z)
 (kl kc:IntKind) (n c:Nat) (hnc:n≤c) (hbytes:i.bytes*c≤281474976710656) (h63:c≤9223372036854775807) (w:World) :
 (Instr.makeSlice t (.int kl (n:Int)) (.int kc (c:Int))).run P w=.ok (.slice (some ⟨w.heap.size,0,none⟩) n c) (w.alloc (.cells (madeCells z.cells (c*i.size)) e)):=by
 have hb:(i.bytes:Int)*(c:Int)≤281474976710656:=by
  have h:((i.bytes*c:Nat):Int)≤281474976710656:=by omega
  rwa [Int.natCast_mul] at h
 have hr:=run_make (P:=P) w t e i z ht hi hz kl kc n c (by omega) (by omega) hb (by omega)
 simp only [Int.toNat_natCast] at hr
 exact hr
theorem a4N(k:IntKind)(n:Nat):va k (List.replicate n 0)=Array.replicate n (.int k 0):=by
 simp [va,nv]
theorem aAs{P:Program}{t e:TypeId}{n:Nat}{ie:TypeInfo}{k kk:IntKind}{l:List Nat}{i:Nat}(hu:P.underlying t=some (.array n e))(he:P.underlying e=some (.int k))(hie:P.info? e=some ie)(hs:ie.size=1)
 (hl:l.length=n) (hi:i<n) (w:World):(Instr.index t (.agg (va k l)) (.int kk (i:Int))).run P w=.ok (.int k ((l.getD i 0:Nat):Int)) w:=by
 have hg:=aFk (k:=k) (l:=l) (i:=i) (by omega)
 have h1:¬ n≤i:=by omega
 simp [Instr.index,run_underlying hu,asIntOf,part,isAgg,run_underlying he,sizeOf,typeInfo,hie,hs,hg]
 intro h;exact absurd h h1
theorem aC.reads{w:World}{g:Nat}{t:TypeId}{k:IntKind}{l:List Nat}{B:Nat}(h:aC w g t (va k l))(hg:g<B)(o n:Nat)(ho:o+n≤l.length):
 bH w B 1 (some ⟨g,o,none⟩) n (nv k ((l.drop o).take n)):=by
 refine ⟨by rw [aZ];simp;omega,λ_=>⟨_,rfl,hg,λj u hu=>?_⟩⟩
 have hj:j<((l.drop o).take n).length:=by
  rcases Nat.lt_or_ge j ((l.drop o).take n).length with h|h
  ·exact h
  ·rw [fA (by rw [aZ];exact h)] at hu;cases hu
 rw [mL hj] at hu
 injection hu with hu
 rw [eX,h.num (by simp at hj;omega),<-hu]
 have hj':j<n:=by simp at hj;omega
 congr 3
 simp [List.getElem?_drop,hj']
theorem bH.num{w:World}{B n:Nat}{A:Option Addr}{k:IntKind}{l:List Nat}(h:bH w B 1 A n (nv k l)){i:Nat}(hi:i<n):
 ∃ad,A=some ad∧ad.block<B∧w.cell? (ad.add i)=some (.int k ((l.getD i 0:Nat):Int)):=by
 obtain ⟨ad,u,e,hb,hu,hc⟩:=h.at_ hi
 have hl:l.length=n:=by have:=h.1;rw [aZ] at this;omega
 rw [mL (by omega)] at hu
 injection hu with hu
 exact ⟨ad,e,hb,by rw [hc,hu]⟩
theorem bH.len{w:World}{B n:Nat}{A:Option Addr}{k:IntKind}{l:List Nat}(h:bH w B 1 A n (nv k l)):l.length=n:=by
 have:=h.1;rw [aZ] at this;omega
theorem a0e(v:Value)(hv:v.cells=#[v])(n:Nat):madeCells v.cells (n*1)=Array.replicate n v:=by
 rw [hv]
 apply Array.ext
 ·simp [madeCells]
 ·intro i h1 h2
  simp [madeCells,Nat.mod_one]
theorem xM:(Tryz.prog.info? 5).map (λi=>(i.zero,i.size,i.bytes))=some (some (.int .u8 0),1,1):=by kernel_rfl
theorem Z2(n:Nat)(hn:n≤281474976710656)(w:World):
 (Instr.makeSlice 23 (.int .i64 (n:Int)) (.int .i64 (n:Int))).run Tryz.prog w=.ok (.slice (some ⟨w.heap.size,0,none⟩) n n) (w.alloc (.cells (va .u8 (List.replicate n 0)) 5)):=by
 obtain ⟨i0,hi,hz0,hz1,hz2⟩:=info_parts xM
 have h:=aFs (P:=Tryz.prog) 23 5 i0 (.int .u8 0) Tryz.underlying23 hi hz0 .i64 .i64 n n (aS _) (by rw [hz2];omega) (by omega) w
 rw [h,a4N,hz1,a0e _ rfl]
end Go.Proofs.YtjboelhcieepkaaGreatDoor
namespace Go.Proofs.YtjboelhcieepkaaGreatDoor.Sh
def Byt(l:List Nat):Prop:=∀x∈l,x<256
theorem Byt.get{l:List Nat}(h:Byt l)(i:Nat):l.getD i 0<256:=by
 by_cases hi:i<l.length
 ·rw [cP,eZ hi];exact h _ (List.getElem_mem hi)
 ·rw [cP,fA (by omega)];simp
theorem Byt.nil:Byt []:=λx h=>by cases h
theorem Byt.app{l m:List Nat}(h:Byt l)(k:Byt m):Byt (l++m):=λx hx=>by
 rcases eL.1 hx with hx|hx
 ·exact h x hx
 ·exact k x hx
theorem Byt.take{l:List Nat}(h:Byt l)(n:Nat):Byt (l.take n):=λx hx=>h x (List.mem_of_mem_take hx)
theorem Byt.drop{l:List Nat}(h:Byt l)(n:Nat):Byt (l.drop n):=λx hx=>h x (List.mem_of_mem_drop hx)
theorem Byt.rep(n v:Nat)(hv:v<256):Byt (List.replicate n v):=λx hx=>by
 rw [List.eq_of_mem_replicate hx];exact hv
theorem oS{l m:List Nat}(hl:l.length=m.length)(h:∀i,i<l.length->l.getD i 0=m.getD i 0):l=m:=by
 apply List.ext_getElem hl
 intro i h1 h2
 have:=h i h1
 simpa [h1,h2] using this
theorem fS(f:Nat->Nat)(n i:Nat)(hi:i<n):((List.range n).map f).getD i 0=f i:=by
 simp [hi]
theorem getD_set_eq{l:List Nat}{i v:Nat}(h:i<l.length):(l.set i v).getD i 0=v:=by
 simp [h]
theorem getD_set_ne{l:List Nat}{i j v:Nat}(h:i≠j):(l.set i v).getD j 0=l.getD j 0:=by
 simp [h]
def U0(v n j:Nat):Nat:=v / 2 ^ (8*(n-1-j))%256
def beB(v n:Nat):List Nat:=(List.range n).map (U0 v n)
theorem beB_len(v n:Nat):(beB v n).length=n:=by simp [beB]
theorem beB_byt(v n:Nat):Byt (beB v n):=λx hx=>by
 obtain ⟨j,_,rfl⟩:=dC.1 hx
 exact Nat.mod_lt _ (by omega)
def j4(v n i:Nat):List Nat:=(List.range n).map λj=>if n-1-j<i then U0 v n j else 0
theorem s9(v n i:Nat):(j4 v n i).length=n:=by simp [j4]
theorem aNE(v n:Nat):j4 v n 0=List.replicate n 0:=by
 apply oS (by simp [j4])
 intro j hj
 rw [s9] at hj
 rw [j4,fS _ _ _ hj];simp [hj]
theorem aOh(v n i:Nat)(hi:i<n):(j4 v n i).set (n-1-i) (v / 2 ^ (8*i)%256)=j4 v n (i+1):=by
 apply oS (by rw [List.length_set,s9,s9])
 intro j hj
 rw [List.length_set,s9] at hj
 by_cases e:n-1-i=j
 ·subst e
  rw [getD_set_eq (by rw [s9];omega),j4,fS _ _ _ hj,if_pos (by omega),U0,show n-1-(n-1-i)=i from by omega]
 ·rw [getD_set_ne e,j4,fS _ _ _ hj,j4,fS _ _ _ hj]
  by_cases h:n-1-j<i
  ·rw [if_pos h,if_pos (by omega)]
  ·rw [if_neg h,if_neg (by omega)]
theorem aIZ(v n:Nat):j4 v n n=beB v n:=by
 apply oS (by rw [s9,beB_len])
 intro j hj
 rw [s9] at hj
 rw [j4,fS _ _ _ hj,beB,fS _ _ _ hj,if_pos (by omega)]
def fB(l:List Nat):Nat:=l.foldl (λa x=>a*256+x) 0
theorem aGN(l:List Nat)(x:Nat):fB (l++[x])=fB l*256+x:=by simp [fB]
theorem aAa(l:List Nat)(h:Byt l):fB l<2 ^ (8*l.length):=by
 have key:∀n,∀l:List Nat,l.length=n->Byt l->fB l<2 ^ (8*n):=by
  intro n
  induction n with
  |zero=>intro l hl _;obtain rfl:=mJ hl;simp [fB]
  |succ n ih =>
   intro l hl hb
   have hne:l≠[]:=by rintro rfl;simp at hl
   rw [<-List.dropLast_concat_getLast hne,aGN]
   have h1:=ih l.dropLast (by simp;omega) (λx hx=>hb x ((List.dropLast_sublist l).subset hx))
   have h2:=hb _ (List.getLast_mem hne)
   rw [show 8*(n+1)=8*n+8 from by omega,Nat.pow_add]
   omega
 exact key _ l rfl h
theorem aBv(l:List Nat)(k:Nat)(h:k<l.length):l.take (k+1)=l.take k++[l.getD k 0]:=by
 rw [List.take_succ_eq_append_getElem h];simp [h]
theorem aXo(v x:Nat)(hx:x<256):v*256 ||| x=v*256+x:=by
 have h:=Nat.two_pow_add_eq_or_of_lt (i:=8) (b:=x) (by omega) v
 rw [Nat.mul_comm];exact h.symm
def h0T:Nat:=0x5be0cd191f83d9ab9b05688c510e527fa54ff53a3c6ef372bb67ae856a09e667
def kT:Nat:=25051139735836467913601071899189108501681633092613316132753366958947502841281110980347811086624969305314199562795868290539880502533646505489797110349007385020507326982043050618112420254613810441709594605123090411975756494285771699200369901479195251226368983824020564277645963860728452821576845901498668417244438721537663670541944820957180957595559282976806173113161068298822071065329290006052849814285001949914564097058408480133985233335799884203712730341384999677089997083749077591931498939520449886954646413138343858395935213418018409268340744776361518554939863400075967197509182087778881547827184266701615699472280
def pO(t:Nat):Nat:=(kT >>> (32*t))%4294967296
def hAt(t:Nat):Nat:=(h0T >>> (32*t))%4294967296
def kL:List Nat:=(List.range 64).map pO
def hL:List Nat:=(List.range 8).map hAt
def eM(x n:Nat):Nat:=x >>> n ||| (x <<< (32-n))%4294967296
def yV(x:Nat):Nat:=eM x 7 ^^^ eM x 18 ^^^ x >>> 3
def D5(x:Nat):Nat:=eM x 17 ^^^ eM x 19 ^^^ x >>> 10
def T5(b:List Nat)(t:Nat):Nat:=fB ((b.drop (4*t)).take 4)
def Z9(l:List Nat):Nat:=(((D5 (l.getD 1 0)+l.getD 6 0)%4294967296+yV (l.getD 14 0))%4294967296+l.getD 15 0)%4294967296
def jA(b:List Nat):Nat->List Nat
 |0=>((List.range 16).map (T5 b)).reverse
 |n+1=>Z9 (jA b n)::jA b n
def eE(b:List Nat)(t:Nat):Nat:=(jA b 48).getD (63-t) 0
def ch(e f g:Nat):Nat:=(e &&& f) ^^^ ((4294967295-e) &&& g)
def mj(a b c:Nat):Nat:=((a &&& b) ^^^ (a &&& c)) ^^^ (b &&& c)
def B5(e:Nat):Nat:=eM e 6 ^^^ eM e 11 ^^^ eM e 25
def bED(a:Nat):Nat:=eM a 2 ^^^ eM a 13 ^^^ eM a 22
def t1(k w:Nat)(x:List Nat):Nat:=((((x.getD 7 0+B5 (x.getD 4 0))%4294967296+ch (x.getD 4 0) (x.getD 5 0) (x.getD 6 0))%4294967296+k)%4294967296+w)%4294967296
def t2(x:List Nat):Nat:=(bED (x.getD 0 0)+mj (x.getD 0 0) (x.getD 1 0) (x.getD 2 0))%4294967296
def E6(k w:Nat)(x:List Nat):List Nat :=
 [(t1 k w x+t2 x)%4294967296,x.getD 0 0,x.getD 1 0,x.getD 2 0,(x.getD 3 0+t1 k w x)%4294967296,x.getD 4 0,x.getD 5 0,x.getD 6 0]
def nQ(h b:List Nat):Nat->List Nat
 |0=>h
 |t+1=>E6 (pO t) (eE b t) (nQ h b t)
def tK(h x:List Nat):List Nat:=(List.range 8).map λi=>(h.getD i 0+x.getD i 0)%4294967296
def comp(h b:List Nat):List Nat:=tK h (nQ h b 64)
def hs(l:List Nat):Nat->List Nat
 |0=>hL
 |n+1=>comp (hs l n) ((l.drop (64*n)).take 64)
def zeros(n:Nat):Nat:=(119-n%64)%64
def cV(l:List Nat):List Nat:=l++[128]++List.replicate (zeros l.length) 0++beB (8*l.length) 8
def flat(h:List Nat):List Nat:=(List.range 32).map λi=>U0 (h.getD (i / 4) 0) 4 (i%4)
def sha(l:List Nat):List Nat:=flat (hs (cV l) ((cV l).length / 64))
def nK(l:List Nat):Prop:=∀i,l.getD i 0<4294967296
theorem j3(x n:Nat)(hx:x<4294967296):eM x n<4294967296:=by
 unfold eM
 exact Nat.or_lt_two_pow (n:=32) (Nat.lt_of_le_of_lt (by rw [Nat.shiftRight_eq_div_pow];exact Nat.div_le_self _ _) hx) (Nat.mod_lt _ (by omega))
theorem N1{a b:Nat}(ha:a<4294967296)(hb:b<4294967296):a ^^^ b<4294967296:=gD (n:=32) ha hb
theorem mY{a b:Nat}(ha:a<4294967296):a &&& b<4294967296:=Nat.lt_of_le_of_lt Nat.and_le_left ha
theorem aGb(b:List Nat)(hb:Byt b)(t:Nat):T5 b t<4294967296:=by
 have h:=aAa ((b.drop (4*t)).take 4) ((hb.drop _).take _)
 have h2:((b.drop (4*t)).take 4).length≤4:=by simp;omega
 exact eQ h (Nat.pow_le_pow_right (n:=2) (j:=32) (by omega) (by omega))
theorem a9f(l:List Nat):Z9 l<4294967296:=Nat.mod_lt _ (by omega)
theorem W32_of_mem{l:List Nat}(h:∀x∈l,x<4294967296):nK l:=λi=>by
 by_cases hi:i<l.length
 ·rw [cP,eZ hi];exact h _ (List.getElem_mem hi)
 ·rw [cP,fA (by omega)];simp
theorem a4n(b:List Nat)(hb:Byt b)(n:Nat):∀x∈jA b n,x<4294967296:=by
 induction n with
 |zero=>intro x hx;simp [jA] at hx;obtain ⟨t,_,rfl⟩:=hx;exact aGb b hb t
 |succ n ih =>
  intro x hx
  rcases bG.1 hx with rfl|hx
  ·exact a9f _
  ·exact ih x hx
theorem X0(b:List Nat)(n:Nat):(jA b n).length=16+n:=by
 induction n with
 |zero=>simp [jA]
 |succ n ih=>simp only [jA,List.length_cons,ih];omega
theorem aEX(b:List Nat)(n m i:Nat):(jA b (n+m)).getD (m+i) 0=(jA b n).getD i 0:=by
 induction m with
 |zero=>simp
 |succ m ih =>
  rw [<-ih,show n+(m+1)=(n+m)+1 from by omega,show m+1+i=(m+i)+1 from by omega]
  simp only [jA,List.getD_cons_succ]
theorem pX(b:List Nat)(hb:Byt b)(t:Nat):eE b t<4294967296:=W32_of_mem (a4n b hb 48) _
theorem aIQ(b:List Nat)(t:Nat)(ht:t<16):eE b t=T5 b t:=by
 unfold eE
 have h:=aEX b 0 48 (15-t)
 rw [show 0+48=48 from rfl,show 48+(15-t)=63-t from by omega] at h
 rw [h];unfold jA
 rw [cP,List.getElem?_reverse (by simp;omega)]
 simp only [List.length_map,List.length_range]
 rw [show 16-1-(15-t)=t from by omega,jC,rJ ht];rfl
theorem aKY(b:List Nat)(t:Nat)(h16:16≤t)(ht:t<64):
 eE b t=(((D5 (eE b (t-2))+eE b (t-7))%4294967296+yV (eE b (t-15)))%4294967296+eE b (t-16))%4294967296:=by
 have e:∀s,s<t->t-s≤16->eE b s=(jA b (t-16)).getD (t-1-s) 0:=by
  intro s hs hs2
  have h:=aEX b (t-16) (64-t) (t-1-s)
  rw [show t-16+(64-t)=48 from by omega,show 64-t+(t-1-s)=63-s from by omega] at h
  exact h
 rw [e (t-2) (by omega) (by omega),e (t-7) (by omega) (by omega),e (t-15) (by omega) (by omega),e (t-16) (by omega) (by omega)]
 have h:=aEX b (t-15) (63-t) 0
 rw [show t-15+(63-t)=48 from by omega,Nat.add_zero] at h
 unfold eE
 rw [h,show t-15=(t-16)+1 from by omega]
 rw [show t-1-(t-2)=1 from by omega,show t-1-(t-7)=6 from by omega,show t-1-(t-16+1)=14 from by omega,show t-1-(t-16)=15 from by omega]
 rfl
theorem a4b(k w:Nat)(x:List Nat)(hx:nK x):nK (E6 k w x):=by
 refine W32_of_mem λy hy=>?_
 simp only [E6,bG,cK,or_false] at hy
 rcases hy with rfl|rfl|rfl|rfl|rfl|rfl|rfl|rfl
 ·exact Nat.mod_lt _ (by omega)
 ·exact hx 0
 ·exact hx 1
 ·exact hx 2
 ·exact Nat.mod_lt _ (by omega)
 ·exact hx 4
 ·exact hx 5
 ·exact hx 6
theorem aGu(h b:List Nat)(hh:nK h)(t:Nat):nK (nQ h b t):=by
 induction t with
 |zero=>exact hh
 |succ t ih=>exact a4b _ _ _ ih
theorem a16(h b:List Nat):nK (comp h b):=W32_of_mem λx hx=>by
 simp [comp,tK] at hx;obtain ⟨i,_,rfl⟩:=hx;exact Nat.mod_lt _ (by omega)
theorem W0(h b:List Nat):(comp h b).length=8:=by simp [comp,tK]
theorem oM:hL.length=8:=by simp [hL]
theorem sM:kL.length=64:=by simp [kL]
theorem bC8:nK hL:=W32_of_mem λx hx=>by
 simp [hL] at hx;obtain ⟨i,_,rfl⟩:=hx;exact Nat.mod_lt _ (by omega)
theorem aM8(t:Nat):pO t<4294967296:=Nat.mod_lt _ (by omega)
theorem hs_len(l:List Nat)(n:Nat):(hs l n).length=8:=by
 cases n with
 |zero=>exact oM
 |succ n=>exact W0 _ _
theorem aDL(l:List Nat)(n:Nat):nK (hs l n):=by
 cases n with
 |zero=>exact bC8
 |succ n=>exact a16 _ _
theorem aLY(l m:List Nat)(n:Nat)(hn:64*n≤l.length):hs (l++m) n=hs l n:=by
 induction n with
 |zero=>rfl
 |succ n ih =>
  simp only [hs]
  rw [ih (by omega)]
  congr 1
  rw [List.drop_append_of_le_length (by omega),List.take_append_of_le_length (by simp;omega)]
theorem qC(h:List Nat):(flat h).length=32:=by simp [flat]
theorem aO8(h:List Nat):Byt (flat h):=λx hx=>by
 simp [flat] at hx;obtain ⟨i,_,rfl⟩:=hx;exact Nat.mod_lt _ (by omega)
theorem aLq(l:List Nat):(sha l).length=32:=qC _
theorem aNv(l:List Nat):Byt (sha l):=aO8 _
def iE(h x:List Nat)(i:Nat):List Nat:=(List.range 8).map λj=>if j<i then (h.getD j 0+x.getD j 0)%4294967296 else h.getD j 0
theorem oE(h x:List Nat)(i:Nat):(iE h x i).length=8:=by simp [iE]
theorem bCf(h x:List Nat)(hh:h.length=8):iE h x 0=h:=by
 apply oS (by rw [oE,hh])
 intro j hj
 rw [oE] at hj
 rw [iE,fS _ _ _ hj,if_neg (by omega)]
theorem a9q(h x:List Nat):iE h x 8=tK h x:=by
 apply oS (by rw [oE];simp [tK])
 intro j hj
 rw [oE] at hj
 rw [iE,fS _ _ _ hj,if_pos hj,tK,fS _ _ _ hj]
theorem bCA(h x:List Nat)(i:Nat)(hi:i<8):(iE h x i).getD i 0=h.getD i 0:=by
 rw [iE,fS _ _ _ hi,if_neg (by omega)]
theorem aSJ(h x:List Nat)(i:Nat)(hi:i<8):(iE h x i).set i ((h.getD i 0+x.getD i 0)%4294967296)=iE h x (i+1):=by
 apply oS (by rw [List.length_set,oE,oE])
 intro j hj
 rw [List.length_set,oE] at hj
 by_cases e:i=j
 ·subst e
  rw [getD_set_eq (by rw [oE];exact hi),iE,fS _ _ _ hj,if_pos (by omega)]
 ·rw [getD_set_ne e,iE,fS _ _ _ hj,iE,fS _ _ _ hj]
  by_cases h:j<i
  ·rw [if_pos h,if_pos (by omega)]
  ·rw [if_neg h,if_neg (by omega)]
def gL(l:List Nat)(k:Nat):List Nat:=l++[128]++List.replicate k 0
theorem a6u(l:List Nat)(k:Nat):(gL l k).length=l.length+1+k:=by simp [gL];omega
theorem aOl(l:List Nat)(k:Nat):gL l k++[0]=gL l (k+1):=by
 unfold gL;rw [List.append_assoc,<-List.replicate_succ']
theorem aL3(l:List Nat):gL l 0=l++[128]:=by simp [gL]
theorem aSu(l:List Nat):cV l=gL l (zeros l.length)++beB (8*l.length) 8:=rfl
theorem aLF(n:Nat):zeros n<64:=Nat.mod_lt _ (by omega)
theorem aMC(n k:Nat)(hk:k≤zeros n):(n+1+k)%64=56↔k=zeros n:=by unfold zeros at *;omega
theorem aKd(e i:Nat)(he:e<4294967296):(4294967295-e).testBit i=(decide (i<32)&&!e.testBit i):=by
 have h:=Nat.testBit_two_pow_sub_succ (n:=32) he i
 rwa [show 2 ^ 32-(e+1)=4294967295-e from by omega] at h
theorem aZU(x i:Nat)(hx:x<4294967296)(hi:32≤i):x.testBit i=false :=
 Nat.testBit_lt_two_pow (eQ hx (Nat.pow_le_pow_right (n:=2) (i:=32) (by omega) hi))
theorem a3t(e f g:Nat)(he:e<4294967296):(e &&& f) ||| ((4294967295-e) &&& g)=ch e f g:=by
 apply Nat.eq_of_testBit_eq
 intro i
 simp only [ch,Nat.testBit_or,Nat.testBit_xor,Nat.testBit_and,aKd e i he]
 cases e.testBit i<;>cases f.testBit i<;>cases g.testBit i<;>simp
theorem aQ2(a b c:Nat):(a &&& b) ||| (a &&& c) ||| (b &&& c)=mj a b c:=by
 apply Nat.eq_of_testBit_eq
 intro i
 simp only [mj,Nat.testBit_or,Nat.testBit_xor,Nat.testBit_and]
 cases a.testBit i<;>cases b.testBit i<;>cases c.testBit i<;>rfl
end Go.Proofs.YtjboelhcieepkaaGreatDoor.Sh
namespace Go.Proofs.YtjboelhcieepkaaGreatDoor
open Go.RowKit Sh
def wA(w:World)(v:Value)(l:List Nat)(w':World):Prop :=
 ∃g,v=.slice (some ⟨g,0,none⟩) l.length l.length∧aC w' g 5 (va .u8 l)∧w.heap.size≤g∧Below w.heap.size w w'
theorem aDO(v k:Nat):(v:Int) / 2 ^ k=((v / 2 ^ k:Nat):Int):=by rw [Int.natCast_ediv,Int.natCast_pow];rfl
theorem aCZ(v n:Nat)(hn:n≤8)(w:World):
 Calls Tryz.prog 64 #[.int .u64 (v:Int),.int .i64 (n:Int)] w λe w'=>∃r,e=.returned r∧wA w r (beB v n) w':=by
 have hmk:=Z2 n (by omega)
 have hm:aC (w.alloc (.cells (va .u8 (List.replicate n 0)) 5)) w.heap.size 5 (va .u8 (j4 v n 0)):=by rw [aNE];exact aC.new _ _ _
 have hm':=Lib.hid hm
 clear hm
 have hn':(n:Int)≤8:=by omega
 go_enter Tryz.func64,Tryz.ntmps64
 go_wp2
 have hm:=hm'.out
 have hb0:Below w.heap.size w (w.alloc (.cells (va .u8 (List.replicate n 0)) 5)):=(Below.refl _ _).alloc (aS _) _
 generalize w.alloc (.cells (va .u8 (List.replicate n 0)) 5)=w1 at *
 clear hm' hmk
 go_loopw [10] (λs wr=>∃i:Nat,i≤n∧s=.int .i64 (i:Int)∧aC wr w.heap.size 5 (va .u8 (j4 v n i))∧Below w.heap.size w wr) (λs _=>n-(intOf s).toNat)
 case atStart=>exact ⟨0,by omega,rfl,hm,hb0⟩
 case round =>
  obtain ⟨i,hi,rfl,hblk,hb⟩:=hrel
  clear hm hb0
  by_cases hlt:i<n
  ·have hlt':(i:Int)<(n:Int):=by omega
   have hc:=hblk.num (i:=n-1-i) (by rw [s9];omega)
   have hf:=hblk.frozen (n-1-i)
   have hidx:((n:Int)-1-(i:Int)).toNat=n-1-i:=by omega
   have h8:(8*(i:Int)).toNat=8*i:=by omega
   have hset:=hblk.setNum (n-1-i) (v / 2 ^ (8*i)%256)
   rw [aOh v n i hlt] at hset
   have hset':=Lib.hid hset
   clear hset
   generalize (j4 v n i).getD (n-1-i) 0=u at *
   go_wp2
   go_roundw
   have e:(v:Int) / 2 ^ (8*i)%256=((v / 2 ^ (8*i)%256:Nat):Int):=by rw [aDO];omega
   case rel=>exact ⟨i+1,by omega,by go_num,by rw [e];exact hset'.out,hb.setCell (aS _) _⟩
   case measure=>simp [intOf];omega
  ·obtain rfl:n=i:=by omega
   go_wp2
   go_ret
   refine ⟨.slice (some ⟨w.heap.size,0,none⟩) n n,rfl,w.heap.size,?_,?_,aS _,hb⟩
   ·rw [beB_len]
   ·rw [<-aIZ];exact hblk
theorem aKr(v:Nat)(hv:v<4294967296)(w:World):
 Calls Tryz.prog 14 #[.int .u32 (v:Int)] w λe w'=>∃r,e=.returned r∧wA w r (beB v 4) w':=by
 go_enter Tryz.func14,Tryz.ntmps14
 go_wp2_with fail
 refine (aCZ v 4 (by omega) _).mono ?_
 rintro e w1 ⟨r,rfl,hr⟩
 go_wp2
 go_ret
 exact ⟨_,rfl,hr⟩
theorem aD0(v:Nat)(w:World):
 Calls Tryz.prog 63 #[.int .u64 (v:Int)] w λe w'=>∃r,e=.returned r∧wA w r (beB v 8) w':=by
 go_enter Tryz.func63,Tryz.ntmps63
 go_wp2_with fail
 refine (aCZ v 8 (by omega) _).mono ?_
 rintro e w1 ⟨r,rfl,hr⟩
 go_wp2
 go_ret
 exact ⟨_,rfl,hr⟩
theorem aRP(b x:Nat)(hb:b<72057594037927936)(hx:x<256):bits .or .u64 (IntKind.u64.wrap ((b:Int)*256)) (IntKind.u64.wrap (x:Int))=((b*256+x:Nat):Int):=by
 rw [IntWalk.u64_in _ (by omega),IntWalk.u64_in _ (by omega),show (b:Int)*256=((b*256:Nat):Int) from by omega,u64_or_nat _ _ (by omega) (by omega),aXo b x hx]
theorem aJR(A:Option Addr)(n c z B:Nat)(l:List Nat)(hz:n=z)(hz8:z≤8)(hl:Byt l)(w:World)(hr:bH w B 1 A n (nv .u8 l)):
 Calls Tryz.prog 247 #[.slice A n c,.int .i64 (z:Int)] w λe w'=>e=.returned (.tuple #[.int .u64 (fB l:Nat),.int .i64 0])∧w=w':=by
 subst hz
 have hlen:=hr.len
 go_enter Tryz.func247,Tryz.ntmps247
 go_wp2
 go_loop [6,21] (λv s=>∃k:Nat,k≤n∧s=.int .i64 (k:Int)∧v=.int .u64 (fB (l.take k):Nat)) (λ_ s=>n-(intOf s).toNat)
 case atStart=>exact ⟨0,by omega,rfl,rfl⟩
 case round =>
  obtain ⟨k,hk,rfl,rfl⟩:=hrel
  have hb:=aAa (l.take k) (hl.take k)
  by_cases hlt:k<n
  ·have hlt':(k:Int)<(n:Int):=by omega
   obtain ⟨ad,rfl,hbl,hc⟩:=hr.num hlt
   have hx:=hl.get k
   have hstep:=aBv l k (by omega)
   generalize hxk:l.getD k 0=x at *
   have hval:fB (l.take (k+1))=fB (l.take k)*256+x:=by rw [hstep,aGN]
   have hval':=Lib.hid hval
   have hb2:fB (l.take k)<72057594037927936:=by
    refine eQ hb (Nat.pow_le_pow_right (n:=2) (j:=56) (by omega) ?_)
    have:=List.length_take_le k l;omega
   have hb3:=Lib.hid hb2
   have hb4:=Lib.hid hx
   clear hval hstep hxk hb hb2 hx
   go_wp2
   go_round
   case rel=>exact ⟨k+1,by omega,by go_num,by rw [hval'.out,aRP _ _ hb3.out hb4.out]⟩
   case measure=>simp [intOf];omega
  ·obtain rfl:n=k:=by omega
   go_wp2
   go_ret2
   exact ⟨by rw [jB (by omega)];rfl,rfl⟩
theorem a7Y(m:Nat)(h1:1≤m)(hm:m≤31):bits .and .u64 (IntKind.u64.wrap (-((32-m:Nat):Int))) 31=(m:Int):=by
 have e:IntKind.u64.wrap (-((32-m:Nat):Int))=((18446744073709551616-(32-m):Nat):Int):=by
  simp [IntKind.wrap,IntKind.bits,IntKind.signed];omega
 rw [e,show (31:Int)=((31:Nat):Int) from rfl,u64_and_nat _ _ (by omega) (by omega),nat_mask5]
 congr 1
 omega
theorem aRM(x m:Nat)(hx:x<4294967296)(hm:m≤32):
 bits BinOp.or IntKind.u32 ((x:Int)*2 ^ m%4294967296) ((x:Int) / 2 ^ (32-m))=((eM x (32-m):Nat):Int):=by
 have e1:((x:Int)*2 ^ m%4294967296)=((x*2 ^ m%4294967296:Nat):Int):=by
  rw [Int.natCast_emod,Int.natCast_mul,Int.natCast_pow];rfl
 have e2:=aDO x (32-m)
 rw [e1,e2,u32_or_nat _ _ (Nat.mod_lt _ (by omega)) (Nat.lt_of_le_of_lt (Nat.div_le_self _ _) hx)]
 unfold eM
 rw [Nat.shiftLeft_eq,Nat.shiftRight_eq_div_pow,Nat.or_comm,show 32-(32-m)=m from by omega]
theorem a8h(x m:Nat)(hx:x<4294967296)(h1:1≤m)(hm:m≤31)(w:World):
 Calls Tryz.prog 248 #[.int .u32 (x:Int),.int .i64 (-((32-m:Nat):Int))] w λe w'=>e=.returned (.int .u32 (eM x (32-m):Nat))∧w=w':=by
 have hand:=a7Y m h1 hm
 generalize -((32-m:Nat):Int)=q at *
 go_enter Tryz.func248,Tryz.ntmps248
 go_wp2
 go_ret
 exact ⟨wX (aRM x m hx (by omega)),rfl⟩
theorem bCj(x n:Nat)(hx:x<4294967296)(h1:1≤n)(hn:n≤31)(w:World):
 Calls Tryz.prog 189 #[.int .u32 (x:Int),.int .i64 (-(n:Int))] w λe w'=>e=.returned (.int .u32 (eM x n:Nat))∧w=w':=by
 have ht:(-(n:Int)).tmod 32=-((32-(32-n):Nat):Int):=by
  rw [Int.neg_tmod,Int.tmod_eq_emod_of_nonneg (by omega)];omega
 have hr:eM x (32-(32-n))=eM x n:=by rw [show 32-(32-n)=n from by omega]
 have hr':=Lib.hid hr
 clear hr
 go_enter Tryz.func189,Tryz.ntmps189
 go_wp2_with fail
 refine (a8h x (32-n) hx (by omega) (by omega) _).mono ?_
 rintro e w1 ⟨rfl,rfl⟩
 go_wp2
 go_ret
 exact ⟨wX (by rw [hr'.out]),rfl⟩
theorem aJJ(A:Option Addr)(c B:Nat)(l:List Nat)(hl:Byt l)(w:World)(hr:bH w B 1 A 4 (nv .u8 l)):
 Calls Tryz.prog 188 #[.slice A 4 c] w λe w'=>e=.returned (.tuple #[.int .u32 (fB l:Nat),.int .i64 0])∧w=w':=by
 have hv:=aAa l hl
 rw [hr.len] at hv
 have hv1:(fB l:Int)<4294967296:=by omega
 have hv2:(fB l:Int)%4294967296=(fB l:Int):=by omega
 go_enter Tryz.func188,Tryz.ntmps188
 go_wp2_with fail
 refine (aJR A 4 c 4 B l rfl (by omega) hl _ hr).mono ?_
 rintro e w1 ⟨rfl,rfl⟩
 go_wp2
 go_ret2
 exact ⟨rfl,rfl⟩
theorem a6a(A:Option Addr)(c B:Nat)(l:List Nat)(hl:Byt l)(w:World)(hr:bH w B 1 A 8 (nv .u8 l)):
 Calls Tryz.prog 294 #[.slice A 8 c] w λe w'=>e=.returned (.tuple #[.int .u64 (fB l:Nat),.int .i64 0])∧w=w':=by
 go_enter Tryz.func294,Tryz.ntmps294
 go_wp2_with fail
 refine (aJR A 8 c 8 B l rfl (by omega) hl _ hr).mono ?_
 rintro e w1 ⟨rfl,rfl⟩
 go_wp2
 go_ret2
 exact ⟨rfl,rfl⟩
theorem a3y(a:Addr)(j:Nat):(a.add j).block=a.block:=by unfold Addr.add;split<;>rfl
def J3(w:World)(B:Nat)(A:Option Addr)(n:Nat)(ms:List (List Nat)):Prop :=
 ms.length=n∧∀j,j<n->∃ad Ai ni ci,A=some ad∧ad.block<B∧w.cell? (ad.add j)=some (.slice Ai ni ci)∧ni≤ci∧bH w B 1 Ai ni (nv .u8 (ms.getD j []))∧Byt (ms.getD j [])
theorem I8(ms:List (List Nat))(k:Nat)(hk:k<ms.length):(ms.take (k+1)).flatten=(ms.take k).flatten++ms.getD k []:=by
 have e:ms.getD k []=ms[k]:=by simp [hk]
 rw [e,List.take_succ_eq_append_getElem hk,List.flatten_append]
 simp
theorem aFn(ms:List (List Nat))(k:Nat):(ms.take k).flatten.length≤ms.flatten.length:=by
 have h:ms.flatten=(ms.take k).flatten++(ms.drop k).flatten:=by rw [<-List.flatten_append,List.take_append_drop]
 rw [h,eS];omega
end Go.Proofs.YtjboelhcieepkaaGreatDoor
namespace Go.Proofs.YtjboelhcieepkaaGreatDoor
open Go.RowKit
theorem aER{P:Program}{w:World}{g:Nat}{t ty:TypeId}{old:Array Value}(h:aC w g t old)(c:Array Value)(hs:old.size=c.size)(hi:(P.info? ty).map (·.size)=some c.size)(h1:∀v∈c.toList,v.oneCell'=true):
 (storeVar ty ⟨g,0,none⟩ (.agg c)).run P w=.ok () (w.setRow g c):=by
 have e:=run_storeCells_from (P:=P) g t c.toList 0 old w h (by simp;omega) h1
 cases hq:P.info? ty with
 |none=>simp [hq] at hi
 |some i =>
  have hs2:c.size=i.size:=by simp [hq] at hi;omega
  simp at e
  simp [storeVar,sizeOf,typeInfo,hq,Value.cells,hs2,e]
theorem aOs{P:Program}{ops:Array Oper}{o:Oper}{a:Act}{w:World}{K:Act->World->Prop}{Q:Exit->Act->World->Prop}{E:Prop}(hgd:o.guard=none)(ty:TypeId)(x:Operand)(ho:o.op=.load ty x)
 (g:Nat) (hx:a.eval x=.pointer (some ⟨g,0,none⟩)) (t:TypeId) (cs:Array Value) (hb:aC w g t cs) (d:TypeDesc)
 (hu:P.underlying ty=some d) (hd:(match d with | .struct _ | .array _ _=>true|_=>false)=true) (hi:(P.info? ty).map (·.size)=some cs.size)
 (h:K (a.put o.dst (.agg cs)) w):if Region.wanted o (yielded ops a.tmps)=true then Oper.wp P o a w K Q else E:=by
 have hw:Region.wanted o (yielded ops a.tmps)=true:=by simp [Region.wanted,hgd]
 rw [if_pos hw]
 exact wp_load_row ty x ho g hx t cs (0,0) d hb hu hd hi h
theorem aIe{P:Program}{ops:Array Oper}{o:Oper}{a:Act}{w:World}{K:Act->World->Prop}{Q:Exit->Act->World->Prop}{E:Prop}(hgd:o.guard=none)(ty:TypeId)(x y:Operand)(ho:o.op=.store ty x y)
 (g:Nat) (hx:a.eval x=.pointer (some ⟨g,0,none⟩)) (c:Array Value) (hy:a.eval y=.agg c) (t:TypeId) (old:Array Value) (hb:aC w g t old) (hs:old.size=c.size)
 (hi:(P.info? ty).map (·.size)=some c.size) (h1:∀v∈c.toList,v.oneCell'=true)
 (h:K (a.put o.dst undef) (w.setRow g c)):if Region.wanted o (yielded ops a.tmps)=true then Oper.wp P o a w K Q else E:=by
 have hw:Region.wanted o (yielded ops a.tmps)=true:=by simp [Region.wanted,hgd]
 rw [if_pos hw]
 unfold Oper.wp execOp
 simp only [ho,hx,hy,Instr.storeAt,Instr.sureAddr,Sem.run_bind,Sem.run_pure,Result.andThen_ok,aER hb c hs hi h1]
 exact h
theorem aAA{P:Program}{ops:Array Oper}{rest:List Oper}{o:Oper}{a:Act}{w:World}{Q:Exit->Act->World->Prop}(hg:o.guard=none)(t:TypeId)(parts:Array (Nat×Operand))(ho:o.op=.build t parts)
 (cs:Array Value) (hb:P.built t (parts.map λ(i,x)=>(i,a.eval x)).toList=some cs)
 (h:wpList P ops Q rest (a.put o.dst (.agg cs)) w):wpList P ops Q (o::rest) a w :=
 wpList_build hg t parts ho (by rw [hb];rfl) (by rw [hb];exact h)
theorem aLP(k:IntKind)(a m:List Nat)(o:Nat):((va k a).toList.take o++nv k m++(va k a).toList.drop (o+(nv k m).length)).toArray=va k (a.take o++(m++a.drop (o+m.length))):=by
 simp [va,tW,rT,wZ,aZ]
theorem aYO{w:World}(dT sT ty:TypeId)(hu:Tryz.prog.underlying dT=some (.slice 5))(g o dLen dCap:Nat)(T:TypeId)(cur:List Nat)(hg:aC w g T (va .u8 cur))(s n c:Nat)(Ts:TypeId)(m:List Nat)(hb:aC w s Ts (va .u8 m))(hn:m.length=n)
 (hd:n≤dLen) (hfit:o+n≤cur.length) :
 (Builtin.copy_ #[dT,sT] ty #[.slice (some ⟨g,o,none⟩) dLen dCap,.slice (some ⟨s,0,none⟩) n c]).run Tryz.prog w=.ok (.int .i64 (n:Int)) (w.setRow g (va .u8 (cur.take o++(m++cur.drop (o+n))))):=by
 subst hn
 have hsz:(Tryz.prog.info? 5).map (·.size)=some 1:=by kernel_rfl
 have hcp:=run_copy_row (P:=Tryz.prog) w dT sT ty 5 g o dLen dCap ⟨s,0,none⟩ m.length c (va .u8 cur) T (nv .u8 m) hu hsz hg
  (by rw [aZ];exact (Nat.min_eq_left hd).symm)
  (λj v hv=>by
   have hj:j<m.length:=by
    rcases Nat.lt_or_ge j m.length with h0|h0
    ·exact h0
    ·rw [fA (by rw [aZ];exact h0)] at hv;cases hv
   have h1:=hb.num hj
   rw [mL hj] at hv
   cases hv
   rw [Addr.add_mid,Nat.zero_add];exact h1)
  (by rw [aZ,b9];exact hfit) (gN _ _)
 rw [hcp,aLP,aZ];rfl
end Go.Proofs.YtjboelhcieepkaaGreatDoor
namespace Go.Proofs.YtjboelhcieepkaaGreatDoor
open Go.RowKit Sh
theorem bCz(x n:Nat)(hx:x<4294967296)(h1:1≤n)(hn:n≤31)(w:World):
 Calls Tryz.prog 117 #[.int .u32 (x:Int),.int .i64 (n:Int)] w λe w'=>e=.returned (.int .u32 (eM x n:Nat))∧w=w':=by
 go_enter Tryz.func117,Tryz.ntmps117
 go_wp2_with fail
 refine (bCj x n hx h1 hn _).mono ?_
 rintro e w1 ⟨rfl,rfl⟩
 go_wp2
 go_ret
 exact ⟨rfl,rfl⟩
theorem U9(x:Nat)(n:Int)(m:Nat)(hm:n=(m:Int))(hx:x<4294967296)(h1:1≤m)(hn:m≤31)(w:World):
 Calls Tryz.prog 117 #[.int .u32 (x:Int),.int .i64 n] w λe w'=>e=.returned (.int .u32 (eM x m:Nat))∧w=w':=by
 subst hm;exact bCz x m hx h1 hn w
theorem aNT(x:Nat)(hx:x<4294967296):bits BinOp.xor IntKind.u32 (bits BinOp.xor IntKind.u32 (eM x 7:Nat) (eM x 18:Nat)) ((x:Int) / 8)=((yV x:Nat):Int):=by
 rw [u32_xor_nat _ _ (j3 x 7 hx) (j3 x 18 hx),show (x:Int) / 8=((x / 8:Nat):Int) from by omega,u32_xor_nat _ _ (N1 (j3 x 7 hx) (j3 x 18 hx)) (by omega)]
 unfold yV;rw [Nat.shiftRight_eq_div_pow]
theorem aIk(x:Nat)(hx:x<4294967296):bits BinOp.xor IntKind.u32 (bits BinOp.xor IntKind.u32 (eM x 17:Nat) (eM x 19:Nat)) ((x:Int) / 1024)=((D5 x:Nat):Int):=by
 rw [u32_xor_nat _ _ (j3 x 17 hx) (j3 x 19 hx),show (x:Int) / 1024=((x / 1024:Nat):Int) from by omega,u32_xor_nat _ _ (N1 (j3 x 17 hx) (j3 x 19 hx)) (by omega)]
 unfold D5;rw [Nat.shiftRight_eq_div_pow]
def dX:List Nat:=List.replicate 64 0
theorem zvW(w:World):(zeroValue 243).run Tryz.prog w=.ok (.agg (va .u32 dX)) w:=by kernel_rfl
theorem oZ:dX.length=64:=lR ..
def wL(b:List Nat):List Nat:=(List.range 64).map (eE b)
theorem aG7(b:List Nat):(wL b).length=64:=by simp [wL]
theorem aJ8(b:List Nat)(t:Nat)(ht:t<64):(wL b).getD t 0=eE b t:=fS _ _ _ ht
structure oK(G:Nat)(b l:List Nat)(t:Nat)(w wr:World):Prop where
 bb:aC wr G 72 (va .u8 b)
 bl:aC wr (G+1) 243 (va .u32 l)
 len:l.length=64
 d:∀j,j<t->l.getD j 0=eE b j
 bel:Below G w wr
theorem oK.step{G:Nat}{b l:List Nat}{t:Nat}{w wr:World}(h:oK G b l t w wr)(ht:t<64)(v:Nat)(hv:v=eE b t):
 oK G b (l.set t v) (t+1) w (wr.setCell ⟨G+1,t,none⟩ (.int .u32 (v:Int))):=by
 refine ⟨h.bb.far (p:=⟨G+1,t,none⟩) (by simp) _,h.bl.setNum t v,by rw [List.length_set];exact h.len,λj hj=>?_,h.bel.setCell (by simp) _⟩
 by_cases e:t=j
 ·subst e;rw [Sh.getD_set_eq (by rw [h.len];exact ht),hv]
 ·rw [Sh.getD_set_ne e];exact h.d j (by omega)
theorem oK.drewN_{G:Nat}{b l:List Nat}{t:Nat}{w wr:World}(h:oK G b l t w wr)(n:Nat):oK G b l t w (wr.drewN n):=⟨h.bb,h.bl,h.len,h.d,jV h.bel n⟩
theorem oK.all{G:Nat}{b l:List Nat}{w wr:World}(h:oK G b l 64 w wr):l=wL b:=by
 apply oS (by rw [h.len,aG7])
 intro i hi
 rw [h.len] at hi
 rw [h.d i hi,aJ8 b i hi]
set_option maxRecDepth 100000 in
theorem bEm(b:List Nat)(hb:Byt b)(hl:b.length=64)(w:World):
 Calls Tryz.prog 116 #[.agg (va .u8 b)] w λe w'=>e=.returned (.agg (va .u32 (wL b)))∧Below w.heap.size w w':=by
 have hzv:=zvW
 go_enter Tryz.func116,Tryz.ntmps116
 go_wp2
 have hm:oK w.heap.size b dX 0 w ((w.alloc (Obj.cells (va .u8 b) 72)).alloc (Obj.cells (va .u32 dX) 243)):=by
  refine ⟨(aC.new _ _ _).alloc _,?_,oZ,λj hj=>by omega,((Below.refl _ _).alloc (aS _) _).alloc (by simp) _⟩
  have:=aC.new (w.alloc (Obj.cells (va .u8 b) 72)) 243 (va .u32 dX)
  simpa using this
 clear hzv
 generalize hGG:w.heap.size=G at *
 go_loopw [9] (λs wr=>∃(k:Nat) (l:List Nat),k≤16∧s=.int .i64 (k:Int)∧oK G b l k w wr) (λs _=>16-(intOf s).toNat)
 case atStart=>exact ⟨0,dX,by omega,rfl,hm⟩
 case round =>
  obtain ⟨k,l,hk,rfl,hmem⟩:=hrel
  clear hm
  by_cases hlt:k<16
  ·have hlt':(k:Int)<16:=by omega
   have q1:0≤4*(k:Int):=by omega
   have q2:4*(k:Int)≤4*(k:Int)+4:=by omega
   have q3:4*(k:Int)+4≤64:=by omega
   have q4:(4*(k:Int)+4).toNat=4*k+4:=by omega
   have q5:(4*(k:Int)).toNat=4*k:=by omega
   have hrd:=hmem.bb.reads (B:=wr.heap.size) hmem.bb.lt (4*k) 4 (by omega)
   have hbl:=aGb b hb k
   have hc:=hmem.bl.num (i:=k) (by rw [hmem.len];omega)
   have hf:=hmem.bl.frozen k
   have hmem':=Lib.hid hmem
   have hrd':=Lib.hid hrd
   clear hmem hrd
   generalize l.getD k 0=lk at *
   go_wp2_with fail
   refine (aJJ _ _ _ _ ((hb.drop (4*k)).take 4) _ hrd'.out).mono ?_
   rintro e w1 ⟨rfl,rfl⟩
   go_wp2
   go_roundw
   case rel=>exact ⟨k+1,_,by omega,by go_num,hmem'.out.step (by omega) (T5 b k) (aIQ b k hlt).symm⟩
   case measure=>simp [intOf];omega
  ·have hmem16:oK G b l 16 w wr:=by
    obtain rfl:k=16:=by omega
    exact hmem
   have ek:(k:Int)=16:=by omega
   clear hmem
   go_wp2
   clear ek hk hlt
   go_loopw [4] (λs wr=>∃(k:Nat) (l:List Nat),16≤k∧k≤64∧s=.int .i64 (k:Int)∧oK G b l k w wr) (λs _=>64-(intOf s).toNat)
   case atStart=>exact ⟨16,l,by omega,by omega,rfl,hmem16⟩
   case round =>
    clear hmem16
    obtain ⟨k,l,hk16,hk,rfl,hmem⟩:=hrel
    by_cases hlt:k<64
    ·have hlt':(k:Int)<64:=by omega
     have hk16':16≤(k:Int):=by omega
     have hlen:=hmem.len
     have c15:=hmem.bl.num (i:=k-15) (by omega)
     have c2:=hmem.bl.num (i:=k-2) (by omega)
     have c7:=hmem.bl.num (i:=k-7) (by omega)
     have c16:=hmem.bl.num (i:=k-16) (by omega)
     have cc:=hmem.bl.num (i:=k) (by omega)
     have ff:=hmem.bl.frozen k
     rw [hmem.d _ (by omega)] at c15 c2 c7 c16
     have hw:=Lib.hid (aKY b k hk16 hlt)
     have l15:=pX b hb (k-15)
     have l2:=pX b hb (k-2)
     have l7:=pX b hb (k-7)
     have l16:=pX b hb (k-16)
     generalize eE b (k-15)=x15 at *
     generalize eE b (k-2)=x2 at *
     generalize eE b (k-7)=x7 at *
     generalize eE b (k-16)=x16 at *
     generalize l.getD k 0=lk at *
     have i15:((k:Int)-15).toNat=k-15:=by omega
     have i2:((k:Int)-2).toNat=k-2:=by omega
     have i7:((k:Int)-7).toNat=k-7:=by omega
     have i16:((k:Int)-16).toNat=k-16:=by omega
     have w15:IntKind.i64.wrap ((k:Int)-15)=(k:Int)-15:=IntWalk.i64_in _ (by omega)
     have w2:IntKind.i64.wrap ((k:Int)-2)=(k:Int)-2:=IntWalk.i64_in _ (by omega)
     have w7:IntKind.i64.wrap ((k:Int)-7)=(k:Int)-7:=IntWalk.i64_in _ (by omega)
     have w16:IntKind.i64.wrap ((k:Int)-16)=(k:Int)-16:=IntWalk.i64_in _ (by omega)
     have n15:0≤(k:Int)-15:=by omega
     have n2:0≤(k:Int)-2:=by omega
     have n7:0≤(k:Int)-7:=by omega
     have n16:0≤(k:Int)-16:=by omega
     have u15:(k:Int)-15<64:=by omega
     have u2:(k:Int)-2<64:=by omega
     have u7:(k:Int)-7<64:=by omega
     have u16:(k:Int)-16<64:=by omega
     have e0:=aNT x15 l15
     have e1:=aIk x2 l2
     go_wp2
     go_quiet (fail)
     clear w15 w2 i15 i2
     go_wp2_with (first
      |(go_at_call 117;(with_reducible refine (U9 x15 7 7 rfl l15 (by omega) (by omega) _).mono ?_);rintro e w1 ⟨rfl,rfl⟩)
      |(go_at_call 117;(with_reducible refine (U9 x15 18 18 rfl l15 (by omega) (by omega) _).mono ?_);rintro e w1 ⟨rfl,rfl⟩)
      |(go_at_call 117;(with_reducible refine (U9 x2 17 17 rfl l2 (by omega) (by omega) _).mono ?_);rintro e w1 ⟨rfl,rfl⟩)
      |(go_at_call 117;(with_reducible refine (U9 x2 19 19 rfl l2 (by omega) (by omega) _).mono ?_);rintro e w1 ⟨rfl,rfl⟩))
     clear e0 e1
     go_region
     all_goals go_wp2
     all_goals go_roundw
     case rel =>
      have hval:((D5 x2:Nat)+(x7:Int)+(yV x15:Nat)+(x16:Int))%4294967296=((eE b k:Nat):Int):=by rw [hw.out];omega
      refine ⟨k+1,l.set k (eE b k),by omega,by omega,by go_num,?_⟩
      rw [hval]
      exact (hmem.drewN_ _).step hlt _ rfl
     case measure=>simp [intOf];omega
    ·have ek:(k:Int)=64:=by omega
     obtain rfl:k=64:=by omega
     have hlen:=hmem.len
     have hall:=Lib.hid hmem.all
     have hbl:=hmem.bl
     have hbel:=hmem.bel
     have hst:=mU (P:=Tryz.prog) hbl .u32 l (b9 _ _)
     have hsz0:(Tryz.prog.info? 243).map (·.size)=some (va .u32 l).size:=by rw [b9,hlen];kernel_rfl
     have hsz:=Lib.hid hsz0
     clear hsz0
     have hvs:(va .u32 l).size=64:=by rw [b9,hlen]
     go_wp2_with (refine wpList_load_row rfl 243 (.tmp 2) rfl (G+1) rfl 243 (va .u32 l) (0,0) _ hbl Tryz.underlying243 rfl hsz.out ?_)
     clear hsz
     have hsz:(Tryz.prog.info? 243).map (·.size)=some (va .u32 l).size:=by rw [b9,hlen];kernel_rfl
     exact bodyPost_ret (results_cell_row rfl _ _ (G+1) 243 (va .u32 l) (0,0) _ rfl (hbl.row _) Tryz.underlying243 rfl hsz) rfl ⟨by rw [hall.out],by rw [hGG];exact eJ hbel (by omega) _⟩
end Go.Proofs.YtjboelhcieepkaaGreatDoor
namespace Go.Proofs.YtjboelhcieepkaaGreatDoor
open Go.RowKit
theorem aRt{P:Program}{f:FuncId}{args:Array Value}{w:World}{a n:Nat}{v:Value}
 (h:Calls P f args (w.drewN (a+n)) λe w'=>e=.returned v∧w.drewN (a+n)=w') :
 Calls P f args (w.drewN (a+n)) λe w''=>e=.returned v∧∃m,w''=w.drewN (a+m) :=
 h.mono λ_ _ ⟨he,hm⟩=>⟨he,n,hm.symm⟩
theorem aNt{B:Nat}{w w':World}{b o:Nat}{cs:List Value}(h:w.rangeAt b o cs)(hb:Below B w w')(hlt:b<B):w'.rangeAt b o cs:=λj v hv=>by
 rw [hb.cell (p:=⟨b,o+j,none⟩) hlt];exact h j v hv
end Go.Proofs.YtjboelhcieepkaaGreatDoor
namespace Go.Proofs.YtjboelhcieepkaaGreatDoor
open Go.RowKit Sh
structure kA(w:World):Prop where
 k:w.rangeAt 2 0 (nv .u32 kL)
 h:w.rangeAt 1 0 (nv .u32 hL)
 lk:2<w.heap.size
 lh:1<w.heap.size
theorem kA.below{w w':World}(g:kA w)(h:Below w.heap.size w w'):kA w' :=
 ⟨aNt g.k h g.lk,aNt g.h h g.lh,eQ g.lk h.size,eQ g.lh h.size⟩
theorem kA.alloc{w:World}(g:kA w)(o:Obj):kA (w.alloc o):=g.below ((Below.refl _ _).alloc (aS _) o)
theorem aJH:(Tryz.prog.info? 57).map (λi=>(i.zero,i.size,i.bytes))=some (some (.int .u32 0),1,4):=by kernel_rfl
theorem yG(x:Nat)(n:Int)(m:Nat)(hm:n=(m:Int))(hx:x<4294967296)(h1:1≤m)(hn:m≤31)(w:World)(a q:Nat):
 Calls Tryz.prog 117 #[.int .u32 (x:Int),.int .i64 n] (w.drewN (a+q)) λe w''=>e=.returned (.int .u32 (eM x m:Nat))∧∃j,w''=w.drewN (a+j) :=
 aRt (U9 x n m hm hx h1 hn _)
theorem aHL(x:Nat)(hx:x<4294967296):bits BinOp.xor IntKind.u32 IntKind.u32.max (x:Int)=((4294967295-x:Nat):Int):=by
 rw [show IntKind.u32.max=((4294967295:Nat):Int) from rfl,u32_xor_nat _ _ (by omega) hx]
 congr 1
 apply Nat.eq_of_testBit_eq
 intro i
 rw [Nat.testBit_xor,aKd x i hx,show (4294967295:Nat)=2 ^ 32-1 from rfl,Nat.testBit_two_pow_sub_one]
 by_cases hi:i<32
 ·simp [hi]
 ·rw [aZU x i hx (by omega)];simp [hi]
theorem aK1(x:Nat)(hx:x<4294967296):bits BinOp.xor IntKind.u32 (bits BinOp.xor IntKind.u32 (eM x 6:Nat) (eM x 11:Nat)) (eM x 25:Nat)=((B5 x:Nat):Int):=by
 rw [u32_xor_nat _ _ (j3 x 6 hx) (j3 x 11 hx),u32_xor_nat _ _ (N1 (j3 x 6 hx) (j3 x 11 hx)) (j3 x 25 hx)];rfl
theorem aLB(x:Nat)(hx:x<4294967296):bits BinOp.xor IntKind.u32 (bits BinOp.xor IntKind.u32 (eM x 2:Nat) (eM x 13:Nat)) (eM x 22:Nat)=((bED x:Nat):Int):=by
 rw [u32_xor_nat _ _ (j3 x 2 hx) (j3 x 13 hx),u32_xor_nat _ _ (N1 (j3 x 2 hx) (j3 x 13 hx)) (j3 x 22 hx)];rfl
theorem aHS(e f g:Nat)(he:e<4294967296)(hf:f<4294967296)(hg:g<4294967296):
 bits BinOp.xor IntKind.u32 (bits BinOp.and IntKind.u32 (e:Int) (f:Int)) (bits BinOp.and IntKind.u32 (bits BinOp.xor IntKind.u32 IntKind.u32.max (e:Int)) (g:Int))=((ch e f g:Nat):Int):=by
 rw [aHL e he,u32_and_nat _ _ he hf,u32_and_nat _ _ (by omega) hg,u32_xor_nat _ _ (mY he) (mY (by omega))];rfl
theorem a8K(a b c:Nat)(ha:a<4294967296)(hb:b<4294967296)(hc:c<4294967296):
 bits BinOp.xor IntKind.u32 (bits BinOp.xor IntKind.u32 (bits BinOp.and IntKind.u32 (a:Int) (b:Int)) (bits BinOp.and IntKind.u32 (a:Int) (c:Int))) (bits BinOp.and IntKind.u32 (b:Int) (c:Int))=((mj a b c:Nat):Int):=by
 rw [u32_and_nat _ _ ha hb,u32_and_nat _ _ ha hc,u32_and_nat _ _ hb hc,u32_xor_nat _ _ (mY ha) (mY ha),u32_xor_nat _ _ (N1 (mY ha) (mY ha)) (mY hb)];rfl
def z8:List Nat:=List.replicate 8 0
structure vA(G T:Nat)(b:List Nat)(h0 h1 h2 h3 h4 h5 h6 h7 x0 x1 x2 x3 x4 x5 x6 x7:Nat)(w wr:World):Prop where
 a:aC wr G 71 #[Value.int .u32 (h0:Nat),Value.int .u32 (h1:Nat),Value.int .u32 (h2:Nat),Value.int .u32 (h3:Nat),Value.int .u32 (h4:Nat),Value.int .u32 (h5:Nat),Value.int .u32 (h6:Nat),Value.int .u32 (h7:Nat)]
 s:aC wr T 243 (va .u32 (wL b))
 x:aC wr (T+1) 71 #[Value.int .u32 (x0:Nat),Value.int .u32 (x1:Nat),Value.int .u32 (x2:Nat),Value.int .u32 (x3:Nat),Value.int .u32 (x4:Nat),Value.int .u32 (x5:Nat),Value.int .u32 (x6:Nat),Value.int .u32 (x7:Nat)]
 r:aC wr (G+1+1) 71 (va .u32 z8)
 lt:G+1+1<T
 bel:Below G w wr
theorem vA.drewN_{G T:Nat}{b:List Nat}{h0 h1 h2 h3 h4 h5 h6 h7 x0 x1 x2 x3 x4 x5 x6 x7:Nat}{w wr:World}(h:vA G T b h0 h1 h2 h3 h4 h5 h6 h7 x0 x1 x2 x3 x4 x5 x6 x7 w wr)(n:Nat):vA G T b h0 h1 h2 h3 h4 h5 h6 h7 x0 x1 x2 x3 x4 x5 x6 x7 w (wr.drewN n) :=
 ⟨h.a,h.s,h.x,h.r,h.lt,jV h.bel n⟩
theorem vA.round{G T:Nat}{b:List Nat}{h0 h1 h2 h3 h4 h5 h6 h7 x0 x1 x2 x3 x4 x5 x6 x7:Nat}{w wr:World}(h:vA G T b h0 h1 h2 h3 h4 h5 h6 h7 x0 x1 x2 x3 x4 x5 x6 x7 w wr)(y0 y4:Nat):
 vA G T b h0 h1 h2 h3 h4 h5 h6 h7 y0 x0 x1 x2 y4 x4 x5 x6 w ((((((((wr.setCell ⟨T+1,0,none⟩ (.int .u32 (y0:Nat))).setCell ⟨T+1,1,none⟩ (.int .u32 (x0:Nat))).setCell ⟨T+1,2,none⟩ (.int .u32 (x1:Nat))).setCell ⟨T+1,3,none⟩ (.int .u32 (x2:Nat))).setCell ⟨T+1,4,none⟩ (.int .u32 (y4:Nat))).setCell ⟨T+1,5,none⟩ (.int .u32 (x4:Nat))).setCell ⟨T+1,6,none⟩ (.int .u32 (x5:Nat))).setCell ⟨T+1,7,none⟩ (.int .u32 (x6:Nat))):=by
 have h1:G≠T+1:=by have:=h.lt;omega
 have h2:T≠T+1:=by omega
 have h3:G+1+1≠T+1:=by have:=h.lt;omega
 have hB:G≤T+1:=by have:=h.lt;omega
 have hs:=((((((((h.x.set_ 0 (.int .u32 (y0:Nat))).set_ 1 (.int .u32 (x0:Nat))).set_ 2 (.int .u32 (x1:Nat))).set_ 3 (.int .u32 (x2:Nat))).set_ 4 (.int .u32 (y4:Nat))).set_ 5 (.int .u32 (x4:Nat))).set_ 6 (.int .u32 (x5:Nat))).set_ 7 (.int .u32 (x6:Nat)))
 simp only [List.setIfInBounds_toArray,List.set_cons_zero,List.set_cons_succ] at hs
 exact ⟨((((((((h.a.far (p:=⟨T+1,0,none⟩) h1 _).far (p:=⟨T+1,1,none⟩) h1 _).far (p:=⟨T+1,2,none⟩) h1 _).far (p:=⟨T+1,3,none⟩) h1 _).far (p:=⟨T+1,4,none⟩) h1 _).far (p:=⟨T+1,5,none⟩) h1 _).far (p:=⟨T+1,6,none⟩) h1 _).far (p:=⟨T+1,7,none⟩) h1 _),((((((((h.s.far (p:=⟨T+1,0,none⟩) h2 _).far (p:=⟨T+1,1,none⟩) h2 _).far (p:=⟨T+1,2,none⟩) h2 _).far (p:=⟨T+1,3,none⟩) h2 _).far (p:=⟨T+1,4,none⟩) h2 _).far (p:=⟨T+1,5,none⟩) h2 _).far (p:=⟨T+1,6,none⟩) h2 _).far (p:=⟨T+1,7,none⟩) h2 _),hs,((((((((h.r.far (p:=⟨T+1,0,none⟩) h3 _).far (p:=⟨T+1,1,none⟩) h3 _).far (p:=⟨T+1,2,none⟩) h3 _).far (p:=⟨T+1,3,none⟩) h3 _).far (p:=⟨T+1,4,none⟩) h3 _).far (p:=⟨T+1,5,none⟩) h3 _).far (p:=⟨T+1,6,none⟩) h3 _).far (p:=⟨T+1,7,none⟩) h3 _),h.lt,((((((((h.bel.setCell (p:=⟨T+1,0,none⟩) hB _).setCell (p:=⟨T+1,1,none⟩) hB _).setCell (p:=⟨T+1,2,none⟩) hB _).setCell (p:=⟨T+1,3,none⟩) hB _).setCell (p:=⟨T+1,4,none⟩) hB _).setCell (p:=⟨T+1,5,none⟩) hB _).setCell (p:=⟨T+1,6,none⟩) hB _).setCell (p:=⟨T+1,7,none⟩) hB _)⟩
structure aMf(G T:Nat)(l x:List Nat)(w wr:World):Prop where
 a:aC wr G 71 (va .u32 l)
 x:aC wr (T+1) 71 (va .u32 x)
 r:aC wr (G+1+1) 71 (va .u32 z8)
 lt:G+1+1<T
 bel:Below G w wr
set_option maxRecDepth 100000 in
theorem bCo(h0 h1 h2 h3 h4 h5 h6 h7:Nat)(b:List Nat)(hh:nK [h0,h1,h2,h3,h4,h5,h6,h7])(hb:Byt b)(hl:b.length=64)(w:World)(hg:kA w):
 Calls Tryz.prog 62 #[.agg #[Value.int .u32 (h0:Nat),Value.int .u32 (h1:Nat),Value.int .u32 (h2:Nat),Value.int .u32 (h3:Nat),Value.int .u32 (h4:Nat),Value.int .u32 (h5:Nat),Value.int .u32 (h6:Nat),Value.int .u32 (h7:Nat)],.agg (va .u8 b)] w λe w'=>e=.returned (.agg (va .u32 (comp [h0,h1,h2,h3,h4,h5,h6,h7] b)))∧Below w.heap.size w w':=by
 have hzv:=zvW
 go_enter Tryz.func62,Tryz.ntmps62
 have hB:aC ((w.alloc (Obj.cells #[Value.int .u32 (h0:Nat),Value.int .u32 (h1:Nat),Value.int .u32 (h2:Nat),Value.int .u32 (h3:Nat),Value.int .u32 (h4:Nat),Value.int .u32 (h5:Nat),Value.int .u32 (h6:Nat),Value.int .u32 (h7:Nat)] 71)).alloc (Obj.cells (va .u8 b) 72)) (w.heap.size+1) 72 (va .u8 b):=by
  have:=aC.new (w.alloc (Obj.cells #[Value.int .u32 (h0:Nat),Value.int .u32 (h1:Nat),Value.int .u32 (h2:Nat),Value.int .u32 (h3:Nat),Value.int .u32 (h4:Nat),Value.int .u32 (h5:Nat),Value.int .u32 (h6:Nat),Value.int .u32 (h7:Nat)] 71)) 72 (va .u8 b)
  simpa using this
 have hsz0:(Tryz.prog.info? 72).map (·.size)=some (va .u8 b).size:=by rw [b9,hl];kernel_rfl
 have hsz:=Lib.hid hsz0
 have hB1:=Lib.hid hB
 clear hsz0 hB
 have hA:aC (w.alloc (Obj.cells #[Value.int .u32 (h0:Nat),Value.int .u32 (h1:Nat),Value.int .u32 (h2:Nat),Value.int .u32 (h3:Nat),Value.int .u32 (h4:Nat),Value.int .u32 (h5:Nat),Value.int .u32 (h6:Nat),Value.int .u32 (h7:Nat)] 71)) w.heap.size 71 #[Value.int .u32 (h0:Nat),Value.int .u32 (h1:Nat),Value.int .u32 (h2:Nat),Value.int .u32 (h3:Nat),Value.int .u32 (h4:Nat),Value.int .u32 (h5:Nat),Value.int .u32 (h6:Nat),Value.int .u32 (h7:Nat)]:=aC.new _ _ _
 have hA1:=Lib.hid hA
 clear hA
 go_wp2_with (first
  |(refine wpList_load_row rfl 72 (.tmp 3) rfl (w.heap.size+1) rfl 72 (va .u8 b) (0,0) _ (hB1.out.alloc _) Tryz.underlying72 rfl hsz.out ?_)
  |(go_at_call 116;fail))
 refine (bEm b hb hl _).mono ?_
 rintro e w1 ⟨rfl,b1⟩
 have hst:=tF (P:=Tryz.prog) w1 243 (va .u32 dX) .u32 (wL b) (by rw [b9,oZ,aG7])
 have hA2:=(((hA1.out.alloc (Obj.cells (va .u8 b) 72)).alloc (Obj.cells #[Value.int .u32 0,Value.int .u32 0,Value.int .u32 0,Value.int .u32 0,Value.int .u32 0,Value.int .u32 0,Value.int .u32 0,Value.int .u32 0] 71)).below b1 (by simp;omega)).alloc (Obj.cells (va .u32 (wL b)) 243)
 have c0:=hA2.cell 0
 have c1:=hA2.cell 1
 have c2:=hA2.cell 2
 have c3:=hA2.cell 3
 have c4:=hA2.cell 4
 have c5:=hA2.cell 5
 have c6:=hA2.cell 6
 have c7:=hA2.cell 7
 simp only [List.getElem?_toArray,List.getElem?_cons_zero,List.getElem?_cons_succ] at c0 c1 c2 c3 c4 c5 c6 c7
 have hA3:=Lib.hid hA2
 clear hA2
 have hgk:Hid (kA ((w1.alloc (Obj.cells (va .u32 (wL b)) 243)).alloc (Obj.cells #[Value.int .u32 (h0:Nat),Value.int .u32 (h1:Nat),Value.int .u32 (h2:Nat),Value.int .u32 (h3:Nat),Value.int .u32 (h4:Nat),Value.int .u32 (h5:Nat),Value.int .u32 (h6:Nat),Value.int .u32 (h7:Nat)] 71))) :=
  Lib.hid ((((((hg.alloc _).alloc _).alloc _).below b1).alloc _).alloc _)
 have hsk0:(Tryz.prog.info? 243).map (·.size)=some (nv .u32 kL).length:=by rw [aZ,sM];kernel_rfl
 have hsk:=Lib.hid hsk0
 clear hsk0
 go_wp2_with (refine wpList_load_mid rfl 243 (.global 2) rfl 2 0 rfl (nv .u32 kL) _ hgk.out.k Tryz.underlying243 rfl hsk.out ?_)
 have hm:vA w.heap.size w1.heap.size b h0 h1 h2 h3 h4 h5 h6 h7 h0 h1 h2 h3 h4 h5 h6 h7 w ((w1.alloc (Obj.cells (va .u32 (wL b)) 243)).alloc (Obj.cells #[Value.int .u32 (h0:Nat),Value.int .u32 (h1:Nat),Value.int .u32 (h2:Nat),Value.int .u32 (h3:Nat),Value.int .u32 (h4:Nat),Value.int .u32 (h5:Nat),Value.int .u32 (h6:Nat),Value.int .u32 (h7:Nat)] 71)):=by
  refine ⟨hA3.out.alloc _,(aC.new _ _ _).alloc _,?_,((?_:aC w1 (w.heap.size+1+1) 71 (va .u32 z8)).alloc _).alloc _,by have:=b1.size;simp at this;omega,?_⟩
  ·have:=aC.new (w1.alloc (Obj.cells (va .u32 (wL b)) 243)) 71 #[Value.int .u32 (h0:Nat),Value.int .u32 (h1:Nat),Value.int .u32 (h2:Nat),Value.int .u32 (h3:Nat),Value.int .u32 (h4:Nat),Value.int .u32 (h5:Nat),Value.int .u32 (h6:Nat),Value.int .u32 (h7:Nat)]
   simpa using this
  ·have:=aC.new ((w.alloc (Obj.cells #[Value.int .u32 (h0:Nat),Value.int .u32 (h1:Nat),Value.int .u32 (h2:Nat),Value.int .u32 (h3:Nat),Value.int .u32 (h4:Nat),Value.int .u32 (h5:Nat),Value.int .u32 (h6:Nat),Value.int .u32 (h7:Nat)] 71)).alloc (Obj.cells (va .u8 b) 72)) 71 (va .u32 z8)
   have h2:=this.below b1 (by simp)
   simpa using h2
  ·have h3:=b1.mono (B':=w.heap.size) (by simp;omega)
   have h4:Below w.heap.size w w1:=((((Below.refl _ _).alloc (aS _) _).alloc (by simp) _).alloc (by simp;omega) _).trans h3
   exact (h4.alloc h4.size _).alloc (by have:=h4.size;simp;omega) _
 clear c0 c1 c2 c3 c4 c5 c6 c7 hA1 hA3 hB1 hgk hsk hsz hzv hst
 generalize w1.heap.size=T at *
 obtain ⟨iu,hiu,hiu0,hiu1,hiu2⟩:=info_parts aJH
 go_loopw [18] (λs wr=>∃(k x0 x1 x2 x3 x4 x5 x6 x7:Nat),k≤64∧s=.int .i64 (k:Int)∧nQ [h0,h1,h2,h3,h4,h5,h6,h7] b k=[x0,x1,x2,x3,x4,x5,x6,x7]∧vA w.heap.size T b h0 h1 h2 h3 h4 h5 h6 h7 x0 x1 x2 x3 x4 x5 x6 x7 w wr) (λs _=>64-(intOf s).toNat)
 case atStart=>exact ⟨0,h0,h1,h2,h3,h4,h5,h6,h7,by omega,rfl,rfl,hm⟩
 case round =>
  clear hm b1
  obtain ⟨k,x0,x1,x2,x3,x4,x5,x6,x7,hk,rfl,hx,hmem⟩:=hrel
  have hlt:=aGu [h0,h1,h2,h3,h4,h5,h6,h7] b hh k
  rw [hx] at hlt
  have l0:x0<4294967296:=hlt 0
  have l1:x1<4294967296:=hlt 1
  have l2:x2<4294967296:=hlt 2
  have l3:x3<4294967296:=hlt 3
  have l4:x4<4294967296:=hlt 4
  have l5:x5<4294967296:=hlt 5
  have l6:x6<4294967296:=hlt 6
  have l7:x7<4294967296:=hlt 7
  clear hlt
  have hx':=Lib.hid hx
  clear hx
  by_cases hlt:k<64
  ·have hlt':(k:Int)<64:=by omega
   have hix:=aAs (P:=Tryz.prog) (kk:=.i64) (l:=kL) (i:=k) Tryz.underlying243 Tryz.underlying57 hiu hiu1 sM hlt
   have hix':∀u:World,(Instr.index 243 (.agg (nv .u32 kL).toArray) (.int .i64 (k:Int))).run Tryz.prog u=.ok (.int .u32 (pO k:Nat)) u:=λu=>by
    have e:=hix u
    rw [show kL.getD k 0=pO k from fS _ _ _ hlt] at e
    exact e
   clear hix
   have c0:=hmem.x.cell 0
   have c1:=hmem.x.cell 1
   have c2:=hmem.x.cell 2
   have c3:=hmem.x.cell 3
   have c4:=hmem.x.cell 4
   have c5:=hmem.x.cell 5
   have c6:=hmem.x.cell 6
   have c7:=hmem.x.cell 7
   simp only [List.getElem?_toArray,List.getElem?_cons_zero,List.getElem?_cons_succ] at c0 c1 c2 c3 c4 c5 c6 c7
   have cw:=hmem.s.num (i:=k) (by rw [aG7];exact hlt)
   rw [aJ8 b k hlt] at cw
   have lk:=aM8 k
   have lw:=pX b hb k
   generalize hkk:pO k=kk at *
   generalize hww:eE b k=ww at *
   have hmem':=Lib.hid hmem
   have hkk':=Lib.hid hkk
   have hww':=Lib.hid hww
   clear hmem hkk hww
   have f0:=hmem'.out.x.frozen 0
   have f1:=hmem'.out.x.frozen 1
   have f2:=hmem'.out.x.frozen 2
   have f3:=hmem'.out.x.frozen 3
   have f4:=hmem'.out.x.frozen 4
   have f5:=hmem'.out.x.frozen 5
   have f6:=hmem'.out.x.frozen 6
   have f7:=hmem'.out.x.frozen 7
   have e1:=aK1 x4 l4
   have e2:=aHS x4 x5 x6 l4 l5 l6
   have e3:=aLB x0 l0
   have e4:=a8K x0 x1 x2 l0 l1 l2
   go_wp2
   go_quiet (fail)
   go_wp2
   go_quiet ((go_at_call 117;(first|(with_reducible exact yG _ 6 6 rfl l4 (by omega) (by omega) _ _ _)|(with_reducible exact yG _ 11 11 rfl l4 (by omega) (by omega) _ _ _)|(with_reducible exact yG _ 25 25 rfl l4 (by omega) (by omega) _ _ _))))
   clear e1 e2
   go_wp2
   go_quiet ((go_at_call 117;(first|(with_reducible exact yG _ 2 2 rfl l0 (by omega) (by omega) _ _ _)|(with_reducible exact yG _ 13 13 rfl l0 (by omega) (by omega) _ _ _)|(with_reducible exact yG _ 22 22 rfl l0 (by omega) (by omega) _ _ _))))
   clear e3 e4
   go_wp2
   go_roundw
   case rel =>
    rw [aHS x4 x5 x6 l4 l5 l6]
    have hy:nQ [h0,h1,h2,h3,h4,h5,h6,h7] b (k+1)=[(t1 kk ww [x0,x1,x2,x3,x4,x5,x6,x7]+t2 [x0,x1,x2,x3,x4,x5,x6,x7])%4294967296,x0,x1,x2,(x3+t1 kk ww [x0,x1,x2,x3,x4,x5,x6,x7])%4294967296,x4,x5,x6]:=by
     show E6 (pO k) (eE b k) (nQ [h0,h1,h2,h3,h4,h5,h6,h7] b k)=_
     rw [hx'.out,hkk'.out,hww'.out];rfl
    refine ⟨k+1,_,_,_,_,_,_,_,_,by omega,by go_num,hy,?_⟩
    have v0:((x7:Int)+(B5 x4:Nat)+(ch x4 x5 x6:Nat)+(kk:Int)+(ww:Int)+((bED x0:Nat)+(mj x0 x1 x2:Nat)))%4294967296=(((t1 kk ww [x0,x1,x2,x3,x4,x5,x6,x7]+t2 [x0,x1,x2,x3,x4,x5,x6,x7])%4294967296:Nat):Int):=by
     simp only [t1,t2,List.getD_cons_zero,List.getD_cons_succ];omega
    have v4:((x3:Int)+((x7:Int)+(B5 x4:Nat)+(ch x4 x5 x6:Nat)+(kk:Int)+(ww:Int)))%4294967296=(((x3+t1 kk ww [x0,x1,x2,x3,x4,x5,x6,x7])%4294967296:Nat):Int):=by
     simp only [t1,List.getD_cons_zero,List.getD_cons_succ];omega
    rw [v0,v4]
    exact (hmem'.out.drewN_ _).round _ _
   case measure=>simp [intOf];omega
  ·have hm2:aMf w.heap.size T (iE [h0,h1,h2,h3,h4,h5,h6,h7] [x0,x1,x2,x3,x4,x5,x6,x7] 0) [x0,x1,x2,x3,x4,x5,x6,x7] w wr:=by
    rw [bCf _ _ rfl]
    exact ⟨hmem.a,hmem.x,hmem.r,hmem.lt,hmem.bel⟩
   have hfin:comp [h0,h1,h2,h3,h4,h5,h6,h7] b=iE [h0,h1,h2,h3,h4,h5,h6,h7] [x0,x1,x2,x3,x4,x5,x6,x7] 8:=by
    obtain rfl:k=64:=by omega
    rw [a9q];unfold comp;rw [hx'.out]
   have hfin':=Lib.hid hfin
   have ek:(k:Int)=64:=by omega
   have hxl:[x0,x1,x2,x3,x4,x5,x6,x7].length=8:=rfl
   have hw32:nK [x0,x1,x2,x3,x4,x5,x6,x7]:=by have:=aGu [h0,h1,h2,h3,h4,h5,h6,h7] b hh k;rwa [hx'.out] at this
   clear hx' hmem hlt hk hfin l0 l1 l2 l3 l4 l5 l6 l7
   generalize [x0,x1,x2,x3,x4,x5,x6,x7]=x at *
   have hxh:[h0,h1,h2,h3,h4,h5,h6,h7].length=8:=rfl
   generalize hHL:[h0,h1,h2,h3,h4,h5,h6,h7]=h at *
   go_wp2
   clear ek
   go_loopw [99] (λs wr=>∃i:Nat,i≤8∧s=.int .i64 (i:Int)∧aMf w.heap.size T (iE h x i) x w wr) (λs _=>8-(intOf s).toNat)
   case atStart=>exact ⟨0,by omega,rfl,hm2⟩
   case round =>
    obtain ⟨i,hi,rfl,hmem⟩:=hrel
    clear hm2
    by_cases hlt:i<8
    ·have hlt':(i:Int)<8:=by omega
     have ca:=hmem.a.num (i:=i) (by rw [oE];exact hlt)
     rw [bCA _ _ _ hlt] at ca
     have cx:=hmem.x.num (i:=i) (by rw [hxl];exact hlt)
     have fa:=hmem.a.frozen i
     have hst:=hmem.a.setNum i ((h.getD i 0+x.getD i 0)%4294967296)
     rw [aSJ _ _ _ hlt] at hst
     have hst':=Lib.hid hst
     clear hst
     generalize h.getD i 0=p at *
     generalize x.getD i 0=q at *
     go_wp2
     go_region
     all_goals go_wp2
     all_goals go_roundw
     case rel =>
      have hv:((p:Int)+(q:Int))%4294967296=(((p+q)%4294967296:Nat):Int):=by omega
      refine ⟨i+1,by omega,by go_num,?_⟩
      rw [hv]
      exact ⟨hst'.out,hmem.x.far (p:=⟨w.heap.size,i,none⟩) (by have:=hmem.lt;simp;omega) _,hmem.r.far (p:=⟨w.heap.size,i,none⟩) (by simp;omega) _,hmem.lt,(hmem.bel.drew).setCell (aS _) _⟩
     case measure=>simp [intOf];omega
    ·have ei:(i:Int)=8:=by omega
     obtain rfl:i=8:=by omega
     have hsz0:(Tryz.prog.info? 71).map (·.size)=some (va .u32 (iE h x 8)).size:=by rw [b9,oE];kernel_rfl
     have hsz:=Lib.hid hsz0
     have hvs:(va .u32 (iE h x 8)).size=8:=by rw [b9,oE]
     have hst:=mU (P:=Tryz.prog) hmem.r .u32 (iE h x 8) (by rw [b9,oE];rfl)
     have hmem':=Lib.hid hmem
     clear hsz0 hmem
     go_wp2_with (refine wpList_load_row rfl 71 (.tmp 2) rfl w.heap.size rfl 71 (va .u32 (iE h x 8)) (0,0) _ hmem'.out.a Tryz.underlying71 rfl hsz.out ?_)
     exact bodyPost_ret (results_cell_row rfl _ _ (w.heap.size+1+1) 71 (va .u32 (iE h x 8)) (0,0) _ rfl (hmem'.out.r.row _) Tryz.underlying71 rfl hsz.out) rfl ⟨by rw [hHL,hfin'.out],eJ hmem'.out.bel (by omega) _⟩
theorem aNN(h b:List Nat)(hl8:h.length=8)(hh:nK h)(hb:Byt b)(hl:b.length=64)(w:World)(hg:kA w):
 Calls Tryz.prog 62 #[.agg (va .u32 h),.agg (va .u8 b)] w λe w'=>e=.returned (.agg (va .u32 (comp h b)))∧Below w.heap.size w w':=by
 match h,hl8 with
 |[h0,h1,h2,h3,h4,h5,h6,h7],_=>exact bCo h0 h1 h2 h3 h4 h5 h6 h7 b hh hb hl w hg
