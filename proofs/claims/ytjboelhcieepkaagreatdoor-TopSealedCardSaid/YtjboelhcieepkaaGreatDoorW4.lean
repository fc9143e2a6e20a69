/- A part of the proof of TopSealed. -/
import Derived.Test.YtjboelhcieepkaaGreatDoorW3
import Derived.RangeFuncLeaves
import Derived.RangeFuncRecord
noncomputable section
set_option maxRecDepth 16384
namespace Go.Proofs.YtjboelhcieepkaaGreatDoor
open Go.RowKit
structure aF where
 g:Nat
 b:Nat
 c:Nat
 rc:Option Loop
 /-- blocks that belong to it and stay unseen -/
 cv:Nat->Prop
mutual
inductive aP(r:List aF):SV->Value->Prop
 |v (x:Value):aP r (.v x) x
 |p {n o:Nat} {L:aF} (h:r[n]?=some L):aP r (.p n o) (.pointer (some ⟨L.g,L.b+o,none⟩))
 |s {n o l c:Nat} {L:aF} (h:r[n]?=some L):aP r (.s n o l c) (.slice (some ⟨L.g,L.b+o,none⟩) l c)
 |w {n l:Nat} {L:aF} (h:r[n]?=some L) (hl:l≤L.c):aP r (.w n l) (.slice (some ⟨L.g,L.b,none⟩) l L.c)
 |a {cs:Rp SV} {vs:List Value} (h:aD r cs vs):aP r (.a cs) (.agg vs.toArray)
 |t {xs:List SV} {ys:List Value} (h:aX r xs ys):aP r (.t xs) (.tuple ys.toArray)
 |f {fn:Fn} {a b:List SV} {xs ys:List Value} (ha:aX r a xs) (hb:aX r b ys):aP r (.f fn a b) (.func fn xs.toArray ys.toArray)
 |i {t:TypeId} {x:SV} {y:Value} (h:aP r x y):aP r (.i t x) (.iface t y)
 |y {n:Nat} {L:aF} (h:r[n]?=some L):aP r (.y n) (.func (.yield L.g) #[] #[])
 |gs {n l c:Nat} {L:aF} (h:r[n]?=some L) (hl:l≤c):aP r (.gs n l) (.slice (some ⟨L.g,0,none⟩) l c)
 |b (x:aQ):aP r (.b x) (.string (kB x.l))
 |u (y:Value):aP r .u y
inductive aX(r:List aF):List SV->List Value->Prop
 |nil:aX r [] []
 |cons {x:SV} {y:Value} {xs:List SV} {ys:List Value} (h:aP r x y) (t:aX r xs ys):aX r (x::xs) (y::ys)
inductive aD(r:List aF):Rp SV->List Value->Prop
 |nil:aD r .nil []
 |one {x:SV} {y:Value} (h:aP r x y) (h1:y.oneCell'=true):aD r (.one x) [y]
 |arr {k:IntKind} {n:Nat} {l:List Nat} (h:l.length=n):aD r (.arr k n l) (nv k l)
 |q (a:At):aD r (.q a) a.vals
 |node {s t:Nat} {a b:Rp SV} {us vs:List Value} (ha:aD r a us) (hb:aD r b vs) (hs:us.length=s) (ht:us.length+vs.length=t):aD r (.node s t a b) (us++vs)
end
theorem jK{α:Type}{r:List α}{n:Nat}{L:α}(s:List α)(h:r[n]?=some L):(r++s)[n]?=some L:=by
 have hl:n<r.length:=(rI.1 h).1
 rw [mZ hl];exact h
mutual
theorem aP.mono{r:List aF}(s:List aF):∀{x:SV} {y:Value},aP r x y->aP (r++s) x y
 |_,_,.v x=>.v x
 |_,_,.p h=>.p (jK s h)
 |_,_,.s h=>.s (jK s h)
 |_,_,.w h hl=>.w (jK s h) hl
 |_,_,.a h=>.a (aD.mono s h)
 |_,_,.t h=>.t (aX.mono s h)
 |_,_,.f ha hb=>.f (aX.mono s ha) (aX.mono s hb)
 |_,_,.i h=>.i (aP.mono s h)
 |_,_,.y h=>.y (jK s h)
 |_,_,.gs h hl=>.gs (jK s h) hl
 |_,_,.b x=>.b x
 |_,_,.u y=>.u y
theorem aX.mono{r:List aF}(s:List aF):∀{x:List SV} {y:List Value},aX r x y->aX (r++s) x y
 |_,_,.nil=>.nil
 |_,_,.cons h t=>.cons (aP.mono s h) (aX.mono s t)
theorem aD.mono{r:List aF}(s:List aF):∀{x:Rp SV} {y:List Value},aD r x y->aD (r++s) x y
 |_,_,.nil=>.nil
 |_,_,.one h h1=>.one (aP.mono s h) h1
 |_,_,.arr h=>.arr h
 |_,_,.q a=>.q a
 |_,_,.node ha hb hs ht=>.node (aD.mono s ha) (aD.mono s hb) hs ht
end
theorem bE{a b:Nat}:Nat.beq a b=decide (a=b):=by
 by_cases h:a=b
 ·subst h;simp
 ·simp only [h,decide_false]
  cases hb:Nat.beq a b
  ·rfl
  ·exact absurd (eU hb) h
theorem cY{a b:Nat}:Nat.ble a b=decide (a≤b):=by
 by_cases h:a≤b
 ·simp [h]
 ·simp only [h,decide_false]
  cases hb:Nat.ble a b
  ·rfl
  ·exact absurd (Nat.le_of_ble_eq_true hb) h
theorem bO{a b:Nat}:Nat.blt a b=decide (a<b):=by unfold Nat.blt;rw [cY];rfl
theorem tS{m n:Nat}(hm:m<8)(hn:n<8)(h:rV m=rV n):m=n:=by
 have key:∀m:Fin 8,∀n:Fin 8,rV m=rV n->m=n:=by
  intro m n
  match m,n with
  |⟨0,_⟩,⟨0,_⟩|⟨1,_⟩,⟨1,_⟩|⟨2,_⟩,⟨2,_⟩|⟨3,_⟩,⟨3,_⟩|⟨4,_⟩,⟨4,_⟩|⟨5,_⟩,⟨5,_⟩|⟨6,_⟩,⟨6,_⟩|⟨7,_⟩,⟨7,_⟩=>exact λ_=>rfl
  |⟨0,_⟩,⟨1,_⟩|⟨0,_⟩,⟨2,_⟩|⟨0,_⟩,⟨3,_⟩|⟨0,_⟩,⟨4,_⟩|⟨0,_⟩,⟨5,_⟩|⟨0,_⟩,⟨6,_⟩|⟨0,_⟩,⟨7,_⟩
  |⟨1,_⟩,⟨0,_⟩|⟨1,_⟩,⟨2,_⟩|⟨1,_⟩,⟨3,_⟩|⟨1,_⟩,⟨4,_⟩|⟨1,_⟩,⟨5,_⟩|⟨1,_⟩,⟨6,_⟩|⟨1,_⟩,⟨7,_⟩
  |⟨2,_⟩,⟨0,_⟩|⟨2,_⟩,⟨1,_⟩|⟨2,_⟩,⟨3,_⟩|⟨2,_⟩,⟨4,_⟩|⟨2,_⟩,⟨5,_⟩|⟨2,_⟩,⟨6,_⟩|⟨2,_⟩,⟨7,_⟩
  |⟨3,_⟩,⟨0,_⟩|⟨3,_⟩,⟨1,_⟩|⟨3,_⟩,⟨2,_⟩|⟨3,_⟩,⟨4,_⟩|⟨3,_⟩,⟨5,_⟩|⟨3,_⟩,⟨6,_⟩|⟨3,_⟩,⟨7,_⟩
  |⟨4,_⟩,⟨0,_⟩|⟨4,_⟩,⟨1,_⟩|⟨4,_⟩,⟨2,_⟩|⟨4,_⟩,⟨3,_⟩|⟨4,_⟩,⟨5,_⟩|⟨4,_⟩,⟨6,_⟩|⟨4,_⟩,⟨7,_⟩
  |⟨5,_⟩,⟨0,_⟩|⟨5,_⟩,⟨1,_⟩|⟨5,_⟩,⟨2,_⟩|⟨5,_⟩,⟨3,_⟩|⟨5,_⟩,⟨4,_⟩|⟨5,_⟩,⟨6,_⟩|⟨5,_⟩,⟨7,_⟩
  |⟨6,_⟩,⟨0,_⟩|⟨6,_⟩,⟨1,_⟩|⟨6,_⟩,⟨2,_⟩|⟨6,_⟩,⟨3,_⟩|⟨6,_⟩,⟨4,_⟩|⟨6,_⟩,⟨5,_⟩|⟨6,_⟩,⟨7,_⟩
  |⟨7,_⟩,⟨0,_⟩|⟨7,_⟩,⟨1,_⟩|⟨7,_⟩,⟨2,_⟩|⟨7,_⟩,⟨3,_⟩|⟨7,_⟩,⟨4,_⟩|⟨7,_⟩,⟨5,_⟩|⟨7,_⟩,⟨6,_⟩=>intro h;cases h
 have:=key ⟨m,hm⟩ ⟨n,hn⟩ h
 exact Fin.mk.inj this
instance:DecidableEq Dg:=λa b=>by cases a<;>cases b<;>first|exact isTrue rfl|exact isFalse (by intro h;cases h)
theorem qL{β:Type}(d d':Dg)(f:β->β)(t:fC β):fP d' (gG d f t)=if d'=d then f (fP d t) else fP d' t:=by
 cases t;cases d<;>cases d'<;>rfl
theorem aDI{β:Type}(d:Dg)(x:β):fP d (lX x)=x:=by cases d<;>rfl
theorem aQq{k j:Nat}(hk:k≤32767)(hj:j≤32767)(h0:kF j=kF k)(h1:kC j=kC k)(h2:jZ j=jZ k)(h3:qK j=qK k)(h4:qH j=qH k):j=k:=by
 have e0:j%8=k%8:=tS (by omega) (by omega) h0
 have e1:j / 8%8=k / 8%8:=tS (by omega) (by omega) h1
 have e2:j / 64%8=k / 64%8:=tS (by omega) (by omega) h2
 have e3:j / 512%8=k / 512%8:=tS (by omega) (by omega) h3
 have e4:j / 4096%8=k / 4096%8:=tS (by omega) (by omega) h4
 omega
section
variable {α:Type}
theorem dQ.get_eq(t:dQ α)(k:Nat):t.get k=if k≤511 then fP (kF k) (fP (kC k) (fP (jZ k) t.o)) else t.ov k:=by
 show Bool.rec (motive:=λ_=>dQ α->Option α) (λt=>t.ov k) (λt=>fP (kF k) (fP (kC k) (fP (jZ k) t.o))) (Nat.ble k 511) t=_
 rw [cY];by_cases h:k≤511<;>simp [h]
theorem dQ.set_eq(t:dQ α)(k:Nat)(x:Option α):t.set x k=if k≤511 then ⟨gG (jZ k) (gG (kC k) (gG (kF k) λ_=>x)) t.o,t.ov⟩ else ⟨t.o,λj=>Bool.rec (t.ov j) x (Nat.beq j k)⟩:=by
 show Bool.rec (motive:=λ_=>Option α->dQ α->dQ α) (λx t=>⟨t.o,λj=>Bool.rec (t.ov j) x (Nat.beq j k)⟩) (λx t=>⟨gG (jZ k) (gG (kC k) (gG (kF k) λ_=>x)) t.o,t.ov⟩) (Nat.ble k 511) x t=_
 rw [cY];by_cases h:k≤511<;>simp [h]
theorem dQ.get_set(t:dQ α)(k j:Nat)(x:Option α):(t.set x k).get j=if j=k then x else t.get j:=by
 rw [dQ.set_eq,dQ.get_eq,dQ.get_eq]
 by_cases hk:k≤511
 ·rw [if_pos hk]
  by_cases hj:j≤511
  ·simp only [if_pos hj,qL]
   by_cases e:j=k
   ·subst e;simp [qL]
   ·rw [if_neg e]
    by_cases h2:jZ j=jZ k
    ·rw [if_pos h2,<-h2,qL]
     by_cases h1:kC j=kC k
     ·rw [if_pos h1,<-h1,qL]
      by_cases h0:kF j=kF k
      ·exfalso;apply e
       have e0:j%8=k%8:=tS (by omega) (by omega) h0
       have e1:j / 8%8=k / 8%8:=tS (by omega) (by omega) h1
       have e2:j / 64%8=k / 64%8:=tS (by omega) (by omega) h2
       omega
      ·rw [if_neg h0]
     ·rw [if_neg h1]
    ·rw [if_neg h2]
  ·simp only [if_neg hj]
   rw [if_neg (by omega)]
 ·rw [if_neg hk]
  by_cases hj:j≤511
  ·simp only [if_pos hj];rw [if_neg (by omega)]
  ·simp only [if_neg hj,bE]
   by_cases e:j=k<;>simp [e]
theorem dQ.get_put(t:dQ α)(k j:Nat)(b:α):(t.put k b).get j=if j=k then some b else t.get j:=dQ.get_set _ _ _ _
theorem dQ.get_e(k:Nat):(dQ.e:dQ α).get k=none:=by
 rw [dQ.get_eq];simp [dQ.e,aDI]
theorem bC.get_eq(t:bC α)(k:Nat):t.get k=if k≤32767 then fP (kF k) (fP (kC k) (fP (jZ k) (fP (qK k) (fP (qH k) t.o)))) else t.ov k:=by
 show Bool.rec (motive:=λ_=>bC α->Option α) (λt=>t.ov k) (λt=>fP (kF k) (fP (kC k) (fP (jZ k) (fP (qK k) (fP (qH k) t.o))))) (Nat.ble k 32767) t=_
 rw [cY];by_cases h:k≤32767<;>simp [h]
theorem bC.set_eq(t:bC α)(k:Nat)(x:Option α):t.set x k=if k≤32767 then ⟨gG (qH k) (gG (qK k) (gG (jZ k) (gG (kC k) (gG (kF k) λ_=>x)))) t.o,t.ov⟩ else ⟨t.o,λj=>Bool.rec (t.ov j) x (Nat.beq j k)⟩:=by
 show Bool.rec (motive:=λ_=>Option α->bC α->bC α) (λx t=>⟨t.o,λj=>Bool.rec (t.ov j) x (Nat.beq j k)⟩) (λx t=>⟨gG (qH k) (gG (qK k) (gG (jZ k) (gG (kC k) (gG (kF k) λ_=>x)))) t.o,t.ov⟩) (Nat.ble k 32767) x t=_
 rw [cY];by_cases h:k≤32767<;>simp [h]
theorem bC.get_set(t:bC α)(k j:Nat)(x:Option α):(t.set x k).get j=if j=k then x else t.get j:=by
 rw [bC.set_eq,bC.get_eq,bC.get_eq]
 by_cases hk:k≤32767
 ·rw [if_pos hk]
  by_cases hj:j≤32767
  ·simp only [if_pos hj,qL]
   by_cases e:j=k
   ·subst e;simp [qL]
   ·rw [if_neg e]
    by_cases h4:qH j=qH k
    ·rw [if_pos h4,<-h4,qL]
     by_cases h3:qK j=qK k
     ·rw [if_pos h3,<-h3,qL]
      by_cases h2:jZ j=jZ k
      ·rw [if_pos h2,<-h2,qL]
       by_cases h1:kC j=kC k
       ·rw [if_pos h1,<-h1,qL]
        by_cases h0:kF j=kF k
        ·exact absurd (aQq hk hj h0 h1 h2 h3 h4) e
        ·rw [if_neg h0]
       ·rw [if_neg h1]
      ·rw [if_neg h2]
     ·rw [if_neg h3]
    ·rw [if_neg h4]
  ·simp only [if_neg hj]
   rw [if_neg (by omega)]
 ·rw [if_neg hk]
  by_cases hj:j≤32767
  ·simp only [if_pos hj];rw [if_neg (by omega)]
  ·simp only [if_neg hj,bE]
   by_cases e:j=k<;>simp [e]
theorem bC.get_put(t:bC α)(k j:Nat)(b:α):(t.put k b).get j=if j=k then some b else t.get j:=bC.get_set _ _ _ _
theorem bC.get_del(t:bC α)(k j:Nat):(t.del k).get j=if j=k then none else t.get j:=bC.get_set _ _ _ _
theorem bC.get_e(k:Nat):(bC.e:bC α).get k=none:=by
 rw [bC.get_eq];simp [bC.e,aDI]
end
section
variable {r:List aF}
def bU(r:List aF)(s:Sl)(vs:List Value):Prop:=vs.length=s.n∧∀i,aP r (nth s i) (vs.getD i undef)
theorem bU.mono{s:Sl}{vs:List Value}(h:bU r s vs)(q:List aF):bU (r++q) s vs:=⟨h.1,λi=>(h.2 i).mono q⟩
theorem bU.nth{s:Sl}{vs:List Value}(n:Nat)(h:bU r s vs):aP r (nth s n) (vs.getD n undef):=h.2 n
theorem bU.set{s:Sl}{vs:List Value}(n:Nat){x:SV}{y:Value}(h:bU r s vs)(hx:aP r x y):bU r (sS s n x) (vs.set n y):=by
 have e:sS s n x=if s.n≤n then s else ⟨s.t.put n x,s.n⟩:=by
  show Bool.rec (motive:=λ_=>Sl) ⟨s.t.put n x,s.n⟩ s (Nat.ble s.n n)=_
  rw [cY]
  by_cases hn:s.n≤n<;>simp [hn]
 rw [e]
 by_cases hn:s.n≤n
 ·rw [if_pos hn,List.set_eq_of_length_le (by rw [h.1];exact hn)]
  exact h
 ·rw [if_neg hn]
  refine ⟨by simp [h.1],λi=>?_⟩
  have hn2:n<vs.length:=by rw [h.1];omega
  have e2:Go.Proofs.YtjboelhcieepkaaGreatDoor.nth ⟨s.t.put n x,s.n⟩ i=if i=n then x else Go.Proofs.YtjboelhcieepkaaGreatDoor.nth s i:=by
   show Option.rec (motive:=λ_=>SV) mX (λx=>x) ((s.t.put n x).get i)=_
   rw [dQ.get_put]
   by_cases hi:i=n
   ·simp [hi]
   ·simp only [hi,if_false];rfl
  rw [e2]
  by_cases hi:i=n
  ·subst hi;simp [hn2,hx]
  ·simp only [hi,if_false,cP,List.getElem?_set_ne (Ne.symm hi)]
   have:=h.2 i
   rwa [cP] at this
theorem aX.app:∀{xs xs':List SV} {ys ys':List Value},aX r xs ys->aX r xs' ys'->aX r (xs++xs') (ys++ys')
 |[],_,_,_,h,h'=>by cases h;exact h'
 |_::_,_,_,_,h,h'=>by cases h with|cons h t=>exact .cons h (aX.app t h')
theorem aX.length_eq:∀{xs:List SV} {ys:List Value},aX r xs ys->ys.length=xs.length
 |[],_,h=>by cases h;rfl
 |_::_,_,h=>by cases h with|cons h t=>simp [aX.length_eq t]
theorem aKi:∀(xs:List SV) (k:Nat) (t:dQ SV) (i:Nat),(V3 xs k t).get i=if k≤i∧i<k+xs.length then xs[i-k]? else t.get i
 |[],k,t,i=>by
  have:¬ (k≤i∧i<k+([]:List SV).length):=by simp
  rw [if_neg this];rfl
 |x::xs,k,t,i=>by
  rw [V3,aKi xs (k+1) (t.put k x) i,dQ.get_put]
  by_cases h:k+1≤i∧i<k+1+xs.length
  ·rw [if_pos h,if_pos (by simp;omega)]
   rw [show i-k=(i-(k+1))+1 by omega,List.getElem?_cons_succ]
  ·rw [if_neg h]
   by_cases hk:i=k
   ·subst hk;rw [if_pos rfl,if_pos (by simp)];simp
   ·rw [if_neg hk,if_neg (by simp;omega)]
theorem aX.getD:∀{xs:List SV} {ys:List Value} (i:Nat) {x:SV},aX r xs ys->xs[i]?=some x->aP r x (ys.getD i undef)
 |[],_,_,_,_,hx=>by simp at hx
 |_::_,_,0,_,h,hx=>by cases h with|cons h t=>simp at hx;subst hx;simpa using h
 |_::xs,_,i+1,_,h,hx=>by cases h with|cons h t=>simpa using aX.getD i t (by simpa using hx)
theorem bU.frame{args:List SV}{vals:List Value}(h:aX r args vals)(m:Nat):bU r (frame args m) (vals++List.replicate (m-args.length) undef):=by
 have hl:=h.length_eq
 refine ⟨by simp [Go.Proofs.YtjboelhcieepkaaGreatDoor.frame,hl],λi=>?_⟩
 have e:Go.Proofs.YtjboelhcieepkaaGreatDoor.nth (Go.Proofs.YtjboelhcieepkaaGreatDoor.frame args m) i=(args[i]?).getD mX:=by
  show Option.rec (motive:=λ_=>SV) mX (λx=>x) ((V3 args 0 .e).get i)=_
  rw [aKi]
  by_cases hi:0≤i∧i<0+args.length
  ·rw [if_pos hi]
   rw [Nat.sub_zero,eZ (by omega)];rfl
  ·rw [if_neg hi,dQ.get_e,fA (by omega)];rfl
 rw [e]
 by_cases hi:i<args.length
 ·rw [eZ hi,cP,mZ (by omega)]
  have:=aX.getD i h (eZ hi)
  rwa [cP] at this
 ·rw [fA (by omega),cP,o3 (by omega)]
  have:((List.replicate (m-args.length) undef)[i-vals.length]?).getD undef=undef:=by
   cases hq:(List.replicate (m-args.length) undef)[i-vals.length]? with
   |none=>rfl
   |some u=>rw [List.getElem?_replicate] at hq;split at hq<;>simp_all
  rw [this]
  exact .v _
theorem aX.map_ev{ts:Sl}{vs:List Value}{df:List Deferred}(he:∀x,aP r (ev ts x) (Act.eval ⟨vs.toArray,df⟩ x)):∀(l:List Operand),aX r (l.map (ev ts)) (l.map (Act.eval ⟨vs.toArray,df⟩))
 |[]=>.nil
 |x::l=>.cons (he x) (aX.map_ev he l)
theorem aP.ev{ts:Sl}{vs:List Value}{df:List Deferred}(h:bU r ts vs)(x:Operand):aP r (ev ts x) (Act.eval ⟨vs.toArray,df⟩ x):=by
 cases x with
 |tmp t=>simpa [Act.eval,Go.Proofs.YtjboelhcieepkaaGreatDoor.ev] using (show aP r (aKt t ts) _ from bU.nth t h)
 |const v=>exact .v v
 |global g=>exact .v _
 |func f=>exact .f .nil .nil
theorem aD.length_eq{c:Rp SV}{ys:List Value}(h:aD r c ys):ys.length=dK c:=by
 cases h with
 |nil=>rfl
 |one=>rfl
 |arr h=>rw [aZ];exact h
 |q a=>exact a.len
 |node _ _ hs ht=>rw [eS];exact ht
theorem aD.cat{a b:Rp SV}{us vs:List Value}(ha:aD r a us)(hb:aD r b vs):aD r (cat a b) (us++vs):=by
 have hla:=ha.length_eq
 have hlb:=hb.length_eq
 unfold Go.Proofs.YtjboelhcieepkaaGreatDoor.cat
 split
 ·cases ha;exact hb
 ·cases hb;rw [eC];exact ha
 ·exact .node ha hb hla (by omega)
theorem aD.one_:∀{c:Rp SV} {ys:List Value},aD r c ys->∀v∈ys,v.oneCell'=true
 |_,_,.nil,v,hv=>by cases hv
 |_,_,.one _ h1,v,hv=>by rw [iY] at hv;subst hv;exact h1
 |_,_,.arr _,v,hv=>gN _ _ v hv
 |_,_,.q a,v,hv=>a.one v hv
 |_,_,.node ha hb _ _,v,hv=>(eL.1 hv).elim (aD.one_ ha v) (aD.one_ hb v)
theorem a9M(g:At->Nat->Rp SV)(s t:Nat)(a b:Rp SV)(o:Nat):sL g (.node s t a b) o=if o=0 then .node s t a b else if s≤o then sL g b (o-s) else .node (s-o) (t-o) (sL g a o) b:=by
 have h:sL g (.node s t a b) o=Bool.rec (Bool.rec (.node (s-o) (t-o) (sL g a o) b) (sL g b (o-s)) (Nat.ble s o)) (.node s t a b) (Nat.beq o 0):=rfl
 rw [h,bE,cY]
 by_cases h0:o=0
 ·simp [h0]
 ·by_cases h1:s≤o<;>simp [h0,h1]
theorem a1T(g:At->Nat->Rp SV)(s t:Nat)(a b:Rp SV)(o:Nat):sP g (.node s t a b) o=if t≤o then .node s t a b else if o≤s then sP g a o else .node s o a (sP g b (o-s)):=by
 have h:sP g (.node s t a b) o=Bool.rec (Bool.rec (.node s o a (sP g b (o-s))) (sP g a o) (Nat.ble o s)) (.node s t a b) (Nat.ble t o):=rfl
 rw [h,cY,cY]
 by_cases h0:t≤o
 ·simp [h0]
 ·by_cases h1:o≤s<;>simp [h0,h1]
theorem aBu{n:Nat}{a b c d:Rp SV}{va vb vc vd:List Value}(ha:aD r a va)(hb:aD r b vb)(hc:aD r c vc)(hd:aD r d vd)(la:va.length=n)(lb:vb.length=n)(lc:vc.length=n)(ld:vd.length=n):aD r (tI n a b c d) (va++(vb++(vc++vd))) :=
 .node ha (.node hb (.node hc hd lc (by omega)) lb (by simp;omega)) la (by simp;omega)
theorem aBo(a:At):aD r (t5 a) a.vals:=by
 have n1:∀(k:IntKind) (x:Int),(Value.int k x).oneCell'=true:=λ_ _=>rfl
 have o1:∀(k:IntKind) (x:Int),aD r (.one (.v (.int k x))) [.int k x]:=λk x=>.one (.v _) (n1 k x)
 cases a with
 |rcd x=>exact .node (o1 _ _) (.node (.q (.nnc x)) (.q (.tag x)) rfl (by simp [aA.nnc,aZ,x.ht])) rfl (by simp [aA.nnc,aZ,x.ht])
 |rcdB x =>
  have e:nv .u8 x.bytes=nv .u8 [x.s]++(nv .u8 x.nncB++nv .u8 x.tag):=by simp [aA.bytes,nv]
  show aD r _ (nv .u8 x.bytes)
  rw [e]
  exact .node (.arr rfl) (.node (.q (.nncB x)) (.q (.tag x)) (At.len (.nncB x)) (by simp [aA.nncB,Sh.beB,aZ,x.ht])) rfl (by simp [aA.nncB,Sh.beB,aZ,x.ht])
 |ent x=>exact .node (o1 _ _) (.q (.dig x)) rfl (by simp [aZ,x.ht])
 |entB x =>
  have e:nv .u8 x.bytes=nv .u8 [x.s]++nv .u8 x.dig:=by simp [aJ.bytes,nv]
  show aD r _ (nv .u8 x.bytes)
  rw [e]
  exact .node (.arr rfl) (.q (.dig x)) rfl (by simp [aZ,x.ht])
 |nnc x=>exact .node (o1 _ _) (o1 _ _) rfl rfl
 |tag x=>exact .arr x.ht
 |dig x=>exact .arr x.ht
 |sha l=>exact .arr (pS l)
 |byt x=>exact .arr x.hl
 |gh _ _ _=>exact .nil
 |bit b=>exact o1 _ _
 |st x =>
  show aD r _ ([.bool true]++(nv .u32 (Sh.hs x.l (x.n / 64))++(nv .u8 (qU x.l)++[.int .u64 (x.n:Int)])))
  have hh:=Sh.hs_len x.l (x.n / 64)
  have hr:=aNw x.l
  exact .node (.one (.v _) rfl) (.node (.arr hh) (.node (.arr hr) (o1 _ _) (by rw [aZ,hr]) (by simp [aZ,hr])) (by rw [aZ,hh]) (by simp [aZ,hh,hr])) rfl (by simp [aZ,hh,hr])
 |nncB x=>exact .arr (by simpa [At.vals,aZ,At.size] using At.len (.nncB x))
 |node x =>
  have h4:∀a b c d,aD r (tI 35 (.q (.rcd a)) (.q (.rcd b)) (.q (.rcd c)) (.q (.rcd d))) (lT a b c d):=λa b c d=>aBu (.q _) (.q _) (.q _) (.q _) (aA.len _) (aA.len _) (aA.len _) (aA.len _)
  have e4:∀a b c d,aD r (tI 33 (.q (.ent a)) (.q (.ent b)) (.q (.ent c)) (.q (.ent d))) (l8 a b c d):=λa b c d=>aBu (.q _) (.q _) (.q _) (.q _) (aJ.len _) (aJ.len _) (aJ.len _) (aJ.len _)
  cases x<;>exact .node (o1 _ _) (.node (o1 _ _) (.node (h4 _ _ _ _) (e4 _ _ _ _) (I6 _ _ _ _) (by rw [I6,aCA])) rfl (by simp [I6,aCA])) rfl (by simp [I6,aCA])
 |nodeB x =>
  have hb:∀(v ix:Nat) (l:List Nat) (c:Rp SV) (m t:Nat),aD r c (nv .u8 l)->l.length=m->t=m+4->aD r (.node 1 (t+1) (.arr .u8 1 [v]) (.node 4 t (.arr .u8 4 (Sh.beB ix 4)) c)) (nv .u8 ([v]++(Sh.beB ix 4++l))):=by
   intro v ix l c m t hc hl ht
   have e:nv .u8 ([v]++(Sh.beB ix 4++l))=nv .u8 [v]++(nv .u8 (Sh.beB ix 4)++nv .u8 l):=by simp [nv]
   rw [e]
   exact .node (.arr rfl) (.node (.arr (Sh.beB_len _ _)) hc (by rw [aZ,Sh.beB_len]) (by rw [aZ,aZ,Sh.beB_len];omega)) rfl (by simp [aZ,Sh.beB_len];omega)
  have ap:∀(a b c d:List Nat),nv .u8 (a++(b++(c++d)))=nv .u8 a++(nv .u8 b++(nv .u8 c++nv .u8 d)):=λa b c d=>by simp [nv]
  cases x with
  |leaf ix a b c d =>
   refine hb 0 ix _ _ 180 184 ?_ (by simp [aA.blen]) rfl
   rw [ap]
   exact aBu (.q (.rcdB _)) (.q (.rcdB _)) (.q (.rcdB _)) (.q (.rcdB _)) (by rw [aZ,aA.blen]) (by rw [aZ,aA.blen]) (by rw [aZ,aA.blen]) (by rw [aZ,aA.blen])
  |inner lv ix a b c d =>
   refine hb lv ix _ _ 132 136 ?_ (by simp [aJ.blen]) rfl
   rw [ap]
   exact aBu (.q (.entB _)) (.q (.entB _)) (.q (.entB _)) (.q (.entB _)) (by rw [aZ,aJ.blen]) (by rw [aZ,aJ.blen]) (by rw [aZ,aJ.blen]) (by rw [aZ,aJ.blen])
theorem aGl:∀(l:List Value),(∀v∈l,v.oneCell'=true)->aD r (U4 l) l
 |[],_=>.nil
 |v::l,h=>aD.cat (.one (.v v) (h v (by simp))) (aGl l λu hu=>h u (by simp [hu]))
theorem aD.dropW{g:At->Nat->Rp SV}(hg:∀a n,aD r (g a n) (a.vals.drop n)){c:Rp SV}:∀{ys:List Value} (n:Nat),aD r c ys->aD r (sL g c n) (ys.drop n):=by
 induction c with
 |q a=>intro ys n h;cases h;exact hg a n
 |nil=>intro ys n h;cases h;rw [List.drop_nil];exact aD.nil
 |one x =>
  intro ys n h
  cases h with
  |one h h1 =>
   show aD r (Bool.rec .nil (.one x) (Nat.beq n 0)) _
   rw [bE]
   by_cases h0:n=0
   ·subst h0;exact .one h h1
   ·simp only [h0,decide_false]
    rw [kI (by simp;omega)];exact .nil
 |arr k m l =>
  intro ys n h
  cases h with
  |arr h =>
   show aD r (Bool.rec (Bool.rec (.arr k (m-n) (l.drop n)) .nil (Nat.ble m n)) (.arr k m l) (Nat.beq n 0)) _
   rw [bE,cY]
   by_cases h0:n=0
   ·subst h0;exact .arr h
   ·by_cases h1:m≤n
    ·simp only [h0,h1,decide_false,decide_true]
     rw [kI (by rw [aZ];omega)];exact .nil
    ·simp only [h0,h1,decide_false]
     rw [rT]
     exact .arr (by simp [h])
 |node s t a b iha ihb =>
  intro ys n h
  rw [a9M]
  cases h with
  |node ha hb hs ht =>
   split
   ·rename_i h0;subst h0;exact .node ha hb hs ht
   ·split
    ·rw [List.drop_append,kI (by omega),hs]
     exact ihb _ hb
    ·rw [List.drop_append_of_le_length (by omega)]
     exact .node (iha n ha) hb (by simp;omega) (by simp;omega)
theorem aD.drop0{c:Rp SV}{ys:List Value}(n:Nat)(h:aD r c ys):aD r (aEx c n) (ys.drop n):=aD.dropW (λa n=>by
 show aD r (Bool.rec (Bool.rec (U4 (a.vals.drop n)) .nil (Nat.ble a.size n)) (.q a) (Nat.beq n 0)) _
 rw [bE,cY]
 by_cases h0:n=0
 ·subst h0;exact .q a
 ·simp only [h0,decide_false]
  by_cases h1:a.size≤n
  ·simp only [h1,decide_true];rw [kI (by rw [a.len];exact h1)];exact .nil
  ·simp only [h1,decide_false];exact aGl _ λv hv=>a.one v (List.mem_of_mem_drop hv)) n h
theorem aD.drop_{c:Rp SV}{ys:List Value}(n:Nat)(h:aD r c ys):aD r (o8 c n) (ys.drop n):=aD.dropW (λa n=>by
 show aD r (Bool.rec (Bool.rec (aEx (t5 a) n) .nil (Nat.ble a.size n)) (.q a) (Nat.beq n 0)) _
 rw [bE,cY]
 by_cases h0:n=0
 ·subst h0;exact .q a
 ·simp only [h0,decide_false]
  by_cases h1:a.size≤n
  ·simp only [h1,decide_true];rw [kI (by rw [a.len];exact h1)];exact .nil
  ·simp only [h1,decide_false];exact aD.drop0 n (aBo a)) n h
theorem aD.takeW{g:At->Nat->Rp SV}(hg:∀a n,aD r (g a n) (a.vals.take n)){c:Rp SV}:∀{ys:List Value} (n:Nat),aD r c ys->aD r (sP g c n) (ys.take n):=by
 induction c with
 |q a=>intro ys n h;cases h;exact hg a n
 |nil=>intro ys n h;cases h;rw [List.take_nil];exact aD.nil
 |one x =>
  intro ys n h
  cases h with
  |one h h1 =>
   show aD r (Bool.rec (.one x) .nil (Nat.beq n 0)) _
   rw [bE]
   by_cases h0:n=0
   ·subst h0;exact .nil
   ·simp only [h0,decide_false]
    rw [jB (by simp;omega)];exact .one h h1
 |arr k m l =>
  intro ys n h
  cases h with
  |arr h =>
   show aD r (Bool.rec (.arr k n (l.take n)) (.arr k m l) (Nat.ble m n)) _
   rw [cY]
   by_cases h1:m≤n
   ·simp only [h1,decide_true]
    rw [jB (by rw [aZ];omega)];exact .arr h
   ·simp only [h1,decide_false]
    rw [tW]
    exact .arr (by simp [h];omega)
 |node s t a b iha ihb =>
  intro ys n h
  rw [a1T]
  cases h with
  |node ha hb hs ht =>
   split
   ·rw [jB (by simp;omega)];exact .node ha hb hs ht
   ·split
    ·rw [List.take_append_of_le_length (by omega)]
     exact iha n ha
    ·rw [List.take_append,jB (by omega),hs]
     exact .node ha (ihb _ hb) hs (by simp;omega)
theorem aD.take_{c:Rp SV}{ys:List Value}(n:Nat)(h:aD r c ys):aD r (mP c n) (ys.take n):=aD.takeW (λa n=>by
 show aD r (Bool.rec (aKy (t5 a) n) (.q a) (Nat.ble a.size n)) _
 rw [cY]
 by_cases h0:a.size≤n
 ·simp only [h0,decide_true];rw [jB (by rw [a.len];exact h0)];exact .q a
 ·simp only [h0,decide_false]
  refine aD.takeW (λa n=>?_) n (aBo a)
  show aD r (Bool.rec (U4 (a.vals.take n)) (.q a) (Nat.ble a.size n)) _
  rw [cY]
  by_cases h0:a.size≤n
  ·simp only [h0,decide_true];rw [jB (by rw [a.len];exact h0)];exact .q a
  ·simp only [h0,decide_false];exact aGl _ λv hv=>a.one v (List.mem_of_mem_take hv)) n h
theorem aD.sub{c:Rp SV}{ys:List Value}{o n:Nat}{zs:Rp SV}(h:aD r c ys)(hs:uN c o n=some zs):aD r zs ((ys.drop o).take n)∧o+n≤ys.length:=by
 have hs':(Bool.rec none (some (mP (o8 c o) n)) (Nat.ble (o+n) (dK c)):Option (Rp SV))=some zs:=hs
 rw [cY] at hs'
 by_cases hl:o+n≤dK c
 ·simp only [hl,decide_true,b6] at hs'
  subst hs'
  exact ⟨aD.take_ n (aD.drop_ o h),by rw [h.length_eq];exact hl⟩
 ·simp [hl] at hs'
theorem aD.getW{g:At->Nat->Option SV}(hg:∀a o x,g a o=some x->∃v,a.vals[o]?=some v∧aP r x v){c:Rp SV}:∀{ys:List Value} {o:Nat} {x:SV},aD r c ys->M7 g c o=some x->∃v,ys[o]?=some v∧aP r x v:=by
 induction c with
 |q a=>intro ys o x h hs;cases h;exact hg a o x hs
 |nil=>intro ys o x h hs;cases hs
 |one y =>
  intro ys o x h hs
  have hs':(Bool.rec none (some y) (Nat.beq o 0):Option SV)=some x:=hs
  rw [bE] at hs'
  cases h with
  |one h h1 =>
   by_cases h0:o=0
   ·subst h0;simp at hs';subst hs';exact ⟨_,rfl,h⟩
   ·simp [h0] at hs'
 |arr k m l =>
  intro ys o x h hs
  have hs':(Bool.rec (some (.v (.int k ((l.getD o 0:Nat):Int)))) none (Nat.ble m o):Option SV)=some x:=hs
  rw [cY] at hs'
  cases h with
  |arr h =>
   by_cases h0:m≤o
   ·simp [h0] at hs'
   ·simp only [h0,decide_false,b6] at hs'
    subst hs'
    exact ⟨_,mL (by omega),.v _⟩
 |node s t a b iha ihb =>
  intro ys o x h hs
  have hs':(Bool.rec (M7 g a o) (M7 g b (o-s)) (Nat.ble s o):Option SV)=some x:=hs
  rw [cY] at hs'
  cases h with
  |node ha hb hs1 ht =>
   by_cases h0:s≤o
   ·simp only [h0,decide_true] at hs'
    obtain ⟨v,hv,hd⟩:=ihb hb hs'
    exact ⟨v,by rw [o3 (by omega),hs1];exact hv,hd⟩
   ·simp only [h0,decide_false] at hs'
    obtain ⟨v,hv,hd⟩:=iha ha hs'
    exact ⟨v,by rw [mZ (by omega)];exact hv,hd⟩
theorem aD.get{c:Rp SV}{ys:List Value}{o:Nat}{x:SV}(h:aD r c ys)(hs:aAW c o=some x):∃v,ys[o]?=some v∧aP r x v :=
 aD.getW (λa _ _ hs=>aD.getW (λa o x h=>by
  cases hv:a.vals[o]? with
  |none=>rw [hv] at h;cases h
  |some v=>rw [hv] at h;cases h;exact ⟨v,rfl,.v v⟩) (aBo a) hs) h hs
theorem bAN{k:IntKind}{c:Rp SV}{x:Nat}{zs:List Value}(h:aD r c zs)(hn:S7 k c=some x):zs=[.int k (x:Int)]:=by
 unfold S7 at hn
 split at hn
 ·rename_i j y
  cases h with
  |one h h1 =>
   cases h
   by_cases hk:k=j
   ·subst hk;simp at hn;subst hn;rfl
   ·simp [hk] at hn
 ·cases hn
theorem a9L(new:Rp SV)(m s t:Nat)(a b:Rp SV)(o:Nat):rput new m (.node s t a b) o=if o+m≤s then .node s t (rput new m a o) b else if s≤o then .node s t a (rput new m b (o-s)) else cat (mP (.node s t a b) o) (cat new (o8 (.node s t a b) (o+m))):=by
 have h:rput new m (.node s t a b) o=Bool.rec (Bool.rec (cat (mP (.node s t a b) o) (cat new (o8 (.node s t a b) (o+m)))) (.node s t a (rput new m b (o-s))) (Nat.ble s o)) (.node s t (rput new m a o) b) (Nat.ble (o+m) s):=rfl
 rw [h,cY,cY]
 by_cases h0:o+m≤s
 ·simp [h0]
 ·by_cases h1:s≤o<;>simp [h0,h1]
theorem aD.rput{new:Rp SV}{zs:List Value}(hn:aD r new zs)(hpos:0<zs.length){c:Rp SV}:∀{ys:List Value} {o:Nat},aD r c ys->o+zs.length≤ys.length->aD r (rput new zs.length c o) (ys.take o++(zs++ys.drop (o+zs.length))):=by
 have gen:∀{c:Rp SV} {ys:List Value} (o:Nat),aD r c ys->aD r (Go.Proofs.YtjboelhcieepkaaGreatDoor.cat (mP c o) (Go.Proofs.YtjboelhcieepkaaGreatDoor.cat new (o8 c (o+zs.length)))) (ys.take o++(zs++ys.drop (o+zs.length))) :=
  λo h=>aD.cat (aD.take_ o h) (aD.cat hn (aD.drop_ _ h))
 induction c with
 |q a =>
  intro ys o h hl
  have hla:=h.length_eq
  simp only [dK] at hla
  show aD r (Bool.rec (Go.Proofs.YtjboelhcieepkaaGreatDoor.cat (mP (.q a) o) (Go.Proofs.YtjboelhcieepkaaGreatDoor.cat new (o8 (.q a) (o+zs.length)))) new (Nat.beq zs.length a.size)) _
  rw [bE]
  by_cases hm:zs.length=a.size
  ·simp only [hm,decide_true]
   obtain rfl:o=0:=by omega
   rw [kI (by omega)]
   simpa using hn
  ·simp only [hm,decide_false]
   exact gen o h
 |nil=>intro ys o h hl;cases h;rw [List.length_nil] at hl;omega
 |one x =>
  intro ys o h hl
  cases h with
  |one h h1 =>
   simp at hl
   obtain rfl:o=0:=by omega
   have e:zs.length=1:=by omega
   show aD r new _
   rw [e];simpa using hn
 |arr k m l =>
  intro ys o h hl
  show aD r (Option.rec (Bool.rec (Go.Proofs.YtjboelhcieepkaaGreatDoor.cat (mP (.arr k m l) o) (Go.Proofs.YtjboelhcieepkaaGreatDoor.cat new (o8 (.arr k m l) (o+zs.length)))) new (Nat.beq zs.length m)) (λx=>.arr k m (l.set o x)) (S7 k new)) _
  cases hq:S7 k new with
  |none =>
   simp only
   rw [bE]
   by_cases hm:zs.length=m
   ·simp only [hm,decide_true]
    have hlen:=h.length_eq
    simp only [dK] at hlen
    obtain rfl:o=0:=by omega
    rw [kI (by omega)]
    simpa using hn
   ·simp only [hm,decide_false]
    exact gen o h
  |some x =>
   simp only
   have hz:=bAN hn hq
   subst hz
   cases h with
   |arr h =>
    have e:(nv k l).take o++([.int k (x:Int)]++(nv k l).drop (o+[Value.int k (x:Int)].length))=nv k (l.set o x):=by
     simp only [List.length_singleton] at hl ⊢
     rw [aZ] at hl
     apply List.ext_getElem?
     intro j
     simp only [nv,List.map_set]
     rw [List.getElem?_set]
     by_cases hj:o=j
     ·subst hj
      rw [if_pos rfl,if_pos (by simp;omega),o3 (by simp;omega)]
      simp [show min o l.length=o by omega]
     ·rw [if_neg hj]
      by_cases hjo:j<o
      ·rw [mZ (by simp;omega),List.getElem?_take_of_lt hjo]
      ·rw [o3 (by simp;omega),o3 (by simp;omega),List.getElem?_drop]
       congr 1
       simp;omega
    rw [e]
    exact .arr (by simp [h])
 |node s t a b iha ihb =>
  intro ys o h hl
  rw [a9L]
  split
  ·rename_i h0
   cases h with
   |@node _ _ _ _ us vs ha hb hs ht =>
    have:=iha (o:=o) ha (by omega)
    have e:(us++vs).take o++(zs++(us++vs).drop (o+zs.length))=(us.take o++(zs++us.drop (o+zs.length)))++vs:=by
     rw [List.take_append_of_le_length (by omega),List.drop_append_of_le_length (by omega)];simp
    rw [e]
    exact .node this hb (by simp;omega) (by simp;omega)
  ·split
   ·rename_i h0 h1
    cases h with
    |@node _ _ _ _ us vs ha hb hs ht =>
     rw [eS] at hl
     have:=ihb (o:=o-s) hb (by omega)
     have e:(us++vs).take o++(zs++(us++vs).drop (o+zs.length))=us++(vs.take (o-s)++(zs++vs.drop (o-s+zs.length))):=by
      rw [List.take_append,jB (by omega),List.drop_append,kI (l:=us) (by omega),hs,List.append_assoc,List.nil_append,show o+zs.length-s=o-s+zs.length by omega]
     rw [e]
     exact .node ha this hs (by simp;omega)
   ·exact gen o h
theorem aD.put{c new:Rp SV}{ys zs:List Value}{o:Nat}{res:Rp SV}(h:aD r c ys)(hn:aD r new zs)(hs:aAu c o new=some res):aD r res (ys.take o++(zs++ys.drop (o+zs.length)))∧o+zs.length≤ys.length:=by
 have hs':(Bool.rec none (some (Nat.rec c (λ_ _=>Go.Proofs.YtjboelhcieepkaaGreatDoor.rput new (dK new) c o) (dK new))) (Nat.ble (o+dK new) (dK c)):Option (Rp SV))=some res:=hs
 rw [cY,<-hn.length_eq] at hs'
 by_cases hl:o+zs.length≤dK c
 ·simp only [hl,decide_true,b6] at hs'
  subst hs'
  have hl':o+zs.length≤ys.length:=by rw [h.length_eq];exact hl
  refine ⟨?_,hl'⟩
  cases hz:zs.length with
  |zero =>
   have e:=mJ hz
   subst e
   show aD r c _
   simpa using h
  |succ m =>
   have:=aD.rput hn (by omega) h hl'
   rw [hz] at this
   exact this
 ·simp [hl] at hs'
theorem aD.vals:∀(l:List Value),(∀v∈l,v.oneCell'=true)->aD r (lH (l.map .v)) l
 |[],_=>.nil
 |v::l,h=>aD.cat (.one (.v v) (h v (by simp))) (aD.vals l λu hu=>h u (by simp [hu]))
theorem aD.rep{cs:Rp SV}{vs:List Value}(h:aD r cs vs):∀n,aD r (tO cs n) ((List.replicate n vs).flatten)
 |0=>.nil
 |n+1=>by
  have:=aD.cat h (aD.rep h n)
  simpa [tO,List.replicate_succ] using this
end
structure bX where
 X:aI
 w0:World
 wU:World
 U:Nat->Prop
 R:Nat->Prop
def i8(rc:Loop):Nat->Loop
 |0=>{ rc with state:=.ready,pending:=none }
 |1=>{ rc with state:=.busy,pending:=none }
 |2=>{ rc with state:=.done,pending:=some .ret }
 |i+3=>{ rc with state:=.done,pending:=some (.exit i) }
def aLC(E:bX)(L:aF)(b:HB)(w:World):Prop :=
 (b.k=5->∃rc,L.rc=some rc∧w.heap[L.g]?=some (.loop (i8 rc b.T)))∧(b.k=6->w.heap[L.g]?=some (.deferred (some [])))∧(5≤b.k->E.w0.heap.size≤L.g) ∧
 (b.k=8->∃t N l,b.cs=.q (.gh t N l)∧(∀k,L.cv k->k<w.heap.size∧E.w0.heap.size≤k)∧E.X.gh t N w L.g L.cv l)
def gJ(b:HB)(L:aF)(k:Nat):Prop:=k=L.g∨(b.k=8∧L.cv k)
theorem gJ.g(b:HB)(L:aF):gJ b L L.g:=.inl rfl
theorem gJ.eq{b:HB}{L:aF}{k:Nat}(hk:b.k≠8)(h:gJ b L k):k=L.g:=h.elim id λh=>absurd h.1 hk
def eN(E:bX)(r:List aF)(L:aF)(b:HB)(w:World):Prop :=
 ∃vs,aD r b.cs vs ∧
  ((b.k=0∧E.w0.heap.size≤L.g∧L.b=0∧aC w L.g b.T vs.toArray) ∨
   (b.k=1∧E.w0.heap.size≤L.g∧L.b=0∧∃rest:List Value,aC w L.g b.T (vs++rest).toArray∧0<E.X.P.cellsOf b.T∧vs.length+rest.length=L.c*E.X.P.cellsOf b.T∧L.c≤maxLen) ∨
   (2≤b.k∧L.g<w.heap.size∧(∀j v,vs[j]?=some v->w.cell? ⟨L.g,L.b+j,none⟩=some v)∧aLC E L b w))
structure aG(E:bX)(r:List aF)(hp:Tr)(nx:Nat)(w:World):Prop where
 len:r.length=nx
 blk:∀n b,hp.get n=some b->∃L,r[n]?=some L∧eN E r L b w
 sep:∀n m b c L M,hp.get n=some b->hp.get m=some c->n≠m->b.k≠2->r[n]?=some L->r[m]?=some M->∀k,gJ b L k->¬ gJ c M k
 below:Below E.w0.heap.size E.w0 w
 fz:∀k,E.U k->k<E.wU.heap.size∧w.heap[k]?=E.wU.heap[k]?
 far:∀n b L,hp.get n=some b->(b.k<2∨5≤b.k)->r[n]?=some L->∀k,gJ b L k->¬ E.U k
 up:E.wU.heap.size≤w.heap.size
 old:∀n b L,hp.get n=some b->2≤b.k->b.k<5->r[n]?=some L->L.g<E.w0.heap.size∨E.R L.g
 rlt:∀k,E.R k->E.U k
 glob:∀g cs,E.X.G g=some cs->∃vs,aD [] cs vs∧g<E.w0.heap.size∧∀j v,vs[j]?=some v->E.w0.cell? ⟨g,j,none⟩=some v
section
variable {E:bX}{r:List aF}{hp:Tr}{nx:Nat}{w w':World}
theorem eN.lt{L:aF}{b:HB}(h:eN E r L b w):L.g<w.heap.size:=by
 obtain ⟨vs,_,⟨_,_,_,hb⟩|⟨_,_,_,rest,hb,_⟩|⟨_,hl,_⟩⟩:=h
 ·exact hb.lt
 ·exact hb.lt
 ·exact hl
theorem eN.move{L:aF}{b:HB}(h:eN E r L b w)(s:List aF)(hk:∀k,gJ b L k->w'.heap[k]?=w.heap[k]?)(hs:w.heap.size≤w'.heap.size):eN E (r++s) L b w':=by
 obtain ⟨vs,hd,h⟩:=h
 refine ⟨vs,hd.mono s,?_⟩
 have hc8:=hk
 replace hk:=hk L.g (.g b L)
 rcases h with ⟨h0,h1,h2,hb⟩|⟨h0,h1,h2,rest,hb,h3⟩|⟨h0,hl,hc⟩
 ·exact .inl ⟨h0,h1,h2,hk.trans hb⟩
 ·exact .inr (.inl ⟨h0,h1,h2,rest,hk.trans hb,h3⟩)
 ·exact .inr (.inr ⟨h0,eQ hl hs,λj v hv=>(World.cell?_of_block (w:=w) hk).trans (hc.1 j v hv),λh5=>(by obtain ⟨rc,h1,h2⟩:=hc.2.1 h5;exact ⟨rc,h1,hk.trans h2⟩),λh6=>hk.trans (hc.2.2.1 h6),hc.2.2.2.1,λh8=>(by
   obtain ⟨t,N,l,h1,h2,h6⟩:=hc.2.2.2.2 h8
   exact ⟨t,N,l,h1,λk hk=>⟨eQ (h2 k hk).1 hs,(h2 k hk).2⟩,E.X.ghs _ _ _ _ _ _ _ h6 hk λk hk=>hc8 k (.inr ⟨h8,hk⟩)⟩)⟩)
theorem eN.own{L:aF}{b:HB}(h:eN E r L b w)(hk:b.k<2∨5≤b.k):E.w0.heap.size≤L.g:=by
 obtain ⟨vs,_,⟨_,h,_⟩|⟨_,h,_⟩|⟨h,_,_,_,_,h5,_⟩⟩:=h
 ·exact h
 ·exact h
 ·exact h5 (by omega)
theorem eN.cells{L:aF}{b:HB}(h:eN E r L b w):∃vs,aD r b.cs vs∧∀j v,vs[j]?=some v->w.cell? ⟨L.g,L.b+j,none⟩=some v:=by
 obtain ⟨vs,hd,⟨_,_,hb,hh⟩|⟨_,_,hb,rest,hh,_⟩|⟨_,_,hc⟩⟩:=h
 ·refine ⟨vs,hd,λj v hv=>?_⟩
  rw [hb,Nat.zero_add,hh.cell];simpa using hv
 ·refine ⟨vs,hd,λj v hv=>?_⟩
  rw [hb,Nat.zero_add,hh.cell]
  have hl:=(rI.1 hv).1
  simpa [mZ hl] using hv
 ·exact ⟨vs,hd,hc.1⟩
theorem eN.cov{L:aF}{b:HB}(h:eN E r L b w){k:Nat}(hc:gJ b L k):k<w.heap.size:=by
 rcases hc with rfl|⟨h8,ha⟩
 ·exact h.lt
 ·obtain ⟨vs,_,⟨h0,_⟩|⟨h0,_⟩|⟨_,_,_,_,_,_,h9⟩⟩:=h
  ·omega
  ·omega
  ·obtain ⟨t,N,l,_,h4,_⟩:=h9 h8
   exact (h4 k ha).1
theorem zL{n:Nat}{L:aF}(h:r[n]?=some L):n<r.length:=(rI.1 h).1
theorem hO{n:Nat}{L:aF}{s:List aF}(h:(r++s)[n]?=some L)(hn:n<r.length):r[n]?=some L:=by rwa [mZ hn] at h
theorem aG.grow(h:aG E r hp nx w)(hb:Below w.heap.size w w'):aG E r hp nx w':=by
 refine ⟨h.len,λn b hn=>?_,h.sep,h.below.trans (hb.mono h.below.size),λk hu=>⟨(h.fz k hu).1,(hb.block k (eQ (h.fz k hu).1 h.up)).trans (h.fz k hu).2⟩,h.far,bI h.up hb.size,h.old,h.rlt,h.glob⟩
 obtain ⟨L,hL,hk⟩:=h.blk n b hn
 have:=hk.move [] (λk hc=>hb.block _ (hk.cov hc)) hb.size
 rw [eC] at this
 exact ⟨L,hL,this⟩
theorem aG.same(h:aG E r hp nx w)(hh:w'.heap=w.heap)(ho:w'.os=w.os)(ht:w'.tape=w.tape)(hu:w'.output=w.output):aG E r hp nx w' :=
 h.grow ⟨ho,ht,hu,by rw [hh];exact aS _,λk _=>by rw [hh]⟩
theorem aG.drew(h:aG E r hp nx w):aG E r hp nx w.drew:=h.same rfl rfl rfl rfl
theorem aG.covOf(h:aG E r hp nx w){n:Nat}{b:HB}{L:aF}(hn:hp.get n=some b)(hL:r[n]?=some L){k:Nat}(hc:gJ b L k):k<w.heap.size:=by
 obtain ⟨L',hL',hk⟩:=h.blk n b hn
 rw [hL] at hL';cases hL'
 exact hk.cov hc
theorem aG.apart(h:aG E r hp nx w){n m:Nat}{b c:HB}{L M:aF}(hn:hp.get n=some b)(hm:hp.get m=some c)(hne:n≠m)(hk:b.k≠2)(hL:r[n]?=some L)(hM:r[m]?=some M):L.g≠M.g:=λe=>h.sep n m b c L M hn hm hne hk hL hM L.g (.g b L) (by rw [e];exact .g c M)
theorem aG.add(h:aG E r hp nx w)(hb:Below w.heap.size w w')(L:aF)(b:HB)(hL:∀k,gJ b L k->w.heap.size≤k)(hk:eN E (r++[L]) L b w')(hkk:b.k<2∨5≤b.k):aG E (r++[L]) (hp.put nx b) (nx+1) w':=by
 have hg:=h.grow hb
 have hnew:(r++[L])[nx]?=some L:=by rw [<-h.len];simp
 have old:∀n b',(hp.put nx b).get n=some b'->n≠nx->hp.get n=some b'∧n<r.length:=by
  intro n b' hn hne
  rw [bC.get_put,if_neg hne] at hn
  obtain ⟨M,hM,_⟩:=h.blk n b' hn
  exact ⟨hn,zL hM⟩
 refine ⟨by simp [h.len],λn b' hn=>?_,λn m b1 c1 L1 M1 hn hm hne hk1 hL1 hM1 k hc1 hc2=>?_,hg.below,hg.fz,λn b' M hn hk' hM k hc hu=>?_,hg.up,λn b' M hn hk' hk5 hM=>?_,hg.rlt,h.glob⟩
 ·by_cases hne:n=nx
  ·subst hne
   rw [bC.get_put,if_pos rfl] at hn;cases hn
   exact ⟨L,hnew,hk⟩
  ·obtain ⟨h1,h2⟩:=old n b' hn hne
   obtain ⟨M,hM,hk'⟩:=hg.blk n b' h1
   exact ⟨M,jK _ hM,hk'.move [L] (λ_ _=>rfl) (aS _)⟩
 ·by_cases h1:n=nx
  ·subst h1
   rw [hnew] at hL1;cases hL1
   rw [bC.get_put,if_pos rfl] at hn;cases hn
   obtain ⟨h3,h4⟩:=old m c1 hm (Ne.symm hne)
   have:=h.covOf h3 (hO hM1 h4) hc2
   have:=hL k hc1
   omega
  ·obtain ⟨h3,h4⟩:=old n b1 hn h1
   have h5:=hO hL1 h4
   by_cases h2:m=nx
   ·subst h2
    rw [hnew] at hM1;cases hM1
    rw [bC.get_put,if_pos rfl] at hm;cases hm
    have:=h.covOf h3 h5 hc1
    have:=hL k hc2
    omega
   ·obtain ⟨h6,h7⟩:=old m c1 hm h2
    exact h.sep n m b1 c1 L1 M1 h3 h6 hne hk1 h5 (hO hM1 h7) k hc1 hc2
 ·by_cases hne:n=nx
  ·subst hne
   rw [hnew] at hM;cases hM
   rw [bC.get_put,if_pos rfl] at hn;cases hn
   have:=(h.fz _ hu).1
   have:=h.up
   have:=hL k hc
   omega
  ·obtain ⟨h4,h5⟩:=old n b' hn hne
   exact h.far n b' M h4 hk' (hO hM h5) k hc hu
 ·by_cases hne:n=nx
  ·subst hne
   rw [bC.get_put,if_pos rfl] at hn;cases hn;omega
  ·obtain ⟨h4,h5⟩:=old n b' hn hne
   exact h.old n b' M h4 hk' hk5 (hO hM h5)
theorem aG.add1(h:aG E r hp nx w)(hb:Below w.heap.size w w')(L:aF)(b:HB)(hL:w.heap.size≤L.g)(hk:eN E (r++[L]) L b w')(hkk:b.k<2∨5≤b.k)(h8:b.k≠8:=by simp):aG E (r++[L]) (hp.put nx b) (nx+1) w' :=
 h.add hb L b (λk hc=>by rw [hc.eq h8];exact hL) hk hkk
theorem aG.dropObj(h:aG E r hp nx w){n:Nat}{b:HB}{L:aF}(hb:hp.get n=some b)(hk:5≤b.k)(hL:r[n]?=some L)(_hlt:L.g<w.heap.size)(o:Obj):aG E r (hp.del n) nx (w.putObj L.g o):=by
 obtain ⟨L2,hL2,hok⟩:=h.blk n b hb
 rw [hL] at hL2;cases hL2
 have hge:=hok.own (.inr hk)
 have hh:∀k,k≠L.g->(w.putObj L.g o).heap[k]?=w.heap[k]?:=λk hk=>World.putObj_heap_other hk
 have hs:(w.putObj L.g o).heap.size=w.heap.size:=by simp [World.putObj]
 have hnot:=h.far n b L hb (.inr hk) hL L.g (.g b L)
 have old:∀m b,(hp.del n).get m=some b->hp.get m=some b∧m≠n:=λm b hm=>by
  rw [bC.get_del] at hm
  split at hm
  ·cases hm
  ·rename_i e;exact ⟨hm,e⟩
 have far:∀m c M,hp.get m=some c->m≠n->r[m]?=some M->∀k,gJ c M k->k≠L.g:=λm c M hm hne hM k hc e=>h.sep n m b c L M hb hm (Ne.symm hne) (by omega) hL hM L.g (.g b L) (e▸hc)
 refine ⟨h.len,λm c hm=>?_,λm1 m2 b c L M h1 h2=>h.sep m1 m2 b c L M (old _ _ h1).1 (old _ _ h2).1,h.below.trans ⟨rfl,rfl,rfl,by rw [hs];exact aS _,λk hk=>hh k (by omega)⟩,λk hu=>⟨(h.fz k hu).1,(hh k (λe=>hnot (e▸hu))).trans (h.fz k hu).2⟩,λm b L hm=>h.far m b L (old m b hm).1,by rw [hs];exact h.up,λm b L hm=>h.old m b L (old m b hm).1,h.rlt,h.glob⟩
 obtain ⟨h1,h2⟩:=old m c hm
 obtain ⟨M,hM,hok2⟩:=h.blk m c h1
 have:=hok2.move [] (λk hc=>hh _ (far m c M h1 h2 hM k hc)) (Nat.le_of_eq hs.symm)
 rw [eC] at this
 exact ⟨M,hM,this⟩
theorem aG.del(h:aG E r hp nx w)(n:Nat):aG E r (hp.del n) nx w:=by
 have old:∀m b,(hp.del n).get m=some b->hp.get m=some b:=λm b hm=>by
  rw [bC.get_del] at hm
  split at hm
  ·cases hm
  ·exact hm
 refine ⟨h.len,λm b hm=>h.blk m b (old m b hm),λm1 m2 b c L M h1 h2=>h.sep m1 m2 b c L M (old _ _ h1) (old _ _ h2),h.below,h.fz,λm b L hm=>h.far m b L (old m b hm),h.up,λm b L hm=>h.old m b L (old m b hm),h.rlt,h.glob⟩
theorem aG.writeG(h:aG E r hp nx w){n:Nat}{b b':HB}{L:aF}(hn:hp.get n=some b)(hk:b.k<2∨5≤b.k)(hL:r[n]?=some L)(hs:w'.heap.size=w.heap.size)(hh:∀k,k≠L.g->w'.heap[k]?=w.heap[k]?)
 (ho:w'.os=w.os) (ht:w'.tape=w.tape) (hu:w'.output=w.output) (hb:eN E r L b' w') (hk':b'.k<2∨5≤b'.k) (hk8:b'.k≠8:=by omega):aG E r (hp.put n b') nx w':=by
 obtain ⟨L0,hL0,hok⟩:=h.blk n b hn
 rw [hL] at hL0;cases hL0
 have hge:=hok.own hk
 have hbel:Below E.w0.heap.size E.w0 w':=h.below.trans ⟨ho,ht,hu,by omega,λk hk=>hh k (by omega)⟩
 have far:∀m c M,hp.get m=some c->m≠n->r[m]?=some M->∀k,gJ c M k->k≠L.g:=λm c M hm hne hM k hc e=>h.sep n m b c L M hn hm (Ne.symm hne) (by omega) hL hM L.g (.g b L) (e▸hc)
 have hnot:=h.far n b L hn hk hL L.g (.g b L)
 refine ⟨h.len,λm c hm=>?_,λm1 m2 b1 c1 L1 M1 h1 h2 hne hk1 hL1 hM1 k hc1 hc2=>?_,hbel,λk hu2=>⟨(h.fz k hu2).1,(hh k (λe=>hnot (e▸hu2))).trans (h.fz k hu2).2⟩,λm c M hm hk2 hM k hc=>?_,by rw [hs];exact h.up,λm c M hm hk2 hk5 hM=>?_,h.rlt,h.glob⟩
 ·rw [bC.get_put] at hm
  split at hm
  ·rename_i e;subst e;cases hm;exact ⟨L,hL,hb⟩
  ·rename_i hne
   obtain ⟨M,hM,hk2⟩:=h.blk m c hm
   have:=hk2.move [] (λk hc=>hh _ (far m c M hm hne hM k hc)) (Nat.le_of_eq hs.symm)
   rw [eC] at this
   exact ⟨M,hM,this⟩
 ·rw [bC.get_put] at h1 h2
  split at h1
  ·rename_i e;subst e
   rw [if_neg (Ne.symm hne)] at h2
   rw [hL] at hL1;cases hL1
   cases h1
   exact far m2 c1 M1 h2 (Ne.symm hne) hM1 k hc2 (hc1.eq hk8)
  ·split at h2
   ·rename_i e;subst e
    rw [hL] at hM1;cases hM1
    cases h2
    exact far m1 b1 L1 h1 hne hL1 k hc1 (hc2.eq hk8)
   ·exact h.sep m1 m2 b1 c1 L1 M1 h1 h2 hne hk1 hL1 hM1 k hc1 hc2
 ·rw [bC.get_put] at hm
  split at hm
  ·rename_i e;subst e
   rw [hL] at hM;cases hM
   cases hm
   rw [hc.eq hk8]
   exact hnot
  ·exact h.far m c M hm hk2 hM k hc
 ·rw [bC.get_put] at hm
  split at hm
  ·rename_i e;subst e;cases hm;omega
  ·exact h.old m c M hm hk2 hk5 hM
theorem aG.write(h:aG E r hp nx w){n:Nat}{b b':HB}{L:aF}(hn:hp.get n=some b)(hk:b.k<2)(hL:r[n]?=some L)(hs:w'.heap.size=w.heap.size)(hh:∀k,k≠L.g->w'.heap[k]?=w.heap[k]?)
 (ho:w'.os=w.os) (ht:w'.tape=w.tape) (hu:w'.output=w.output) (hb:eN E r L b' w') (hk':b'.k<2):aG E r (hp.put n b') nx w' :=
 h.writeG hn (.inl hk) hL hs hh ho ht hu hb (.inl hk')
theorem aG.rename(h:aG E r hp nx w){n:Nat}{b b':HB}{L L':aF}(hn:hp.get n=some b)(hk:b.k<2)(hL:r[n]?=some L)(hg:L'.g=L.g)(hs:w'.heap.size=w.heap.size)(hh:∀k,k≠L.g->w'.heap[k]?=w.heap[k]?)
 (ho:w'.os=w.os) (ht:w'.tape=w.tape) (hu:w'.output=w.output) (hb:eN E (r++[L']) L' b' w') (hk':b'.k<2):aG E (r++[L']) ((hp.del n).put nx b') (nx+1) w':=by
 obtain ⟨L0,hL0,hok⟩:=h.blk n b hn
 rw [hL] at hL0;cases hL0
 have hge:=hok.own (.inl hk)
 have hbel:Below E.w0.heap.size E.w0 w':=h.below.trans ⟨ho,ht,hu,by omega,λk hk=>hh k (by omega)⟩
 have hnew:(r++[L'])[nx]?=some L':=by rw [<-h.len];simp
 have old:∀m c,((hp.del n).put nx b').get m=some c->m≠nx->hp.get m=some c∧m≠n∧m<r.length:=by
  intro m c hm hne
  rw [bC.get_put,if_neg hne,bC.get_del] at hm
  split at hm
  ·cases hm
  ·rename_i hmn
   obtain ⟨M,hM,_⟩:=h.blk m c hm
   exact ⟨hm,hmn,zL hM⟩
 have far:∀m c M,hp.get m=some c->m≠n->r[m]?=some M->∀k,gJ c M k->k≠L.g:=λm c M hm hne hM k hc e=>h.sep n m b c L M hn hm (Ne.symm hne) (by omega) hL hM L.g (.g b L) (e▸hc)
 have hnot:=h.far n b L hn (.inl hk) hL L.g (.g b L)
 have hk8:b'.k≠8:=by omega
 refine ⟨by simp [h.len],λm c hm=>?_,λm1 m2 b1 c1 L1 M1 h1 h2 hne hk1 hL1 hM1 k hc1 hc2=>?_,hbel,λk hu2=>⟨(h.fz k hu2).1,(hh k (λe=>hnot (e▸hu2))).trans (h.fz k hu2).2⟩,λm c M hm hk2 hM k hc=>?_,by rw [hs];exact h.up,λm c M hm hk2 hk5 hM=>?_,h.rlt,h.glob⟩
 ·by_cases hne:m=nx
  ·subst hne
   rw [bC.get_put,if_pos rfl] at hm;cases hm
   exact ⟨L',hnew,hb⟩
  ·obtain ⟨h1,h2,_⟩:=old m c hm hne
   obtain ⟨M,hM,hk2⟩:=h.blk m c h1
   exact ⟨M,jK _ hM,hk2.move [L'] (λk hc=>hh _ (far m c M h1 h2 hM k hc)) (Nat.le_of_eq hs.symm)⟩
 ·by_cases e1:m1=nx
  ·subst e1
   rw [hnew] at hL1;cases hL1
   rw [bC.get_put,if_pos rfl] at h1;cases h1
   obtain ⟨h3,h4,h5⟩:=old m2 c1 h2 (Ne.symm hne)
   exact far m2 c1 M1 h3 h4 (hO hM1 h5) k hc2 ((hc1.eq hk8).trans hg)
  ·obtain ⟨h3,h4,h5⟩:=old m1 b1 h1 e1
   have h6:=hO hL1 h5
   by_cases e2:m2=nx
   ·subst e2
    rw [hnew] at hM1;cases hM1
    rw [bC.get_put,if_pos rfl] at h2;cases h2
    exact far m1 b1 L1 h3 h4 h6 k hc1 ((hc2.eq hk8).trans hg)
   ·obtain ⟨h7,h8,h9⟩:=old m2 c1 h2 e2
    exact h.sep m1 m2 b1 c1 L1 M1 h3 h7 hne hk1 h6 (hO hM1 h9) k hc1 hc2
 ·by_cases hne:m=nx
  ·subst hne
   rw [hnew] at hM;cases hM
   rw [bC.get_put,if_pos rfl] at hm;cases hm
   rw [hc.eq hk8,hg];exact hnot
  ·obtain ⟨h4,h5,h6⟩:=old m c hm hne
   exact h.far m c M h4 hk2 (hO hM h6) k hc
 ·by_cases hne:m=nx
  ·subst hne
   rw [bC.get_put,if_pos rfl] at hm;cases hm;omega
  ·obtain ⟨h4,h5,h6⟩:=old m c hm hne
   exact h.old m c M h4 hk2 hk5 (hO hM h6)
theorem aCg(w:World)(o:Obj):Below w.heap.size w (w.alloc o):=(Below.refl _ _).alloc (aS _) o
theorem aG.new(h:aG E r hp nx w)(T:TypeId){cs:Rp SV}{vs:List Value}(hd:aD r cs vs):
 aG E (r++[⟨w.heap.size,0,0,none,λ_=>False⟩]) (hp.put nx ⟨T,cs,0⟩) (nx+1) (w.alloc (.cells vs.toArray T)) :=
 h.add (aCg _ _) ⟨w.heap.size,0,0,none,λ_=>False⟩ ⟨T,cs,0⟩ (λk hc=>Nat.le_of_eq (hc.eq (by show 0≠8;decide)).symm) ⟨vs,hd.mono _,.inl ⟨rfl,h.below.size,rfl,aC.new _ _ _⟩⟩ (.inl (by show 0<2;decide))
theorem aG.newLp(h:aG E r hp nx w)(rc:Loop)(hrc:i8 rc 0=rc):aG E (r++[⟨w.heap.size,0,0,some rc,λ_=>False⟩]) (E9 hp nx 0) (nx+1) (w.alloc (.loop rc)) :=
 h.add (aCg _ _) ⟨w.heap.size,0,0,some rc,λ_=>False⟩ ⟨0,.nil,5⟩ (λk hc=>Nat.le_of_eq (hc.eq (by show 5≠8;decide)).symm) ⟨[],.nil,.inr (.inr ⟨by show 2≤5;decide,by simp,λj v hv=>(by simp at hv),λ_=>⟨rc,rfl,(heap_alloc_new _ _).trans (congrArg (λx=>some (Obj.loop x)) hrc.symm)⟩,λh=>(by cases h),λ_=>h.below.size,λh=>(by cases h)⟩)⟩ (.inr (by show 5≤5;decide))
theorem aG.newDs(h:aG E r hp nx w):aG E (r++[⟨w.heap.size,0,0,none,λ_=>False⟩]) (hp.put nx ⟨0,.nil,6⟩) (nx+1) (w.alloc (.deferred (some []))) :=
 h.add (aCg _ _) ⟨w.heap.size,0,0,none,λ_=>False⟩ ⟨0,.nil,6⟩ (λk hc=>Nat.le_of_eq (hc.eq (by show 6≠8;decide)).symm) ⟨[],.nil,.inr (.inr ⟨by show 2≤6;decide,by simp,λj v hv=>(by simp at hv),λh=>(by cases h),λ_=>heap_alloc_new _ _,λ_=>h.below.size,λh=>(by cases h)⟩)⟩ (.inr (by show 5≤6;decide))
theorem A0(h:aG E r hp nx w){n T:Nat}(ht:l9 hp n=some T):∃b L rc,hp.get n=some b∧b.k=5∧r[n]?=some L∧L.rc=some rc∧w.heap[L.g]?=some (.loop (i8 rc T)):=by
 unfold l9 at ht
 split at ht
 ·rename_i b hb
  by_cases hk:b.k=5
  ·rw [show Nat.beq b.k 5=true from by rw [hk];rfl] at ht
   cases ht
   obtain ⟨L,hL,vs,_,h|h|⟨_,_,_,h5,_⟩⟩:=h.blk n b hb
   ·omega
   ·omega
   ·obtain ⟨rc,h1,h2⟩:=h5 hk
    exact ⟨b,L,rc,hb,hk,hL,h1,h2⟩
  ·rw [show Nat.beq b.k 5=false from by simpa [bE] using hk] at ht
   cases ht
 ·cases ht
theorem aG.turnLp(h:aG E r hp nx w){n T T':Nat}(ht:l9 hp n=some T){L:aF}{rc:Loop}(hL:r[n]?=some L)(hrc:L.rc=some rc){x:Loop}(hx:x=i8 rc T'):aG E r (E9 hp n T') nx (w.putObj L.g (.loop x)):=by
 obtain ⟨b,L',rc',hb,hk,hL',hrc',hw⟩:=A0 h ht
 rw [hL] at hL';cases hL'
 have hlt:L.g<w.heap.size:=(lB.1 hw).1
 obtain ⟨L2,hL2,vs,_,h1|h1|⟨_,_,_,_,_,hge,_⟩⟩:=h.blk n b hb
 ·omega
 ·omega
 ·rw [hL] at hL2;cases hL2
  refine h.writeG hb (.inr (by omega)) hL (by simp [World.putObj]) (λk hk=>World.putObj_heap_other hk) rfl rfl rfl ⟨[],.nil,.inr (.inr ⟨by show 2≤5;decide,by simpa [World.putObj] using hlt,λj v hv=>(by simp at hv),λ_=>⟨rc,hrc,?_⟩,λh=>(by cases h),λ_=>hge (by omega),λh=>(by cases h)⟩)⟩ (.inr (by show 5≤5;decide)) (by show 5≠8;decide)
  rw [World.putObj_heap_same hlt,hx]
theorem aG.dropLp(h:aG E r hp nx w){n T:Nat}(ht:l9 hp n=some T){L:aF}(hL:r[n]?=some L)(x:Loop):aG E r (hp.del n) nx (w.putObj L.g (.loop x)):=by
 obtain ⟨b,L',rc',hb,hk,hL',hrc',hw⟩:=A0 h ht
 rw [hL] at hL';cases hL'
 exact h.dropObj hb (by omega) hL (lB.1 hw).1 _
theorem aQj(h:aG E r hp nx w){n:Nat}(ht:pY hp n=true):∃b L,hp.get n=some b∧b.k=6∧r[n]?=some L∧w.heap[L.g]?=some (.deferred (some [])):=by
 unfold pY at ht
 split at ht
 ·rename_i b hb
  have hk:b.k=6:=eU ht
  obtain ⟨L,hL,vs,_,h|h|⟨_,_,_,_,h6,_⟩⟩:=h.blk n b hb
  ·omega
  ·omega
  ·exact ⟨b,L,hb,hk,hL,h6 hk⟩
 ·cases ht
theorem aG.writeAt(h:aG E r hp nx w){n o:Nat}{b:HB}{L:aF}{new cs:Rp SV}{zs:List Value}(hn:hp.get n=some b)(hk:b.k<2)(hL:r[n]?=some L)(hd:aD r new zs)(hc:aAu b.cs o new=some cs):
 ∃w',(storeCells ⟨L.g,L.b+o,none⟩ zs).run E.X.P w=.ok () w'∧aG E r (hp.put n ⟨b.T,cs,b.k⟩) nx w':=by
 obtain ⟨L0,hL0,hok⟩:=h.blk n b hn
 rw [hL] at hL0;cases hL0
 have hone:=hd.one_
 have key:∀(full:List Value),o+zs.length≤full.length->aC w L.g b.T full.toArray->(storeCells ⟨L.g,o,none⟩ zs).run E.X.P w=.ok () (w.setRow L.g (full.take o++(zs++full.drop (o+zs.length))).toArray):=by
  intro full hfl hb
  have gen:∀(zs:List Value) (o:Nat) (full:List Value) (w:World),o+zs.length≤full.length->(∀v∈zs,v.oneCell'=true)->aC w L.g b.T full.toArray->∀i,(storeCells ⟨L.g,o,none⟩ zs i).run E.X.P w=.ok () (w.setRow L.g (full.take (o+i)++(zs++full.drop (o+i+zs.length))).toArray)∨full.length<o+i+zs.length:=by
   intro zs
   induction zs with
   |nil =>
    intro o full w _ _ hb i
    by_cases hi:full.length<o+i+0
    ·exact .inr hi
    ·refine .inl ?_
     have e:full.take (o+i)++([]++full.drop (o+i+0))=full:=by simp
     show (storeCells _ [] i).run _ w=_
     rw [List.length_nil,e,aUG hb]
     rfl
   |cons z zs ih =>
    intro o full w hl h1 hb i
    by_cases hi:full.length<o+i+(z::zs).length
    ·exact .inr hi
    ·refine .inl ?_
     simp only [List.length_cons] at hi
     have hz:=h1 z (by simp)
     have hcell:w.cell? ⟨L.g,o+i,none⟩=some full[o+i]:=by rw [hb.cell];simp
     have hst:=run_store E.X.P w ⟨L.g,o+i,none⟩ z .plain hz
     rw [hcell,hb.frozen] at hst
     simp only [Bool.false_eq_true,if_false] at hst
     have hb2:aC (w.setCell ⟨L.g,o+i,none⟩ z) L.g b.T (full.set (o+i) z).toArray:=by
      have:=hb.set_ (o+i) z
      simpa using this
     have hr:=ih o (full.set (o+i) z) (w.setCell ⟨L.g,o+i,none⟩ z) (by simp;omega) (λv hv=>h1 v (by simp [hv])) hb2 (i+1)
     rcases hr with hr|hr
     ·show (storeCells _ (z::zs) i).run _ w=_
      rw [storeCells,eX]
      simp only [Sem.run_bind,hst,Result.andThen_ok]
      rw [hr]
      congr 1
      have e1:(full.set (o+i) z).take (o+(i+1))++(zs++(full.set (o+i) z).drop (o+(i+1)+zs.length))=full.take (o+i)++(z::zs++full.drop (o+i+(zs.length+1))):=by
       rw [List.drop_set_of_lt (by omega),<-Nat.add_assoc,List.take_set,List.take_succ_eq_append_getElem (by omega)]
       rw [List.set_append_right _ _ (by simp only [List.length_take];omega)]
       simp [show min (o+i) full.length=o+i by omega,show o+i+1+zs.length=o+i+(zs.length+1) by omega]
      rw [e1]
      simp only [World.setRow,World.setCell]
      congr 1
      apply Array.ext_getElem?
      intro j
      simp only [Array.getElem?_modify]
      by_cases hj:L.g=j
      ·subst hj
       have hbb:w.heap[L.g]?=_:=hb
       simp [hbb]
      ·simp [hj]
     ·simp at hr;omega
  rcases gen zs o full w hfl hone hb 0 with h|h
  ·simpa using h
  ·omega
 obtain ⟨vs,hdv,hcase⟩:=hok
 obtain ⟨hres,hlen⟩:=aD.put hdv hd hc
 have hh:∀(c:Array Value) k,k≠L.g->(w.setRow L.g c).heap[k]?=w.heap[k]?:=λc k hk=>sJ w L.g c k (Ne.symm hk)
 rcases hcase with ⟨h0,h1,h2,hb⟩|⟨h0,h1,h2,rest,hb,h3,h4,h5⟩|⟨h0,_⟩
 ·refine ⟨_,by rw [h2,Nat.zero_add];exact key vs hlen hb,h.write hn hk hL (by simp [World.setRow]) (hh _) rfl rfl rfl ⟨_,hres,.inl ⟨h0,h1,h2,hb.row _⟩⟩ hk⟩
 ·refine ⟨_,by rw [h2,Nat.zero_add];exact key (vs++rest) (by simp;omega) hb,h.write hn hk hL (by simp [World.setRow]) (hh _) rfl rfl rfl ⟨_,hres,.inr (.inl ⟨h0,h1,h2,rest,?_,h3,?_,h5⟩)⟩ hk⟩
  ·have:=hb.row ((vs++rest).take o++(zs++(vs++rest).drop (o+zs.length))).toArray
   rw [List.take_append_of_le_length (by omega),List.drop_append_of_le_length hlen] at this ⊢
   simpa using this
  ·simp;omega
 ·omega
end
theorem aJ5{α:Type}{P:Program}{a:α}{w:World}:∀{s:Sem α},Sem.now P s=some a->s.run P w=.ok a w
 | .pure b,h=>by simp [Sem.now] at h;subst h;rfl
 | .program k,h=>by simp only [Sem.now] at h;exact aJ5 (s:=k P) h
 | .load ..,h | .store ..,h | .new ..,h | .shape ..,h | .freeze ..,h | .frozen ..,h | .getObj ..,h | .setObj ..,h | .choose ..,h | .sys ..,h | .mark ..,h | .halt ..,h=>by simp [Sem.now] at h
section
variable {E:bX}{r:List aF}{hp:Tr}{nx:Nat}{w:World}{P:Program}
theorem a5c{T:TypeId}(h:isRow P T=some true):∃d,P.underlying T=some d∧(match d with | .struct _ | .array _ _=>true|_=>false)=true:=by
 unfold isRow at h
 split at h<;>first|exact ⟨_,by assumption,rfl⟩|simp at h
theorem aX7{T:TypeId}(h:isRow P T=some false):∃d,P.underlying T=some d∧(match d with | .struct _ | .array _ _=>true|_=>false)=false:=by
 unfold isRow at h
 split at h
 ·simp at h
 ·simp at h
 ·rename_i d h1 h2 e
  refine ⟨d,e,?_⟩
  cases d<;>first|rfl|exact (h1 _ rfl).elim|exact (h2 _ _ rfl).elim
 ·simp at h
theorem aCv{T:TypeId}(h:isRow P T=some true)(w:World):(isAgg T).run P w=.ok true w:=by
 obtain ⟨d,hu,hd⟩:=a5c h
 unfold isAgg
 rw [Sem.run_bind,run_underlying hu w]
 cases d<;>simp_all
theorem aAC{T:TypeId}(h:isRow P T=some false)(w:World):(isAgg T).run P w=.ok false w:=by
 obtain ⟨d,hu,hd⟩:=aX7 h
 unfold isAgg
 rw [Sem.run_bind,run_underlying hu w]
 cases d<;>simp_all
theorem yI{T:TypeId}{n:Nat}(h:gH P T=some n):∃i,P.info? T=some i∧i.size=n:=by
 unfold gH at h
 split at h
 ·exact ⟨_,by assumption,by simpa using h⟩
 ·simp at h
theorem i9{T:TypeId}{n:Nat}(h:gH P T=some n)(w:World):(sizeOf T).run P w=.ok n w:=by
 obtain ⟨i,hi,rfl⟩:=yI h
 simp [sizeOf,typeInfo,hi]
theorem aBL{ys:List Value}{o n j:Nat}{v:Value}(h:((ys.drop o).take n)[j]?=some v):ys[o+j]?=some v:=by
 rw [List.getElem?_take] at h
 split at h
 ·rwa [List.getElem?_drop] at h
 ·cases h
theorem aNr{T:TypeId}{cs:Rp SV}{vs:List Value}{o g b:Nat}{y:SV}(hd:aD r cs vs)(hc:∀j v,vs[j]?=some v->w.cell? ⟨g,b+j,none⟩=some v)(h:oN P T cs o=some y):
 ∃u,(loadVar T ⟨g,b+o,none⟩).run P w=.ok u w∧aP r y u:=by
 unfold oN at h
 split at h
 ·rename_i n hr hz
  split at h
  ·rename_i c hcs
   cases h
   obtain ⟨h1,h2⟩:=hd.sub hcs
   refine ⟨_,?_,.a h1⟩
   have hl:=run_loadCells_list (P:=P) (w:=w) ⟨g,b+o,none⟩ ((vs.drop o).take n) (λj v hv=>by rw [eX,Nat.add_assoc];exact hc _ v (aBL hv))
   have e:((vs.drop o).take n).length=n:=by simp;omega
   rw [e] at hl
   simp [loadVar,aCv hr,i9 hz,hl]
  ·cases h
 ·rename_i n hr hz
  obtain ⟨v,hv,hdv⟩:=hd.get h
  refine ⟨v,?_,hdv⟩
  have:=hc o v hv
  simp [loadVar,aAC hr,load,Sem.run,this]
 ·cases h
theorem aK5{T:TypeId}{cs:Rp SV}{vs:List Value}{o:Nat}{y:SV}(hd:aD r cs vs)(h:oN P T cs o=some y):∃u,(∀w,(part T vs.toArray o).run P w=.ok u w)∧aP r y u:=by
 unfold oN at h
 split at h
 ·rename_i n hr hz
  split at h
  ·rename_i c hcs
   cases h
   obtain ⟨h1,h2⟩:=hd.sub hcs
   refine ⟨_,λw=>?_,.a h1⟩
   have e:vs.toArray.extract o (o+n)=((vs.drop o).take n).toArray:=by
    apply Array.toList_inj.1
    rw [Array.toList_extract]
    simp [List.extract]
   simp [part,aCv hr,i9 hz]
  ·cases h
 ·rename_i n hr hz
  obtain ⟨v,hv,hdv⟩:=hd.get h
  refine ⟨v,λw=>?_,hdv⟩
  have hv2:vs.toArray[o]?=some v:=by simpa using hv
  simp [part,aAC hr,hv2]
 ·cases h
theorem aJk{T:TypeId}{x y:SV}{v:Value}(hm:aG E r hp nx w)(hx:aP r x v)(h:sR E.X hp T x=some y):∃u,(Instr.loadAt T v).run E.X.P w=.ok u w∧aP r y u:=by
 unfold sR at h
 split at h
 ·rename_i n o
  cases hx with
  |@p _ _ L hL =>
   split at h
   ·rename_i b hb
    obtain ⟨M,hM,hok⟩:=hm.blk n b hb
    rw [hL] at hM;cases hM
    obtain ⟨vs,hd,hc⟩:=hok.cells
    obtain ⟨u,hu,hy⟩:=aNr hd hc h
    exact ⟨u,by simp [Instr.loadAt,Instr.sureAddr,hu],hy⟩
   ·cases h
 ·rename_i g o
  cases hx
  split at h
  ·rename_i cs hG
   obtain ⟨vs,hd,hlt,hc⟩:=hm.glob g cs hG
   have hc2:∀j v,vs[j]?=some v->w.cell? ⟨g,0+j,none⟩=some v:=λj v hv=>by
    rw [Nat.zero_add]
    exact (hm.below.cell (p:=⟨g,j,none⟩) hlt).trans (hc j v hv)
   obtain ⟨u,hu,hy⟩:=aNr (b:=0) (hd.mono r) hc2 h
   rw [Nat.zero_add] at hu
   simp only [List.nil_append] at hy
   exact ⟨u,by simp [Instr.loadAt,Instr.sureAddr,hu],hy⟩
  ·cases h
 ·cases h
theorem rZ{x:SV}{n:Nat}{v:Value}(hx:aP r x v)(h:pD x=some n):∃k,v=.int k (n:Int):=by
 unfold pD at h
 split at h
 ·cases h;cases hx;exact ⟨_,rfl⟩
 ·cases h
theorem R5{x:SV}{cs:Rp SV}{v:Value}(hx:aP r x v)(h:x.cells=some cs):aD r cs v.cells.toList∧v.cells.toList.length=dK cs:=by
 have key:aD r cs v.cells.toList:=by
  cases hx with
  |a hc=>simp only [SV.cells,b6] at h;subst h;simpa [Value.cells] using hc
  |v =>
   cases v<;>simp only [SV.cells,b6,reduceCtorEq] at h
   case agg c =>
    simp only [Value.cells]
    by_cases ha:(c.toList.all λx=>x.oneCell')=true
    ·simp only [ha,cond_true,b6] at h
     subst h
     exact aD.vals _ (λu hu=>kK.1 ha u hu)
    ·simp [ha] at h
   all_goals (subst h;exact .one (.v _) rfl)
  |p hL=>simp only [SV.cells,b6] at h;subst h;exact .one (.p hL) rfl
  |s hL=>simp only [SV.cells,b6] at h;subst h;exact .one (.s hL) rfl
  |w hL hl=>simp only [SV.cells,b6] at h;subst h;exact .one (.w hL hl) rfl
  |f ha hb=>simp only [SV.cells,b6] at h;subst h;exact .one (.f ha hb) rfl
  |i hh=>simp only [SV.cells,b6] at h;subst h;exact .one (.i hh) rfl
  |y hL=>simp only [SV.cells,b6] at h;subst h;exact .one (.y hL) rfl
  |gs hL hl=>simp only [SV.cells,b6] at h;subst h;exact .one (.gs hL hl) rfl
  |b x=>simp only [SV.cells,b6] at h;subst h;exact .one (.b x) rfl
  |t=>simp [SV.cells] at h
  |u=>simp [SV.cells] at h
 exact ⟨key,key.length_eq⟩
theorem K5{place:Nat->Option (Nat×Nat)}:∀{l:List (Nat×SV)} {lv:List (Nat×Value)} {cs res:Rp SV} {vs:List Value},l.map (·.1)=lv.map (·.1)->aX r (l.map (·.2)) (lv.map (·.2))->aD r cs vs->qX place cs l=some res ->
 ∃out,Instr.fill place vs.toArray lv=some out∧aD r res out.toList
 |[],lv,cs,res,vs,h1,h2,hd,h=>by
  cases lv with
  |nil=>simp only [qX,b6] at h;subst h;exact ⟨_,rfl,by simpa using hd⟩
  |cons=>simp at h1
 |(i,x)::l,lv,cs,res,vs,h1,h2,hd,h=>by
  cases lv with
  |nil=>simp at h1
  |cons p lv =>
   obtain ⟨j,v⟩:=p
   simp only [List.map_cons,List.cons.injEq] at h1 h2
   obtain ⟨rfl,h1⟩:=h1
   cases h2 with
   |cons hx h2 =>
    simp only [qX] at h
    split at h
    ·rename_i off size ns hpl hns
     obtain ⟨hc,hlen⟩:=R5 hx hns
     rw [bE] at h
     by_cases hsz:dK ns=size
     ·simp only [hsz,decide_true,cond_true] at h
      split at h
      ·rename_i cs2 hput
       obtain ⟨h3,h4⟩:=aD.put hd hc hput
       have hsize:v.cells.size=size:=by rw [<-lC,hlen,hsz]
       have hfold:(v.cells.zipIdx.foldl (λcs (c,j)=>cs.setIfInBounds (off+j) c) vs.toArray)=(vs.take off++(v.cells.toList++vs.drop (off+v.cells.toList.length))).toArray:=by
        have gen:∀(zs:List Value) (k:Nat) (full:List Value),off+k+zs.length≤full.length->(zs.zipIdx k).foldl (λ(cs:Array Value) (x:Value×Nat)=>cs.setIfInBounds (off+x.2) x.1) full.toArray=(full.take (off+k)++(zs++full.drop (off+k+zs.length))).toArray:=by
         intro zs
         induction zs with
         |nil=>intro k full _;simp
         |cons z zs ih =>
          intro k full hl
          simp only [List.length_cons] at hl
          rw [List.zipIdx_cons,List.foldl_cons]
          simp only [List.setIfInBounds_toArray]
          rw [ih (k+1) (full.set (off+k) z) (by simp;omega)]
          congr 1
          rw [List.drop_set_of_lt (by omega),<-Nat.add_assoc,List.take_set,List.take_succ_eq_append_getElem (by omega),List.set_append_right _ _ (by simp only [List.length_take];omega)]
          simp [show min (off+k) full.length=off+k by omega,show off+k+1+zs.length=off+k+(zs.length+1) by omega]
        have:=gen v.cells.toList 0 vs (by omega)
        rw [<-Array.foldl_toList,Array.toList_zipIdx]
        simpa using this
       obtain ⟨out,h5,h6⟩:=K5 h1 h2 h3 h
       refine ⟨out,?_,h6⟩
       rw [Instr.fill,hpl]
       have hns:¬ (v.cells.size≠size∨off+v.cells.size > vs.toArray.size):=by
        rw [<-lC];simp;rw [<-lC];omega
       have hns2:(decide (v.cells.size≠size) || decide (off+v.cells.size > vs.toArray.size))=false:=by
        rw [Bool.or_eq_false_iff,decide_eq_false_iff_not,decide_eq_false_iff_not]
        exact ⟨λe=>hns (.inl e),λe=>hns (.inr e)⟩
       simp only [hns2,Bool.false_eq_true,if_false]
       rw [hfold]
       exact h5
      ·cases h
     ·simp [hsz] at h
    ·cases h
theorem aJw{k:IntKind}:∀{n:Nat} {l l':List Value},zeros k n l=some l'->l=nv k (List.replicate n 0)++l'
 |0,l,l',h=>by simp only [zeros,b6] at h;subst h;rfl
 |n+1,l,l',h=>by
  unfold zeros at h
  split at h
  ·rename_i e;cases e
  ·rename_i n' j l2 e
   cases e
   by_cases hk:k=j
   ·subst hk
    simp only [decide_true,cond_true] at h
    rw [aJw h]
    simp [nv,List.replicate_succ]
   ·simp [hk] at h
  ·cases h
theorem aKs{g:List Value->Option (Rp SV×List Value)}(hg:∀l c l',g l=some (c,l')->∃us,l=us++l'∧aD r c us):∀{n:Nat} {l l':List Value} {c:Rp SV},zr.zrs g n l=some (c,l')->∃us,l=us++l'∧aD r c us
 |0,l,l',c,h=>by simp only [zr.zrs,b6,cH] at h;obtain ⟨rfl,rfl⟩:=h;exact ⟨[],rfl,.nil⟩
 |n+1,l,l',c,h=>by
  simp only [zr.zrs] at h
  split at h
  ·rename_i a l2 e
   split at h
   ·rename_i b l3 e2
    simp only [b6,cH] at h
    obtain ⟨rfl,rfl⟩:=h
    obtain ⟨us,rfl,hd⟩:=hg _ _ _ e
    obtain ⟨vs,rfl,hd2⟩:=aKs hg e2
    exact ⟨us++vs,by simp,aD.cat hd hd2⟩
   ·cases h
  ·cases h
theorem aJE{g:TypeId->List Value->Option (Rp SV×List Value)}(hg:∀T l c l',g T l=some (c,l')->∃us,l=us++l'∧aD r c us):∀{ts:List TypeId} {l l':List Value} {c:Rp SV},zr.zrf g ts l=some (c,l')->∃us,l=us++l'∧aD r c us
 |[],l,l',c,h=>by simp only [zr.zrf,b6,cH] at h;obtain ⟨rfl,rfl⟩:=h;exact ⟨[],rfl,.nil⟩
 |T::ts,l,l',c,h=>by
  simp only [zr.zrf] at h
  split at h
  ·rename_i a l2 e
   split at h
   ·rename_i b l3 e2
    simp only [b6,cH] at h
    obtain ⟨rfl,rfl⟩:=h
    obtain ⟨us,rfl,hd⟩:=hg _ _ _ _ e
    obtain ⟨vs,rfl,hd2⟩:=aJE hg e2
    exact ⟨us++vs,by simp,aD.cat hd hd2⟩
   ·cases h
  ·cases h
theorem aFt:∀(d:Nat) {T:TypeId} {l l':List Value} {c:Rp SV},zr P d T l=some (c,l')->∃us,l=us++l'∧aD r c us
 |0,T,l,l',c,h=>by simp [zr] at h
 |d+1,T,l,l',c,h=>by
  unfold zr at h
  split at h
  ·rename_i n e hu
   split at h
   ·rename_i k hk
    split at h
    ·rename_i l2 hz
     simp only [b6,cH] at h
     obtain ⟨rfl,rfl⟩:=h
     exact ⟨_,aJw hz,.arr (by simp)⟩
    ·cases h
   ·exact aKs (λl c l' h=>aFt d h) h
  ·exact aJE (λT l c l' h=>aFt d h) h
  ·split at h
   ·rename_i x l2
    cases hx:x.oneCell' with
    |true =>
     rw [hx] at h
     simp only [cond_true,b6,cH] at h
     obtain ⟨rfl,rfl⟩:=h
     exact ⟨[x],rfl,.one (.v x) hx⟩
    |false=>rw [hx] at h;simp at h
   ·cases h
theorem qV{T:TypeId}{cs:Rp SV}(h:oJ P T=some cs):∃i z,P.info? T=some i∧i.zero=some z∧aD r cs z.cells.toList∧z.cells.size=i.size∧∀w,(zeroValue T).run P w=.ok z w:=by
 unfold oJ at h
 split at h
 ·rename_i i hi
  split at h
  ·rename_i z hz
   split at h
   ·rename_i c hc
    rw [bE] at h
    by_cases hl:z.cells.toList.length=i.size
    ·simp only [hl,decide_true,cond_true,b6] at h
     subst h
     obtain ⟨us,hus,hd⟩:=aFt (r:=r) 50 hc
     rw [eC] at hus
     exact ⟨i,z,hi,hz,by rw [hus];exact hd,by rw [<-lC];exact hl,λw=>by simp [zeroValue,typeInfo,hi,hz]⟩
    ·simp only [hl,decide_false,cond_false,reduceCtorEq] at h
   ·cases h
  ·cases h
 ·cases h
theorem P9(l:List Value)(n:Nat)(h:0<l.length):((List.replicate n l).flatten).toArray=(Array.range (n*l.length)).map (λi=>l.toArray[i%l.toArray.size]!):=by
 apply Array.ext_getElem?
 intro j
 have hlen:((List.replicate n l).flatten).length=n*l.length:=by simp
 rw [List.getElem?_toArray]
 by_cases hj:j<n*l.length
 ·have hm:j%l.length<l.length:=Nat.mod_lt _ h
  rw [Array.getElem?_map,Array.getElem?_range]
  rw [if_pos hj]
  have:((List.replicate n l).flatten)[j]?=l[j%l.length]?:=by
   clear hlen
   induction n generalizing j with
   |zero=>omega
   |succ n ih =>
    rw [List.replicate_succ,List.flatten_cons]
    by_cases hl:j<l.length
    ·rw [mZ hl,Nat.mod_eq_of_lt hl]
    ·rw [o3 (by omega),ih (j-l.length) (by rw [Nat.add_mul] at hj;omega) (Nat.mod_lt _ h)]
     rw [Nat.mod_eq_sub_mod (a:=j) (by omega)]
  rw [this]
  simp [Array.getElem!_eq_getD,hm]
 ·rw [fA (by omega),Array.getElem?_eq_none (by simp;omega)]
end
section
variable {E:bX}{r:List aF}{hp:Tr}{nx:Nat}{w:World}{P:Program}
theorem uX{z m:Nat}{x:SV}{cs:Rp SV}{v:Value}(hm:aG E r hp nx w)(hx:aP r x v)(h:jH hp z x=some (m,cs)):
 ∃A c zs,v=.slice A m c∧aD r cs zs∧zs.length=m*z∧bH w w.heap.size z A m zs:=by
 have key:∀{n o l c:Nat} {L:aF} {b:HB},r[n]?=some L->hp.get n=some b->uN b.cs o (l*z)=some cs->∃zs,aD r cs zs∧zs.length=l*z∧bH w w.heap.size z (some ⟨L.g,L.b+o,none⟩) l zs:=by
  intro n o l c L b hL hb hc
  obtain ⟨M,hM,hok⟩:=hm.blk n b hb
  rw [hL] at hM;cases hM
  obtain ⟨vs,hd,hcell⟩:=hok.cells
  obtain ⟨h1,h2⟩:=hd.sub hc
  have hl:((vs.drop o).take (l*z)).length=l*z:=by simp;omega
  exact ⟨_,h1,hl,hl,λ_=>⟨_,rfl,hok.lt,λj u hu=>by rw [eX,Nat.add_assoc];exact hcell _ u (aBL hu)⟩⟩
 unfold jH at h
 split at h
 ·rename_i n o l c
  cases hx with
  |@s _ _ _ _ L hL =>
   split at h
   ·rename_i b hb
    split at h
    ·rename_i cs' hc
     simp only [b6,cH] at h
     obtain ⟨rfl,rfl⟩:=h
     obtain ⟨zs,h1,h2,h3⟩:=key (c:=c) hL hb hc
     exact ⟨_,_,zs,rfl,h1,h2,h3⟩
    ·cases h
   ·cases h
 ·rename_i n l
  cases hx with
  |@w _ _ L hL _ =>
   split at h
   ·rename_i b hb
    split at h
    ·rename_i cs' hc
     simp only [b6,cH] at h
     obtain ⟨rfl,rfl⟩:=h
     obtain ⟨zs,h1,h2,h3⟩:=key (c:=0) hL hb hc
     exact ⟨_,_,zs,rfl,h1,h2,by simpa using h3⟩
    ·cases h
   ·cases h
 ·cases hx
  simp only [b6,cH] at h
  obtain ⟨rfl,rfl⟩:=h
  exact ⟨none,_,[],rfl,.nil,by simp,by simp,λh=>absurd h (by omega)⟩
 ·cases h
theorem aLa{z m c:Nat}{A:Option Addr}{B:Nat}{zs:List Value}(hr:bH w B z A m zs):(Builtin.firstCells z m (.slice A m c)).run P w=.ok zs.toArray w:=by
 cases A with
 |none =>
  have h0:m=0:=by
   rcases Nat.eq_zero_or_pos m with h|h
   ·exact h
   ·obtain ⟨ad,e,_⟩:=hr.2 h
    cases e
  subst h0
  have:zs=[]:=mJ (by simpa using hr.1)
  subst this
  simp [Builtin.firstCells]
 |some a =>
  rcases Nat.eq_zero_or_pos m with h|h
  ·subst h
   have:zs=[]:=mJ (by simpa using hr.1)
   subst this
   simp [Builtin.firstCells,loadCells,loadCellsFrom]
  ·obtain ⟨ad,e,_,hc⟩:=hr.2 h
   cases e
   exact run_firstCells_some w z m a m c zs hr.1 hc
theorem I5{n o:Nat}{new:Rp SV}{zs:List Value}{hp':Tr}{L:aF}(hm:aG E r hp nx w)(hL:r[n]?=some L)(hd:aD r new zs)(h:qI hp n o new=some hp'):
 ∃w',(storeCells ⟨L.g,L.b+o,none⟩ zs).run E.X.P w=.ok () w'∧aG E r hp' nx w':=by
 unfold qI at h
 split at h
 ·rename_i b hb
  rw [bO] at h
  by_cases hk:b.k<2
  ·simp only [hk,decide_true,cond_true] at h
   split at h
   ·rename_i cs hc
    cases h
    exact hm.writeAt hb hk hL hd hc
   ·cases h
  ·simp [hk] at h
 ·cases h
theorem qW{T e:TypeId}(h:tH P T=some e):P.underlying T=some (.slice e):=by
 unfold tH at h
 split at h
 ·cases h;assumption
 ·cases h
theorem wG{ts:Sl}{vs:List Value}{df:List Deferred}(hs:bU r ts vs){x:Option Operand}{d n:Nat}(h:vF x ts d=some n):
 (x=none∧n=d)∨∃y k,x=some y∧Act.eval ⟨vs.toArray,df⟩ y=.int k (n:Int):=by
 unfold vF at h
 split at h
 ·rename_i y
  obtain ⟨k,hk⟩:=rZ (aP.ev (df:=df) hs y) h
  exact .inr ⟨y,k,rfl,hk⟩
 ·cases h;exact .inl ⟨rfl,rfl⟩
theorem aCM{k:IntKind}{n y:Nat}{code:BoundsCode}(h:n≤y):(Instr.sliceBound (.int k (n:Int)) y code).run P w=.ok n w:=by
 have h1:(n:Int)≤(y:Int):=by omega
 simp [Instr.sliceBound,asIntOf,h1]
theorem aD1{ts:Sl}{vs:List Value}{df:List Deferred}(hs:bU r ts vs){n c l h m:Nat}{lo hi mx:Option Operand}(hb:Q6 ts n c lo hi mx=some (l,h,m))(isS:Bool):
 (Instr.sliceBounds isS n c (lo.map (Act.eval ⟨vs.toArray,df⟩)) (hi.map (Act.eval ⟨vs.toArray,df⟩)) (mx.map (Act.eval ⟨vs.toArray,df⟩))).run P w=.ok (l,h,m) w∧l≤h∧h≤m∧m≤c:=by
 unfold Q6 at hb
 split at hb
 ·rename_i m' h' l' e1 e2 e3
  simp only [cY] at hb
  by_cases hc:(decide (m'≤c)&&(decide (h'≤m')&&(decide (l'≤h')&&(mx.isNone || hi.isSome))))=true
  ·rw [hc,cond_true] at hb
   simp only [b6,cH] at hb
   obtain ⟨rfl,rfl,rfl⟩:=hb
   simp only [bJ,bR,Bool.or_eq_true] at hc
   obtain ⟨hmc,hhm,hlh,hor⟩:=hc
   refine ⟨?_,hlh,hhm,hmc⟩
   have f1:=wG (df:=df) hs e1
   have f2:=wG (df:=df) hs e2
   have f3:=wG (df:=df) hs e3
   rcases f1 with ⟨rfl,rfl⟩|⟨y1,k1,rfl,g1⟩<;>rcases f2 with ⟨rfl,rfl⟩|⟨y2,k2,rfl,g2⟩<;>rcases f3 with ⟨rfl,rfl⟩|⟨y3,k3,rfl,g3⟩ <;>
    simp_all [Instr.sliceBounds,aCM]
  ·rw [jD] at hc
   rw [hc] at hb;simp at hb
 ·cases hb
theorem a0J{ts:Sl}{vs:List Value}{df:List Deferred}(hs:bU r ts vs){T:TypeId}{x y:SV}{v:Value}{lo hi mx:Option Operand}(hx:aP r x v)(h:aAo P T ts x lo hi mx=some y):
 ∃u,(∀w,(Instr.sliceAt T v (lo.map (Act.eval ⟨vs.toArray,df⟩)) (hi.map (Act.eval ⟨vs.toArray,df⟩)) (mx.map (Act.eval ⟨vs.toArray,df⟩))).run P w=.ok u w)∧aP r y u:=by
 unfold aAo at h
 split at h
 ·rename_i n e hu
  split at h
  ·rename_i z g o l hh m hz hb
   cases h
   cases hx with
   |@p _ _ L hL =>
    have hbn:=(λw=>aD1 (P:=P) (w:=w) (df:=df) hs hb false)
    refine ⟨.slice (some ⟨L.g,L.b+(bif Nat.beq m l then o else o+l*z),none⟩) (hh-l) (m-l),λw=>?_,.s hL⟩
    rw [bE]
    by_cases hml:m=l
    ·subst hml
     simp [Instr.sliceAt,run_underlying hu,Instr.sureAddr,(hbn w).1,i9 hz]
    ·simp [Instr.sliceAt,run_underlying hu,Instr.sureAddr,(hbn w).1,i9 hz,hml,eX,Nat.add_assoc]
  ·cases h
 ·rename_i e hu
  split at h
  ·rename_i z g o n c hz
   split at h
   ·rename_i l hh m hb
    cases h
    cases hx with
    |@s _ _ _ _ L hL =>
     have hbn:=(λw=>aD1 (P:=P) (w:=w) (df:=df) hs hb true)
     refine ⟨.slice (some ⟨L.g,L.b+(bif Nat.beq m l then o else o+l*z),none⟩) (hh-l) (m-l),λw=>?_,.s hL⟩
     rw [bE]
     by_cases hml:m=l
     ·subst hml
      simp [Instr.sliceAt,Instr.slice,run_underlying hu,(hbn w).1,i9 hz]
     ·simp [Instr.sliceAt,Instr.slice,run_underlying hu,(hbn w).1,i9 hz,hml,eX,Nat.add_assoc]
   ·cases h
  ·rename_i z g n hz
   cases hx with
   |@w _ _ L hL hle =>
    split at h
    ·rename_i e3
     split at h
     ·rename_i hh e2
      rw [cY] at h
      by_cases hn:hh≤n
      ·simp only [hn,decide_true,cond_true,b6] at h
       subst h
       refine ⟨.slice (some ⟨L.g,L.b,none⟩) hh L.c,λw=>?_,.w hL (by omega)⟩
       have f2:=wG (df:=df) hs e2
       have f3:=wG (df:=df) hs e3
       have hhc:hh≤L.c:=by omega
       rcases f2 with ⟨rfl,rfl⟩|⟨y2,k2,rfl,g2⟩<;>rcases f3 with ⟨rfl,_⟩|⟨y3,k3,rfl,g3⟩ <;>
        simp_all [Instr.sliceAt,Instr.slice,run_underlying hu,Instr.sliceBounds,aCM,i9 hz]<;>try (simp [Instr.sliceBound,asIntOf,eX])
      ·simp [hn] at h
     ·cases h
    ·rename_i y1 e3
     split at h
     ·rename_i hh m e2 e1
      simp only [cY] at h
      by_cases hc:(decide (hh≤m)&&(decide (m≤n)&&hi.isSome))=true
      ·rw [hc,cond_true] at h
       cases h
       simp only [bJ,bR] at hc
       obtain ⟨hhm,hmn,his⟩:=hc
       obtain ⟨k1,g1⟩:=rZ (aP.ev (df:=df) hs y1) e1
       refine ⟨.slice (some ⟨L.g,L.b+0,none⟩) hh m,λw=>?_,.s hL⟩
       have f2:=wG (df:=df) hs e2
       have f3:=wG (df:=df) hs e3
       have hmc:m≤L.c:=by omega
       rcases f2 with ⟨rfl,rfl⟩|⟨y2,k2,rfl,g2⟩<;>rcases f3 with ⟨rfl,_⟩|⟨y3,k3,rfl,g3⟩ <;>
        simp_all [Instr.sliceAt,Instr.slice,run_underlying hu,Instr.sliceBounds,aCM,i9 hz]<;>try (simp [Instr.sliceBound,asIntOf,eX])
      ·rw [jD] at hc
       rw [hc] at h;simp at h
     ·cases h
    ·cases h
  ·rename_i z hz
   cases hx
   split at h
   ·rename_i b hb
    cases h
    obtain ⟨l,hh,m⟩:=b
    have hbn:=(λw=>aD1 (P:=P) (w:=w) (df:=df) hs hb true)
    obtain ⟨_,h2,h3,h4⟩:=hbn default
    obtain rfl:m=0:=by omega
    obtain rfl:hh=0:=by omega
    obtain rfl:l=0:=by omega
    refine ⟨.slice none 0 0,λw=>?_,.v _⟩
    simp [Instr.sliceAt,Instr.slice,run_underlying hu,(hbn w).1,i9 hz]
   ·cases h
  ·cases h
 ·cases h
theorem a0G{T:TypeId}{x i y:SV}{v vi:Value}(hx:aP r x v)(hi:aP r i vi)(h:aAz P T x i=some y):∃u,(∀w,(Instr.indexAt T v vi).run P w=.ok u w)∧aP r y u:=by
 unfold aAz at h
 split at h
 ·rename_i k n e hk hu
  obtain ⟨kk,rfl⟩:=rZ hi hk
  split at h
  ·rename_i z g o hz
   rw [bO] at h
   by_cases hn:k<n
   ·simp only [hn,decide_true,cond_true,b6] at h
    subst h
    cases hx with
    |@p _ _ L hL =>
     refine ⟨_,λw=>?_,.p hL⟩
     have h0:(k:Int)<(n:Int):=by omega
     simp [Instr.indexAt,asIntOf,run_underlying hu,Instr.sureAddr,i9 hz,eX,Nat.add_assoc]
     try (intro h9;omega)
   ·simp [hn] at h
  ·rename_i z g o hz
   rw [bO] at h
   by_cases hn:k<n
   ·simp only [hn,decide_true,cond_true,b6] at h
    subst h
    cases hx
    refine ⟨_,λw=>?_,.v _⟩
    have h0:(k:Int)<(n:Int):=by omega
    simp [Instr.indexAt,asIntOf,run_underlying hu,Instr.sureAddr,i9 hz,eX]
    try (intro h9;omega)
   ·simp [hn] at h
  ·cases h
 ·rename_i k e hk hu
  obtain ⟨kk,rfl⟩:=rZ hi hk
  split at h
  ·rename_i z g o n c hz
   rw [bO] at h
   by_cases hn:k<n
   ·simp only [hn,decide_true,cond_true,b6] at h
    subst h
    cases hx with
    |@s _ _ _ _ L hL =>
     refine ⟨_,λw=>?_,.p hL⟩
     have h0:(k:Int)<(n:Int):=by omega
     simp [Instr.indexAt,asIntOf,run_underlying hu,i9 hz,eX,Nat.add_assoc]
     try (intro h9;omega)
   ·simp [hn] at h
  ·rename_i z g n hz
   rw [bO] at h
   by_cases hn:k<n
   ·simp only [hn,decide_true,cond_true,b6] at h
    subst h
    cases hx with
    |@w _ _ L hL hle =>
     refine ⟨_,λw=>?_,.p hL⟩
     have h0:(k:Int)<(n:Int):=by omega
     simp [Instr.indexAt,asIntOf,run_underlying hu,i9 hz,eX]
     try (intro h9;omega)
   ·simp [hn] at h
  ·cases h
 ·cases h
end
