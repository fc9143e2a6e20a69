/-
  A leaf: whether a subtree is empty, as the reference tells it.
-/
import Derived.Test.YtjboelhcieepkaaGreatDoorZ14
namespace Go.Proofs.YtjboelhcieepkaaGreatDoor
set_option maxRecDepth 16384
open Go.RowKit
noncomputable def fIdx(args:List SV):Option SV:=match args with
 |[.v (.int .i64 (.ofNat i)),.v (.int .i64 (.ofNat l))]=>bif Nat.blt i 20&&Nat.blt l 3 then some (i64v (i / 4 ^ (l+1))) else none
 |_=>none
theorem ridx:(lt2 20 fun _=>3).map (fun p=>callR HB0 Xt 12 103 [i64v p.1,i64v p.2] .e 0)=(lt2 20 fun _=>3).map (fun p=>some (.int .i64 ((p.1 / 4 ^ (p.2+1):Nat):Int))):=by kernel_rfl
theorem ridx_leaf:LeafOk Xt 103 (leafV fIdx):=leafV_ok (enters (by kernel_rfl)) fun args y hf r vals w hd hg=>by
 unfold fIdx at hf
 split at hf
 ·rename_i i l
  cases hq:Nat.blt i 20&&Nat.blt l 3 with
  |false=>rw [hq] at hf;cases hf
  |true =>
   rw [hq] at hf;cases hf
   simp only [Bool.and_eq_true,blt_iff,decide_eq_true_eq] at hq
   cases hd with
   |cons d1 hd=>cases hd with
    |cons d2 hd =>
     cases hd;cases d1;cases d2
     exact (callR_val (vals:=[.int .i64 (.ofNat i),.int .i64 (.ofNat l)]) hmx HB0_ok (all_of ridx (mem_lt2 (f:=fun _=>3) hq.1 hq.2)) (.cons (.v _) (.cons (.v _) .nil)) hg).mono fun e w' ⟨h1,h2⟩=>⟨_,h1,.v _,h2⟩
 ·cases hf
noncomputable def tabE:List (FuncId×Leaf):=(103,leafV fIdx)::tabS
theorem tabE_ok:∀p∈tabE,LeafOk Xt p.1 p.2:=by
 intro p hp
 rcases List.mem_cons.1 hp with rfl|hp
 ·exact ridx_leaf
 ·exact tabS_ok p hp
noncomputable def HE:Hk:=hkD Xt (leafTab tabE) 14 6
theorem HE_ok:HkOk Xt HE:=hkT_ok hmx tabE_ok 6
noncomputable def ropeR(n:Nat)(R:Nat→VRec):Rp SV:=packP ((List.range n).map fun i=>.q (.rcd (R i)))
noncomputable def ropeB(n:Nat)(B:Nat→Bool):Rp SV:=packP ((List.range n).map fun i=>.q (.bit (B i)))
def valsR(n:Nat)(R:Nat→VRec):List Value:=(List.range n).flatMap fun i=>(R i).vals
def valsB(n:Nat)(B:Nat→Bool):List Value:=(List.range n).flatMap fun i=>[.int .i64 (bitN (B i):Int)]
noncomputable def recsL:List (Rp SV)→Option (List VRec)
 |[]=>some []
 | .q (.rcd x)::l=>(match recsL l with
  |some xs=>some (x::xs)
  |none=>none)
 |_=>none
noncomputable def bitL:List (Rp SV)→Option (List Bool)
 |[]=>some []
 | .q (.bit x)::l=>(match bitL l with
  |some xs=>some (x::xs)
  |none=>none)
 |_=>none
section
variable {r:List Loc}
theorem packA_ok{α:Type}(f:α→At):∀l:List α,DenC r (packP (l.map fun i=>.q (f i))) (l.flatMap fun i=>(f i).vals)
 |[]=>.nil
 |x::l=>by rw [List.flatMap_cons];exact DenC.cat (.q (f x)) (packA_ok f l)
theorem ropeR_ok(n:Nat)(R:Nat→VRec):DenC r (ropeR n R) (valsR n R):=packA_ok (fun i=>.rcd (R i)) _
theorem ropeB_ok(n:Nat)(B:Nat→Bool):DenC r (ropeB n B) (valsB n B):=packA_ok (fun i=>.bit (B i)) _
theorem recsL_ok:∀{l:List (Rp SV)} {xs:List VRec} {us:List Value},recsL l=some xs→DenF r l us→us=xs.flatMap VRec.vals
 |[],_,_,h,d=>by cases h;cases d;rfl
 |c::l,_,_,h,d=>by
  unfold recsL at h
  split at h
  ·rename_i e;cases e
  ·rename_i e
   cases e
   split at h
   ·rename_i xs hx
    cases h
    cases d with|cons d t=>cases d;rw [recsL_ok hx t,List.flatMap_cons];rfl
   ·cases h
  ·cases h
theorem bitL_ok:∀{l:List (Rp SV)} {xs:List Bool} {us:List Value},bitL l=some xs→DenF r l us→us=xs.flatMap fun b=>[.int .i64 (bitN b:Int)]
 |[],_,_,h,d=>by cases h;cases d;rfl
 |c::l,_,_,h,d=>by
  unfold bitL at h
  split at h
  ·rename_i e;cases e
  ·rename_i e
   cases e
   split at h
   ·rename_i xs hx
    cases h
    cases d with|cons d t=>cases d;rw [bitL_ok hx t,List.flatMap_cons];rfl
   ·cases h
  ·cases h
theorem getD_range{α β:Type}(xs:List α)(z:α)(f:α→List β):xs.flatMap f=(List.range xs.length).flatMap fun i=>f (xs.getD i z):=by
 have:xs=(List.range xs.length).map fun i=>xs.getD i z:=by
  apply List.ext_getElem?
  intro i
  rw [List.getElem?_map]
  by_cases hi:i<xs.length
  ·rw [List.getElem?_range hi];simp [hi]
  ·rw [List.getElem?_eq_none (by omega),List.getElem?_eq_none (by simpa using hi)];rfl
 conv=>lhs;rw [this]
 rw [List.flatMap_map]
end
theorem slice_at{E:Env}{r:List Loc}{hp:Tr}{nx z m:Nat}{w:World}{x:SV}{cs:Rp SV}{v:Value}(hm:Mem E r hp nx w)(hx:Den r x v)(h:sliceCells hp z x=some (m,cs))(h0:0<m):
 ∃g o c zs,v=.slice (some ⟨g,o,none⟩) m c∧DenC r cs zs∧Reads w w.heap.size z (some ⟨g,o,none⟩) m zs:=by
 have key:∀{y:SV} {g o l c:Nat},Den r y v→v=.slice (some ⟨g,o,none⟩) l c→sliceCells hp z y=some (m,cs)→∃g o c zs,v=.slice (some ⟨g,o,none⟩) m c∧DenC r cs zs∧Reads w w.heap.size z (some ⟨g,o,none⟩) m zs:=by
  intro y g o l c hd hv hs
  obtain ⟨A,c',zs,e1,hd',_,hr⟩:=sliceCells_ok hm hd hs
  rw [hv] at e1
  cases e1
  exact ⟨g,o,_,zs,hv,hd',hr⟩
 cases hx with
 |s hL=>exact key (.s hL) rfl h
 |w hL hl=>exact key (.w hL hl) rfl h
 |v x =>
  unfold sliceCells at h
  split at h
  ·rename_i e;cases e
  ·rename_i e;cases e
  ·cases h;omega
  ·cases h
 |_=>cases h
theorem Mem.addR{E:Env}{r:List Loc}{hp:Tr}{nx z n g o c T:Nat}{w w':World}{cs:Rp SV}{vs:List Value}(h:Mem E r hp nx w)(ha:AllF hp)(hr:Reads w w'.heap.size z (some ⟨g,o,none⟩) n vs)(h0:0<n)(hw:w'.heap.size≤E.w0.heap.size)(hle:E.w0.heap.size≤w.heap.size)
 (hd:DenC [] cs vs):Mem E (r++[⟨g,o,c,none,fun _=>False⟩]) (hp.put nx ⟨T,cs,2⟩) (nx+1) w:=by
 obtain ⟨ad,e,hlt,hc⟩:=hr.2 h0
 cases e
 exact h.addF ha ⟨g,o,c,none,fun _=>False⟩ T cs vs (by have:=hd.mono (r++[⟨g,o,c,none,fun _=>False⟩]);simpa using this) (Nat.lt_of_lt_of_le hlt hw) hle fun j v hv=>by have:=hc j v hv;rwa [add_none] at this
def neB(x:VRec):Bool:=!((x.s:Int)==0)
theorem neB_eq(x:VRec):neB x=!(Nat.beq x.s 0):=by
 unfold neB
 congr 1
 cases h:x.s with
 |zero=>rfl
 |succ n=>rfl
def inSub(lv ix i:Nat):Bool:=Nat.beq (i / 4 ^ (lv+1)) ix
noncomputable def hpE(n:Nat)(R:Nat→VRec):Tr:=Tre.e.put 0 ⟨61,ropeR n R,2⟩
noncomputable def emE(n k:Nat):List Ev:=List.replicate k (.b false)++(bif Nat.beq k n then [] else [.b true])
noncomputable def emX(n lv ix k c:Nat)(R:Nat→VRec):Pos×List Ob:=evRun ⟨[26],[],0⟩ HE Xt 12 (emE n k) (evPos Xt 38 [.s 0 0 n c,i64v lv,i64v ix] (hpE n R) 1)
noncomputable def emRun(n:Nat)(c:Nat)(R:Nat→VRec)(q:(Nat×Nat)×Nat):Option SV×List Ob:=((finP Xt 38 (emX n q.1.1 q.1.2 q.2 c R).1).map (·.1),(emX n q.1.1 q.1.2 q.2 c R).2)
noncomputable def emExp(n:Nat)(R:Nat→VRec)(q:(Nat×Nat)×Nat):Option SV×List Ob:=(some (.v (.bool (Nat.beq q.2 n))),((List.range q.2).map fun i=>.t (bif inSub q.1.1 q.1.2 i then neB (R i) else false) false)++(bif Nat.beq q.2 n then [] else [.t (neB (R q.2)) true]))
def emDom(n:Nat):List ((Nat×Nat)×Nat):=(lt2 2 (cnt n)).flatMap fun p=>((n::(List.range n).filter (inSub p.1 p.2)).map fun k=>(p,k))
theorem em_1(c:Nat)(R:Nat→VRec):(emDom 1).map (emRun 1 c R)=(emDom 1).map (emExp 1 R):=by kernel_rfl
theorem em_2(c:Nat)(R:Nat→VRec):(emDom 2).map (emRun 2 c R)=(emDom 2).map (emExp 2 R):=by kernel_rfl
theorem em_3(c:Nat)(R:Nat→VRec):(emDom 3).map (emRun 3 c R)=(emDom 3).map (emExp 3 R):=by kernel_rfl
theorem em_4(c:Nat)(R:Nat→VRec):(emDom 4).map (emRun 4 c R)=(emDom 4).map (emExp 4 R):=by kernel_rfl
theorem em_5(c:Nat)(R:Nat→VRec):(emDom 5).map (emRun 5 c R)=(emDom 5).map (emExp 5 R):=by kernel_rfl
theorem em_6(c:Nat)(R:Nat→VRec):(emDom 6).map (emRun 6 c R)=(emDom 6).map (emExp 6 R):=by kernel_rfl
theorem em_7(c:Nat)(R:Nat→VRec):(emDom 7).map (emRun 7 c R)=(emDom 7).map (emExp 7 R):=by kernel_rfl
theorem em_8(c:Nat)(R:Nat→VRec):(emDom 8).map (emRun 8 c R)=(emDom 8).map (emExp 8 R):=by kernel_rfl
theorem em_9(c:Nat)(R:Nat→VRec):(emDom 9).map (emRun 9 c R)=(emDom 9).map (emExp 9 R):=by kernel_rfl
theorem em_10(c:Nat)(R:Nat→VRec):(emDom 10).map (emRun 10 c R)=(emDom 10).map (emExp 10 R):=by kernel_rfl
theorem em_11(c:Nat)(R:Nat→VRec):(emDom 11).map (emRun 11 c R)=(emDom 11).map (emExp 11 R):=by kernel_rfl
theorem em_12(c:Nat)(R:Nat→VRec):(emDom 12).map (emRun 12 c R)=(emDom 12).map (emExp 12 R):=by kernel_rfl
theorem em_13(c:Nat)(R:Nat→VRec):(emDom 13).map (emRun 13 c R)=(emDom 13).map (emExp 13 R):=by kernel_rfl
theorem em_14(c:Nat)(R:Nat→VRec):(emDom 14).map (emRun 14 c R)=(emDom 14).map (emExp 14 R):=by kernel_rfl
theorem em_15(c:Nat)(R:Nat→VRec):(emDom 15).map (emRun 15 c R)=(emDom 15).map (emExp 15 R):=by kernel_rfl
theorem em_16(c:Nat)(R:Nat→VRec):(emDom 16).map (emRun 16 c R)=(emDom 16).map (emExp 16 R):=by kernel_rfl
theorem em_17(c:Nat)(R:Nat→VRec):(emDom 17).map (emRun 17 c R)=(emDom 17).map (emExp 17 R):=by kernel_rfl
theorem em_18(c:Nat)(R:Nat→VRec):(emDom 18).map (emRun 18 c R)=(emDom 18).map (emExp 18 R):=by kernel_rfl
theorem em_19(c:Nat)(R:Nat→VRec):(emDom 19).map (emRun 19 c R)=(emDom 19).map (emExp 19 R):=by kernel_rfl
theorem em_20(c:Nat)(R:Nat→VRec):(emDom 20).map (emRun 20 c R)=(emDom 20).map (emExp 20 R):=by kernel_rfl
theorem em_any:∀n,1≤n→n≤20→∀(c:Nat) (R:Nat→VRec),(emDom n).map (emRun n c R)=(emDom n).map (emExp n R)
 |1,_,_=>em_1
 |2,_,_=>em_2
 |3,_,_=>em_3
 |4,_,_=>em_4
 |5,_,_=>em_5
 |6,_,_=>em_6
 |7,_,_=>em_7
 |8,_,_=>em_8
 |9,_,_=>em_9
 |10,_,_=>em_10
 |11,_,_=>em_11
 |12,_,_=>em_12
 |13,_,_=>em_13
 |14,_,_=>em_14
 |15,_,_=>em_15
 |16,_,_=>em_16
 |17,_,_=>em_17
 |18,_,_=>em_18
 |19,_,_=>em_19
 |20,_,_=>em_20
 |n+21,_,h=>absurd h (by omega)
 |0,h,_=>absurd h (by omega)
def emR(R:Nat→VRec)(n lv ix:Nat):Bool:=(List.range n).all fun i=>!(inSub lv ix i) || Nat.beq (R i).s 0
theorem first_of{P:Nat→Prop}:∀{i:Nat},P i→∃k,k≤i∧P k∧∀j,j<k→¬ P j:=by
 intro i
 induction i using Nat.strongRecOn with
 |_ i ih =>
  intro hi
  by_cases h:∃j,j<i∧P j
  ·obtain ⟨j,h1,h2⟩:=h
   obtain ⟨k,h3,h4⟩:=ih j h1 h2
   exact ⟨k,by omega,h4⟩
  ·exact ⟨i,Nat.le_refl _,hi,fun j hj hp=>h ⟨j,hj,hp⟩⟩
theorem em_call(n lv ix c g o:Nat)(R:Nat→VRec)(h1:1≤n)(h20:n≤20)(hl:lv<2)(hi:ix<cnt n lv)(w:World)(hg:GlobOk Xt w)(hr:Reads w w.heap.size 35 (some ⟨g,o,none⟩) n (valsR n R)):
 Calls Xt.P 38 #[.slice (some ⟨g,o,none⟩) n c,.int .i64 (lv:Int),.int .i64 (ix:Int)] w fun e w'=>e=.returned (.bool (emR R n lv ix))∧Below w.heap.size w w':=by
 have hm:Mem (E0 Xt w) ([]++[⟨g,o,c,none,fun _=>False⟩]) (hpE n R) 1 w:=(Mem.start Xt w hg).addR AllF.start hr (by omega) (Nat.le_refl _) (Nat.le_refl _) (ropeR_ok n R)
 have key:∀k,((lv,ix),k)∈emDom n→(∀i,i<k→inSub lv ix i=true→(R i).s=0)→(k≠n→(R k).s≠0)→Calls Xt.P 38 #[.slice (some ⟨g,o,none⟩) n c,.int .i64 (lv:Int),.int .i64 (ix:Int)] w fun e w'=>e=.returned (.bool (Nat.beq k n))∧Below w.heap.size w w':=by
  intro k hk hz hn
  have h:=all_of (em_any n h1 h20 c R) hk
  unfold emRun emExp at h
  simp only [Prod.mk.injEq] at h
  obtain ⟨h2,h3⟩:=h
  obtain ⟨⟨res,st⟩,h4,h5⟩:=Option.map_eq_some_iff.1 h2
  simp only at h5
  subst h5
  refine (evCall_ok (E:=E0 Xt w) (vals:=[.slice (some ⟨g,o,none⟩) n c,.int .i64 (lv:Int),.int .i64 (ix:Int)]) hmx HE_ok h4 ?_ ?_ hm).mono ?_
  ·intro ob hob
   have hob':ob∈(emX n lv ix k c R).2:=hob
   rw [h3,List.mem_append,List.mem_map] at hob'
   rcases hob' with ⟨i,hi,rfl⟩|hob'
   ·rw [List.mem_range] at hi
    show (bif inSub lv ix i then neB (R i) else false)=false
    cases hs:inSub lv ix i with
    |false=>rfl
    |true=>rw [cond_true,neB_eq,hz i hi hs];rfl
   ·rw [beq_iff] at hob'
    by_cases e:k=n
    ·simp [e] at hob'
    ·simp only [e,decide_false,cond_false,List.mem_singleton] at hob'
     subst hob'
     show neB (R k)=true
     rw [neB_eq]
     have:=hn e
     rw [beq_iff]
     simp [this]
  ·exact .cons (.s (L:=⟨g,o,c,none,fun _=>False⟩) (o:=0) rfl) (.cons (.v _) (.cons (.v _) .nil))
  ·rintro e w' ⟨q,v,he,hd,hm'⟩
   cases hd
   exact ⟨he,hm'.below⟩
 have hdom:(lv,ix)∈lt2 2 (cnt n):=mem_lt2 hl hi
 by_cases hall:∃i,i<n∧inSub lv ix i=true∧(R i).s≠0
 ·obtain ⟨i,a1,a2,a3⟩:=hall
  obtain ⟨k,b1,⟨b2,b3,b4⟩,b5⟩:=first_of (P:=fun i=>i<n∧inSub lv ix i=true∧(R i).s≠0) ⟨a1,a2,a3⟩
  have e:emR R n lv ix=Nat.beq k n:=by
   rw [beq_iff]
   have:k≠n:=by omega
   simp only [this,decide_false]
   unfold emR
   rw [List.all_eq_false]
   exact ⟨k,List.mem_range.2 b2,by rw [b3,beq_iff];simp [b4]⟩
  rw [e]
  refine key k ?_ (fun j hj hs=>?_) (fun _=>b4)
  ·simp only [emDom,List.mem_flatMap,List.mem_map,List.mem_cons,List.mem_filter,List.mem_range]
   exact ⟨(lv,ix),hdom,k,.inr ⟨b2,b3⟩,rfl⟩
  ·exact Classical.byContradiction fun h=>b5 j hj ⟨by omega,hs,h⟩
 ·have e:emR R n lv ix=Nat.beq n n:=by
   rw [beq_iff]
   simp only [decide_true]
   unfold emR
   rw [List.all_eq_true]
   intro i hi
   rw [List.mem_range] at hi
   cases hs:inSub lv ix i with
   |false=>rfl
   |true =>
    rw [beq_iff]
    have:(R i).s=0:=Classical.byContradiction fun h=>hall ⟨i,hi,hs,h⟩
    simp [this]
  rw [e]
  refine key n ?_ (fun j hj hs=>Classical.byContradiction fun h=>hall ⟨j,hj,hs,h⟩) (fun h=>absurd rfl h)
  simp only [emDom,List.mem_flatMap,List.mem_map,List.mem_cons,List.mem_filter,List.mem_range]
  exact ⟨(lv,ix),hdom,n,.inl rfl,rfl⟩
def rOf(xs:List VRec):Nat→VRec:=fun i=>xs.getD i zrec
def bOf(xs:List Bool):Nat→Bool:=fun i=>xs.getD i false
noncomputable def slcR(hp:Tr)(x:SV):Option (List VRec):=match sliceCells hp 35 x with
 |some (m,cs)=>(match recsL (rbare cs []) with
  |some xs=>bif Nat.beq xs.length m&&Nat.blt 0 m then some xs else none
  |none=>none)
 |none=>none
noncomputable def slcB(hp:Tr)(x:SV):Option (List Bool):=match sliceCells hp 1 x with
 |some (m,cs)=>(match bitL (rbare cs []) with
  |some xs=>bif Nat.beq xs.length m&&Nat.blt 0 m then some xs else none
  |none=>none)
 |none=>none
section
variable {E:Env}{r:List Loc}{hp:Tr}{nx:Nat}{w:World}{x:SV}{v:Value}
theorem slcR_ok{xs:List VRec}(hm:Mem E r hp nx w)(hx:Den r x v)(h:slcR hp x=some xs):0<xs.length∧∃g o c,v=.slice (some ⟨g,o,none⟩) xs.length c∧Reads w w.heap.size 35 (some ⟨g,o,none⟩) xs.length (valsR xs.length (rOf xs)):=by
 unfold slcR at h
 split at h
 ·rename_i m cs hs
  split at h
  ·rename_i ys hy
   cases hq:Nat.beq ys.length m&&Nat.blt 0 m with
   |false=>rw [hq] at h;cases h
   |true =>
    rw [hq] at h;cases h
    rw [Bool.and_eq_true,beq_iff,blt_iff,decide_eq_true_eq,decide_eq_true_eq] at hq
    obtain ⟨rfl,h0⟩:=hq
    obtain ⟨g,o,c,zs,e1,e2,e3⟩:=slice_at hm hx hs h0
    have:=recsL_ok hy (rbare_ok _ e2)
    rw [getD_range _ zrec] at this
    subst this
    exact ⟨h0,g,o,c,e1,e3⟩
  ·cases h
 ·cases h
theorem slcB_ok{xs:List Bool}(hm:Mem E r hp nx w)(hx:Den r x v)(h:slcB hp x=some xs):0<xs.length∧∃g o c,v=.slice (some ⟨g,o,none⟩) xs.length c∧Reads w w.heap.size 1 (some ⟨g,o,none⟩) xs.length (valsB xs.length (bOf xs)):=by
 unfold slcB at h
 split at h
 ·rename_i m cs hs
  split at h
  ·rename_i ys hy
   cases hq:Nat.beq ys.length m&&Nat.blt 0 m with
   |false=>rw [hq] at h;cases h
   |true =>
    rw [hq] at h;cases h
    rw [Bool.and_eq_true,beq_iff,blt_iff,decide_eq_true_eq,decide_eq_true_eq] at hq
    obtain ⟨rfl,h0⟩:=hq
    obtain ⟨g,o,c,zs,e1,e2,e3⟩:=slice_at hm hx hs h0
    have:=bitL_ok hy (rbare_ok _ e2)
    rw [getD_range _ false] at this
    subst this
    exact ⟨h0,g,o,c,e1,e3⟩
  ·cases h
 ·cases h
end
noncomputable def lEmp:Leaf:=fun args hp nx=>match args with
 |[x,.v (.int .i64 (.ofNat lv)),.v (.int .i64 (.ofNat ix))]=>(match slcR hp x with
  |some xs=>bif Nat.ble xs.length 20&&(Nat.blt lv 2&&Nat.blt ix (cnt xs.length lv)) then some (.v (.bool (emR (rOf xs) xs.length lv ix)),⟨⟨.e,0⟩,hp,nx⟩) else none
  |none=>none)
 |_=>none
theorem emp_leaf:LeafOk Xt 38 lEmp:=by
 intro args hp nx res st hl E r vals w hE ha hm
 have hgl:GlobOk Xt w:=hE▸hm.globs
 unfold lEmp at hl
 split at hl
 ·rename_i x lv ix
  split at hl
  ·rename_i xs hx
   cases hq:Nat.ble xs.length 20&&(Nat.blt lv 2&&Nat.blt ix (cnt xs.length lv)) with
   |false=>rw [hq] at hl;cases hl
   |true =>
    rw [hq] at hl;cases hl
    simp only [Bool.and_eq_true,ble_iff,blt_iff,decide_eq_true_eq] at hq
    cases ha with|cons d1 t=>cases t with|cons d2 t=>cases t with|cons d3 t =>
     cases t;cases d2;cases d3
     obtain ⟨h0,g,o,c,rfl,hr⟩:=slcR_ok hm d1 hx
     exact ⟨fun w'=>enters (by kernel_rfl) _ w',(em_call _ lv ix c g o _ h0 hq.1 hq.2.1 hq.2.2 w hgl hr).mono fun e w' ⟨h1,h2⟩=>⟨[],_,h1,.v _,by simpa using hm.grow h2⟩⟩
  ·cases hl
 ·cases hl
end Go.Proofs.YtjboelhcieepkaaGreatDoor
