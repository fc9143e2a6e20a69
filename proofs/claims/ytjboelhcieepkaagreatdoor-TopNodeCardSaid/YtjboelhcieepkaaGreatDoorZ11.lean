/-
  Less is known: slots and blocks that are no longer wanted are dropped; rows are spelt in one way.
-/
import Derived.Test.YtjboelhcieepkaaGreatDoorZ10
import Derived.Test.YtjboelhcieepkaaGreatDoorQNdI
import Derived.StillTailTactics
namespace Go.Proofs.YtjboelhcieepkaaGreatDoor
set_option maxRecDepth 16384
open Go.RowKit
noncomputable def nrmP:Rp SV→Rp SV
 | .q (.sha l)=>.arr .u8 32 (Sh.shaF l)
 | .q (.tag x)=>.arr .u8 32 x.tag
 | .q (.dig x)=>.arr .u8 32 x.dig
 | .q (.byt x)=>.arr .u8 x.n x.l
 | .q (.nnc x)=>.node 1 2 (.one (.v (.int .u32 (x.sh:Int)))) (.one (.v (.int .u64 (x.c:Int))))
 |c=>c
def packP:List (Rp SV)→Rp SV
 |[]=>.nil
 |c::l=>cat c (packP l)
noncomputable def nrm(c:Rp SV):Rp SV:=packP ((rbare c []).map nrmP)
noncomputable def nrmV:SV→SV
 | .a c=>.a (nrm c)
 |x=>x
noncomputable def slOf(l:List (Nat×SV))(n:Nat):Sl:=⟨l.foldr (fun x t=>t.put x.1 x.2) ⟨orep (orep (orep (some .u))),fun _=>some .u⟩,n⟩
noncomputable def hpOf(l:List (Nat×Option HB)):Tr:=l.foldr (fun x t=>t.set x.2 x.1) .e
noncomputable def nrmH(b:HB):HB:=⟨b.T,bif Nat.beq b.k 8 then b.cs else nrm b.cs,b.k⟩
noncomputable def nrmB:Option HB→Option HB
 |some b=>some (nrmH b)
 |none=>none
noncomputable def keepS(ts:Sl)(l:List Nat):Sl:=slOf (l.map fun i=>(i,nrmV (nth ts i))) ts.n
noncomputable def keepH(hp:Tr)(l:List Nat):Tr:=hpOf (l.map fun n=>(n,nrmB (hp.get n)))
noncomputable def weak(ls lh:List Nat)(p:Pos):Pos:=⟨p.h,p.k,⟨keepS p.st.ts ls,keepH p.st.hp lh,p.st.nx⟩⟩
section
variable {r:List Loc}
theorem nrmP_ok{c:Rp SV}{us:List Value}(h:DenC r c us):DenC r (nrmP c) us:=by
 unfold nrmP
 split
 ·cases h;exact .arr (shaF_len _)
 ·rename_i x;cases h;exact .arr x.ht
 ·rename_i x;cases h;exact .arr x.ht
 ·rename_i x;cases h;exact .arr x.hl
 ·cases h;exact .node (.one (.v _) rfl) (.one (.v _) rfl) rfl rfl
 ·exact h
theorem packP_ok:∀{l:List (Rp SV)} {us:List Value},DenF r l us→DenC r (packP (l.map nrmP)) us
 |[],_,h=>by cases h;exact .nil
 |_::_,_,h=>by
  cases h with
  |cons h t=>exact DenC.cat (nrmP_ok h) (packP_ok t)
theorem nrm_ok{c:Rp SV}{us:List Value}(h:DenC r c us):DenC r (nrm c) us:=packP_ok (rbare_ok c h)
theorem nrmV_ok{x:SV}{v:Value}(h:Den r x v):Den r (nrmV x) v:=by
 unfold nrmV
 split
 ·cases h with|a h=>exact .a (nrm_ok h)
 ·exact h
theorem slOf_get(l:List (Nat×SV))(n i:Nat):nth (slOf l n) i=((l.find? fun x=>x.1==i).map (·.2)).getD .u:=by
 have h:∀l:List (Nat×SV),(l.foldr (fun x (t:Tri SV)=>t.put x.1 x.2) ⟨orep (orep (orep (some .u))),fun _=>some .u⟩).get i=some (((l.find? fun x=>x.1==i).map (·.2)).getD .u):=by
  intro l
  induction l with
  |nil=>rw [List.foldr_nil,Tri.get_eq];simp [oat_rep]
  |cons x l ih =>
   rw [List.foldr_cons,Tri.get_put]
   by_cases hi:i=x.1
   ·subst hi;simp
   ·have:(x.1==i)=false:=beq_eq_false_iff_ne.2 fun h=>hi h.symm
    rw [if_neg hi,ih,List.find?_cons,this]
 show Option.rec (motive:=fun _=>SV) undefS (fun x=>x) ((slOf l n).t.get i)=_
 unfold slOf
 rw [h]
theorem keepS_ok{ts:Sl}{vs:List Value}(h:DenS r ts vs)(l:List Nat):DenS r (keepS ts l) vs:=by
 refine ⟨h.1,fun i=>?_⟩
 unfold keepS
 rw [slOf_get]
 cases hf:(l.map fun i=>(i,nrmV (nth ts i))).find? fun x=>x.1==i with
 |none=>exact .u _
 |some x =>
  have h1:=List.find?_some hf
  obtain ⟨j,_,rfl⟩:=List.mem_map.1 (List.mem_of_find?_eq_some hf)
  simp only [beq_iff_eq] at h1
  subst h1
  exact nrmV_ok (h.2 j)
theorem hpOf_get(l:List (Nat×Option HB))(i:Nat):(hpOf l).get i=((l.find? fun x=>x.1==i).map (·.2)).getD none:=by
 induction l with
 |nil=>rw [hpOf,List.foldr_nil,Tre.get_e];rfl
 |cons x l ih =>
  have e:hpOf (x::l)=(hpOf l).set x.2 x.1:=rfl
  rw [e,Tre.get_set]
  by_cases hi:i=x.1
  ·subst hi;simp
  ·have:(x.1==i)=false:=beq_eq_false_iff_ne.2 fun h=>hi h.symm
   rw [if_neg hi,ih,List.find?_cons,this]
theorem keepH_get{hp:Tr}{l:List Nat}{n:Nat}{b:HB}(h:(keepH hp l).get n=some b):∃b0,hp.get n=some b0∧b=nrmH b0:=by
 unfold keepH at h
 rw [hpOf_get] at h
 cases hf:(l.map fun n=>(n,nrmB (hp.get n))).find? fun x=>x.1==n with
 |none=>rw [hf] at h;cases h
 |some x =>
  rw [hf] at h
  have h1:=List.find?_some hf
  obtain ⟨j,_,rfl⟩:=List.mem_map.1 (List.mem_of_find?_eq_some hf)
  simp only [beq_iff_eq] at h1
  subst h1
  simp only [Option.map_some,Option.getD_some] at h
  unfold nrmB at h
  split at h
  ·rename_i b0 hb;cases h;exact ⟨b0,hb,rfl⟩
  ·cases h
variable {E:Env}{hp:Tr}{nx:Nat}{w:World}
theorem nrmH_8{b:HB}(h8:b.k=8):nrmH b=b:=by
 obtain ⟨T,cs,k⟩:=b
 simp only at h8
 subst h8
 rfl
theorem nrmH_ok{E:Env}{L:Loc}{b:HB}{w:World}(h:BlkOk E r L b w):BlkOk E r L (nrmH b) w:=by
 obtain ⟨vs,hd,hk⟩:=h
 by_cases h8:b.k=8
 ·rw [nrmH_8 h8]
  exact ⟨vs,hd,hk⟩
 ·have e:nrmH b=⟨b.T,nrm b.cs,b.k⟩:=by unfold nrmH;rw [show Nat.beq b.k 8=false from by rw [beq_iff];simpa using h8];rfl
  rw [e]
  refine ⟨vs,nrm_ok hd,?_⟩
  rcases hk with h|h|⟨h1,h2,h3,h4⟩
  ·exact .inl h
  ·exact .inr (.inl h)
  ·exact .inr (.inr ⟨h1,h2,h3,h4.1,h4.2.1,h4.2.2.1,fun h=>absurd h h8⟩)
theorem keepH_ok(h:Mem E r hp nx w)(l:List Nat):Mem E r (keepH hp l) nx w:=by
 refine ⟨h.len,fun n b hb=>?_,fun n m b c L M hb hc hne hk hL hM k hc1 hc2=>?_,h.below,h.fz,fun n b L hb hk hL k hcv=>?_,h.up,fun n b L hb h2 h5 hL=>?_,h.rlt,h.glob⟩
 ·obtain ⟨b0,h0,rfl⟩:=keepH_get hb
  obtain ⟨L,hL,hk⟩:=h.blk n b0 h0
  exact ⟨L,hL,nrmH_ok hk⟩
 ·obtain ⟨b0,h0,rfl⟩:=keepH_get hb
  obtain ⟨c0,h1,rfl⟩:=keepH_get hc
  exact h.sep n m b0 c0 L M h0 h1 hne hk hL hM k hc1 hc2
 ·obtain ⟨b0,h0,rfl⟩:=keepH_get hb
  exact h.far n b0 L h0 hk hL k hcv
 ·obtain ⟨b0,h0,rfl⟩:=keepH_get hb
  exact h.old n b0 L h0 h2 h5 hL
theorem weak_ok{r0:List Loc}{Q0:Post}{p:Pos}(ls lh:List Nat)(h:Xp E r0 Q0 (weak ls lh p)):Xp E r0 Q0 p :=
 fun r vs w Q hr hs hm hk=>h r vs w Q hr (keepS_ok hs ls) (keepH_ok hm lh) hk
end
inductive Dir where
 |l|r|b|t|e|o (n:Nat)
def nav:List Dir→Code→List KI→Hd×List KI
 |[],c,k=>(.code c,k)
 | .l::d,.seq a b,k=>nav d a (.code b::k)
 | .r::d,.seq _ b,k=>nav d b k
 | .b::d,.block i c,k=>nav d c (.blk i::k)
 | .b::d,.loop c,k=>nav d c (.loop c::k)
 | .t::d,.cond _ a _,k=>nav d a k
 | .e::d,.cond _ _ b,k=>nav d b k
 | .o n::_,.region _ ops _,k=>(.ops ops (ops.toList.drop n),k)
 |_,c,k=>(.code c,k)
noncomputable def posAt(g:FuncId)(d:List Dir)(ss:List (Nat×SV))(hh:List (Nat×Option HB))(nx:Nat):Pos:=match entryS Xt.P g with
 |some (fn,c)=>⟨(nav d c []).1,(nav d c []).2,⟨slOf ss fn.ntmps,hpOf hh,nx⟩⟩
 |none=>⟨.done .normal,[],⟨⟨.e,0⟩,.e,0⟩⟩
end Go.Proofs.YtjboelhcieepkaaGreatDoor
namespace Go.Proofs.YtjboelhcieepkaaGreatDoor
set_option maxRecDepth 16384
open Go.RowKit
noncomputable def idx(ns:List Nat)(n:Nat):Option Nat:=List.rec (motive:=fun _=>Nat→Option Nat) (fun _=>none) (fun m _ ih j=>Bool.rec (ih (Nat.succ j)) (some j) (Nat.beq m n)) ns 0
noncomputable def idxF(n:Nat)(ns:List Nat):Nat→Option Nat:=List.rec (motive:=fun _=>Nat→Option Nat) (fun _=>none) (fun m _ ih j=>Bool.rec (ih (Nat.succ j)) (some j) (Nat.beq m n)) ns
theorem idxF_ok(n:Nat):∀(ns:List Nat) (j i:Nat),idxF n ns j=some i→j≤i∧ns[i-j]?=some n
 |[],_,_,h=>by cases h
 |m::ns,j,i,h=>by
  have h':(Bool.rec (idxF n ns (j+1)) (some j) (Nat.beq m n):Option Nat)=some i:=h
  rw [beq_iff] at h'
  by_cases e:m=n
  ·subst e
   simp only [decide_true,Option.some.injEq] at h'
   subst h'
   simp
  ·simp only [e,decide_false] at h'
   obtain ⟨h1,h2⟩:=idxF_ok n ns (j+1) i h'
   refine ⟨by omega,?_⟩
   rw [show i-j=i-(j+1)+1 by omega]
   simpa using h2
theorem idx_ok{ns:List Nat}{n i:Nat}(h:idx ns n=some i):ns[i]?=some n:=by
 have:=(idxF_ok n ns 0 i h).2
 simpa using this
noncomputable def onO(o:Option Nat)(f:Nat→SV):SV:=match o with
 |some m=>f m
 |none=>.u
noncomputable def ren0(ns:List Nat)(x:SV):SV:=match x with
 | .v y=>.v y
 | .p n o=>onO (idx ns n) fun m=>.p m o
 | .s n o l c=>onO (idx ns n) fun m=>.s m o l c
 | .w n l=>onO (idx ns n) fun m=>.w m l
 | .gs n l=>onO (idx ns n) fun m=>.gs m l
 | .y n=>onO (idx ns n) fun m=>.y m
 | .b y=>.b y
 |_=>.u
noncomputable def ren1(ns:List Nat)(x:SV):SV:=match x with
 | .f fn a b=>.f fn (a.map (ren0 ns)) (b.map (ren0 ns))
 | .i t y=>.i t (ren0 ns y)
 |x=>ren0 ns x
noncomputable def renP(ns:List Nat)(c:Rp SV):Rp SV:=Rp.rec (motive:=fun _=>Rp SV) .nil (fun x=>.one (ren1 ns x)) (fun k n l=>.arr k n l) (fun s t _ _ a b=>.node s t a b) (fun a=>.q a) c
noncomputable def ren2(ns:List Nat)(x:SV):SV:=match x with
 | .a c=>.a (renP ns c)
 | .t l=>.t (l.map (ren1 ns))
 |x=>ren1 ns x
noncomputable def upN(B N:Nat):Nat:=Bool.rec N B (Nat.ble N B)
theorem le_upN(B N:Nat):N≤upN B N:=by
 have e:upN B N=(Bool.rec N B (Nat.ble N B):Nat):=rfl
 rw [e,ble_iff]
 by_cases h:N≤B<;>simp [h]
noncomputable def upC(B:Nat)(c:Rp SV):Rp SV:=match c with
 | .q (.gh t N l)=>.q (.gh t (upN B N) l)
 |c=>c
noncomputable def renH(ns:List Nat)(B:Nat)(b:HB):HB:=⟨b.T,bif Nat.beq b.k 8 then upC B b.cs else renP ns b.cs,b.k⟩
noncomputable def renB(ns:List Nat)(B:Nat):Option HB→Option HB
 |some b=>some (renH ns B b)
 |none=>none
noncomputable def renL(ns:List Nat)(B:Nat)(hp:Tr)(l:List Nat)(j:Nat):List (Nat×Option HB):=List.rec (motive:=fun _=>Nat→List (Nat×Option HB)) (fun _=>[]) (fun n _ ih j=>(j,match idx ns n with
 |some i=>bif Nat.beq i j then renB ns B (hp.get n) else none
 |none=>none)::ih (Nat.succ j)) l j
noncomputable def renS(ts:Sl)(ns:List Nat)(l:List Nat):Sl:=slOf (l.map fun i=>(i,ren2 ns (nth ts i))) ts.n
noncomputable def renum(ls ns:List Nat)(B:Nat)(p:Pos):Pos:=⟨p.h,p.k,⟨renS p.st.ts ns ls,hpOf (renL ns B p.st.hp ns 0),ns.length⟩⟩
def loc0:Loc:=⟨0,0,0,none,fun _=>False⟩
def renR(r:List Loc)(ns:List Nat):List Loc:=ns.map fun n=>(r[n]?).getD loc0
section
variable {r:List Loc}{ns:List Nat}
theorem renR_get{n i:Nat}{L:Loc}(h:idx ns n=some i)(hL:r[n]?=some L):(renR r ns)[i]?=some L:=by
 unfold renR
 rw [List.getElem?_map,idx_ok h]
 simp [hL]
theorem onO_ok{o:Option Nat}{f:Nat→SV}{v:Value}{r':List Loc}(h:∀m,o=some m→Den r' (f m) v):Den r' (onO o f) v:=by
 cases o with
 |none=>exact .u v
 |some m=>exact h m rfl
theorem ren0_ok{x:SV}{v:Value}(h:Den r x v):Den (renR r ns) (ren0 ns x) v:=by
 cases h with
 |v=>exact .v _
 |p hL=>exact onO_ok fun m hm=>.p (renR_get hm hL)
 |s hL=>exact onO_ok fun m hm=>.s (renR_get hm hL)
 |w hL hl=>exact onO_ok fun m hm=>.w (renR_get hm hL) hl
 |gs hL hl=>exact onO_ok fun m hm=>.gs (renR_get hm hL) hl
 |y hL=>exact onO_ok fun m hm=>.y (renR_get hm hL)
 |b=>exact .b _
 |a=>exact .u _
 |t=>exact .u _
 |f=>exact .u _
 |i=>exact .u _
 |u=>exact .u _
theorem ren0L_ok:∀{xs:List SV} {vs:List Value},DenL r xs vs→DenL (renR r ns) (xs.map (ren0 ns)) vs
 |[],_,h=>by cases h;exact .nil
 |_::_,_,h=>by cases h with|cons h t=>exact .cons (ren0_ok h) (ren0L_ok t)
theorem ren1_ok{x:SV}{v:Value}(h:Den r x v):Den (renR r ns) (ren1 ns x) v:=by
 unfold ren1
 split
 ·cases h with|f ha hb=>exact .f (ren0L_ok ha) (ren0L_ok hb)
 ·cases h with|i h=>exact .i (ren0_ok h)
 ·exact ren0_ok h
theorem ren1L_ok:∀{xs:List SV} {vs:List Value},DenL r xs vs→DenL (renR r ns) (xs.map (ren1 ns)) vs
 |[],_,h=>by cases h;exact .nil
 |_::_,_,h=>by cases h with|cons h t=>exact .cons (ren1_ok h) (ren1L_ok t)
theorem renP_ok:∀{c:Rp SV} {us:List Value},DenC r c us→DenC (renR r ns) (renP ns c) us
 | .nil,_,h=>by cases h;exact .nil
 | .one x,_,h=>by cases h with|one h h1=>exact .one (ren1_ok h) h1
 | .arr ..,_,h=>by cases h with|arr h=>exact .arr h
 | .q a,_,h=>by cases h;exact .q a
 | .node ..,_,h=>by cases h with|node ha hb hs ht=>exact .node (renP_ok ha) (renP_ok hb) hs ht
theorem ren2_ok{x:SV}{v:Value}(h:Den r x v):Den (renR r ns) (ren2 ns x) v:=by
 unfold ren2
 split
 ·cases h with|a h=>exact .a (renP_ok h)
 ·cases h with|t h=>exact .t (ren1L_ok h)
 ·exact ren1_ok h
theorem renS_ok{ts:Sl}{vs:List Value}(h:DenS r ts vs)(l:List Nat):DenS (renR r ns) (renS ts ns l) vs:=by
 refine ⟨h.1,fun i=>?_⟩
 unfold renS
 rw [slOf_get]
 cases hf:(l.map fun i=>(i,ren2 ns (nth ts i))).find? fun x=>x.1==i with
 |none=>exact .u _
 |some x =>
  have h1:=List.find?_some hf
  obtain ⟨j,_,rfl⟩:=List.mem_map.1 (List.mem_of_find?_eq_some hf)
  simp only [beq_iff_eq] at h1
  subst h1
  exact ren2_ok (h.2 j)
theorem renL_mem{B:Nat}{hp:Tr}:∀{l:List Nat} {j:Nat} {x:Nat×Option HB} {b:HB},x∈renL ns B hp l j→x.2=some b→∃n b0,idx ns n=some x.1∧hp.get n=some b0∧b=renH ns B b0
 |[],_,_,_,h,_=>by simp [renL] at h
 |n::l,j,x,b,h,hb=>by
  have e:renL ns B hp (n::l) j=(j,match idx ns n with
   |some i=>bif Nat.beq i j then renB ns B (hp.get n) else none
   |none=>none)::renL ns B hp l (j+1):=rfl
  rw [e,List.mem_cons] at h
  rcases h with rfl|h
  ·simp only at hb
   split at hb
   ·rename_i i hi
    rw [beq_iff] at hb
    by_cases hij:i=j
    ·subst hij
     simp only [decide_true,cond_true] at hb
     unfold renB at hb
     split at hb
     ·rename_i b0 h0
      cases hb
      exact ⟨n,b0,hi,h0,rfl⟩
     ·cases hb
    ·simp [hij] at hb
   ·cases hb
  ·exact renL_mem h hb
theorem renG{B:Nat}{hp:Tr}{l:List Nat}{m:Nat}{b:HB}(h:(hpOf (renL ns B hp l 0)).get m=some b):∃n b0,idx ns n=some m∧hp.get n=some b0∧b=renH ns B b0:=by
 rw [hpOf_get] at h
 cases hf:(renL ns B hp l 0).find? fun x=>x.1==m with
 |none=>rw [hf] at h;cases h
 |some x =>
  rw [hf] at h
  have h1:=List.find?_some hf
  simp only [beq_iff_eq] at h1
  subst h1
  exact renL_mem (List.mem_of_find?_eq_some hf) h
variable {E:Env}{hp:Tr}{nx:Nat}{w:World}
theorem renH_ok{L:Loc}{b:HB}(B:Nat)(h:BlkOk E r L b w):BlkOk E (renR r ns) L (renH ns B b) w:=by
 obtain ⟨vs,hd,hk⟩:=h
 by_cases h8:b.k=8
 ·rcases hk with ⟨h,_⟩|⟨h,_⟩|⟨h1,h2,h3,h4,h5,h6,h7⟩
  ·omega
  ·omega
  ·obtain ⟨t,N,l,e,h9,h10⟩:=h7 h8
   obtain ⟨T,cs,k⟩:=b
   simp only at e h8
   subst e h8
   have e2:renH ns B ⟨T,.q (.gh t N l),8⟩=⟨T,.q (.gh t (upN B N) l),8⟩:=rfl
   rw [e2]
   refine ⟨[],.q (.gh t (upN B N) l),.inr (.inr ⟨h1,h2,fun j v hv=>by simp at hv,fun h=>absurd h (by show ¬ 8=5;omega),fun h=>absurd h (by show ¬ 8=6;omega),h6,fun _=>⟨t,_,l,rfl,h9,E.X.ghm _ _ _ _ _ _ _ (le_upN B N) h10⟩⟩)⟩
 ·have e:renH ns B b=⟨b.T,renP ns b.cs,b.k⟩:=by unfold renH;rw [show Nat.beq b.k 8=false from by rw [beq_iff];simpa using h8];rfl
  rw [e]
  refine ⟨vs,renP_ok hd,?_⟩
  rcases hk with h|h|⟨h1,h2,h3,h4⟩
  ·exact .inl h
  ·exact .inr (.inl h)
  ·exact .inr (.inr ⟨h1,h2,h3,h4.1,h4.2.1,h4.2.2.1,fun h=>absurd h h8⟩)
theorem renM(h:Mem E r hp nx w)(B:Nat):Mem E (renR r ns) (hpOf (renL ns B hp ns 0)) ns.length w:=by
 have back:∀{n m:Nat} {b:HB} {L:Loc},idx ns n=some m→hp.get n=some b→(renR r ns)[m]?=some L→r[n]?=some L:=by
  intro n m b L hi hb hL
  obtain ⟨L',h1,_⟩:=h.blk n b hb
  rw [renR_get hi h1] at hL
  cases hL
  exact h1
 refine ⟨by simp [renR],fun m b hb=>?_,fun m m' b c L M hb hc hne hk hL hM k hc1 hc2=>?_,h.below,h.fz,fun m b L hb hk hL k hcv=>?_,h.up,fun m b L hb h2 h5 hL=>?_,h.rlt,h.glob⟩
 ·obtain ⟨n,b0,hi,h0,rfl⟩:=renG hb
  obtain ⟨L,hL,hk⟩:=h.blk n b0 h0
  exact ⟨L,renR_get hi hL,renH_ok B hk⟩
 ·obtain ⟨n,b0,hi,h0,rfl⟩:=renG hb
  obtain ⟨n',c0,hi',h0',rfl⟩:=renG hc
  exact h.sep n n' b0 c0 L M h0 h0' (fun e=>hne (by subst e;rw [hi] at hi';exact Option.some.inj hi')) hk (back hi h0 hL) (back hi' h0' hM) k hc1 hc2
 ·obtain ⟨n,b0,hi,h0,rfl⟩:=renG hb
  exact h.far n b0 L h0 hk (back hi h0 hL) k hcv
 ·obtain ⟨n,b0,hi,h0,rfl⟩:=renG hb
  exact h.old n b0 L h0 h2 h5 (back hi h0 hL)
end
def plainK:List KI→Bool
 |[]=>true
 | .code _::k=>plainK k
 | .blk _::k=>plainK k
 | .loop _::k=>plainK k
 |_=>false
theorem plainK_md:∀{k:List KI},plainK k=true→mdOf k=none∧dsOf k=[]
 |[],_=>⟨rfl,rfl⟩
 | .code _::k,h=>plainK_md (k:=k) h
 | .blk _::k,h=>plainK_md (k:=k) h
 | .loop _::k,h=>plainK_md (k:=k) h
 | .frm ..::_,h=>by cases h
 | .ds ..::_,h=>by cases h
 | .rng ..::_,h=>by cases h
 | .rbeg ..::_,h=>by cases h
 | .rend ..::_,h=>by cases h
theorem plainK_fr{k:List KI}(h:plainK k=true)(r:List Loc):frOf r k=none∧dfOf r k=[]:=by
 obtain ⟨h1,h2⟩:=plainK_md h
 exact ⟨by simp [frOf,h1],by simp [dfOf,h2]⟩
theorem plainK_ok{P:Program}{r r':List Loc}{Q0:Post}:∀{k:List KI} {Q:Post},plainK k=true→KOk P r k Q0 Q→KOk P r' k Q0 Q
 |[],_,_,h=>h
 | .code _::k,_,hp,⟨Q',h,e⟩=>⟨Q',plainK_ok (k:=k) hp h,by rw [e,(plainK_fr (k:=k) hp r).1,(plainK_fr (k:=k) hp r').1]⟩
 | .blk _::k,_,hp,⟨Q',h,e⟩=>⟨Q',plainK_ok (k:=k) hp h,e⟩
 | .loop _::k,_,hp,⟨Q',h,e⟩=>⟨Q',plainK_ok (k:=k) hp h,by rw [e,(plainK_fr (k:=k) hp r).1,(plainK_fr (k:=k) hp r').1]⟩
 | .frm ..::_,_,h,_=>by cases h
 | .ds ..::_,_,h,_=>by cases h
 | .rng ..::_,_,h,_=>by cases h
 | .rbeg ..::_,_,h,_=>by cases h
 | .rend ..::_,_,h,_=>by cases h
theorem renum_ok{E:Env}{Q0:Post}{p:Pos}(ls ns:List Nat)(B:Nat)(hk:plainK p.k=true)(h:Xp E [] Q0 (renum ls ns B p)):Xp E [] Q0 p:=by
 intro r vs w Q _ hs hm hq
 have:=h (renR r ns) vs w Q ⟨_,rfl⟩ (renS_ok hs ls) (renM hm B) (plainK_ok hk hq)
 obtain ⟨h1,h2⟩:=plainK_fr hk r
 obtain ⟨h3,h4⟩:=plainK_fr hk (renR r ns)
 have e:HdOk (frOf (renR r ns) p.k) (dfOf (renR r ns) p.k) E.X.P p.h Q vs w:=this
 rw [h1,h2]
 rwa [h3,h4] at e
end Go.Proofs.YtjboelhcieepkaaGreatDoor
namespace Go.Proofs.YtjboelhcieepkaaGreatDoor
set_option maxRecDepth 16384
open Go.RowKit
inductive Ev where
 |b (x:Bool)
 |g (x:Bool)
 |c (ns:List Nat) (res:Nat→SV) (new:List HB)
 |k (n:Nat) (c:Rp SV) (adv:Bool)
inductive Ob where
 |t (e x:Bool)
 |c (g:FuncId) (args:List SV) (ns:List Nat) (bs:List (Option HB)) (nx:Nat) (res:SV) (new:List HB)
 |r (c c':Rp SV)
 |bad
structure Stp where
 c:List Nat
 g:List Nat
 d:Nat
noncomputable def memB(t:Nat)(l:List Nat):Bool:=List.rec (motive:=fun _=>Bool) false (fun x _ ih=>Bool.rec ih true (Nat.beq t x)) l
noncomputable def deepK(k:List KI):Nat:=List.rec (motive:=fun _=>Nat) 0 (fun i _ ih=>match i with
 | .frm _ _ _ _ _=>Nat.succ ih
 |_=>ih) k
noncomputable def stopC(S:Stp)(k:List KI)(c:Code):Bool:=match c with
 | .cond (.tmp t) _ _=>memB t S.c&&Nat.beq (deepK k) S.d
 |_=>false
noncomputable def stopO(S:Stp)(k:List KI)(l:List Oper):Bool:=match l with
 |o::_=>(match o.dst with
  |some d=>memB d S.g&&Nat.beq (deepK k) S.d
  |none=>false)
 |[]=>false
noncomputable def stopQ(S:Stp)(p:Pos):Bool:=Pos.rec (motive:=fun _=>Bool) (fun h k _=>Hd.rec (motive:=fun _=>Bool) (stopC S k) (fun _ l=>List.rec (motive:=fun _=>Bool) false (fun _ _ _=>stopO S k l) S.g) (fun _=>false) h) p
inductive Rn where
 |go (p:Pos)
 |st (p:Pos)
def Rn.pos:Rn→Pos
 | .go p=>p
 | .st p=>p
noncomputable def onRn(q:Pos):Rn:=Pos.rec (motive:=fun _=>Rn) (fun h k st=>Hd.rec (motive:=fun _=>Rn) (fun c=>.go ⟨.code c,k,st⟩) (fun o l=>.go ⟨.ops o l,k,st⟩) (fun e=>.st ⟨.done e,k,st⟩) h) q
noncomputable def st1(H:Hk)(X:Ctx)(p:Pos):Rn:=Option.rec (motive:=fun _=>Rn) (.st p) onRn (stepW H X p)
noncomputable def st0(S:Stp)(H:Hk)(X:Ctx)(p:Pos):Rn:=Bool.rec (motive:=fun _=>Rn) (st1 H X p) (.st p) (stopQ S p)
noncomputable def thenR(f:Pos→Rn)(r:Rn):Rn:=Rn.rec (motive:=fun _=>Rn) f (fun p=>.st p) r
noncomputable def runRn(S:Stp)(H:Hk)(X:Ctx)(n:Nat):Pos→Rn:=Nat.rec (motive:=fun _=>Pos→Rn) (st0 S H X) (fun _ ih p=>thenR ih (ih p)) n
noncomputable def runE(S:Stp)(H:Hk)(X:Ctx)(n:Nat)(p:Pos):Pos:=(runRn S H X n p).pos
noncomputable def putAll(hp:Tr)(nx:Nat)(l:List HB):Tr×Nat:=List.rec (motive:=fun _=>Tr→Nat→Tr×Nat) (fun hp nx=>(hp,nx)) (fun b _ ih hp nx=>ih (hp.put nx b) (Nat.succ nx)) l hp nx
noncomputable def evTest(x:Bool)(c:Operand)(a b:Code)(p:Pos):Pos×Ob:=match ev p.st.ts c with
 | .v (.bool e)=>(⟨.code (bif x then a else b),p.k,p.st⟩,.t e x)
 |_=>(p,.bad)
noncomputable def evGuard(H:Hk)(X:Ctx)(x:Bool)(ops:Array Oper)(o:Oper)(p:Pos):Pos×Ob:=match o.guard with
 |some (j,_)=>(match ops[j]? with
  |some o2=>(match o2.dst with
   |some d=>(match nth p.st.ts d with
    | .v (.bool e)=>((st1 H X ⟨p.h,p.k,⟨setN p.st.ts d (.v (.bool x)),p.st.hp,p.st.nx⟩⟩).pos,.t e x)
    |_=>(p,.bad))
   |none=>(p,.bad))
  |none=>(p,.bad))
 |none=>(p,.bad)
noncomputable def evCallP(ns:List Nat)(res:Nat→SV)(new:List HB)(ops:Array Oper)(o:Oper)(rest:List Oper)(p:Pos):Pos×Ob:=match guardS ops p.st.ts o.guard with
 |some true=>(match o.op with
  | .call c=>(match c.callee with
   | .value f=>(match ev p.st.ts f with
    | .f (.func g) a b=>(⟨.ops ops rest,p.k,⟨putS p.st.ts o.dst (res p.st.nx),(putAll p.st.hp p.st.nx new).1,(putAll p.st.hp p.st.nx new).2⟩⟩,.c g ((a++(c.args.toList.map (ev p.st.ts)++b)).map nrmV) ns (ns.map fun n=>nrmB (p.st.hp.get n)) p.st.nx (res p.st.nx) new)
    |_=>(p,.bad))
   |_=>(p,.bad))
  |_=>(p,.bad))
 |_=>(p,.bad)
noncomputable def evRow(H:Hk)(X:Ctx)(n:Nat)(c:Rp SV)(adv:Bool)(p:Pos):Pos×Ob:=match p.st.hp.get n with
 |some b=>bif Nat.beq b.k 8 then (p,.bad) else (bif adv then (st1 H X ⟨p.h,p.k,⟨p.st.ts,p.st.hp.put n ⟨b.T,c,b.k⟩,p.st.nx⟩⟩).pos else ⟨p.h,p.k,⟨p.st.ts,p.st.hp.put n ⟨b.T,c,b.k⟩,p.st.nx⟩⟩,.r (nrm b.cs) c)
 |none=>(p,.bad)
noncomputable def evStep(H:Hk)(X:Ctx)(e:Ev)(p:Pos):Pos×Ob:=match e,p.h with
 | .b x,.code (.cond c a b)=>evTest x c a b p
 | .g x,.ops ops (o::_)=>evGuard H X x ops o p
 | .c ns res new,.ops ops (o::rest)=>evCallP ns res new ops o rest p
 | .k n c adv,_=>evRow H X n c adv p
 |_,_=>(p,.bad)
noncomputable def evK(x:Pos×Ob)(f:Pos→Pos×List Ob):Pos×List Ob:=((f x.1).1,x.2::(f x.1).2)
noncomputable def evRun(S:Stp)(H:Hk)(X:Ctx)(n:Nat)(es:List Ev):Pos→Pos×List Ob:=List.rec (motive:=fun _=>Pos→Pos×List Ob) (fun p=>(runE S H X n p,[])) (fun e _ ih p=>evK (evStep H X e (runE S H X n p)) ih) es
def CallOb(E:Env)(g:FuncId)(args:List SV)(ns:List Nat)(bs:List (Option HB))(nx:Nat)(res:SV)(new:List HB):Prop :=
 ∀(r:List Loc) (vals:List Value) (w:World) (hp:Tr),DenL r args vals→Mem E r hp nx w→(ns.map fun n=>nrmB (hp.get n))=bs →
  (∀w',(callFunc g vals.toArray).run E.X.P w'=.ok (.enter g vals.toArray) w')∧Calls E.X.P g vals.toArray w fun e w'=>∃q v,e=.returned v∧Den (r++q) res v∧Mem E (r++q) (putAll hp nx new).1 (putAll hp nx new).2 w'
def Ob.Holds(E:Env):Ob→Prop
 | .t e x=>e=x
 | .c g args ns bs nx res new=>CallOb E g args ns bs nx res new
 | .r x y=>∀r us,DenC r x us→DenC r y us
 | .bad=>False
theorem setN_same{r:List Loc}{ts:Sl}{vs:List Value}{d:Tmp}{v:Value}(h:DenS r ts vs)(hd:nth ts d=.v v):DenS r (setN ts d (.v v)) vs:=by
 have h1:=h.2 d
 rw [hd] at h1
 have h2:=DenS.set d h (.v v)
 generalize hu:vs.getD d undef=u at h1
 cases h1
 have:vs.set d v=vs:=by
  apply List.ext_getElem?
  intro i
  by_cases hi:d=i
  ·subst hi
   by_cases hl:d<vs.length
   ·rw [List.getElem?_set_self hl]
    rw [List.getD_eq_getElem?_getD,List.getElem?_eq_getElem hl] at hu
    rw [List.getElem?_eq_getElem hl]
    simpa using hu.symm
   ·rw [List.getElem?_eq_none (by simpa using hl),List.getElem?_eq_none (by simpa using hl)]
  ·rw [List.getElem?_set_ne hi]
 rwa [this] at h2
theorem nrmVL_ok{r:List Loc}:∀{xs:List SV} {vs:List Value},DenL r xs vs→DenL r (xs.map nrmV) vs
 |[],_,h=>by cases h;exact .nil
 |_::_,_,h=>by cases h with|cons h t=>exact .cons (nrmV_ok h) (nrmVL_ok t)
theorem Mem.recast{E:Env}{r:List Loc}{hp:Tr}{nx:Nat}{w:World}(h:Mem E r hp nx w){n:Nat}{b:HB}(hb:hp.get n=some b)(h8:b.k≠8)(c:Rp SV)(hc:∀us,DenC r (nrm b.cs) us→DenC r c us):Mem E r (hp.put n ⟨b.T,c,b.k⟩) nx w:=by
 have key:∀{m:Nat} {x:HB},(hp.put n ⟨b.T,c,b.k⟩).get m=some x→∃y,hp.get m=some y∧y.k=x.k∧(x.k=8→y=x)∧∀L,BlkOk E r L y w→BlkOk E r L x w:=by
  intro m x hx
  rw [Tre.get_put] at hx
  by_cases e:m=n
  ·subst e
   rw [if_pos rfl] at hx
   cases hx
   refine ⟨b,hb,rfl,fun h=>absurd h h8,fun L hL=>?_⟩
   obtain ⟨vs,hd,hk⟩:=hL
   refine ⟨vs,hc _ (nrm_ok hd),?_⟩
   rcases hk with h|h|⟨h1,h2,h3,h4⟩
   ·exact .inl h
   ·exact .inr (.inl h)
   ·exact .inr (.inr ⟨h1,h2,h3,h4.1,h4.2.1,h4.2.2.1,fun h=>absurd h h8⟩)
  ·rw [if_neg e] at hx
   exact ⟨x,hx,rfl,fun _=>rfl,fun _ h=>h⟩
 have cov:∀{x y:HB} {L:Loc} {k:Nat},y.k=x.k→Cov x L k→Cov y L k:=fun hk hc=>hc.elim .inl fun h=>.inr ⟨hk.trans h.1,h.2⟩
 refine ⟨h.len,fun m x hx=>?_,fun m1 m2 x1 x2 L M h1 h2 hne hk hL hM k c1 c2=>?_,h.below,h.fz,fun m x L hx hk hL k hcv=>?_,h.up,fun m x L hx h2 h5 hL=>?_,h.rlt,h.glob⟩
 ·obtain ⟨y,hy,_,_,ho⟩:=key hx
  obtain ⟨L,hL,hB⟩:=h.blk m y hy
  exact ⟨L,hL,ho L hB⟩
 ·obtain ⟨y1,hy1,e1,_,_⟩:=key h1
  obtain ⟨y2,hy2,e2,_,_⟩:=key h2
  exact h.sep m1 m2 y1 y2 L M hy1 hy2 hne (by rw [e1];exact hk) hL hM k (cov e1 c1) (cov e2 c2)
 ·obtain ⟨y,hy,e,_,_⟩:=key hx
  exact h.far m y L hy (by rw [e];exact hk) hL k (cov e hcv)
 ·obtain ⟨y,hy,e,_,_⟩:=key hx
  exact h.old m y L hy (by rw [e];exact h2) (by rw [e];exact h5) hL
section
variable {E:Env}{Q0:Post}{r0:List Loc}
theorem evTest_ok{x:Bool}{c:Operand}{a b:Code}{p:Pos}(h0:CollOk E.X.P Q0)(hp:p.h=.code (.cond c a b))(ho:(evTest x c a b p).2.Holds E)(hx:Xp E r0 Q0 (evTest x c a b p).1):Xp E r0 Q0 p:=by
 revert ho hx
 unfold evTest
 split
 ·rename_i e he
  intro ho hx
  obtain rfl:e=x:=ho
  refine step_ok h0 (q:=⟨.code (bif e then a else b),p.k,p.st⟩) ?_ hx
  unfold step
  rw [hp]
  simp only [he]
  cases e<;>rfl
 ·intro ho;exact ho.elim
theorem onRn_pos(q:Pos):(onRn q).pos=q:=by
 obtain ⟨h,k,st⟩:=q
 cases h<;>rfl
theorem st1_ok{H:Hk}(hmx:E.X.P.follows .mixedOrders=true)(hH:HkOk E.X H)(h0:CollOk E.X.P Q0){p:Pos}(h:Xp E r0 Q0 (st1 H E.X p).pos):Xp E r0 Q0 p:=by
 have h':Xp E r0 Q0 (Option.rec (motive:=fun _=>Rn) (.st p) onRn (stepW H E.X p):Rn).pos:=h
 cases hq:stepW H E.X p with
 |none=>rw [hq] at h';exact h'
 |some q =>
  rw [hq] at h'
  have h2:Xp E r0 Q0 (onRn q).pos:=h'
  rw [onRn_pos] at h2
  exact stepW_ok hmx hH h0 hq h2
theorem runRn_ok{S:Stp}{H:Hk}(hmx:E.X.P.follows .mixedOrders=true)(hH:HkOk E.X H)(h0:CollOk E.X.P Q0):∀(n:Nat) {p:Pos},Xp E r0 Q0 (runE S H E.X n p)→Xp E r0 Q0 p
 |0,p,h=>by
  have h':Xp E r0 Q0 (Bool.rec (motive:=fun _=>Rn) (st1 H E.X p) (.st p) (stopQ S p):Rn).pos:=h
  cases hq:stopQ S p with
  |false=>rw [hq] at h';exact st1_ok hmx hH h0 h'
  |true=>rw [hq] at h';exact h'
 |n+1,p,h=>by
  have h':Xp E r0 Q0 (thenR (runRn S H E.X n) (runRn S H E.X n p)).pos:=h
  cases hq:runRn S H E.X n p with
  |go q =>
   rw [hq] at h'
   have h2:Xp E r0 Q0 (runE S H E.X n q):=h'
   refine runRn_ok (S:=S) hmx hH h0 n (p:=p) ?_
   unfold runE
   rw [hq]
   exact runRn_ok (S:=S) hmx hH h0 n h2
  |st q =>
   rw [hq] at h'
   refine runRn_ok (S:=S) hmx hH h0 n (p:=p) ?_
   unfold runE
   rw [hq]
   exact h'
theorem evGuard_ok{H:Hk}{x:Bool}{ops:Array Oper}{o:Oper}{p:Pos}(hmx:E.X.P.follows .mixedOrders=true)(hH:HkOk E.X H)(h0:CollOk E.X.P Q0)(ho:(evGuard H E.X x ops o p).2.Holds E)(hx:Xp E r0 Q0 (evGuard H E.X x ops o p).1):Xp E r0 Q0 p:=by
 revert ho hx
 unfold evGuard
 split
 ·split
  ·split
   ·split
    ·rename_i d _ e he
     intro ho hx
     obtain rfl:e=x:=ho
     intro r vs w Q hr hs hm hk
     exact st1_ok hmx hH h0 hx r vs w Q hr (setN_same hs he) hm hk
    ·intro ho;exact ho.elim
   ·intro ho;exact ho.elim
  ·intro ho;exact ho.elim
 ·intro ho;exact ho.elim
theorem call_wp{r:List Loc}{ts:Sl}{vs:List Value}{df:List Deferred}{w:World}{o:Oper}{c:Call}{f:Operand}{g:FuncId}{a b:List SV}{K:Act→World→Prop}{Q:Post}(ho:o.op=.call c)(hcal:c.callee=.value f)(e1:ev ts f=.f (.func g) a b)(hs:DenS r ts vs)
 (hc:∀vals,DenL r (a++(c.args.toList.map (ev ts)++b)) vals→(∀w',(callFunc g vals.toArray).run E.X.P w'=.ok (.enter g vals.toArray) w')∧Calls E.X.P g vals.toArray w fun e w'=>∃v,e=.returned v∧K ⟨(putL vs o.dst v).toArray,df⟩ w'):o.wp E.X.P ⟨vs.toArray,df⟩ w K Q:=by
 have h1:=Den.ev (df:=df) hs f
 rw [e1] at h1
 generalize hfv:Act.eval ⟨vs.toArray,df⟩ f=fv at h1
 cases h1 with
 |@f _ _ _ av bv ha hb2 =>
  have hargs:=DenL.map_ev (r:=r) (ts:=ts) (vs:=vs) (df:=df) (Den.ev hs) c.args.toList
  obtain ⟨hent,hcc⟩:=hc _ (DenL.app ha (DenL.app hargs hb2))
  have e2:(av.toArray++c.args.map (Act.eval ⟨vs.toArray,df⟩)++bv.toArray)=(av++(c.args.toList.map (Act.eval ⟨vs.toArray,df⟩)++bv)).toArray:=by apply Array.toList_inj.1;simp
  have hrun:(execOp (Act.eval ⟨vs.toArray,df⟩) o).run E.X.P w=.ok (.enter g (av++(c.args.toList.map (Act.eval ⟨vs.toArray,df⟩)++bv)).toArray) w:=by
   simp only [execOp,ho,resolve,hcal,hfv,Deferred.ofValue,Sem.run_bind,Sem.run_pure,Result.andThen_ok,invoke,e2,hent w]
  unfold Oper.wp
  rw [hrun]
  refine hcc.mono fun e w' ⟨v,he,hk⟩=>?_
  subst he
  rw [←put_putL] at hk
  exact hk
theorem evCallP_ok{ns:List Nat}{res:Nat→SV}{new:List HB}{ops:Array Oper}{o:Oper}{rest:List Oper}{p:Pos}(hp:p.h=.ops ops (o::rest))(ho:(evCallP ns res new ops o rest p).2.Holds E)(hx:Xp E r0 Q0 (evCallP ns res new ops o rest p).1):Xp E r0 Q0 p:=by
 revert ho hx
 unfold evCallP
 split
 ·rename_i hg
  split
  ·rename_i c hc
   split
   ·rename_i f hf
    split
    ·rename_i g a b he
     intro ho hx r vs w Q hr hs hm hk
     rw [hp]
     refine WI_loud (by unfold noDefer;rw [hc]) (guardS_ok hs hg) ?_
     refine call_wp hc hf he hs fun vals hv=>?_
     obtain ⟨h1,h2⟩:=ho r vals w _ (nrmVL_ok hv) hm rfl
     refine ⟨h1,h2.mono fun e w' ⟨s,v,h3,h4,h5⟩=>⟨v,h3,?_⟩⟩
     have:=hx (r++s) _ w' Q (ext hr s) (DenS.putS (hs.mono s) h4 o.dst) h5 (hk.mono s)
     simp only [HdOk,(hk.same s).1,(hk.same s).2] at this
     exact this
    ·intro ho;exact ho.elim
   ·intro ho;exact ho.elim
  ·intro ho;exact ho.elim
 ·intro ho;exact ho.elim
theorem evRow_ok{H:Hk}{n:Nat}{c:Rp SV}{adv:Bool}{p:Pos}(hmx:E.X.P.follows .mixedOrders=true)(hH:HkOk E.X H)(h0:CollOk E.X.P Q0)(ho:(evRow H E.X n c adv p).2.Holds E)(hx:Xp E r0 Q0 (evRow H E.X n c adv p).1):Xp E r0 Q0 p:=by
 revert ho hx
 unfold evRow
 split
 ·rename_i b hb
  cases h8:Nat.beq b.k 8 with
  |true=>intro ho;exact ho.elim
  |false =>
   simp only [cond_false]
   rw [beq_iff,decide_eq_false_iff_not] at h8
   intro ho hx
   intro r vs w Q hr hs hm hk
   have hm2:=hm.recast hb h8 c (fun us=>ho r us)
   cases adv with
   |true=>exact st1_ok hmx hH h0 hx r vs w Q hr hs hm2 hk
   |false=>exact hx r vs w Q hr hs hm2 hk
 ·intro ho;exact ho.elim
theorem evStep_ok{H:Hk}{e:Ev}{p:Pos}(hmx:E.X.P.follows .mixedOrders=true)(hH:HkOk E.X H)(h0:CollOk E.X.P Q0)(ho:(evStep H E.X e p).2.Holds E)(hx:Xp E r0 Q0 (evStep H E.X e p).1):Xp E r0 Q0 p:=by
 revert ho hx
 unfold evStep
 split
 ·rename_i hp;exact fun ho hx=>evTest_ok h0 hp ho hx
 ·exact fun ho hx=>evGuard_ok hmx hH h0 ho hx
 ·rename_i hp;exact fun ho hx=>evCallP_ok hp ho hx
 ·exact fun ho hx=>evRow_ok hmx hH h0 ho hx
 ·intro ho;exact ho.elim
theorem evRun_ok{S:Stp}{H:Hk}(hmx:E.X.P.follows .mixedOrders=true)(hH:HkOk E.X H)(h0:CollOk E.X.P Q0)(n:Nat):∀(es:List Ev) {p:Pos},(∀ob∈(evRun S H E.X n es p).2,ob.Holds E)→Xp E r0 Q0 (evRun S H E.X n es p).1→Xp E r0 Q0 p
 |[],p,_,h=>runRn_ok (S:=S) hmx hH h0 n h
 |e::es,p,ho,h=>by
  have e1:evRun S H E.X n (e::es) p=evK (evStep H E.X e (runE S H E.X n p)) (evRun S H E.X n es):=rfl
  rw [e1] at ho h
  unfold evK at ho h
  exact runRn_ok (S:=S) hmx hH h0 n (evStep_ok hmx hH h0 (ho _ (by simp)) (evRun_ok hmx hH h0 n es (fun ob hob=>ho ob (by simp [hob])) h))
end
noncomputable def evPos(X:Ctx)(g:FuncId)(args:List SV)(hp:Tr)(nx:Nat):Pos:=match entryS X.P g with
 |some (fn,c)=>⟨.code c,[],⟨frame args fn.ntmps,hp,nx⟩⟩
 |none=>⟨.done .normal,[],⟨⟨.e,0⟩,.e,0⟩⟩
noncomputable def finP(X:Ctx)(g:FuncId)(p:Pos):Option (SV×St):=match entryS X.P g with
 |some (fn,_)=>finS X fn p
 |none=>none
theorem evCall_ok{E:Env}{r:List Loc}{vals:List Value}{w:World}{hp:Tr}{nx:Nat}{S:Stp}{H:Hk}{n:Nat}{es:List Ev}{g:FuncId}{args:List SV}{res:SV}{st:St}(hmx:E.X.P.follows .mixedOrders=true)(hH:HkOk E.X H)(h:finP E.X g (evRun S H E.X n es (evPos E.X g args hp nx)).1=some (res,st))
 (ho:∀ob∈(evRun S H E.X n es (evPos E.X g args hp nx)).2,ob.Holds E) (ha:DenL r args vals) (hm:Mem E r hp nx w) :
 Calls E.X.P g vals.toArray w fun e w'=>∃q v,e=.returned v∧Den (r++q) res v∧Mem E (r++q) st.hp st.nx w':=by
 unfold finP at h
 unfold evPos at h ho
 cases hent:entryS E.X.P g with
 |none=>rw [hent] at h;cases h
 |some x =>
  obtain ⟨fn,c⟩:=x
  rw [hent] at h ho
  exact calls_of_X2 (k:=[]) hent ⟨[],by simp⟩ ha hm rfl rfl rfl (evRun_ok hmx hH collOk_body n es ho (finS_ok h))
noncomputable def stopL:Leaf:=fun _ _ _=>none
theorem stopL_ok(X:Ctx)(g:FuncId):LeafOk X g stopL:=fun _ _ _ _ _ h=>by cases h
noncomputable def stops(l:List FuncId)(t:List (FuncId×Leaf)):List (FuncId×Leaf):=l.map (fun g=>(g,stopL))++t
theorem stops_ok{X:Ctx}{l:List FuncId}{t:List (FuncId×Leaf)}(h:∀p∈t,LeafOk X p.1 p.2):∀p∈stops l t,LeafOk X p.1 p.2:=by
 intro p hp
 rcases List.mem_append.1 hp with hp|hp
 ·obtain ⟨g,_,rfl⟩:=List.mem_map.1 hp
  exact stopL_ok X g
 ·exact h p hp
end Go.Proofs.YtjboelhcieepkaaGreatDoor
namespace Go.Proofs.YtjboelhcieepkaaGreatDoor.Gf
set_option maxRecDepth 16384
def invT:Nat:=3566776863222250792575350504665046155069508327501453217101429430621730038043584053371660509702620055860081156466022285956586373576971909210171343659649552507176508005971567067637526818336653057460235767741581454534757369738530565771380035673162616129401273381134793422969875859516904113580246491480877823305346558232134899738800022074717406919707935282309554844169982325935665249148669134080917255765422589041374844979786301241750162074905253618853420688398165348773793897399659421930346683507413494886767272566548764049417490863269423193139537759588741825434151586758978267398985919305201935175793127681620251050240
def subT:Nat:=2869618975290639062594974519597816386035077209210385677284518162336985023502962151465775969507961862820568736543004676439868535775640188584098917533413284844376797297285941524888791401501466624530423689326528054213168201056672989590893583853414110162539122864583953358348775951166211353578440977400428507475679327181038682772945817200201960445064847785221508011893952350688324234443749897213621340677040612747745615276448919507935121141307752692835344166708617454322778699219895865633266409040561742768581056182730443599545881830075941537620590442514083341749674612746994879540562701631131184186066652929592955206755
def xt(a:Nat):Nat:=(a*2%256) ^^^ (a / 128*27)
def itx(a:Nat):Nat→Nat
 |0=>a
 |k+1=>xt (itx a k)
def gmk(a b:Nat):Nat→Nat
 |0=>0
 |k+1=>if b.testBit k then gmk a b k ^^^ itx a k else gmk a b k
def gm(a b:Nat):Nat:=gmk a b 8
theorem xor4(a b c d:Nat):(a ^^^ b) ^^^ (c ^^^ d)=(a ^^^ c) ^^^ (b ^^^ d):=by
 rw [Nat.xor_assoc,Nat.xor_assoc];congr 1
 rw [←Nat.xor_assoc,←Nat.xor_assoc,Nat.xor_comm b c]
theorem mul27(x y:Nat)(hx:x<2)(hy:y<2):(x ^^^ y)*27=(x*27) ^^^ (y*27):=by
 have:x=0∨x=1:=by omega
 have:y=0∨y=1:=by omega
 rcases ‹x=0∨x=1› with rfl|rfl<;>rcases ‹y=0∨y=1› with rfl|rfl<;>rfl
theorem xt_lt(a:Nat)(ha:a<256):xt a<256:=by
 unfold xt
 have h1:a*2%256<2 ^ 8:=Nat.mod_lt _ (by omega)
 have h2:a / 128*27<2 ^ 8:=by omega
 exact Nat.xor_lt_two_pow h1 h2
theorem xt_xor(a b:Nat)(ha:a<256)(hb:b<256):xt (a ^^^ b)=xt a ^^^ xt b:=by
 unfold xt
 have e1:(a ^^^ b)*2%256=(a*2%256) ^^^ (b*2%256):=by
  have h:=@Nat.shiftLeft_xor_distrib 1 a b
  simp only [Nat.shiftLeft_eq] at h
  rw [show (a ^^^ b)*2=(a ^^^ b)*2 ^ 1 from rfl,h]
  exact Nat.xor_mod_two_pow (n:=8)
 have e2:(a ^^^ b) / 128*27=(a / 128*27) ^^^ (b / 128*27):=by
  rw [show (128:Nat)=2 ^ 7 from rfl,Nat.xor_div_two_pow]
  exact mul27 _ _ (by omega) (by omega)
 rw [e1,e2,xor4]
theorem xor_lt(a b:Nat)(ha:a<256)(hb:b<256):a ^^^ b<256:=Nat.xor_lt_two_pow (n:=8) ha hb
theorem itx_lt(a k:Nat)(ha:a<256):itx a k<256:=by
 induction k with
 |zero=>exact ha
 |succ k ih=>exact xt_lt _ ih
theorem itx_xor(a b k:Nat)(ha:a<256)(hb:b<256):itx (a ^^^ b) k=itx a k ^^^ itx b k:=by
 induction k with
 |zero=>rfl
 |succ k ih=>simp only [itx];rw [ih,xt_xor _ _ (itx_lt _ _ ha) (itx_lt _ _ hb)]
theorem gmk_lt(a b k:Nat)(ha:a<256):gmk a b k<256:=by
 induction k with
 |zero=>simp [gmk]
 |succ k ih =>
  simp only [gmk];split
  ·exact xor_lt _ _ ih (itx_lt _ _ ha)
  ·exact ih
theorem gm_lt(a b:Nat)(ha:a<256):gm a b<256:=gmk_lt a b 8 ha
theorem gmk_left(a b c k:Nat)(ha:a<256)(hb:b<256):gmk (a ^^^ b) c k=gmk a c k ^^^ gmk b c k:=by
 induction k with
 |zero=>simp [gmk]
 |succ k ih =>
  simp only [gmk];split
  ·rw [ih,itx_xor _ _ _ ha hb,xor4]
  ·exact ih
theorem gm_left(a b c:Nat)(ha:a<256)(hb:b<256):gm (a ^^^ b) c=gm a c ^^^ gm b c:=gmk_left a b c 8 ha hb
theorem gmk_right(a b c k:Nat):gmk a (b ^^^ c) k=gmk a b k ^^^ gmk a c k:=by
 induction k with
 |zero=>simp [gmk]
 |succ k ih =>
  simp only [gmk,Nat.testBit_xor,ih]
  cases b.testBit k<;>cases c.testBit k<;>simp
  ·rw [Nat.xor_assoc]
  ·rw [Nat.xor_assoc,Nat.xor_comm (gmk a c k),Nat.xor_assoc]
  ·rw [show gmk a b k ^^^ itx a k ^^^ (gmk a c k ^^^ itx a k)=(gmk a b k ^^^ gmk a c k) ^^^ (itx a k ^^^ itx a k) from xor4 _ _ _ _,Nat.xor_self,Nat.xor_zero]
theorem gm_right(a b c:Nat):gm a (b ^^^ c)=gm a b ^^^ gm a c:=gmk_right a b c 8
theorem lin_ext(f g:Nat→Nat)(hf:∀a b,a<256→b<256→f (a ^^^ b)=f a ^^^ f b)(hg:∀a b,a<256→b<256→g (a ^^^ b)=g a ^^^ g b)
 (h:∀i,i<8→f (2 ^ i)=g (2 ^ i)) (a:Nat) (ha:a<256):f a=g a:=by
 have h0:f 0=g 0:=by
  have h1:=hf 0 0 (by omega) (by omega);have h2:=hg 0 0 (by omega) (by omega)
  simp at h1 h2;rw [h1,h2]
 have key:∀n,n≤8→∀a,a<2 ^ n→f a=g a:=by
  intro n
  induction n with
  |zero=>intro _ a ha;obtain rfl:a=0:=by simpa using ha
         exact h0
  |succ n ih =>
   intro hn a ha
   by_cases hlt:a<2 ^ n
   ·exact ih (by omega) a hlt
   ·have hp:2 ^ (n+1)=2 ^ n+2 ^ n:=by rw [Nat.pow_succ];omega
    have hb:2 ^ n≤2 ^ 7:=Nat.pow_le_pow_right (by omega) (by omega)
    have e:a=2 ^ n ^^^ (a-2 ^ n):=by
     have hlt':a-2 ^ n<2 ^ n:=by omega
     have:=Nat.two_pow_add_eq_or_of_lt (i:=n) hlt' 1
     apply Nat.eq_of_testBit_eq
     intro i
     have e2:a=2 ^ n+(a-2 ^ n):=by omega
     rw [Nat.testBit_xor,Nat.testBit_two_pow]
     by_cases hi:n=i
     ·subst hi
      have:(a-2 ^ n).testBit n=false:=Nat.testBit_lt_two_pow hlt'
      rw [this];rw [e2,Nat.testBit_two_pow_add_eq,this];simp
     ·rw [e2]
      simp only [hi,decide_false,Bool.false_xor]
      rw [show 2 ^ n+(a-2 ^ n)-2 ^ n=a-2 ^ n from by omega]
      have e3:2 ^ n+(a-2 ^ n)=2 ^ n ||| (a-2 ^ n):=by simpa using this
      rw [e3,Nat.testBit_or,Nat.testBit_two_pow];simp [hi]
    rw [e,hf _ _ (by omega) (by omega),hg _ _ (by omega) (by omega),h n (by omega),ih (by omega) _ (by omega)]
 exact key 8 (by omega) a ha
theorem bilin_ext(f g:Nat→Nat→Nat)
 (f1:∀a b c,a<256→b<256→c<256→f (a ^^^ b) c=f a c ^^^ f b c) (f2:∀a b c,a<256→b<256→c<256→f a (b ^^^ c)=f a b ^^^ f a c)
 (g1:∀a b c,a<256→b<256→c<256→g (a ^^^ b) c=g a c ^^^ g b c) (g2:∀a b c,a<256→b<256→c<256→g a (b ^^^ c)=g a b ^^^ g a c)
 (h:∀i,i<8→∀j,j<8→f (2 ^ i) (2 ^ j)=g (2 ^ i) (2 ^ j)) (a b:Nat) (ha:a<256) (hb:b<256):f a b=g a b:=by
 refine lin_ext (fun a=>f a b) (fun a=>g a b) (fun x y hx hy=>f1 x y b hx hy hb) (fun x y hx hy=>g1 x y b hx hy hb) (fun i hi=>?_) a ha
 have hp:(2:Nat) ^ i<256:=by have:=Nat.pow_le_pow_right (n:=2) (by omega) (show i≤7 by omega);omega
 exact lin_ext (fun b=>f (2 ^ i) b) (fun b=>g (2 ^ i) b) (fun x y hx hy=>f2 _ x y hp hx hy) (fun x y hx hy=>g2 _ x y hp hx hy) (fun j hj=>h i hi j hj) b hb
theorem gm_comm(a b:Nat)(ha:a<256)(hb:b<256):gm a b=gm b a :=
 bilin_ext gm (fun a b=>gm b a) (fun a b c ha hb _=>gm_left a b c ha hb) (fun a b c _ _ _=>gm_right a b c) (fun a b c _ _ _=>gm_right c a b) (fun a b c _ hb hc=>gm_left b c a hb hc)
  (by decide +kernel) a b ha hb
theorem gm_assoc(a b c:Nat)(ha:a<256)(hb:b<256)(hc:c<256):gm (gm a b) c=gm a (gm b c):=by
 have pw:∀i,i<8→(2:Nat) ^ i<256:=fun i hi=>by have:=Nat.pow_le_pow_right (n:=2) (by omega) (show i≤7 by omega);omega
 refine lin_ext (fun a=>gm (gm a b) c) (fun a=>gm a (gm b c))
  (fun x y hx hy=>by simp only [gm_left x y b hx hy,gm_left _ _ c (gm_lt x b hx) (gm_lt y b hy)]) (fun x y hx hy=>gm_left x y _ hx hy) (fun i hi=>?_) a ha
 refine bilin_ext (fun b c=>gm (gm (2 ^ i) b) c) (fun b c=>gm (2 ^ i) (gm b c))
  (fun x y z hx hy _=>by simp only [gm_right,gm_left _ _ z (gm_lt _ x (pw i hi)) (gm_lt _ y (pw i hi))]) (fun x y z _ _ _=>by simp only [gm_right])
  (fun x y z hx hy _=>by simp only [gm_left x y z hx hy,gm_right]) (fun x y z _ _ _=>by simp only [gm_right]) (fun j hj k hk=>?_) b c hb hc
 revert k j i
 decide +kernel
theorem gm_one(a:Nat)(ha:a<256):gm a 1=a :=
 lin_ext (fun a=>gm a 1) (fun a=>a) (fun x y hx hy=>gm_left x y 1 hx hy) (fun _ _ _ _=>rfl) (by decide +kernel) a ha
theorem gm_zero_left(b:Nat):gm 0 b=0:=by
 have h:=gm_left 0 0 b (by omega) (by omega)
 simpa using h
theorem gm_zero_right(a:Nat):gm a 0=0:=by
 have h:=gm_right a 0 0
 simpa using h
theorem one_gm(a:Nat)(ha:a<256):gm 1 a=a:=by rw [gm_comm 1 a (by omega) ha,gm_one a ha]
def pw(a:Nat):Nat→Nat
 |0=>1
 |k+1=>gm (pw a k) a
theorem pw_lt(a k:Nat)(_:a<256):pw a k<256:=by
 induction k with
 |zero=>simp [pw]
 |succ k ih=>exact gm_lt _ _ ih
theorem pw_one(a:Nat)(ha:a<256):pw a 1=a:=by simp only [pw];exact one_gm a ha
theorem pw_add(a m n:Nat)(ha:a<256):pw a (m+n)=gm (pw a m) (pw a n):=by
 induction n with
 |zero=>simp only [pw,Nat.add_zero];exact (gm_one _ (pw_lt a m ha)).symm
 |succ n ih =>
  show gm (pw a (m+n)) a=gm (pw a m) (gm (pw a n) a)
  rw [ih,gm_assoc _ _ _ (pw_lt a m ha) (pw_lt a n ha) ha]
theorem pw_gm(a k:Nat)(ha:a<256):pw (gm a a) k=pw a (2*k):=by
 induction k with
 |zero=>rfl
 |succ k ih =>
  show gm (pw (gm a a) k) (gm a a)=gm (gm (pw a (2*k)) a) a
  rw [ih,gm_assoc _ _ _ (pw_lt a _ ha) ha ha]
theorem sq_odd(o a k:Nat)(ho:o<256)(ha:a<256)(hk:k%2=1):gm (gm o a) (pw (gm a a) (k / 2))=gm o (pw a k):=by
 rw [pw_gm a _ ha,gm_assoc o a _ ho ha (pw_lt a _ ha)]
 congr 1
 have e:k=1+2*(k / 2):=by omega
 conv=>rhs;rw [e,pw_add a 1 _ ha,pw_one a ha]
theorem sq_even(o a k:Nat)(ha:a<256)(hk:k%2=0):gm o (pw (gm a a) (k / 2))=gm o (pw a k):=by
 rw [pw_gm a _ ha];congr 2;omega
def inv(a:Nat):Nat:=(invT >>> (8*a))%256
theorem inv_lt(a:Nat):inv a<256:=Nat.mod_lt _ (by omega)
theorem gm_inv(a:Nat)(h0:a≠0)(ha:a<256):gm a (inv a)=1:=by
 have h:∀a,a<256→(a==0 || gm a (inv a)==1)=true:=by decide +kernel
 have:=h a ha
 simp [h0] at this;exact this
theorem gm_cancel(a b:Nat)(h0:a≠0)(ha:a<256)(hb:b<256):gm (gm b a) (inv a)=b:=by
 rw [gm_assoc _ _ _ hb ha (inv_lt a),gm_inv a h0 ha,gm_one b hb]
theorem inv_uniq(a b:Nat)(ha:a<256)(hb:b<256)(h:gm a b=1):b=inv a:=by
 have h0:a≠0:=by rintro rfl;rw [gm_zero_left] at h;omega
 have e:=gm_cancel a b h0 ha hb
 rw [gm_comm b a hb ha,h,one_gm _ (inv_lt a)] at e
 exact e.symm
theorem sq_lin(a b:Nat)(ha:a<256)(hb:b<256):gm (a ^^^ b) (a ^^^ b)=gm a a ^^^ gm b b:=by
 rw [gm_left a b _ ha hb,gm_right,gm_right,gm_comm b a hb ha,Nat.xor_assoc,←Nat.xor_assoc (gm a b),Nat.xor_self,Nat.zero_xor]
def sqs(a:Nat):Nat→Nat
 |0=>a
 |k+1=>gm (sqs a k) (sqs a k)
theorem sqs_lt(a k:Nat)(ha:a<256):sqs a k<256:=by
 cases k with
 |zero=>exact ha
 |succ k=>exact gm_lt _ _ (sqs_lt a k ha)
theorem sqs_lin(k a b:Nat)(ha:a<256)(hb:b<256):sqs (a ^^^ b) k=sqs a k ^^^ sqs b k:=by
 induction k with
 |zero=>rfl
 |succ k ih=>simp only [sqs];rw [ih,sq_lin _ _ (sqs_lt a k ha) (sqs_lt b k hb)]
theorem sqs_pw(a k:Nat)(ha:a<256):sqs a k=pw a (2 ^ k):=by
 induction k with
 |zero=>exact (pw_one a ha).symm
 |succ k ih=>simp only [sqs];rw [ih,←pw_add a _ _ ha];congr 1;rw [Nat.pow_succ];omega
theorem pw_256(a:Nat)(ha:a<256):pw a 256=a:=by
 have h:sqs a 8=a:=lin_ext (fun a=>sqs a 8) (fun a=>a) (sqs_lin 8) (fun _ _ _ _=>rfl) (by decide +kernel) a ha
 rw [sqs_pw a 8 ha] at h;exact h
theorem pw_255(a:Nat)(h0:a≠0)(ha:a<256):pw a 255=1:=by
 have h:gm (pw a 255) a=a:=pw_256 a ha
 have e:=gm_cancel a (pw a 255) h0 ha (pw_lt a _ ha)
 rw [h,gm_inv a h0 ha] at e
 exact e.symm
theorem pw_254(a:Nat)(h0:a≠0)(ha:a<256):pw a 254=inv a:=by
 refine inv_uniq a _ ha (pw_lt a _ ha) ?_
 rw [gm_comm a _ ha (pw_lt a _ ha)]
 exact pw_255 a h0 ha
theorem pw_mod(a:Nat)(h0:a≠0)(ha:a<256)(n:Nat):pw a (n%255)=pw a n:=by
 have h:∀q r,pw a (255*q+r)=pw a r:=by
  intro q r
  induction q with
  |zero=>simp
  |succ q ih =>
   rw [show 255*(q+1)+r=255+(255*q+r) from by omega,pw_add a _ _ ha,pw_255 a h0 ha,one_gm _ (pw_lt a _ ha),ih]
 conv=>rhs;rw [←Nat.div_add_mod n 255]
 rw [h]
def powZ(a:Nat)(n:Int):Nat:=if a=0 then (if n=0 then 1 else 0) else pw a (n%255).toNat
theorem powZ_inv(a:Nat)(ha:a<256):powZ a 254=inv a:=by
 unfold powZ;split
 ·rename_i h;subst h;rfl
 ·exact pw_254 a ‹_› ha
theorem powZ_nat(a k:Nat)(ha:a<256):powZ a (k:Int)=pw a k:=by
 unfold powZ;split
 ·rename_i h;subst h
  cases k with
  |zero=>rfl
  |succ k=>rw [if_neg (by omega)];simp only [pw];rw [gm_zero_right]
 ·rw [show ((k:Int)%255).toNat=k%255 from by omega,pw_mod a ‹_› ha]
def rotl8(b i:Nat):Nat:=(b <<< i)%256 ||| b >>> (8-i)
def aff(b:Nat):Nat:=(b ^^^ rotl8 b 1 ^^^ rotl8 b 2 ^^^ rotl8 b 3 ^^^ rotl8 b 4) ^^^ 99
def sub(a:Nat):Nat:=(subT >>> (8*a))%256
theorem sub_lt(a:Nat):sub a<256:=Nat.mod_lt _ (by omega)
theorem sub_eq:∀a,a<256→aff (inv a)=sub a:=by decide +kernel
def cf(a b:Nat):Nat→Nat→Bool
 |0=>fun _=>false
 |t+1=>fun m=>if m=t / 8+t%8 then (cf a b t m) ^^ (a.testBit (t / 8)&&b.testBit (t%8)) else cf a b t m
def rdI(q:Nat→Bool)(i:Nat):Nat→Bool:=fun m=>if m=i-4∨m=i-5∨m=i-7∨m=i-8 then q m ^^ q i else q m
def rd(p:Nat→Bool):Nat→Nat→Bool
 |0=>p
 |s+1=>rdI (rd p s) (14-s)
def outN(p:Nat→Bool):Nat→Nat
 |0=>0
 |j+1=>2*outN p j+(p (7-j)).toNat
def rm(a b:Nat):Nat:=outN (rd (cf a b 64) 7) 8
theorem two_xor(x y:Nat)(b c:Bool):(2*x+b.toNat) ^^^ (2*y+c.toNat)=2*(x ^^^ y)+(b ^^ c).toNat:=by
 apply Nat.eq_of_testBit_eq
 intro i
 rw [Nat.testBit_xor]
 cases i with
 |zero=>cases b<;>cases c<;>simp<;>omega
 |succ i =>
  rw [Nat.testBit_succ,Nat.testBit_succ,Nat.testBit_succ]
  have e (x:Nat) (b:Bool):(2*x+b.toNat) / 2=x:=by cases b<;>simp<;>omega
  rw [e,e,e,Nat.testBit_xor]
theorem outN_xor(p q:Nat→Bool)(j:Nat):outN (fun m=>p m ^^ q m) j=outN p j ^^^ outN q j:=by
 induction j with
 |zero=>simp [outN]
 |succ j ih=>simp only [outN];rw [ih,two_xor]
theorem xor_swap(a b c d:Bool):((a ^^ b) ^^ (c ^^ d))=((a ^^ c) ^^ (b ^^ d)):=by cases a<;>cases b<;>cases c<;>cases d<;>rfl
theorem rd_xor(p q:Nat→Bool)(s:Nat):rd (fun m=>p m ^^ q m) s=fun m=>rd p s m ^^ rd q s m:=by
 induction s with
 |zero=>rfl
 |succ s ih =>
  funext m
  simp only [rd,rdI,ih]
  split
  ·rw [xor_swap]
  ·rfl
theorem cf_left(a b c t:Nat):cf (a ^^^ b) c t=fun m=>cf a c t m ^^ cf b c t m:=by
 induction t with
 |zero=>funext m;rfl
 |succ t ih =>
  funext m
  simp only [cf,ih,Nat.testBit_xor]
  split
  ·rw [xor_swap];congr 1
   cases a.testBit (t / 8)<;>cases b.testBit (t / 8)<;>cases c.testBit (t%8)<;>rfl
  ·rfl
theorem cf_right(a b c t:Nat):cf a (b ^^^ c) t=fun m=>cf a b t m ^^ cf a c t m:=by
 induction t with
 |zero=>funext m;rfl
 |succ t ih =>
  funext m
  simp only [cf,ih,Nat.testBit_xor]
  split
  ·rw [xor_swap];congr 1
   cases a.testBit (t / 8)<;>cases b.testBit (t%8)<;>cases c.testBit (t%8)<;>rfl
  ·rfl
theorem rm_eq(a b:Nat)(ha:a<256)(hb:b<256):rm a b=gm a b :=
 bilin_ext rm gm (fun a b c _ _ _=>by unfold rm;rw [cf_left,rd_xor,outN_xor]) (fun a b c _ _ _=>by unfold rm;rw [cf_right,rd_xor,outN_xor])
  (fun a b c ha hb _=>gm_left a b c ha hb) (fun a b c _ _ _=>gm_right a b c) (by decide +kernel) a b ha hb
def exT:Nat:=247704880781559356684414323119999879637317647180040216102211349143305888774923398537951341803642731683984666991564019150676315804531779449815159115664189418245566988781254625896260912026622159780553349108386186142268315007856282091988200171439146255715840100601167723801170608095743514940052926055042184507632911811387723359914440662207451538163404716729158929845121383729837235901114109841630616474463024741216292666125260571984924724184385554713500007113061044175325657975136216706165622836048350080632971744177780693200859426168487707538171671676645432511882666690861394815764438377708986394032816479809277592321
def lgT:Nat:=939374623831894136699086600277250597547650664638770418422125146541797353646788332867483593573384618611044815625336497665827114626705134492515730415652478061620339993830966980270842846318821775850471098591710629241171812800746666233448222972174585295916389942636813666312872914849454985560152530477328703759683306625234997237483834721220409437442253146756845415190424543171129629468776480674528486868811725071010351012234056630775688111116293610821126543142160426617079940511630006820862697466582575257349116925728488930366609138264019883664906661504235885380294353134295748489096855100647154935187045898006656778240
def ex(k:Nat):Nat:=(exT >>> (8*k))%256
def lg(x:Nat):Nat:=(lgT >>> (8*x))%256
theorem ex_lt(k:Nat):ex k<256:=Nat.mod_lt _ (by omega)
theorem ex_zero:ex 0=1:=by decide +kernel
theorem ex_succ:∀k,k<255→ex (k+1)=xt (ex k) ^^^ ex k:=by decide +kernel
theorem ex_lg:∀x,x<256→x≠0→ex (lg x)=x:=by decide +kernel
theorem lg_lt:∀x,x<256→lg x<255:=by decide +kernel
theorem xt_three:∀p,p<256→gm p 3=xt p ^^^ p:=by decide +kernel
theorem xt_twice:∀p,p<256→(if 255<2*p then (2*p) ^^^ 283 else 2*p)%256=xt p:=by decide +kernel
theorem pw_ex(k:Nat)(hk:k≤255):pw 3 k=ex k:=by
 induction k with
 |zero=>exact ex_zero.symm
 |succ k ih =>
  show gm (pw 3 k) 3=_
  rw [ih (by omega),xt_three _ (ex_lt k),ex_succ k (by omega)]
theorem ex_inv(k:Nat)(hk:k≤255):ex (255-k)=inv (ex k):=by
 refine inv_uniq _ _ (ex_lt k) (ex_lt _) ?_
 rw [←pw_ex k hk,←pw_ex (255-k) (by omega),←pw_add 3 _ _ (by omega),show k+(255-k)=255 from by omega]
 exact pw_255 3 (by omega) (by omega)
end Go.Proofs.YtjboelhcieepkaaGreatDoor.Gf
namespace Go.Proofs.YtjboelhcieepkaaGreatDoor
set_option maxRecDepth 16384
open Go.RowKit
theorem bit_test(b k:Nat)(hb:b<256):(bits BinOp.and IntKind.u8 ((b:Int) / 2 ^ k) 1==1)=b.testBit k:=by
 have e:((b:Int) / 2 ^ k)=((b / 2 ^ k:Nat):Int):=by
  rw [Int.natCast_ediv,Int.natCast_pow];rfl
 have hlt:b / 2 ^ k<256:=Nat.lt_of_le_of_lt (Nat.div_le_self _ _) hb
 rw [e,show (1:Int)=((1:Nat):Int) from rfl,u8_and_nat _ _ hlt (by omega),nat_mask1,Nat.testBit_eq_decide_div_mod_eq]
 rw [Bool.eq_iff_iff];simp;omega
theorem dbl_eq(a:Nat)(ha:a<256):bits BinOp.xor IntKind.u8 ((a:Int)*2%256) ((a:Int) / 128*27)=((Gf.xt a:Nat):Int):=by
 rw [show ((a:Int)*2%256)=((a*2%256:Nat):Int) from by omega,show ((a:Int) / 128*27)=((a / 128*27:Nat):Int) from by omega,
  u8_xor_nat _ _ (by omega) (by omega)]
 rfl
set_option maxHeartbeats 400000 in
theorem dbl_any(a:Nat)(ha:a<256)(p:Addr)(w:World)(hc:w.cell? p=some (.int .u8 (a:Int)))(hf:w.frozen? p=false):
 Calls Tryz.prog 284 #[.pointer (some p)] w fun e w'=>e=.returned (.tuple #[])∧w'=w.setCell p (.int .u8 (Gf.xt a:Nat)):=by
 have h0:0≤(a:Int):=by omega
 have h1:(a:Int)≤255:=by omega
 go_enter Tryz.func284,Tryz.ntmps284
 go_wp2
 go_end0
 exact ⟨rfl,by rw [dbl_eq a ha]⟩
set_option maxHeartbeats 400000 in
theorem mul_nat(a b:Nat)(ha:a<256)(hb:b<256)(w:World):
 Calls Tryz.prog 273 #[.int .u8 (a:Int),.int .u8 (b:Int)] w fun e w'=>e=.returned (.int .u8 (Gf.gm a b:Nat))∧Below w.heap.size w w':=by
 have h0:0≤(b:Int):=by omega
 have h1:(b:Int)≤255:=by omega
 go_enter Tryz.func273,Tryz.ntmps273
 go_wp2
 go_loopw [5,9] (fun o i wr=>∃k:Nat,k≤8∧i=.int .i64 k∧o=.int .u8 (Gf.gmk a b k:Nat)∧wr=w.alloc (Obj.cells #[Value.int IntKind.u8 (Gf.itx a k:Nat)] 5)) (fun _ i _=>8-(intOf i).toNat)
 case atStart=>exact ⟨0,by omega,rfl,rfl,rfl⟩
 case round =>
  obtain ⟨k,hk,rfl,rfl,rfl⟩:=hrel
  have hb0:=Gf.itx_lt a k ha
  have hg0:=Gf.gmk_lt a b k ha
  by_cases hlt:k<8
  ·have ht:=bit_test b k hb
   cases hbit:b.testBit k
   all_goals
    rw [hbit] at ht
    have hm:=Lib.hid hbit
    clear hbit
    go_wp2_with (go_at_call 284;refine (dbl_any (Gf.itx a k) hb0 _ _ (by go_simp) (by go_simp)).mono ?_;rintro e w' ⟨rfl,rfl⟩)
    go_roundw
    case rel=>exact ⟨k+1,by omega,by go_num,by simp only [Gf.gmk,hm.out];first|rfl|(rw [u8_xor_nat _ _ hg0 hb0];rfl),by first|rfl|(go_simp;done)⟩
    case measure=>simp [intOf];omega
  ·obtain rfl:k=8:=by omega
   go_wp2
   go_ret
   exact ⟨rfl,(Below.refl _ _).alloc (Nat.le_refl _) _⟩
theorem mul_at(a b:Int)(c:Nat)(a0:0≤a)(a1:a≤255)(b0:0≤b)(b1:b≤255)(hc:Gf.gm a.toNat b.toNat=c)(w:World):
 Calls Tryz.prog 273 #[.int .u8 a,.int .u8 b] w fun e w'=>e=.returned (.int .u8 (c:Int))∧Below w.heap.size w w':=by
 obtain ⟨x,rfl⟩:=Int.eq_ofNat_of_zero_le a0
 obtain ⟨y,rfl⟩:=Int.eq_ofNat_of_zero_le b0
 rw [←hc]
 exact mul_nat x y (by omega) (by omega) w
end Go.Proofs.YtjboelhcieepkaaGreatDoor
namespace Go.Proofs.YtjboelhcieepkaaGreatDoor
set_option maxRecDepth 16384
open Go.RowKit
set_option maxHeartbeats 400000 in
theorem power_zero(n:Int)(w:World):
 Calls Tryz.prog 225 #[.int .u8 0,.int .i64 n] w fun e w'=>e=.returned (.int .u8 (Gf.powZ 0 n:Nat))∧Below w.heap.size w w':=by
 by_cases hn:n=0
 ·subst hn
  go_enter Tryz.func225,Tryz.ntmps225
  go_wp2
  go_step3
  go_wp2
  try rw [Exit.noGoto_ret]
  go_ret
  exact ⟨rfl,Below.refl _ _⟩
 ·have e:Gf.powZ 0 n=0:=by unfold Gf.powZ;rw [if_pos rfl,if_neg hn]
  have h0:(n==0)=false:=by simpa using hn
  rw [e]
  clear e hn
  go_enter Tryz.func225,Tryz.ntmps225
  go_wp2
  go_step3
  go_wp2
  try rw [Exit.noGoto_ret]
  go_ret
  exact ⟨rfl,Below.refl _ _⟩
set_option maxHeartbeats 400000 in
theorem power_some(a:Nat)(n:Int)(ha:a<256)(ha0:a≠0)(w:World):
 Calls Tryz.prog 225 #[.int .u8 (a:Int),.int .i64 n] w fun e w'=>e=.returned (.int .u8 (Gf.powZ a n:Nat))∧Below w.heap.size w w':=by
 have e:Gf.powZ a n=Gf.pw a (n%255).toNat:=by unfold Gf.powZ;rw [if_neg ha0]
 have h0:((a:Int)==0)=false:=by simp;omega
 rw [e]
 clear e
 have hdm:=Int.mul_tdiv_add_tmod n 255
 have hlo:-255<n.tmod 255:=Int.lt_tmod_of_pos n (by omega)
 have hhi:n.tmod 255<255:=Int.tmod_lt_of_pos n (by omega)
 obtain ⟨K,hK,hKb⟩:∃K:Nat,(n%255).toNat=K∧K<255:=⟨_,rfl,by omega⟩
 have hneg:n.tmod 255<0→n.tmod 255+255=(K:Int):=by omega
 have hpos:¬ n.tmod 255<0→n.tmod 255=(K:Int):=by omega
 rw [hK]
 clear hK hdm
 have hw':=Lib.hid hneg
 have hp':=Lib.hid hpos
 clear hneg hpos
 by_cases hk:n.tmod 255<0
 all_goals
  go_enter Tryz.func225,Tryz.ntmps225
  go_wp2
  go_step3
  go_wp2
  go_step3
  go_wp2
  first|rw [hw'.out (by omega)]|rw [hp'.out (by omega)]
  clear hw' hp' hk hlo hhi
  go_loopw [0,5,6] (fun s k o wr=>∃x y j:Nat,s=.int .u8 (x:Int)∧k=.int .i64 (j:Int)∧o=.int .u8 (y:Int)∧x<256∧y<256∧j<255∧Gf.gm y (Gf.pw x j)=Gf.pw a K∧Below w.heap.size w wr) (fun _ k _ _=>(intOf k).toNat)
  case atStart=>exact ⟨a,1,K,rfl,rfl,rfl,ha,by omega,hKb,Gf.one_gm _ (Gf.pw_lt a K ha),Below.refl _ _⟩
  case round =>
   obtain ⟨x,y,j,rfl,rfl,rfl,hx,hy,hj,hinv,hb⟩:=hrel
   have hinv':=Lib.hid hinv
   clear hinv
   by_cases hj0:j=0
   ·subst hj0
    go_wp2
    try rw [Exit.noGoto_ret]
    go_ret
    exact ⟨ret_int (by rw [←hinv'.out];simp only [Gf.pw];rw [Gf.gm_one y hy]),hb⟩
   ·have t0:((j:Int)==0)=false:=by simp;omega
    have hod:=i64_odd j (by omega)
    by_cases hodd:j%2=1
    ·have t1:(bits BinOp.and IntKind.i64 (j:Int) 1==1)=true:=by rw [hod,hodd];rfl
     have hi':Gf.gm (Gf.gm y x) (Gf.pw (Gf.gm x x) (j / 2))=Gf.pw a K:=by rw [Gf.sq_odd y x j hy hx hodd];exact hinv'.out
     have hi:=Lib.hid hi'
     have ho:=Lib.hid hodd
     clear hodd hod hi' hinv'
     go_wp2_with fail
     refine (mul_nat y x hy hx _).mono ?_
     rintro e w1 ⟨rfl,hb1⟩
     go_wp2_with fail
     refine (mul_nat x x hx hx _).mono ?_
     rintro e w2 ⟨rfl,hb2⟩
     go_wp2
     go_roundw
     case rel=>exact ⟨Gf.gm x x,Gf.gm y x,j / 2,rfl,by go_num,rfl,Gf.gm_lt _ _ hx,Gf.gm_lt _ _ hy,by omega,hi.out,(hb.trans (hb1.mono hb.size)).trans (hb2.mono (Nat.le_trans hb.size hb1.size))⟩
     case measure=>simp [intOf];omega
    ·have t1:(bits BinOp.and IntKind.i64 (j:Int) 1==1)=false:=by rw [hod];simp;omega
     have hi':Gf.gm y (Gf.pw (Gf.gm x x) (j / 2))=Gf.pw a K:=by rw [Gf.sq_even y x j hx (by omega)];exact hinv'.out
     have hi:=Lib.hid hi'
     clear hodd hod hi' hinv'
     go_wp2_with fail
     refine (mul_nat x x hx hx _).mono ?_
     rintro e w2 ⟨rfl,hb2⟩
     go_wp2
     go_roundw
     case rel=>exact ⟨Gf.gm x x,y,j / 2,rfl,by go_num,rfl,Gf.gm_lt _ _ hx,hy,by omega,hi.out,hb.trans (hb2.mono hb.size)⟩
     case measure=>simp [intOf];omega
theorem power_any(a n:Int)(c:Nat)(a0:0≤a)(a1:a≤255)(hc:Gf.powZ a.toNat n=c)(w:World):
 Calls Tryz.prog 225 #[.int .u8 a,.int .i64 n] w fun e w'=>e=.returned (.int .u8 (c:Int))∧Below w.heap.size w w':=by
 obtain ⟨x,rfl⟩:=Int.eq_ofNat_of_zero_le a0
 rw [←hc]
 by_cases h:x=0
 ·subst h;exact power_zero n w
 ·exact power_some x n (by omega) h w
set_option maxHeartbeats 400000 in
theorem inverse_any(a:Int)(c:Nat)(a0:0≤a)(a1:a≤255)(hc:Gf.inv a.toNat=c)(w:World):
 Calls Tryz.prog 271 #[.int .u8 a] w fun e w'=>e=.returned (.int .u8 (c:Int))∧Below w.heap.size w w':=by
 have hp:Gf.powZ a.toNat 254=c:=by rw [←hc];exact Gf.powZ_inv _ (by omega)
 have hp':=Lib.hid hp
 clear hp hc
 go_enter Tryz.func271,Tryz.ntmps271
 go_wp2_with fail
 refine (power_any a 254 c a0 a1 hp'.out _).mono ?_
 rintro e w1 ⟨rfl,hb⟩
 go_wp2
 go_ret
 exact ⟨rfl,hb⟩
theorem rotl_eq(b i:Nat)(hb:b<256):
 bits BinOp.or IntKind.u8 ((b:Int)*2 ^ i%256) ((b:Int) / 2 ^ (8-i))=((Gf.rotl8 b i:Nat):Int):=by
 have e1:((b:Int)*2 ^ i%256)=((b*2 ^ i%256:Nat):Int):=by
  rw [Int.natCast_emod,Int.natCast_mul,Int.natCast_pow];rfl
 have e2:((b:Int) / 2 ^ (8-i))=((b / 2 ^ (8-i):Nat):Int):=by
  rw [Int.natCast_ediv,Int.natCast_pow];rfl
 rw [e1,e2,u8_or_nat _ _ (Nat.mod_lt _ (by omega)) (Nat.lt_of_le_of_lt (Nat.div_le_self _ _) hb)]
 unfold Gf.rotl8
 rw [Nat.shiftLeft_eq,Nat.shiftRight_eq_div_pow]
set_option maxHeartbeats 400000 in
theorem rot8_any(b:Nat)(i:Nat)(hb:b<256)(hi:i<8)(w:World):
 Calls Tryz.prog 272 #[.int .u8 (b:Int),.int .i64 (i:Int)] w fun e w'=>e=.returned (.int .u8 (Gf.rotl8 b i:Nat))∧w=w':=by
 have hand:bits .and .u64 (i:Int) 7=(i:Int):=by
  rw [show (7:Int)=((7:Nat):Int) from rfl,u64_and_nat _ _ (by omega) (by omega),nat_mask3,Nat.mod_eq_of_lt hi]
 go_enter Tryz.func272,Tryz.ntmps272
 go_wp2
 go_ret
 exact ⟨ret_int (rotl_eq b i hb),rfl⟩
def afk(b:Nat):Nat→Nat
 |0=>b
 |k+1=>afk b k ^^^ Gf.rotl8 b (k+1)
theorem rotl8_lt(b i:Nat)(hb:b<256):Gf.rotl8 b i<256:=by
 unfold Gf.rotl8
 exact Nat.or_lt_two_pow (n:=8) (Nat.mod_lt _ (by omega)) (Nat.lt_of_le_of_lt (by rw [Nat.shiftRight_eq_div_pow];exact Nat.div_le_self _ _) hb)
theorem afk_lt(b k:Nat)(hb:b<256):afk b k<256:=by
 induction k with
 |zero=>exact hb
 |succ k ih=>exact Gf.xor_lt _ _ ih (rotl8_lt _ _ hb)
set_option maxHeartbeats 400000 in
theorem sub_any(a:Int)(c:Nat)(a0:0≤a)(a1:a≤255)(hc:Gf.sub a.toNat=c)(w:World):
 Calls Tryz.prog 224 #[.int .u8 a] w fun e w'=>e=.returned (.int .u8 (c:Int))∧Below w.heap.size w w':=by
 have hb0:=Gf.inv_lt a.toNat
 have hc':afk (Gf.inv a.toNat) 4 ^^^ 99=c:=by rw [←hc,←Gf.sub_eq _ (by omega)];rfl
 have hc2:=Lib.hid hc'
 clear hc' hc
 go_enter Tryz.func224,Tryz.ntmps224
 go_wp2_with fail
 refine (inverse_any a (Gf.inv a.toNat) a0 a1 rfl _).mono ?_
 rintro e w1 ⟨rfl,hb⟩
 generalize Gf.inv a.toNat=b at *
 go_wp2
 go_loopw [4,5] (fun o i wr=>∃k:Nat,k≤4∧i=.int .i64 ((k:Int)+1)∧o=.int .u8 (afk b k:Nat)∧wr=w1) (fun _ i _=>5-(intOf i).toNat)
 case atStart=>exact ⟨0,by omega,rfl,rfl,rfl⟩
 case round =>
  obtain ⟨k,hk,rfl,rfl,rfl⟩:=hrel
  have hg0:=afk_lt b k hb0
  by_cases hlt:k<4
  ·go_wp2_with fail
   refine (rot8_any b (k+1) hb0 (by omega) _).mono ?_
   rintro e w2 ⟨rfl,rfl⟩
   go_wp2
   go_roundw
   case rel=>exact ⟨k+1,by omega,by go_num,by rw [u8_xor_nat _ _ hg0 (rotl8_lt _ _ hb0)];rfl,by trivial⟩
   case measure=>simp [intOf];omega
  ·obtain rfl:k=4:=by omega
   go_wp2
   go_ret
   refine ⟨ret_int ?_,hb⟩
   rw [show (99:Int)=((99:Nat):Int) from rfl,u8_xor_nat _ _ hg0 (by omega),hc2.out]
end Go.Proofs.YtjboelhcieepkaaGreatDoor
namespace Go.Proofs.YtjboelhcieepkaaGreatDoor
set_option maxRecDepth 16384
open Go.RowKit
noncomputable def allB(m:Nat):List Nat→Bool
 |[]=>true
 |x::l=>Nat.blt x m&&allB m l
theorem allB_ok{m:Nat}:∀{l:List Nat},allB m l=true→∀x∈l,x<m
 |[],_,x,hx=>by cases hx
 |y::l,h,x,hx=>by
  unfold allB at h
  rw [Bool.and_eq_true,blt_iff,decide_eq_true_eq] at h
  rcases List.mem_cons.1 hx with rfl|hx
  ·exact h.1
  ·exact allB_ok h.2 x hx
noncomputable def numK(k:IntKind)(m:Nat):Rp SV→Option (List Nat)
 | .nil=>some []
 | .one (.v (.int j (.ofNat x)))=>bif decide (k=j)&&Nat.blt x m then some [x] else none
 | .arr j _ l=>bif decide (k=j)&&allB m l then some l else none
 | .node _ _ a b=>match numK k m a,numK k m b with
  |some l,some l'=>some (l++l')
  |_,_=>none
 |_=>none
theorem numK_ok{k:IntKind}{m:Nat}{r:List Loc}{c:Rp SV}:∀{l:List Nat} {us:List Value},numK k m c=some l→DenC r c us→us=nv k l∧∀x∈l,x<m:=by
 induction c with
 |nil=>intro l us h d;cases h;cases d;exact ⟨rfl,fun x hx=>by cases hx⟩
 |one x =>
  intro l us h d
  unfold numK at h
  split at h<;>try (rename_i e;cases e)
  ·rename_i j x
   cases hq:decide (k=j)&&Nat.blt x m with
   |false=>rw [hq] at h;cases h
   |true =>
    rw [hq] at h;cases h
    rw [Bool.and_eq_true,blt_iff,decide_eq_true_eq,decide_eq_true_eq] at hq
    obtain ⟨rfl,hq⟩:=hq
    refine ⟨one_inv d,fun y hy=>?_⟩
    rw [List.mem_singleton] at hy;omega
  ·cases h
 |arr j n l' =>
  intro l us h d
  unfold numK at h
  cases hq:decide (k=j)&&allB m l' with
  |false=>rw [hq] at h;cases h
  |true =>
   rw [hq] at h;cases h
   rw [Bool.and_eq_true,decide_eq_true_eq] at hq
   obtain ⟨rfl,hq⟩:=hq
   exact ⟨arr_inv d,allB_ok hq⟩
 |q a=>intro l us h d;cases h
 |node s t a b iha ihb =>
  intro l us h d
  unfold numK at h
  split at h
  ·rename_i x y ha hb
   cases h
   cases d with
   |node d1 d2 _ _ =>
    obtain ⟨rfl,b1⟩:=iha ha d1
    obtain ⟨rfl,b2⟩:=ihb hb d2
    exact ⟨nv_app _ _ _,fun x hx=>(List.mem_append.1 hx).elim (b1 x) (b2 x)⟩
  ·cases h
noncomputable def fComp(args:List SV):Option SV:=match args with
 |[.a x,.a y]=>(match numK .u32 4294967296 x,bytesN y with
  |some h,some b=>bif Nat.beq h.length 8&&Nat.beq b.length 64 then Sh.frcL (Sh.compF h b) fun l=>some (.a (.arr .u32 8 l)) else none
  |_,_=>none)
 |_=>none
theorem comp_leaf:LeafOk Xt 62 (leafV fComp):=leafV_ok (enters (by kernel_rfl)) fun args y hf r vals w hd hg=>by
 unfold fComp at hf
 split at hf
 ·rename_i x z
  split at hf
  ·rename_i h b hx hz
   cases hq:Nat.beq h.length 8&&Nat.beq b.length 64 with
   |false=>rw [hq] at hf;cases hf
   |true =>
    rw [hq,cond_true,Sh.frcL_eq] at hf
    cases hf
    rw [Bool.and_eq_true,beq_iff,beq_iff,decide_eq_true_eq,decide_eq_true_eq] at hq
    cases hd with
    |cons d1 t=>cases t with
     |cons d2 t =>
      cases t
      cases d1 with
      |a d1=>cases d2 with
       |a d2 =>
        obtain ⟨rfl,b1⟩:=numK_ok hx d1
        obtain ⟨rfl,b2⟩:=bytesN_ok hz d2
        refine (compress_any h b hq.1 (Sh.W32_of_mem b1) b2 hq.2 w (globT hg)).mono ?_
        rintro e w' ⟨rfl,h2⟩
        refine ⟨_,rfl,?_,h2⟩
        rw [←Sh.compF_eq h b hq.1]
        refine .a (.arr ?_)
        rw [Sh.compF_eq h b hq.1,Sh.comp_len8]
  ·cases hf
 ·cases hf
noncomputable def fSub(args:List SV):Option SV:=match args with
 |[.v (.int .u8 (.ofNat a))]=>bif Nat.blt a 256 then Sh.frc (Gf.sub a) fun c=>some (.v (.int .u8 (c:Int))) else none
 |_=>none
theorem sub_leaf:LeafOk Xt 224 (leafV fSub):=leafV_ok (enters (by kernel_rfl)) fun args y hf r vals w hd hg=>by
 unfold fSub at hf
 split at hf
 ·rename_i a
  cases hq:Nat.blt a 256 with
  |false=>rw [hq] at hf;cases hf
  |true =>
   rw [hq,cond_true,Sh.frc_eq] at hf
   cases hf
   rw [blt_iff,decide_eq_true_eq] at hq
   cases hd with
   |cons d t =>
    cases t;cases d
    exact (sub_any (a:Int) (Gf.sub a) (by omega) (by omega) rfl w).mono fun e w' ⟨h1,h2⟩=>⟨_,h1,.v _,h2⟩
 ·cases hf
noncomputable def fMul(args:List SV):Option SV:=match args with
 |[.v (.int .u8 (.ofNat a)),.v (.int .u8 (.ofNat b))]=>bif Nat.blt a 256&&Nat.blt b 256 then Sh.frc (Gf.gm b a) fun c=>some (.v (.int .u8 (c:Int))) else none
 |_=>none
theorem mul_leaf:LeafOk Xt 273 (leafV fMul):=leafV_ok (enters (by kernel_rfl)) fun args y hf r vals w hd hg=>by
 unfold fMul at hf
 split at hf
 ·rename_i a b
  cases hq:Nat.blt a 256&&Nat.blt b 256 with
  |false=>rw [hq] at hf;cases hf
  |true =>
   rw [hq,cond_true,Sh.frc_eq] at hf
   cases hf
   rw [Bool.and_eq_true,blt_iff,blt_iff,decide_eq_true_eq,decide_eq_true_eq] at hq
   cases hd with
   |cons d t=>cases t with
    |cons d2 t =>
     cases t;cases d;cases d2
     exact (mul_at (a:Int) (b:Int) (Gf.gm b a) (by omega) (by omega) (by omega) (by omega) (Gf.gm_comm _ _ hq.1 hq.2) w).mono fun e w' ⟨h1,h2⟩=>⟨_,h1,.v _,h2⟩
 ·cases hf
noncomputable def tab5:List (FuncId×Leaf):=[(62,leafV fComp),(224,leafV fSub),(273,leafV fMul)]++tab4
theorem tab5_ok:∀p∈tab5,LeafOk Xt p.1 p.2:=by
 intro p hp
 rcases List.mem_append.1 hp with hp|hp
 ·simp only [List.mem_cons,List.not_mem_nil,or_false] at hp
  rcases hp with rfl|rfl|rfl
  ·exact comp_leaf
  ·exact sub_leaf
  ·exact mul_leaf
 ·exact tab4_ok p hp
end Go.Proofs.YtjboelhcieepkaaGreatDoor
namespace Go.Proofs.YtjboelhcieepkaaGreatDoor.Sh
set_option maxRecDepth 16384
theorem sha_len'(l:List Nat):(sha l).length=32:=flat_len _
def xorl(l m:List Nat)(n i:Nat):List Nat:=(List.range n).map fun j=>if j<i then l.getD j 0 ^^^ m.getD j 0 else 0
theorem xorl_len(l m:List Nat)(n i:Nat):(xorl l m n i).length=n:=by simp [xorl]
theorem xorl_zero(l m:List Nat)(n:Nat):xorl l m n 0=List.replicate n 0:=by
 apply ext_getD (by simp [xorl])
 intro j hj
 rw [xorl_len] at hj
 rw [xorl,getD_map_range _ _ _ hj];simp [List.getD_eq_getElem?_getD,hj]
theorem xorl_step(l m:List Nat)(n i:Nat)(hi:i<n):(xorl l m n i).set i (l.getD i 0 ^^^ m.getD i 0)=xorl l m n (i+1):=by
 apply ext_getD (by rw [List.length_set,xorl_len,xorl_len])
 intro j hj
 rw [List.length_set,xorl_len] at hj
 by_cases e:i=j
 ·subst e
  rw [getD_set_eq (by rw [xorl_len];exact hi),xorl,getD_map_range _ _ _ hj,if_pos (by omega)]
 ·rw [getD_set_ne e,xorl,getD_map_range _ _ _ hj,xorl,getD_map_range _ _ _ hj]
  by_cases h:j<i
  ·rw [if_pos h,if_pos (by omega)]
  ·rw [if_neg h,if_neg (by omega)]
theorem xor256{a b:Nat}(ha:a<256)(hb:b<256):a ^^^ b<256:=Nat.xor_lt_two_pow (n:=8) ha hb
def xorB(l m:List Nat):List Nat:=xorl l m l.length l.length
theorem xorB_len(l m:List Nat):(xorB l m).length=l.length:=xorl_len _ _ _ _
theorem xorB_byt(l m:List Nat)(hl:Byt l)(hm:Byt m):Byt (xorB l m):=fun x hx=>by
 obtain ⟨j,_,rfl⟩:=List.mem_map.1 hx
 split
 ·exact xor256 (hl.get j) (hm.get j)
 ·omega
theorem xorB_get(l m:List Nat)(i:Nat)(hi:i<l.length):(xorB l m).getD i 0=l.getD i 0 ^^^ m.getD i 0:=by
 rw [xorB,xorl,getD_map_range _ _ _ hi,if_pos hi]
def kc(key:List Nat):List Nat:=if 64<key.length then sha key else key
def kb(key:List Nat):List Nat:=kc key++List.replicate (64-(kc key).length) 0
theorem kc_le(key:List Nat):(kc key).length≤64:=by
 unfold kc;split
 ·rw [sha_len'];omega
 ·omega
theorem kc_byt(key:List Nat)(h:Byt key):Byt (kc key):=by
 unfold kc;split
 ·exact sha_byt _
 ·exact h
theorem kb_len(key:List Nat):(kb key).length=64:=by
 have:=kc_le key
 simp [kb];omega
theorem kb_byt(key:List Nat)(h:Byt key):Byt (kb key):=(kc_byt key h).app (Byt.rep _ _ (by omega))
def kx(key:List Nat)(c:Nat):List Nat:=xorB (kb key) (List.replicate 64 c)
theorem kx_len(key:List Nat)(c:Nat):(kx key c).length=64:=by rw [kx,xorB_len,kb_len]
theorem kx_byt(key:List Nat)(c:Nat)(h:Byt key)(hc:c<256):Byt (kx key c):=xorB_byt _ _ (kb_byt key h) (Byt.rep _ _ hc)
theorem kx_get(key:List Nat)(c i:Nat)(hi:i<64):(kx key c).getD i 0=(kb key).getD i 0 ^^^ c:=by
 rw [kx,xorB_get _ _ _ (by rw [kb_len];exact hi)]
 congr 1
 rw [List.getD_eq_getElem?_getD,List.getElem?_replicate,if_pos hi];rfl
def hm(key m:List Nat):List Nat:=sha (kx key 92++sha (kx key 54++m))
theorem hm_len(key m:List Nat):(hm key m).length=32:=sha_len' _
end Go.Proofs.YtjboelhcieepkaaGreatDoor.Sh
namespace Go.Proofs.YtjboelhcieepkaaGreatDoor
set_option maxRecDepth 16384
open Go.RowKit Sh
set_option maxHeartbeats 800000 in
theorem xor_any(l m:List Nat)(A A2:Option Addr)(n c c2 B:Nat)(hl:Byt l)(hm:Byt m)(hn63:n<281474976710656)(w:World)(hr:Reads w B 1 A n (nv .u8 l))(hr2:Reads w B 1 A2 n (nv .u8 m))(hB:B≤w.heap.size):
 Calls Tryz.prog 169 #[.slice A n c,.slice A2 n c2] w fun e w'=>∃g,e=.returned (.tuple #[.slice (some ⟨g,0,none⟩) n n,.int .i64 0])∧Blk w' g 5 (va .u8 (xorB l m))∧w.heap.size≤g∧Below w.heap.size w w':=by
 have hmk:=make_bytes n (by omega)
 have hln:=hr.len
 have hmm:Blk (w.alloc (.cells (va .u8 (List.replicate n 0)) 5)) w.heap.size 5 (va .u8 (xorl l m n 0)):=by rw [xorl_zero];exact Blk.new _ _ _
 have hm':=Lib.hid hmm
 have hb0:Below w.heap.size w (w.alloc (.cells (va .u8 (List.replicate n 0)) 5)):=(Below.refl _ _).alloc (Nat.le_refl _) _
 have hbq:=Lib.hid hb0
 have hrq:=Lib.hid hr
 have hr2q:=Lib.hid hr2
 have hBq:=Lib.hid hB
 clear hmm hb0 hr hr2 hB
 go_enter Tryz.func169,Tryz.ntmps169
 go_wp2
 clear hmk
 generalize w.alloc (.cells (va .u8 (List.replicate n 0)) 5)=w1 at *
 go_loopw [25] (fun s wr=>∃k:Nat,k≤n∧s=.int .i64 (k:Int)∧Blk wr w.heap.size 5 (va .u8 (xorl l m n k))∧Below w.heap.size w wr) (fun s _=>n-(intOf s).toNat)
 case atStart=>exact ⟨0,by omega,rfl,hm'.out,hbq.out⟩
 case round =>
  clear hm' hbq
  obtain ⟨k,hk,rfl,hblk,hb⟩:=hrel
  by_cases hlt:k<n
  ·have hltI:(k:Int)<(n:Int):=by omega
   have hc:=hblk.num (i:=k) (by rw [xorl_len];omega)
   have hf:=hblk.frozen k
   obtain ⟨a1,rfl,_,hc1⟩:=(hrq.out.below (hb.mono hBq.out)).num hlt
   obtain ⟨a2,rfl,_,hc2⟩:=(hr2q.out.below (hb.mono hBq.out)).num hlt
   have hx:=hl.get k
   have hy:=hm.get k
   have hset:=Lib.hid (xorl_step l m n k hlt)
   have hbh:=Lib.hid hb
   have hblh:=Lib.hid hblk
   clear hb hblk
   obtain ⟨u,hu⟩:∃u,(xorl l m n k).getD k 0=u:=⟨_,rfl⟩
   rw [hu] at hc
   obtain ⟨x,hxe⟩:∃x,l.getD k 0=x:=⟨_,rfl⟩
   obtain ⟨y,hye⟩:∃y,m.getD k 0=y:=⟨_,rfl⟩
   rw [hxe] at hc1 hx
   rw [hye] at hc2 hy
   have hxe':=Lib.hid hxe
   have hye':=Lib.hid hye
   have hxr:bits BinOp.xor IntKind.u8 (x:Int) (y:Int)=((x ^^^ y:Nat):Int):=u8_xor_nat x y hx hy
   clear hxe hye hu
   go_wp2
   refine wp_region_still_tail 12 (by kernel_rfl) (by kernel_rfl) ?_
   simp only [List.take_succ_cons,List.take_zero,List.drop_succ_cons,List.drop_zero]
   change wpStill _ _ wr.drew _ _ _
   iterate 12 still_step
   refine wpStill_nil ?_
   change wpList _ _ _ _ _ wr.drew
   have hM:Blk (wr.drew.setCell ⟨w.heap.size,k,none⟩ (.int .u8 ((x ^^^ y:Nat):Int))) w.heap.size 5 (va .u8 (xorl l m n (k+1))):=by
    have h1:=hblh.out.drew.setNum k (x ^^^ y)
    rw [←hxe'.out,←hye'.out,hset.out] at h1
    rw [←hxe'.out,←hye'.out];exact h1
   have hMq:=Lib.hid hM
   have hBB:=Lib.hid (hbh.out.drew.setCell (p:=⟨w.heap.size,k,none⟩) (Nat.le_refl _) (.int .u8 ((x ^^^ y:Nat):Int)))
   clear hM
   go_wp2
   go_roundw
   case rel=>exact ⟨k+1,by omega,by go_num,hMq.out,hBB.out⟩
   case measure=>simp [intOf];omega
  ·obtain rfl:n=k:=by omega
   go_wp2
   go_ret2
   refine ⟨w.heap.size,rfl,?_,Nat.le_refl _,hb⟩
   unfold xorB
   rw [hln];exact hblk
end Go.Proofs.YtjboelhcieepkaaGreatDoor
