/-
  disks.Write by the machine: a disk of one chunk, of which the sector's version is known (or that there is none). (Printed by mkds.py.)
-/
import Derived.Test.YtjboelhcieepkaaGreatDoorZ15
import Derived.Test.YtjboelhcieepkaaGreatDoorQRfD
namespace Go.Proofs.YtjboelhcieepkaaGreatDoor
set_option maxRecDepth 16384
open Go.RowKit
noncomputable def chk(y:Nat→Value)(k:Nat)(x:SV):Rp SV:=packL ((List.range 64).map fun j=>bif Nat.beq j k then x else .v (y j))
def pNil:SV:=.v (.pointer none)
noncomputable def hpW(y:Nat→Value)(k:Nat)(x:SV)(n:Nat)(l:List Nat):Tr:=((Tre.e.put 0 ⟨203,chk y k x,2⟩).put 1 ⟨240,.one (.p 0 0),2⟩).put 2 ⟨5,.arr .u8 n l,2⟩
noncomputable def dsk(sz:Nat)(c:Int)(x:SV):SV:=.a (.node 1 3 (.one (.v (.int .i64 (.ofNat sz)))) (.node 1 2 (.one (.v (.int .i64 c))) (.one x)))
noncomputable def H0:Hk:=hkD Xt (leafTab []) 14 8
theorem H0_ok:HkOk Xt H0:=hkT_ok hmx (fun p h=>by simp at h) 8
noncomputable def wout(x:Option (SV×St)):Option (SV×Option HB×Option HB×Option HB×Option HB):=match x with
 |some (y,st)=>some (y,st.hp.get 12,st.hp.get 10,st.hp.get 11,st.hp.get 7)
 |none=>none
noncomputable def wrun(y:Nat→Value)(k m n:Nat)(x:SV)(l:List Nat)(c:Int):Option (SV×Option HB×Option HB×Option HB×Option HB) :=
 wout (callW H0 Xt 12 25 [dsk (m+(k+1)) c (.w 1 1),.v (.int .i64 (.ofNat k)),.w 2 n] (hpW y k x n l) 3)
noncomputable def wres(y:Nat→Value)(k m n:Nat)(x:SV)(l:List Nat)(num c:Int):Option (SV×Option HB×Option HB×Option HB×Option HB) :=
 some (.t [dsk (m+(k+1)) (IntKind.i64.wrap (c+1)) (.s 12 0 1 1),ok0],some ⟨240,.one (.p 10 0),0⟩,some ⟨242,chk y k (.p 11 0),0⟩,
  some ⟨312,.node 1 4 (.one (.v (.bool true))) (.node 1 3 (.one (.w 7 n)) (.node 1 2 (.one (.v (.int .i64 num))) (.one x))),0⟩,some ⟨5,.arr .u8 n l,1⟩)
def kd(a b:Nat):List Nat:=(List.range (b-a)).map (a+·)
theorem mem_kd{a b k:Nat}(h1:a≤k)(h2:k<b):k∈kd a b:=List.mem_map.2 ⟨k-a,List.mem_range.2 (by omega),by omega⟩
theorem of4{β:Type}{f g:Nat→β}(h0:(kd 0 14).map f=(kd 0 14).map g)(h1:(kd 14 28).map f=(kd 14 28).map g)(h2:(kd 28 42).map f=(kd 28 42).map g)(h3:(kd 42 56).map f=(kd 42 56).map g)(k:Nat)(hk:k<56):f k=g k:=by
 by_cases a:k<14
 ·exact List.map_inj_left.1 h0 k (mem_kd (by omega) a)
 ·by_cases b:k<28
  ·exact List.map_inj_left.1 h1 k (mem_kd (by omega) b)
  ·by_cases c:k<42
   ·exact List.map_inj_left.1 h2 k (mem_kd (by omega) c)
   ·exact List.map_inj_left.1 h3 k (mem_kd (by omega) hk)
theorem wN_32_0(y:Nat→Value)(m:Nat)(l:List Nat)(c:Int):(kd 0 14).map (fun k=>wrun y k m 32 pNil l c)=(kd 0 14).map fun k=>wres y k m 32 pNil l 1 c:=by kernel_rfl
theorem wN_32_1(y:Nat→Value)(m:Nat)(l:List Nat)(c:Int):(kd 14 28).map (fun k=>wrun y k m 32 pNil l c)=(kd 14 28).map fun k=>wres y k m 32 pNil l 1 c:=by kernel_rfl
theorem wN_32_2(y:Nat→Value)(m:Nat)(l:List Nat)(c:Int):(kd 28 42).map (fun k=>wrun y k m 32 pNil l c)=(kd 28 42).map fun k=>wres y k m 32 pNil l 1 c:=by kernel_rfl
theorem wN_32_3(y:Nat→Value)(m:Nat)(l:List Nat)(c:Int):(kd 42 56).map (fun k=>wrun y k m 32 pNil l c)=(kd 42 56).map fun k=>wres y k m 32 pNil l 1 c:=by kernel_rfl
theorem wN_32(k:Nat)(hk:k<56)(y:Nat→Value)(m:Nat)(l:List Nat)(c:Int):wrun y k m 32 pNil l c=wres y k m 32 pNil l 1 c:=of4 (wN_32_0 y m l c) (wN_32_1 y m l c) (wN_32_2 y m l c) (wN_32_3 y m l c) k hk
theorem wN_137_0(y:Nat→Value)(m:Nat)(l:List Nat)(c:Int):(kd 0 14).map (fun k=>wrun y k m 137 pNil l c)=(kd 0 14).map fun k=>wres y k m 137 pNil l 1 c:=by kernel_rfl
theorem wN_137_1(y:Nat→Value)(m:Nat)(l:List Nat)(c:Int):(kd 14 28).map (fun k=>wrun y k m 137 pNil l c)=(kd 14 28).map fun k=>wres y k m 137 pNil l 1 c:=by kernel_rfl
theorem wN_137_2(y:Nat→Value)(m:Nat)(l:List Nat)(c:Int):(kd 28 42).map (fun k=>wrun y k m 137 pNil l c)=(kd 28 42).map fun k=>wres y k m 137 pNil l 1 c:=by kernel_rfl
theorem wN_137_3(y:Nat→Value)(m:Nat)(l:List Nat)(c:Int):(kd 42 56).map (fun k=>wrun y k m 137 pNil l c)=(kd 42 56).map fun k=>wres y k m 137 pNil l 1 c:=by kernel_rfl
theorem wN_137(k:Nat)(hk:k<56)(y:Nat→Value)(m:Nat)(l:List Nat)(c:Int):wrun y k m 137 pNil l c=wres y k m 137 pNil l 1 c:=of4 (wN_137_0 y m l c) (wN_137_1 y m l c) (wN_137_2 y m l c) (wN_137_3 y m l c) k hk
theorem wN_185_0(y:Nat→Value)(m:Nat)(l:List Nat)(c:Int):(kd 0 14).map (fun k=>wrun y k m 185 pNil l c)=(kd 0 14).map fun k=>wres y k m 185 pNil l 1 c:=by kernel_rfl
theorem wN_185_1(y:Nat→Value)(m:Nat)(l:List Nat)(c:Int):(kd 14 28).map (fun k=>wrun y k m 185 pNil l c)=(kd 14 28).map fun k=>wres y k m 185 pNil l 1 c:=by kernel_rfl
theorem wN_185_2(y:Nat→Value)(m:Nat)(l:List Nat)(c:Int):(kd 28 42).map (fun k=>wrun y k m 185 pNil l c)=(kd 28 42).map fun k=>wres y k m 185 pNil l 1 c:=by kernel_rfl
theorem wN_185_3(y:Nat→Value)(m:Nat)(l:List Nat)(c:Int):(kd 42 56).map (fun k=>wrun y k m 185 pNil l c)=(kd 42 56).map fun k=>wres y k m 185 pNil l 1 c:=by kernel_rfl
theorem wN_185(k:Nat)(hk:k<56)(y:Nat→Value)(m:Nat)(l:List Nat)(c:Int):wrun y k m 185 pNil l c=wres y k m 185 pNil l 1 c:=of4 (wN_185_0 y m l c) (wN_185_1 y m l c) (wN_185_2 y m l c) (wN_185_3 y m l c) k hk
end Go.Proofs.YtjboelhcieepkaaGreatDoor
namespace Go.Proofs.YtjboelhcieepkaaGreatDoor
set_option maxRecDepth 16384
open Go.RowKit
def pcell(y:Option Nat):Value:=.pointer (y.map fun q=>(⟨q,0,none⟩:Addr))
theorem packL_ok{r:List Loc}:∀{xs:List SV} {vs:List Value},DenL r xs vs→(∀v∈vs,v.oneCell'=true)→DenC r (packL xs) vs
 |[],_,h,_=>by cases h;exact .nil
 |_::_,_,h,h1=>by
  cases h with
  |cons h t=>exact DenC.cat (.one h (h1 _ (by simp))) (packL_ok t fun v hv=>h1 v (by simp [hv]))
theorem chk_ok{r:List Loc}{k:Nat}{x:SV}{v:Value}(y:Nat→Value)(hx:Den r x v)(h1:∀j,(y j).oneCell'=true)(hv:v.oneCell'=true):DenC r (chk y k x) ((List.range 64).map fun j=>if j=k then v else y j):=by
 have key:∀l:List Nat,DenL r (l.map fun j=>bif Nat.beq j k then x else .v (y j)) (l.map fun j=>if j=k then v else y j):=by
  intro l
  induction l with
  |nil=>exact .nil
  |cons j l ih =>
   refine .cons ?_ ih
   show Den r (bif Nat.beq j k then x else .v (y j)) (if j=k then v else y j)
   rw [beq_iff]
   by_cases e:j=k
   ·simpa [e] using hx
   ·simpa [e] using Den.v (y j)
 refine packL_ok (key _) fun u hu=>?_
 obtain ⟨j,_,rfl⟩:=List.mem_map.1 hu
 split
 ·exact hv
 ·exact h1 j
theorem packL_cons(x x':SV)(xs:List SV):∃s t,packL (x::x'::xs)=.node s t (.one x) (packL (x'::xs)):=by
 have e:packL (x::x'::xs)=cat (.one x) (packL (x'::xs)):=rfl
 have h:packL (x'::xs)≠.nil:=by
  have e2:packL (x'::xs)=cat (.one x') (packL xs):=rfl
  rw [e2]
  intro h
  cases hq:packL xs<;>rw [hq] at h<;>cases h
 rw [e]
 cases hq:packL (x'::xs) with
 |nil=>exact absurd hq h
 |_=>exact ⟨_,_,rfl⟩
theorem packL_inv{r:List Loc}:∀{xs:List SV} {vs:List Value},DenC r (packL xs) vs→DenL r xs vs
 |[],_,h=>by cases h;exact .nil
 |[x],_,h=>by
  have h':DenC r (.one x) _:=h
  cases h' with|one h2 _=>exact .cons h2 .nil
 |x::x'::xs,_,h=>by
  obtain ⟨s,t,e⟩:=packL_cons x x' xs
  rw [e] at h
  cases h with
  |node ha hb _ _=>cases ha with|one h1 _=>exact .cons h1 (packL_inv hb)
theorem chk_inv{r:List Loc}{k n o:Nat}{L:Loc}{y:Nat→Value}{vs:List Value}(hL:r[n]?=some L)(h:DenC r (chk y k (.p n o)) vs):vs=(List.range 64).map fun j=>if j=k then .pointer (some ⟨L.g,L.b+o,none⟩) else y j:=by
 have key:∀(l:List Nat) (vs:List Value),DenL r (l.map fun j=>bif Nat.beq j k then SV.p n o else .v (y j)) vs→vs=l.map fun j=>if j=k then .pointer (some ⟨L.g,L.b+o,none⟩) else y j:=by
  intro l
  induction l with
  |nil=>intro vs h;cases h;rfl
  |cons j l ih =>
   intro vs h
   cases h with
   |cons h t =>
    rw [ih _ t]
    replace h:Den r (bif Nat.beq j k then SV.p n o else .v (y j)) _:=h
    rw [beq_iff] at h
    by_cases e:j=k
    ·simp only [e,decide_true,cond_true] at h
     cases h with|p h'=>rw [hL] at h';cases h';simp [e]
    ·simp only [e,decide_false,cond_false] at h
     cases h;simp [e]
 exact key _ _ (packL_inv h)
theorem verAt_keep{w w':World}{cv cv':Nat→Prop}{q:Nat}{b:VCnt}(hb:Below w.heap.size w w')(hq:q<w.heap.size)(hcv:∀j,cv j→j<w.heap.size)(hcc:∀j,cv j→cv' j)(h:verAt w cv q b):verAt w' cv' q b:=by
 obtain ⟨a,c,num,nxt,h1,h2,h3,h4,h5,h6,h7⟩:=h
 have e:∀(g:Nat),g<w.heap.size→∀o,w'.cell? ⟨g,o,none⟩=w.cell? ⟨g,o,none⟩:=fun g hg o=>World.cell?_of_block (hb.block g hg)
 exact ⟨a,c,num,nxt,hcc a h1,h2,(e q hq _).trans h3,(e q hq _).trans h4,(e q hq _).trans h5,(e q hq _).trans h6,fun j v hv=>(e a (hcv a h1) _).trans (h7 j v hv)⟩
set_option maxHeartbeats 1000000 in
theorem dwrite_any(k m n:Nat)(hk:k<56)(hn:n=32∨n=137∨n=185)(w:World)(hg:GlobOk Xt w)(g c0:Nat)(hc0:1≤c0)(hgl:g<w.heap.size)(cv:Nat→Prop)(hcv:∀j,cv j→j<w.heap.size)(l:List (Option VCnt))(hd:diskAt w g cv l)(hlk:l[k]?=some none)(x:VCnt)(hx:x.n=n)(g2 o2 c2:Nat)(hc2:n≤c2)(hr:Reads w w.heap.size 1 (some ⟨g2,o2,none⟩) n (nv .u8 x.l))(q:Int):
 Calls Xt.P 25 #[.agg #[.int .i64 (.ofNat (m+(k+1))),.int .i64 q,.slice (some ⟨g,0,none⟩) 1 c0],.int .i64 (.ofNat k),.slice (some ⟨g2,o2,none⟩) n c2] w fun e w'=>∃g',w.heap.size≤g'∧g'<w'.heap.size ∧
  e=.returned (.tuple #[.agg #[.int .i64 (.ofNat (m+(k+1))),.int .i64 (IntKind.i64.wrap (q+1)),.slice (some ⟨g',0,none⟩) 1 1],.int .i64 0])∧diskAt w' g' (fun j=>cv j∨(w.heap.size≤j∧j<w'.heap.size)) (l.set k (some x))∧Below w.heap.size w w':=by
 obtain ⟨p,h1,h2,ps,h3,h4,h5⟩:=hd
 have hpk:ps[k]?=some none:=by
  have:=h5 k none hlk
  cases hq:ps[k]? with
  |none=>have:=List.getElem?_eq_none_iff.1 hq;omega
  |some y =>
   cases y with
   |none=>rfl
   |some y=>rw [hq] at this;obtain ⟨_,b,hb,_⟩:=this;cases hb
 obtain ⟨y,hy⟩:∃y:Nat→Value,y=fun j=>pcell ((ps[j]?).getD none):=⟨_,rfl⟩
 have hy1:∀j,(y j).oneCell'=true:=fun j=>by rw [hy];rfl
 have hrun:wrun y k m n pNil x.l q=wres y k m n pNil x.l 1 q:=by
  rcases hn with rfl|rfl|rfl
  ·exact wN_32 k hk y m x.l q
  ·exact wN_137 k hk y m x.l q
  ·exact wN_185 k hk y m x.l q
 unfold wrun wout wres at hrun
 split at hrun
 ·rename_i res st hc
  simp only [Option.some.injEq,Prod.mk.injEq] at hrun
  obtain ⟨rfl,e12,e10,e11,e7⟩:=hrun
  obtain ⟨ad,ead,hg2,hcell⟩:=hr.2 (by omega)
  cases ead
  have hm1:=(Mem.start Xt w hg).addF AllF.start ⟨p,0,0,none,fun _=>False⟩ 203 (chk y k pNil) _ (chk_ok (r:=[⟨p,0,0,none,fun _=>False⟩]) y (.v (.pointer none)) hy1 rfl) (hcv p h2) (Nat.le_refl _) (fun j v hv=>by
   rw [List.getElem?_map] at hv
   obtain ⟨i,hi,rfl⟩:=Option.map_eq_some_iff.1 hv
   obtain ⟨hj,rfl⟩:=List.getElem?_eq_some_iff.1 hi
   simp only [List.getElem_range,List.length_range] at hj ⊢
   show w.cell? ⟨p,0+j,none⟩=_
   rw [Nat.zero_add]
   have hlt:j<ps.length:=by rw [h3];simpa using hj
   have e:=h4 j ps[j] (List.getElem?_eq_getElem hlt)
   rw [e]
   by_cases e2:j=k
   ·subst e2
    rw [List.getElem?_eq_getElem hlt] at hpk
    rw [Option.some.inj hpk,if_pos rfl]
    rfl
   ·rw [if_neg e2,hy]
    simp [pcell,List.getElem?_eq_getElem hlt])
  have hm2:=hm1.addF (AllF.start.put _ _ _) ⟨g,0,c0,none,fun _=>False⟩ 240 (.one (.p 0 0)) [.pointer (some ⟨p,0+0,none⟩)] (.one (.p (L:=⟨p,0,0,none,fun _=>False⟩) rfl) rfl) hgl (Nat.le_refl _) (fun j v hv=>by
   cases j with
   |zero=>simp only [List.getElem?_cons_zero,Option.some.injEq] at hv;subst hv;exact h1
   |succ j=>simp at hv)
  have hm3:=hm2.addF ((AllF.start.put _ _ _).put _ _ _) ⟨g2,o2,c2,none,fun _=>False⟩ 5 (.arr .u8 n x.l) (nv .u8 x.l) (.arr (x.hl.trans hx)) hg2 (Nat.le_refl _) (fun j v hv=>by have:=hcell j v hv;rwa [add_none] at this)
  have hm4:Mem (E0 Xt w) [⟨p,0,0,none,fun _=>False⟩,⟨g,0,c0,none,fun _=>False⟩,⟨g2,o2,c2,none,fun _=>False⟩] (hpW y k pNil n x.l) 3 w:=hm3
  have hargs:DenL [(⟨p,0,0,none,fun _=>False⟩:Loc),⟨g,0,c0,none,fun _=>False⟩,⟨g2,o2,c2,none,fun _=>False⟩] [dsk (m+(k+1)) q (.w 1 1),.v (.int .i64 (.ofNat k)),.w 2 n] [.agg #[.int .i64 (.ofNat (m+(k+1))),.int .i64 q,.slice (some ⟨g,0,none⟩) 1 c0],.int .i64 (.ofNat k),.slice (some ⟨g2,o2,none⟩) n c2]:=by
   refine .cons ?_ (.cons (.v _) (.cons (.w (L:=⟨g2,o2,c2,none,fun _=>False⟩) rfl hc2) .nil))
   exact .a (vs:=[.int .i64 (.ofNat (m+(k+1))),.int .i64 q,.slice (some ⟨g,0,none⟩) 1 c0]) (.node (us:=[.int .i64 (.ofNat (m+(k+1)))]) (.one (.v _) rfl) (.node (us:=[.int .i64 q]) (.one (.v _) rfl) (.one (.w (L:=⟨g,0,c0,none,fun _=>False⟩) rfl hc0) rfl) rfl rfl) rfl rfl)
  refine (callW_ok (E:=E0 Xt w) hmx H0_ok hc hargs hm4).mono fun e w' ⟨qq,v,he,hdv,hm⟩=>?_
  obtain ⟨L12,hL12,u12,hd12,⟨_,hge12,hb12,hblk12⟩|⟨hbad,_⟩|⟨hbad,_⟩⟩:=hm.blk 12 _ e12
  ·obtain ⟨L10,hL10,u10,hd10,⟨_,hge10,hb10,hblk10⟩|⟨hbad,_⟩|⟨hbad,_⟩⟩:=hm.blk 10 _ e10
   ·obtain ⟨L11,hL11,u11,hd11,⟨_,hge11,hb11,hblk11⟩|⟨hbad,_⟩|⟨hbad,_⟩⟩:=hm.blk 11 _ e11
    ·obtain ⟨L7,hL7,u7,hd7,⟨hbad,_⟩|⟨_,hge7,hb7,rest,hblk7,hz7,hc7,_⟩|⟨hbad,_⟩⟩:=hm.blk 7 _ e7
     ·cases hbad
     ·obtain rfl:=chk_inv hL11 hd10
      cases hd12 with|one hd12 _=>cases hd12 with|p hq10 =>
       rw [hL10] at hq10
       cases hq10
       cases hd7 with|arr hl7 =>
        cases hd11 with|node ha1 hb1 _ _=>cases ha1 with|one ha1 _=>cases ha1;cases hb1 with|node ha2 hb2 _ _=>cases ha2 with|one ha2 _=>cases ha2 with|w hq7 hlc=>rw [hL7] at hq7;cases hq7;cases hb2 with|node ha3 hb3 _ _=>cases ha3 with|one ha3 _=>cases ha3;cases hb3 with|one hb3 _ =>
         cases hb3
         have hbw:Below w.heap.size w w':=hm.below
         unfold dsk at hdv
         refine ⟨L12.g,hge12,hblk12.lt,?_,⟨L10.g,?_,.inr ⟨hge10,hblk10.lt⟩,ps.set k (some L11.g),by simpa using h3,fun j z hz=>?_,fun j z hz=>?_⟩,hbw⟩
         ·cases hdv with|t d=>cases d with|cons d1 d2=>cases d2 with|cons d2 d3 =>
           cases d3
           cases d2
           cases d1 with|a d1=>cases d1 with|node p1 p2 _ _=>cases p1 with|one p1 _=>cases p1;cases p2 with|node p2 p3 _ _=>cases p2 with|one p2 _=>cases p2;cases p3 with|one p3 _=>cases p3 with|s hq12 =>
            rw [hL12] at hq12
            cases hq12
            rw [he,hb12]
            rfl
         ·rw [hblk12.cell,hb10];rfl
         ·have hj:j<64:=by have:=(List.getElem?_eq_some_iff.1 hz).1;simpa [h3] using this
          rw [hblk10.cell]
          have:((List.range 64).map fun j=>if j=k then Value.pointer (some ⟨L11.g,L11.b+0,none⟩) else y j)[j]?=some (if j=k then Value.pointer (some ⟨L11.g,L11.b+0,none⟩) else y j):=by simp [hj]
          simp only [List.getElem?_toArray]
          rw [this]
          by_cases ej:j=k
          ·subst ej
           rw [List.getElem?_set_self (by omega)] at hz
           cases hz
           rw [if_pos rfl,hb11]
           rfl
          ·rw [List.getElem?_set_ne (by omega)] at hz
           rw [if_neg ej,hy]
           show some (pcell ((ps[j]?).getD none))=_
           rw [hz]
           rfl
         ·by_cases ej:j=k
          ·subst ej
           have hjl:j<l.length:=(List.getElem?_eq_some_iff.1 hlk).1
           rw [List.getElem?_set_self hjl] at hz
           cases hz
           rw [List.getElem?_set_self (by omega)]
           refine ⟨.inr ⟨hge11,hblk11.lt⟩,x,rfl,L7.g,L7.c,1,none,.inr ⟨hge7,hblk7.lt⟩,by omega,?_,?_,?_,?_,fun i u hu=>?_⟩
           ·rw [hblk11.cell];rfl
           ·rw [hblk11.cell,hb7,hx];rfl
           ·rw [hblk11.cell];rfl
           ·rw [hblk11.cell];rfl
           ·rw [hblk7.cell]
            simp only [List.getElem?_toArray]
            rw [List.getElem?_append_left (List.getElem?_eq_some_iff.1 hu).1]
            exact hu
          ·rw [List.getElem?_set_ne (by omega)] at hz
           rw [List.getElem?_set_ne (by omega)]
           have h6:=h5 j z hz
           split at h6
           ·rename_i q' _
            obtain ⟨hq',b,hb,hv⟩:=h6
            exact ⟨.inl hq',b,hb,verAt_keep hbw (hcv _ hq') hcv (fun _ h=>.inl h) hv⟩
           ·exact h6
     ·exact absurd hbad (by show ¬ 2≤1;decide)
    ·cases hbad
    ·exact absurd hbad (by show ¬ 2≤0;decide)
   ·cases hbad
   ·exact absurd hbad (by show ¬ 2≤0;decide)
  ·cases hbad
  ·exact absurd hbad (by show ¬ 2≤0;decide)
 ·cases hrun
end Go.Proofs.YtjboelhcieepkaaGreatDoor
namespace Go.Proofs.YtjboelhcieepkaaGreatDoor
set_option maxRecDepth 16384
open Go.RowKit
noncomputable def hpR(y:Nat→Value)(k n:Nat)(l:List Nat)(b:Value)(q:Int):Tr:=(((Tre.e.put 0 ⟨5,.arr .u8 n l,2⟩).put 1 ⟨312,.node 1 4 (.one (.v (.bool true))) (.node 1 3 (.one (.w 0 n)) (.node 1 2 (.one (.v (.int .i64 q))) (.one (.v b)))),2⟩).put 2 ⟨203,chk y k (.p 1 0),2⟩).put 3 ⟨240,.one (.p 2 0),2⟩
noncomputable def rout(x:Option (SV×St)):Option (SV×Option HB):=match x with
 |some (y,st)=>some (y,st.hp.get 7)
 |none=>none
noncomputable def rrun(y:Nat→Value)(k m n:Nat)(l:List Nat)(b:Value)(q c:Int):Option (SV×Option HB) :=
 rout (callW H0 Xt 12 74 [dsk (m+(k+1)) c (.w 3 1),.v (.int .i64 (.ofNat k))] (hpR y k n l b q) 4)
noncomputable def rres(n:Nat)(l:List Nat):Option (SV×Option HB):=some (.t [.s 7 0 n n,ok0],some ⟨5,.arr .u8 n l,1⟩)
theorem rN_32_0(y:Nat→Value)(m:Nat)(l:List Nat)(b:Value)(q c:Int):(kd 0 14).map (fun k=>rrun y k m 32 l b q c)=(kd 0 14).map fun _=>rres 32 l:=by kernel_rfl
theorem rN_32_1(y:Nat→Value)(m:Nat)(l:List Nat)(b:Value)(q c:Int):(kd 14 28).map (fun k=>rrun y k m 32 l b q c)=(kd 14 28).map fun _=>rres 32 l:=by kernel_rfl
theorem rN_32_2(y:Nat→Value)(m:Nat)(l:List Nat)(b:Value)(q c:Int):(kd 28 42).map (fun k=>rrun y k m 32 l b q c)=(kd 28 42).map fun _=>rres 32 l:=by kernel_rfl
theorem rN_32_3(y:Nat→Value)(m:Nat)(l:List Nat)(b:Value)(q c:Int):(kd 42 56).map (fun k=>rrun y k m 32 l b q c)=(kd 42 56).map fun _=>rres 32 l:=by kernel_rfl
theorem rN_32(k:Nat)(hk:k<56)(y:Nat→Value)(m:Nat)(l:List Nat)(b:Value)(q c:Int):rrun y k m 32 l b q c=rres 32 l:=of4 (rN_32_0 y m l b q c) (rN_32_1 y m l b q c) (rN_32_2 y m l b q c) (rN_32_3 y m l b q c) k hk
theorem rN_137_0(y:Nat→Value)(m:Nat)(l:List Nat)(b:Value)(q c:Int):(kd 0 14).map (fun k=>rrun y k m 137 l b q c)=(kd 0 14).map fun _=>rres 137 l:=by kernel_rfl
theorem rN_137_1(y:Nat→Value)(m:Nat)(l:List Nat)(b:Value)(q c:Int):(kd 14 28).map (fun k=>rrun y k m 137 l b q c)=(kd 14 28).map fun _=>rres 137 l:=by kernel_rfl
theorem rN_137_2(y:Nat→Value)(m:Nat)(l:List Nat)(b:Value)(q c:Int):(kd 28 42).map (fun k=>rrun y k m 137 l b q c)=(kd 28 42).map fun _=>rres 137 l:=by kernel_rfl
theorem rN_137_3(y:Nat→Value)(m:Nat)(l:List Nat)(b:Value)(q c:Int):(kd 42 56).map (fun k=>rrun y k m 137 l b q c)=(kd 42 56).map fun _=>rres 137 l:=by kernel_rfl
theorem rN_137(k:Nat)(hk:k<56)(y:Nat→Value)(m:Nat)(l:List Nat)(b:Value)(q c:Int):rrun y k m 137 l b q c=rres 137 l:=of4 (rN_137_0 y m l b q c) (rN_137_1 y m l b q c) (rN_137_2 y m l b q c) (rN_137_3 y m l b q c) k hk
theorem rN_185_0(y:Nat→Value)(m:Nat)(l:List Nat)(b:Value)(q c:Int):(kd 0 14).map (fun k=>rrun y k m 185 l b q c)=(kd 0 14).map fun _=>rres 185 l:=by kernel_rfl
theorem rN_185_1(y:Nat→Value)(m:Nat)(l:List Nat)(b:Value)(q c:Int):(kd 14 28).map (fun k=>rrun y k m 185 l b q c)=(kd 14 28).map fun _=>rres 185 l:=by kernel_rfl
theorem rN_185_2(y:Nat→Value)(m:Nat)(l:List Nat)(b:Value)(q c:Int):(kd 28 42).map (fun k=>rrun y k m 185 l b q c)=(kd 28 42).map fun _=>rres 185 l:=by kernel_rfl
theorem rN_185_3(y:Nat→Value)(m:Nat)(l:List Nat)(b:Value)(q c:Int):(kd 42 56).map (fun k=>rrun y k m 185 l b q c)=(kd 42 56).map fun _=>rres 185 l:=by kernel_rfl
theorem rN_185(k:Nat)(hk:k<56)(y:Nat→Value)(m:Nat)(l:List Nat)(b:Value)(q c:Int):rrun y k m 185 l b q c=rres 185 l:=of4 (rN_185_0 y m l b q c) (rN_185_1 y m l b q c) (rN_185_2 y m l b q c) (rN_185_3 y m l b q c) k hk
end Go.Proofs.YtjboelhcieepkaaGreatDoor
namespace Go.Proofs.YtjboelhcieepkaaGreatDoor
set_option maxRecDepth 16384
open Go.RowKit
set_option maxHeartbeats 1000000 in
theorem dread_any(k m n:Nat)(hk:k<56)(hn:n=32∨n=137∨n=185)(w:World)(hg:GlobOk Xt w)(g c0:Nat)(hc0:1≤c0)(hgl:g<w.heap.size)(cv:Nat→Prop)(hcv:∀j,cv j→j<w.heap.size)(l:List (Option VCnt))(hd:diskAt w g cv l)(x:VCnt)(hlk:l[k]?=some (some x))(hx:x.n=n)(q:Int):
 Calls Xt.P 74 #[.agg #[.int .i64 (.ofNat (m+(k+1))),.int .i64 q,.slice (some ⟨g,0,none⟩) 1 c0],.int .i64 (.ofNat k)] w fun e w'=>∃p c rest,e=.returned (.tuple #[.slice (some ⟨p,0,none⟩) n n,.int .i64 0])∧w.heap.size≤p ∧
  Blk w' p 5 (nv .u8 x.l++rest:List Value).toArray∧(nv .u8 x.l).length+rest.length=c∧c≤maxLen∧Below w.heap.size w w':=by
 obtain ⟨p,h1,h2,ps,h3,h4,h5⟩:=hd
 have h6:=h5 k (some x) hlk
 split at h6
 ·rename_i q' hq'
  obtain ⟨hcq,b,hb,a,c,num,nxt,g1,g2,g3,g4,g5,g6,g7⟩:=h6
  cases hb
  rw [hx] at g2 g4
  obtain ⟨y,hy⟩:∃y:Nat→Value,y=fun j=>pcell ((ps[j]?).getD none):=⟨_,rfl⟩
  have hy1:∀j,(y j).oneCell'=true:=fun j=>by rw [hy];rfl
  have hrun:rrun y k m n x.l (.pointer nxt) num q=rres n x.l:=by
   rcases hn with rfl|rfl|rfl
   ·exact rN_32 k hk y m x.l _ num q
   ·exact rN_137 k hk y m x.l _ num q
   ·exact rN_185 k hk y m x.l _ num q
  unfold rrun rout rres at hrun
  split at hrun
  ·rename_i res st hc
   simp only [Option.some.injEq,Prod.mk.injEq] at hrun
   obtain ⟨rfl,e7⟩:=hrun
   have hm1:=(Mem.start Xt w hg).addF AllF.start ⟨a,0,c,none,fun _=>False⟩ 5 (.arr .u8 n x.l) (nv .u8 x.l) (.arr (x.hl.trans hx)) (hcv a g1) (Nat.le_refl _) (fun j v hv=>by
    show w.cell? ⟨a,0+j,none⟩=_
    rw [Nat.zero_add];exact g7 j v hv)
   have hm2:=hm1.addF (AllF.start.put _ _ _) ⟨q',0,0,none,fun _=>False⟩ 312 (.node 1 4 (.one (.v (.bool true))) (.node 1 3 (.one (.w 0 n)) (.node 1 2 (.one (.v (.int .i64 num))) (.one (.v (.pointer nxt)))))) [.bool true,.slice (some ⟨a,0,none⟩) n c,.int .i64 num,.pointer nxt]
    (.node (us:=[.bool true]) (.one (.v _) rfl) (.node (us:=[.slice (some ⟨a,0,none⟩) n c]) (.one (.w (L:=⟨a,0,c,none,fun _=>False⟩) rfl g2) rfl) (.node (us:=[.int .i64 num]) (.one (.v _) rfl) (.one (.v _) rfl) rfl rfl) rfl rfl) rfl rfl) (hcv q' hcq) (Nat.le_refl _) (fun j v hv=>by
    show w.cell? ⟨q',0+j,none⟩=_
    rw [Nat.zero_add]
    match j,hv with
    |0,hv=>cases hv;exact g3
    |1,hv=>cases hv;exact g4
    |2,hv=>cases hv;exact g5
    |3,hv=>cases hv;exact g6
    |j+4,hv=>simp at hv)
   have hm3:=hm2.addF ((AllF.start.put _ _ _).put _ _ _) ⟨p,0,0,none,fun _=>False⟩ 203 (chk y k (.p 1 0)) _ (chk_ok y (.p (n:=1) (o:=0) (L:=⟨q',0,0,none,fun _=>False⟩) rfl) hy1 rfl) (hcv p h2) (Nat.le_refl _) (fun j v hv=>by
    rw [List.getElem?_map] at hv
    obtain ⟨i,hi,rfl⟩:=Option.map_eq_some_iff.1 hv
    obtain ⟨hj,rfl⟩:=List.getElem?_eq_some_iff.1 hi
    simp only [List.getElem_range,List.length_range] at hj ⊢
    show w.cell? ⟨p,0+j,none⟩=_
    rw [Nat.zero_add]
    have hlt:j<ps.length:=by rw [h3];simpa using hj
    have e:=h4 j ps[j] (List.getElem?_eq_getElem hlt)
    rw [e]
    by_cases e2:j=k
    ·subst e2
     rw [List.getElem?_eq_getElem hlt] at hq'
     rw [Option.some.inj hq',if_pos rfl]
     rfl
    ·rw [if_neg e2,hy]
     simp [pcell,List.getElem?_eq_getElem hlt])
   have hm4:=hm3.addF (((AllF.start.put _ _ _).put _ _ _).put _ _ _) ⟨g,0,c0,none,fun _=>False⟩ 240 (.one (.p 2 0)) [.pointer (some ⟨p,0+0,none⟩)] (.one (.p (L:=⟨p,0,0,none,fun _=>False⟩) rfl) rfl) hgl (Nat.le_refl _) (fun j v hv=>by
    cases j with
    |zero=>simp only [List.getElem?_cons_zero,Option.some.injEq] at hv;subst hv;exact h1
    |succ j=>simp at hv)
   have hm5:Mem (E0 Xt w) [⟨a,0,c,none,fun _=>False⟩,⟨q',0,0,none,fun _=>False⟩,⟨p,0,0,none,fun _=>False⟩,⟨g,0,c0,none,fun _=>False⟩] (hpR y k n x.l (.pointer nxt) num) 4 w:=hm4
   have hargs:DenL [(⟨a,0,c,none,fun _=>False⟩:Loc),⟨q',0,0,none,fun _=>False⟩,⟨p,0,0,none,fun _=>False⟩,⟨g,0,c0,none,fun _=>False⟩] [dsk (m+(k+1)) q (.w 3 1),.v (.int .i64 (.ofNat k))] [.agg #[.int .i64 (.ofNat (m+(k+1))),.int .i64 q,.slice (some ⟨g,0,none⟩) 1 c0],.int .i64 (.ofNat k)]:=by
    refine .cons ?_ (.cons (.v _) .nil)
    exact .a (vs:=[.int .i64 (.ofNat (m+(k+1))),.int .i64 q,.slice (some ⟨g,0,none⟩) 1 c0]) (.node (us:=[.int .i64 (.ofNat (m+(k+1)))]) (.one (.v _) rfl) (.node (us:=[.int .i64 q]) (.one (.v _) rfl) (.one (.w (L:=⟨g,0,c0,none,fun _=>False⟩) rfl hc0) rfl) rfl rfl) rfl rfl)
   refine (callW_ok (E:=E0 Xt w) hmx H0_ok hc hargs hm5).mono fun e w' ⟨qq,v,he,hdv,hm⟩=>?_
   obtain ⟨L7,hL7,u7,hd7,⟨hbad,_⟩|⟨_,hge7,hb7,rest,hblk7,hz7,hc7,hmax⟩|⟨hbad,_⟩⟩:=hm.blk 7 _ e7
   ·cases hbad
   ·cases hd7 with|arr hl7 =>
     cases hdv with|t d=>cases d with|cons d1 d2=>cases d2 with|cons d2 d3 =>
      cases d3;cases d2
      cases d1 with|s hq7 =>
       rw [hL7] at hq7
       cases hq7
       rw [hb7] at he
       have hc7':(nv .u8 x.l).length+rest.length=L7.c:=by
        have h:=hc7
        rw [show (E0 Xt w).X.P.cellsOf 5=1 from by kernel_rfl,Nat.mul_one] at h
        exact h
       exact ⟨L7.g,L7.c,rest,he,hge7,hblk7,hc7',hmax,hm.below⟩
   ·exact absurd hbad (by show ¬ 2≤1;decide)
  ·cases hrun
 ·cases h6
end Go.Proofs.YtjboelhcieepkaaGreatDoor
namespace Go.Proofs.YtjboelhcieepkaaGreatDoor
set_option maxRecDepth 16384
open Go.RowKit
noncomputable def tabL:List (FuncId×Leaf):=stops [74] tab4
noncomputable def HL:Hk:=hkD Xt (leafTab tabL) 14 6
theorem HL_ok:HkOk Xt HL:=hkT_ok hmx (stops_ok tab4_ok) 6
noncomputable def secs(n:Nat):Nat:=2*n+2*tot n
noncomputable def dskT(sz:Nat)(q:Int)(v:Value):Rp SV:=packP [.one (i64v sz),.one (.v (.int .i64 q)),.one (.v v)]
noncomputable def volT(n:Nat)(q:Int)(v:Value):Rp SV:=.node 1 4 (.one (i64v n)) (dskT (secs n) q v)
noncomputable def ndA(n lv ix s:Nat)(q:Int)(v:Value)(dg:List Nat):List SV:=[.a (volT n q v),.a (.node 1 2 (.one (i64v lv)) (.one (i64v ix))),i64v s,.a (.arr .u8 32 dg)]
noncomputable def rdR(x:VNode)(k:Nat):SV:=.t [.s k 0 (At.nodeB x).size (At.nodeB x).size,ok0]
noncomputable def rdN(x:VNode):List HB:=[⟨5,.q (.nodeB x),1⟩]
noncomputable def ldE(x:VNode):List Ev:=[.c [] (rdR x) (rdN x),.b false,.b false,.b false,.b false]
def sctr(n lv ix s:Nat):Nat:=bas n lv+(2*ix+s)
noncomputable def ldO(n lv ix s:Nat)(x:VNode)(q:Int)(v:Value)(dg:List Nat):List Ob:=[.c 74 [.a (dskT (secs n) q v),i64v (sctr n lv ix s)] [] [] 10 (rdR x 10) (rdN x),.t false false,.t false false,.t false false,.t (!(decide (Sh.shaF x.bytes=dg)&&true)) false]
noncomputable def pr0:Rp SV:=.node 1 2 (.one (i64v 0)) (.one (.v (.int .u8 0)))
noncomputable def ldX(n lv ix s:Nat)(R:Nat→VRec)(E:Nat→VEnt)(q:Int)(v:Value)(dg:List Nat):Pos×List Ob:=evRun ⟨[14],[],1⟩ HL Xt 12 (ldE (ndR n R E lv ix)) (evPos Xt 181 (ndA n lv ix s q v dg) .e 0)
noncomputable def ldRun(n:Nat)(R:Nat→VRec)(E:Nat→VEnt)(q:Int)(v:Value)(dg:List Nat)(d:(Nat×Nat)×Nat):Option SV×List Ob:=((finP Xt 181 (ldX n d.1.1 d.1.2 d.2 R E q v dg).1).map (·.1),(ldX n d.1.1 d.1.2 d.2 R E q v dg).2)
noncomputable def ndRes(x:VNode):SV:=.t [.a (.q (.node x)),.a pr0,ok0]
noncomputable def ldExp(n:Nat)(R:Nat→VRec)(E:Nat→VEnt)(q:Int)(v:Value)(dg:List Nat)(d:(Nat×Nat)×Nat):Option SV×List Ob:=(some (ndRes (ndR n R E d.1.1 d.1.2)),ldO n d.1.1 d.1.2 d.2 (ndR n R E d.1.1 d.1.2) q v dg)
def ldDom(n:Nat):List ((Nat×Nat)×Nat):=(plcs n).flatMap fun p=>[(p,0),(p,1)]
def LdP(n:Nat):Prop:=∀(R:Nat→VRec) (E:Nat→VEnt) (q:Int) (v:Value) (dg:List Nat),(ldDom n).map (ldRun n R E q v dg)=(ldDom n).map (ldExp n R E q v dg)
theorem ld_1:LdP 1:=by intro R E q v dg;kernel_rfl
theorem ld_2:LdP 2:=by intro R E q v dg;kernel_rfl
theorem ld_3:LdP 3:=by intro R E q v dg;kernel_rfl
theorem ld_4:LdP 4:=by intro R E q v dg;kernel_rfl
theorem ld_5:LdP 5:=by intro R E q v dg;kernel_rfl
theorem ld_6:LdP 6:=by intro R E q v dg;kernel_rfl
theorem ld_7:LdP 7:=by intro R E q v dg;kernel_rfl
theorem ld_8:LdP 8:=by intro R E q v dg;kernel_rfl
theorem ld_9:LdP 9:=by intro R E q v dg;kernel_rfl
theorem ld_10:LdP 10:=by intro R E q v dg;kernel_rfl
theorem ld_11:LdP 11:=by intro R E q v dg;kernel_rfl
theorem ld_12:LdP 12:=by intro R E q v dg;kernel_rfl
theorem ld_13:LdP 13:=by intro R E q v dg;kernel_rfl
theorem ld_14:LdP 14:=by intro R E q v dg;kernel_rfl
theorem ld_15:LdP 15:=by intro R E q v dg;kernel_rfl
theorem ld_16:LdP 16:=by intro R E q v dg;kernel_rfl
theorem ld_17:LdP 17:=by intro R E q v dg;kernel_rfl
theorem ld_18:LdP 18:=by intro R E q v dg;kernel_rfl
theorem ld_19:LdP 19:=by intro R E q v dg;kernel_rfl
theorem ld_20:LdP 20:=by intro R E q v dg;kernel_rfl
theorem ld_any:∀n,1≤n→n≤20→LdP n
 |1,_,_=>ld_1
 |2,_,_=>ld_2
 |3,_,_=>ld_3
 |4,_,_=>ld_4
 |5,_,_=>ld_5
 |6,_,_=>ld_6
 |7,_,_=>ld_7
 |8,_,_=>ld_8
 |9,_,_=>ld_9
 |10,_,_=>ld_10
 |11,_,_=>ld_11
 |12,_,_=>ld_12
 |13,_,_=>ld_13
 |14,_,_=>ld_14
 |15,_,_=>ld_15
 |16,_,_=>ld_16
 |17,_,_=>ld_17
 |18,_,_=>ld_18
 |19,_,_=>ld_19
 |20,_,_=>ld_20
 |n+21,_,h=>absurd h (by omega)
 |0,h,_=>absurd h (by omega)
theorem diskAt_keep{w w':World}{g:Nat}{cv:Nat→Prop}{l:List (Option VCnt)}(h:diskAt w g cv l)(hb:Below w.heap.size w w')(hg:g<w.heap.size)(hcv:∀j,cv j→j<w.heap.size):diskAt w' g cv l :=
 ghT_s 1 0 w w' g cv l h (hb.block g hg) fun k hk=>hb.block k (hcv k hk)
theorem sctr_all:(lt2 20 fun _=>3).map (fun q=>(List.range (cnt (q.1+1) q.2)).all fun i=>Nat.blt (sctr (q.1+1) q.2 i 1) (secs (q.1+1))&&Nat.ble (secs (q.1+1)) 56)=(lt2 20 fun _=>3).map (fun _=>true):=by kernel_rfl
theorem sctr_lt{n lv ix s:Nat}(h1:1≤n)(h20:n≤20)(hl:lv<3)(hi:ix<cnt n lv)(hs:s<2):sctr n lv ix s<secs n∧secs n≤56:=by
 obtain ⟨m,rfl⟩:∃m,n=m+1:=⟨n-1,by omega⟩
 have:=all_of sctr_all (mem_lt2 (f:=fun _=>3) (show m<20 by omega) hl)
 simp only [List.all_eq_true,List.mem_range,Bool.and_eq_true,blt_iff,ble_iff,decide_eq_true_eq] at this
 have h:=this ix hi
 unfold sctr at h ⊢
 exact ⟨by omega,h.2⟩
theorem nodeB_n(x:VNode):(VCnt.nd x).n=(At.nodeB x).size∧((VCnt.nd x).n=32∨(VCnt.nd x).n=137∨(VCnt.nd x).n=185):=by cases x<;>exact ⟨rfl,by simp [VCnt.n]⟩
structure DskIs(w:World)(g c0:Nat)(L:List (Option VCnt)) where
 cv:Nat→Prop
 hg:g<w.heap.size
 hc:1≤c0
 hcv:∀j,cv j→j<w.heap.size
 hd:diskAt w g cv L
theorem read_ob{w:World}{n lv ix s g c0 nx:Nat}{x:VNode}{q:Int}{L:List (Option VCnt)}(h1:1≤n)(h20:n≤20)(hl:lv<3)(hi:ix<cnt n lv)(hs:s<2)(hd:DskIs w g c0 L)(hL:L[sctr n lv ix s]?=some (some (.nd x))):
 CallOb (E0 Xt w) 74 [.a (dskT (secs n) q (.slice (some ⟨g,0,none⟩) 1 c0)),i64v (sctr n lv ix s)] [] [] nx (rdR x nx) (rdN x):=by
 intro r vals w1 hp ha hm _
 obtain ⟨hlt,h56⟩:=sctr_lt h1 h20 hl hi hs
 obtain ⟨m,hmk⟩:∃m,secs n=m+(sctr n lv ix s+1):=⟨secs n-(sctr n lv ix s+1),by omega⟩
 refine ⟨fun w'=>enters (by kernel_rfl) _ w',?_⟩
 have hb:Below w.heap.size w w1:=hm.below
 have hv:vals=[.agg #[.int .i64 (.ofNat (m+(sctr n lv ix s+1))),.int .i64 q,.slice (some ⟨g,0,none⟩) 1 c0],.int .i64 (.ofNat (sctr n lv ix s))]:=by
  cases ha with|cons d1 t=>cases t with|cons d2 t =>
   cases t;cases d2
   cases d1 with|a d1 =>
    have d1':DenC r (.node 1 3 (.one (i64v (secs n))) (.node 1 2 (.one (.v (.int .i64 q))) (.one (.v (.slice (some ⟨g,0,none⟩) 1 c0))))) _:=d1
    cases d1' with|node e1 e2 _ _=>cases e2 with|node e2 e3 _ _ =>
     rw [one_inv e1,one_inv e2,one_inv e3,hmk]
     rfl
 rw [hv]
 obtain ⟨hn1,hn2⟩:=nodeB_n x
 refine (dread_any (sctr n lv ix s) m (VCnt.nd x).n (by omega) hn2 w1 hm.globs g c0 hd.hc (Nat.lt_of_lt_of_le hd.hg hb.size) hd.cv (fun j hj=>Nat.lt_of_lt_of_le (hd.hcv j hj) hb.size) L (diskAt_keep hd.hd hb hd.hg hd.hcv) (.nd x) hL rfl q).mono ?_
 rintro e w' ⟨p,c,rest,rfl,hp1,hblk,hlen,hmax,hbw⟩
 refine ⟨[⟨p,0,c,none,fun _=>False⟩],_,rfl,?_,?_⟩
 ·rw [hn1]
  exact .t (.cons (Den.s (L:=⟨p,0,c,none,fun _=>False⟩) (o:=0) (by rw [←hm.len];simp)) (.cons (.v _) .nil))
 ·exact hm.add1 hbw ⟨p,0,c,none,fun _=>False⟩ ⟨5,.q (.nodeB x),1⟩ hp1 ⟨_,.q (.nodeB x),.inr (.inl ⟨rfl,Nat.le_trans hm.below.size hp1,rfl,rest,hblk,by rw [show (E0 Xt w).X.P.cellsOf 5=1 from by kernel_rfl];decide,by rw [show (E0 Xt w).X.P.cellsOf 5=1 from by kernel_rfl,Nat.mul_one];exact hlen,hmax⟩)⟩ (.inl (by show 1<2;decide))
theorem mem_plcs{n lv ix:Nat}(hl:lv<3)(hi:ix<cnt n lv):(lv,ix)∈plcs n:=mem_lt2 (f:=cnt n) hl hi
theorem node_call(n lv ix s g c0:Nat)(R:Nat→VRec)(E:Nat→VEnt)(q:Int)(h1:1≤n)(h20:n≤20)(hl:lv<3)(hi:ix<cnt n lv)(hs:s<2)(w:World)(hg:GlobOk Xt w)(L:List (Option VCnt))(hd:DskIs w g c0 L)(hL:L[sctr n lv ix s]?=some (some (.nd (ndR n R E lv ix))))
 (dg:List Nat) (hdg:Sh.shaF (ndR n R E lv ix).bytes=dg) :
 Calls Xt.P 181 #[.agg #[.int .i64 (n:Int),.int .i64 (secs n:Int),.int .i64 q,.slice (some ⟨g,0,none⟩) 1 c0],.agg #[.int .i64 (lv:Int),.int .i64 (ix:Int)],.int .i64 (s:Int),.agg (nv .u8 dg).toArray] w fun e w' =>
  e=.returned (.tuple #[.agg (ndR n R E lv ix).vals.toArray,.agg #[.int .i64 0,.int .u8 0],.int .i64 0])∧Below w.heap.size w w':=by
 have hmem:((lv,ix),s)∈ldDom n:=by
  simp only [ldDom,List.mem_flatMap]
  refine ⟨(lv,ix),mem_plcs hl hi,?_⟩
  rcases s with _|_|s
  ·simp
  ·simp
  ·omega
 have h:=all_of (ld_any n h1 h20 R E q (.slice (some ⟨g,0,none⟩) 1 c0) dg) hmem
 unfold ldRun ldExp at h
 simp only [Prod.mk.injEq] at h
 obtain ⟨h2,h3⟩:=h
 obtain ⟨⟨res,st⟩,h4,h5⟩:=Option.map_eq_some_iff.1 h2
 simp only at h5
 subst h5
 refine (evCall_ok (E:=E0 Xt w) (r:=[]) (vals:=[.agg #[.int .i64 (n:Int),.int .i64 (secs n:Int),.int .i64 q,.slice (some ⟨g,0,none⟩) 1 c0],.agg #[.int .i64 (lv:Int),.int .i64 (ix:Int)],.int .i64 (s:Int),.agg (nv .u8 dg).toArray]) hmx HL_ok h4 ?_ ?_ (Mem.start Xt w hg)).mono ?_
 ·intro ob hob
  have hob':ob∈(ldX n lv ix s R E q (.slice (some ⟨g,0,none⟩) 1 c0) dg).2:=hob
  rw [h3] at hob'
  simp only [ldO,List.mem_cons,List.not_mem_nil,or_false] at hob'
  rcases hob' with rfl|rfl|rfl|rfl|rfl
  ·exact read_ob h1 h20 hl hi hs hd hL
  ·rfl
  ·rfl
  ·rfl
  ·show (!(decide (Sh.shaF (ndR n R E lv ix).bytes=dg)&&true))=false
   simp [hdg]
 ·refine .cons ?_ (.cons ?_ (.cons (.v _) (.cons (.a (.arr (by rw [←hdg];exact shaF_len _))) .nil)))
  ·exact .a (vs:=[.int .i64 (n:Int),.int .i64 (secs n:Int),.int .i64 q,.slice (some ⟨g,0,none⟩) 1 c0]) (.node (us:=[.int .i64 (n:Int)]) (.one (.v _) rfl) (.node (us:=[.int .i64 (secs n:Int)]) (.one (.v _) rfl) (.node (us:=[.int .i64 q]) (.one (.v _) rfl) (.one (.v _) rfl) rfl rfl) rfl rfl) rfl rfl)
  ·exact .a (vs:=[.int .i64 (lv:Int),.int .i64 (ix:Int)]) (.node (us:=[.int .i64 (lv:Int)]) (.one (.v _) rfl) (.one (.v _) rfl) rfl rfl)
 ·rintro e w' ⟨qq,v,he,hdv,hm⟩
  refine ⟨?_,hm.below⟩
  rw [he]
  cases hdv with|t d=>cases d with|cons d1 d=>cases d with|cons d2 d=>cases d with|cons d3 d =>
   cases d;cases d3
   cases d1 with|a d1 =>
    cases d1
    cases d2 with|a d2=>cases d2 with|node e1 e2 _ _=>rw [one_inv e1,one_inv e2];rfl
end Go.Proofs.YtjboelhcieepkaaGreatDoor
namespace Go.Proofs.YtjboelhcieepkaaGreatDoor
set_option maxRecDepth 16384
open Go.RowKit
theorem VCnt.byt(x:VCnt):Sh.Byt x.l:=by
 cases x with
 |nd x=>exact x.byt
 |by_ x=>exact x.hb
theorem bst_foldB:∀(l:List Nat) (r:ByteArray),(l.map fun x:Nat=>(x:Int)).foldl (fun r n=>r.push (UInt8.ofNat n.toNat)) r=⟨r.data++(l.map UInt8.ofNat).toArray⟩
 |[],r=>by simp
 |x::l,r=>by
  simp only [List.map_cons,List.foldl_cons]
  rw [bst_foldB l]
  simp [ByteArray.push]
theorem bst_dataB(l:List Nat):(bst l).data=(l.map UInt8.ofNat).toArray:=by
 unfold bst
 rw [bst_foldB]
 simp
theorem bst_sizeB(l:List Nat):(bst l).size=l.length:=by
 show (bst l).data.size=_
 rw [bst_dataB];simp
theorem str_bytesB(l:List Nat)(hb:Sh.Byt l)(n:Nat)(hn:l.length=n)(w:World):∃g c W',(convert 9 23 (.string (bst l))).run Tryz.prog w=.ok (.slice (some ⟨g,0,none⟩) n c) W'∧g<W'.heap.size∧(∀j v,(nv .u8 l)[j]?=some v→W'.cell? ⟨g,j,none⟩=some v)∧n≤c∧w.heap.size≤g∧Below w.heap.size w W':=by
 have hsz:(bst l).size=n:=by rw [bst_sizeB,hn]
 have h:=run_bytes_of_string (P:=Tryz.prog) w 9 23 5 (bst l) Tryz.underlying9 Tryz.underlying23 Tryz.underlying5
 rw [hsz] at h
 have hc:=grownCap_ge w n 0 5
 generalize grownCap w n 0 5=c at *
 refine ⟨_,c,_,h,by simp,fun j v hv=>?_,hc,Nat.le_refl _,(below_drewN (Below.refl _ w) 1).alloc (Nat.le_refl _) _⟩
 have hj:j<l.length:=by
  rcases Nat.lt_or_ge j l.length with h1|h1
  ·exact h1
  ·rw [List.getElem?_eq_none (by rw [nv_len];exact h1)] at hv;cases hv
 rw [nv_get hj] at hv
 have hd:j<(bst l).data.size:=by rw [bst_dataB];simpa using hj
 have hx:=hb.get j
 refine (World.cell?_alloc_mark w.drew _ _ _ j).trans ?_
 rw [bytesRow_at _ _ _ hd,←hv]
 have e:((bst l).data[j]).toNat=l.getD j 0:=by
  simp only [bst_dataB,List.getElem_toArray,List.getElem_map]
  rw [List.getD_eq_getElem?_getD,List.getElem?_eq_getElem hj] at hx ⊢
  simp only [Option.getD_some] at hx ⊢
  rw [UInt8.toNat_ofNat']
  omega
 rw [e]
noncomputable def evStr(p:Pos):Option Pos:=match p.h with
 | .ops ops (o::rest)=>(match guardS ops p.st.ts o.guard with
  |some true=>(match o.op with
   | .convert a b x=>(match ev p.st.ts x with
    | .b y=>bif Nat.beq a 9&&Nat.beq b 23 then some ⟨.ops ops rest,p.k,⟨putS p.st.ts o.dst (.w p.st.nx y.n),p.st.hp.put p.st.nx ⟨5,.arr .u8 y.n y.l,7⟩,p.st.nx+1⟩⟩ else none
    |_=>none)
   |_=>none)
  |_=>none)
 |_=>none
theorem evStr_ok{E:Env}{Q0:Post}{r0:List Loc}{p q:Pos}(hE:E.X=Xt)(h:evStr p=some q)(hx:Xp E r0 Q0 q):Xp E r0 Q0 p:=by
 unfold evStr at h
 split at h
 ·rename_i ops o rest hp
  split at h
  ·rename_i hg
   split at h
   ·rename_i a b x ho
    split at h
    ·rename_i y hy
     cases hq:Nat.beq a 9&&Nat.beq b 23 with
     |false=>rw [hq] at h;cases h
     |true =>
      rw [hq] at h;cases h
      rw [Bool.and_eq_true] at hq
      obtain rfl:=Nat.eq_of_beq_eq_true hq.1
      obtain rfl:=Nat.eq_of_beq_eq_true hq.2
      intro r vs w Q hr hs hm hk
      rw [hp]
      have hv:=Den.ev (df:=dfOf r p.k) hs x
      rw [hy] at hv
      generalize hxv:Act.eval ⟨vs.toArray,dfOf r p.k⟩ x=xv at hv
      cases hv
      obtain ⟨g,c,W',hrun,hgl,hcell,hc,hge,hb⟩:=str_bytesB y.l y.byt y.n y.hl w
      have hr2:(execOp (Act.eval ⟨vs.toArray,dfOf r p.k⟩) o).run E.X.P w=.ok (.value (.slice (some ⟨g,0,none⟩) y.n c)) W':=by
       have hrun':(convert 9 23 (.string (bst y.l))).run E.X.P w=.ok (.slice (some ⟨g,0,none⟩) y.n c) W':=by rw [hE];exact hrun
       simp [execOp,ho,hxv,hrun']
      refine WI_val (guardS_ok hs hg) hr2 ?_
      have hm':=hm.add1 hb ⟨g,0,c,none,fun _=>False⟩ ⟨5,.arr .u8 y.n y.l,7⟩ hge ⟨nv .u8 y.l,.arr y.hl,.inr (.inr ⟨by show 2≤7;decide,hgl,fun j v hv=>by
       show W'.cell? ⟨g,0+j,none⟩=_
       rw [Nat.zero_add];exact hcell j v hv,⟨fun h=>absurd h (by show ¬ 7=5;decide),fun h=>absurd h (by show ¬ 7=6;decide),fun _=>Nat.le_trans hm.below.size hge,fun h=>absurd h (by show ¬ 7=8;decide)⟩⟩)⟩ (.inr (by show 5≤7;decide))
      have:=hx (r++[⟨g,0,c,none,fun _=>False⟩]) _ W' Q (ext hr _) (DenS.putS (hs.mono _) (Den.w (L:=⟨g,0,c,none,fun _=>False⟩) (by rw [←hm.len];simp) hc) o.dst) hm' (hk.mono _)
      simp only [HdOk,(hk.same _).1,(hk.same _).2] at this
      exact this
    ·cases h
   ·cases h
  ·cases h
 ·cases h
noncomputable def delAll(hp:Tr)(l:List Nat):Tr:=List.rec (motive:=fun _=>Tr→Tr) (fun hp=>hp) (fun n _ ih hp=>ih (hp.del n)) l hp
def CallObX(E:Env)(g:FuncId)(args:List SV)(ns:List Nat)(bs:List (Option HB))(ds:List Nat)(nx:Nat)(res:SV)(new:List HB):Prop :=
 ∀(r:List Loc) (vals:List Value) (w:World) (hp:Tr),DenL r args vals→Mem E r hp nx w→(ns.map fun n=>nrmB (hp.get n))=bs →
  (∀w',(callFunc g vals.toArray).run E.X.P w'=.ok (.enter g vals.toArray) w')∧Calls E.X.P g vals.toArray w fun e w'=>∃q v,e=.returned v∧Den (r++q) res v∧Mem E (r++q) (putAll (delAll hp ds) nx new).1 (putAll (delAll hp ds) nx new).2 w'
structure ObX where
 g:FuncId
 args:List SV
 ns:List Nat
 bs:List (Option HB)
 ds:List Nat
 nx:Nat
 res:SV
 new:List HB
def ObX.Holds(E:Env)(o:ObX):Prop:=CallObX E o.g o.args o.ns o.bs o.ds o.nx o.res o.new
noncomputable def evCallX(ns ds:List Nat)(res:Nat→SV)(new:List HB)(p:Pos):Option (Pos×ObX):=match p.h with
 | .ops ops (o::rest)=>(match guardS ops p.st.ts o.guard with
  |some true=>(match o.op with
   | .call c=>(match c.callee with
    | .value f=>(match ev p.st.ts f with
     | .f (.func g) a b=>some (⟨.ops ops rest,p.k,⟨putS p.st.ts o.dst (res p.st.nx),(putAll (delAll p.st.hp ds) p.st.nx new).1,(putAll (delAll p.st.hp ds) p.st.nx new).2⟩⟩,⟨g,(a++(c.args.toList.map (ev p.st.ts)++b)).map nrmV,ns,ns.map fun n=>nrmB (p.st.hp.get n),ds,p.st.nx,res p.st.nx,new⟩)
     |_=>none)
    |_=>none)
   |_=>none)
  |_=>none)
 |_=>none
theorem evCallX_ok{E:Env}{Q0:Post}{r0:List Loc}{ns ds:List Nat}{res:Nat→SV}{new:List HB}{p q:Pos}{ob:ObX}(h:evCallX ns ds res new p=some (q,ob))(ho:ob.Holds E)(hx:Xp E r0 Q0 q):Xp E r0 Q0 p:=by
 unfold evCallX at h
 split at h
 ·rename_i ops o rest hp
  split at h
  ·rename_i hg
   split at h
   ·rename_i c hc
    split at h
    ·rename_i f hf
     split at h
     ·rename_i g a b he
      cases h
      intro r vs w Q hr hs hm hk
      rw [hp]
      refine WI_loud (by unfold noDefer;rw [hc]) (guardS_ok hs hg) ?_
      refine call_wp hc hf he hs fun vals hv=>?_
      obtain ⟨h1,h2⟩:=ho r vals w _ (nrmVL_ok hv) hm rfl
      refine ⟨h1,h2.mono fun e w' ⟨s,v,h3,h4,h5⟩=>⟨v,h3,?_⟩⟩
      have:=hx (r++s) _ w' Q (ext hr s) (DenS.putS (hs.mono s) h4 o.dst) h5 (hk.mono s)
      simp only [HdOk,(hk.same s).1,(hk.same s).2] at this
      exact this
     ·cases h
    ·cases h
   ·cases h
  ·cases h
 ·cases h
end Go.Proofs.YtjboelhcieepkaaGreatDoor
namespace Go.Proofs.YtjboelhcieepkaaGreatDoor
set_option maxRecDepth 16384
open Go.RowKit
abbrev RecF:=FuncId→List SV→Tr→Nat→Option (SV×St)
structure Orc where
 g:FuncId
 ns:List Nat
 ds:List Nat
 res:Nat→SV
 new:List HB
def ObX.Any(X:Ctx)(w0:World)(o:ObX):Prop:=∀E:Env,E.X=X→E.w0=w0→o.Holds E
inductive ObY where
 |c (o:ObX)
 |t (e x:Bool)
def ObY.Any(X:Ctx)(w0:World):ObY→Prop
 | .c o=>o.Any X w0
 | .t e x=>e=x
noncomputable def lookT(d:Tmp):List (Tmp×Bool)→Option Bool
 |[]=>none
 |p::l=>bif Nat.beq p.1 d then some p.2 else lookT d l
noncomputable def tellT(tl:List (Tmp×Bool))(d:Option Tmp)(y:SV):SV×List ObY:=match d with
 |some t=>(match lookT t tl with
  |some x=>(match y with
   | .v (.bool e)=>(.v (.bool x),[.t e x])
   |_=>(y,[]))
  |none=>(y,[]))
 |none=>(y,[])
theorem tellT_eq{X:Ctx}{w0:World}{tl:List (Tmp×Bool)}{d:Option Tmp}{y:SV}(h:∀ob∈(tellT tl d y).2,ob.Any X w0):(tellT tl d y).1=y:=by
 unfold tellT at h ⊢
 cases d with
 |none=>rfl
 |some t =>
  simp only at h ⊢
  cases hx:lookT t tl with
  |none=>rfl
  |some x =>
   rw [hx] at h
   simp only at h ⊢
   revert h
   split
   ·rename_i e
    intro h
    have:=h (.t e x) (by simp)
    rw [show e=x from this]
   ·intro _;rfl
noncomputable def lookO(g:FuncId):List Orc→Option Orc
 |[]=>none
 |o::l=>bif Nat.beq o.g g then some o else lookO g l
noncomputable def recO(tb:List Orc)(rec:RecF):RecF:=fun g args hp nx=>match lookO g tb with
 |some o=>some (o.res nx,⟨⟨.e,0⟩,(putAll (delAll hp o.ds) nx o.new).1,(putAll (delAll hp o.ds) nx o.new).2⟩)
 |none=>rec g args hp nx
noncomputable def obO(tb:List Orc)(g:FuncId)(args:List SV)(hp:Tr)(nx:Nat):List ObY:=match lookO g tb with
 |some o=>[.c ⟨g,args.map nrmV,o.ns,o.ns.map fun n=>nrmB (hp.get n),o.ds,nx,o.res nx,o.new⟩]
 |none=>[]
noncomputable def loudO(tb:List Orc)(o:Oper)(ts:Sl)(hp:Tr)(nx:Nat):List ObY:=match o.op with
 | .call c=>(match c.callee with
  | .value f=>(match ev ts f with
   | .f (.func g) a b=>obO tb g (a++(c.args.toList.map (ev ts)++b)) hp nx
   |_=>[])
  |_=>[])
 |_=>[]
def GoodC(X:Ctx)(w0:World)(rec:RecF)(g:FuncId)(args:List SV)(hp:Tr)(nx:Nat):Prop:=∀res st,rec g args hp nx=some (res,st)→∀(E:Env) (r:List Loc) (vals:List Value) (w:World),E.X=X→E.w0=w0→DenL r args vals→Mem E r hp nx w →
 (∀w',(callFunc g vals.toArray).run X.P w'=.ok (.enter g vals.toArray) w')∧Calls X.P g vals.toArray w fun e w'=>∃q v,e=.returned v∧Den (r++q) res v∧Mem E (r++q) st.hp st.nx w'
open Classical in
noncomputable def recG(X:Ctx)(w0:World)(rec:RecF):RecF:=fun g args hp nx=>if GoodC X w0 rec g args hp nx then rec g args hp nx else none
theorem recG_ok(X:Ctx)(w0:World)(rec:RecF):RecOk X w0 (recG X w0 rec):=by
 intro g args hp nx res st h
 unfold recG at h
 split at h
 ·rename_i hg;exact hg res st h
 ·cases h
section
variable {X:Ctx}{w0:World}{tb:List Orc}{rec:RecF}
theorem goodO(hrec:RecOk X w0 rec){g:FuncId}{args:List SV}{hp:Tr}{nx:Nat}(ho:∀ob∈obO tb g args hp nx,ob.Any X w0):GoodC X w0 (recO tb rec) g args hp nx:=by
 intro res st h E r vals w hE h0 ha hm
 unfold recO at h
 unfold obO at ho
 cases hl:lookO g tb with
 |none =>
  rw [hl] at h
  exact hrec g args hp nx res st h E r vals w hE h0 ha hm
 |some o =>
  rw [hl] at h ho
  simp only [Option.some.injEq,Prod.mk.injEq] at h
  obtain ⟨rfl,rfl⟩:=h
  have:=ho _ (List.mem_singleton.2 rfl) E hE h0 r vals w hp (nrmVL_ok ha) hm rfl
  rw [hE] at this
  exact this
theorem loudS_G(hrec:RecOk X w0 rec){o:Oper}{ts:Sl}{hp:Tr}{nx:Nat}(h:∀ob∈loudO tb o ts hp nx,ob.Any X w0):loudS X (recG X w0 (recO tb rec)) o ts hp nx=loudS X (recO tb rec) o ts hp nx:=by
 have key:∀g args,(∀ob∈obO tb g args hp nx,ob.Any X w0)→recG X w0 (recO tb rec) g args hp nx=recO tb rec g args hp nx:=fun g args h=>if_pos (goodO hrec h)
 unfold loudS
 unfold loudO at h
 split
 ·rfl
 ·rename_i c hc
  rw [hc] at h
  simp only at h
  split
  ·rename_i f hf
   rw [hf] at h
   simp only at h
   split
   ·rename_i g a b hv
    rw [hv] at h
    simp only at h
    rw [key _ _ h]
   ·rfl
  ·rfl
 ·rfl
end
noncomputable def anyT(X:Ctx)(tb:List Orc)(tl:List (Tmp×Bool))(rec:RecF)(ops:Array Oper)(te:List En)(stop:Nat→Bool)(hpF:Nat→Tr):Nat→Nat→Sl→Tr→Nat→List ObY→Option (Nat×St×List ObY)
 |0,_,_,_,_,_=>none
 |fu+1,m,ts,hp,nx,lg =>
  bif stopAt stop ((readyG te m).map En.i) then some (m,⟨ts,hp,nx⟩,lg) else
  bif ((readyG te m).filter (fun e=>isAl ops ts e.i)).all (alOkF X ops m ts) then
   (match pureTryF X ops m ts hpF nx (readyG te m) with
   |some (e,o,y)=>anyT X tb tl rec ops te stop hpF fu (Nat.lor m e.w) (putS ts o.dst (tellT tl o.dst y).1) hp nx ((tellT tl o.dst y).2++lg)
   |none=>(match (readyG te m).filter (fun e=>!isAl ops ts e.i) with
    |[c]=>(match ops[c.i]? with
     |some o=>bif isOne (readyG te (orL m ((readyG te m).filter (fun e=>isAl ops ts e.i)))) c.i then (match guardS ops ts o.guard,loudS X (recO tb rec) o ts hp nx with
      |some true,some (y,hp',nx')=>anyT X tb tl rec ops te stop hpF fu (Nat.lor m c.w) (putS ts o.dst y) hp' nx' (loudO tb o ts hp nx++lg)
      |_,_=>none) else none
     |none=>none)
    |[]=>(match (readyG te m).filter (fun e=>isAl ops ts e.i) with
     |a::rest=>(match ops[a.i]? with
      |some o=>bif isOne (readyG te (orL m rest)) a.i then (match opS X ⟨ts,hp,nx⟩ o.op o.type with
       |some (y,hp',nx')=>anyT X tb tl rec ops te stop hpF fu (Nat.lor m a.w) (putS ts o.dst y) hp' nx' lg
       |none=>none) else none
      |none=>none)
     |[]=>none)
    |_=>none))
  else none
noncomputable def phasesT(X:Ctx)(tb:List Orc)(tl:List (Tmp×Bool))(rec:RecF)(ops:Array Oper)(te:List En)(tab:List (Nat×Nat))(hpF:Nat→Tr):Nat→List (Nat×HB)→Nat→St→List ObY→Option (St×List ObY)
 |0,_,_,_,_=>none
 |f+1,lk,m,st,lg=>match anyT X tb tl rec ops te (stopN ops tab lk) hpF (ops.size+1) m st.ts st.hp st.nx lg with
  |none=>none
  |some (m1,st1,lg1)=>match readyG te m1 with
   |[]=>(match relL (fun _=>true) lk st1.hp with
    |some (hp,_)=>some (⟨st1.ts,hp,st1.nx⟩,lg1)
    |none=>none)
   |c::_=>(match relL (fun n=>cN ops tab n c.i) lk st1.hp with
    |some (hp,lk')=>phasesT X tb tl rec ops te tab hpF f lk' m1 ⟨st1.ts,hp,st1.nx⟩ lg1
    |none=>none)
noncomputable def regGoT(X:Ctx)(tb:List Orc)(tl:List (Tmp×Bool))(rec:RecF)(ops:Array Oper)(st:St)(tab:List (Nat×Nat)):Option (St×List ObY):=match lockL tab st.hp [] with
 |(hp,lk)=>phasesT X tb tl rec ops (tbE ops) tab (hpFof tab st.hp) (lk.length+2) lk 0 ⟨hideS ops.toList st.ts,hp,st.nx⟩ []
noncomputable def regT(hl:FuncId→Option (List SV→Tr→Nat→Option (SV×St)))(X:Ctx)(tb:List Orc)(tl:List (Tmp×Bool))(rec:RecF)(ops:Array Oper)(st:St):Option (St×List ObY) :=
 bif Region.noSelect ops&&(selfOk ops&&ops.toList.all noDefer) then regGoT X tb tl rec ops st (hintS hl X st.hp st.nx ops.toList 0 st.ts []) else none
section
variable {X:Ctx}{w0:World}{tb:List Orc}{tl:List (Tmp×Bool)}{rec:RecF}{ops:Array Oper}
theorem anyT_ok(hrec:RecOk X w0 rec){te:List En}{stop:Nat→Bool}{hpF:Nat→Tr}:∀(fu:Nat) {m:Nat} {ts:Sl} {hp:Tr} {nx:Nat} {lg:List ObY} {m':Nat} {st':St} {lg':List ObY},anyT X tb tl rec ops te stop hpF fu m ts hp nx lg=some (m',st',lg') →
 (∀ob∈lg,ob∈lg')∧((∀ob∈lg',ob.Any X w0)→anyF X (recG X w0 (recO tb rec)) ops te stop hpF fu m ts hp nx=some (m',st'))
 |0,_,_,_,_,_,_,_,_,h=>by cases h
 |fu+1,m,ts,hp,nx,lg,m',st',lg',h=>by
  unfold anyT at h
  unfold anyF
  cases h1:stopAt stop ((readyG te m).map En.i) with
  |true =>
   rw [h1] at h
   cases h
   exact ⟨fun _ h=>h,fun _=>rfl⟩
  |false =>
   rw [h1] at h
   simp only [cond_false] at h ⊢
   cases h2:((readyG te m).filter (fun e=>isAl ops ts e.i)).all (alOkF X ops m ts) with
   |false=>rw [h2] at h;cases h
   |true =>
    rw [h2] at h
    simp only [cond_true] at h ⊢
    split at h
    ·rename_i e o y h3
     rw [h3]
     obtain ⟨i1,i2⟩:=anyT_ok hrec fu h
     refine ⟨fun ob hob=>i1 ob (List.mem_append_right _ hob),fun hall=>?_⟩
     have:=i2 hall
     rw [tellT_eq fun ob hob=>hall ob (i1 ob (List.mem_append_left _ hob))] at this
     exact this
    ·rename_i h3
     rw [h3]
     simp only
     split at h
     ·rename_i c h4
      rw [h4]
      simp only
      split at h
      ·rename_i o h5
       rw [h5]
       simp only
       cases h6:isOne (readyG te (orL m ((readyG te m).filter (fun e=>isAl ops ts e.i)))) c.i with
       |false=>rw [h6] at h;cases h
       |true =>
        rw [h6] at h
        simp only [cond_true] at h ⊢
        split at h
        ·rename_i y hp' nx' h7 h8
         obtain ⟨i1,i2⟩:=anyT_ok hrec fu h
         refine ⟨fun ob hob=>i1 ob (List.mem_append_right _ hob),fun hall=>?_⟩
         rw [h7,loudS_G hrec (fun ob hob=>hall ob (i1 ob (List.mem_append_left _ hob))),h8]
         exact i2 hall
        ·cases h
      ·cases h
     ·rename_i h4
      rw [h4]
      simp only
      split at h
      ·rename_i a rest h5
       rw [h5]
       simp only
       split at h
       ·rename_i o h6
        rw [h6]
        simp only
        cases h7:isOne (readyG te (orL m rest)) a.i with
        |false=>rw [h7] at h;cases h
        |true =>
         rw [h7] at h
         simp only [cond_true] at h ⊢
         split at h
         ·rename_i y hp' nx' h8
          rw [h8]
          exact anyT_ok hrec fu h
         ·cases h
       ·cases h
      ·cases h
     ·cases h
theorem phasesT_ok(hrec:RecOk X w0 rec){te:List En}{tab:List (Nat×Nat)}{hpF:Nat→Tr}:∀(f:Nat) {lk:List (Nat×HB)} {m:Nat} {st:St} {lg:List ObY} {st':St} {lg':List ObY},phasesT X tb tl rec ops te tab hpF f lk m st lg=some (st',lg') →
 (∀ob∈lg,ob∈lg')∧((∀ob∈lg',ob.Any X w0)→phasesF X (recG X w0 (recO tb rec)) ops te tab hpF f lk m st=some st')
 |0,_,_,_,_,_,_,h=>by cases h
 |f+1,lk,m,st,lg,st',lg',h=>by
  unfold phasesT at h
  unfold phasesF
  split at h
  ·cases h
  ·rename_i m1 st1 lg1 h1
   obtain ⟨i1,i2⟩:=anyT_ok hrec _ h1
   split at h
   ·rename_i h2
    split at h
    ·rename_i hp x h3
     simp only [Option.some.injEq,Prod.mk.injEq] at h
     obtain ⟨rfl,rfl⟩:=h
     refine ⟨i1,fun hall=>?_⟩
     rw [i2 hall]
     simp only [h2,h3]
    ·cases h
   ·rename_i c x h2
    split at h
    ·rename_i hp lk' h3
     obtain ⟨j1,j2⟩:=phasesT_ok hrec f h
     refine ⟨fun ob hob=>j1 ob (i1 ob hob),fun hall=>?_⟩
     rw [i2 fun ob hob=>hall ob (j1 ob hob)]
     simp only [h2,h3]
     exact j2 hall
    ·cases h
theorem regT_ok(hrec:RecOk X w0 rec){hl:FuncId→Option (List SV→Tr→Nat→Option (SV×St))}{st st':St}{lg:List ObY}(h:regT hl X tb tl rec ops st=some (st',lg))(ho:∀ob∈lg,ob.Any X w0):regF hl X (recG X w0 (recO tb rec)) ops st=some st':=by
 unfold regT at h
 unfold regF
 cases hc:(Region.noSelect ops&&(selfOk ops&&ops.toList.all noDefer)) with
 |false=>rw [hc] at h;cases h
 |true =>
  rw [hc] at h
  simp only [cond_true] at h ⊢
  unfold regGoT at h
  unfold regGoF
  split at h
  rename_i hp lk hlk
  rw [hlk]
  exact (phasesT_ok hrec _ h).2 ho
end
noncomputable def goT(f:Option St→Option Pos)(r:Option (St×List ObY)):Option (Pos×List ObY):=match r with
 |some (st,l)=>(match f (some st) with
  |some q=>some (q,l)
  |none=>none)
 |none=>none
noncomputable def drawT(reg:Array Oper→St→Option (St×List ObY))(ops:Array Oper)(X:Ctx)(p:Pos):Option (Pos×List ObY) :=
 bif isTail ops then goT (tailGo ops p.k) (reg (ops.toList.take (ops.size-2)).toArray p.st) else
 bif isTail1 ops then goT (tailGo1 ops p.k) (reg (ops.toList.take (ops.size-1)).toArray p.st) else goT (regGo X p.k) (reg ops p.st)
noncomputable def recH(X:Ctx)(leaf:FuncId→Option (List SV→Tr→Nat→Option (SV×St)))(n d:Nat):RecF:=fun g args hp nx=>Option.rec (motive:=fun _=>List SV→Tr→Nat→Option (SV×St)) (callW (hkD X leaf n d) X n g) (fun L=>L) (leaf g) args hp nx
noncomputable def evDraw(X:Ctx)(leaf:FuncId→Option (List SV→Tr→Nat→Option (SV×St)))(n d:Nat)(tb:List Orc)(tl:List (Tmp×Bool))(p:Pos):Option (Pos×List ObY):=match p.h with
 | .code (.region _ ops true)=>drawT (regT leaf X tb tl (recH X leaf n d)) ops X p
 |_=>none
theorem hkD_leaf{X:Ctx}{leaf:FuncId→Option (List SV→Tr→Nat→Option (SV×St))}{n:Nat}:∀d,(hkD X leaf n d).leaf=leaf
 |0=>rfl
 |_+1=>rfl
theorem recH_ok{X:Ctx}{leaf:FuncId→Option (List SV→Tr→Nat→Option (SV×St))}{n d:Nat}(hmx:X.P.follows .mixedOrders=true)(hH:HkOk X (hkD X leaf n d))(w0:World):RecOk X w0 (recH X leaf n d):=by
 intro g args hp nx res st h
 unfold recH at h
 cases hg:leaf g with
 |none=>rw [hg] at h;exact callW_rec hmx hH w0 g args hp nx res st h
 |some L =>
  rw [hg] at h
  refine hH.leaf w0 g args hp nx res st ?_
  unfold leafRec
  rw [hkD_leaf,hg]
  exact h
theorem evDraw_ok{E:Env}{Q0:Post}{r0:List Loc}{leaf:FuncId→Option (List SV→Tr→Nat→Option (SV×St))}{n d:Nat}{tb:List Orc}{tl:List (Tmp×Bool)}{p q:Pos}{obs:List ObY}(hmx:E.X.P.follows .mixedOrders=true)(hH:HkOk E.X (hkD E.X leaf n d))(h0:CollOk E.X.P Q0)(h:evDraw E.X leaf n d tb tl p=some (q,obs))(ho:∀ob∈obs,ob.Any E.X E.w0)(hx:Xp E r0 Q0 q):Xp E r0 Q0 p:=by
 have hrec:=recH_ok hmx hH E.w0
 have hH2:HkAt E ⟨leaf,regF leaf E.X (recG E.X E.w0 (recO tb (recH E.X leaf n d)))⟩:=by
  refine ⟨fun g args hp nx res st h=>hH.leaf E.w0 g args hp nx res st ?_,fun Q r vs df w st st' ops h hs hm hk=>?_⟩
  ·unfold leafRec at h ⊢
   rw [hkD_leaf]
   exact h
  ·exact ⟨regS_noDefer (regF_ok h),regS_any (recG_ok E.X E.w0 _) (regF_ok h) hs hm hk⟩
 unfold evDraw at h
 split at h
 ·rename_i id ops hp
  obtain ⟨hd,k,st⟩:=p
  simp only at hp
  subst hp
  refine stepW_at (H:=⟨leaf,regF leaf E.X (recG E.X E.w0 (recO tb (recH E.X leaf n d)))⟩) hmx hH2 h0 ?_ hx
  show drawW _ ops E.X ⟨.code (.region id ops true),k,st⟩=some q
  unfold drawT at h
  unfold drawW
  have key:∀(f:Option St→Option Pos) (o2:Array Oper),goT f (regT leaf E.X tb tl (recH E.X leaf n d) o2 st)=some (q,obs)→f (regF leaf E.X (recG E.X E.w0 (recO tb (recH E.X leaf n d))) o2 st)=some q:=by
   intro f o2 hg
   unfold goT at hg
   split at hg
   ·rename_i st' l hr
    split at hg
    ·rename_i q' hq
     simp only [Option.some.injEq,Prod.mk.injEq] at hg
     obtain ⟨rfl,rfl⟩:=hg
     rw [regT_ok hrec hr ho]
     exact hq
    ·cases hg
   ·cases hg
  cases ht:isTail ops with
  |true=>rw [ht,cond_true] at h;exact key _ _ h
  |false =>
   rw [ht,cond_false] at h
   cases ht1:isTail1 ops with
   |true=>rw [ht1,cond_true] at h;exact key _ _ h
   |false=>rw [ht1,cond_false] at h;exact key _ _ h
 ·cases h
end Go.Proofs.YtjboelhcieepkaaGreatDoor
namespace Go.Proofs.YtjboelhcieepkaaGreatDoor
set_option maxRecDepth 16384
open Go.RowKit
theorem cat_inv2{r:List Loc}{a b:Rp SV}{us:List Value}(h:DenC r (cat a b) us):∃u v,us=u++v∧DenC r a u∧DenC r b v:=by
 by_cases ha:a=.nil
 ·subst ha
  have h':DenC r b us:=by cases b<;>exact h
  exact ⟨[],us,rfl,.nil,h'⟩
 ·by_cases hb:b=.nil
  ·subst hb
   have h':DenC r a us:=by cases a<;>first|exact absurd rfl ha|exact h
   exact ⟨us,[],by simp,h',.nil⟩
  ·have e:cat a b=.node (rsize a) (rsize a+rsize b) a b:=by
    cases a<;>first|exact absurd rfl ha|(cases b<;>first|exact absurd rfl hb|rfl)
   rw [e] at h
   cases h with|node h1 h2 _ _=>exact ⟨_,_,rfl,h1,h2⟩
theorem seg_call{E:Env}{r:List Loc}{vals:List Value}{w:World}{hp:Tr}{nx:Nat}{g:FuncId}{args:List SV}{res:SV}{st:St}{q:Pos}(hs:∀Q0:Post,CollOk E.X.P Q0→Xp E r Q0 q→Xp E r Q0 (evPos E.X g args hp nx))(h:finP E.X g q=some (res,st))(ha:DenL r args vals)(hm:Mem E r hp nx w):
 Calls E.X.P g vals.toArray w fun e w'=>∃q v,e=.returned v∧Den (r++q) res v∧Mem E (r++q) st.hp st.nx w':=by
 unfold finP at h
 unfold evPos at hs
 cases hent:entryS E.X.P g with
 |none=>rw [hent] at h;cases h
 |some x =>
  obtain ⟨fn,c⟩:=x
  rw [hent] at h hs
  exact calls_of_X2 (k:=[]) (r0:=r) hent ⟨[],by simp⟩ ha hm rfl rfl rfl (hs _ collOk_body (finS_ok h))
noncomputable def tabR:List (FuncId×Leaf):=stops [46,181] tab4
noncomputable def HR:Hk:=hkD Xt (leafTab tabR) 14 6
theorem HR_ok:HkOk Xt HR:=hkT_ok hmx (stops_ok tab4_ok) 6
noncomputable def cellR(dg:List Nat)(e m:Value):Rp SV:=packP [.arr .u8 32 dg,.one (.v e),.one (.v m)]
noncomputable def rootA(n:Nat)(q:Int)(v:Value)(dg:List Nat)(e m:Value):List SV:=[i64v n,.a (dskT (secs n) q v),.a (cellR dg e m)]
noncomputable def tbR(s:Nat)(x:VNode):List Orc:=[⟨46,[],[],fun _=>i64v s,[]⟩,⟨181,[],[],fun _=>ndRes x,[]⟩]
noncomputable def S0:Stp:=⟨[],[],0⟩
noncomputable def rootP(n:Nat)(q:Int)(v:Value)(dg:List Nat)(e m:Value):Pos:=runE S0 HR Xt 12 (evPos Xt 44 (rootA n q v dg e m) .e 0)
noncomputable def rootX(n s:Nat)(x:VNode)(q:Int)(v:Value)(dg:List Nat)(e m:Value):Option (SV×List ObY):=match evDraw Xt (leafTab tabR) 14 6 (tbR s x) [] (rootP n q v dg e m) with
 |some (p,obs)=>(finP Xt 44 (runE S0 HR Xt 12 p)).map fun y=>(y.1,obs)
 |none=>none
noncomputable def rootO(n s:Nat)(x:VNode)(q:Int)(v:Value)(dg:List Nat)(e m:Value):List ObY:=[.c ⟨181,ndA n (hgt n) 0 s q v dg,[],[],[],12,ndRes x,[]⟩,.c ⟨46,[.a (cellR dg e m)],[],[],[],12,i64v s,[]⟩]
def LrP(n:Nat):Prop:=∀(x:VNode) (q:Int) (v:Value) (dg:List Nat) (e m:Value),[0,1].map (fun s=>rootX n s x q v dg e m)=[0,1].map fun s=>some (ndRes x,rootO n s x q v dg e m)
theorem ldr_1:LrP 1:=by intro x q v dg e m;kernel_rfl
theorem ldr_2:LrP 2:=by intro x q v dg e m;kernel_rfl
theorem ldr_3:LrP 3:=by intro x q v dg e m;kernel_rfl
theorem ldr_4:LrP 4:=by intro x q v dg e m;kernel_rfl
theorem ldr_5:LrP 5:=by intro x q v dg e m;kernel_rfl
theorem ldr_6:LrP 6:=by intro x q v dg e m;kernel_rfl
theorem ldr_7:LrP 7:=by intro x q v dg e m;kernel_rfl
theorem ldr_8:LrP 8:=by intro x q v dg e m;kernel_rfl
theorem ldr_9:LrP 9:=by intro x q v dg e m;kernel_rfl
theorem ldr_10:LrP 10:=by intro x q v dg e m;kernel_rfl
theorem ldr_11:LrP 11:=by intro x q v dg e m;kernel_rfl
theorem ldr_12:LrP 12:=by intro x q v dg e m;kernel_rfl
theorem ldr_13:LrP 13:=by intro x q v dg e m;kernel_rfl
theorem ldr_14:LrP 14:=by intro x q v dg e m;kernel_rfl
theorem ldr_15:LrP 15:=by intro x q v dg e m;kernel_rfl
theorem ldr_16:LrP 16:=by intro x q v dg e m;kernel_rfl
theorem ldr_17:LrP 17:=by intro x q v dg e m;kernel_rfl
theorem ldr_18:LrP 18:=by intro x q v dg e m;kernel_rfl
theorem ldr_19:LrP 19:=by intro x q v dg e m;kernel_rfl
theorem ldr_20:LrP 20:=by intro x q v dg e m;kernel_rfl
theorem ldr_any:∀n,1≤n→n≤20→LrP n
 |1,_,_=>ldr_1
 |2,_,_=>ldr_2
 |3,_,_=>ldr_3
 |4,_,_=>ldr_4
 |5,_,_=>ldr_5
 |6,_,_=>ldr_6
 |7,_,_=>ldr_7
 |8,_,_=>ldr_8
 |9,_,_=>ldr_9
 |10,_,_=>ldr_10
 |11,_,_=>ldr_11
 |12,_,_=>ldr_12
 |13,_,_=>ldr_13
 |14,_,_=>ldr_14
 |15,_,_=>ldr_15
 |16,_,_=>ldr_16
 |17,_,_=>ldr_17
 |18,_,_=>ldr_18
 |19,_,_=>ldr_19
 |20,_,_=>ldr_20
 |n+21,_,h=>absurd h (by omega)
 |0,h,_=>absurd h (by omega)
noncomputable def H4:Hk:=hkD Xt (leafTab tab4) 14 6
theorem H4_ok:HkOk Xt H4:=hkT_ok hmx tab4_ok 6
noncomputable def slotX(dg:List Nat)(e:Int)(m:Value):Option SV:=(callW H4 Xt 12 46 [.a (cellR dg (.int .u64 e) m)] .e 0).map (·.1)
theorem slotX_eq(dg:List Nat)(e:Int)(m:Value):slotX dg e m=some (.v (.int .i64 (IntKind.i64.wrap (e.tmod 2)))):=by kernel_rfl
theorem slot_call{dg:List Nat}{e:Int}{m:Value}{s:Nat}(hs:IntKind.i64.wrap (e.tmod 2)=(s:Int)){vs:List Value}(hv:DenC [] (cellR dg (.int .u64 e) m) vs)(w:World)(hg:GlobOk Xt w):Calls Xt.P 46 #[.agg vs.toArray] w fun e' w'=>e'=.returned (.int .i64 (s:Int))∧Below w.heap.size w w':=by
 have h:=slotX_eq dg e m
 unfold slotX at h
 obtain ⟨⟨res,st⟩,h1,h2⟩:=Option.map_eq_some_iff.1 h
 simp only at h2
 subst h2
 refine (callW_ok (E:=E0 Xt w) (r:=[]) (vals:=[.agg vs.toArray]) hmx H4_ok h1 (.cons (.a hv) .nil) (Mem.start Xt w hg)).mono ?_
 rintro e' w' ⟨q,v,rfl,hd,hm⟩
 cases hd
 rw [hs]
 exact ⟨rfl,hm.below⟩
theorem obx_calls{E:Env}{g:FuncId}{args:List SV}{nx:Nat}{res:SV}(he:Enters E.X.P g)(h:∀(r:List Loc) (vals:List Value) (w1:World) (hp:Tr),DenL r args vals→Mem E r hp nx w1→Calls E.X.P g vals.toArray w1 fun e w'=>∃v,e=.returned v∧Den r res v∧Below w1.heap.size w1 w'):CallObX E g args [] [] [] nx res []:=by
 intro r vals w1 hp ha hm _
 refine ⟨fun w'=>he _ w',(h r vals w1 hp ha hm).mono ?_⟩
 rintro e w' ⟨v,rfl,hd,hb⟩
 exact ⟨[],v,rfl,by rw [List.append_nil];exact hd,by have:=hm.grow hb;rw [List.append_nil];exact this⟩
theorem cellR_inv{r r':List Loc}{dg:List Nat}{e m:Value}{vs:List Value}(h:DenC r (cellR dg e m) vs):DenC r' (cellR dg e m) vs:=by
 obtain ⟨u,v,rfl,h1,h2⟩:=cat_inv2 (a:=.arr .u8 32 dg) (b:=packP [.one (.v e),.one (.v m)]) h
 obtain ⟨u2,v2,rfl,h3,h4⟩:=cat_inv2 (a:=.one (.v e)) (b:=packP [.one (.v m)]) h2
 obtain ⟨u3,v3,rfl,h5,h6⟩:=cat_inv2 (a:=.one (.v m)) (b:=packP []) h4
 show DenC r' (cat (.arr .u8 32 dg) (cat (.one (.v e)) (cat (.one (.v m)) .nil))) _
 refine DenC.cat ?_ (DenC.cat ?_ (DenC.cat ?_ ?_))
 ·cases h1 with|arr h1=>exact .arr h1
 ·cases h3 with|one h3 h3'=>cases h3;exact .one (.v _) h3'
 ·cases h5 with|one h5 h5'=>cases h5;exact .one (.v _) h5'
 ·have h6':DenC r .nil v3:=h6
  cases h6';exact .nil
def DskIs.keep{w w1:World}{g c0:Nat}{L:List (Option VCnt)}(hd:DskIs w g c0 L)(hb:Below w.heap.size w w1):DskIs w1 g c0 L:=⟨hd.cv,Nat.lt_of_lt_of_le hd.hg hb.size,hd.hc,fun j hj=>Nat.lt_of_lt_of_le (hd.hcv j hj) hb.size,diskAt_keep hd.hd hb hd.hg hd.hcv⟩
theorem lroot_call{n s g c0:Nat}{R:Nat→VRec}{Ee:Nat→VEnt}{q e:Int}{m:Value}{dg:List Nat}(h1:1≤n)(h20:n≤20)(hl:hgt n<3)(hc:0<cnt n (hgt n))(hs2:s<2)(hs:IntKind.i64.wrap (e.tmod 2)=(s:Int))(w:World)(hg:GlobOk Xt w)(L:List (Option VCnt))(hd:DskIs w g c0 L)
 (hL:L[sctr n (hgt n) 0 s]?=some (some (.nd (ndR n R Ee (hgt n) 0)))) (hdg:Sh.shaF (ndR n R Ee (hgt n) 0).bytes=dg) {cs:List Value} (hcs:DenC [] (cellR dg (.int .u64 e) m) cs) :
 Calls Xt.P 44 #[.int .i64 (n:Int),.agg #[.int .i64 (secs n:Int),.int .i64 q,.slice (some ⟨g,0,none⟩) 1 c0],.agg cs.toArray] w fun e' w' =>
  e'=.returned (.tuple #[.agg (ndR n R Ee (hgt n) 0).vals.toArray,.agg #[.int .i64 0,.int .u8 0],.int .i64 0])∧Below w.heap.size w w':=by
 obtain ⟨x,hx⟩:∃x,x=ndR n R Ee (hgt n) 0:=⟨_,rfl⟩
 have h:=all_of (ldr_any n h1 h20 x q (.slice (some ⟨g,0,none⟩) 1 c0) dg (.int .u64 e) m) (show s∈[0,1] by simp;omega)
 unfold rootX at h
 split at h
 ·rename_i p obs hdr
  obtain ⟨⟨res,st⟩,hfin,heq⟩:=Option.map_eq_some_iff.1 h
  simp only [Prod.mk.injEq] at heq
  obtain ⟨rfl,rfl⟩:=heq
  refine (seg_call (E:=E0 Xt w) (r:=[]) (vals:=[.int .i64 (n:Int),.agg #[.int .i64 (secs n:Int),.int .i64 q,.slice (some ⟨g,0,none⟩) 1 c0],.agg cs.toArray]) (g:=44) (args:=rootA n q (.slice (some ⟨g,0,none⟩) 1 c0) dg (.int .u64 e) m) (fun Q0 h0 hq=>?_) hfin ?_ (Mem.start Xt w hg)).mono ?_
  ·refine runRn_ok (S:=S0) (E:=E0 Xt w) hmx HR_ok h0 12 (evDraw_ok (E:=E0 Xt w) hmx HR_ok h0 hdr ?_ (runRn_ok (S:=S0) (E:=E0 Xt w) hmx HR_ok h0 12 hq))
   intro ob hob
   simp only [rootO,List.mem_cons,List.not_mem_nil,or_false] at hob
   rcases hob with rfl|rfl
   all_goals
    intro E hE hw
    obtain ⟨X,w0,wU,U,RR⟩:=E
    simp only at hE hw
    subst hE
    subst hw
   ·refine obx_calls (enters (by kernel_rfl)) fun r vals w1 hp ha hm=>?_
    have hb:Below w0.heap.size w0 w1:=hm.below
    have hv:vals=[.agg #[.int .i64 (n:Int),.int .i64 (secs n:Int),.int .i64 q,.slice (some ⟨g,0,none⟩) 1 c0],.agg #[.int .i64 ((hgt n:Nat):Int),.int .i64 ((0:Nat):Int)],.int .i64 (s:Int),.agg (nv .u8 dg).toArray]:=by
     cases ha with|cons d1 t=>cases t with|cons d2 t=>cases t with|cons d3 t=>cases t with|cons d4 t =>
      cases t;cases d3
      cases d1 with|a d1 =>
       have d1':DenC r (.node 1 4 (.one (i64v n)) (.node 1 3 (.one (i64v (secs n))) (.node 1 2 (.one (.v (.int .i64 q))) (.one (.v (.slice (some ⟨g,0,none⟩) 1 c0)))))) _:=d1
       cases d1' with|node e1 e2 _ _=>cases e2 with|node e2 e3 _ _=>cases e3 with|node e3 e4 _ _ =>
        rw [one_inv e1,one_inv e2,one_inv e3,one_inv e4]
        cases d2 with|a d2=>cases d2 with|node f1 f2 _ _ =>
         rw [one_inv f1,one_inv f2]
         cases d4 with|a d4=>rw [arr_inv d4];rfl
    rw [hv]
    refine (node_call n (hgt n) 0 s g c0 R Ee q h1 h20 hl hc hs2 w1 hm.globs L (hd.keep hb) hL dg hdg).mono ?_
    rintro e' w' ⟨rfl,hb'⟩
    refine ⟨_,rfl,?_,hb'⟩
    rw [hx]
    exact .t (.cons (.a (.q (.node _))) (.cons (.a (vs:=[.int .i64 0,.int .u8 0]) (.node (us:=[.int .i64 0]) (.one (.v _) rfl) (.one (.v _) rfl) rfl rfl)) (.cons (.v _) .nil)))
   ·refine obx_calls (enters (by kernel_rfl)) fun r vals w1 hp ha hm=>?_
    cases ha with|cons d1 t=>cases t;cases d1 with|a d1 =>
     refine (slot_call hs (cellR_inv d1) w1 hm.globs).mono ?_
     rintro e' w' ⟨rfl,hb'⟩
     exact ⟨_,rfl,.v _,hb'⟩
  ·refine .cons (.v _) (.cons (.a (vs:=[.int .i64 (secs n:Int),.int .i64 q,.slice (some ⟨g,0,none⟩) 1 c0]) ?_) (.cons (.a hcs) .nil))
   exact .node (us:=[.int .i64 (secs n:Int)]) (.one (.v _) rfl) (.node (us:=[.int .i64 q]) (.one (.v _) rfl) (.one (.v _) rfl) rfl rfl) rfl rfl
  ·rintro e' w' ⟨qq,v,he,hdv,hm⟩
   refine ⟨?_,hm.below⟩
   rw [he,←hx]
   cases hdv with|t d=>cases d with|cons d1 d=>cases d with|cons d2 d=>cases d with|cons d3 d =>
    cases d;cases d3
    cases d1 with|a d1 =>
     cases d1
     cases d2 with|a d2=>cases d2 with|node e1 e2 _ _=>rw [one_inv e1,one_inv e2];rfl
 ·cases h
end Go.Proofs.YtjboelhcieepkaaGreatDoor
