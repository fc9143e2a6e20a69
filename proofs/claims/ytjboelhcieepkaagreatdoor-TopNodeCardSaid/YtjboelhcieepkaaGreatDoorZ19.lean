/-
  A volume from plain data: from cut to cut.
-/
import Derived.Test.YtjboelhcieepkaaGreatDoorZ18
import Derived.Test.YtjboelhcieepkaaGreatDoorQVoC
import Derived.Test.YtjboelhcieepkaaGreatDoorQVoH
import Derived.Test.YtjboelhcieepkaaGreatDoorQVoI
import Derived.Test.YtjboelhcieepkaaGreatDoorQVoJ
import Derived.Test.YtjboelhcieepkaaGreatDoorQVoD
import Derived.Test.YtjboelhcieepkaaGreatDoorQVoE
namespace Go.Proofs.YtjboelhcieepkaaGreatDoor
set_option maxRecDepth 16384
open Go.RowKit
section
variable {r:List Loc}
theorem cat_inv{a b:Rp SV}{us:List Value}(h:DenC r (cat a b) us):∃u v,us=u++v∧DenC r a u∧DenC r b v:=by
 by_cases ha:a=.nil
 ·subst ha
  have h':DenC r b us:=by cases b<;>exact h
  exact ⟨[],us,rfl,.nil,h'⟩
 ·by_cases hb:b=.nil
  ·subst hb
   have h':DenC r a us:=by cases a<;>first|exact absurd rfl ha|exact h
   exact ⟨us,[],by simp,h',.nil⟩
  ·have e:cat a b=.node (rsize a) (rsize a+rsize b) a b:=by
    cases a<;>first|exact absurd rfl ha|(cases b<;>first|exact absurd rfl hb|rfl)
   rw [e] at h
   cases h with|node h1 h2 _ _=>exact ⟨_,_,rfl,h1,h2⟩
theorem pk_inv{c:Rp SV}{l:List (Rp SV)}{us:List Value}(h:DenC r (packP (c::l)) us):∃u v,us=u++v∧DenC r c u∧DenC r (packP l) v:=cat_inv h
theorem pk_one{x:Value}{l:List (Rp SV)}{us:List Value}(h:DenC r (packP (.one (.v x)::l)) us):∃v,us=x::v∧DenC r (packP l) v:=by
 obtain ⟨u,v,rfl,h1,h2⟩:=pk_inv h
 rw [one_inv h1]
 exact ⟨v,rfl,h2⟩
theorem pk_app{f:Nat→Rp SV}{g:Nat→List Value}(hf:∀i us,DenC r (f i) us→us=g i):∀{l:List Nat} {ps:List (Rp SV)} {us:List Value},DenC r (packP (l.map f++ps)) us→∃v,us=l.flatMap g++v∧DenC r (packP ps) v
 |[],ps,us,h=>⟨us,rfl,h⟩
 |i::l,ps,us,h=>by
  obtain ⟨u,v,rfl,h1,h2⟩:=pk_inv (c:=f i) (l:=l.map f++ps) h
  obtain ⟨v',rfl,h3⟩:=pk_app hf h2
  obtain rfl:=hf i u h1
  exact ⟨v',by rw [List.flatMap_cons,List.append_assoc],h3⟩
theorem pk_den{f:Nat→Rp SV}{g:Nat→List Value}:∀{l:List Nat},(∀i,i∈l→DenC r (f i) (g i))→DenC r (packP (l.map f)) (l.flatMap g)
 |[],_=>.nil
 |i::l,h=>by
  rw [List.flatMap_cons]
  exact DenC.cat (h i (by simp)) (pk_den fun j hj=>h j (by simp [hj]))
theorem bit_den(b:Bool)(us:List Value)(h:DenC r (.q (.bit b)) us):us=[.int .i64 (bitN b:Int)]:=by cases h;rfl
theorem rec_inv{a b c:Int}{t:List Nat}{us:List Value}(h:DenC r (packP [.one (.v (.int .u8 a)),.one (.v (.int .u32 b)),.one (.v (.int .u64 c)),.arr .u8 32 t]) us):us=[.int .u8 a,.int .u32 b,.int .u64 c]++nv .u8 t∧t.length=32:=by
 obtain ⟨u1,e1,g1⟩:=pk_one h
 obtain ⟨u2,e2,g2⟩:=pk_one g1
 obtain ⟨u3,e3,g3⟩:=pk_one g2
 subst e3 e2 e1
 have h':DenC r (.arr .u8 32 t) u3:=g3
 cases h' with|arr ht=>exact ⟨rfl,ht⟩
theorem rec_den{a b c:Int}{t:List Nat}(ht:t.length=32):DenC r (packP [.one (.v (.int .u8 a)),.one (.v (.int .u32 b)),.one (.v (.int .u64 c)),.arr .u8 32 t]) ([.int .u8 a,.int .u32 b,.int .u64 c]++nv .u8 t) :=
 DenC.cat (us:=[.int .u8 a]) (.one (.v _) rfl) (DenC.cat (us:=[.int .u32 b]) (.one (.v _) rfl) (DenC.cat (us:=[.int .u64 c]) (.one (.v _) rfl) (DenC.arr (n:=32) (k:=.u8) ht)))
end
def isRec(x:VP)(lp i:Nat):Prop:=i<lp∧0<x.pl.getD (2*i) 0%3
instance (x:VP)(lp i:Nat):Decidable (isRec x lp i):=by unfold isRec;exact inferInstance
noncomputable def Rv(x:VP)(lp i:Nat):VRec:=if h:isRec x lp i∧i<20 then ⟨pAt x i%3,i%3,i,Sh.shaF (tgI x i),by omega,fun h0=>by have:=h.1.2;unfold pAt at h0;omega,by omega,by omega,shaF_len _,shaF_byt _⟩ else zrec
noncomputable def Bv(x:VP)(lp i:Nat):List Nat:=if isRec x lp i then plainL (sAt x i) else zz32
noncomputable def Lv(x:VP)(n lp:Nat):Nat→List (Option VCnt)
 |0=>repV (secV n)
 |i+1=>if isRec x lp i then (Lv x n lp i).set (2*i+(pAt x i%3-1)) (some (.by_ (sxV x.el (plainL (sAt x i)) i))) else Lv x n lp i
def PPok(pp:SV)(lp n2:Nat):Prop:=(∃A c,pp=.v (.slice A 0 c)∧lp=0)∨∃c,pp=.s 0 0 lp c∧n2=2*lp
theorem PPok.fix{pp:SV}{lp n2:Nat}(h:PPok pp lp n2):FixS 2 pp:=by
 rcases h with ⟨A,c,rfl,_⟩|⟨c,rfl,_⟩
 ·exact .v _ _
 ·exact .s _ _ _ _ _ (by decide)
theorem vR_fix{x:VP}{pp sp:SV}(hp:FixS 2 pp)(hs:FixS 2 sp):Fix 2 (vR x pp sp):=.cons (.v _ _) (.cons hp (.cons hs (.cons (.v _ _) (.cons (.v _ _) (.nil _)))))
theorem ltI_t{a b:Nat}(h:a<b):ltI a b=true:=decide_eq_true (by omega)
theorem ltI_f{a b:Nat}(h:¬ a<b):ltI a b=false:=decide_eq_false (by omega)
theorem zrec_ob{x:VP}{lp i:Nat}(h:¬ isRec x lp i)(r:List Loc)(us:List Value)(hd:DenC r zR0 us):DenC r (.q (.rcd (Rv x lp i))) us:=by
 obtain ⟨rfl,_⟩:=rec_inv hd
 have e:Rv x lp i=zrec:=by unfold Rv;rw [dif_neg fun hh=>h hh.1]
 rw [e]
 exact .q (.rcd zrec)
theorem zblk_ob{x:VP}{lp i:Nat}(h:¬ isRec x lp i)(r:List Loc)(us:List Value)(hd:DenC r (.arr .u8 32 zz32) us):DenC r (.arr .u8 32 (Bv x lp i)) us:=by
 have e:Bv x lp i=zz32:=by unfold Bv;rw [if_neg h]
 rw [e];exact hd
section
variable {w:World}{x:VP}{pp sp:SV}{lp n2 n3 n i:Nat}
theorem idx5(t:List Nat):∀m,m<2→idx (0::1::t) m=some m:=by
 intro m hm
 rcases m with _|_|m
 ·rfl
 ·rfl
 ·omega
theorem go1_seg{c:Cut}{p q:Pos}{obs:List Ob}{t:List Nat}(h:go1 c p=(q,obs,true))(hns:c.ns=0::1::t)(hq:q.st.hp.get 2=some ⟨25,vR x pp sp,0⟩)(hp:FixS 2 pp)(hs:FixS 2 sp)(ho:∀ob∈obs,ob.Holds (E0 Xt w)):SegV w p q :=
 SegV.goI HV_ok (k:=2) h hq (by decide) (vR_fix hp hs) (by rw [hns];exact idx5 t) ho
theorem l1_step(h1:1≤n)(h20:n≤20)(hi:i<n)(hpp:PPok pp lp n2)(hs:FixS 2 sp):SegV w (P1 x pp sp n2 n3 n i (Rv x lp) (Bv x lp) (Lv x n lp i)) (P1 x pp sp n2 n3 n (i+1) (Rv x lp) (Bv x lp) (Lv x n lp (i+1))):=by
 have hmem:i∈List.range n:=List.mem_range.2 hi
 have hq:∀n2 L,(P1 x pp sp n2 n3 n (i+1) (Rv x lp) (Bv x lp) L).st.hp.get 2=some ⟨25,vR x pp sp,0⟩:=fun n2 L=>by kernel_rfl
 by_cases hr:isRec x lp i
 ·have hL:Lv x n lp (i+1)=(Lv x n lp i).set (2*i+(pAt x i%3-1)) (some (.by_ (sxV x.el (plainL (sAt x i)) i))):=by
   show (if isRec x lp i then _ else _)=_
   rw [if_pos hr]
  rw [hL]
  rcases hpp with ⟨A,c,_,h0⟩|⟨c,rfl,rfl⟩
  ·have:=hr.1;omega
  have hlp:i<lp:=hr.1
  obtain ⟨m,hm⟩:∃m,lp=m+(i+1):=⟨lp-(i+1),by omega⟩
  obtain ⟨m2,hm2⟩:∃m2,2*lp=n2I m2 i:=⟨2*lp-(2*i+2),by unfold n2I;omega⟩
  have e1:SV.s 0 0 lp c=ppI m c i:=by unfold ppI;rw [hm]
  have hp0:0<pAt x i%3:=hr.2
  obtain ⟨s,hs1,hs2⟩:∃s,pAt x i%3=s∧(s=1∨s=2):=⟨_,rfl,by omega⟩
  have hRC:RC s n:=by
   rcases hs2 with rfl|rfl
   ·exact rc1_any n h1 h20
   ·exact rc2_any n h1 h20
  have h:=all_of (hRC x m c m2 n3 sp (Rv x lp) (Bv x lp) (Lv x n lp i)) hmem
  rw [hs1]
  rw [←e1,←hm2] at h
  refine go1_seg (t:=[2,3,4,12,14,16,902]) h rfl (hq _ _) (.s _ _ _ _ _ (by decide)) hs ?_
  have eR:Rv x lp i=⟨pAt x i%3,i%3,i,Sh.shaF (tgI x i),by omega,fun h0=>by omega,by omega,by omega,shaF_len _,shaF_byt _⟩:=by unfold Rv;rw [dif_pos ⟨hr,by omega⟩]
  intro ob hob
  simp only [obC,List.mem_cons,List.not_mem_nil,or_false] at hob
  rcases hob with rfl|rfl|rfl|rfl|rfl|rfl
  ·rfl
  ·exact ltI_t (by omega)
  ·show decide ((0:Int)<((pAt x i:Nat):Int).tmod 3)=true
   rw [show ((pAt x i:Nat):Int).tmod 3=((pAt x i%3:Nat):Int) from rfl]
   exact decide_eq_true (by omega)
  ·intro r us hd
   obtain ⟨rfl,ht⟩:=rec_inv (a:=((pAt x i:Nat):Int).tmod 3) (b:=Int.ofNat (i%3)) (c:=Int.ofNat i) hd
   rw [show ((pAt x i:Nat):Int).tmod 3=((pAt x i%3:Nat):Int) from rfl,hs1]
   exact rec_den ht
  ·intro r us hd
   have e:Bv x lp i=plainL (sAt x i):=by unfold Bv;rw [if_pos hr]
   show DenC r (.arr .u8 32 (Bv x lp i)) us
   rw [e];exact hd
  ·intro r us hd
   obtain ⟨rfl,_⟩:=rec_inv (a:=Int.ofNat s) (b:=Int.ofNat (i%3)) (c:=Int.ofNat i) hd
   rw [eR]
   subst hs1
   exact .q (.rcd _)
 ·have hL:Lv x n lp (i+1)=Lv x n lp i:=by
   show (if isRec x lp i then _ else _)=_
   rw [if_neg hr]
  rw [hL]
  rcases hpp with ⟨A,c,rfl,rfl⟩|⟨c,rfl,rfl⟩
  ·have h:=all_of (rz_any n h1 h20 x A c n2 n3 sp (Rv x 0) (Bv x 0) (Lv x n 0 i)) hmem
   refine go1_seg (t:=[2,3,4,5,12,14,902]) h rfl (hq _ _) (.v _ _) hs ?_
   intro ob hob
   simp only [obA,List.mem_cons,List.not_mem_nil,or_false] at hob
   rcases hob with rfl|rfl|rfl|rfl|rfl
   ·rfl
   ·exact ltI_f (by omega)
   ·rfl
   ·exact zblk_ob hr
   ·exact zrec_ob hr
  ·by_cases hlp:i<lp
   ·obtain ⟨m,hm⟩:∃m,lp=m+(i+1):=⟨lp-(i+1),by omega⟩
    obtain ⟨m2,hm2⟩:∃m2,2*lp=n2I m2 i:=⟨2*lp-(2*i+2),by unfold n2I;omega⟩
    have e1:SV.s 0 0 lp c=ppI m c i:=by unfold ppI;rw [hm]
    have h:=all_of (rb_any n h1 h20 x m c m2 n3 sp (Rv x lp) (Bv x lp) (Lv x n lp i)) hmem
    rw [←e1,←hm2] at h
    refine go1_seg (t:=[2,3,4,5,12,14,902]) h rfl (hq _ _) (.s _ _ _ _ _ (by decide)) hs ?_
    intro ob hob
    simp only [obB,List.mem_cons,List.not_mem_nil,or_false] at hob
    rcases hob with rfl|rfl|rfl|rfl|rfl
    ·rfl
    ·exact ltI_t (by omega)
    ·show decide ((0:Int)<((pAt x i:Nat):Int).tmod 3)=false
     have hz:pAt x i%3=0:=by
      have:¬ 0<pAt x i%3:=fun hh=>hr ⟨hlp,hh⟩
      omega
     rw [show ((pAt x i:Nat):Int).tmod 3=((pAt x i%3:Nat):Int) from rfl,hz]
     rfl
    ·exact zblk_ob hr
    ·exact zrec_ob hr
   ·have h:=all_of (ra_any n h1 h20 x lp c (2*lp) n3 sp (Rv x lp) (Bv x lp) (Lv x n lp i)) hmem
    refine go1_seg (t:=[2,3,4,5,12,14,902]) h rfl (hq _ _) (.s _ _ _ _ _ (by decide)) hs ?_
    intro ob hob
    simp only [obA,List.mem_cons,List.not_mem_nil,or_false] at hob
    rcases hob with rfl|rfl|rfl|rfl|rfl
    ·rfl
    ·exact ltI_f hlp
    ·rfl
    ·exact zblk_ob hr
    ·exact zrec_ob hr
theorem l1_all(h1:1≤n)(h20:n≤20)(hpp:PPok pp lp n2)(hs:FixS 2 sp):∀i,i≤n→SegV w (P1 x pp sp n2 n3 n 0 (Rv x lp) (Bv x lp) (Lv x n lp 0)) (P1 x pp sp n2 n3 n i (Rv x lp) (Bv x lp) (Lv x n lp i))
 |0,_=>SegV.rfl_ w _
 |i+1,h=>(l1_all h1 h20 hpp hs i (by omega)).trans (l1_step h1 h20 (by omega) hpp hs)
end
end Go.Proofs.YtjboelhcieepkaaGreatDoor
namespace Go.Proofs.YtjboelhcieepkaaGreatDoor
set_option maxRecDepth 16384
open Go.RowKit
section
variable {r:List Loc}
theorem bits_ob{k:Nat}{S:Nat→Bool}{v:Int}(hv:v=(bitN (S k):Int))(us:List Value)(h:DenC r (bitsP k S [.one (.v (.int .i64 v))]) us):DenC r (ropeB (k+1) S) us:=by
 obtain ⟨v',e1,g1⟩:=pk_app (f:=fun i=>.q (.bit (S i))) (g:=fun i=>[.int .i64 (bitN (S i):Int)]) (fun i us=>bit_den (S i) us) h
 obtain ⟨v2,e2,h2⟩:=pk_one g1
 subst e2 e1
 have h2':DenC r .nil v2:=h2
 cases h2'
 have:=ropeB_ok (r:=r) (k+1) S
 unfold valsB at this
 rw [List.range_succ,List.flatMap_append] at this
 rw [hv]
 simpa using this
theorem ropeB_inv{m:Nat}{S:Nat→Bool}{us:List Value}(h:DenC r (ropeB m S) us):us=valsB m S:=by
 have h':DenC r (packP ((List.range m).map (fun i=>.q (.bit (S i)))++[])) us:=by rw [List.append_nil];exact h
 obtain ⟨v',rfl,h2⟩:=pk_app (f:=fun i=>.q (.bit (S i))) (g:=fun i=>[.int .i64 (bitN (S i):Int)]) (fun i us=>bit_den (S i) us) h'
 have h2':DenC r .nil v':=h2
 cases h2'
 rw [List.append_nil]
 rfl
theorem slot_to{m k v:Nat}{S:Nat→Bool}(hv:v=bitN (S k))(us:List Value)(h:DenC r (ropeB m S) us):DenC r (slotL m S k v) us:=by
 rw [ropeB_inv h]
 refine pk_den fun i _=>?_
 show DenC r (bif Nat.beq i k then .one (i64v v) else .q (.bit (S i))) _
 rw [beq_iff]
 by_cases e:i=k
 ·subst e
  simp only [decide_true,cond_true]
  rw [←hv]
  exact .one (.v _) rfl
 ·simp only [e,decide_false,cond_false]
  exact .q (.bit (S i))
theorem slot_back{m k v:Nat}{S:Nat→Bool}(hv:v=bitN (S k))(us:List Value)(h:DenC r (slotL m S k v) us):DenC r (ropeB m S) us:=by
 have h':DenC r (packP ((List.range m).map (fun j=>bif Nat.beq j k then .one (i64v v) else .q (.bit (S j)))++[])) us:=by rw [List.append_nil];exact h
 obtain ⟨v',rfl,h2⟩:=pk_app (f:=fun j=>bif Nat.beq j k then .one (i64v v) else .q (.bit (S j))) (g:=fun i=>[.int .i64 (bitN (S i):Int)]) (fun i us hd=>by
  have hd':DenC r (bif Nat.beq i k then .one (i64v v) else .q (.bit (S i))) us:=hd
  rw [beq_iff] at hd'
  by_cases e:i=k
  ·subst e
   simp only [decide_true,cond_true] at hd'
   rw [←hv]
   exact one_inv hd'
  ·simp only [e,decide_false,cond_false] at hd'
   exact bit_den _ _ hd') h'
 have h2':DenC r .nil v':=h2
 cases h2'
 rw [List.append_nil]
 exact ropeB_ok m S
end
theorem wrap_bit(y:Nat):IntKind.i64.wrap ((y:Int).tmod 2)=(bitN (decide (y%2=1)):Int):=by
 rw [show (y:Int).tmod 2=((y%2:Nat):Int) from rfl]
 rcases Nat.mod_two_eq_zero_or_one y with h|h<;>rw [h]<;>rfl
noncomputable def Sv(x:VP)(ls k:Nat):Bool:=decide (k<ls∧x.sl.getD k 0%2=1)
noncomputable def Sw(x:VP)(ls n k:Nat):Bool:=if k=tot n-1 then decide (x.ep%2=1) else Sv x ls k
def SPok(sp:SV)(ls n3:Nat):Prop:=(∃A c,sp=.v (.slice A 0 c)∧ls=0)∨∃c,sp=.s 1 0 ls c∧n3=ls
theorem SPok.fix{sp:SV}{ls n3:Nat}(h:SPok sp ls n3):FixS 2 sp:=by
 rcases h with ⟨A,c,rfl,_⟩|⟨c,rfl,_⟩
 ·exact .v _ _
 ·exact .s _ _ _ _ _ (by decide)
noncomputable def stepL(n:Nat)(R:Nat→VRec)(S:Nat→Bool)(l j:Nat)(L:List (Option VCnt)):List (Option VCnt):=if emT n l j R=true then L.set (bas n l+(2*j+bitN (S (num n l j)))) (some (.nd (ndV n R S l j))) else L
noncomputable def rowL(n:Nat)(R:Nat→VRec)(S:Nat→Bool)(l:Nat)(L:List (Option VCnt)):Nat→List (Option VCnt)
 |0=>L
 |j+1=>stepL n R S l j (rowL n R S l L j)
noncomputable def levL(n:Nat)(R:Nat→VRec)(S:Nat→Bool)(L:List (Option VCnt)):Nat→List (Option VCnt)
 |0=>L
 |l+1=>rowL n R S l (levL n R S L l) (cnt n l)
section
variable {w:World}{x:VP}{pp sp:SV}{lp ls n2 n3 n:Nat}{R:Nat→VRec}{B:Nat→List Nat}{L:List (Option VCnt)}{S:Nat→Bool}
theorem p12(h1:1≤n)(h20:n≤20)(hp:FixS 2 pp)(hs:FixS 2 sp):SegV w (P1 x pp sp n2 n3 n n R B L) (P2 x pp sp n2 n3 n 0 R B L S):=by
 have h:=r12_any n h1 h20 x pp sp n2 n3 R B L S
 refine go1_seg (x:=x) (t:=[2,3,4,5,6,7,902]) h rfl (by kernel_rfl) hp hs ?_
 intro ob hob
 simp only [List.mem_cons,List.not_mem_nil,or_false] at hob
 subst hob
 rfl
theorem l2_step(h1:1≤n)(h20:n≤20){k:Nat}(hk:k<tot n)(hp:FixS 2 pp)(hsp:SPok sp ls n3):SegV w (P2 x pp sp n2 n3 n k R B L (Sv x ls)) (P2 x pp sp n2 n3 n (k+1) R B L (Sv x ls)):=by
 have hmem:k∈List.range (tot n):=List.mem_range.2 hk
 have hq:∀n3 sp,(P2 x pp sp n2 n3 n (k+1) R B L (Sv x ls)).st.hp.get 2=some ⟨25,vR x pp sp,0⟩:=fun n3 sp=>by kernel_rfl
 have off:¬ k<ls→∀(r:List Loc) us,DenC r (bitsP k (Sv x ls) [.one (i64v 0)]) us→DenC r (ropeB (k+1) (Sv x ls)) us:=fun hkl r us hd=>bits_ob (v:=0) (by
  have:Sv x ls k=false:=by unfold Sv;exact decide_eq_false fun h=>hkl h.1
  rw [this];rfl) us hd
 rcases hsp with ⟨A,c,rfl,rfl⟩|⟨c,rfl,rfl⟩
 ·have h:=all_of (rz2_any n h1 h20 x A c n2 n3 pp R B L (Sv x 0)) hmem
  refine go1_seg (x:=x) (t:=[2,3,4,5,6,7,10]) h rfl (hq _ _) hp (.v _ _) ?_
  intro ob hob
  simp only [ob2A,List.mem_cons,List.not_mem_nil,or_false] at hob
  rcases hob with rfl|rfl|rfl
  ·rfl
  ·exact ltI_f (by omega)
  ·exact off (by omega)
 ·by_cases hkl:k<n3
  ·obtain ⟨m,hm⟩:∃m,n3=m+(k+1):=⟨n3-(k+1),by omega⟩
   have e1:SV.s 1 0 n3 c=spI m c k:=by unfold spI;rw [hm]
   have h:=all_of (rb2_any n h1 h20 x m c n2 m pp R B L (Sv x n3)) hmem
   rw [←e1,←hm] at h
   refine go1_seg (x:=x) (t:=[2,3,4,5,6,7,10]) h rfl (hq _ _) hp (.s _ _ _ _ _ (by decide)) ?_
   intro ob hob
   simp only [ob2B,List.mem_cons,List.not_mem_nil,or_false] at hob
   rcases hob with rfl|rfl|rfl
   ·rfl
   ·exact ltI_t (by omega)
   ·intro r us hd
    refine bits_ob ?_ us hd
    unfold slX
    rw [wrap_bit]
    have:Sv x n3 k=decide (x.sl.getD k 0%2=1):=by unfold Sv;simp [hkl]
    rw [this]
  ·have h:=all_of (ra2_any n h1 h20 x n3 c n2 n3 pp R B L (Sv x n3)) hmem
   refine go1_seg (x:=x) (t:=[2,3,4,5,6,7,10]) h rfl (hq _ _) hp (.s _ _ _ _ _ (by decide)) ?_
   intro ob hob
   simp only [ob2A,List.mem_cons,List.not_mem_nil,or_false] at hob
   rcases hob with rfl|rfl|rfl
   ·rfl
   ·exact ltI_f hkl
   ·exact off hkl
theorem l2_all(h1:1≤n)(h20:n≤20)(hp:FixS 2 pp)(hsp:SPok sp ls n3):∀k,k≤tot n→SegV w (P2 x pp sp n2 n3 n 0 R B L (Sv x ls)) (P2 x pp sp n2 n3 n k R B L (Sv x ls))
 |0,_=>SegV.rfl_ w _
 |k+1,h=>(l2_all h1 h20 hp hsp k (by omega)).trans (l2_step h1 h20 (by omega) hp hsp)
theorem tot_pos(h1:1≤n)(h20:n≤20):0<tot n:=by have:=num_lt (n:=n) (lv:=0) (i:=0) h1 h20 (by omega) (by unfold cnt;omega);omega
theorem p23(h1:1≤n)(h20:n≤20)(hp:FixS 2 pp)(hs:FixS 2 sp):SegV w (P2 x pp sp n2 n3 n (tot n) R B L (Sv x ls)) (P3 x pp sp n2 n3 n 0 0 R B L (Sw x ls n)):=by
 have h:=r23_any n h1 h20 x pp sp n2 n3 R B L (Sv x ls) (Sw x ls n)
 refine go1_seg (x:=x) (t:=[2,3,4,5,6,7,8]) h rfl (by kernel_rfl) hp hs ?_
 intro ob hob
 simp only [List.mem_cons,List.not_mem_nil,or_false] at hob
 rcases hob with rfl|rfl|rfl
 ·rfl
 ·intro r us hd
  have htp:=tot_pos h1 h20
  have e:bitsP (tot n-1) (Sv x ls) [.one (.v (.int .i64 (epX x)))]=bitsP (tot n-1) (Sw x ls n) [.one (.v (.int .i64 (epX x)))]:=by
   unfold bitsP
   congr 2
   refine List.map_congr_left fun i hi=>?_
   rw [List.mem_range] at hi
   unfold Sw
   rw [if_neg (by omega)]
  rw [e] at hd
  have hb:=bits_ob (k:=tot n-1) (S:=Sw x ls n) (v:=epX x) (by
   unfold epX
   rw [wrap_bit]
   unfold Sw
   rw [if_pos rfl]) us hd
  rwa [show tot n-1+1=tot n by omega] at hb
 ·rfl
theorem l3_step(h1:1≤n)(h20:n≤20){l j:Nat}(hl:l≤hgt n)(hj:j<cnt n l)(hp:FixS 2 pp)(hs:FixS 2 sp):SegV w (P3 x pp sp n2 n3 n l j R B L S) (P3 x pp sp n2 n3 n l (j+1) R B (stepL n R S l j L) S):=by
 have hmem:j∈List.range (cnt n l):=List.mem_range.2 hj
 have hq:∀L,(P3 x pp sp n2 n3 n l (j+1) R B L S).st.hp.get 2=some ⟨25,vR x pp sp,0⟩:=fun L=>by kernel_rfl
 unfold stepL
 by_cases he:emT n l j R=true
 ·rw [if_pos he]
  obtain ⟨v,hv⟩:∃v,v=bitN (S (num n l j)):=⟨_,rfl⟩
  have h:=all_of (rt_any n l v h1 h20 hl (by rw [hv];have:=bitN_le (S (num n l j));omega) x pp sp n2 n3 R B L S) hmem
  rw [←hv]
  refine go1_seg (x:=x) (t:=[2,3,4,10,6,7,8]) h rfl (hq _) hp hs ?_
  intro ob hob
  simp only [List.mem_cons,List.not_mem_nil,or_false] at hob
  rcases hob with rfl|rfl|rfl|rfl
  ·rfl
  ·exact he
  ·exact fun r us=>slot_to hv us
  ·exact fun r us=>slot_back hv us
 ·rw [if_neg he]
  rw [Bool.not_eq_true] at he
  have hlt:l<hgt n:=by
   rcases Nat.lt_or_ge l (hgt n) with h|h
   ·exact h
   ·obtain rfl:l=hgt n:=by omega
    unfold emT at he
    rw [show Nat.beq (hgt n) (hgt n)=true from by rw [beq_iff];simp] at he
    cases he
  have h:=all_of (rf_any n l h1 h20 hlt x pp sp n2 n3 R B L S) hmem
  refine go1_seg (x:=x) (t:=[2,3,4,5,6,7,8]) h rfl (hq _) hp hs ?_
  intro ob hob
  simp only [List.mem_cons,List.not_mem_nil,or_false] at hob
  rcases hob with rfl|rfl
  ·rfl
  ·exact he
theorem l3_row(h1:1≤n)(h20:n≤20){l:Nat}(hl:l≤hgt n)(hp:FixS 2 pp)(hs:FixS 2 sp):∀j,j≤cnt n l→SegV w (P3 x pp sp n2 n3 n l 0 R B L S) (P3 x pp sp n2 n3 n l j R B (rowL n R S l L j) S)
 |0,_=>SegV.rfl_ w _
 |j+1,h=>(l3_row h1 h20 hl hp hs j (by omega)).trans (l3_step h1 h20 hl (by omega) hp hs)
theorem l3_next(h1:1≤n)(h20:n≤20){l:Nat}(hl:l<hgt n)(hp:FixS 2 pp)(hs:FixS 2 sp):SegV w (P3 x pp sp n2 n3 n l (cnt n l) R B L S) (P3 x pp sp n2 n3 n (l+1) 0 R B L S):=by
 have h:=rn_any n l h1 h20 hl x pp sp n2 n3 R B L S
 refine go1_seg (x:=x) (t:=[2,3,4,5,6,7,8]) h rfl (by kernel_rfl) hp hs ?_
 intro ob hob
 simp only [List.mem_cons,List.not_mem_nil,or_false] at hob
 rcases hob with rfl|rfl
 ·rfl
 ·rfl
theorem l3_all(h1:1≤n)(h20:n≤20)(hp:FixS 2 pp)(hs:FixS 2 sp):∀l,l≤hgt n→SegV w (P3 x pp sp n2 n3 n 0 0 R B L S) (P3 x pp sp n2 n3 n l 0 R B (levL n R S L l) S)
 |0,_=>SegV.rfl_ w _
 |l+1,h=>((l3_all h1 h20 hp hs l (by omega)).trans (l3_row h1 h20 (by omega) hp hs (cnt n l) (Nat.le_refl _))).trans (l3_next h1 h20 (by omega) hp hs)
end
end Go.Proofs.YtjboelhcieepkaaGreatDoor
namespace Go.Proofs.YtjboelhcieepkaaGreatDoor
set_option maxRecDepth 16384
open Go.RowKit
noncomputable def volD(n:Nat)(el ml rt:List Nat)(A:Option Addr)(m cr:Nat)(ep mk s1 s2 s3:Value):Rp SV:=packP [.one (i64v n),.arr .u8 16 el,.arr .u8 32 ml,.one (.v (.slice A m cr)),.arr .u8 32 rt,.one (.v ep),.one (.v mk),.one (.v s1),.one (.v s2),.one (.v s3)]
noncomputable def dskG(m:Nat)(q:Int)(nm:Nat):Rp SV:=packP [.one (i64v m),.one (.v (.int .i64 q)),.one (.gs nm 1)]
noncomputable def dskZ:Rp SV:=packP [.one (i64v 0),.one (i64v 0),.one (.v (.slice none 0 0))]
def zlt(z:Int)(m:Nat):Bool:=decide (z<(m:Int))
def dirsD:List Dir:=[.r,.r,.l,.r,.b,.b,.l,.r]
noncomputable def gh1(L:List (Option VCnt)):HB:=⟨0,.q (.gh 1 0 L),8⟩
structure VD where
 n:Nat
 el:List Nat
 ml:List Nat
 rt:List Nat
 A:Option Addr
 cr:Nat
 ep:Value
 mk_:Value
 s1:Value
 s2:Value
 s3:Value
noncomputable def VD.row(d:VD)(m:Nat):Rp SV:=volD d.n d.el d.ml d.rt d.A m d.cr d.ep d.mk_ d.s1 d.s2 d.s3
noncomputable def PD(d:VD)(m:Nat)(z q:Int)(L:List (Option VCnt)):Pos :=
 posAt 7 dirsD [(1,.p 0 0),(2,.p 1 0),(3,.p 2 0),(5,.v (.int .i64 z)),(22,.v (.bool (zlt z m)))]
  [(0,some ⟨40,d.row m,0⟩),(1,some ⟨53,dskZ,0⟩),(2,some ⟨53,dskG m q 3,0⟩),(3,some (gh1 L))] 4
noncomputable def tabD:List (FuncId×Leaf):=stops [51,52,25] []
noncomputable def HD:Hk:=hkD Xt (leafTab tabD) 14 6
theorem HD_ok:HkOk Xt HD:=hkT_ok hmx (stops_ok fun p h=>by simp at h) 6
noncomputable def ls5:List Nat:=[1,2,3,5,22]
noncomputable def resN(m k:Nat):SV:=.t [.a (dskG m 0 k),ok0]
noncomputable def cutD0(m:Nat)(L:List (Option VCnt)):Cut:=⟨⟨[22],[],0⟩,[.c [] (resN m) [gh1 L]],ls5,[0,1,3,2],0⟩
theorem d_start(d:VD)(m:Nat)(L:List (Option VCnt)):goV HD 12 (cutD0 m L) (evPos Xt 7 [.a (d.row m)] .e 0)=(PD d m 0 0 L,[.c 51 [i64v m] [] [] 2 (resN m 2) [gh1 L]],true):=by kernel_rfl
noncomputable def cutDn:Cut:=⟨⟨[22],[],0⟩,[.b true,.c [] (fun _=>.a (uV none)) []],ls5,[0,1,2,3],0⟩
noncomputable def lastA(d:VD)(m:Nat)(z:Int):List SV:=[.a (.one (.v (.slice d.A m d.cr))),.v (.int .i64 z)]
theorem d_none(d:VD)(m:Nat)(z q:Int)(L:List (Option VCnt)):goV HD 12 cutDn (PD d m z q L)=(PD d m (IntKind.i64.wrap (z+1)) q L,[.t (zlt z m) true,.c 52 (lastA d m z) [] [] 4 (.a (uV none)) []],true):=by kernel_rfl
noncomputable def resW(m:Nat)(q:Int)(k:Nat):SV:=.t [.a (dskG m (IntKind.i64.wrap (q+1)) k),ok0]
noncomputable def goW(m:Nat)(q:Int)(x:VCnt)(L':List (Option VCnt))(p:Pos):Option (Pos×List Ob×ObX×List Ob×Bool):=match evStr (evRun ⟨[22],[36],0⟩ HD Xt 12 [.b true,.c [] (fun _=>.a (uV (some x))) []] p).1 with
 |some r=>(match evCallX [3,5] [3] (resW m q) [gh1 L'] (runE ⟨[22],[],0⟩ HD Xt 12 r) with
  |some (s,ob)=>some (cutV ls5 [0,1,2,6] 0 (evRun ⟨[22],[],0⟩ HD Xt 12 [] s).1,(evRun ⟨[22],[36],0⟩ HD Xt 12 [.b true,.c [] (fun _=>.a (uV (some x))) []] p).2,ob,(evRun ⟨[22],[],0⟩ HD Xt 12 [] s).2,plainK (evRun ⟨[22],[],0⟩ HD Xt 12 [] s).1.k)
  |none=>none)
 |none=>none
noncomputable def wrA(m:Nat)(z q:Int)(x:VCnt):List SV:=[.a (dskG m q 3),.v (.int .i64 z),.w 5 x.n]
theorem d_some(d:VD)(m:Nat)(z q:Int)(x:VCnt)(L L':List (Option VCnt)):goW m q x L' (PD d m z q L)=some (PD d m (IntKind.i64.wrap (z+1)) (IntKind.i64.wrap (q+1)) L',
 [.t (zlt z m) true,.c 52 (lastA d m z) [] [] 4 (.a (uV (some x))) []],⟨25,wrA m z q x,[3,5],[some (gh1 L),some ⟨5,.arr .u8 x.n x.l,7⟩],[3],6,resW m q 6,[gh1 L']⟩,[],true):=by kernel_rfl
noncomputable def finD(x:Option (SV×St)):List (Rp SV)×Option HB:=match x with
 |some (.a c,st)=>(rbare c [],st.hp.get 3)
 |_=>([],none)
noncomputable def endD(p:Pos):Pos×List Ob:=evRun ⟨[22],[],0⟩ HD Xt 12 [.b false] p
theorem d_end(d:VD)(m:Nat)(z q:Int)(L:List (Option VCnt)):(finD (finP Xt 7 (endD (PD d m z q L)).1),(endD (PD d m z q L)).2)=(([.one (i64v m),.one (.v (.int .i64 q)),.one (.gs 3 1)],some (gh1 L)),[.t (zlt z m) false]):=by kernel_rfl
noncomputable def newO(x:Option (SV×St)):Option (SV×Option HB×Option (TypeId×List (Rp SV)×Nat)):=match x with
 |some (y,st)=>some (y,st.hp.get 3,(st.hp.get 1).map fun b=>(b.T,rbare b.cs [],b.k))
 |none=>none
noncomputable def newE(m:Nat):Option (SV×Option HB×Option (TypeId×List (Rp SV)×Nat)):=some (.t [.a (packP [.one (i64v m),.one (i64v 0),.one (.s 3 0 1 1)]),ok0],some ⟨240,.one (.p 1 0),0⟩,some (242,List.replicate 64 (.one (.v (.pointer none))),0))
theorem new_all:(List.range 20).map (fun n=>newO (callW H0 Xt 14 51 [i64v (secs (n+1))] .e 0))=(List.range 20).map fun n=>newE (secs (n+1)):=by kernel_rfl
end Go.Proofs.YtjboelhcieepkaaGreatDoor
namespace Go.Proofs.YtjboelhcieepkaaGreatDoor
set_option maxRecDepth 16384
open Go.RowKit
theorem Mem.addO{E:Env}{r:List Loc}{hp:Tr}{nx:Nat}{w w':World}(h:Mem E r hp nx w)(hb:Below w.heap.size w w')(L:Loc)(b:HB)(hL:∀k,Cov b L k→w.heap.size≤k∨(¬ E.U k∧∀i c M,hp.get i=some c→r[i]?=some M→¬ Cov c M k))(hk:BlkOk E (r++[L]) L b w')(hkk:b.k<2∨5≤b.k):Mem E (r++[L]) (hp.put nx b) (nx+1) w':=by
 have hg:=h.grow hb
 have hnew:(r++[L])[nx]?=some L:=by rw [←h.len];simp
 have old:∀n b',(hp.put nx b).get n=some b'→n≠nx→hp.get n=some b'∧n<r.length:=by
  intro n b' hn hne
  rw [Tre.get_put,if_neg hne] at hn
  obtain ⟨M,hM,_⟩:=h.blk n b' hn
  exact ⟨hn,get_lt hM⟩
 refine ⟨by simp [h.len],fun n b' hn=>?_,fun n m b1 c1 L1 M1 hn hm hne hk1 hL1 hM1 k hc1 hc2=>?_,hg.below,hg.fz,fun n b' M hn hk' hM k hc hu=>?_,hg.up,fun n b' M hn hk' hk5 hM=>?_,hg.rlt,h.glob⟩
 ·by_cases hne:n=nx
  ·subst hne
   rw [Tre.get_put,if_pos rfl] at hn;cases hn
   exact ⟨L,hnew,hk⟩
  ·obtain ⟨h1,h2⟩:=old n b' hn hne
   obtain ⟨M,hM,hk'⟩:=hg.blk n b' h1
   exact ⟨M,get_app _ hM,hk'.move [L] (fun _ _=>rfl) (Nat.le_refl _)⟩
 ·by_cases h1:n=nx
  ·subst h1
   rw [hnew] at hL1;cases hL1
   rw [Tre.get_put,if_pos rfl] at hn;cases hn
   obtain ⟨h3,h4⟩:=old m c1 hm (Ne.symm hne)
   rcases hL k hc1 with h5|⟨_,h5⟩
   ·have:=h.covOf h3 (get_app_old hM1 h4) hc2
    omega
   ·exact h5 m c1 M1 h3 (get_app_old hM1 h4) hc2
  ·obtain ⟨h3,h4⟩:=old n b1 hn h1
   have h5:=get_app_old hL1 h4
   by_cases h2:m=nx
   ·subst h2
    rw [hnew] at hM1;cases hM1
    rw [Tre.get_put,if_pos rfl] at hm;cases hm
    rcases hL k hc2 with h6|⟨_,h6⟩
    ·have:=h.covOf h3 h5 hc1
     omega
    ·exact h6 n b1 L1 h3 h5 hc1
   ·obtain ⟨h6,h7⟩:=old m c1 hm h2
    exact h.sep n m b1 c1 L1 M1 h3 h6 hne hk1 h5 (get_app_old hM1 h7) k hc1 hc2
 ·by_cases hne:n=nx
  ·subst hne
   rw [hnew] at hM;cases hM
   rw [Tre.get_put,if_pos rfl] at hn;cases hn
   rcases hL k hc with h3|⟨h3,_⟩
   ·have:=(h.fz _ hu).1
    have:=h.up
    omega
   ·exact h3 hu
  ·obtain ⟨h4,h5⟩:=old n b' hn hne
   exact h.far n b' M h4 hk' (get_app_old hM h5) k hc hu
 ·by_cases hne:n=nx
  ·subst hne
   rw [Tre.get_put,if_pos rfl] at hn;cases hn;omega
  ·obtain ⟨h4,h5⟩:=old n b' hn hne
   exact h.old n b' M h4 hk' hk5 (get_app_old hM h5)
theorem dnew_any(n:Nat)(h1:1≤n)(h20:n≤20)(w:World)(hg:GlobOk Xt w):Calls Xt.P 51 #[.int .i64 (secs n:Int)] w fun e w'=>∃g,e=.returned (.tuple #[.agg #[.int .i64 (secs n:Int),.int .i64 0,.slice (some ⟨g,0,none⟩) 1 1],.int .i64 0])∧w.heap.size≤g∧g<w'.heap.size ∧
 diskAt w' g (fun j=>w.heap.size≤j∧j<w'.heap.size) (List.replicate (secs n) none)∧Below w.heap.size w w':=by
 obtain ⟨m,rfl⟩:∃m,n=m+1:=⟨n-1,by omega⟩
 have h:=all_of new_all (List.mem_range.2 (show m<20 by omega))
 unfold newO newE at h
 split at h
 ·rename_i y st hc
  simp only [Option.some.injEq,Prod.mk.injEq] at h
  obtain ⟨rfl,e3,e1⟩:=h
  obtain ⟨b1,hb1,e1⟩:=Option.map_eq_some_iff.1 e1
  simp only [Prod.mk.injEq] at e1
  obtain ⟨eT,eR,eK⟩:=e1
  refine (run_mem (vals:=[.int .i64 (secs (m+1):Int)]) hmx H0_ok hc (.cons (.v _) .nil) hg).mono fun e w' ⟨r,v,he,hd,hm⟩=>?_
  obtain ⟨L3,hL3,u3,hd3,⟨_,hge3,hb3,hblk3⟩|⟨hbad,_⟩|⟨hbad,_⟩⟩:=hm.blk 3 _ e3
  ·obtain ⟨L1,hL1,u1,hd1,⟨_,hge1,hbb1,hblk1⟩|⟨hbad,_⟩|⟨hbad,_⟩⟩:=hm.blk 1 _ hb1
   ·have hf:=rbare_ok _ hd1
    rw [eR] at hf
    have hu1:u1=List.replicate 64 (.pointer none):=by
     have key:∀(k:Nat) (us:List Value),DenF r (List.replicate k (.one (.v (.pointer none)))) us→us=List.replicate k (.pointer none):=by
      intro k
      induction k with
      |zero=>intro us h;cases h;rfl
      |succ k ih=>intro us h;cases h with|cons h t=>rw [one_inv h,ih _ t];rfl
     exact key 64 _ hf
    subst hu1
    cases hd3 with|one hd3 _=>cases hd3 with|p hq1 =>
     rw [hL1] at hq1
     cases hq1
     refine ⟨L3.g,?_,hge3,hblk3.lt,⟨L1.g,?_,⟨hge1,hblk1.lt⟩,List.replicate 64 none,by simp,fun k y hy=>?_,fun k x hx=>?_⟩,hm.below⟩
     ·cases hd with|t d=>cases d with|cons d1 d2=>cases d2 with|cons d2 d3 =>
       cases d3;cases d2
       cases d1 with|a d1 =>
        have d1':DenC r (.node 1 3 (.one (i64v (secs (m+1)))) (.node 1 2 (.one (i64v 0)) (.one (.s 3 0 1 1)))) _:=d1
        cases d1' with|node p1 p2 _ _=>cases p2 with|node p2 p3 _ _=>cases p3 with|one p3 _=>cases p3 with|s hq3 =>
         rw [hL3] at hq3
         cases hq3
         rw [one_inv p1,one_inv p2,hb3] at he
         exact he
     ·rw [hblk3.cell,hbb1];rfl
     ·have hk:k<64:=by have:=(List.getElem?_eq_some_iff.1 hy).1;simpa using this
      rw [hblk1.cell]
      simp only [List.getElem?_toArray]
      rw [List.getElem?_replicate,if_pos hk] at hy ⊢
      cases hy
      rfl
     ·have hx':x=none:=by
       have:=List.mem_of_getElem? hx
       exact List.eq_of_mem_replicate this
      subst hx'
      split
      ·rename_i q hq
       have:=List.mem_of_getElem? hq
       have:=List.eq_of_mem_replicate this
       cases this
      ·rfl
   ·rw [eK] at hbad;cases hbad
   ·rw [eK] at hbad;exact absurd hbad (by decide)
  ·cases hbad
  ·exact absurd hbad (by show ¬ 2≤0;decide)
 ·cases h
theorem refAt_keep{N:Nat}{w w':World}{g:Nat}{cv:Nat→Prop}{l:List (Option VCnt)}(h:refAt N w g cv l)(hb:Below w.heap.size w w')(hg:g<w.heap.size)(hcv:∀j,cv j→j<w.heap.size):refAt N w' g cv l :=
 refAt_s N w w' g cv l h (hb.block g hg) fun k hk=>hb.block k (hcv k hk)
structure RefIs(w:World)(g:Nat)(L:List (Option VCnt)) where
 N:Nat
 cv:Nat→Prop
 hN:N≤1000
 hg:g<w.heap.size
 hcv:∀j,cv j→j<w.heap.size
 hr:refAt N w g cv L
def LenOk(L:List (Option VCnt)):Prop:=∀(k:Nat) (x:VCnt),L[k]?=some (some x)→x.n=32∨x.n=137∨x.n=185
def takeL(m:Nat)(L:List (Option VCnt))(i:Nat):List (Option VCnt):=(List.range m).map fun k=>if k<i then (L[k]?).getD none else none
theorem takeL_get{m:Nat}{L:List (Option VCnt)}{i k:Nat}(h:k<m):(takeL m L i)[k]?=some (if k<i then (L[k]?).getD none else none):=by
 unfold takeL
 rw [List.getElem?_map,List.getElem?_range h]
 rfl
theorem takeL_len{m:Nat}{L:List (Option VCnt)}{i:Nat}:(takeL m L i).length=m:=by simp [takeL]
theorem takeL_none{m:Nat}{L:List (Option VCnt)}{i:Nat}(h:(L[i]?).getD none=none):takeL m L (i+1)=takeL m L i:=by
 unfold takeL
 refine List.map_congr_left fun k _=>?_
 by_cases e:k=i
 ·subst e;simp [h]
 ·by_cases h2:k<i
  ·rw [if_pos h2,if_pos (by omega)]
  ·rw [if_neg h2,if_neg (by omega)]
theorem takeL_some{m:Nat}{L:List (Option VCnt)}{i:Nat}{x:VCnt}(hi:i<m)(h:(L[i]?).getD none=some x):takeL m L (i+1)=(takeL m L i).set i (some x):=by
 apply List.ext_getElem?
 intro k
 by_cases hk:k<m
 ·rw [takeL_get hk]
  by_cases e:k=i
  ·subst e
   rw [List.getElem?_set_self (by rw [takeL_len];exact hk),if_pos (by omega),h]
  ·rw [List.getElem?_set_ne (by omega),takeL_get hk]
   by_cases h2:k<i
   ·rw [if_pos h2,if_pos (by omega)]
   ·rw [if_neg h2,if_neg (by omega)]
 ·rw [List.getElem?_eq_none (by rw [takeL_len];omega),List.getElem?_eq_none (by rw [List.length_set,takeL_len];omega)]
theorem takeL_zero{m:Nat}{L:List (Option VCnt)}:takeL m L 0=List.replicate m none:=by
 apply List.ext_getElem?
 intro k
 by_cases hk:k<m
 ·rw [takeL_get hk,List.getElem?_replicate,if_pos hk];simp
 ·rw [List.getElem?_eq_none (by rw [takeL_len];omega),List.getElem?_eq_none (by simp;omega)]
theorem takeL_all{m:Nat}{L:List (Option VCnt)}(h:L.length=m):takeL m L m=L:=by
 apply List.ext_getElem?
 intro k
 by_cases hk:k<m
 ·rw [takeL_get hk,if_pos hk,List.getElem?_eq_getElem (by omega)];rfl
 ·rw [List.getElem?_eq_none (by rw [takeL_len];omega),List.getElem?_eq_none (by omega)]
section
variable {w:World}{n gr:Nat}{L:List (Option VCnt)}{d:VD}
theorem new_ob(h1:1≤n)(h20:n≤20):CallOb (E0 Xt w) 51 [i64v (secs n)] [] [] 2 (resN (secs n) 2) [gh1 (List.replicate (secs n) none)]:=by
 intro r vals w1 hp ha hm _
 refine ⟨fun w'=>enters (by kernel_rfl) _ w',?_⟩
 cases ha with|cons d1 t =>
  cases t;cases d1
  refine (dnew_any n h1 h20 w1 hm.globs).mono ?_
  rintro e w' ⟨g,rfl,hge,hlt,hd,hb⟩
  have hm':=gh_add (T:=0) (t:=1) (N:=0) hm rfl hb hge hlt hd
  have hLn:(r++[(⟨g,0,0,none,fun k=>w1.heap.size≤k∧k<w'.heap.size⟩:Loc)])[2]?=some ⟨g,0,0,none,fun k=>w1.heap.size≤k∧k<w'.heap.size⟩:=by rw [←hm.len];simp
  refine ⟨[⟨g,0,0,none,fun k=>w1.heap.size≤k∧k<w'.heap.size⟩],_,rfl,?_,hm'⟩
  refine .t (.cons (.a (vs:=[.int .i64 (secs n:Int),.int .i64 0,.slice (some ⟨g,0,none⟩) 1 1]) ?_) (.cons (.v _) .nil))
  exact .node (us:=[.int .i64 (secs n:Int)]) (.one (.v _) rfl) (.node (us:=[.int .i64 0]) (.one (.v _) rfl) (.one (.gs hLn (Nat.le_refl 1)) rfl) rfl rfl) rfl rfl
theorem last_ob(hd:d.A=some ⟨gr,0,none⟩)(hr:RefIs w gr L){m k:Nat}(hm1:m≤1000)(hk:k<m){x:Option VCnt}(hx:L[k]?=some x):CallOb (E0 Xt w) 52 (lastA d m (k:Int)) [] [] 4 (.a (uV x)) []:=by
 intro r vals w1 hp ha hm _
 refine ⟨fun w'=>enters (by kernel_rfl) _ w',?_⟩
 have hb:Below w.heap.size w w1:=hm.below
 have hv:vals=[.agg #[.slice (some ⟨gr,0,none⟩) m d.cr],.int .i64 (k:Int)]:=by
  unfold lastA at ha
  rw [hd] at ha
  cases ha with|cons d1 t=>cases t with|cons d2 t =>
   cases t;cases d2
   cases d1 with|a d1=>rw [one_inv d1]
 rw [hv]
 refine (rlast_any hr.N gr m d.cr k hr.cv L x hk hm1 hr.hN hx w1 (Nat.lt_of_lt_of_le hr.hg hb.size) (fun j hj=>Nat.lt_of_lt_of_le (hr.hcv j hj) hb.size) (refAt_keep hr.hr hb hr.hg hr.hcv)).mono ?_
 rintro e w' ⟨rfl,h2⟩
 exact ⟨[],_,rfl,.a (uV_ok _ x),by have:=hm.grow h2;rw [List.append_nil];exact this⟩
set_option maxHeartbeats 1000000 in
theorem write_ob{m k:Nat}{q:Int}{x:VCnt}{L:List (Option VCnt)}(hk:k<56)(hkm:k<m)(hx:x.n=32∨x.n=137∨x.n=185)(hl:L[k]?=some none):CallObX (E0 Xt w) 25 (wrA m (k:Int) q x) [3,5] [some (gh1 L),some ⟨5,.arr .u8 x.n x.l,7⟩] [3] 6 (resW m q 6) [gh1 (L.set k (some x))]:=by
 intro r vals w1 hp ha hm hbs
 refine ⟨fun w'=>enters (by kernel_rfl) _ w',?_⟩
 have hbs':[nrmB (hp.get 3),nrmB (hp.get 5)]=[some (gh1 L),some ⟨5,.arr .u8 x.n x.l,7⟩]:=hbs
 simp only [List.cons.injEq,and_true] at hbs'
 obtain ⟨e3,e5⟩:=hbs'
 have hg3:hp.get 3=some (gh1 L):=by
  cases h3:hp.get 3 with
  |none=>rw [h3] at e3;cases e3
  |some b =>
   rw [h3] at e3
   have e:nrmH b=gh1 L:=Option.some.inj e3
   have h8:b.k=8:=by have:=congrArg HB.k e;exact this
   rw [nrmH_8 h8] at e
   rw [e]
 obtain ⟨b5,hb5,eb5⟩:∃b,hp.get 5=some b∧nrmH b=⟨5,.arr .u8 x.n x.l,7⟩:=by
  cases h5:hp.get 5 with
  |none=>rw [h5] at e5;cases e5
  |some b=>rw [h5] at e5;exact ⟨b,rfl,Option.some.inj e5⟩
 obtain ⟨L5,hL5,hB5⟩:=hm.blk 5 b5 hb5
 have hB5':=nrmH_ok hB5
 rw [eb5] at hB5'
 obtain ⟨v5,hd5,hc5⟩:=hB5'
 have hv5:v5=nv .u8 x.l:=arr_inv hd5
 subst hv5
 obtain ⟨hlt5,hcell5⟩:L5.g<w1.heap.size∧∀j v,(nv .u8 x.l)[j]?=some v→w1.cell? ⟨L5.g,L5.b+j,none⟩=some v:=by
  rcases hc5 with ⟨h,_⟩|⟨h,_⟩|⟨_,h1,h2,_⟩
  ·cases h
  ·cases h
  ·exact ⟨h1,h2⟩
 obtain ⟨mm,hmk⟩:∃mm,m=mm+(k+1):=⟨m-(k+1),by omega⟩
 cases ha with|cons d1 t=>cases t with|cons d2 t=>cases t with|cons d3 t =>
  cases t;cases d2
  cases d3 with|w hq5 hc5l =>
   rw [hL5] at hq5
   cases hq5
   cases d1 with|a d1 =>
    have d1':DenC r (.node 1 3 (.one (i64v m)) (.node 1 2 (.one (.v (.int .i64 q))) (.one (.gs 3 1)))) _:=d1
    cases d1' with|node p1 p2 _ _=>cases p2 with|node p2 p3 _ _=>cases p3 with|one p3 _=>cases p3 with|@gs _ _ c3 L3 hq3 hc3 =>
     obtain ⟨hd,hg3l,hcv3⟩:=gh_get hm rfl hg3 hq3
     rw [one_inv p1,one_inv p2]
     have hcall:=dwrite_any k mm x.n hk hx w1 hm.globs L3.g c3 hc3 hg3l L3.cv hcv3 L hd hl x rfl L5.g L5.b L5.c hc5l ⟨by rw [nv_len,x.hl,Nat.mul_one],fun _=>⟨_,rfl,hlt5,fun j u hu=>by rw [add_none];exact hcell5 j u hu⟩⟩ q
     rw [←hmk] at hcall
     refine hcall.mono ?_
     rintro e w' ⟨g',hge,hlt,rfl,hdk,hb⟩
     have hm1:=hm.del 3
     have hown3:∀j,L3.cv j→(E0 Xt w).w0.heap.size≤j∧∀(i:Nat) (c:HB) (M:Loc),(hp.del 3).get i=some c→r[i]?=some M→¬ Cov c M j:=by
      intro j hj
      obtain ⟨L3',hL3',vs3,_,hc3'⟩:=hm.blk 3 _ hg3
      rw [hq3] at hL3';cases hL3'
      refine ⟨?_,fun i c M hc hM hcov=>?_⟩
      ·rcases hc3' with ⟨h,_⟩|⟨h,_⟩|⟨_,_,_,h4⟩
       ·cases h
       ·cases h
       ·obtain ⟨t',N',l',_,h5,_⟩:=h4.2.2.2 rfl
        exact (h5 j hj).2
      ·rw [Tre.get_del] at hc
       by_cases hi3:i=3
       ·rw [if_pos hi3] at hc;cases hc
       ·rw [if_neg hi3] at hc
        exact hm.sep 3 i _ c L3 M hg3 hc (fun h=>hi3 h.symm) (by show ¬ 8=2;decide) hq3 hM j (.inr ⟨rfl,hj⟩) hcov
     refine ⟨[⟨g',0,0,none,fun j=>L3.cv j∨(w1.heap.size≤j∧j<w'.heap.size)⟩],_,rfl,?_,?_⟩
     ·have hLn:(r++[(⟨g',0,0,none,fun j=>L3.cv j∨(w1.heap.size≤j∧j<w'.heap.size)⟩:Loc)])[6]?=some ⟨g',0,0,none,fun j=>L3.cv j∨(w1.heap.size≤j∧j<w'.heap.size)⟩:=by rw [←hm.len];simp
      refine .t (.cons (.a (vs:=[.int .i64 (m:Int),.int .i64 (IntKind.i64.wrap (q+1)),.slice (some ⟨g',0,none⟩) 1 1]) ?_) (.cons (.v _) .nil))
      exact .node (us:=[.int .i64 (m:Int)]) (.one (.v _) rfl) (.node (us:=[.int .i64 (IntKind.i64.wrap (q+1))]) (.one (.v _) rfl) (.one (.gs hLn (Nat.le_refl 1)) rfl) rfl rfl) rfl rfl
     ·have hw1:(E0 Xt w).w0.heap.size≤w1.heap.size:=hm.below.size
      refine hm1.addO (nx:=6) hb ⟨g',0,0,none,fun j=>L3.cv j∨(w1.heap.size≤j∧j<w'.heap.size)⟩ (gh1 (L.set k (some x))) (fun j hj=>?_) ⟨[],.q (.gh 1 0 _),.inr (.inr ⟨by show 2≤8;decide,hlt,fun j v hv=>by simp at hv,⟨fun h=>absurd h (by show ¬ 8=5;decide),fun h=>absurd h (by show ¬ 8=6;decide),fun _=>Nat.le_trans hw1 hge,fun _=>⟨1,0,_,rfl,fun j hj=>?_,hdk⟩⟩⟩)⟩ (.inr (by show 5≤8;decide))
      ·rcases hj with rfl|⟨_,hj|hj⟩
       ·exact .inl hge
       ·exact .inr ⟨fun hu=>hm.far 3 _ L3 hg3 (.inr (by show 5≤8;decide)) hq3 j (.inr ⟨rfl,hj⟩) hu,(hown3 j hj).2⟩
       ·exact .inl hj.1
      ·rcases hj with hj|hj
       ·exact ⟨Nat.lt_of_lt_of_le (hcv3 j hj) hb.size,(hown3 j hj).1⟩
       ·exact ⟨hj.2,Nat.le_trans hw1 hj.1⟩
end
end Go.Proofs.YtjboelhcieepkaaGreatDoor
namespace Go.Proofs.YtjboelhcieepkaaGreatDoor
set_option maxRecDepth 16384
open Go.RowKit
theorem SegV.goW{w:World}{m:Nat}{q0:Int}{x:VCnt}{L':List (Option VCnt)}{p q:Pos}{obs:List Ob}{ob:ObX}(h:goW m q0 x L' p=some (q,obs,ob,[],true))(ho:∀ob∈obs,ob.Holds (E0 Xt w))(hob:ob.Holds (E0 Xt w)):SegV w p q:=by
 intro Q0 h0 hq
 unfold Go.Proofs.YtjboelhcieepkaaGreatDoor.goW at h
 split at h
 ·rename_i r hr
  split at h
  ·rename_i s ob' hs
   simp only [Option.some.injEq,Prod.mk.injEq] at h
   obtain ⟨e1,e2,e3,e4,e5⟩:=h
   subst e3
   refine evRun_ok (S:=⟨[22],[36],0⟩) (E:=E0 Xt w) hmx HD_ok h0 12 _ (fun ob hob=>ho ob (e2▸hob)) ?_
   refine evStr_ok (E:=E0 Xt w) rfl hr ?_
   refine runRn_ok (S:=⟨[22],[],0⟩) (E:=E0 Xt w) hmx HD_ok h0 12 ?_
   refine evCallX_ok (E:=E0 Xt w) hs hob ?_
   refine evRun_ok (S:=⟨[22],[],0⟩) (E:=E0 Xt w) hmx HD_ok h0 12 [] (fun ob hob=>nomatch (show ob∈([]:List Ob) from hob)) ?_
   obtain ⟨pe,hpe⟩:∃pe,pe=(evRun ⟨[22],[],0⟩ HD Xt 12 [] s).1:=⟨_,rfl⟩
   show Xp (E0 Xt w) [] Q0 (evRun ⟨[22],[],0⟩ HD Xt 12 [] s).1
   rw [←hpe] at e1 e5 ⊢
   have h4:Xp (E0 Xt w) [] Q0 (weakX [0,1,2,6] pe):=renum_ok ls5 [0,1,2,6] 0 e5 (by
    have:renum ls5 [0,1,2,6] 0 (weakX [0,1,2,6] pe)=q:=e1
    rw [this];exact hq)
   intro r2 vs w' Q hr2 hs2 hm hk
   exact h4 r2 vs w' Q hr2 hs2 (keepY_ok hm [0,1,2,6]) hk
  ·cases h
 ·cases h
theorem wrapN{i:Nat}(h:i<1000):IntKind.i64.wrap ((i:Int)+1)=((i+1:Nat):Int):=by rw [IntWalk.i64_in _ (by omega)];omega
section
variable {w:World}{n gr:Nat}{L:List (Option VCnt)}{d:VD}
theorem secs_le{n:Nat}(h1:1≤n)(h20:n≤20):secs n≤56:=(sctr_lt (lv:=0) (ix:=0) (s:=0) h1 h20 (by omega) (by unfold cnt;omega) (by omega)).2
noncomputable def qOf(L:List (Option VCnt)):Nat→Int
 |0=>0
 |i+1=>match (L[i]?).getD none with
  |none=>qOf L i
  |some _=>IntKind.i64.wrap (qOf L i+1)
theorem d_chain(h1:1≤n)(h20:n≤20)(hd:d.A=some ⟨gr,0,none⟩)(hr:RefIs w gr L)(hL:L.length=secs n)(hlen:LenOk L):∀i,i≤secs n→SegV w (PD d (secs n) 0 0 (takeL (secs n) L 0)) (PD d (secs n) (i:Int) (qOf L i) (takeL (secs n) L i))
 |0,_=>SegV.rfl_ w _
 |i+1,hi=>by
  have hq:=d_chain h1 h20 hd hr hL hlen i (by omega)
  obtain ⟨q,hqq⟩:∃q,q=qOf L i:=⟨_,rfl⟩
  rw [←hqq] at hq
  have h56:=secs_le h1 h20
  have hz:zlt (i:Int) (secs n)=true:=decide_eq_true (by omega)
  have hwz:=wrapN (show i<1000 by omega)
  cases hx:(L[i]?).getD none with
  |none =>
   have hxi:L[i]?=some none:=by
    rw [List.getElem?_eq_getElem (show i<L.length by omega)] at hx ⊢
    exact congrArg some hx
   have h:=d_none d (secs n) (i:Int) q (takeL (secs n) L i)
   rw [hwz] at h
   rw [show qOf L (i+1)=q from by rw [hqq];show (match (L[i]?).getD none with|none=>qOf L i|some _=>IntKind.i64.wrap (qOf L i+1))=_;rw [hx]]
   refine hq.trans ?_
   rw [takeL_none hx]
   refine SegV.go HD_ok h fun ob hob=>?_
   simp only [List.mem_cons,List.not_mem_nil,or_false] at hob
   rcases hob with rfl|rfl
   ·exact hz
   ·exact last_ob hd hr (by omega) (by omega) hxi
  |some x =>
   have hxi:L[i]?=some (some x):=by
    rw [List.getElem?_eq_getElem (show i<L.length by omega)] at hx ⊢
    exact congrArg some hx
   have h:=d_some d (secs n) (i:Int) q x (takeL (secs n) L i) ((takeL (secs n) L i).set i (some x))
   rw [hwz] at h
   rw [show qOf L (i+1)=IntKind.i64.wrap (q+1) from by rw [hqq];show (match (L[i]?).getD none with|none=>qOf L i|some _=>IntKind.i64.wrap (qOf L i+1))=_;rw [hx]]
   refine hq.trans ?_
   rw [takeL_some (by omega) hx]
   refine SegV.goW h (fun ob hob=>?_) ?_
   ·simp only [List.mem_cons,List.not_mem_nil,or_false] at hob
    rcases hob with rfl|rfl
    ·exact hz
    ·exact last_ob hd hr (by omega) (by omega) hxi
   ·exact write_ob (by omega) (by omega) (hlen i x hxi) (by rw [takeL_get (by omega),if_neg (by omega)])
theorem disk_any(h1:1≤n)(h20:n≤20)(hd:d.A=some ⟨gr,0,none⟩)(hr:RefIs w gr L)(hL:L.length=secs n)(hlen:LenOk L)(hg:GlobOk Xt w)(vs:List Value)(hv:DenC [] (d.row (secs n)) vs):
 Calls Xt.P 7 #[.agg vs.toArray] w fun e w'=>∃g c,∃hk:DskIs w' g c L,e=.returned (.agg #[.int .i64 (secs n:Int),.int .i64 (qOf L (secs n)),.slice (some ⟨g,0,none⟩) 1 c])∧w.heap.size≤g∧(∀j,hk.cv j→w.heap.size≤j)∧Below w.heap.size w w':=by
 have h56:=secs_le h1 h20
 have hq:=d_chain (w:=w) h1 h20 hd hr hL hlen (secs n) (Nat.le_refl _)
 obtain ⟨q,hqq⟩:∃q,q=qOf L (secs n):=⟨_,rfl⟩
 rw [←hqq] at hq ⊢
 have h0:=d_start d (secs n) (takeL (secs n) L 0)
 have hs0:SegV w (evPos Xt 7 [.a (d.row (secs n))] .e 0) (PD d (secs n) 0 0 (takeL (secs n) L 0)):=by
  refine SegV.go HD_ok h0 fun ob hob=>?_
  simp only [List.mem_cons,List.not_mem_nil,or_false] at hob
  subst hob
  rw [takeL_zero]
  exact new_ob h1 h20
 have hseg:=hs0.trans hq
 have he:=d_end d (secs n) (secs n:Int) q (takeL (secs n) L (secs n))
 rw [takeL_all hL] at he hseg
 simp only [Prod.mk.injEq] at he
 obtain ⟨e1,e2⟩:=he
 unfold finD at e1
 split at e1
 ·rename_i c st hfin
  simp only [Prod.mk.injEq] at e1
  obtain ⟨e3,e4⟩:=e1
  cases hent:entryS Xt.P 7 with
  |none=>unfold finP at hfin;rw [hent] at hfin;cases hfin
  |some fc =>
   obtain ⟨fn,cd⟩:=fc
   have hpos:evPos Xt 7 [.a (d.row (secs n))] .e 0=⟨.code cd,[],⟨frame [.a (d.row (secs n))] fn.ntmps,.e,0⟩⟩:=by unfold evPos;rw [hent]
   rw [hpos] at hseg
   unfold finP at hfin
   rw [hent] at hfin
   have hx:=hseg _ collOk_body (evRun_ok (S:=⟨[22],[],0⟩) (E:=E0 Xt w) hmx HD_ok collOk_body 12 [.b false] (fun ob hob=>by
    have hob':ob∈(endD (PD d (secs n) (secs n:Int) q L)).2:=hob
    rw [e2] at hob'
    simp only [List.mem_cons,List.not_mem_nil,or_false] at hob'
    subst hob'
    exact decide_eq_false (by omega)) (finS_ok (E:=E0 Xt w) (r:=[]) hfin))
   have hc:=calls_of_X2 (E:=E0 Xt w) (k:=[]) (r0:=[]) (r:=[]) (vals:=[.agg vs.toArray]) hent ⟨[],rfl⟩ (.cons (.a hv) .nil) (Mem.start Xt w hg) rfl rfl rfl hx
   refine hc.mono ?_
   rintro e w' ⟨r,v,rfl,hdv,hm⟩
   rw [List.nil_append] at hdv hm
   cases hdv with|a hdv =>
    have hf:=rbare_ok _ hdv
    rw [e3] at hf
    cases hf with|cons d1 hf=>cases hf with|cons d2 hf=>cases hf with|cons d3 hf =>
     cases hf
     cases d3 with|one d3 _=>cases d3 with|@gs _ _ c3 L3 hq3 hc3 =>
      obtain ⟨hdk,hgl,hcv⟩:=gh_get hm rfl e4 hq3
      rw [one_inv d1,one_inv d2]
      obtain ⟨L3',hL3',vs3,_,hk3⟩:=hm.blk 3 _ e4
      rw [hq3] at hL3'
      cases hL3'
      have hge:w.heap.size≤L3.g∧∀j,L3.cv j→w.heap.size≤j:=by
       rcases hk3 with ⟨h,_⟩|⟨h,_⟩|⟨_,_,_,h4⟩
       ·cases h
       ·cases h
       ·obtain ⟨t',N',l',_,h5,_⟩:=h4.2.2.2 rfl
        exact ⟨h4.2.2.1 (by show 5≤8;decide),fun j hj=>(h5 j hj).2⟩
      exact ⟨L3.g,c3,⟨L3.cv,hgl,hc3,hcv,hdk⟩,rfl,hge.1,hge.2,hm.below⟩
 ·cases e1
end
end Go.Proofs.YtjboelhcieepkaaGreatDoor
namespace Go.Proofs.YtjboelhcieepkaaGreatDoor
set_option maxRecDepth 16384
open Go.RowKit
theorem LenOk.set{L:List (Option VCnt)}(h:LenOk L)(k:Nat){x:VCnt}(hx:x.n=32∨x.n=137∨x.n=185):LenOk (L.set k (some x)):=by
 intro j y hy
 rw [List.getElem?_set] at hy
 split at hy
 ·split at hy
  ·cases hy;exact hx
  ·cases hy
 ·exact h j y hy
theorem LenOk.rep(n:Nat):LenOk (repV n):=by
 intro j y hy
 rw [repV_eq,List.getElem?_replicate] at hy
 split at hy
 ·cases hy
 ·cases hy
theorem Lv_ok(x:VP)(n lp:Nat):∀i,(Lv x n lp i).length=secV n∧LenOk (Lv x n lp i)
 |0=>⟨by show (repV (secV n)).length=_;rw [repV_eq,List.length_replicate],LenOk.rep _⟩
 |i+1=>by
  have ih:=Lv_ok x n lp i
  show (if isRec x lp i then (Lv x n lp i).set _ _ else Lv x n lp i).length=_∧LenOk (if isRec x lp i then (Lv x n lp i).set _ _ else Lv x n lp i)
  by_cases h:isRec x lp i
  ·rw [if_pos h];exact ⟨by rw [List.length_set];exact ih.1,ih.2.set _ (.inl rfl)⟩
  ·rw [if_neg h];exact ih
section
variable {n l j m k:Nat}{R:Nat→VRec}{S:Nat→Bool}{L:List (Option VCnt)}
theorem stepL_ok(h:L.length=secV n∧LenOk L):(stepL n R S l j L).length=secV n∧LenOk (stepL n R S l j L):=by
 unfold stepL
 split
 ·exact ⟨by rw [List.length_set];exact h.1,h.2.set _ (nodeB_n _).2⟩
 ·exact h
theorem rowL_ok(h:L.length=secV n∧LenOk L):∀j,(rowL n R S l L j).length=secV n∧LenOk (rowL n R S l L j)
 |0=>h
 |j+1=>stepL_ok (rowL_ok h j)
theorem levL_ok(h:L.length=secV n∧LenOk L):∀l,(levL n R S L l).length=secV n∧LenOk (levL n R S L l)
 |0=>h
 |l+1=>rowL_ok (levL_ok h l) _
theorem bitN_lt(b:Bool):bitN b<2:=by have:=bitN_le b;omega
theorem stepL_get(h:k<bas n l+2*j∨bas n l+(2*j+2)≤k):(stepL n R S l j L)[k]?=L[k]?:=by
 unfold stepL
 split
 ·rw [List.getElem?_set_ne]
  have:=bitN_lt (S (num n l j))
  omega
 ·rfl
theorem stepL_hit(he:emT n l j R=true)(hL:bas n l+(2*j+bitN (S (num n l j)))<L.length):(stepL n R S l j L)[bas n l+(2*j+bitN (S (num n l j)))]?=some (some (.nd (ndV n R S l j))):=by
 unfold stepL
 rw [if_pos he,List.getElem?_set_self hL]
theorem rowL_get:∀{j:Nat},k<bas n l∨bas n l+2*j≤k→(rowL n R S l L j)[k]?=L[k]?
 |0,_=>rfl
 |j+1,h=>(stepL_get (by omega)).trans (rowL_get (by omega))
theorem rowL_hit(hok:L.length=secV n∧LenOk L)(he:emT n l j R=true)(hL:bas n l+(2*j+bitN (S (num n l j)))<secV n):∀{m:Nat},j<m→(rowL n R S l L m)[bas n l+(2*j+bitN (S (num n l j)))]?=some (some (.nd (ndV n R S l j)))
 |0,h=>absurd h (by omega)
 |m+1,h=>by
  show (stepL n R S l m (rowL n R S l L m))[_]?=_
  by_cases e:j=m
  ·subst e
   exact stepL_hit he (by rw [(rowL_ok hok j).1];exact hL)
  ·have:=bitN_lt (S (num n l j))
   rw [stepL_get (by omega)]
   exact rowL_hit hok he hL (by omega)
theorem bas_up(h:l<m)(hm:m<3):bas n l+2*cnt n l≤bas n m:=by
 unfold bas
 rcases l with _|_|l
 ·rcases m with _|_|m
  ·omega
  ·simp
  ·simp
   try omega
 ·rcases m with _|_|m
  ·omega
  ·omega
  ·simp
   try omega
 ·omega
theorem levL_hit(hok:L.length=secV n∧LenOk L)(he:emT n l j R=true)(hj:j<cnt n l)(hL:bas n l+(2*j+bitN (S (num n l j)))<secV n):∀{m:Nat},l<m→m≤3→(levL n R S L m)[bas n l+(2*j+bitN (S (num n l j)))]?=some (some (.nd (ndV n R S l j)))
 |0,h,_=>absurd h (by omega)
 |m+1,h,hm=>by
  show (rowL n R S m (levL n R S L m) (cnt n m))[_]?=_
  by_cases e:l=m
  ·subst e
   exact rowL_hit (levL_ok hok l) he hL hj
  ·have hb:=bitN_lt (S (num n l j))
   have hu:=bas_up (n:=n) (l:=l) (m:=m) (by omega) (by omega)
   rw [rowL_get (.inl (by omega))]
   exact levL_hit hok he hj hL (by omega) (by omega)
end
theorem bnd_all:(List.range 20).all (fun m=>Nat.ble ((m+1)+num (m+1) (hgt (m+1)) (cnt (m+1) (hgt (m+1)))) 1000&&Nat.blt (hgt (m+1)) 3)=true:=by decide
theorem bnd_any{n:Nat}(h1:1≤n)(h20:n≤20):n+num n (hgt n) (cnt n (hgt n))≤1000∧hgt n<3:=by
 obtain ⟨m,rfl⟩:∃m,n=m+1:=⟨n-1,by omega⟩
 have:=List.all_eq_true.1 bnd_all m (List.mem_range.2 (by omega))
 simpa [ble_iff,blt_iff] using this
noncomputable def LF(x:VP)(n lp ls:Nat):List (Option VCnt):=levL n (Rv x lp) (Sw x ls n) (Lv x n lp n) (hgt n+1)
theorem LF_ok(x:VP)(n lp ls:Nat):(LF x n lp ls).length=secs n∧LenOk (LF x n lp ls):=levL_ok (Lv_ok x n lp n) _
theorem LF_get(x:VP){n lp ls l j:Nat}(h1:1≤n)(h20:n≤20)(hl:l≤hgt n)(hj:j<cnt n l)(he:emT n l j (Rv x lp)=true):(LF x n lp ls)[sctr n l j (bitN (Sw x ls n (num n l j)))]?=some (some (.nd (ndV n (Rv x lp) (Sw x ls n) l j))) :=
 levL_hit (Lv_ok x n lp n) he hj (sctr_lt h1 h20 (by have:=(bnd_any h1 h20).2;omega) hj (bitN_lt _)).1 (by omega) (by have:=(bnd_any h1 h20).2;omega)
noncomputable def volG(x:VP)(n k:Nat)(rt:List Nat):Rp SV:=packP [.one (i64v n),.q (.byt ⟨x.el,16,x.he,x.heb⟩),.q (.byt ⟨x.ml,32,x.hm,x.hmb⟩),.one (.gs k (secs n)),.q (.sha rt),.one (.v (.int .u64 (IntKind.u64.wrap ((x.ep:Nat):Int)))),n64 1000,.one .u,.one .u,.one .u]
noncomputable def rootB(x:VP)(n lp ls:Nat):List Nat:=(ndV n (Rv x lp) (Sw x ls n) (hgt n) 0).bytes
theorem DenC.toV{r:List Loc}{x:Value}{us:List Value}(h:DenC r (.one (.v x)) us)(r':List Loc):DenC r' (.one (.v x)) us:=by cases h with|one h h1=>cases h;exact .one (.v _) h1
theorem DenC.toQ{r:List Loc}{a:At}{us:List Value}(h:DenC r (.q a) us)(r':List Loc):DenC r' (.q a) us:=by cases h;exact .q a
theorem DenC.toU{r:List Loc}{x:SV}{us:List Value}(h:DenC r (.one x) us)(r':List Loc):DenC r' (.one .u) us:=by cases h with|one h h1=>exact .one (.u _) h1
theorem nEx_eq{bl n:Nat}(hb:bl<256)(hn:n=1+bl%20):nEx bl=(n:Int):=by
 unfold nEx
 rw [IntWalk.i64_in (Int.ofNat bl) (by constructor<;>simp<;>omega)]
 rw [show (Int.ofNat bl).tmod 20=((bl%20:Nat):Int) from rfl]
 rw [IntWalk.i64_in _ (by omega),hn]
 omega
theorem vof_any{w:World}{bl ep ma:Nat}{pl sl:List Nat}{pp sp:SV}{n n2 n3 lp ls:Nat}(hb:bl<256)(hn:n=1+bl%20)(hpp:PPok pp lp n2)(hsp:SPok sp ls n3){r0:List Loc}(hm:Mem (E0 Xt w) r0 (hp0 (vp0 bl ep ma pl sl) n2 n3) 2 w){vs:List Value}(hv:DenC r0 (vR (vp0 bl ep ma pl sl) pp sp) vs):
 Calls Xt.P 5 #[.agg vs.toArray] w fun e w'=>∃us,∃L:Loc,∃hr:RefIs w' L.g (LF (vp0 bl ep ma pl sl) n lp ls),e=.returned (.agg us.toArray)∧hr.cv=L.cv∧w.heap.size≤L.g∧(∀j,L.cv j→w.heap.size≤j)∧(∀(r:List Loc) k,r[k]?=some L→DenC r (volG (vp0 bl ep ma pl sl) n k (rootB (vp0 bl ep ma pl sl) n lp ls)) us)∧Below w.heap.size w w':=by
 obtain ⟨x,hx⟩:∃x,x=vp0 bl ep ma pl sl:=⟨_,rfl⟩
 have h1:1≤n:=by omega
 have h20:n≤20:=by omega
 have hpf:=hpp.fix
 have hsf:=hsp.fix
 have s0:SegV w (P0 x pp sp n2 n3) (P1 x pp sp n2 n3 n 0 (Rv x lp) (Bv x lp) (Lv x n lp 0)):=by
  have h:=r0_any n h1 h20 bl ep ma pl sl pp sp n2 n3 (Rv x lp) (Bv x lp)
  rw [←hx] at h
  refine go1_seg (x:=x) (c:=cut0 n) (t:=[2,3,4,5,900,901,902]) h rfl (by kernel_rfl) hpf hsf ?_
  intro ob hob
  simp only [List.mem_cons,List.not_mem_nil,or_false] at hob
  subst hob
  intro r us hd
  rw [nEx_eq hb hn] at hd
  exact hd
 have s1:=s0.trans (l1_all h1 h20 hpp hsf n (Nat.le_refl _))
 have s2:=s1.trans (p12 (S:=Sv x ls) h1 h20 hpf hsf)
 have s3:=s2.trans (l2_all h1 h20 hpf hsp (tot n) (Nat.le_refl _))
 have s4:=s3.trans (p23 h1 h20 hpf hsf)
 have s5:=s4.trans (l3_all h1 h20 hpf hsf (hgt n) (Nat.le_refl _))
 have s6:=s5.trans (l3_row h1 h20 (Nat.le_refl _) hpf hsf (cnt n (hgt n)) (Nat.le_refl _))
 have he:=re_any n h1 h20 x pp sp n2 n3 (Rv x lp) (Bv x lp) (LF x n lp ls) (Sw x ls n)
 have hseg:SegV w (P0 x pp sp n2 n3) (P3 x pp sp n2 n3 n (hgt n) (cnt n (hgt n)) (Rv x lp) (Bv x lp) (LF x n lp ls) (Sw x ls n)):=s6
 clear s0 s1 s2 s3 s4 s5 s6
 rw [←hx] at hm hv
 simp only [Prod.mk.injEq] at he
 obtain ⟨e1,e2⟩:=he
 unfold finV at e1
 split at e1
 ·rename_i c st hfin
  simp only [Prod.mk.injEq] at e1
  obtain ⟨e3,e4⟩:=e1
  cases hent:entryS Xt.P 5 with
  |none=>unfold finP at hfin;rw [hent] at hfin;cases hfin
  |some fc =>
   obtain ⟨fn,cd⟩:=fc
   have hpos:P0 x pp sp n2 n3=⟨.code cd,[],⟨frame [.a (vR x pp sp)] fn.ntmps,hp0 x n2 n3,2⟩⟩:=by unfold P0 evPos;rw [hent]
   rw [hpos] at hseg
   unfold finP at hfin
   rw [hent] at hfin
   have hxx:=hseg _ collOk_body (evRun_ok (S:=⟨[163,155],[],0⟩) (E:=E0 Xt w) hmx HV_ok collOk_body 12 [.b false,.b false] (fun ob hob=>by
    have hob':ob∈(endX (P3 x pp sp n2 n3 n (hgt n) (cnt n (hgt n)) (Rv x lp) (Bv x lp) (LF x n lp ls) (Sw x ls n))).2:=hob
    rw [e2] at hob'
    simp only [List.mem_cons,List.not_mem_nil,or_false] at hob'
    rcases hob' with rfl|rfl<;>rfl) (finS_ok (E:=E0 Xt w) (r:=[]) hfin))
   have hc:=calls_of_X2 (E:=E0 Xt w) (k:=[]) (r0:=[]) (r:=r0) (vals:=[.agg vs.toArray]) hent ⟨r0,rfl⟩ (.cons (.a hv) .nil) hm rfl rfl rfl hxx
   refine hc.mono ?_
   rintro e w' ⟨r,v,rfl,hdv,hm'⟩
   rw [List.nil_append] at hdv hm'
   cases hdv with|a hdv =>
    have hf:=rbare_ok _ hdv
    rw [e3] at hf
    cases hf with|cons d1 hf=>cases hf with|cons d2 hf=>cases hf with|cons d3 hf=>cases hf with|cons d4 hf=>cases hf with|cons d5 hf=>cases hf with|cons d6 hf=>cases hf with|cons d7 hf=>cases hf with|cons d8 hf=>cases hf with|cons d9 hf=>cases hf with|cons d10 hf=>cases hf with|cons d11 hf =>
     cases hf
     cases arr_inv d5
     cases d4 with|one d4 d4'=>cases d4 with|@gs _ _ c3 L3 hq3 hc3 =>
      obtain ⟨hdk,hgl,hcv⟩:=gh_get hm' rfl e4 hq3
      obtain ⟨L3',hL3',vs3,_,hk3⟩:=hm'.blk 5 _ e4
      rw [hq3] at hL3'
      cases hL3'
      have hge:w.heap.size≤L3.g∧∀j,L3.cv j→w.heap.size≤j:=by
       rcases hk3 with ⟨h,_⟩|⟨h,_⟩|⟨_,_,_,h4⟩
       ·cases h
       ·cases h
       ·obtain ⟨t',N',l',_,h5,_⟩:=h4.2.2.2 rfl
        exact ⟨h4.2.2.1 (by show 5≤8;decide),fun j hj=>(h5 j hj).2⟩
      refine ⟨_,L3,⟨n+num n (hgt n) (cnt n (hgt n)),L3.cv,(bnd_any h1 h20).1,hgl,hcv,?_⟩,rfl,rfl,hge.1,hge.2,?_,hm'.below⟩
      ·rw [←hx]
       exact hdk.1
      ·intro r' k hk
       rw [←hx]
       exact DenC.cat (d1.toV r') (DenC.cat (d2.toQ r') (DenC.cat (d3.toQ r') (DenC.cat (.one (.gs hk hc3) rfl) (DenC.cat (d6.toQ r') (DenC.cat (d7.toV r') (DenC.cat (d8.toV r') (DenC.cat (d9.toU r') (DenC.cat (d10.toU r') (DenC.cat (d11.toU r') .nil)))))))))
 ·cases e1
end Go.Proofs.YtjboelhcieepkaaGreatDoor
namespace Go.Proofs.YtjboelhcieepkaaGreatDoor
set_option maxRecDepth 16384
open Go.RowKit
noncomputable def ghN(n:Nat)(L:List (Option VCnt)):HB:=⟨0,.q (.gh (secV n+2) 1000 L),8⟩
noncomputable def tn0(x:VP)(pp sp:SV)(n2 n3 cut:Nat):Pos:=evPos Xt 3 [.a (vR x pp sp),cutS cut] (hp0 x n2 n3) 2
noncomputable def tn1(x:VP)(n:Nat)(rt:List Nat)(L:List (Option VCnt))(p:Pos):Pos×List Ob:=evRun S0 HQ Xt 12 [.c [0,1] (fun k=>.a (volG x n k rt)) [ghN n L]] p
noncomputable def dskG2(n:Nat)(q:Int)(k:Nat):Rp SV:=packP [.one (i64v (secs n)),.one (.v (.int .i64 q)),.one (.gs k 1)]
noncomputable def treeK(T n k:Nat):SV:=.t [.a (.node 1 2 (.one (i64v n)) (.one (.s k 0 T T))),.s (k+1) 0 T T,.a pr0,ok0]
noncomputable def newT(row:Rp SV)(sl:List Nat):List HB:=[⟨67,row,0⟩,⟨3,int3 sl,0⟩]
noncomputable def tbQ(T n:Nat)(q:Int)(row:Rp SV)(sl:List Nat)(L:List (Option VCnt)):List Orc:=[⟨7,[3],[],fun k=>.a (dskG2 n q k),[gh1 L]⟩,⟨6,[5],[],fun k=>treeK T n k,newT row sl⟩]
noncomputable def tnS(T:Nat)(x:VP)(pp sp:SV)(n2 n3 cut n:Nat)(rt:List Nat)(L:List (Option VCnt))(q:Int)(row:Rp SV)(sl:List Nat):Option (Pos×List Ob×List ObY×Bool) :=
 (evDraw Xt (leafTab tabQ) 14 6 (tbQ T n q row sl L) [] (tn1 x n rt L (tn0 x pp sp n2 n3 cut)).1).map fun y=>(cutV lsQ [6,8] 0 (runE SQ HQ Xt 12 y.1),(tn1 x n rt L (tn0 x pp sp n2 n3 cut)).2,y.2,plainK (runE SQ HQ Xt 12 y.1).k)
noncomputable def volW(x:VP)(n k:Nat)(rt:List Nat):Rp SV:=packP [.one (i64v n),.arr .u8 16 x.el,.arr .u8 32 x.ml,.one (.gs k (secs n)),.arr .u8 32 (Sh.shaF rt),.one (.v (.int .u64 (IntKind.u64.wrap ((x.ep:Nat):Int)))),n64 1000,.one .u,.one .u,.one .u]
noncomputable def obOf(x:VP)(pp sp:SV)(n2 n3 n:Nat)(rt:List Nat)(L:List (Option VCnt)):Ob:=.c 5 [.a (vR x pp sp)] [0,1] [some ⟨5,.arr .u8 n2 x.pl,2⟩,some ⟨5,.arr .u8 n3 x.sl,2⟩] 3 (.a (volG x n 3 rt)) [ghN n L]
noncomputable def obTr(T:Nat)(x:VP)(n:Nat)(rt:List Nat)(L:List (Option VCnt))(q:Int)(row:Rp SV)(sl:List Nat):ObX:=⟨6,[i64v n,.a (dskG2 n q 5),.a (cellR (Sh.shaF rt) (.int .u64 (IntKind.u64.wrap ((x.ep:Nat):Int))) (.int .u64 1000))],[5],[some (gh1 L)],[],6,treeK T n 6,newT row sl⟩
noncomputable def obDk(x:VP)(n:Nat)(rt:List Nat)(L:List (Option VCnt))(q:Int):ObX:=⟨7,[.a (volW x n 3 rt)],[3],[some (ghN n L)],[],5,.a (dskG2 n q 5),[gh1 L]⟩
def StP(T:Nat):Prop:=∀(x:VP) (pp sp:SV) (n2 n3 cut n:Nat) (rt:List Nat) (L:List (Option VCnt)) (q:Int) (X:Nat→VNode) (sl:List Nat),
 tnS T x pp sp n2 n3 cut n rt L q (rowX T X) sl=some (QLr T 0 n (cutS cut) (rowX T X),[obOf x pp sp n2 n3 n rt L],[.c (obTr T x n rt L q (rowX T X) sl),.c (obDk x n rt L q)],true)
end Go.Proofs.YtjboelhcieepkaaGreatDoor
namespace Go.Proofs.YtjboelhcieepkaaGreatDoor
set_option maxRecDepth 16384
open Go.RowKit
theorem en_1:EnP 1:=by intro n c X;kernel_rfl
theorem st_1:StP 1:=by intro x pp sp n2 n3 cut n rt L q X sl;kernel_rfl
theorem bl_1_0:BLp 1 0 0:=by intro n cut dg X a b c d h;kernel_rfl
theorem en_3:EnP 3:=by intro n c X;kernel_rfl
theorem st_3:StP 3:=by intro x pp sp n2 n3 cut n rt L q X sl;kernel_rfl
theorem bl_3_0:BLp 3 0 0:=by intro n cut dg X a b c d h;kernel_rfl
theorem bl_3_1:BLp 3 1 1:=by intro n cut dg X a b c d h;kernel_rfl
theorem bi_3_2:BIp 3 2 1 0:=by intro n cut dg X a b c d hl h;kernel_rfl
theorem en_4:EnP 4:=by intro n c X;kernel_rfl
theorem st_4:StP 4:=by intro x pp sp n2 n3 cut n rt L q X sl;kernel_rfl
theorem bl_4_0:BLp 4 0 0:=by intro n cut dg X a b c d h;kernel_rfl
theorem bl_4_1:BLp 4 1 1:=by intro n cut dg X a b c d h;kernel_rfl
theorem bl_4_2:BLp 4 2 2:=by intro n cut dg X a b c d h;kernel_rfl
theorem bi_4_3:BIp 4 3 1 0:=by intro n cut dg X a b c d hl h;kernel_rfl
theorem en_5:EnP 5:=by intro n c X;kernel_rfl
theorem st_5:StP 5:=by intro x pp sp n2 n3 cut n rt L q X sl;kernel_rfl
theorem bl_5_0:BLp 5 0 0:=by intro n cut dg X a b c d h;kernel_rfl
theorem bl_5_1:BLp 5 1 1:=by intro n cut dg X a b c d h;kernel_rfl
theorem bl_5_2:BLp 5 2 2:=by intro n cut dg X a b c d h;kernel_rfl
theorem bl_5_3:BLp 5 3 3:=by intro n cut dg X a b c d h;kernel_rfl
theorem bi_5_4:BIp 5 4 1 0:=by intro n cut dg X a b c d hl h;kernel_rfl
theorem en_8:EnP 8:=by intro n c X;kernel_rfl
theorem st_8:StP 8:=by intro x pp sp n2 n3 cut n rt L q X sl;kernel_rfl
theorem bl_8_0:BLp 8 0 0:=by intro n cut dg X a b c d h;kernel_rfl
theorem bl_8_1:BLp 8 1 1:=by intro n cut dg X a b c d h;kernel_rfl
theorem bl_8_2:BLp 8 2 2:=by intro n cut dg X a b c d h;kernel_rfl
theorem bl_8_3:BLp 8 3 3:=by intro n cut dg X a b c d h;kernel_rfl
theorem bl_8_4:BLp 8 4 4:=by intro n cut dg X a b c d h;kernel_rfl
theorem bi_8_5:BIp 8 5 1 0:=by intro n cut dg X a b c d hl h;kernel_rfl
theorem bi_8_6:BIp 8 6 1 1:=by intro n cut dg X a b c d hl h;kernel_rfl
theorem bi_8_7:BIp 8 7 2 0:=by intro n cut dg X a b c d hl h;kernel_rfl
end Go.Proofs.YtjboelhcieepkaaGreatDoor
namespace Go.Proofs.YtjboelhcieepkaaGreatDoor
set_option maxRecDepth 16384
open Go.RowKit
theorem tree_1:TrW 1:=by intro Z R Ee z0 q v dg e m;kernel_rfl
theorem tree_2:TrW 2:=by intro Z R Ee z0 q v dg e m;kernel_rfl
theorem tree_3:TrW 3:=by intro Z R Ee z0 q v dg e m;kernel_rfl
theorem tree_4:TrW 4:=by intro Z R Ee z0 q v dg e m;kernel_rfl
theorem tree_5:TrW 5:=by intro Z R Ee z0 q v dg e m;kernel_rfl
theorem tree_6:TrW 6:=by intro Z R Ee z0 q v dg e m;kernel_rfl
theorem tree_7:TrW 7:=by intro Z R Ee z0 q v dg e m;kernel_rfl
theorem tree_8:TrW 8:=by intro Z R Ee z0 q v dg e m;kernel_rfl
theorem tree_9:TrW 9:=by intro Z R Ee z0 q v dg e m;kernel_rfl
theorem tree_10:TrW 10:=by intro Z R Ee z0 q v dg e m;kernel_rfl
theorem tree_11:TrW 11:=by intro Z R Ee z0 q v dg e m;kernel_rfl
theorem tree_12:TrW 12:=by intro Z R Ee z0 q v dg e m;kernel_rfl
theorem tree_13:TrW 13:=by intro Z R Ee z0 q v dg e m;kernel_rfl
theorem tree_14:TrW 14:=by intro Z R Ee z0 q v dg e m;kernel_rfl
end Go.Proofs.YtjboelhcieepkaaGreatDoor
namespace Go.Proofs.YtjboelhcieepkaaGreatDoor
set_option maxRecDepth 16384
open Go.RowKit
theorem tree_15:TrW 15:=by intro Z R Ee z0 q v dg e m;kernel_rfl
theorem tree_16:TrW 16:=by intro Z R Ee z0 q v dg e m;kernel_rfl
theorem tree_17:TrW 17:=by intro Z R Ee z0 q v dg e m;kernel_rfl
end Go.Proofs.YtjboelhcieepkaaGreatDoor
namespace Go.Proofs.YtjboelhcieepkaaGreatDoor
set_option maxRecDepth 16384
open Go.RowKit
theorem tree_18:TrW 18:=by intro Z R Ee z0 q v dg e m;kernel_rfl
theorem tree_19:TrW 19:=by intro Z R Ee z0 q v dg e m;kernel_rfl
end Go.Proofs.YtjboelhcieepkaaGreatDoor
namespace Go.Proofs.YtjboelhcieepkaaGreatDoor
set_option maxRecDepth 16384
open Go.RowKit
theorem tree_20:TrW 20:=by intro Z R Ee z0 q v dg e m;kernel_rfl
theorem tree_any:∀n,1≤n→n≤20→TrW n
 |1,_,_=>tree_1
 |2,_,_=>tree_2
 |3,_,_=>tree_3
 |4,_,_=>tree_4
 |5,_,_=>tree_5
 |6,_,_=>tree_6
 |7,_,_=>tree_7
 |8,_,_=>tree_8
 |9,_,_=>tree_9
 |10,_,_=>tree_10
 |11,_,_=>tree_11
 |12,_,_=>tree_12
 |13,_,_=>tree_13
 |14,_,_=>tree_14
 |15,_,_=>tree_15
 |16,_,_=>tree_16
 |17,_,_=>tree_17
 |18,_,_=>tree_18
 |19,_,_=>tree_19
 |20,_,_=>tree_20
 |n+21,_,h=>absurd h (by omega)
 |0,h,_=>absurd h (by omega)
end Go.Proofs.YtjboelhcieepkaaGreatDoor
namespace Go.Proofs.YtjboelhcieepkaaGreatDoor
set_option maxRecDepth 16384
open Go.RowKit
theorem mem_pats:∀{k:Nat} {l:List Bool},l.length=k→l∈pats k
 |0,l,h=>by rw [List.length_eq_zero_iff.1 h];simp [pats]
 |k+1,[],h=>by cases h
 |k+1,b::l,h=>by
  simp only [pats,List.mem_flatMap]
  exact ⟨l,mem_pats (by simpa using h),by cases b<;>simp⟩
def patR(n:Nat)(R:Nat→VRec):List Bool:=(List.range (cnt n 0)).map fun j=>emR R n 0 j
theorem emR_iff{R:Nat→VRec}{n l j:Nat}:emR R n l j=true↔∀i,i<n→i / 4 ^ (l+1)=j→(R i).s=0:=by
 unfold emR inSub
 rw [List.all_eq_true]
 constructor
 ·intro h i hi hj
  have:=h i (List.mem_range.2 hi)
  rw [hj,beq_iff,beq_iff] at this
  simpa using this
 ·intro h i hi
  rw [List.mem_range] at hi
  rw [beq_iff,beq_iff]
  by_cases e:i / 4 ^ (l+1)=j
  ·simp [e,h i hi e]
  ·simp [e]
theorem hgt_le(n:Nat):hgt n≤2:=by
 unfold hgt
 split
 ·omega
 ·split<;>omega
theorem emP_eq{n l j:Nat}{R:Nat→VRec}(hl:l<hgt n)(hj:j<cnt n l):emP n (patR n R) l j=emR R n l j:=by
 have h2:=hgt_le n
 rcases l with _|_|l
 ·show (patR n R).getD j false=_
  exact getD_map hj
 ·show ((List.range (cnt n 0)).all fun i=>!(Nat.beq (i / 4) j) || (patR n R).getD i false)=_
  rw [Bool.eq_iff_iff,List.all_eq_true,emR_iff]
  constructor
  ·intro h i hi hij
   have hi4:i / 4<cnt n 0:=by unfold cnt;omega
   have:=h (i / 4) (List.mem_range.2 hi4)
   unfold patR at this
   rw [getD_map hi4,show i / 4 / 4=j by omega,beq_iff] at this
   simp only [decide_true,Bool.not_true,Bool.false_or] at this
   exact emR_iff.1 this i hi (by omega)
  ·intro h i hi
   rw [List.mem_range] at hi
   unfold patR
   rw [getD_map hi,beq_iff]
   by_cases e:i / 4=j
   ·simp only [e,decide_true,Bool.not_true,Bool.false_or]
    exact emR_iff.2 fun k hk hki=>h k hk (by omega)
   ·simp [e]
 ·omega
section
variable {r:List Loc}
theorem packF_inv:∀{l:List (Rp SV)} {us:List Value},DenC r (packP l) us→DenF r l us
 |[],us,h=>by
  have h':DenC r .nil us:=h
  cases h';exact .nil
 |c::l,us,h=>by
  obtain ⟨u,v,rfl,h1,h2⟩:=pk_inv h
  exact .cons h1 (packF_inv h2)
theorem pkA_den{α:Type}{f:α→Rp SV}{g:α→List Value}:∀{l:List α},(∀i,i∈l→DenC r (f i) (g i))→DenC r (packP (l.map f)) (l.flatMap g)
 |[],_=>.nil
 |i::l,h=>by
  rw [List.flatMap_cons]
  exact DenC.cat (h i (by simp)) (pkA_den fun j hj=>h j (by simp [hj]))
end
noncomputable def nodesV(n:Nat)(R:Nat→VRec)(Ee:Nat→VEnt):List Value:=(plcs n).flatMap fun p=>(ndR n R Ee p.1 p.2).vals
theorem rowsT_ok(r:List Loc)(n:Nat)(R:Nat→VRec)(Ee:Nat→VEnt):DenC r (rowsT n R Ee) (nodesV n R Ee):=pkA_den fun p _=>.q (.node (ndR n R Ee p.1 p.2))
theorem rowsT_inv{r:List Loc}{n:Nat}{R:Nat→VRec}{Ee:Nat→VEnt}{us:List Value}(h:DenC r (rowsT n R Ee) us):us=nodesV n R Ee:=by
 have key:∀{l:List (Nat×Nat)} {us:List Value},DenF r (l.map fun p=>.q (.node (ndR n R Ee p.1 p.2))) us→us=l.flatMap fun p=>(ndR n R Ee p.1 p.2).vals:=by
  intro l
  induction l with
  |nil=>intro us h;cases h;rfl
  |cons p l ih =>
   intro us h
   cases h with|cons h1 h2 =>
    cases h1
    rw [ih h2];rfl
 exact key (packF_inv h)
theorem flat_len{α:Type}{f:α→List Value}{k:Nat}(hf:∀a,(f a).length=k):∀l:List α,(l.flatMap f).length=l.length*k
 |[]=>by simp
 |a::l=>by rw [List.flatMap_cons,List.length_append,hf,flat_len hf l,List.length_cons,Nat.succ_mul,Nat.add_comm]
theorem nodesV_len(n:Nat)(R:Nat→VRec)(Ee:Nat→VEnt):(nodesV n R Ee).length=(plcs n).length*274:=flat_len (f:=fun p:Nat×Nat=>(ndR n R Ee p.1 p.2).vals) (k:=274) (fun p=>(At.node (ndR n R Ee p.1 p.2)).len) (plcs n)
theorem plcs_len(n:Nat):(plcs n).length=tot n:=by
 unfold plcs lt2 tot
 simp [List.range_succ]
theorem VRec.zero{x:VRec}(h:x.s=0):x=zrec:=by
 obtain ⟨s,sh,c,tag,hs,h0,_,_,_,_⟩:=x
 simp only at h
 subst h
 obtain ⟨rfl,rfl,rfl⟩:=h0 rfl
 rfl
theorem VEnt.zero{x:VEnt}(h:x.s=0):x=zent:=by
 obtain ⟨s,dig,hs,h0,_,_⟩:=x
 simp only at h
 subst h
 obtain rfl:=h0 rfl
 rfl
theorem mkEn_s{em b:Bool}{l:List Nat}:(mkEn em b l).s=bif em then 0 else bitN b+1:=by cases em<;>rfl
theorem ee_s{n l k:Nat}{R:Nat→VRec}{B:Nat→Bool}(hl:l<2)(hk:k<cnt n l):(ee n (enF n R B) l k).s=bif emR R n l k then 0 else bitN (B (num n l k))+1:=by
 unfold ee
 rw [show Nat.blt k (cnt n l)=true from by rw [blt_iff];simpa using hk,cond_true,enF_eq _ _ _ _ _ hl hk,mkEn_s]
theorem ee_dig{n l k:Nat}{R:Nat→VRec}{B:Nat→Bool}(hl:l<2)(hk:k<cnt n l)(he:emR R n l k=false):(ee n (enF n R B) l k).dig=Sh.shaF (ndR n R (enF n R B) l k).bytes:=by
 unfold ee
 rw [show Nat.blt k (cnt n l)=true from by rw [blt_iff];simpa using hk,cond_true,enF_eq _ _ _ _ _ hl hk,he]
 rfl
theorem rr_zero{n i j:Nat}{R:Nat→VRec}(he:emR R n 0 j=true)(hi:i / 4=j):rr n R i=zrec:=by
 unfold rr
 cases h:Nat.blt i n with
 |false=>rfl
 |true =>
  rw [blt_iff,decide_eq_true_eq] at h
  exact VRec.zero (emR_iff.1 he i h (by simpa using hi))
theorem cnt_up{n l k:Nat}(h:k<cnt n l)(h1:cnt n l≠1):k / 4<cnt n (l+1):=by
 show k / 4<if cnt n l=1 then 0 else (cnt n l+3) / 4
 rw [if_neg h1]
 omega
theorem ee_zero{n k j:Nat}{R:Nat→VRec}{B:Nat→Bool}(he:emR R n 1 j=true)(hk:k / 4=j):ee n (enF n R B) 0 k=zent:=by
 unfold ee
 cases h:Nat.blt k (cnt n 0) with
 |false=>rfl
 |true =>
  have h':=h
  rw [blt_iff,decide_eq_true_eq] at h'
  refine VEnt.zero ?_
  rw [cond_true,enF_eq _ _ _ _ _ (by decide) h',mkEn_s]
  have:emR R n 0 k=true:=emR_iff.2 fun i hi hik=>emR_iff.1 he i hi (by
   simp only [Nat.zero_add,Nat.pow_one] at hik
   show i / 16=j
   omega)
  rw [this];rfl
theorem empty_vals{n l j:Nat}{R:Nat→VRec}{B:Nat→Bool}(hl:l<2)(hj:j<8)(he:emR R n l j=true):(ndR n R (enF n R B) l j).vals=[.int .u8 (l:Int)]++([.int .u32 (j:Int)]++(r4v zrec zrec zrec zrec++e4v zent zent zent zent)):=by
 have h7:j%8=j:=Nat.mod_eq_of_lt hj
 rcases l with _|_|l
 ·simp only [ndR,VNode.vals,h7,rr_zero he (show 4*j / 4=j by omega),rr_zero he (show (4*j+1) / 4=j by omega),rr_zero he (show (4*j+2) / 4=j by omega),rr_zero he (show (4*j+3) / 4=j by omega)]
  rfl
 ·simp only [ndR,VNode.vals,h7,ee_zero he (show 4*j / 4=j by omega),ee_zero he (show (4*j+1) / 4=j by omega),ee_zero he (show (4*j+2) / 4=j by omega),ee_zero he (show (4*j+3) / 4=j by omega)]
 ·omega
theorem emptyPs_inv{r:List Loc}{l j:Nat}{ps:List (Rp SV)}{us:List Value}(h:DenF r (emptyPs l j ps) us):∃us',us=([.int .u8 (l:Int)]++([.int .u32 (j:Int)]++(r4v zrec zrec zrec zrec++e4v zent zent zent zent)))++us'∧DenF r ps us':=by
 cases h with|cons d1 h=>cases h with|cons d2 h =>
  rw [one_inv d1,one_inv d2]
  obtain ⟨u1,e1,h⟩:=zRp_inv h
  obtain ⟨u2,e2,h⟩:=zRp_inv h
  obtain ⟨u3,e3,h⟩:=zRp_inv h
  obtain ⟨u4,e4,h⟩:=zRp_inv h
  obtain ⟨v1,f1,h⟩:=zEp_inv h
  obtain ⟨v2,f2,h⟩:=zEp_inv h
  obtain ⟨v3,f3,h⟩:=zEp_inv h
  obtain ⟨v4,f4,h⟩:=zEp_inv h
  refine ⟨v4,?_,h⟩
  rw [e1,e2,e3,e4,f1,f2,f3,f4]
  simp [r4v,e4v]
theorem mem_plcs_inv{n:Nat}{p:Nat×Nat}(h:p∈plcs n):p.1<3∧p.2<cnt n p.1:=by
 unfold plcs lt2 at h
 simp only [List.mem_flatMap,List.mem_map,List.mem_range] at h
 obtain ⟨a,ha,b,hb,rfl⟩:=h
 exact ⟨ha,hb⟩
theorem rowsE_ob{n:Nat}{R:Nat→VRec}{B:Nat→Bool}{em:Nat→Nat→Bool}(h1:1≤n)(h20:n≤20)(hem:∀l j,l<hgt n→j<cnt n l→em l j=emR R n l j)(r:List Loc)(us:List Value)(h:DenC r (packP (rowsE n em R (enF n R B))) us):DenC r (rowsT n R (enF n R B)) us:=by
 have key:∀{l:List (Nat×Nat)} {us:List Value},(∀p∈l,p∈plcs n)→DenF r (l.foldr (fun p ps=>bif Nat.blt p.1 (hgt n)&&em p.1 p.2 then emptyPs p.1 p.2 ps else .q (.node (ndR n R (enF n R B) p.1 p.2))::ps) []) us→us=l.flatMap fun p=>(ndR n R (enF n R B) p.1 p.2).vals:=by
  intro l
  induction l with
  |nil=>intro us _ h;cases h;rfl
  |cons p l ih =>
   intro us hl h
   rw [List.foldr_cons] at h
   obtain ⟨hp3,hpc⟩:=mem_plcs_inv (hl p (by simp))
   cases hb:Nat.blt p.1 (hgt n)&&em p.1 p.2 with
   |false =>
    rw [hb,cond_false] at h
    cases h with|cons h1 h2 =>
     cases h1
     rw [ih (fun q hq=>hl q (by simp [hq])) h2];rfl
   |true =>
    rw [hb,cond_true] at h
    rw [Bool.and_eq_true,blt_iff,decide_eq_true_eq] at hb
    obtain ⟨us',rfl,h2⟩:=emptyPs_inv h
    have h2':=hgt_le n
    have h8:=cnt_le h1 h20 hp3
    rw [ih (fun q hq=>hl q (by simp [hq])) h2,List.flatMap_cons,empty_vals (by omega) (by omega) (by rw [←hem _ _ hb.1 hpc];exact hb.2)]
 have:us=nodesV n R (enF n R B):=key (fun p hp=>hp) (packF_inv h)
 rw [this]
 exact rowsT_ok r n R _
theorem trOb_mem{n:Nat}{em:Nat→Nat→Bool}{Z:Nat→Nat}{R:Nat→VRec}{Ee:Nat→VEnt}{q:Int}{v:Value}{ob:Ob}:∀{l:List (Nat×Nat)} {nx:Nat},ob∈trOb n em Z R Ee q v l nx→∃p,p∈l∧∃nx,ob=trSl n p.1 p.2 nx (Nat.blt (p.1+1) (hgt n)&&em (p.1+1) (p.2 / 4)) (em p.1 p.2) Z Ee∨(em p.1 p.2=false∧ob=.c 49 (chA n p.1 p.2 R Ee q v) [] [] nx (ndRes (ndR n R Ee p.1 p.2)) [])
 |[],_,h=>by cases h
 |p::l,nx,h=>by
  unfold trOb at h
  rcases List.mem_cons.1 h with rfl|h
  ·exact ⟨p,by simp,nx,.inl rfl⟩
  ·cases hb:em p.1 p.2 with
   |true =>
    rw [hb,cond_true] at h
    obtain ⟨p',hp,rest⟩:=trOb_mem h
    exact ⟨p',by simp [hp],rest⟩
   |false =>
    rw [hb,cond_false] at h
    rcases List.mem_cons.1 h with rfl|h
    ·exact ⟨p,by simp,nx,.inr ⟨hb,rfl⟩⟩
    ·obtain ⟨p',hp,rest⟩:=trOb_mem h
     exact ⟨p',by simp [hp],rest⟩
theorem rslot0_eq:(callW H4 Xt 12 23 [.v (.int .u8 (.ofNat 0))] .e 0).map (·.1)=some (.t [i64v 0,i64v 11]):=by kernel_rfl
theorem rslot0_call(w:World)(hg:GlobOk Xt w):Calls Xt.P 23 #[.int .u8 0] w fun e' w'=>e'=.returned (.tuple #[.int .i64 0,.int .i64 11])∧Below w.heap.size w w':=by
 obtain ⟨⟨res,st⟩,h1,h2⟩:=Option.map_eq_some_iff.1 rslot0_eq
 simp only at h2
 subst h2
 refine (callW_ok (E:=E0 Xt w) (r:=[]) (vals:=[.int .u8 0]) hmx H4_ok h1 (.cons (.v _) .nil) (Mem.start Xt w hg)).mono ?_
 rintro e' w' ⟨q,v,rfl,hd,hm⟩
 cases hd with|t d=>cases d with|cons d1 d=>cases d with|cons d2 d =>
  cases d;cases d1;cases d2
  exact ⟨rfl,hm.below⟩
def ChkOk(n:Nat)(R:Nat→VRec)(Ee:Nat→VEnt):Prop:=∀(g c:Nat) (w:World),GlobOk Xt w→Reads w w.heap.size 274 (some ⟨g,0,none⟩) (tot n) (nodesV n R Ee) →
 Calls Xt.P 50 #[.agg #[.int .i64 (n:Int),.slice (some ⟨g,0,none⟩) (tot n) c]] w fun e w'=>e=.returned (.int .i64 0)∧Below w.heap.size w w'
theorem chk_ob{E:Env}{n nx k T:Nat}{R:Nat→VRec}{Ee:Nat→VEnt}(hE:E.X=Xt)(_h1:1≤n)(_h20:n≤20)(hc:ChkOk n R Ee):CallOb E 50 [.a (.node 1 2 (.one (i64v n)) (.one (.s k 0 (tot n) (tot n))))] [k] [some ⟨T,rowsT n R Ee,0⟩] nx ok0 []:=by
 intro r vals w1 hp ha hm hbs
 have hent:Enters E.X.P 50:=by rw [hE];exact enters (by kernel_rfl)
 refine ⟨fun w'=>hent _ w',?_⟩
 have hbs':[nrmB (hp.get k)]=[some ⟨T,rowsT n R Ee,0⟩]:=hbs
 simp only [List.cons.injEq,and_true] at hbs'
 obtain ⟨b,hb,eb⟩:∃b,hp.get k=some b∧nrmH b=⟨T,rowsT n R Ee,0⟩:=by
  cases h5:hp.get k with
  |none=>rw [h5] at hbs';cases hbs'
  |some b=>rw [h5] at hbs';exact ⟨b,rfl,Option.some.inj hbs'⟩
 obtain ⟨L,hL,hB⟩:=hm.blk k b hb
 have hB':=nrmH_ok hB
 have hlt:=hB.lt
 rw [eb] at hB'
 obtain ⟨vs,hd,hcell⟩:=hB'.cells
 have hb0:L.b=0:=by
  obtain ⟨vs',_,hk⟩:=hB'
  rcases hk with ⟨_,_,h,_⟩|⟨h,_⟩|⟨h,_⟩
  ·exact h
  ·cases h
  ·exact absurd h (by show ¬ 2≤0;decide)
 obtain rfl:=rowsT_inv hd
 have hv:vals=[.agg #[.int .i64 (n:Int),.slice (some ⟨L.g,0,none⟩) (tot n) (tot n)]]:=by
  cases ha with|cons d1 t =>
   cases t
   cases d1 with|a d1=>cases d1 with|node e1 e2 _ _ =>
    rw [one_inv e1]
    cases e2 with|one e2 _=>cases e2 with|s hL' =>
     rw [hL] at hL'
     cases hL'
     rw [hb0]
     rfl
 rw [hv,hE]
 refine (hc L.g (tot n) w1 (hE▸hm.globs) ⟨by rw [nodesV_len,plcs_len],fun _=>⟨_,rfl,hlt,fun j u hu=>?_⟩⟩).mono ?_
 ·have:=hcell j u hu
  rw [hb0] at this
  rw [add_none]
  exact this
 ·rintro e w' ⟨rfl,h2⟩
  exact ⟨[],_,rfl,.v _,by have:=hm.grow h2;rw [List.append_nil];exact this⟩
end Go.Proofs.YtjboelhcieepkaaGreatDoor
