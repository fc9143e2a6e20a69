/-
  Rows read as records, entries, nodes and bytes; leaves over them.
-/
import Derived.Test.YtjboelhcieepkaaGreatDoorZ9
namespace Go.Proofs.YtjboelhcieepkaaGreatDoor
set_option maxRecDepth 16384
open Go.RowKit
section
variable {r:List Loc}
noncomputable def allZ(l:List Nat):Bool:=List.rec true (fun x _ ih=>Bool.rec false ih (Nat.beq x 0)) l
noncomputable def all8(l:List Nat):Bool:=List.rec true (fun x _ ih=>Bool.rec false ih (Nat.blt x 256)) l
noncomputable def lenB(l:List Nat)(n:Nat):Bool:=Nat.beq l.length n
theorem allZ_ok:∀{l:List Nat},allZ l=true→l=List.replicate l.length 0
 |[],_=>rfl
 |x::l,h=>by
  have h':(Bool.rec false (allZ l) (Nat.beq x 0):Bool)=true:=h
  cases hx:Nat.beq x 0 with
  |false=>rw [hx] at h';cases h'
  |true =>
   rw [hx] at h'
   obtain rfl:=Nat.eq_of_beq_eq_true hx
   exact congrArg (0::·) (allZ_ok h')
theorem all8_ok:∀{l:List Nat},all8 l=true→Sh.Byt l
 |[],_=>fun x hx=>by cases hx
 |x::l,h=>by
  have h':(Bool.rec false (all8 l) (Nat.blt x 256):Bool)=true:=h
  rw [blt_iff] at h'
  by_cases hx:x<256
  ·simp only [hx,decide_true] at h'
   intro y hy
   rcases List.mem_cons.1 hy with rfl|hy
   ·exact hx
   ·exact all8_ok h' y hy
  ·simp [hx] at h'
noncomputable def recB(s sh c:Nat)(tag:List Nat):Bool:=(Nat.ble s 2&&(Nat.blt 0 s || (Nat.beq sh 0&&(Nat.beq c 0&&allZ tag))))&&(Nat.blt sh 4294967296&&(Nat.blt c 18446744073709551616&&(lenB tag 32&&all8 tag)))
noncomputable def mkRec(s sh c:Nat)(tag:List Nat):Option VRec:=match h:recB s sh c tag with
 |true=>some ⟨s,sh,c,tag,by
  simp only [recB,Bool.and_eq_true] at h;exact Nat.le_of_ble_eq_true h.1.1,by
  intro h0
  simp only [recB,Bool.and_eq_true,Bool.or_eq_true,blt_iff,decide_eq_true_eq,lenB] at h
  rcases h.1.2 with h1|⟨h1,h2,h3⟩
  ·omega
  ·have h4:=allZ_ok h3
   rw [Nat.eq_of_beq_eq_true h.2.2.2.1] at h4
   exact ⟨Nat.eq_of_beq_eq_true h1,Nat.eq_of_beq_eq_true h2,h4⟩,by
  simp only [recB,Bool.and_eq_true,blt_iff,decide_eq_true_eq] at h;exact h.2.1,by
  simp only [recB,Bool.and_eq_true,blt_iff,decide_eq_true_eq] at h;exact h.2.2.1,by
  simp only [recB,Bool.and_eq_true,lenB] at h;exact Nat.eq_of_beq_eq_true h.2.2.2.1,by
  simp only [recB,Bool.and_eq_true] at h;exact all8_ok h.2.2.2.2⟩
 |false=>none
theorem mkRec_ok{s sh c:Nat}{tag:List Nat}{x:VRec}(h:mkRec s sh c tag=some x):x.s=s∧x.sh=sh∧x.c=c∧x.tag=tag:=by
 unfold mkRec at h
 split at h
 ·cases h;exact ⟨rfl,rfl,rfl,rfl⟩
 ·cases h
noncomputable def entB(s:Nat)(dig:List Nat):Bool:=(Nat.ble s 2&&(Nat.blt 0 s || allZ dig))&&(lenB dig 32&&all8 dig)
noncomputable def mkEnt(s:Nat)(dig:List Nat):Option VEnt:=match h:entB s dig with
 |true=>some ⟨s,dig,by
  simp only [entB,Bool.and_eq_true] at h;exact Nat.le_of_ble_eq_true h.1.1,by
  intro h0
  simp only [entB,Bool.and_eq_true,Bool.or_eq_true,blt_iff,decide_eq_true_eq,lenB] at h
  rcases h.1.2 with h1|h3
  ·omega
  ·have h4:=allZ_ok h3
   rwa [Nat.eq_of_beq_eq_true h.2.1] at h4,by
  simp only [entB,Bool.and_eq_true,lenB] at h;exact Nat.eq_of_beq_eq_true h.2.1,by
  simp only [entB,Bool.and_eq_true] at h;exact all8_ok h.2.2⟩
 |false=>none
theorem mkEnt_ok{s:Nat}{dig:List Nat}{x:VEnt}(h:mkEnt s dig=some x):x.s=s∧x.dig=dig:=by
 unfold mkEnt at h
 split at h
 ·cases h;exact ⟨rfl,rfl⟩
 ·cases h
noncomputable def rbare:Rp SV→List (Rp SV)→List (Rp SV):=rflatW fun a l=>.q a::l
theorem rbare_ok(c:Rp SV){us:List Value}(h:DenC r c us):DenF r (rbare c []) us:=by
 have:=flatW_ok (r:=r) (g:=fun a l=>.q a::l) (fun a _ _ t=>.cons (.q a) t) c h .nil
 rwa [List.append_nil] at this
noncomputable def mkRecP(s:Nat)(x y:VRec):Option VRec:=match h:Nat.ble s 2&&Nat.blt 0 s with
 |true=>some ⟨s,x.sh,x.c,y.tag,by simp only [Bool.and_eq_true] at h;exact Nat.le_of_ble_eq_true h.1,by
  simp only [Bool.and_eq_true,blt_iff,decide_eq_true_eq] at h;intro h0;omega,x.hsh,x.hc,y.ht,y.hb⟩
 |false=>mkRec s x.sh x.c y.tag
theorem mkRecP_ok{s:Nat}{x y z:VRec}(h:mkRecP s x y=some z):z.s=s∧z.sh=x.sh∧z.c=x.c∧z.tag=y.tag:=by
 unfold mkRecP at h
 split at h
 ·cases h;exact ⟨rfl,rfl,rfl,rfl⟩
 ·exact mkRec_ok h
noncomputable def mkEntP(s:Nat)(dig:List Nat)(ht:dig.length=32)(hb:Sh.Byt dig):Option VEnt:=match h:Nat.ble s 2&&Nat.blt 0 s with
 |true=>some ⟨s,dig,by simp only [Bool.and_eq_true] at h;exact Nat.le_of_ble_eq_true h.1,by
  simp only [Bool.and_eq_true,blt_iff,decide_eq_true_eq] at h;intro h0;omega,ht,hb⟩
 |false=>mkEnt s dig
theorem mkEntP_ok{s:Nat}{dig:List Nat}{ht:dig.length=32}{hb:Sh.Byt dig}{z:VEnt}(h:mkEntP s dig ht hb=some z):z.s=s∧z.dig=dig:=by
 unfold mkEntP at h
 split at h
 ·cases h;exact ⟨rfl,rfl⟩
 ·exact mkEnt_ok h
noncomputable def pRecL:List (Rp SV)→Option VRec
 |[.one (.v (.int .u8 (.ofNat s))),.one (.v (.int .u32 (.ofNat sh))),.one (.v (.int .u64 (.ofNat c))),.arr .u8 _ tag]=>mkRec s sh c tag
 |_=>none
noncomputable def pRecB(c:Rp SV):List (Rp SV)→Option VRec
 |[.one (.v (.int .u8 (.ofNat s))),.q (.nnc x),.q (.tag y)]=>mkRecP s x y
 |_=>pRecL (rflat c [])
noncomputable def pRec:Rp SV→Option VRec
 | .q (.rcd x)=>some x
 |c=>pRecB c (rbare c [])
noncomputable def pEntL:List (Rp SV)→Option VEnt
 |[.one (.v (.int .u8 (.ofNat s))),.arr .u8 _ dig]=>mkEnt s dig
 |_=>none
noncomputable def pEntB(c:Rp SV):List (Rp SV)→Option VEnt
 |[.one (.v (.int .u8 (.ofNat s))),.q (.dig y)]=>mkEntP s y.dig y.ht y.hb
 |[.one (.v (.int .u8 (.ofNat s))),.q (.sha l)]=>mkEntP s (Sh.shaF l) (shaF_len l) (shaF_byt l)
 |_=>pEntL (rflat c [])
noncomputable def pEnt:Rp SV→Option VEnt
 | .q (.ent x)=>some x
 |c=>pEntB c (rbare c [])
theorem one_inv{x:Value}{us:List Value}(h:DenC r (.one (.v x)) us):us=[x]:=by cases h with|one h _=>cases h;rfl
theorem arr_inv{k:IntKind}{n:Nat}{l:List Nat}{us:List Value}(h:DenC r (.arr k n l) us):us=nv k l:=by cases h;rfl
theorem pRecL_ok{l:List (Rp SV)}{x:VRec}{us:List Value}(h:pRecL l=some x)(d:DenF r l us):us=x.vals:=by
 unfold pRecL at h
 split at h
 ·obtain ⟨h1,h2,h3,h4⟩:=mkRec_ok h
  cases d with
  |cons d1 d=>cases d with
   |cons d2 d=>cases d with
    |cons d3 d=>cases d with
     |cons d4 d =>
      cases d
      rw [one_inv d1,one_inv d2,one_inv d3,arr_inv d4]
      simp [VRec.vals,VRec.nnc,h1,h2,h3,h4]
 ·cases h
theorem pRec_ok{c:Rp SV}{x:VRec}{us:List Value}(h:pRec c=some x)(d:DenC r c us):us=x.vals:=by
 unfold pRec at h
 split at h
 ·cases h;cases d;rfl
 ·have hb:=rbare_ok c d
  unfold pRecB at h
  split at h
  ·rename_i e
   rw [e] at hb
   obtain ⟨h1,h2,h3,h4⟩:=mkRecP_ok h
   cases hb with
   |cons d1 hb=>cases hb with
    |cons d2 hb=>cases hb with
     |cons d3 hb =>
      cases hb
      rw [one_inv d1]
      cases d2;cases d3
      simp [VRec.vals,VRec.nnc,At.vals,h1,h2,h3,h4]
  ·have:=pRecL_ok h (flat_ok c d .nil)
   simpa using this
theorem pEntL_ok{l:List (Rp SV)}{x:VEnt}{us:List Value}(h:pEntL l=some x)(d:DenF r l us):us=x.vals:=by
 unfold pEntL at h
 split at h
 ·obtain ⟨h1,h2⟩:=mkEnt_ok h
  cases d with
  |cons d1 d=>cases d with
   |cons d2 d =>
    cases d
    rw [one_inv d1,arr_inv d2]
    simp [VEnt.vals,h1,h2]
 ·cases h
theorem pEnt_ok{c:Rp SV}{x:VEnt}{us:List Value}(h:pEnt c=some x)(d:DenC r c us):us=x.vals:=by
 unfold pEnt at h
 split at h
 ·cases h;cases d;rfl
 ·have hb:=rbare_ok c d
  unfold pEntB at h
  split at h
  ·rename_i e
   rw [e] at hb
   obtain ⟨h1,h2⟩:=mkEntP_ok h
   cases hb with
   |cons d1 hb=>cases hb with
    |cons d2 hb =>
     cases hb
     rw [one_inv d1]
     cases d2
     simp [VEnt.vals,At.vals,h1,h2]
  ·rename_i e
   rw [e] at hb
   obtain ⟨h1,h2⟩:=mkEntP_ok h
   cases hb with
   |cons d1 hb=>cases hb with
    |cons d2 hb =>
     cases hb
     rw [one_inv d1]
     cases d2
     simp [VEnt.vals,At.vals,h1,h2]
  ·have:=pEntL_ok h (flat_ok c d .nil)
   simpa using this
noncomputable def subO{α:Type}(f:Rp SV→Option α)(c:Rp SV)(o n:Nat):Option α:=match csub c o n with
 |some d=>f d
 |none=>none
noncomputable def zE(o:Option VEnt):Bool:=match o with
 |some x=>Nat.beq x.s 0
 |none=>false
noncomputable def zR(o:Option VRec):Bool:=match o with
 |some x=>Nat.beq x.s 0
 |none=>false
noncomputable def mkLeaf(ix:Nat):Option VRec→Option VRec→Option VRec→Option VRec→Option VNode
 |some a,some b,some c,some d=>match h:Nat.ble ix 7 with
  |true=>some (.leaf ix a b c d (Nat.le_of_ble_eq_true h))
  |false=>none
 |_,_,_,_=>none
noncomputable def mkInner(lv ix:Nat):Option VEnt→Option VEnt→Option VEnt→Option VEnt→Option VNode
 |some a,some b,some c,some d=>match h:Nat.ble ix 7&&(Nat.ble 1 lv&&Nat.ble lv 2) with
  |true=>some (.inner lv ix a b c d (by simp only [Bool.and_eq_true] at h;exact ⟨Nat.le_of_ble_eq_true h.2.1,Nat.le_of_ble_eq_true h.2.2⟩) (by simp only [Bool.and_eq_true] at h;exact Nat.le_of_ble_eq_true h.1))
  |false=>none
 |_,_,_,_=>none
noncomputable def pNodeL(c:Rp SV):Option SV→Option SV→Option VNode
 |some (.v (.int .u8 (.ofNat 0))),some (.v (.int .u32 (.ofNat ix))) =>
  bif Nat.beq (rsize c) 274&&(zE (subO pEnt c 142 33)&&(zE (subO pEnt c 175 33)&&(zE (subO pEnt c 208 33)&&zE (subO pEnt c 241 33)))) then
   mkLeaf ix (subO pRec c 2 35) (subO pRec c 37 35) (subO pRec c 72 35) (subO pRec c 107 35) else none
 |some (.v (.int .u8 (.ofNat (lv+1)))),some (.v (.int .u32 (.ofNat ix))) =>
  bif Nat.beq (rsize c) 274&&(zR (subO pRec c 2 35)&&(zR (subO pRec c 37 35)&&(zR (subO pRec c 72 35)&&zR (subO pRec c 107 35)))) then
   mkInner (lv+1) ix (subO pEnt c 142 33) (subO pEnt c 175 33) (subO pEnt c 208 33) (subO pEnt c 241 33) else none
 |_,_=>none
noncomputable def pNode:Rp SV→Option VNode
 | .q (.node x)=>some x
 |c=>pNodeL c (cget c 0) (cget c 1)
theorem ent0{x:VEnt}(h:x.s=0):x.vals=zent.vals:=by simp [VEnt.vals,h,x.h0 h,zent]
theorem rec0{x:VRec}(h:x.s=0):x.vals=zrec.vals:=by
 obtain ⟨h1,h2,h3⟩:=x.h0 h
 simp [VRec.vals,VRec.nnc,h,h1,h2,h3,zrec]
theorem subE{c:Rp SV}{us:List Value}{o:Nat}{x:VEnt}(d:DenC r c us)(h:subO pEnt c o 33=some x):(us.drop o).take 33=x.vals:=by
 unfold subO at h
 split at h
 ·rename_i e he
  exact pEnt_ok h (d.sub he).1
 ·cases h
theorem subR{c:Rp SV}{us:List Value}{o:Nat}{x:VRec}(d:DenC r c us)(h:subO pRec c o 35=some x):(us.drop o).take 35=x.vals:=by
 unfold subO at h
 split at h
 ·rename_i e he
  exact pRec_ok h (d.sub he).1
 ·cases h
theorem zE_ok{c:Rp SV}{us:List Value}{o:Nat}(d:DenC r c us)(h:zE (subO pEnt c o 33)=true):(us.drop o).take 33=zent.vals:=by
 unfold zE at h
 split at h
 ·rename_i x hx
  rw [subE d hx,ent0 (Nat.eq_of_beq_eq_true h)]
 ·cases h
theorem zR_ok{c:Rp SV}{us:List Value}{o:Nat}(d:DenC r c us)(h:zR (subO pRec c o 35)=true):(us.drop o).take 35=zrec.vals:=by
 unfold zR at h
 split at h
 ·rename_i x hx
  rw [subR d hx,rec0 (Nat.eq_of_beq_eq_true h)]
 ·cases h
theorem cut(us:List Value)(o n:Nat):us.drop o=(us.drop o).take n++us.drop (o+n):=by
 rw [show us.drop (o+n)=(us.drop o).drop n by rw [List.drop_drop]]
 exact (List.take_append_drop n _).symm
theorem node_split{us:List Value}{a b:Value}(h:us.length=274)(h0:us[0]?=some a)(h1:us[1]?=some b):
 us=[a]++([b]++(((us.drop 2).take 35++((us.drop 37).take 35++((us.drop 72).take 35++(us.drop 107).take 35)))++((us.drop 142).take 33++((us.drop 175).take 33++((us.drop 208).take 33++(us.drop 241).take 33))))):=by
 match us,h,h0,h1 with
 |x::y::us,h,h0,h1 =>
  simp only [List.getElem?_cons_zero,List.getElem?_cons_succ,Option.some.injEq] at h0 h1
  subst h0 h1
  simp only [List.length_cons] at h
  have e:us=us.take 35++us.drop 35:=(List.take_append_drop 35 us).symm
  have hd:us.drop 272=[]:=List.drop_of_length_le (by omega)
  simp only [List.singleton_append,List.drop_succ_cons,List.cons.injEq,true_and,List.append_assoc]
  rw [List.drop_zero]
  have c1:=cut us 35 35;have c2:=cut us 70 35;have c3:=cut us 105 35;have c4:=cut us 140 33;have c5:=cut us 173 33;have c6:=cut us 206 33;have c7:=cut us 239 33
  simp only [Nat.reduceAdd] at c1 c2 c3 c4 c5 c6 c7
  rw [hd,List.append_nil] at c7
  rw [←c7,←c6,←c5,←c4,←c3,←c2,←c1]
  exact e
theorem pNode_ok{c:Rp SV}{x:VNode}{us:List Value}(h:pNode c=some x)(d:DenC r c us):us=x.vals:=by
 unfold pNode at h
 split at h
 ·cases h;cases d;rfl
 ·unfold pNodeL at h
  split at h
  ·rename_i ix g0 g1
   obtain ⟨v0,hv0,dv0⟩:=d.get g0
   obtain ⟨v1,hv1,dv1⟩:=d.get g1
   cases dv0;cases dv1
   generalize hb:(Nat.beq (rsize c) 274&&(zE (subO pEnt c 142 33)&&(zE (subO pEnt c 175 33)&&(zE (subO pEnt c 208 33)&&zE (subO pEnt c 241 33)))))=bb at h
   cases bb with
   |false=>cases h
   |true =>
    simp only [Bool.and_eq_true] at hb
    obtain ⟨hs,z1,z2,z3,z4⟩:=hb
    have hl:us.length=274:=by rw [d.length_eq];exact Nat.eq_of_beq_eq_true hs
    have h':mkLeaf ix (subO pRec c 2 35) (subO pRec c 37 35) (subO pRec c 72 35) (subO pRec c 107 35)=some x:=h
    unfold mkLeaf at h'
    split at h'
    ·rename_i e1 e2 e3 e4
     split at h'
     ·cases h'
      rw [node_split hl hv0 hv1,subR d e1,subR d e2,subR d e3,subR d e4,zE_ok d z1,zE_ok d z2,zE_ok d z3,zE_ok d z4]
      rfl
     ·cases h'
    ·cases h'
  ·rename_i lv ix g0 g1
   obtain ⟨v0,hv0,dv0⟩:=d.get g0
   obtain ⟨v1,hv1,dv1⟩:=d.get g1
   cases dv0;cases dv1
   generalize hb:(Nat.beq (rsize c) 274&&(zR (subO pRec c 2 35)&&(zR (subO pRec c 37 35)&&(zR (subO pRec c 72 35)&&zR (subO pRec c 107 35)))))=bb at h
   cases bb with
   |false=>cases h
   |true =>
    simp only [Bool.and_eq_true] at hb
    obtain ⟨hs,z1,z2,z3,z4⟩:=hb
    have hl:us.length=274:=by rw [d.length_eq];exact Nat.eq_of_beq_eq_true hs
    have h':mkInner (lv+1) ix (subO pEnt c 142 33) (subO pEnt c 175 33) (subO pEnt c 208 33) (subO pEnt c 241 33)=some x:=h
    unfold mkInner at h'
    split at h'
    ·rename_i e1 e2 e3 e4
     split at h'
     ·cases h'
      rw [node_split hl hv0 hv1,subE d e1,subE d e2,subE d e3,subE d e4,zR_ok d z1,zR_ok d z2,zR_ok d z3,zR_ok d z4]
      rfl
     ·cases h'
    ·cases h'
  ·cases h
end
end Go.Proofs.YtjboelhcieepkaaGreatDoor
namespace Go.Proofs.YtjboelhcieepkaaGreatDoor
set_option maxRecDepth 16384
open Go.RowKit
theorem VRec.byt(x:VRec):Sh.Byt x.bytes:=by
 intro y hy
 simp only [VRec.bytes,VRec.nncB,List.mem_append,List.mem_singleton] at hy
 rcases hy with rfl|(h|h)|h
 ·have:=x.hs;omega
 ·exact Sh.beB_byt _ _ y h
 ·exact Sh.beB_byt _ _ y h
 ·exact x.hb y h
theorem VEnt.byt(x:VEnt):Sh.Byt x.bytes:=by
 intro y hy
 simp only [VEnt.bytes,List.mem_append,List.mem_singleton] at hy
 rcases hy with rfl|h
 ·have:=x.hs;omega
 ·exact x.hb y h
theorem VNode.byt(x:VNode):Sh.Byt x.bytes:=by
 intro y hy
 cases x with
 |leaf ix a b c d h =>
  simp only [VNode.bytes,List.mem_append,List.mem_singleton] at hy
  rcases hy with rfl|h|h|h|h|h
  ·omega
  ·exact Sh.beB_byt _ _ y h
  all_goals exact VRec.byt _ y h
 |inner lv ix a b c d hl h =>
  simp only [VNode.bytes,List.mem_append,List.mem_singleton] at hy
  rcases hy with rfl|h|h|h|h|h
  ·omega
  ·exact Sh.beB_byt _ _ y h
  all_goals exact VEnt.byt _ y h
noncomputable def bytesN:Rp SV→Option (List Nat)
 | .nil=>some []
 | .one (.v (.int .u8 (.ofNat k)))=>bif Nat.blt k 256 then some [k] else none
 | .one _=>none
 | .arr .u8 _ l=>bif all8 l then some l else none
 | .arr _ _ _=>none
 | .q (.rcdB x)=>some x.bytes
 | .q (.entB x)=>some x.bytes
 | .q (.nncB x)=>some x.nncB
 | .q (.nodeB x)=>some x.bytes
 | .q (.tag x)=>some x.tag
 | .q (.dig x)=>some x.dig
 | .q (.sha l)=>some (Sh.shaF l)
 | .q (.byt x)=>some x.l
 | .q _=>none
 | .node _ _ a b=>match bytesN a,bytesN b with
  |some l,some m=>some (l++m)
  |_,_=>none
theorem byt_app{l m:List Nat}(hl:Sh.Byt l)(hm:Sh.Byt m):Sh.Byt (l++m):=fun x hx=>(List.mem_append.1 hx).elim (hl x) (hm x)
theorem bytesN_ok{r:List Loc}:∀{c:Rp SV} {l:List Nat} {us:List Value},bytesN c=some l→DenC r c us→us=nv .u8 l∧Sh.Byt l:=by
 intro c
 induction c with
 |nil=>intro l us h d;cases h;cases d;exact ⟨rfl,fun x hx=>by cases hx⟩
 |one x =>
  intro l us h d
  unfold bytesN at h
  split at h<;>try (rename_i e;cases e)
  ·rename_i k
   cases hk:Nat.blt k 256 with
   |false=>rw [hk] at h;cases h
   |true =>
    rw [hk] at h;cases h
    rw [blt_iff,decide_eq_true_eq] at hk
    refine ⟨one_inv d,fun y hy=>?_⟩
    rw [List.mem_singleton] at hy;omega
  ·cases h
 |arr k n m =>
  intro l us h d
  unfold bytesN at h
  split at h<;>try (rename_i e;cases e)
  ·cases hk:all8 m with
   |false=>rw [hk] at h;cases h
   |true=>rw [hk] at h;cases h;exact ⟨arr_inv d,all8_ok hk⟩
  ·cases h
 |q a =>
  intro l us h d
  cases d
  cases a with
  |rcdB x=>cases h;exact ⟨rfl,x.byt⟩
  |entB x=>cases h;exact ⟨rfl,x.byt⟩
  |nncB x=>cases h;exact ⟨rfl,byt_app (Sh.beB_byt _ _) (Sh.beB_byt _ _)⟩
  |nodeB x=>cases h;exact ⟨rfl,x.byt⟩
  |tag x=>cases h;exact ⟨rfl,x.hb⟩
  |dig x=>cases h;exact ⟨rfl,x.hb⟩
  |sha l=>cases h;exact ⟨rfl,shaF_byt l⟩
  |byt x=>cases h;exact ⟨rfl,x.hb⟩
  |_=>cases h
 |node s t a b iha ihb =>
  intro l us h d
  unfold bytesN at h
  split at h
  ·rename_i x y ha hb
   cases h
   cases d with
   |node d1 d2 _ _ =>
    obtain ⟨rfl,b1⟩:=iha ha d1
    obtain ⟨rfl,b2⟩:=ihb hb d2
    exact ⟨nv_app _ _ _,byt_app b1 b2⟩
  ·cases h
noncomputable def partN(hp:Tr):SV→Option (List Nat×Nat)
 | .s n o l c=>bif Nat.ble l c then (match sliceCells hp 1 (.s n o l c) with
  |some (_,cs)=>(match bytesN cs with
   |some b=>some (b,l)
   |none=>none)
  |none=>none) else none
 | .w n l=>(match sliceCells hp 1 (.w n l) with
  |some (_,cs)=>(match bytesN cs with
   |some b=>some (b,l)
   |none=>none)
  |none=>none)
 | .v (.slice none 0 _)=>some ([],0)
 |_=>none
noncomputable def partsN(hp:Tr):List (Rp SV)→Option (List (List Nat)×Nat)
 |[]=>some ([],0)
 | .one x::l=>match partN hp x,partsN hp l with
  |some (b,k),some (bs,t)=>some (b::bs,k+t)
  |_,_=>none
 |_=>none
section
variable {E:Env}{r:List Loc}{hp:Tr}{nx:Nat}{w:World}
theorem partN_ok(hm:Mem E r hp nx w){x:SV}{v:Value}{b:List Nat}{l:Nat}(h:partN hp x=some (b,l))(d:Den r x v):
 ∃A c,v=.slice A l c∧l≤c∧Reads w w.heap.size 1 A l (nv .u8 b)∧Sh.Byt b∧b.length=l:=by
 have key:∀{y:SV} {m:Nat} {cs:Rp SV},Den r y v→sliceCells hp 1 y=some (m,cs)→∀{b:List Nat},bytesN cs=some b→∃A c,v=.slice A m c∧Reads w w.heap.size 1 A m (nv .u8 b)∧Sh.Byt b∧b.length=m:=by
  intro y m cs dy hs b hb
  obtain ⟨A,c,zs,e,hd,hl,hr⟩:=sliceCells_ok hm dy hs
  obtain ⟨rfl,hby⟩:=bytesN_ok hb hd
  exact ⟨A,c,e,hr,hby,by rw [nv_len] at hl;omega⟩
 unfold partN at h
 split at h
 ·rename_i n o m c
  cases hq:Nat.ble m c with
  |false=>rw [hq] at h;cases h
  |true =>
   rw [hq] at h
   simp only [cond_true] at h
   split at h
   ·rename_i m' cs hs
    split at h
    ·rename_i hb
     cases h
     obtain ⟨A,c',e,h1,h2,h3⟩:=key d hs hb
     cases d
     cases e
     exact ⟨_,_,rfl,Nat.le_of_ble_eq_true hq,h1,h2,h3⟩
    ·cases h
   ·cases h
 ·rename_i n m
  split at h
  ·rename_i m' cs hs
   split at h
   ·rename_i hb
    cases h
    obtain ⟨A,c',e,h1,h2,h3⟩:=key d hs hb
    cases d with
    |w hL hl=>cases e;exact ⟨_,_,rfl,hl,h1,h2,h3⟩
   ·cases h
  ·cases h
 ·cases h
  cases d
  exact ⟨none,_,rfl,Nat.zero_le _,⟨rfl,fun h=>absurd h (by omega)⟩,(fun x hx=>by cases hx),rfl⟩
 ·cases h
theorem partsN_ok(hm:Mem E r hp nx w):∀{l:List (Rp SV)} {ms:List (List Nat)} {t:Nat} {us:List Value},partsN hp l=some (ms,t)→DenF r l us →
 us.length=ms.length∧ms.flatten.length=t∧∀j,j<ms.length→∃Ai ni ci,us[j]?=some (.slice Ai ni ci)∧ni≤ci∧Reads w w.heap.size 1 Ai ni (nv .u8 (ms.getD j []))∧Sh.Byt (ms.getD j [])
 |[],ms,t,us,h,d=>by cases h;cases d;exact ⟨rfl,rfl,fun j hj=>absurd hj (by simp)⟩
 | .one x::l,ms,t,us,h,d=>by
  unfold partsN at h
  split at h
  ·rename_i b k bs t' hb hbs
   cases h
   cases d with
   |cons d1 d2=>cases d1 with
    |one d1 _ =>
     obtain ⟨A,c,rfl,h1,h2,h3,h4⟩:=partN_ok hm hb d1
     obtain ⟨e1,e2,e3⟩:=partsN_ok hm hbs d2
     refine ⟨by simp [e1],by simp [h4,e2],fun j hj=>?_⟩
     cases j with
     |zero=>exact ⟨A,_,c,rfl,h1,by simpa using h2,by simpa using h3⟩
     |succ j=>simpa using e3 j (by simpa using hj)
  ·cases h
 | .nil::_,_,_,_,h,_=>by cases h
 | .arr ..::_,_,_,_,h,_=>by cases h
 | .node ..::_,_,_,_,h,_=>by cases h
 | .q ..::_,_,_,_,h,_=>by cases h
end
theorem globT{w:World}(h:GlobOk Xt w):Glob w:=by
 have hk:Xt.G 2=some (.arr .u32 64 Sh.kL):=rfl
 have hh:Xt.G 1=some (.arr .u32 8 Sh.hL):=rfl
 obtain ⟨vs,d1,l1,c1⟩:=h _ _ hk
 obtain ⟨us,d2,l2,c2⟩:=h _ _ hh
 rw [arr_inv d1] at c1
 rw [arr_inv d2] at c2
 exact ⟨fun j v hv=>by simpa using c1 j v hv,fun j v hv=>by simpa using c2 j v hv,l1,l2⟩
noncomputable def leafOf:Leaf:=fun args hp nx=>match args with
 |[x]=>(match sliceCells hp 1 x with
  |some (n,c)=>(match partsN hp (rflat c []) with
   |some (ms,t)=>bif Nat.blt n 4611686018427387904&&Nat.blt t 1152921504606846976 then some (.a (.q (.sha ms.flatten)),⟨⟨.e,0⟩,hp,nx⟩) else none
   |none=>none)
  |none=>none)
 |_=>none
theorem of_leaf:LeafOk Xt 10 leafOf:=by
 intro args hp nx res st hl E r vals w hE ha hm
 have hen:Enters Xt.P 10:=enters (by kernel_rfl)
 unfold leafOf at hl
 split at hl
 ·rename_i x
  split at hl
  ·rename_i n c hs
   split at hl
   ·rename_i ms t hp'
    cases hq:Nat.blt n 4611686018427387904&&Nat.blt t 1152921504606846976 with
    |false=>rw [hq] at hl;cases hl
    |true =>
     rw [hq] at hl;cases hl
     rw [Bool.and_eq_true,blt_iff,blt_iff,decide_eq_true_eq,decide_eq_true_eq] at hq
     cases ha with
     |cons d tl =>
      cases tl
      obtain ⟨A,cc,zs,rfl,hd,hlen,hr⟩:=sliceCells_ok hm d hs
      have hf:=flat_ok c hd .nil
      rw [List.append_nil] at hf
      obtain ⟨e1,e2,e3⟩:=partsN_ok hm hp' hf
      have hg:GlobOk Xt w:=hE▸hm.globs
      have hP:Parts w w.heap.size A n ms:=by
       refine ⟨by omega,fun j hj=>?_⟩
       obtain ⟨ad,rfl,hb,hc⟩:=hr.2 (by omega)
       obtain ⟨Ai,ni,ci,h1,h2,h3,h4⟩:=e3 j (by omega)
       exact ⟨ad,Ai,ni,ci,rfl,hb,hc j _ h1,h2,h3,h4⟩
      refine ⟨fun w'=>hen _ w',(of_any ms n cc w.heap.size A w (globT hg) hP hq.1 (Nat.le_refl _) (by rw [e2];exact hq.2)).mono ?_⟩
      rintro e w' ⟨rfl,hb⟩
      refine ⟨[],_,rfl,.a ?_,by simpa using hm.grow hb⟩
      rw [←Sh.shaF_eq]
      exact .q (.sha ms.flatten)
   ·cases hl
  ·cases hl
 ·cases hl
end Go.Proofs.YtjboelhcieepkaaGreatDoor
namespace Go.Proofs.YtjboelhcieepkaaGreatDoor
set_option maxRecDepth 16384
open Go.RowKit
theorem denRow{r:List Loc}{c:Rp SV}{vals:List Value}(h:DenL r [.a c] vals):∃us,vals=[.agg us.toArray]∧DenC r c us:=by
 cases h with
 |cons d t =>
  cases t
  cases d with
  |a d=>exact ⟨_,rfl,d⟩
noncomputable def fRow{α:Type}(p:Rp SV→Option α)(f:α→SV)(args:List SV):Option SV:=match args with
 |[.a c]=>(match p c with
  |some x=>some (f x)
  |none=>none)
 |_=>none
theorem rowV_ok{α:Type}{p:Rp SV→Option α}{f:α→SV}{q:α→At}{u:α→Value}{g:FuncId}{H:Hk}{n:Nat}(hH:HkOk Xt H)(he:Enters Xt.P g)(hp:∀c x,p c=some x→∀(r:List Loc) us,DenC r c us→us=(q x).vals)
 (hu:∀x (r:List Loc),Den r (f x) (u x)) (hc:∀x,callR H Xt n g [.a (.q (q x))] .e 0=some (u x)):LeafOk Xt g (leafV (fRow p f)):=leafV_ok he fun args y hf r vals w hd hg=>by
 unfold fRow at hf
 split at hf
 ·split at hf
  ·rename_i c x hx
   cases hf
   obtain ⟨us,rfl,d⟩:=denRow hd
   obtain rfl:=hp _ _ hx r us d
   exact (callR_val (vals:=[.agg (q x).vals.toArray]) hmx hH (hc x) (.cons (.a (.q _)) .nil) hg).mono fun e w' ⟨h1,h2⟩=>⟨_,h1,hu x r,h2⟩
  ·cases hf
 ·cases hf
noncomputable def fRowS{α:Type}(p:Rp SV→Option α)(b:α→At)(args:List SV):Option (TypeId×Rp SV×Nat×Nat×Option (List SV)):=match args with
 |[.a c]=>(match p c with
  |some x=>some (5,.q (b x),(b x).size,(b x).size,some [ok0])
  |none=>none)
 |_=>none
theorem rowS_ok{α:Type}{p:Rp SV→Option α}{b q:α→At}{g:FuncId}{H:Hk}{n:Nat}(hH:HkOk Xt H)(he:Enters Xt.P g)(hp:∀c x,p c=some x→∀(r:List Loc) us,DenC r c us→us=(q x).vals)
 (hc:∀x,callN H Xt n g [.a (.q (q x))] .e 0=some (5,(b x).vals,(b x).size,(b x).size,some [.int .i64 0])):LeafOk Xt g (leafS (fRowS p b)):=leafS_ok he fun args T cs l c zs hf r vals w hd hg=>by
 unfold fRowS at hf
 split at hf
 ·split at hf
  ·rename_i c x hx
   cases hf
   obtain ⟨us,rfl,d⟩:=denRow hd
   obtain rfl:=hp _ _ hx r us d
   exact ⟨_,some [.int .i64 0],.q _,⟨_,rfl,.cons (.v _) .nil⟩,callN_new (vals:=[.agg (q x).vals.toArray]) hmx hH (hc x) (.cons (.a (.q _)) .nil) hg⟩
  ·cases hf
 ·cases hf
noncomputable def tab2:List (FuncId×Leaf):=[(91,leafV (fRow pRec fun _=>ok0)),(115,leafV (fRow pEnt fun _=>ok0)),
 (58,leafS (fRowS pRec .rcdB)),(61,leafS (fRowS pEnt .entB))]++tab1
theorem tab2_ok:∀p∈tab2,LeafOk Xt p.1 p.2:=by
 intro p hp
 rcases List.mem_append.1 hp with hp|hp
 ·simp only [List.mem_cons,List.not_mem_nil,or_false] at hp
  rcases hp with rfl|rfl|rfl|rfl
  ·exact rowV_ok (q:=.rcd) (u:=fun _=>.int .i64 0) H1_ok (enters (by kernel_rfl)) (fun c x h r us d=>pRec_ok h d) (fun _ _=>.v _) chkR
  ·exact rowV_ok (q:=.ent) (u:=fun _=>.int .i64 0) H1_ok (enters (by kernel_rfl)) (fun c x h r us d=>pEnt_ok h d) (fun _ _=>.v _) chkE
  ·exact rowS_ok (q:=.rcd) (b:=.rcdB) H1_ok (enters (by kernel_rfl)) (fun c x h r us d=>pRec_ok h d) putR
  ·exact rowS_ok (q:=.ent) (b:=.entB) H1_ok (enters (by kernel_rfl)) (fun c x h r us d=>pEnt_ok h d) putE
 ·exact tab1_ok p hp
noncomputable def H2:Hk:=hkD Xt (leafTab tab2) 14 6
theorem H2_ok:HkOk Xt H2:=hkT_ok hmx tab2_ok 6
theorem chkN(x:VNode):callR H2 Xt 12 53 [.a (.q (.node x))] .e 0=some (.int .i64 0):=by
 cases x with
 |leaf ix a b c d h=>kernel_rfl
 |inner lv ix a b c d hl h =>
  rcases lv with _|_|_|lv
  ·omega
  ·kernel_rfl
  ·kernel_rfl
  ·omega
end Go.Proofs.YtjboelhcieepkaaGreatDoor
namespace Go.Proofs.YtjboelhcieepkaaGreatDoor
set_option maxRecDepth 16384
open Go.RowKit
theorem getR(x:VRec)(c:Nat)(hc:c∈[45,90,135,180]):callR H2 Xt 12 277 [.s 0 0 45 c] (rd1 5 (.q (.rcdB x))) 1=some (.tuple #[.agg x.vals.toArray,.int .i64 0]):=by
 obtain ⟨s,sh,k,tag,hs,h0,h1,h2,h3,h4⟩:=x
 simp only [List.mem_cons,List.not_mem_nil,or_false] at hc
 rcases s with _|_|_|s
 ·obtain ⟨rfl,rfl,rfl⟩:=h0 rfl;rcases hc with rfl|rfl|rfl|rfl<;>kernel_rfl
 ·rcases hc with rfl|rfl|rfl|rfl<;>kernel_rfl
 ·rcases hc with rfl|rfl|rfl|rfl<;>kernel_rfl
 ·omega
theorem getE(x:VEnt)(c:Nat)(hc:c∈[33,66,99,132]):callR H2 Xt 12 278 [.s 0 0 33 c] (rd1 5 (.q (.entB x))) 1=some (.tuple #[.agg x.vals.toArray,.int .i64 0]):=by
 obtain ⟨s,dig,hs,h0,h3,h4⟩:=x
 simp only [List.mem_cons,List.not_mem_nil,or_false] at hc
 rcases s with _|_|_|s
 ·obtain rfl:=h0 rfl;rcases hc with rfl|rfl|rfl|rfl<;>kernel_rfl
 ·rcases hc with rfl|rfl|rfl|rfl<;>kernel_rfl
 ·rcases hc with rfl|rfl|rfl|rfl<;>kernel_rfl
 ·omega
noncomputable def callQ(H:Hk)(X:Ctx)(n:Nat)(g:FuncId)(args:List SV)(hp:Tr)(nx:Nat):Option (TypeId×List (Rp SV)×Nat×Nat×List Value):=match callW H X n g args hp nx with
 |some (.t (.s m 0 l c::zs),st)=>(match st.hp.get m,valL zs with
  |some ⟨T,cs,0⟩,some uz=>some (T,rbare cs [],l,c,uz)
  |_,_=>none)
 |_=>none
theorem callQ_new{X:Ctx}{H:Hk}{n:Nat}{g:FuncId}{args:List SV}{vals:List Value}{w:World}{T:TypeId}{ps:List (Rp SV)}{us:List Value}{l c:Nat}{uz:List Value}(hmx:X.P.follows .mixedOrders=true)(hH:HkOk X H)(h:callQ H X n g args .e 0=some (T,ps,l,c,uz))
 (hp:∀r vs,DenF r ps vs→vs=us) (ha:DenL [] args vals) (hg:GlobOk X w):Calls X.P g vals.toArray w fun e w'=>∃p,e=.returned (.tuple (.slice (some ⟨p,0,none⟩) l c::uz).toArray)∧NewS w w' T us p:=by
 unfold callQ at h
 split at h
 ·rename_i m l' c' zs st hc
  split at h
  ·rename_i T' cs uz' hb hz
   cases h
   refine (run_mem hmx hH hc ha hg).mono fun e w' ⟨r,v,he,hd,hm⟩=>?_
   obtain ⟨L,hL,vs,hdc,hk⟩:=hm.blk m _ hb
   rcases hk with ⟨_,hge,hb0,hblk⟩|⟨h1,_⟩|⟨h2,_⟩
   ·cases hd with
    |t hd=>cases hd with
     |cons d1 d2=>cases d1 with
      |s hL' =>
       rw [hL] at hL';cases hL'
       rw [valL_eq hz d2] at he
       rw [hp r vs (rbare_ok _ hdc)] at hblk
       exact ⟨L.g,by rw [he,hb0],hge,hblk,hm.below⟩
   ·cases h1
   ·exact absurd h2 (by show ¬ 2≤0;decide)
  ·cases h
 ·cases h
def onesP(l:List Nat)(ps:List (Rp SV)):List (Rp SV):=l.foldr (fun (k:Nat) q=>.one (.v (.int .u8 (k:Int)))::q) ps
theorem onesP_inv{r:List Loc}:∀{l:List Nat} {ps:List (Rp SV)} {us:List Value},DenF r (onesP l ps) us→∃us',us=nv .u8 l++us'∧DenF r ps us'
 |[],ps,us,h=>⟨us,rfl,h⟩
 |k::l,ps,us,h=>by
  cases h with
  |cons h t =>
   obtain ⟨us',rfl,h'⟩:=onesP_inv (l:=l) t
   rw [one_inv h]
   exact ⟨us',rfl,h'⟩
theorem q4_inv{r:List Loc}{a b c d:At}{us:List Value}(h:DenF r [.q a,.q b,.q c,.q d] us):us=a.vals++(b.vals++(c.vals++d.vals)):=by
 cases h with
 |cons h1 h=>cases h with
  |cons h2 h=>cases h with
   |cons h3 h=>cases h with
    |cons h4 h=>cases h;cases h1;cases h2;cases h3;cases h4;simp
def nbP:VNode→List (Rp SV)
 | .leaf ix a b c d _=>onesP (0::Sh.beB ix 4) [.q (.rcdB a),.q (.rcdB b),.q (.rcdB c),.q (.rcdB d)]
 | .inner lv ix a b c d _ _=>onesP (lv::Sh.beB ix 4) [.q (.entB a),.q (.entB b),.q (.entB c),.q (.entB d)]
theorem nbP_ok{r:List Loc}{x:VNode}{us:List Value}(h:DenF r (nbP x) us):us=(At.nodeB x).vals:=by
 cases x with
 |leaf ix a b c d =>
  obtain ⟨us',e,h'⟩:=onesP_inv h
  rw [e,q4_inv h']
  simp [At.vals,VNode.bytes,nv]
 |inner lv ix a b c d =>
  obtain ⟨us',e,h'⟩:=onesP_inv h
  rw [e,q4_inv h']
  simp [At.vals,VNode.bytes,nv]
theorem putN(x:VNode):callQ H2 Xt 12 8 [.a (.q (.node x))] .e 0=some (5,nbP x,(At.nodeB x).size,(At.nodeB x).size,[.int .i64 0]):=by
 cases x with
 |leaf ix a b c d h =>
  rcases ix with _|_|_|_|_|_|_|_|ix
  iterate 8 kernel_rfl
  omega
 |inner lv ix a b c d hl h =>
  rcases lv with _|_|_|lv
  ·omega
  ·rcases ix with _|_|_|_|_|_|_|_|ix
   iterate 8 kernel_rfl
   omega
  ·rcases ix with _|_|_|_|_|_|_|_|ix
   iterate 8 kernel_rfl
   omega
  ·omega
theorem put_leaf:LeafOk Xt 8 (leafS (fRowS pNode .nodeB)):=leafS_ok (enters (by kernel_rfl)) fun args T cs l c zs hf r vals w hd hg=>by
 unfold fRowS at hf
 split at hf
 ·split at hf
  ·rename_i c x hx
   cases hf
   obtain ⟨us,rfl,d⟩:=denRow hd
   obtain rfl:=pNode_ok hx d
   exact ⟨_,some [.int .i64 0],.q _,⟨_,rfl,.cons (.v _) .nil⟩,callQ_new (vals:=[.agg x.vals.toArray]) hmx H2_ok (putN x) (fun _ _ h=>nbP_ok h) (.cons (.a (.q (.node x))) .nil) hg⟩
  ·cases hf
 ·cases hf
end Go.Proofs.YtjboelhcieepkaaGreatDoor
namespace Go.Proofs.YtjboelhcieepkaaGreatDoor
set_option maxRecDepth 16384
open Go.RowKit
noncomputable def fGetR(l c:Nat)(cs:Rp SV):Option SV:=match cs with
 | .q (.rcdB x)=>bif Nat.beq l 45&&[45,90,135,180].contains c then some (.t [.a (.q (.rcd x)),ok0]) else none
 |_=>none
noncomputable def fGetE(l c:Nat)(cs:Rp SV):Option SV:=match cs with
 | .q (.entB x)=>bif Nat.beq l 33&&[33,66,99,132].contains c then some (.t [.a (.q (.ent x)),ok0]) else none
 |_=>none
theorem getR_leaf:LeafOk Xt 277 (leafR fGetR):=leafR_ok (enters (by kernel_rfl)) fun l c cs y hf r vs g0 o0 w hd hr hg=>by
 unfold fGetR at hf
 split at hf
 ·rename_i x
  cases hq:Nat.beq l 45&&[45,90,135,180].contains c with
  |false=>rw [hq] at hf;cases hf
  |true =>
   rw [hq] at hf;cases hf
   rw [Bool.and_eq_true] at hq
   obtain rfl:l=45:=Nat.eq_of_beq_eq_true hq.1
   cases hd
   exact (callR_rd hmx H2_ok (getR x c (by simpa using hq.2)) (.q _) hr (by decide) hg).mono fun e w' ⟨h1,h2⟩=>⟨_,h1,.t (.cons (.a (.q _)) (.cons (.v _) .nil)),h2⟩
 ·cases hf
theorem getE_leaf:LeafOk Xt 278 (leafR fGetE):=leafR_ok (enters (by kernel_rfl)) fun l c cs y hf r vs g0 o0 w hd hr hg=>by
 unfold fGetE at hf
 split at hf
 ·rename_i x
  cases hq:Nat.beq l 33&&[33,66,99,132].contains c with
  |false=>rw [hq] at hf;cases hf
  |true =>
   rw [hq] at hf;cases hf
   rw [Bool.and_eq_true] at hq
   obtain rfl:l=33:=Nat.eq_of_beq_eq_true hq.1
   cases hd
   exact (callR_rd hmx H2_ok (getE x c (by simpa using hq.2)) (.q _) hr (by decide) hg).mono fun e w' ⟨h1,h2⟩=>⟨_,h1,.t (.cons (.a (.q _)) (.cons (.v _) .nil)),h2⟩
 ·cases hf
noncomputable def tab3:List (FuncId×Leaf):=[(277,leafR fGetR),(278,leafR fGetE),(53,leafV (fRow pNode fun _=>ok0)),
 (8,leafS (fRowS pNode .nodeB)),(10,leafOf)]++tab2
theorem tab3_ok:∀p∈tab3,LeafOk Xt p.1 p.2:=by
 intro p hp
 rcases List.mem_append.1 hp with hp|hp
 ·simp only [List.mem_cons,List.not_mem_nil,or_false] at hp
  rcases hp with rfl|rfl|rfl|rfl|rfl
  ·exact getR_leaf
  ·exact getE_leaf
  ·exact rowV_ok (q:=.node) (u:=fun _=>.int .i64 0) H2_ok (enters (by kernel_rfl)) (fun c x h r us d=>pNode_ok h d) (fun _ _=>.v _) chkN
  ·exact put_leaf
  ·exact of_leaf
 ·exact tab2_ok p hp
noncomputable def H3:Hk:=hkD Xt (leafTab tab3) 14 6
theorem H3_ok:HkOk Xt H3:=hkT_ok hmx tab3_ok 6
theorem digN(x:VNode):callR H3 Xt 12 9 [.a (.q (.node x))] .e 0=some (.tuple #[.agg (At.sha [x.bytes].flatten).vals.toArray,.int .i64 0]):=by
 cases x with
 |leaf ix a b c d h=>kernel_rfl
 |inner lv ix a b c d hl h=>kernel_rfl
end Go.Proofs.YtjboelhcieepkaaGreatDoor
namespace Go.Proofs.YtjboelhcieepkaaGreatDoor
set_option maxRecDepth 16384
open Go.RowKit
noncomputable def callRow(H:Hk)(X:Ctx)(n:Nat)(g:FuncId)(args:List SV)(hp:Tr)(nx:Nat):Option (List (Rp SV)×List Value):=match callW H X n g args hp nx with
 |some (.t (.a c::zs),_)=>(match valL zs with
  |some uz=>some (rbare c [],uz)
  |none=>none)
 |_=>none
theorem callRow_rd{X:Ctx}{H:Hk}{n T l c g0 o0:Nat}{g:FuncId}{cs:Rp SV}{vs us uz:List Value}{w:World}{ps:List (Rp SV)}(hmx:X.P.follows .mixedOrders=true)(hH:HkOk X H)(h:callRow H X n g [.s 0 0 l c] (rd1 T cs) 1=some (ps,uz))
 (hp:∀r vs,DenF r ps vs→vs=us) (hd:DenC [] cs vs) (hr:Reads w w.heap.size 1 (some ⟨g0,o0,none⟩) l vs) (hl:0<l) (hg:GlobOk X w):Calls X.P g #[.slice (some ⟨g0,o0,none⟩) l c] w fun e w'=>e=.returned (.tuple (.agg us.toArray::uz).toArray)∧Below w.heap.size w w':=by
 unfold callRow at h
 split at h
 ·rename_i cr zs st hc
  split at h
  ·rename_i uz' hz
   cases h
   refine (rd_mem hmx hH hc hd hr hl hg).mono fun e w' ⟨r,v,he,hdv,hb⟩=>⟨?_,hb⟩
   cases hdv with
   |t hdv=>cases hdv with
    |cons d1 d2=>cases d1 with
     |a d1=>rw [he,valL_eq hz d2,hp r _ (rbare_ok _ d1)]
  ·cases h
 ·cases h
def zRp(ps:List (Rp SV)):List (Rp SV):=.one (.v (.int .u8 0))::.one (.v (.int .u32 0))::.one (.v (.int .u64 0))::.arr .u8 32 (List.replicate 32 0)::ps
def zEp(ps:List (Rp SV)):List (Rp SV):=.one (.v (.int .u8 0))::.arr .u8 32 (List.replicate 32 0)::ps
def ndP:VNode→List (Rp SV)
 | .leaf ix a b c d _=>.one (.v (.int .u8 0))::.one (.v (.int .u32 (ix:Int)))::.q (.rcd a)::.q (.rcd b)::.q (.rcd c)::.q (.rcd d)::zEp (zEp (zEp (zEp [])))
 | .inner lv ix a b c d _ _=>.one (.v (.int .u8 (lv:Int)))::.one (.v (.int .u32 (ix:Int)))::zRp (zRp (zRp (zRp [.q (.ent a),.q (.ent b),.q (.ent c),.q (.ent d)])))
theorem zEp_inv{r:List Loc}{ps:List (Rp SV)}{us:List Value}(h:DenF r (zEp ps) us):∃us',us=zent.vals++us'∧DenF r ps us':=by
 cases h with
 |cons h1 h=>cases h with
  |cons h2 h=>rw [one_inv h1,arr_inv h2];exact ⟨_,by simp [VEnt.vals,zent],h⟩
theorem zRp_inv{r:List Loc}{ps:List (Rp SV)}{us:List Value}(h:DenF r (zRp ps) us):∃us',us=zrec.vals++us'∧DenF r ps us':=by
 cases h with
 |cons h1 h=>cases h with
  |cons h2 h=>cases h with
   |cons h3 h=>cases h with
    |cons h4 h=>rw [one_inv h1,one_inv h2,one_inv h3,arr_inv h4];exact ⟨_,by simp [VRec.vals,VRec.nnc,zrec],h⟩
theorem ndP_ok{r:List Loc}{x:VNode}{us:List Value}(h:DenF r (ndP x) us):us=x.vals:=by
 cases x with
 |leaf ix a b c d =>
  cases h with
  |cons h1 h=>cases h with
   |cons h2 h=>cases h with
    |cons h3 h=>cases h with
     |cons h4 h=>cases h with
      |cons h5 h=>cases h with
       |cons h6 h =>
        obtain ⟨u1,e1,h⟩:=zEp_inv h
        obtain ⟨u2,e2,h⟩:=zEp_inv h
        obtain ⟨u3,e3,h⟩:=zEp_inv h
        obtain ⟨u4,e4,h⟩:=zEp_inv h
        cases h;cases h3;cases h4;cases h5;cases h6
        rw [one_inv h1,one_inv h2,e1,e2,e3,e4]
        simp [VNode.vals,r4v,e4v,At.vals]
 |inner lv ix a b c d =>
  cases h with
  |cons h1 h=>cases h with
   |cons h2 h =>
    obtain ⟨u1,e1,h⟩:=zRp_inv h
    obtain ⟨u2,e2,h⟩:=zRp_inv h
    obtain ⟨u3,e3,h⟩:=zRp_inv h
    obtain ⟨u4,e4,h⟩:=zRp_inv h
    rw [one_inv h1,one_inv h2,e1,e2,e3,e4,q4_inv h]
    simp [VNode.vals,r4v,e4v,At.vals]
theorem getN(x:VNode):callRow H3 Xt 12 238 [.s 0 0 (At.nodeB x).size (At.nodeB x).size] (rd1 5 (.q (.nodeB x))) 1=some (ndP x,[.int .i64 0]):=by
 cases x with
 |leaf ix a b c d h =>
  rcases ix with _|_|_|_|_|_|_|_|ix
  iterate 8 kernel_rfl
  omega
 |inner lv ix a b c d hl h =>
  rcases lv with _|_|_|lv
  ·omega
  ·rcases ix with _|_|_|_|_|_|_|_|ix
   iterate 8 kernel_rfl
   omega
  ·rcases ix with _|_|_|_|_|_|_|_|ix
   iterate 8 kernel_rfl
   omega
  ·omega
noncomputable def fGet(l c:Nat)(cs:Rp SV):Option SV:=match cs with
 | .q (.nodeB x)=>bif Nat.beq l (At.nodeB x).size&&Nat.beq c (At.nodeB x).size then some (.t [.a (.q (.node x)),ok0]) else none
 |_=>none
theorem get_leaf:LeafOk Xt 238 (leafR fGet):=leafR_ok (enters (by kernel_rfl)) fun l c cs y hf r vs g0 o0 w hd hr hg=>by
 unfold fGet at hf
 split at hf
 ·rename_i x
  cases hq:Nat.beq l (At.nodeB x).size&&Nat.beq c (At.nodeB x).size with
  |false=>rw [hq] at hf;cases hf
  |true =>
   rw [hq] at hf;cases hf
   rw [Bool.and_eq_true] at hq
   obtain rfl:=Nat.eq_of_beq_eq_true hq.1
   obtain rfl:=Nat.eq_of_beq_eq_true hq.2
   cases hd
   exact (callRow_rd hmx H3_ok (getN x) (fun _ _ h=>ndP_ok h) (.q _) hr (match x with | .leaf .. =>(by decide:0<185) | .inner .. =>(by decide:0<137)) hg).mono fun e w' ⟨h1,h2⟩=>⟨_,h1,.t (.cons (.a (.q (.node x))) (.cons (.v _) .nil)),h2⟩
 ·cases hf
theorem dig_leaf:LeafOk Xt 9 (leafV (fRow pNode fun x=>.t [.a (.q (.sha x.bytes)),ok0])) :=
 rowV_ok (q:=.node) (u:=fun x=>.tuple #[.agg (At.sha x.bytes).vals.toArray,.int .i64 0]) H3_ok (enters (by kernel_rfl)) (fun c x h r us d=>pNode_ok h d) (fun x r=>.t (.cons (.a (.q _)) (.cons (.v _) .nil))) fun x=>by
  have h:=digN x
  rwa [show [x.bytes].flatten=x.bytes by simp] at h
end Go.Proofs.YtjboelhcieepkaaGreatDoor
namespace Go.Proofs.YtjboelhcieepkaaGreatDoor
set_option maxRecDepth 16384
open Go.RowKit
theorem VRec.eq0{x:VRec}(h:x.s=0):x=zrec:=by
 obtain ⟨s,sh,c,tag,hs,h0,h1,h2,h3,h4⟩:=x
 obtain rfl:s=0:=h
 obtain ⟨rfl,rfl,rfl⟩:=h0 rfl
 rfl
theorem VEnt.eq0{x:VEnt}(h:x.s=0):x=zent:=by
 obtain ⟨s,dig,hs,h0,h3,h4⟩:=x
 obtain rfl:s=0:=h
 obtain rfl:=h0 rfl
 rfl
def cnt(n:Nat):Nat→Nat
 |0=>(n+3) / 4
 |l+1=>if cnt n l=1 then 0 else (cnt n l+3) / 4
def prts(n lv ix:Nat):Nat:=min 4 ((if lv=0 then n else cnt n (lv-1))-4*ix)
theorem all_of{α β:Type}{l:List α}{f g:α→β}(h:l.map f=l.map g){x:α}(hx:x∈l):f x=g x:=List.map_inj_left.1 h x hx
def lt2(a:Nat)(f:Nat→Nat):List (Nat×Nat):=(List.range a).flatMap fun n=>(List.range (f n)).map fun i=>(n,i)
theorem mem_lt2{a n i:Nat}{f:Nat→Nat}(hn:n<a)(hi:i<f n):(n,i)∈lt2 a f:=by
 simp only [lt2,List.mem_flatMap,List.mem_range,List.mem_map,Prod.mk.injEq]
 exact ⟨n,hn,i,hi,rfl,rfl⟩
def i64v(n:Nat):SV:=.v (.int .i64 (n:Int))
noncomputable def zk(k i:Nat)(x:VRec):VRec:=Bool.rec zrec x (Nat.blt i k)
noncomputable def zj(k i:Nat)(x:VEnt):VEnt:=Bool.rec zent x (Nat.blt i k)
theorem zk_eq{k i:Nat}{x:VRec}(h:(Nat.blt i k || Nat.beq x.s 0)=true):zk k i x=x:=by
 unfold zk
 cases hb:Nat.blt i k with
 |true=>rfl
 |false=>rw [hb,Bool.false_or] at h;exact (VRec.eq0 (Nat.eq_of_beq_eq_true h)).symm
theorem zj_eq{k i:Nat}{x:VEnt}(h:(Nat.blt i k || Nat.beq x.s 0)=true):zj k i x=x:=by
 unfold zj
 cases hb:Nat.blt i k with
 |true=>rfl
 |false=>rw [hb,Bool.false_or] at h;exact (VEnt.eq0 (Nat.eq_of_beq_eq_true h)).symm
noncomputable def fitB(n:Nat):VNode→Bool
 | .leaf ix a b c d _=>Nat.ble 1 n&&(Nat.ble n 20&&(Nat.blt ix (cnt n 0)&&((Nat.blt 0 (prts n 0 ix) || Nat.beq a.s 0)&&((Nat.blt 1 (prts n 0 ix) || Nat.beq b.s 0)&&((Nat.blt 2 (prts n 0 ix) || Nat.beq c.s 0)&&(Nat.blt 3 (prts n 0 ix) || Nat.beq d.s 0))))))
 | .inner lv ix a b c d _ _=>Nat.ble 1 n&&(Nat.ble n 20&&(Nat.blt ix (cnt n lv)&&((Nat.blt 0 (prts n lv ix) || Nat.beq a.s 0)&&((Nat.blt 1 (prts n lv ix) || Nat.beq b.s 0)&&((Nat.blt 2 (prts n lv ix) || Nat.beq c.s 0)&&(Nat.blt 3 (prts n lv ix) || Nat.beq d.s 0))))))
theorem fits0(a b c d:VRec):(lt2 20 fun n=>cnt (n+1) 0).map (fun p=>callR H3 Xt 14 111 [i64v (p.1+1),.a (.q (.node (.leaf (min p.2 7) (zk (prts (p.1+1) 0 p.2) 0 a) (zk (prts (p.1+1) 0 p.2) 1 b) (zk (prts (p.1+1) 0 p.2) 2 c) (zk (prts (p.1+1) 0 p.2) 3 d) (Nat.min_le_right _ _))))] .e 0) =
 (lt2 20 fun n=>cnt (n+1) 0).map (fun _=>some (.int .i64 0)):=by kernel_rfl
theorem fits1(a b c d:VEnt):(lt2 20 fun n=>cnt (n+1) 1).map (fun p=>callR H3 Xt 14 111 [i64v (p.1+1),.a (.q (.node (.inner 1 (min p.2 7) (zj (prts (p.1+1) 1 p.2) 0 a) (zj (prts (p.1+1) 1 p.2) 1 b) (zj (prts (p.1+1) 1 p.2) 2 c) (zj (prts (p.1+1) 1 p.2) 3 d) (by decide) (Nat.min_le_right _ _))))] .e 0) =
 (lt2 20 fun n=>cnt (n+1) 1).map (fun _=>some (.int .i64 0)):=by kernel_rfl
theorem fits2(a b c d:VEnt):(lt2 20 fun n=>cnt (n+1) 2).map (fun p=>callR H3 Xt 14 111 [i64v (p.1+1),.a (.q (.node (.inner 2 (min p.2 7) (zj (prts (p.1+1) 2 p.2) 0 a) (zj (prts (p.1+1) 2 p.2) 1 b) (zj (prts (p.1+1) 2 p.2) 2 c) (zj (prts (p.1+1) 2 p.2) 3 d) (by decide) (Nat.min_le_right _ _))))] .e 0) =
 (lt2 20 fun n=>cnt (n+1) 2).map (fun _=>some (.int .i64 0)):=by kernel_rfl
theorem fitsN(n:Nat)(x:VNode)(h:fitB n x=true):callR H3 Xt 14 111 [i64v n,.a (.q (.node x))] .e 0=some (.int .i64 0):=by
 cases x with
 |leaf ix a b c d h7 =>
  simp only [fitB,Bool.and_eq_true,blt_iff,ble_iff,decide_eq_true_eq] at h
  obtain ⟨h1,h2,h3,e1,e2,e3,e4⟩:=h
  obtain ⟨m,rfl⟩:∃m,n=m+1:=⟨n-1,by omega⟩
  have:=all_of (fits0 a b c d) (mem_lt2 (f:=fun n=>cnt (n+1) 0) (show m<20 by omega) h3)
  simp only [Nat.min_eq_left h7] at this
  rwa [zk_eq (by simpa [blt_iff] using e1),zk_eq (by simpa [blt_iff] using e2),zk_eq (by simpa [blt_iff] using e3),zk_eq (by simpa [blt_iff] using e4)] at this
 |inner lv ix a b c d hl h7 =>
  simp only [fitB,Bool.and_eq_true,blt_iff,ble_iff,decide_eq_true_eq] at h
  obtain ⟨h1,h2,h3,e1,e2,e3,e4⟩:=h
  obtain ⟨m,rfl⟩:∃m,n=m+1:=⟨n-1,by omega⟩
  rcases lv with _|_|_|lv
  ·omega
  ·have:=all_of (fits1 a b c d) (mem_lt2 (f:=fun n=>cnt (n+1) 1) (show m<20 by omega) h3)
   simp only [Nat.min_eq_left h7] at this
   rwa [zj_eq (by simpa [blt_iff] using e1),zj_eq (by simpa [blt_iff] using e2),zj_eq (by simpa [blt_iff] using e3),zj_eq (by simpa [blt_iff] using e4)] at this
  ·have:=all_of (fits2 a b c d) (mem_lt2 (f:=fun n=>cnt (n+1) 2) (show m<20 by omega) h3)
   simp only [Nat.min_eq_left h7] at this
   rwa [zj_eq (by simpa [blt_iff] using e1),zj_eq (by simpa [blt_iff] using e2),zj_eq (by simpa [blt_iff] using e3),zj_eq (by simpa [blt_iff] using e4)] at this
  ·omega
noncomputable def fFits(args:List SV):Option SV:=match args with
 |[.v (.int .i64 (.ofNat n)),.a c]=>(match pNode c with
  |some x=>bif fitB n x then some ok0 else none
  |none=>none)
 |_=>none
theorem fits_leaf:LeafOk Xt 111 (leafV fFits):=leafV_ok (enters (by kernel_rfl)) fun args y hf r vals w hd hg=>by
 unfold fFits at hf
 split at hf
 ·rename_i n c
  split at hf
  ·rename_i x hx
   cases hq:fitB n x with
   |false=>rw [hq] at hf;cases hf
   |true =>
    rw [hq] at hf;cases hf
    cases hd with
    |cons d1 hd =>
     cases d1
     obtain ⟨us,e,d⟩:=denRow hd
     obtain rfl:=pNode_ok hx d
     rw [e]
     exact (callR_val (vals:=[.int .i64 (.ofNat n),.agg x.vals.toArray]) hmx H3_ok (fitsN n x hq) (.cons (.v _) (.cons (.a (.q (.node x))) .nil)) hg).mono fun e w' ⟨h1,h2⟩=>⟨_,h1,.v _,h2⟩
  ·cases hf
 ·cases hf
end Go.Proofs.YtjboelhcieepkaaGreatDoor
