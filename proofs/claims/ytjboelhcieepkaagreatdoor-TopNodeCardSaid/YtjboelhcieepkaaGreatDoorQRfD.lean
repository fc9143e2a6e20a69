/-
  The nodes of the tree of records and slots; the reference's Node and Root as leaves. (Printed by mkrfd.py.)
-/
import Derived.Test.YtjboelhcieepkaaGreatDoorZ15
namespace Go.Proofs.YtjboelhcieepkaaGreatDoor
set_option maxRecDepth 16384
open Go.RowKit
def lst{α:Type}(n:Nat)(R:Nat→α):List α:=(List.range n).map R
def rL(n:Nat)(R:Nat→VRec):Nat→VRec:=rOf (lst n R)
def bL(n:Nat)(B:Nat→Bool):Nat→Bool:=bOf (lst n B)
noncomputable def rr(n:Nat)(R:Nat→VRec)(i:Nat):VRec:=bif Nat.blt i n then R i else zrec
noncomputable def ee(n:Nat)(E:Nat→VEnt)(lv i:Nat):VEnt:=bif Nat.blt i (cnt n lv) then E (num n lv i) else zent
theorem mod8(i:Nat):i%8≤7:=Nat.le_of_lt_succ (Nat.mod_lt _ (by decide))
noncomputable def ndR(n:Nat)(R:Nat→VRec)(E:Nat→VEnt)(lv ix:Nat):VNode:=match lv with
 |0=>.leaf (ix%8) (rr n R (4*ix)) (rr n R (4*ix+1)) (rr n R (4*ix+2)) (rr n R (4*ix+3)) (mod8 ix)
 |1=>.inner 1 (ix%8) (ee n E 0 (4*ix)) (ee n E 0 (4*ix+1)) (ee n E 0 (4*ix+2)) (ee n E 0 (4*ix+3)) (by decide) (mod8 ix)
 |_=>.inner 2 (ix%8) (ee n E 1 (4*ix)) (ee n E 1 (4*ix+1)) (ee n E 1 (4*ix+2)) (ee n E 1 (4*ix+3)) (by decide) (mod8 ix)
theorem bitN_le(b:Bool):bitN b≤1:=by cases b<;>decide
noncomputable def mkEn(em b:Bool)(l:List Nat):VEnt:=bif em then zent else ⟨bitN b+1,Sh.shaF l,by have:=bitN_le b;omega,fun h=>by omega,shaF_len l,shaF_byt l⟩
noncomputable def en0(n:Nat)(R:Nat→VRec)(B:Nat→Bool)(k:Nat):VEnt:=mkEn (emR R n 0 k) (B (num n 0 k)) (ndR n R (fun _=>zent) 0 k).bytes
noncomputable def en1(n:Nat)(R:Nat→VRec)(B:Nat→Bool)(k:Nat):VEnt:=mkEn (emR R n 1 k) (B (num n 1 k)) (ndR n R (en0 n R B) 1 k).bytes
noncomputable def enF(n:Nat)(R:Nat→VRec)(B:Nat→Bool)(k:Nat):VEnt:=bif Nat.blt k (cnt n 0) then en0 n R B k else en1 n R B (k-cnt n 0)
theorem ee0(n:Nat)(R:Nat→VRec)(B:Nat→Bool)(i:Nat):ee n (enF n R B) 0 i=ee n (en0 n R B) 0 i:=by
 unfold ee
 cases h:Nat.blt i (cnt n 0) with
 |false=>rfl
 |true =>
  have e:num n 0 i=i:=by simp [num]
  simp only [cond_true,e]
  unfold enF
  rw [h]
  rfl
theorem ndR1(n:Nat)(R:Nat→VRec)(B:Nat→Bool)(ix:Nat):ndR n R (enF n R B) 1 ix=ndR n R (en0 n R B) 1 ix:=by
 unfold ndR
 simp only [ee0]
theorem enF_eq(n:Nat)(R:Nat→VRec)(B:Nat→Bool)(lv k:Nat)(hl:lv<2)(hk:k<cnt n lv):enF n R B (num n lv k)=mkEn (emR R n lv k) (B (num n lv k)) (ndR n R (enF n R B) lv k).bytes:=by
 rcases lv with _|_|lv
 ·have e:num n 0 k=k:=by simp [num]
  have hE:enF n R B k=en0 n R B k:=by
   unfold enF
   rw [show Nat.blt k (cnt n 0)=true from by rw [blt_iff];simpa using hk]
   rfl
  rw [e,hE]
  show mkEn (emR R n 0 k) (B (num n 0 k)) (ndR n R (fun _=>zent) 0 k).bytes=_
  rw [e]
  rfl
 ·have e:num n 1 k=cnt n 0+k:=by simp [num]
  have hE:enF n R B (cnt n 0+k)=en1 n R B k:=by
   unfold enF
   rw [show Nat.blt (cnt n 0+k) (cnt n 0)=false from by rw [blt_iff];simp,Nat.add_sub_cancel_left]
   rfl
  rw [e,hE]
  show mkEn (emR R n 1 k) (B (num n 1 k)) (ndR n R (en0 n R B) 1 k).bytes=_
  rw [e,ndR1]
 ·omega
noncomputable def recQ(n:Nat)(R:Nat→VRec)(i:Nat)(ps:List (Rp SV)):List (Rp SV):=bif Nat.blt i n then .q (.rcd (R i))::ps else zRp ps
def wexp(b:Bool):Int:=IntKind.u8.wrap (IntKind.i64.wrap ((bitN b:Int)+1))
theorem wexp_eq(b:Bool):wexp b=((bitN b+1:Nat):Int):=by cases b<;>rfl
noncomputable def entQ(x b:Bool)(l:List Nat)(ps:List (Rp SV)):List (Rp SV):=bif x then .one (.v (.int .u8 (wexp b)))::.q (.sha l)::ps else zEp ps
section
variable {r:List Loc}
theorem recQ_inv{n:Nat}{R:Nat→VRec}{i:Nat}{ps:List (Rp SV)}{us:List Value}(h:DenF r (recQ n R i ps) us):∃us',us=(rr n R i).vals++us'∧DenF r ps us':=by
 unfold recQ at h
 unfold rr
 cases hb:Nat.blt i n with
 |false=>rw [hb] at h;exact zRp_inv h
 |true =>
  rw [hb] at h
  have h':DenF r (.q (.rcd (R i))::ps) us:=h
  cases h' with|cons h1 t=>cases h1;exact ⟨_,rfl,t⟩
theorem entQ_inv{x b:Bool}{l:List Nat}{ps:List (Rp SV)}{us:List Value}(h:DenF r (entQ x b l ps) us):∃us',us=(mkEn (!x) b l).vals++us'∧DenF r ps us':=by
 cases x with
 |false=>exact zEp_inv h
 |true =>
  have h':DenF r (.one (.v (.int .u8 (wexp b)))::.q (.sha l)::ps) us:=h
  cases h' with|cons h1 t=>cases t with|cons h2 t =>
   cases h2
   rw [one_inv h1,wexp_eq]
   refine ⟨_,?_,t⟩
   simp [mkEn,VEnt.vals,At.vals]
end
noncomputable def hpN(n m:Nat)(R:Nat→VRec)(B:Nat→Bool):Tr:=(Tre.e.put 0 ⟨61,ropeR n R,2⟩).put 1 ⟨3,ropeB m B,2⟩
noncomputable def ndE(n lv ix:Nat)(p:List Bool):List Ev:=bif Nat.beq lv 0 then [] else (List.range (prts n lv ix)).map fun w=>.b (p.getD w false)
noncomputable def ndO(n lv ix:Nat)(p:List Bool)(R:Nat→VRec):List Ob:=bif Nat.beq lv 0 then [] else (List.range (prts n lv ix)).map fun w=>.t (!(emR (rL n R) n (lv-1) (4*ix+w))) (p.getD w false)
noncomputable def ndX(H:Hk)(n lv ix c d:Nat)(p:List Bool)(R:Nat→VRec)(B:Nat→Bool):Pos×List Ob:=evRun ⟨[46],[],0⟩ H Xt 12 (ndE n lv ix p) (evPos Xt 40 [.s 0 0 n c,.s 1 0 (tot n) d,i64v lv,i64v ix] (hpN n (tot n) R B) 2)
noncomputable def rowP(x:Option (SV×St)):List (Rp SV):=match x with
 |some (.a c,_)=>rbare c []
 |_=>[]
noncomputable def ndRun(H:Hk)(n lv c d:Nat)(R:Nat→VRec)(B:Nat→Bool)(q:Nat×List Bool):List (Rp SV)×List Ob:=(rowP (finP Xt 40 (ndX H n lv q.1 c d q.2 R B).1),(ndX H n lv q.1 c d q.2 R B).2)
noncomputable def entW(n lv ix:Nat)(R:Nat→VRec)(B:Nat→Bool)(p:List Bool)(w:Nat)(ps:List (Rp SV)):List (Rp SV) :=
 entQ (Nat.blt w (prts n lv ix)&&p.getD w false) (B (num n (lv-1) (4*ix+w))) (ndR n (rL n R) (enF n (rL n R) (bL (tot n) B)) (lv-1) (4*ix+w)).bytes ps
noncomputable def ndQ(n lv ix:Nat)(R:Nat→VRec)(B:Nat→Bool)(p:List Bool):List (Rp SV):=.one (.v (.int .u8 (lv:Int)))::.one (.v (.int .u32 (ix:Int))) ::
 (bif Nat.beq lv 0 then recQ n R (4*ix) (recQ n R (4*ix+1) (recQ n R (4*ix+2) (recQ n R (4*ix+3) (zEp (zEp (zEp (zEp [])))))))
  else zRp (zRp (zRp (zRp (entW n lv ix R B p 0 (entW n lv ix R B p 1 (entW n lv ix R B p 2 (entW n lv ix R B p 3 []))))))))
noncomputable def ndExp(n lv:Nat)(R:Nat→VRec)(B:Nat→Bool)(q:Nat×List Bool):List (Rp SV)×List Ob:=(ndQ n lv q.1 R B q.2,ndO n lv q.1 q.2 R)
def allP:Nat→List (List Bool)
 |0=>[[]]
 |k+1=>(allP k).flatMap fun l=>[true::l,false::l]
theorem mem_allP:∀{k:Nat} {l:List Bool},l.length=k→l∈allP k
 |0,l,h=>by rw [List.length_eq_zero_iff.1 h];simp [allP]
 |k+1,[],h=>by cases h
 |k+1,b::l,h=>by
  simp only [allP,List.mem_flatMap]
  exact ⟨l,mem_allP (by simpa using h),by cases b<;>simp⟩
def ndDom(n lv:Nat):List (Nat×List Bool):=(List.range (cnt n lv)).flatMap fun ix=>(allP (bif Nat.beq lv 0 then 0 else prts n lv ix)).map fun p=>(ix,p)
noncomputable def lNod(k:Nat):Leaf:=fun args hp nx=>match args with
 |[x,y,.v (.int .i64 (.ofNat lv)),.v (.int .i64 (.ofNat ix))]=>(match slcR hp x,slcB hp y with
  |some xs,some bs=>bif Nat.ble xs.length 20&&(Nat.beq bs.length (tot xs.length)&&(Nat.blt lv k&&Nat.blt ix (cnt xs.length lv))) then some (.a (.q (.node (ndR xs.length (rOf xs) (enF xs.length (rOf xs) (bOf bs)) lv ix))),⟨⟨.e,0⟩,hp,nx⟩) else none
  |_,_=>none)
 |_=>none
def NdOk(lv:Nat):Prop:=∀(n ix c d g o g2 o2:Nat) (R:Nat→VRec) (B:Nat→Bool) (w:World),1≤n→n≤20→ix<cnt n lv→GlobOk Xt w→Reads w w.heap.size 35 (some ⟨g,o,none⟩) n (valsR n R)→Reads w w.heap.size 1 (some ⟨g2,o2,none⟩) (tot n) (valsB (tot n) B) →
 Calls Xt.P 40 #[.slice (some ⟨g,o,none⟩) n c,.slice (some ⟨g2,o2,none⟩) (tot n) d,.int .i64 (lv:Int),.int .i64 (ix:Int)] w fun e w'=>e=.returned (.agg (ndR n (rL n R) (enF n (rL n R) (bL (tot n) B)) lv ix).vals.toArray)∧Below w.heap.size w w'
theorem lst_self{α:Type}(xs:List α)(z:α):lst xs.length (fun i=>xs.getD i z)=xs:=by
 apply List.ext_getElem?
 intro i
 unfold lst
 rw [List.getElem?_map]
 by_cases hi:i<xs.length
 ·rw [List.getElem?_range hi];simp [hi]
 ·rw [List.getElem?_eq_none (by simpa using hi),List.getElem?_eq_none (by omega)];rfl
theorem rL_of(xs:List VRec):rL xs.length (rOf xs)=rOf xs:=by unfold rL;rw [show lst xs.length (rOf xs)=xs from lst_self xs zrec]
theorem bL_of(xs:List Bool):bL xs.length (bOf xs)=bOf xs:=by unfold bL;rw [show lst xs.length (bOf xs)=xs from lst_self xs false]
theorem nod_leaf{k:Nat}(hk:∀lv,lv<k→NdOk lv):LeafOk Xt 40 (lNod k):=by
 intro args hp nx res st hl E r vals w hE ha hm
 have hgl:GlobOk Xt w:=hE▸hm.globs
 unfold lNod at hl
 split at hl
 ·rename_i x y lv ix
  split at hl
  ·rename_i xs bs hx hy
   cases hq:Nat.ble xs.length 20&&(Nat.beq bs.length (tot xs.length)&&(Nat.blt lv k&&Nat.blt ix (cnt xs.length lv))) with
   |false=>rw [hq] at hl;cases hl
   |true =>
    rw [hq] at hl;cases hl
    simp only [Bool.and_eq_true,ble_iff,beq_iff,blt_iff,decide_eq_true_eq] at hq
    obtain ⟨h20,hb,hlv,hix⟩:=hq
    cases ha with|cons d1 t=>cases t with|cons d2 t=>cases t with|cons d3 t=>cases t with|cons d4 t =>
     cases t;cases d3;cases d4
     obtain ⟨h0,g,o,c,rfl,hr⟩:=slcR_ok hm d1 hx
     obtain ⟨h02,g2,o2,d,rfl,hr2⟩:=slcB_ok hm d2 hy
     have hc:=hk lv hlv xs.length ix c d g o g2 o2 (rOf xs) (bOf bs) w h0 h20 hix hgl hr (hb▸hr2)
     rw [rL_of,←hb,bL_of] at hc
     exact ⟨fun w'=>enters (by kernel_rfl) _ w',hc.mono fun e w' ⟨h1,h2⟩=>⟨[],_,h1,.a (.q _),by simpa using hm.grow h2⟩⟩
  ·cases hl
 ·cases hl
theorem getD_map{f:Nat→Bool}{k w:Nat}(h:w<k):((List.range k).map f).getD w false=f w:=by
 rw [List.getD_eq_getElem?_getD,List.getElem?_map,List.getElem?_range h]
 rfl
theorem ent_of{n lv ix:Nat}{R:Nat→VRec}{B:Nat→Bool}{p:List Bool}{w:Nat}{r:List Loc}{ps:List (Rp SV)}{us:List Value}(hl:1≤lv∧lv≤2)(hp:w<prts n lv ix→p.getD w false=!(emR (rL n R) n (lv-1) (4*ix+w)))(hw:w<4)(hnum:w<prts n lv ix→num n (lv-1) (4*ix+w)<tot n)
 (h:DenF r (entW n lv ix R B p w ps) us):∃us',us=(ee n (enF n (rL n R) (bL (tot n) B)) (lv-1) (4*ix+w)).vals++us'∧DenF r ps us':=by
 obtain ⟨us',e,h'⟩:=entQ_inv h
 refine ⟨us',?_,h'⟩
 rw [e]
 congr 2
 unfold ee
 have hc:cnt n (lv-1)=(if lv=0 then n else cnt n (lv-1)):=by rw [if_neg (by omega)]
 by_cases hlt:w<prts n lv ix
 ·have h1:4*ix+w<cnt n (lv-1):=by unfold prts at hlt;rw [←hc] at hlt;omega
  rw [show Nat.blt w (prts n lv ix)=true from by rw [blt_iff];simpa using hlt,show Nat.blt (4*ix+w) (cnt n (lv-1))=true from by rw [blt_iff];simpa using h1]
  simp only [Bool.true_and,cond_true]
  rw [hp hlt,Bool.not_not,enF_eq _ _ _ _ _ (by omega) h1]
  congr 1
  unfold bL bOf lst
  rw [getD_map (hnum hlt)]
 ·have h1:¬ 4*ix+w<cnt n (lv-1):=by unfold prts at hlt;rw [←hc] at hlt;omega
  rw [show Nat.blt w (prts n lv ix)=false from by rw [blt_iff];simpa using hlt,show Nat.blt (4*ix+w) (cnt n (lv-1))=false from by rw [blt_iff];simpa using h1]
  rfl
theorem num_all:(lt2 20 fun _n=>3).map (fun q=>(List.range (cnt (q.1+1) q.2)).all fun i=>Nat.blt (num (q.1+1) q.2 i) (tot (q.1+1)))=(lt2 20 fun _n=>3).map (fun _=>true):=by decide
theorem num_lt{n lv i:Nat}(h1:1≤n)(h2:n≤20)(hl:lv<3)(hi:i<cnt n lv):num n lv i<tot n:=by
 obtain ⟨m,rfl⟩:∃m,n=m+1:=⟨n-1,by omega⟩
 have:=all_of num_all (mem_lt2 (f:=fun _=>3) (show m<20 by omega) hl)
 simp only [List.all_eq_true,List.mem_range,blt_iff,decide_eq_true_eq] at this
 exact this i hi
theorem cnt_all:(lt2 20 fun _n=>3).map (fun q=>Nat.ble (cnt (q.1+1) q.2) 8)=(lt2 20 fun _n=>3).map (fun _=>true):=by decide
theorem cnt_le{n lv:Nat}(h1:1≤n)(h2:n≤20)(hl:lv<3):cnt n lv≤8:=by
 obtain ⟨m,rfl⟩:∃m,n=m+1:=⟨n-1,by omega⟩
 have:=all_of cnt_all (mem_lt2 (f:=fun _=>3) (show m<20 by omega) hl)
 simpa [ble_iff] using this
theorem ndQ_ok{n lv ix:Nat}{R:Nat→VRec}{B:Nat→Bool}{p:List Bool}{r:List Loc}{us:List Value}(h1:1≤n)(h2:n≤20)(hl:lv<3)(hi:ix<cnt n lv)(hp:1≤lv→∀w,w<prts n lv ix→p.getD w false=!(emR (rL n R) n (lv-1) (4*ix+w)))
 (h:DenF r (ndQ n lv ix R B p) us):us=(ndR n (rL n R) (enF n (rL n R) (bL (tot n) B)) lv ix).vals:=by
 have h8:=cnt_le h1 h2 hl
 have h7:ix%8=ix:=Nat.mod_eq_of_lt (by omega)
 cases h with|cons d1 h=>cases h with|cons d2 h =>
  rw [one_inv d1,one_inv d2]
  rcases lv with _|lv
  ·have h':DenF r (recQ n R (4*ix) (recQ n R (4*ix+1) (recQ n R (4*ix+2) (recQ n R (4*ix+3) (zEp (zEp (zEp (zEp [])))))))) _:=h
   obtain ⟨u1,e1,h'⟩:=recQ_inv h'
   obtain ⟨u2,e2,h'⟩:=recQ_inv h'
   obtain ⟨u3,e3,h'⟩:=recQ_inv h'
   obtain ⟨u4,e4,h'⟩:=recQ_inv h'
   obtain ⟨v1,f1,h'⟩:=zEp_inv h'
   obtain ⟨v2,f2,h'⟩:=zEp_inv h'
   obtain ⟨v3,f3,h'⟩:=zEp_inv h'
   obtain ⟨v4,f4,h'⟩:=zEp_inv h'
   cases h'
   have er:∀i,rr n (rL n R) i=rr n R i:=by
    intro i
    unfold rr
    cases hb:Nat.blt i n with
    |false=>rfl
    |true =>
     rw [blt_iff,decide_eq_true_eq] at hb
     simp only [cond_true]
     unfold rL rOf lst
     rw [List.getD_eq_getElem?_getD,List.getElem?_map,List.getElem?_range hb]
     rfl
   rw [e1,e2,e3,e4,f1,f2,f3,f4]
   simp only [ndR,er,VNode.vals,r4v,e4v,h7]
   simp
  ·have h':DenF r (zRp (zRp (zRp (zRp (entW n (lv+1) ix R B p 0 (entW n (lv+1) ix R B p 1 (entW n (lv+1) ix R B p 2 (entW n (lv+1) ix R B p 3 [])))))))) _:=h
   obtain ⟨u1,e1,h'⟩:=zRp_inv h'
   obtain ⟨u2,e2,h'⟩:=zRp_inv h'
   obtain ⟨u3,e3,h'⟩:=zRp_inv h'
   obtain ⟨u4,e4,h'⟩:=zRp_inv h'
   have hl2:1≤lv+1∧lv+1≤2:=by omega
   have hn:∀w,w<prts n (lv+1) ix→num n (lv+1-1) (4*ix+w)<tot n:=fun w hw=>num_lt h1 h2 (by omega) (by
    unfold prts at hw
    rw [if_neg (by omega)] at hw
    omega)
   obtain ⟨v1,f1,h'⟩:=ent_of hl2 (hp (by omega) 0) (by decide) (hn 0) h'
   obtain ⟨v2,f2,h'⟩:=ent_of hl2 (hp (by omega) 1) (by decide) (hn 1) h'
   obtain ⟨v3,f3,h'⟩:=ent_of hl2 (hp (by omega) 2) (by decide) (hn 2) h'
   obtain ⟨v4,f4,h'⟩:=ent_of hl2 (hp (by omega) 3) (by decide) (hn 3) h'
   cases h'
   rw [e1,e2,e3,e4,f1,f2,f3,f4]
   rcases lv with _|_|lv
   ·simp only [ndR,VNode.vals,r4v,e4v,h7]
    simp
   ·simp only [ndR,VNode.vals,r4v,e4v,h7]
    simp
   ·omega
theorem nd_ok{H:Hk}(hH:HkOk Xt H){lv:Nat}(hl:lv<3)(hrun:∀n,1≤n→n≤20→∀c d R B,(ndDom n lv).map (ndRun H n lv c d R B)=(ndDom n lv).map (ndExp n lv R B)):NdOk lv:=by
 intro n ix c d g o g2 o2 R B w h1 h20 hi hg hr hr2
 obtain ⟨p,hp⟩:∃p:List Bool,p=(List.range (bif Nat.beq lv 0 then 0 else prts n lv ix)).map fun w=>!(emR (rL n R) n (lv-1) (4*ix+w)):=⟨_,rfl⟩
 have hpd:1≤lv→∀w,w<prts n lv ix→p.getD w false=!(emR (rL n R) n (lv-1) (4*ix+w)):=by
  intro h w hw
  rw [hp,show Nat.beq lv 0=false from by rw [beq_iff];simp;omega]
  exact getD_map hw
 have hmem:(ix,p)∈ndDom n lv:=by
  simp only [ndDom,List.mem_flatMap,List.mem_range,List.mem_map]
  exact ⟨ix,hi,p,mem_allP (by rw [hp];simp),rfl⟩
 have h:=all_of (hrun n h1 h20 c d R B) hmem
 unfold ndRun ndExp at h
 simp only [Prod.mk.injEq] at h
 obtain ⟨h2,h3⟩:=h
 have htot:0<tot n:=by have:=num_lt (n:=n) (lv:=0) (i:=0) h1 h20 (by omega) (by unfold cnt;omega);omega
 have hm1:Mem (E0 Xt w) ([]++[⟨g,o,c,none,fun _=>False⟩]) _ 1 w:=(Mem.start Xt w hg).addR (c:=c) (T:=61) AllF.start hr (by omega) (Nat.le_refl _) (Nat.le_refl _) (ropeR_ok n R)
 have hm:Mem (E0 Xt w) ([⟨g,o,c,none,fun _=>False⟩]++[⟨g2,o2,d,none,fun _=>False⟩]) (hpN n (tot n) R B) 2 w:=hm1.addR (c:=d) (T:=3) (AllF.start.put _ _ _) hr2 htot (Nat.le_refl _) (Nat.le_refl _) (ropeB_ok (tot n) B)
 unfold rowP at h2
 split at h2
 ·rename_i cc st hfin
  refine (evCall_ok (E:=E0 Xt w) (vals:=[.slice (some ⟨g,o,none⟩) n c,.slice (some ⟨g2,o2,none⟩) (tot n) d,.int .i64 (lv:Int),.int .i64 (ix:Int)]) hmx hH hfin ?_ ?_ hm).mono ?_
  ·intro ob hob
   have hob':ob∈(ndX H n lv ix c d p R B).2:=hob
   rw [h3] at hob'
   unfold ndO at hob'
   rcases lv with _|lv
   ·cases hob'
   ·have hob2:ob∈(List.range (prts n (lv+1) ix)).map fun w=>Ob.t (!(emR (rL n R) n (lv+1-1) (4*ix+w))) (p.getD w false):=hob'
    rw [List.mem_map] at hob2
    obtain ⟨w',hw',rfl⟩:=hob2
    rw [List.mem_range] at hw'
    show (!(emR (rL n R) n (lv+1-1) (4*ix+w')))=p.getD w' false
    rw [hpd (by omega) w' hw']
  ·exact .cons (.s (L:=⟨g,o,c,none,fun _=>False⟩) (o:=0) rfl) (.cons (.s (L:=⟨g2,o2,d,none,fun _=>False⟩) (o:=0) rfl) (.cons (.v _) (.cons (.v _) .nil)))
  ·rintro e w' ⟨q,v,he,hd,hm'⟩
   cases hd with|a hd =>
    have hf:=rbare_ok _ hd
    rw [h2] at hf
    have:=ndQ_ok h1 h20 hl hi hpd hf
    subst this
    exact ⟨he,hm'.below⟩
 ·exfalso
  unfold ndQ at h2
  cases h2
noncomputable def tabN0:List (FuncId×Leaf):=(38,lEmp)::tabE
theorem tabN0_ok:∀p∈tabN0,LeafOk Xt p.1 p.2:=by
 intro p hp
 rcases List.mem_cons.1 hp with rfl|hp
 ·exact emp_leaf
 ·exact tabE_ok p hp
noncomputable def HN0:Hk:=hkD Xt (leafTab tabN0) 14 6
theorem HN0_ok:HkOk Xt HN0:=hkT_ok hmx tabN0_ok 6
theorem nd0_1(c d:Nat)(R:Nat→VRec)(B:Nat→Bool):(ndDom 1 0).map (ndRun HN0 1 0 c d R B)=(ndDom 1 0).map (ndExp 1 0 R B):=by kernel_rfl
theorem nd0_2(c d:Nat)(R:Nat→VRec)(B:Nat→Bool):(ndDom 2 0).map (ndRun HN0 2 0 c d R B)=(ndDom 2 0).map (ndExp 2 0 R B):=by kernel_rfl
theorem nd0_3(c d:Nat)(R:Nat→VRec)(B:Nat→Bool):(ndDom 3 0).map (ndRun HN0 3 0 c d R B)=(ndDom 3 0).map (ndExp 3 0 R B):=by kernel_rfl
theorem nd0_4(c d:Nat)(R:Nat→VRec)(B:Nat→Bool):(ndDom 4 0).map (ndRun HN0 4 0 c d R B)=(ndDom 4 0).map (ndExp 4 0 R B):=by kernel_rfl
theorem nd0_5(c d:Nat)(R:Nat→VRec)(B:Nat→Bool):(ndDom 5 0).map (ndRun HN0 5 0 c d R B)=(ndDom 5 0).map (ndExp 5 0 R B):=by kernel_rfl
theorem nd0_6(c d:Nat)(R:Nat→VRec)(B:Nat→Bool):(ndDom 6 0).map (ndRun HN0 6 0 c d R B)=(ndDom 6 0).map (ndExp 6 0 R B):=by kernel_rfl
theorem nd0_7(c d:Nat)(R:Nat→VRec)(B:Nat→Bool):(ndDom 7 0).map (ndRun HN0 7 0 c d R B)=(ndDom 7 0).map (ndExp 7 0 R B):=by kernel_rfl
theorem nd0_8(c d:Nat)(R:Nat→VRec)(B:Nat→Bool):(ndDom 8 0).map (ndRun HN0 8 0 c d R B)=(ndDom 8 0).map (ndExp 8 0 R B):=by kernel_rfl
theorem nd0_9(c d:Nat)(R:Nat→VRec)(B:Nat→Bool):(ndDom 9 0).map (ndRun HN0 9 0 c d R B)=(ndDom 9 0).map (ndExp 9 0 R B):=by kernel_rfl
theorem nd0_10(c d:Nat)(R:Nat→VRec)(B:Nat→Bool):(ndDom 10 0).map (ndRun HN0 10 0 c d R B)=(ndDom 10 0).map (ndExp 10 0 R B):=by kernel_rfl
theorem nd0_11(c d:Nat)(R:Nat→VRec)(B:Nat→Bool):(ndDom 11 0).map (ndRun HN0 11 0 c d R B)=(ndDom 11 0).map (ndExp 11 0 R B):=by kernel_rfl
theorem nd0_12(c d:Nat)(R:Nat→VRec)(B:Nat→Bool):(ndDom 12 0).map (ndRun HN0 12 0 c d R B)=(ndDom 12 0).map (ndExp 12 0 R B):=by kernel_rfl
theorem nd0_13(c d:Nat)(R:Nat→VRec)(B:Nat→Bool):(ndDom 13 0).map (ndRun HN0 13 0 c d R B)=(ndDom 13 0).map (ndExp 13 0 R B):=by kernel_rfl
theorem nd0_14(c d:Nat)(R:Nat→VRec)(B:Nat→Bool):(ndDom 14 0).map (ndRun HN0 14 0 c d R B)=(ndDom 14 0).map (ndExp 14 0 R B):=by kernel_rfl
theorem nd0_15(c d:Nat)(R:Nat→VRec)(B:Nat→Bool):(ndDom 15 0).map (ndRun HN0 15 0 c d R B)=(ndDom 15 0).map (ndExp 15 0 R B):=by kernel_rfl
theorem nd0_16(c d:Nat)(R:Nat→VRec)(B:Nat→Bool):(ndDom 16 0).map (ndRun HN0 16 0 c d R B)=(ndDom 16 0).map (ndExp 16 0 R B):=by kernel_rfl
theorem nd0_17(c d:Nat)(R:Nat→VRec)(B:Nat→Bool):(ndDom 17 0).map (ndRun HN0 17 0 c d R B)=(ndDom 17 0).map (ndExp 17 0 R B):=by kernel_rfl
theorem nd0_18(c d:Nat)(R:Nat→VRec)(B:Nat→Bool):(ndDom 18 0).map (ndRun HN0 18 0 c d R B)=(ndDom 18 0).map (ndExp 18 0 R B):=by kernel_rfl
theorem nd0_19(c d:Nat)(R:Nat→VRec)(B:Nat→Bool):(ndDom 19 0).map (ndRun HN0 19 0 c d R B)=(ndDom 19 0).map (ndExp 19 0 R B):=by kernel_rfl
theorem nd0_20(c d:Nat)(R:Nat→VRec)(B:Nat→Bool):(ndDom 20 0).map (ndRun HN0 20 0 c d R B)=(ndDom 20 0).map (ndExp 20 0 R B):=by kernel_rfl
theorem nd0_any:∀n,1≤n→n≤20→∀c d R B,(ndDom n 0).map (ndRun HN0 n 0 c d R B)=(ndDom n 0).map (ndExp n 0 R B)
 |1,_,_=>nd0_1
 |2,_,_=>nd0_2
 |3,_,_=>nd0_3
 |4,_,_=>nd0_4
 |5,_,_=>nd0_5
 |6,_,_=>nd0_6
 |7,_,_=>nd0_7
 |8,_,_=>nd0_8
 |9,_,_=>nd0_9
 |10,_,_=>nd0_10
 |11,_,_=>nd0_11
 |12,_,_=>nd0_12
 |13,_,_=>nd0_13
 |14,_,_=>nd0_14
 |15,_,_=>nd0_15
 |16,_,_=>nd0_16
 |17,_,_=>nd0_17
 |18,_,_=>nd0_18
 |19,_,_=>nd0_19
 |20,_,_=>nd0_20
 |n+21,_,h=>absurd h (by omega)
 |0,h,_=>absurd h (by omega)
theorem nd0:NdOk 0:=nd_ok HN0_ok (by decide) nd0_any
noncomputable def tabN1:List (FuncId×Leaf):=(38,lEmp)::(40,lNod 1)::tabE
theorem tabN1_ok:∀p∈tabN1,LeafOk Xt p.1 p.2:=by
 intro p hp
 rcases List.mem_cons.1 hp with rfl|hp
 ·exact emp_leaf
 ·rcases List.mem_cons.1 hp with rfl|hp
  ·exact nod_leaf fun l hl=>by
    obtain rfl:l=0:=by omega
    exact nd0
  ·exact tabE_ok p hp
noncomputable def HN1:Hk:=hkD Xt (leafTab tabN1) 14 6
theorem HN1_ok:HkOk Xt HN1:=hkT_ok hmx tabN1_ok 6
theorem nd1_5(c d:Nat)(R:Nat→VRec)(B:Nat→Bool):(ndDom 5 1).map (ndRun HN1 5 1 c d R B)=(ndDom 5 1).map (ndExp 5 1 R B):=by kernel_rfl
theorem nd1_6(c d:Nat)(R:Nat→VRec)(B:Nat→Bool):(ndDom 6 1).map (ndRun HN1 6 1 c d R B)=(ndDom 6 1).map (ndExp 6 1 R B):=by kernel_rfl
theorem nd1_7(c d:Nat)(R:Nat→VRec)(B:Nat→Bool):(ndDom 7 1).map (ndRun HN1 7 1 c d R B)=(ndDom 7 1).map (ndExp 7 1 R B):=by kernel_rfl
theorem nd1_8(c d:Nat)(R:Nat→VRec)(B:Nat→Bool):(ndDom 8 1).map (ndRun HN1 8 1 c d R B)=(ndDom 8 1).map (ndExp 8 1 R B):=by kernel_rfl
theorem nd1_9(c d:Nat)(R:Nat→VRec)(B:Nat→Bool):(ndDom 9 1).map (ndRun HN1 9 1 c d R B)=(ndDom 9 1).map (ndExp 9 1 R B):=by kernel_rfl
theorem nd1_10(c d:Nat)(R:Nat→VRec)(B:Nat→Bool):(ndDom 10 1).map (ndRun HN1 10 1 c d R B)=(ndDom 10 1).map (ndExp 10 1 R B):=by kernel_rfl
theorem nd1_11(c d:Nat)(R:Nat→VRec)(B:Nat→Bool):(ndDom 11 1).map (ndRun HN1 11 1 c d R B)=(ndDom 11 1).map (ndExp 11 1 R B):=by kernel_rfl
theorem nd1_12(c d:Nat)(R:Nat→VRec)(B:Nat→Bool):(ndDom 12 1).map (ndRun HN1 12 1 c d R B)=(ndDom 12 1).map (ndExp 12 1 R B):=by kernel_rfl
theorem nd1_13(c d:Nat)(R:Nat→VRec)(B:Nat→Bool):(ndDom 13 1).map (ndRun HN1 13 1 c d R B)=(ndDom 13 1).map (ndExp 13 1 R B):=by kernel_rfl
theorem nd1_14(c d:Nat)(R:Nat→VRec)(B:Nat→Bool):(ndDom 14 1).map (ndRun HN1 14 1 c d R B)=(ndDom 14 1).map (ndExp 14 1 R B):=by kernel_rfl
theorem nd1_15(c d:Nat)(R:Nat→VRec)(B:Nat→Bool):(ndDom 15 1).map (ndRun HN1 15 1 c d R B)=(ndDom 15 1).map (ndExp 15 1 R B):=by kernel_rfl
theorem nd1_16(c d:Nat)(R:Nat→VRec)(B:Nat→Bool):(ndDom 16 1).map (ndRun HN1 16 1 c d R B)=(ndDom 16 1).map (ndExp 16 1 R B):=by kernel_rfl
theorem nd1_17(c d:Nat)(R:Nat→VRec)(B:Nat→Bool):(ndDom 17 1).map (ndRun HN1 17 1 c d R B)=(ndDom 17 1).map (ndExp 17 1 R B):=by kernel_rfl
theorem nd1_18(c d:Nat)(R:Nat→VRec)(B:Nat→Bool):(ndDom 18 1).map (ndRun HN1 18 1 c d R B)=(ndDom 18 1).map (ndExp 18 1 R B):=by kernel_rfl
theorem nd1_19(c d:Nat)(R:Nat→VRec)(B:Nat→Bool):(ndDom 19 1).map (ndRun HN1 19 1 c d R B)=(ndDom 19 1).map (ndExp 19 1 R B):=by kernel_rfl
theorem nd1_20(c d:Nat)(R:Nat→VRec)(B:Nat→Bool):(ndDom 20 1).map (ndRun HN1 20 1 c d R B)=(ndDom 20 1).map (ndExp 20 1 R B):=by kernel_rfl
theorem nd1_any:∀n,1≤n→n≤20→∀c d R B,(ndDom n 1).map (ndRun HN1 n 1 c d R B)=(ndDom n 1).map (ndExp n 1 R B)
 |1,_,_=>fun _ _ _ _=>rfl
 |2,_,_=>fun _ _ _ _=>rfl
 |3,_,_=>fun _ _ _ _=>rfl
 |4,_,_=>fun _ _ _ _=>rfl
 |5,_,_=>nd1_5
 |6,_,_=>nd1_6
 |7,_,_=>nd1_7
 |8,_,_=>nd1_8
 |9,_,_=>nd1_9
 |10,_,_=>nd1_10
 |11,_,_=>nd1_11
 |12,_,_=>nd1_12
 |13,_,_=>nd1_13
 |14,_,_=>nd1_14
 |15,_,_=>nd1_15
 |16,_,_=>nd1_16
 |17,_,_=>nd1_17
 |18,_,_=>nd1_18
 |19,_,_=>nd1_19
 |20,_,_=>nd1_20
 |n+21,_,h=>absurd h (by omega)
 |0,h,_=>absurd h (by omega)
theorem nd1:NdOk 1:=nd_ok HN1_ok (by decide) nd1_any
noncomputable def tabN2:List (FuncId×Leaf):=(38,lEmp)::(40,lNod 2)::tabE
theorem tabN2_ok:∀p∈tabN2,LeafOk Xt p.1 p.2:=by
 intro p hp
 rcases List.mem_cons.1 hp with rfl|hp
 ·exact emp_leaf
 ·rcases List.mem_cons.1 hp with rfl|hp
  ·exact nod_leaf fun l hl=>by
    rcases l with _|_|_|l
    ·exact nd0
    ·exact nd1
    ·omega
    ·omega
  ·exact tabE_ok p hp
noncomputable def HN2:Hk:=hkD Xt (leafTab tabN2) 14 6
theorem HN2_ok:HkOk Xt HN2:=hkT_ok hmx tabN2_ok 6
theorem nd2_17(c d:Nat)(R:Nat→VRec)(B:Nat→Bool):(ndDom 17 2).map (ndRun HN2 17 2 c d R B)=(ndDom 17 2).map (ndExp 17 2 R B):=by kernel_rfl
theorem nd2_18(c d:Nat)(R:Nat→VRec)(B:Nat→Bool):(ndDom 18 2).map (ndRun HN2 18 2 c d R B)=(ndDom 18 2).map (ndExp 18 2 R B):=by kernel_rfl
theorem nd2_19(c d:Nat)(R:Nat→VRec)(B:Nat→Bool):(ndDom 19 2).map (ndRun HN2 19 2 c d R B)=(ndDom 19 2).map (ndExp 19 2 R B):=by kernel_rfl
theorem nd2_20(c d:Nat)(R:Nat→VRec)(B:Nat→Bool):(ndDom 20 2).map (ndRun HN2 20 2 c d R B)=(ndDom 20 2).map (ndExp 20 2 R B):=by kernel_rfl
theorem nd2_any:∀n,1≤n→n≤20→∀c d R B,(ndDom n 2).map (ndRun HN2 n 2 c d R B)=(ndDom n 2).map (ndExp n 2 R B)
 |1,_,_=>fun _ _ _ _=>rfl
 |2,_,_=>fun _ _ _ _=>rfl
 |3,_,_=>fun _ _ _ _=>rfl
 |4,_,_=>fun _ _ _ _=>rfl
 |5,_,_=>fun _ _ _ _=>rfl
 |6,_,_=>fun _ _ _ _=>rfl
 |7,_,_=>fun _ _ _ _=>rfl
 |8,_,_=>fun _ _ _ _=>rfl
 |9,_,_=>fun _ _ _ _=>rfl
 |10,_,_=>fun _ _ _ _=>rfl
 |11,_,_=>fun _ _ _ _=>rfl
 |12,_,_=>fun _ _ _ _=>rfl
 |13,_,_=>fun _ _ _ _=>rfl
 |14,_,_=>fun _ _ _ _=>rfl
 |15,_,_=>fun _ _ _ _=>rfl
 |16,_,_=>fun _ _ _ _=>rfl
 |17,_,_=>nd2_17
 |18,_,_=>nd2_18
 |19,_,_=>nd2_19
 |20,_,_=>nd2_20
 |n+21,_,h=>absurd h (by omega)
 |0,h,_=>absurd h (by omega)
theorem nd2:NdOk 2:=nd_ok HN2_ok (by decide) nd2_any
noncomputable def tabN3:List (FuncId×Leaf):=(38,lEmp)::(40,lNod 3)::tabE
theorem tabN3_ok:∀p∈tabN3,LeafOk Xt p.1 p.2:=by
 intro p hp
 rcases List.mem_cons.1 hp with rfl|hp
 ·exact emp_leaf
 ·rcases List.mem_cons.1 hp with rfl|hp
  ·exact nod_leaf fun l hl=>by
    rcases l with _|_|_|l
    ·exact nd0
    ·exact nd1
    ·exact nd2
    ·omega
  ·exact tabE_ok p hp
noncomputable def HN3:Hk:=hkD Xt (leafTab tabN3) 14 6
theorem HN3_ok:HkOk Xt HN3:=hkT_ok hmx tabN3_ok 6
end Go.Proofs.YtjboelhcieepkaaGreatDoor
