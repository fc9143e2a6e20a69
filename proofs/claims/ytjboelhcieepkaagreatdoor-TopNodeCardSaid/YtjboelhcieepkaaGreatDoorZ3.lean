/-
  SHA-256 again, in a form whose numbers the kernel has at hand.
-/
import Derived.Test.YtjboelhcieepkaaGreatDoorZ2
namespace Go.Proofs.YtjboelhcieepkaaGreatDoor.Sh
set_option maxRecDepth 16384
noncomputable def frc{α:Type}(n:Nat)(f:Nat→α):α:=Nat.rec (motive:=fun _=>α) (f 0) (fun m _=>f (m+1)) n
theorem frc_eq{α:Type}(n:Nat)(f:Nat→α):frc n f=f n:=by cases n<;>rfl
noncomputable def sg0R(x:Nat):Nat:=(Nat.xor (Nat.xor (Nat.lor (Nat.shiftRight x 7) (Nat.mod (Nat.shiftLeft x 25) 4294967296)) (Nat.lor (Nat.shiftRight x 18) (Nat.mod (Nat.shiftLeft x 14) 4294967296))) (Nat.shiftRight x 3))
noncomputable def sg1R(x:Nat):Nat:=(Nat.xor (Nat.xor (Nat.lor (Nat.shiftRight x 17) (Nat.mod (Nat.shiftLeft x 15) 4294967296)) (Nat.lor (Nat.shiftRight x 19) (Nat.mod (Nat.shiftLeft x 13) 4294967296))) (Nat.shiftRight x 10))
noncomputable def bs0R(x:Nat):Nat:=(Nat.xor (Nat.xor (Nat.lor (Nat.shiftRight x 2) (Nat.mod (Nat.shiftLeft x 30) 4294967296)) (Nat.lor (Nat.shiftRight x 13) (Nat.mod (Nat.shiftLeft x 19) 4294967296))) (Nat.lor (Nat.shiftRight x 22) (Nat.mod (Nat.shiftLeft x 10) 4294967296)))
noncomputable def bs1R(x:Nat):Nat:=(Nat.xor (Nat.xor (Nat.lor (Nat.shiftRight x 6) (Nat.mod (Nat.shiftLeft x 26) 4294967296)) (Nat.lor (Nat.shiftRight x 11) (Nat.mod (Nat.shiftLeft x 21) 4294967296))) (Nat.lor (Nat.shiftRight x 25) (Nat.mod (Nat.shiftLeft x 7) 4294967296)))
noncomputable def kAtR(t:Nat):Nat:=Nat.mod (Nat.shiftRight kT (Nat.mul 32 t)) 4294967296
noncomputable def t1R(k w e f g h:Nat):Nat:=(Nat.mod (Nat.add (Nat.mod (Nat.add (Nat.mod (Nat.add (Nat.mod (Nat.add h (bs1R e)) 4294967296) (Nat.xor (Nat.land e f) (Nat.land (Nat.sub 4294967295 e) g))) 4294967296) k) 4294967296) w) 4294967296)
noncomputable def t2R(a b c:Nat):Nat:=(Nat.mod (Nat.add (bs0R a) (Nat.xor (Nat.xor (Nat.land a b) (Nat.land a c)) (Nat.land b c))) 4294967296)
noncomputable def nthR(l:List Nat):Nat→Nat:=List.rec (motive:=fun _=>Nat→Nat) (fun _=>0) (fun x _ ih n=>Nat.rec (motive:=fun _=>Nat) x (fun m _=>ih m) n) l
theorem nthR_eq:∀(l:List Nat) (n:Nat),nthR l n=l.getD n 0
 |[],n=>by simp [nthR]
 |x::l,0=>rfl
 |x::l,n+1=>(nthR_eq l n).trans (by simp)
noncomputable def wNextR(l:List Nat):Nat:=(Nat.mod (Nat.add (Nat.mod (Nat.add (Nat.mod (Nat.add (sg1R (nthR l 1)) (nthR l 6)) 4294967296) (sg0R (nthR l 14))) 4294967296) (nthR l 15)) 4294967296)
theorem wNextR_eq(l:List Nat):wNextR l=wNext l:=by
 unfold wNextR wNext
 rw [nthR_eq,nthR_eq,nthR_eq,nthR_eq]
 rfl
noncomputable def wGo(n:Nat):List Nat→List Nat:=Nat.rec (motive:=fun _=>List Nat→List Nat) (fun l=>l) (fun _ ih l=>frc (wNextR l) fun x=>ih (x::l)) n
theorem wGo_eq(b:List Nat):∀n m,wGo n (wRev b m)=wRev b (m+n)
 |0,m=>rfl
 |n+1,m=>by
  show frc (wNextR (wRev b m)) (fun x=>wGo n (x::wRev b m))=_
  rw [frc_eq,wNextR_eq]
  show wGo n (wRev b (m+1))=_
  rw [wGo_eq b n (m+1)]
  congr 1;omega
noncomputable def rGo(ws:List Nat):Nat→Nat→Nat→Nat→Nat→Nat→Nat→Nat→Nat→List Nat :=
 List.rec (motive:=fun _=>Nat→Nat→Nat→Nat→Nat→Nat→Nat→Nat→Nat→List Nat) (fun _ a b c d e f g h=>[a,b,c,d,e,f,g,h])
  (fun w _ ih t a b c d e f g h=>frc (t1R (kAtR t) w e f g h) fun x=>frc (Nat.mod (Nat.add x (t2R a b c)) 4294967296) fun a'=>frc (Nat.mod (Nat.add d x) 4294967296) fun e'=>ih (t+1) a' a b c e' e f g) ws
theorem rGo_eq(H b:List Nat):∀(n t:Nat),t+n=64→∀a0 a1 a2 a3 a4 a5 a6 a7,rnds H b t=[a0,a1,a2,a3,a4,a5,a6,a7]→rGo ((List.range' t n).map (wAt b)) t a0 a1 a2 a3 a4 a5 a6 a7=rnds H b 64
 |0,t,ht,a0,a1,a2,a3,a4,a5,a6,a7,h=>by
  obtain rfl:t=64:=by omega
  rw [h];rfl
 |n+1,t,ht,a0,a1,a2,a3,a4,a5,a6,a7,h=>by
  rw [List.range'_succ,List.map_cons]
  show frc (t1R (kAtR t) (wAt b t) a4 a5 a6 a7) (fun x=>frc (Nat.mod (Nat.add x (t2R a0 a1 a2)) 4294967296) fun a'=>frc (Nat.mod (Nat.add a3 x) 4294967296) fun e'=>rGo ((List.range' (t+1) n).map (wAt b)) (t+1) a' a0 a1 a2 e' a4 a5 a6)=_
  rw [frc_eq,frc_eq,frc_eq]
  refine rGo_eq H b n (t+1) (by omega) _ _ _ _ _ _ _ _ ?_
  show rnd (kAt t) (wAt b t) (rnds H b t)=_
  rw [h]
  rfl
noncomputable def frcL{α:Type}(l:List Nat):(List Nat→α)→α:=List.rec (motive:=fun _=>(List Nat→α)→α) (fun f=>f []) (fun x _ ih f=>frc x fun x=>ih fun l=>f (x::l)) l
theorem frcL_eq{α:Type}:∀(l:List Nat) (f:List Nat→α),frcL l f=f l
 |[],f=>rfl
 |x::l,f=>by
  show frc x (fun x=>frcL l fun l=>f (x::l))=_
  rw [frc_eq,frcL_eq l]
noncomputable def compF(H b:List Nat):List Nat:=addL H (rGo (frcL (wRev b 0) (wGo 48)).reverse 0 (H.getD 0 0) (H.getD 1 0) (H.getD 2 0) (H.getD 3 0) (H.getD 4 0) (H.getD 5 0) (H.getD 6 0) (H.getD 7 0))
theorem compF_eq(H b:List Nat)(hH:H.length=8):compF H b=comp H b:=by
 unfold compF comp
 congr 1
 have e:(frcL (wRev b 0) (wGo 48)).reverse=(List.range' 0 64).map (wAt b):=by
  rw [frcL_eq,wGo_eq b 48 0]
  apply List.ext_getElem
  ·simp [wRev_len]
  ·intro i h1 h2
   simp [wRev_len] at h1
   simp only [List.getElem_map,List.getElem_range',wAt,List.getElem_reverse]
   rw [List.getD_eq_getElem?_getD,List.getElem?_eq_getElem (by rw [wRev_len];omega)]
   simp [wRev_len]
 rw [e]
 refine rGo_eq H b 64 0 rfl _ _ _ _ _ _ _ _ ?_
 show H=_
 match H,hH with
 |[_,_,_,_,_,_,_,_],_=>rfl
theorem comp_len8(H b:List Nat):(comp H b).length=8:=by simp [comp,addL]
theorem hs_len8(l:List Nat):∀n,(hs l n).length=8
 |0=>by simp [hs,hL]
 |n+1=>comp_len8 _ _
noncomputable def hsGo(l:List Nat)(n:Nat):Nat→List Nat→List Nat :=
 Nat.rec (motive:=fun _=>Nat→List Nat→List Nat) (fun _ H=>H) (fun _ ih i H=>frcL (compF H ((l.drop (64*i)).take 64)) fun H=>ih (i+1) H) n
theorem hsGo_eq(l:List Nat):∀n i,hsGo l n i (hs l i)=hs l (i+n)
 |0,i=>rfl
 |n+1,i=>by
  show frcL (compF (hs l i) ((l.drop (64*i)).take 64)) (fun H=>hsGo l n (i+1) H)=_
  rw [frcL_eq,compF_eq _ _ (hs_len8 l i)]
  show hsGo l n (i+1) (hs l (i+1))=_
  rw [hsGo_eq l n (i+1)]
  congr 1;omega
noncomputable def shaF(l:List Nat):List Nat:=frcL (pad l) fun p=>frcL (flat (hsGo p (p.length / 64) 0 hL)) fun d=>d
theorem shaF_eq(l:List Nat):shaF l=sha l:=by
 unfold shaF
 rw [frcL_eq,frcL_eq]
 have:=hsGo_eq (pad l) ((pad l).length / 64) 0
 rw [Nat.zero_add] at this
 show flat (hsGo (pad l) ((pad l).length / 64) 0 (hs (pad l) 0))=_
 rw [this];rfl
end Go.Proofs.YtjboelhcieepkaaGreatDoor.Sh
namespace Go.Proofs.YtjboelhcieepkaaGreatDoor
set_option maxRecDepth 16384
open Go.RowKit
structure VRec where
 s:Nat
 sh:Nat
 c:Nat
 tag:List Nat
 hs:s≤2
 h0:s=0→sh=0∧c=0∧tag=List.replicate 32 0
 hsh:sh<4294967296
 hc:c<18446744073709551616
 ht:tag.length=32
 hb:Sh.Byt tag
structure VEnt where
 s:Nat
 dig:List Nat
 hs:s≤2
 h0:s=0→dig=List.replicate 32 0
 ht:dig.length=32
 hb:Sh.Byt dig
def VRec.nnc(x:VRec):List Value:=[.int .u32 (x.sh:Int),.int .u64 (x.c:Int)]
def VRec.nncB(x:VRec):List Nat:=Sh.beB x.sh 4++Sh.beB x.c 8
def VRec.vals(x:VRec):List Value:=[.int .u8 (x.s:Int)]++(x.nnc++nv .u8 x.tag)
def VRec.bytes(x:VRec):List Nat:=[x.s]++(x.nncB++x.tag)
def VEnt.vals(x:VEnt):List Value:=[.int .u8 (x.s:Int)]++nv .u8 x.dig
def VEnt.bytes(x:VEnt):List Nat:=[x.s]++x.dig
def zrec:VRec:=⟨0,0,0,List.replicate 32 0,by decide,fun _=>⟨rfl,rfl,rfl⟩,by decide,by decide,rfl,fun x hx=>by rw [List.eq_of_mem_replicate hx];decide⟩
def zent:VEnt:=⟨0,List.replicate 32 0,by decide,fun _=>rfl,rfl,fun x hx=>by rw [List.eq_of_mem_replicate hx];decide⟩
inductive VNode where
 |leaf (ix:Nat) (a b c d:VRec) (h:ix≤7)
 |inner (lv ix:Nat) (a b c d:VEnt) (hl:1≤lv∧lv≤2) (h:ix≤7)
def r4v(a b c d:VRec):List Value:=a.vals++(b.vals++(c.vals++d.vals))
def e4v(a b c d:VEnt):List Value:=a.vals++(b.vals++(c.vals++d.vals))
def VNode.vals:VNode→List Value
 | .leaf ix a b c d _=>[.int .u8 0]++([.int .u32 (ix:Int)]++(r4v a b c d++e4v zent zent zent zent))
 | .inner lv ix a b c d _ _=>[.int .u8 (lv:Int)]++([.int .u32 (ix:Int)]++(r4v zrec zrec zrec zrec++e4v a b c d))
def VNode.bytes:VNode→List Nat
 | .leaf ix a b c d _=>[0]++(Sh.beB ix 4++(a.bytes++(b.bytes++(c.bytes++d.bytes))))
 | .inner lv ix a b c d _ _=>[lv]++(Sh.beB ix 4++(a.bytes++(b.bytes++(c.bytes++d.bytes))))
theorem VRec.len(x:VRec):x.vals.length=35:=by simp [VRec.vals,VRec.nnc,nv_len,x.ht]
theorem VRec.blen(x:VRec):x.bytes.length=45:=by simp [VRec.bytes,VRec.nncB,Sh.beB,x.ht]
theorem VEnt.len(x:VEnt):x.vals.length=33:=by simp [VEnt.vals,nv_len,x.ht]
theorem VEnt.blen(x:VEnt):x.bytes.length=33:=by simp [VEnt.bytes,x.ht]
theorem r4v_len(a b c d:VRec):(r4v a b c d).length=140:=by simp [r4v,VRec.len]
theorem e4v_len(a b c d:VEnt):(e4v a b c d).length=132:=by simp [e4v,VEnt.len]
structure VByt where
 l:List Nat
 n:Nat
 hl:l.length=n
 hb:Sh.Byt l
inductive VCnt where
 |nd (x:VNode)
 |by_ (x:VByt)
def VCnt.l:VCnt→List Nat
 | .nd x=>x.bytes
 | .by_ x=>x.l
def VCnt.n:VCnt→Nat
 | .nd (.leaf ..)=>185
 | .nd (.inner ..)=>137
 | .by_ x=>x.n
theorem VCnt.hl(x:VCnt):x.l.length=x.n:=by
 cases x with
 |nd x=>cases x<;>simp [VCnt.l,VCnt.n,VNode.bytes,Sh.beB,VRec.blen,VEnt.blen]
 |by_ x=>exact x.hl
def VByt.st(x:VByt):List Value:=stLl true (Sh.hs x.l (x.n / 64)) (rowOf x.l) x.n
inductive At where
 |rcd (x:VRec)
 |rcdB (x:VRec)
 |ent (x:VEnt)
 |entB (x:VEnt)
 |nnc (x:VRec)
 |nncB (x:VRec)
 |node (x:VNode)
 |nodeB (x:VNode)
 |tag (x:VRec)
 |dig (x:VEnt)
 |sha (l:List Nat)
 |byt (x:VByt)
 |st (x:VByt)
 |gh (t N:Nat) (l:List (Option VCnt))
 |bit (b:Bool)
def bitN(b:Bool):Nat:=bif b then 1 else 0
noncomputable def At.vals:At→List Value
 | .rcd x=>x.vals
 | .rcdB x=>nv .u8 x.bytes
 | .ent x=>x.vals
 | .entB x=>nv .u8 x.bytes
 | .nnc x=>x.nnc
 | .nncB x=>nv .u8 x.nncB
 | .node x=>x.vals
 | .nodeB x=>nv .u8 x.bytes
 | .tag x=>nv .u8 x.tag
 | .dig x=>nv .u8 x.dig
 | .sha l=>nv .u8 (Sh.shaF l)
 | .byt x=>nv .u8 x.l
 | .st x=>x.st
 | .gh _ _ _=>[]
 | .bit b=>[.int .i64 (bitN b:Int)]
def At.size:At→Nat
 | .rcd _=>35
 | .rcdB _=>45
 | .ent _=>33
 | .entB _=>33
 | .nnc _=>2
 | .nncB _=>12
 | .node _=>274
 | .nodeB (.leaf ..)=>185
 | .nodeB (.inner ..)=>137
 | .tag _=>32
 | .dig _=>32
 | .sha _=>32
 | .byt x=>x.n
 | .st _=>74
 | .gh _ _ _=>0
 | .bit _=>1
theorem shaF_len(l:List Nat):(Sh.shaF l).length=32:=by rw [Sh.shaF_eq];simp [Sh.sha,Sh.flat]
theorem shaF_byt(l:List Nat):Sh.Byt (Sh.shaF l):=by
 rw [Sh.shaF_eq]
 intro x hx
 simp only [Sh.sha,Sh.flat,List.mem_map] at hx
 obtain ⟨i,_,rfl⟩:=hx
 exact Nat.mod_lt _ (by decide)
theorem At.len(a:At):a.vals.length=a.size:=by
 cases a with
 |rcd x=>simp [At.vals,VRec.vals,VRec.nnc,nv_len,x.ht,At.size]
 |rcdB x=>simp [At.vals,VRec.bytes,VRec.nncB,nv_len,Sh.beB,x.ht,At.size]
 |ent x=>simp [At.vals,VEnt.vals,nv_len,x.ht,At.size]
 |entB x=>simp [At.vals,VEnt.bytes,nv_len,x.ht,At.size]
 |nnc x=>rfl
 |nncB x=>simp [At.vals,VRec.nncB,nv_len,Sh.beB,At.size]
 |node x=>cases x<;>simp [At.vals,VNode.vals,r4v_len,e4v_len,At.size]
 |nodeB x=>cases x<;>simp [At.vals,nv_len,VNode.bytes,Sh.beB,VRec.blen,VEnt.blen,At.size]
 |tag x=>simp [At.vals,nv_len,x.ht,At.size]
 |dig x=>simp [At.vals,nv_len,x.ht,At.size]
 |sha l=>simp [At.vals,nv_len,shaF_len,At.size]
 |byt x=>simp [At.vals,nv_len,x.hl,At.size]
 |st x=>exact stLl_len _ _ _ _ (Sh.hs_len _ _) (rowOf_len _)
 |gh _ _ _=>rfl
 |bit _=>rfl
theorem VRec.one(x:VRec):∀v∈x.vals,v.oneCell'=true:=by
 have n1:∀(k:IntKind) (x:Int),(Value.int k x).oneCell'=true:=fun _ _=>rfl
 intro v hv
 simp only [VRec.vals,VRec.nnc,List.mem_append,List.mem_cons,List.not_mem_nil,or_false] at hv
 rcases hv with rfl|(rfl|rfl)|hv
 ·exact n1 _ _
 ·exact n1 _ _
 ·exact n1 _ _
 ·exact nv_one _ _ v hv
theorem VEnt.one(x:VEnt):∀v∈x.vals,v.oneCell'=true:=by
 have n1:∀(k:IntKind) (x:Int),(Value.int k x).oneCell'=true:=fun _ _=>rfl
 intro v hv
 simp only [VEnt.vals,List.mem_append,List.mem_singleton] at hv
 rcases hv with rfl|hv
 ·exact n1 _ _
 ·exact nv_one _ _ v hv
theorem At.one(a:At):∀v∈a.vals,v.oneCell'=true:=by
 have n1:∀(k:IntKind) (x:Int),(Value.int k x).oneCell'=true:=fun _ _=>rfl
 have hr:∀a b c d,∀v∈r4v a b c d,v.oneCell'=true:=by
  intro a b c d v hv
  simp only [r4v,List.mem_append] at hv
  rcases hv with h|h|h|h<;>exact VRec.one _ v h
 have he:∀a b c d,∀v∈e4v a b c d,v.oneCell'=true:=by
  intro a b c d v hv
  simp only [e4v,List.mem_append] at hv
  rcases hv with h|h|h|h<;>exact VEnt.one _ v h
 cases a with
 |rcd x=>exact x.one
 |rcdB x=>exact nv_one _ _
 |ent x=>exact x.one
 |entB x=>exact nv_one _ _
 |nnc x =>
  intro v hv
  simp only [At.vals,VRec.nnc,List.mem_cons,List.not_mem_nil,or_false] at hv
  rcases hv with rfl|rfl
  ·exact n1 _ _
  ·exact n1 _ _
 |nncB x=>exact nv_one _ _
 |nodeB x=>exact nv_one _ _
 |tag x=>exact nv_one _ _
 |dig x=>exact nv_one _ _
 |sha l=>exact nv_one _ _
 |byt x=>exact nv_one _ _
 |st x =>
  intro v hv
  exact stL_one true _ _ _ v (show v∈(stLl true (Sh.hs x.l (x.n / 64)) (rowOf x.l) x.n).toArray.toList from hv)
 |gh _ _ _=>intro v hv;cases hv
 |bit b =>
  intro v hv
  simp only [At.vals,List.mem_cons,List.not_mem_nil,or_false] at hv
  rw [hv];exact n1 _ _
 |node x =>
  intro v hv
  cases x<;>simp only [At.vals,VNode.vals,List.mem_append,List.mem_singleton] at hv<;>rcases hv with rfl|rfl|h|h<;>first|exact n1 _ _|exact hr _ _ _ _ v h|exact he _ _ _ _ v h
end Go.Proofs.YtjboelhcieepkaaGreatDoor
namespace Go.Proofs.YtjboelhcieepkaaGreatDoor
set_option maxRecDepth 16384
open Go.RowKit
inductive Rp(α:Type) where
 |nil
 |one (x:α)
 |arr (k:IntKind) (n:Nat) (l:List Nat)
 |node (s t:Nat) (a b:Rp α)
 |q (a:At)
inductive SV where
 |v (x:Value)
 |p (n o:Nat)
 |s (n o l c:Nat)
 |w (n l:Nat)
 |a (c:Rp SV)
 |t (vs:List SV)
 |f (fn:Fn) (first caps:List SV)
 |i (t:TypeId) (x:SV)
 |y (n:Nat)
 |gs (n l:Nat)
 |b (x:VCnt)
 |u
structure HB where
 T:TypeId
 cs:Rp SV
 k:Nat
inductive Dg where
 |x0|x1|x2|x3|x4|x5|x6|x7
inductive Oct(β:Type) where
 |mk (c0 c1 c2 c3 c4 c5 c6 c7:β)
noncomputable def dgOf(m:Nat):Dg:=Nat.rec (motive:=fun _=>Dg) .x0 (fun _ x=>Dg.rec .x1 .x2 .x3 .x4 .x5 .x6 .x7 .x7 x) m
noncomputable def dg0(k:Nat):Dg:=dgOf (Nat.mod k 8)
noncomputable def dg1(k:Nat):Dg:=dgOf (Nat.mod (Nat.div k 8) 8)
noncomputable def dg2(k:Nat):Dg:=dgOf (Nat.mod (Nat.div k 64) 8)
noncomputable def dg3(k:Nat):Dg:=dgOf (Nat.mod (Nat.div k 512) 8)
noncomputable def dg4(k:Nat):Dg:=dgOf (Nat.mod (Nat.div k 4096) 8)
section
variable {β:Type}
noncomputable def oat(d:Dg):Oct β→β:=Dg.rec (motive:=fun _=>Oct β→β)
 (Oct.rec fun a _ _ _ _ _ _ _=>a) (Oct.rec fun _ a _ _ _ _ _ _=>a) (Oct.rec fun _ _ a _ _ _ _ _=>a) (Oct.rec fun _ _ _ a _ _ _ _=>a)
 (Oct.rec fun _ _ _ _ a _ _ _=>a) (Oct.rec fun _ _ _ _ _ a _ _=>a) (Oct.rec fun _ _ _ _ _ _ a _=>a) (Oct.rec fun _ _ _ _ _ _ _ a=>a) d
noncomputable def oup(d:Dg):(β→β)→Oct β→Oct β:=Dg.rec (motive:=fun _=>(β→β)→Oct β→Oct β)
 (fun f=>Oct.rec fun a b c d e g h i=>.mk (f a) b c d e g h i) (fun f=>Oct.rec fun a b c d e g h i=>.mk a (f b) c d e g h i)
 (fun f=>Oct.rec fun a b c d e g h i=>.mk a b (f c) d e g h i) (fun f=>Oct.rec fun a b c d e g h i=>.mk a b c (f d) e g h i)
 (fun f=>Oct.rec fun a b c d e g h i=>.mk a b c d (f e) g h i) (fun f=>Oct.rec fun a b c d e g h i=>.mk a b c d e (f g) h i)
 (fun f=>Oct.rec fun a b c d e g h i=>.mk a b c d e g (f h) i) (fun f=>Oct.rec fun a b c d e g h i=>.mk a b c d e g h (f i)) d
def orep(x:β):Oct β:=.mk x x x x x x x x
end
structure Tri(α:Type) where
 o:Oct (Oct (Oct (Option α)))
 ov:Nat→Option α
def Tri.e{α:Type}:Tri α:=⟨orep (orep (orep none)),fun _=>none⟩
noncomputable def Tri.get{α:Type}(t:Tri α)(k:Nat):Option α:=Bool.rec (motive:=fun _=>Tri α→Option α) (fun t=>t.ov k) (fun t=>oat (dg0 k) (oat (dg1 k) (oat (dg2 k) t.o))) (Nat.ble k 511) t
noncomputable def Tri.set{α:Type}(x:Option α)(k:Nat)(t:Tri α):Tri α:=Bool.rec (motive:=fun _=>Option α→Tri α→Tri α) (fun x t=>⟨t.o,fun j=>Bool.rec (t.ov j) x (Nat.beq j k)⟩)
 (fun x t=>⟨oup (dg2 k) (oup (dg1 k) (oup (dg0 k) fun _=>x)) t.o,t.ov⟩) (Nat.ble k 511) x t
noncomputable def Tri.put{α:Type}(t:Tri α)(k:Nat)(b:α):Tri α:=t.set (some b) k
structure Tre(α:Type) where
 o:Oct (Oct (Oct (Oct (Oct (Option α)))))
 ov:Nat→Option α
def Tre.e{α:Type}:Tre α:=⟨orep (orep (orep (orep (orep none)))),fun _=>none⟩
noncomputable def Tre.get{α:Type}(t:Tre α)(k:Nat):Option α:=Bool.rec (motive:=fun _=>Tre α→Option α) (fun t=>t.ov k) (fun t=>oat (dg0 k) (oat (dg1 k) (oat (dg2 k) (oat (dg3 k) (oat (dg4 k) t.o))))) (Nat.ble k 32767) t
noncomputable def Tre.set{α:Type}(x:Option α)(k:Nat)(t:Tre α):Tre α:=Bool.rec (motive:=fun _=>Option α→Tre α→Tre α) (fun x t=>⟨t.o,fun j=>Bool.rec (t.ov j) x (Nat.beq j k)⟩)
 (fun x t=>⟨oup (dg4 k) (oup (dg3 k) (oup (dg2 k) (oup (dg1 k) (oup (dg0 k) fun _=>x)))) t.o,t.ov⟩) (Nat.ble k 32767) x t
abbrev Tr:=Tre HB
noncomputable def Tre.put{α:Type}(t:Tre α)(k:Nat)(b:α):Tre α:=t.set (some b) k
noncomputable def Tre.del{α:Type}(t:Tre α)(k:Nat):Tre α:=t.set none k
structure Sl where
 t:Tri SV
 n:Nat
structure St where
 ts:Sl
 hp:Tr
 nx:Nat
def undefS:SV:=.v undef
noncomputable def nth(s:Sl)(k:Nat):SV:=Option.rec undefS (fun x=>x) (s.t.get k)
noncomputable def setN(s:Sl)(k:Nat)(x:SV):Sl:=Bool.rec ⟨s.t.put k x,s.n⟩ s (Nat.ble s.n k)
noncomputable def ofArgs:List SV→Nat→Tri SV→Tri SV
 |[],_,t=>t
 |x::xs,k,t=>ofArgs xs (k+1) (t.put k x)
noncomputable def frame(args:List SV)(m:Nat):Sl:=⟨ofArgs args 0 .e,args.length+(m-args.length)⟩
def rsize:Rp SV→Nat
 | .nil=>0
 | .one _=>1
 | .arr _ n _=>n
 | .node _ t _ _=>t
 | .q a=>a.size
def cat(a b:Rp SV):Rp SV:=match a,b with
 | .nil,b=>b
 |a,.nil=>a
 |a,b=>.node (rsize a) (rsize a+rsize b) a b
def packL:List SV→Rp SV
 |[]=>.nil
 |x::xs=>cat (.one x) (packL xs)
def rp4(n:Nat)(a b c d:Rp SV):Rp SV:=.node n (4*n) a (.node n (3*n) b (.node n (2*n) c d))
noncomputable def atExp:At→Rp SV
 | .rcd x=>.node 1 35 (.one (.v (.int .u8 (x.s:Int)))) (.node 2 34 (.q (.nnc x)) (.q (.tag x)))
 | .rcdB x=>.node 1 45 (.arr .u8 1 [x.s]) (.node 12 44 (.q (.nncB x)) (.q (.tag x)))
 | .nnc x=>.node 1 2 (.one (.v (.int .u32 (x.sh:Int)))) (.one (.v (.int .u64 (x.c:Int))))
 | .nncB x=>.arr .u8 12 x.nncB
 | .tag x=>.arr .u8 32 x.tag
 | .dig x=>.arr .u8 32 x.dig
 | .sha l=>.arr .u8 32 (Sh.shaF l)
 | .byt x=>.arr .u8 x.n x.l
 | .gh _ _ _=>.nil
 | .bit b=>.one (.v (.int .i64 (bitN b:Int)))
 | .st x=>.node 1 74 (.one (.v (.bool true))) (.node 8 73 (.arr .u32 8 (Sh.hs x.l (x.n / 64))) (.node 64 65 (.arr .u8 64 (rowOf x.l)) (.one (.v (.int .u64 (x.n:Int))))))
 | .ent x=>.node 1 33 (.one (.v (.int .u8 (x.s:Int)))) (.q (.dig x))
 | .entB x=>.node 1 33 (.arr .u8 1 [x.s]) (.q (.dig x))
 | .node (.leaf ix a b c d _)=>.node 1 274 (.one (.v (.int .u8 0))) (.node 1 273 (.one (.v (.int .u32 (ix:Int)))) (.node 140 272 (rp4 35 (.q (.rcd a)) (.q (.rcd b)) (.q (.rcd c)) (.q (.rcd d))) (rp4 33 (.q (.ent zent)) (.q (.ent zent)) (.q (.ent zent)) (.q (.ent zent)))))
 | .node (.inner lv ix a b c d _ _)=>.node 1 274 (.one (.v (.int .u8 (lv:Int)))) (.node 1 273 (.one (.v (.int .u32 (ix:Int)))) (.node 140 272 (rp4 35 (.q (.rcd zrec)) (.q (.rcd zrec)) (.q (.rcd zrec)) (.q (.rcd zrec))) (rp4 33 (.q (.ent a)) (.q (.ent b)) (.q (.ent c)) (.q (.ent d)))))
 | .nodeB (.leaf ix a b c d _)=>.node 1 185 (.arr .u8 1 [0]) (.node 4 184 (.arr .u8 4 (Sh.beB ix 4)) (rp4 45 (.q (.rcdB a)) (.q (.rcdB b)) (.q (.rcdB c)) (.q (.rcdB d))))
 | .nodeB (.inner lv ix a b c d _ _)=>.node 1 137 (.arr .u8 1 [lv]) (.node 4 136 (.arr .u8 4 (Sh.beB ix 4)) (rp4 33 (.q (.entB a)) (.q (.entB b)) (.q (.entB c)) (.q (.entB d))))
def atL(l:List Value):Rp SV:=packL (l.map .v)
noncomputable def rgetW(g:At→Nat→Option SV)(c:Rp SV):Nat→Option SV :=
 Rp.rec (motive:=fun _=>Nat→Option SV) (fun _=>none) (fun x o=>Bool.rec none (some x) (Nat.beq o 0))
  (fun k n l o=>Bool.rec (some (.v (.int k ((l.getD o 0:Nat):Int)))) none (Nat.ble n o)) (fun s _ _ _ ia ib o=>Bool.rec (ia o) (ib (o-s)) (Nat.ble s o)) g c
noncomputable def rget(c:Rp SV):Nat→Option SV:=rgetW (fun a=>rgetW (fun a o=>(a.vals[o]?).map .v) (atExp a)) c
noncomputable def rdropW(g:At→Nat→Rp SV)(c:Rp SV):Nat→Rp SV :=
 Rp.rec (motive:=fun _=>Nat→Rp SV) (fun _=>.nil) (fun x o=>Bool.rec .nil (.one x) (Nat.beq o 0))
  (fun k n l o=>Bool.rec (Bool.rec (.arr k (n-o) (l.drop o)) .nil (Nat.ble n o)) (.arr k n l) (Nat.beq o 0))
  (fun s t a b ia ib o=>Bool.rec (Bool.rec (.node (s-o) (t-o) (ia o) b) (ib (o-s)) (Nat.ble s o)) (.node s t a b) (Nat.beq o 0)) g c
noncomputable def rdrop0:Rp SV→Nat→Rp SV:=rdropW fun a o=>Bool.rec (Bool.rec (atL (a.vals.drop o)) .nil (Nat.ble a.size o)) (.q a) (Nat.beq o 0)
noncomputable def rdrop(c:Rp SV):Nat→Rp SV:=rdropW (fun a o=>Bool.rec (Bool.rec (rdrop0 (atExp a) o) .nil (Nat.ble a.size o)) (.q a) (Nat.beq o 0)) c
noncomputable def rtakeW(g:At→Nat→Rp SV)(c:Rp SV):Nat→Rp SV :=
 Rp.rec (motive:=fun _=>Nat→Rp SV) (fun _=>.nil) (fun x o=>Bool.rec (.one x) .nil (Nat.beq o 0))
  (fun k n l o=>Bool.rec (.arr k o (l.take o)) (.arr k n l) (Nat.ble n o))
  (fun s t a b ia ib o=>Bool.rec (Bool.rec (.node s o a (ib (o-s))) (ia o) (Nat.ble o s)) (.node s t a b) (Nat.ble t o)) g c
noncomputable def rtake0:Rp SV→Nat→Rp SV:=rtakeW fun a o=>Bool.rec (atL (a.vals.take o)) (.q a) (Nat.ble a.size o)
noncomputable def rtake(c:Rp SV):Nat→Rp SV:=rtakeW (fun a o=>Bool.rec (rtake0 (atExp a) o) (.q a) (Nat.ble a.size o)) c
def numOf(k:IntKind):Rp SV→Option Nat
 | .one (.v (.int j (.ofNat x)))=>bif decide (k=j) then some x else none
 |_=>none
noncomputable def rputW(g:At→Nat→Rp SV)(new:Rp SV)(m:Nat)(c:Rp SV):Nat→Rp SV :=
 Rp.rec (motive:=fun _=>Nat→Rp SV) (fun _=>new) (fun _ _=>new)
  (fun k n l o=>Option.rec (Bool.rec (cat (rtake (.arr k n l) o) (cat new (rdrop (.arr k n l) (o+m)))) new (Nat.beq m n)) (fun x=>.arr k n (l.set o x)) (numOf k new))
  (fun s t a b ia ib o=>Bool.rec (Bool.rec (cat (rtake (.node s t a b) o) (cat new (rdrop (.node s t a b) (o+m)))) (.node s t a (ib (o-s))) (Nat.ble s o)) (.node s t (ia o) b) (Nat.ble (o+m) s)) g c
noncomputable def rput(new:Rp SV)(m:Nat)(c:Rp SV):Nat→Rp SV :=
 rputW (fun a o=>Bool.rec (cat (rtake (.q a) o) (cat new (rdrop (.q a) (o+m)))) new (Nat.beq m a.size)) new m c
noncomputable def csub(c:Rp SV)(o n:Nat):Option (Rp SV):=Bool.rec none (some (rtake (rdrop c o) n)) (Nat.ble (o+n) (rsize c))
noncomputable def cget(c:Rp SV)(o:Nat):Option SV:=rget c o
noncomputable def cput(c:Rp SV)(o:Nat)(new:Rp SV):Option (Rp SV):=Bool.rec none (some (Nat.rec c (fun _ _=>rput new (rsize new) c o) (rsize new))) (Nat.ble (o+rsize new) (rsize c))
def SV.cells:SV→Option (Rp SV)
 | .a cs=>some cs
 | .v (.agg cs)=>bif cs.toList.all (·.oneCell') then some (packL (cs.toList.map .v)) else none
 | .v (.tuple _)=>none
 | .t _=>none
 | .u=>none
 |x=>some (.one x)
def isRow(P:Program)(T:TypeId):Option Bool:=match P.underlying T with
 |some (.struct _)=>some true
 |some (.array _ _)=>some true
 |some _=>some false
 |none=>none
def isRowB(P:Program)(T:TypeId):Bool:=match isRow P T with
 |some t=>t
 |none=>false
def szOf(P:Program)(T:TypeId):Option Nat:=match P.info? T with
 |some i=>some i.size
 |none=>none
def Sem.now{α:Type}(P:Program):Sem α→Option α
 | .pure a=>some a
 | .program k=>Sem.now P (k P)
 |_=>none
structure Ctx where
 P:Program
 G:Nat→Option (Rp SV)
 /-- what is told of blocks that stay unseen (k=8): by kind,in the world,of block g and its other blocks -/
 gh:Nat→Nat→World→Nat→(Nat→Prop)→List (Option VCnt)→Prop
 ghs:∀t N w w' g cv l,gh t N w g cv l→w'.heap[g]?=w.heap[g]?→(∀k,cv k→w'.heap[k]?=w.heap[k]?)→gh t N w' g cv l
 ghm:∀t N N' w g cv l,N≤N'→gh t N w g cv l→gh t N' w g cv l
noncomputable def ev_t(t:Tmp)(s:Sl):SV:=nth s t
noncomputable def ev_c(v:Value)(_:Sl):SV:=.v v
noncomputable def ev_g(g:Nat)(_:Sl):SV:=.v (.pointer (some ⟨g,0,none⟩))
noncomputable def ev_f(g:FuncId)(_:Sl):SV:=.f (.func g) [] []
noncomputable def ev(ts:Sl)(x:Operand):SV:=Operand.rec (motive:=fun _=>Sl→SV) ev_t ev_c ev_g ev_f x ts
noncomputable def ofElem(P:Program)(T:TypeId)(cs:Rp SV)(o:Nat):Option SV:=match isRow P T,szOf P T with
 |some true,some n=>(match csub cs o n with
  |some c=>some (.a c)
  |none=>none)
 |some false,some _=>cget cs o
 |_,_=>none
noncomputable def loadS(X:Ctx)(hp:Tr)(T:TypeId):SV→Option SV
 | .p n o=>match hp.get n with
  |some b=>ofElem X.P T b.cs o
  |none=>none
 | .v (.pointer (some ⟨g,o,none⟩))=>match X.G g with
  |some cs=>ofElem X.P T cs o
  |none=>none
 |_=>none
noncomputable def writeS(hp:Tr)(n o:Nat)(new:Rp SV):Option Tr:=match hp.get n with
 |some b=>bif Nat.blt b.k 2 then (match cput b.cs o new with
  |some cs=>some (hp.put n ⟨b.T,cs,b.k⟩)
  |none=>none) else none
 |none=>none
noncomputable def asN:SV→Option Nat
 | .v (.int _ (.ofNat x))=>some x
 |_=>none
noncomputable def fillS(place:Nat→Option (Nat×Nat))(cs:Rp SV):List (Nat×SV)→Option (Rp SV)
 |[]=>some cs
 |(i,x)::rest=>match place i,x.cells with
  |some (off,size),some ns=>bif Nat.beq (rsize ns) size then (match cput cs off ns with
   |some cs=>fillS place cs rest
   |none=>none) else none
  |_,_=>none
noncomputable def zeros(k:IntKind):Nat→List Value→Option (List Value)
 |0,l=>some l
 |n+1,.int j 0::l=>bif decide (k=j) then zeros k n l else none
 |_+1,_=>none
noncomputable def zr(P:Program):Nat→TypeId→List Value→Option (Rp SV×List Value)
 |0,_,_=>none
 |d+1,T,l=>match P.underlying T with
  |some (.array n e)=>(match P.underlying e with
   |some (.int k)=>(match zeros k n l with
    |some l=>some (.arr k n (List.replicate n 0),l)
    |none=>none)
   |_=>zrs (zr P d e) n l)
  |some (.struct fs)=>zrf (zr P d) (fs.toList.map (·.type)) l
  |_=>(match l with
   |x::l=>bif x.oneCell' then some (.one (.v x),l) else none
   |[]=>none)
where
 zrs (g:List Value→Option (Rp SV×List Value)):Nat→List Value→Option (Rp SV×List Value)
  |0,l=>some (.nil,l)
  |n+1,l=>match g l with
   |some (a,l)=>(match zrs g n l with
    |some (b,l)=>some (cat a b,l)
    |none=>none)
   |none=>none
 zrf (g:TypeId→List Value→Option (Rp SV×List Value)):List TypeId→List Value→Option (Rp SV×List Value)
  |[],l=>some (.nil,l)
  |T::ts,l=>match g T l with
   |some (a,l)=>(match zrf g ts l with
    |some (b,l)=>some (cat a b,l)
    |none=>none)
   |none=>none
noncomputable def zeroS(P:Program)(T:TypeId):Option (Rp SV):=match P.info? T with
 |some i=>(match i.zero with
  |some z=>(match zr P 50 T z.cells.toList with
   |some (c,[])=>bif Nat.beq z.cells.toList.length i.size then some c else none
   |_=>none)
  |none=>none)
 |none=>none
noncomputable def repS(cs:Rp SV):Nat→Rp SV
 |0=>.nil
 |n+1=>cat cs (repS cs n)
noncomputable def sliceCells(hp:Tr)(sz:Nat):SV→Option (Nat×Rp SV)
 | .s n o l _=>(match hp.get n with
  |some b=>(match csub b.cs o (l*sz) with
   |some cs=>some (l,cs)
   |none=>none)
  |none=>none)
 | .w n l=>(match hp.get n with
  |some b=>(match csub b.cs 0 (l*sz) with
   |some cs=>some (l,cs)
   |none=>none)
  |none=>none)
 | .v (.slice none 0 _)=>some (0,.nil)
 |_=>none
noncomputable def bnd(x:Option Operand)(ts:Sl)(d:Nat):Option Nat:=match x with
 |some y=>asN (ev ts y)
 |none=>some d
noncomputable def bnds(ts:Sl)(n c:Nat)(lo hi mx:Option Operand):Option (Nat×Nat×Nat) :=
 match bnd mx ts c,bnd hi ts n,bnd lo ts 0 with
 |some m,some h,some l=>bif Nat.ble m c&&(Nat.ble h m&&(Nat.ble l h&&(mx.isNone || hi.isSome))) then some (l,h,m) else none
 |_,_,_=>none
noncomputable def sliceS(P:Program)(T:TypeId)(ts:Sl)(x:SV)(lo hi mx:Option Operand):Option SV :=
 match P.underlying T with
 |some (.array n e)=>(match szOf P e,x,bnds ts n n lo hi mx with
  |some z,.p g o,some (l,h,m)=>some (.s g (bif Nat.beq m l then o else o+l*z) (h-l) (m-l))
  |_,_,_=>none)
 |some (.slice e)=>(match szOf P e,x with
  |some z,.s g o n c=>(match bnds ts n c lo hi mx with
   |some (l,h,m)=>some (.s g (bif Nat.beq m l then o else o+l*z) (h-l) (m-l))
   |none=>none)
  |some _,.w g n=>(match mx,bnd lo ts 0 with
   |none,some 0=>(match bnd hi ts n with
    |some h=>bif Nat.ble h n then some (.w g h) else none
    |none=>none)
   |some y,some 0=>(match bnd hi ts n,asN (ev ts y) with
    |some h,some m=>bif Nat.ble h m&&(Nat.ble m n&&hi.isSome) then some (.s g 0 h m) else none
    |_,_=>none)
   |_,_=>none)
  |some _,.v (.slice none 0 0)=>(match bnds ts 0 0 lo hi mx with
   |some _=>some (.v (.slice none 0 0))
   |none=>none)
  |_,_=>none)
 |_=>none
noncomputable def indexS(P:Program)(T:TypeId)(x i:SV):Option SV :=
 match asN i,P.underlying T with
 |some k,some (.array n e)=>(match szOf P e,x with
  |some z,.p g o=>bif Nat.blt k n then some (.p g (o+k*z)) else none
  |some z,.v (.pointer (some ⟨g,o,none⟩))=>bif Nat.blt k n then some (.v (.pointer (some ⟨g,o+k*z,none⟩))) else none
  |_,_=>none)
 |some k,some (.slice e)=>(match szOf P e,x with
  |some z,.s g o n _=>bif Nat.blt k n then some (.p g (o+k*z)) else none
  |some z,.w g n=>bif Nat.blt k n then some (.p g (k*z)) else none
  |_,_=>none)
 |_,_=>none
noncomputable def rflatW(g:At→List (Rp SV)→List (Rp SV)):Rp SV→List (Rp SV)→List (Rp SV)
 | .nil,l=>l
 | .one x,l=>.one x::l
 | .arr k n m,l=>.arr k n m::l
 | .node _ _ a b,l=>rflatW g a (rflatW g b l)
 | .q a,l=>g a l
noncomputable def rflatN:Nat→At→List (Rp SV)→List (Rp SV)
 |0,a,l=>.q a::l
 |n+1,a,l=>rflatW (rflatN n) (atExp a) l
noncomputable def rflat:Rp SV→List (Rp SV)→List (Rp SV):=rflatW (rflatN 4)
noncomputable def eqC(q:Bool):List (Rp SV)→List (Rp SV)→Option Bool
 |[],[]=>some true
 | .one (.v (.int k a))::xs,.one (.v (.int j b))::ys=>bif decide (k=j)&&!q then (match eqC q xs ys with
  |some r=>some (decide (a=b)&&r)
  |none=>none) else none
 | .one (.v (.bool a))::xs,.one (.v (.bool b))::ys=>bif q then (match eqC q xs ys with
  |some r=>some ((a==b)&&r)
  |none=>none) else none
 | .arr k n l::xs,.arr j m l'::ys=>bif decide (k=j)&&(Nat.beq n m&&!q) then (match eqC q xs ys with
  |some r=>some (decide (l=l')&&r)
  |none=>none) else none
 |_,_=>none
noncomputable def expS:List (Rp SV)→List (Rp SV)
 |[]=>[]
 | .arr k n l::xs=>(List.range n).map (fun i=>.one (.v (.int k ((l.getD i 0:Nat):Int))))++expS xs
 |x::xs=>x::expS xs
noncomputable def eqCells(q:Bool)(xs ys:Rp SV):Option Bool:=match eqC q (rflat xs []) (rflat ys []) with
 |some b=>some b
 |none=>eqC q (expS (rflat xs [])) (expS (rflat ys []))
noncomputable def plainT(P:Program)(q:Bool):Nat→TypeId→Bool
 |0,_=>false
 |d+1,T=>match P.underlying T with
  |some (.int _)=>!q&&Nat.beq (P.cellsOf T) 1
  |some .bool=>q&&Nat.beq (P.cellsOf T) 1
  |some (.array n e)=>plainT P q d e&&Nat.beq (P.cellsOf T) (n*P.cellsOf e)
  |some (.struct fs) => !P.stoodInHeld T && fs.toList.all (fun f => f.name != "_" && plainT P q d f.type) && flatF P (P.cellsOf T) 0 fs.toList
  |_=>false
where
 flatF (P:Program) (n:Nat):Nat→List Field→Bool
 |o,[]=>Nat.beq o n
 |o,f::fs=>Nat.beq f.offset o&&flatF P n (o+P.cellsOf f.type) fs
noncomputable def lenS:SV→Option Nat
 | .s _ _ l _=>some l
 | .w _ l=>some l
 | .v (.slice _ l _)=>some l
 | .gs _ l=>some l
 |_=>none
noncomputable def roomW(hp:Tr)(n k:Nat)(e:TypeId):Bool:=match hp.get n with
 |some b=>Nat.beq b.k 1&&(Nat.ble k (rsize b.cs)&&Nat.beq b.T e)
 |none=>false
noncomputable def appendS(P:Program)(hp:Tr)(nx:Nat)(e:TypeId)(s x:SV):Option (SV×Tr×Nat) :=
 match szOf P e,zeroS P e with
 |some z,some _=>(match sliceCells hp z x,lenS s with
  |some (m,new),some n=>bif Nat.blt 0 z&&Nat.ble ((n+m)*(1+P.bytesOf e)) 140737488355328 then (match s with
   | .v (.slice none 0 0)=>(match m with
    |0=>some (s,hp,nx)
    |m+1=>some (.w nx (m+1),hp.put nx ⟨e,new,1⟩,nx+1))
   | .s n o l c=>bif Nat.ble (l+m) c then (match writeS hp n (o+l*z) new with
    |some hp=>some (.s n o (l+m) c,hp,nx)
    |none=>none)
    else (match sliceCells hp z s,m with
     |some (_,old),m+1=>some (.w nx (l+(m+1)),hp.put nx ⟨e,cat old new,1⟩,nx+1)
     |_,_=>none)
   | .w n l=>bif roomW hp n ((l+m)*z) e&&Nat.blt 0 m then (match writeS hp n (l*z) new with
    |some hp=>some (.w n (l+m),hp,nx)
    |none=>none)
    else (match hp.get n,m with
    |some _,0=>some (s,hp,nx)
    |some b,m+1=>bif Nat.beq b.k 1&&(Nat.beq (rsize b.cs) (l*z)&&Nat.beq b.T e) then some (.w nx (l+(m+1)),(hp.del n).put nx ⟨e,cat b.cs new,1⟩,nx+1) else none
    |none,_=>none)
   |_=>none) else none
  |_,_=>none)
 |_,_=>none
noncomputable def iv(n:Nat):SV:=.v (.int .i64 (n:Int))
noncomputable def elemOfSlice(P:Program)(T:TypeId):Option TypeId:=match P.underlying T with
 |some (.slice e)=>some e
 |_=>none
noncomputable def appZS(P:Program)(hp:Tr)(nx:Nat)(T T':TypeId)(s x:SV):Option (SV×Tr×Nat):=match elemOfSlice P T,P.underlying T',s,x with
 |some e,some (.int _),.v (.slice none 0 0),.v (.int _ (.ofNat (n+1)))=>(match zeroS P e,szOf P e with
  |some z,some k=>bif Nat.blt 0 k&&Nat.ble ((n+1)*(1+P.bytesOf e)) 140737488355328 then some (.w nx (n+1),hp.put nx ⟨e,repS z (n+1),1⟩,nx+1) else none
  |_,_=>none)
 |_,_,_,_=>none
noncomputable def builtinS(X:Ctx)(st:St)(b:Builtin)(_ty:TypeId)(at_:List TypeId)(args:List SV):Option (SV×Tr×Nat) :=
 match b,args,at_ with
 | .len,[x],[T]=>(match elemOfSlice X.P T,lenS x with
  |some _,some n=>some (iv n,st.hp,st.nx)
  |_,_=>none)
 | .cap,[.s _ _ _ c],[T]=>(match elemOfSlice X.P T with
  |some _=>some (iv c,st.hp,st.nx)
  |none=>none)
 | .cap,[.v (.slice none 0 0)],[T]=>(match elemOfSlice X.P T with
  |some _=>some (iv 0,st.hp,st.nx)
  |none=>none)
 | .append,[s,x],[T,T']=>bif Nat.beq T T' then (match elemOfSlice X.P T with
  |some e=>appendS X.P st.hp st.nx e s x
  |none=>none) else appZS X.P st.hp st.nx T T' s x
 | .copy,[d,x],[T,_]=>(match elemOfSlice X.P T with
  |some e=>(match szOf X.P e with
   |some z=>(match sliceCells st.hp z x,d with
    |some (m,cs),.s n o l _=>(match writeS st.hp n o (rtake cs (Nat.min m l*z)) with
     |some hp=>some (iv (Nat.min m l),hp,st.nx)
     |none=>none)
    |some (m,cs),.w n l=>(match writeS st.hp n 0 (rtake cs (Nat.min m l*z)) with
     |some hp=>some (iv (Nat.min m l),hp,st.nx)
     |none=>none)
    |_,_=>none)
   |none=>none)
  |none=>none)
 | .min,[.v (.int k x),.v (.int _ y)],_=>some (.v (.int k (bif decide (y<x) then y else x)),st.hp,st.nx)
 |_,_,_=>none
noncomputable def toV:SV→Option Value
 | .v x=>some x
 |_=>none
noncomputable def eqS(P:Program)(T:TypeId):SV→SV→Option Bool
 | .a xs,.a ys=>bif isRowB P T&&(!P.eqGuardType P.depth T&&(Nat.beq (rsize xs) (P.cellsOf T)&&Nat.beq (rsize ys) (P.cellsOf T))) then
  (bif plainT P false 50 T then eqCells false xs ys else bif plainT P true 50 T then eqCells true xs ys else none) else none
 |x,y=>(match P.underlying T with
  |some (.interface _)=>(match x,y with
   | .v .nilIface,.i _ _=>some false
   | .i _ _,.v .nilIface=>some false
   |_,_=>none)
  |some (.func _ _ _)=>(match x,y with
   | .v .nilFunc,.f _ _ _=>some false
   | .f _ _ _,.v .nilFunc=>some false
   |_,_=>none)
  |some (.pointer _)=>(match x,y with
   | .p _ _,.v (.pointer none)=>some false
   | .v (.pointer none),.p _ _=>some false
   |_,_=>none)
  |some (.slice _)=>(match x,y with
   | .s _ _ _ _,.v (.slice none 0 0)=>some false
   | .w _ _,.v (.slice none 0 0)=>some false
   |_,_=>none)
  |_=>none)
noncomputable def nowV(P:Program)(s:Sem Value):Option SV:=(Sem.now P s).map .v
noncomputable def bin(X:Ctx)(op:BinOp)(T:TypeId)(ox oy:Operand)(x y:SV):Option SV:=match toV x,toV y with
 |some x,some y=>nowV X.P (do eqGuard op T ox oy x y;binOp op T x y)
 |_,_=>match op with
  | .eql=>(match eqS X.P T x y with
   |some b=>some (.v (.bool b))
   |none=>none)
  | .neq=>(match eqS X.P T x y with
   |some b=>some (.v (.bool (!b)))
   |none=>none)
  |_=>none
noncomputable def pure1(st:St)(x:Option SV):Option (SV×Tr×Nat):=match x with
 |some y=>some (y,st.hp,st.nx)
 |none=>none
noncomputable def newS(st:St)(T:TypeId)(cs:Rp SV)(r:SV):SV×Tr×Nat:=(r,st.hp.put st.nx ⟨T,cs,0⟩,st.nx+1)
noncomputable def cntR(c:Rp SV):Option VCnt:=match c with
 | .q (.nodeB x)=>some (.nd x)
 | .q (.byt x)=>some (.by_ x)
 |_=>none
noncomputable def strP(X:Ctx)(hp:Tr)(a b:TypeId)(n o l:Nat):Option SV:=match hp.get n,X.P.underlying a,X.P.underlying b with
 |some bl,some (.slice e),some .string=>(match X.P.underlying e,csub bl.cs o l with
  |some (.int .u8),some row=>(match cntR row with
   |some y=>some (.b y)
   |none=>none)
  |_,_=>none)
 |_,_,_=>none
noncomputable def strS(X:Ctx)(hp:Tr)(a b:TypeId)(x:SV):Option SV:=match x with
 | .s n o l _=>strP X hp a b n o l
 | .w n l=>strP X hp a b n 0 l
 |_=>none
noncomputable def opS(X:Ctx)(st:St)(op:Op)(ty:TypeId):Option (SV×Tr×Nat) :=
 match op with
 | .move x=>pure1 st (some (ev st.ts x))
 | .assign x=>pure1 st (some (ev st.ts x))
 | .pick c a b=>(match ev st.ts c with
  | .v (.bool t)=>pure1 st (some (bif t then ev st.ts a else ev st.ts b))
  |_=>none)
 | .alloc T=>(match zeroS X.P T with
  |some cs=>some (newS st T cs (.p st.nx 0))
  |none=>none)
 | .box T x=>(match (ev st.ts x).cells with
  |some cs=>some (newS st T cs (.p st.nx 0))
  |none=>none)
 | .build T parts=>(match zeroS X.P T,X.P.underlying T with
  |some z,some (.struct fs)=>(match fs.toList.mapM (fun f=>(X.P.info? f.type).map fun i=>(f.offset,i.size)) with
   |some pl=>(match fillS (fun i=>pl[i]?) z (parts.toList.map fun x=>(x.1,ev st.ts x.2)) with
    |some cs=>some (.a cs,st.hp,st.nx)
    |none=>none)
   |none=>none)
  |some z,some (.array _ e)=>(match szOf X.P e with
   |some n=>(match fillS (fun i=>some (i*n,n)) z (parts.toList.map fun x=>(x.1,ev st.ts x.2)) with
    |some cs=>some (.a cs,st.hp,st.nx)
    |none=>none)
   |none=>none)
  |_,_=>none)
 | .buildSlice T n parts=>(match X.P.underlying T with
  |some (.slice e)=>(match zeroS X.P e,szOf X.P e with
   |some z,some k=>bif Nat.ble (n*k) 16777216&&Nat.blt 0 k then (match fillS (fun i=>some (i*k,k)) (repS z n) (parts.toList.map fun x=>(x.1,ev st.ts x.2)) with
    |some cs=>some (newS st e cs (.s st.nx 0 n n))
    |none=>none) else none
   |_,_=>none)
  |_=>none)
 | .load T x=>pure1 st (loadS X st.hp T (ev st.ts x))
 | .nilCheck x=>(match ev st.ts x with
  | .p n o=>pure1 st (some (.p n o))
  | .v (.pointer (some a))=>pure1 st (some (.v (.pointer (some a))))
  | .f (.func g) a b=>pure1 st (some (.f (.func g) a b))
  | .y n=>pure1 st (some (.y n))
  |_=>none)
 | .binOp op T x y _=>pure1 st (bin X op T x y (ev st.ts x) (ev st.ts y))
 | .unOp op _ x=>(match ev st.ts x with
  | .v x=>pure1 st (nowV X.P (Op.unary op x))
  |_=>none)
 | .convert a b x=>(match ev st.ts x with
  | .v x=>pure1 st (nowV X.P (convert a b x))
  | .s n o l c=>pure1 st (strS X st.hp a b (.s n o l c))
  | .w n l=>pure1 st (strS X st.hp a b (.w n l))
  |_=>none)
 | .sliceToArrayPointer T x=>(match X.P.underlying T,ev st.ts x with
  |some (.array n _),.s g o l _=>bif Nat.ble n l then pure1 st (some (.p g o)) else none
  |some (.array n _),.w g l=>bif Nat.ble n l then pure1 st (some (.p g 0)) else none
  |_,_=>none)
 | .makeInterface T x=>(match X.P.underlying T with
  |some (.interface _)=>none
  |some _=>pure1 st (some (.i T (ev st.ts x)))
  |none=>none)
 | .makeFunc fn a b=>pure1 st (some (.f fn (a.toList.map (ev st.ts)) (b.toList.map (ev st.ts))))
 | .makeSlice T l c=>(match X.P.underlying T,asN (ev st.ts l),asN (ev st.ts c) with
  |some (.slice e),some l,some c=>(match zeroS X.P e with
   |some z=>bif Nat.ble l c&&Nat.ble ((1+X.P.bytesOf e)*c) 281474976710656 then some (newS st e (repS z c) (.s st.nx 0 l c)) else none
   |none=>none)
  |_,_,_=>none)
 | .slice T x lo hi mx=>pure1 st (sliceS X.P T st.ts (ev st.ts x) lo hi mx)
 | .fieldAddr T x f=>(match X.P.underlying T with
  |some (.struct fs)=>(match fs.toList[f]?,ev st.ts x with
   |some fd,.p n o=>(match szOf X.P fd.type with
    |some (_+1)=>some (.p n (o+fd.offset),st.hp,st.nx)
    |_=>none)
   |_,_=>none)
  |_=>none)
 | .field T x f=>(match X.P.underlying T with
  |some (.struct fs)=>(match fs.toList[f]?,ev st.ts x with
   |some fd,.a cs=>pure1 st (ofElem X.P fd.type cs fd.offset)
   |_,_=>none)
  |_=>none)
 | .indexAddr T x i=>pure1 st (indexS X.P T (ev st.ts x) (ev st.ts i))
 | .index T x i=>(match X.P.underlying T,ev st.ts x,asN (ev st.ts i) with
  |some (.array n e),.a cs,some k=>(match szOf X.P e with
   |some z=>bif Nat.blt k n then pure1 st (ofElem X.P e cs (k*z)) else none
   |none=>none)
  |_,_,_=>none)
 | .extract x i=>(match ev st.ts x with
  | .t vs=>(match vs[i]? with
   |some y=>pure1 st (some y)
   |none=>none)
  |_=>none)
 | .call c=>(match c.callee with
  | .builtin b=>builtinS X st b ty c.argTypes.toList (c.args.toList.map (ev st.ts))
  |_=>none)
 |_=>none
def pureOp:Op→Bool
 | .move _ | .assign _ | .pick _ _ _ | .build _ _ | .load _ _ | .nilCheck _ | .binOp _ _ _ _ _ | .unOp _ _ _ | .convert _ _ _ | .sliceToArrayPointer _ _ | .makeInterface _ _ | .makeFunc _ _ _ | .slice _ _ _ _ _ | .fieldAddr _ _ _ | .field _ _ _
 | .indexAddr _ _ _ | .index _ _ _ | .extract _ _=>true
 | .call c=>(match c.callee with
  | .builtin .len=>true
  | .builtin .cap=>true
  | .builtin .min=>true
  |_=>false)
 |_=>false
def allocOp:Op→Bool
 | .alloc _ | .box _ _ | .buildSlice _ _ _ | .makeSlice _ _ _=>true
 |_=>false
inductive KI where
 |code (c:Code)
 |blk (id:Nat)
 |loop (c:Code)
 |frm (ts:Sl) (fn:Func) (d:Option Tmp) (ops:Array Oper) (rest:List Oper)
 |ds (n:Nat)
 |rng (n:Nat) (prm:Array Tmp) (asg bdy:Code) (fn:Func) (ts:Sl)
 |rbeg (n:Nat) (bdy:Code)
 |rend (n:Nat) (ts:Sl) (d:Option Tmp) (ops:Array Oper) (rest:List Oper)
inductive Hd where
 |code (c:Code)
 |ops (ops:Array Oper) (l:List Oper)
 |done (e:Exit)
structure Pos where
 h:Hd
 k:List KI
 st:St
noncomputable def guardS(ops:Array Oper)(ts:Sl)(g:Option (Nat×Bool)):Option Bool:=match g with
 |none=>some true
 |some (j,b)=>match ops[j]? with
  |some o=>(match o.dst with
   |some d=>(match nth ts d with
    | .v (.bool t)=>some (t==b)
    | .v (.tuple _)=>some false
    |_=>none)
   |none=>none)
  |none=>none
noncomputable def putS(ts:Sl)(d:Option Tmp)(v:SV):Sl:=match d with
 |some d=>setN ts d v
 |none=>ts
noncomputable def resS(X:Ctx)(st:St):ResultVar→Option SV
 | .tmp t=>some (nth st.ts t)
 | .cell t T=>loadS X st.hp T (nth st.ts t)
noncomputable def resultsS(X:Ctx)(st:St):List ResultVar→Option (List SV)
 |[]=>some []
 |r::rs=>match resS X st r,resultsS X st rs with
  |some x,some xs=>some (x::xs)
  |_,_=>none
noncomputable def entryS(P:Program)(g:FuncId):Option (Func×Code):=match P.funcs[g]? with
 |some fn=>(match fn.body with
  |some c => bif fn.name == "runtime.NumGoroutine" then none else some (fn, c)
  |none=>none)
 |none=>none
noncomputable def retS(X:Ctx)(fn:Func)(st:St):Option SV:=match resultsS X st fn.results.toList with
 |some [x]=>some x
 |some xs=>some (.t xs)
 |none=>none
def mdOf:List KI→Option Nat
 |[]=>none
 | .frm _ _ _ _ _::_=>none
 | .rng _ _ _ _ _ _::_=>none
 | .rend n _ _ _ _::_=>some n
 | .code _::k=>mdOf k
 | .blk _::k=>mdOf k
 | .loop _::k=>mdOf k
 | .ds _::k=>mdOf k
 | .rbeg n _::_=>some n
def dsOf:List KI→List Nat
 |[]=>[]
 | .frm _ _ _ _ _::_=>[]
 | .rng _ _ _ _ _ _::_=>[]
 | .rend _ _ _ _ _::_=>[]
 | .code _::k=>dsOf k
 | .blk _::k=>dsOf k
 | .loop _::k=>dsOf k
 | .ds n::k=>n::dsOf k
 | .rbeg _ _::k=>dsOf k
def addDs(n:Nat):List KI→List KI
 | .code c::k=>.code c::addDs n k
 | .blk i::k=>.blk i::addDs n k
 | .loop c::k=>.loop c::addDs n k
 |k=>.ds n::k
def findR(n:Nat):List KI→Option (Array Tmp×Code×Code×Sl)
 |[]=>none
 | .rng m prm asg bdy _ ts::k=>bif Nat.beq m n then some (prm,asg,bdy,ts) else findR n k
 |_::k=>findR n k
noncomputable def lpT(hp:Tr)(n:Nat):Option Nat:=match hp.get n with
 |some b=>bif Nat.beq b.k 5 then some b.T else none
 |none=>none
noncomputable def setLp(hp:Tr)(n T:Nat):Tr:=hp.put n ⟨T,.nil,5⟩
noncomputable def isDs(hp:Tr)(n:Nat):Bool:=match hp.get n with
 |some b=>Nat.beq b.k 6
 |none=>false
noncomputable def rngS(T:Option Nat)(norm:Option Pos)(jump:Code→Pos):Option Pos:=match T with
 |some 0=>norm
 |some 2=>some (jump .ret)
 |some (i+3)=>some (jump (.exit i))
 |_=>none
noncomputable def rendS(hp:Tr)(nx n:Nat)(ts:Sl)(d:Option Tmp)(ops:Array Oper)(rest:List Oper)(k:List KI)(T:Nat)(b:Bool):Option Pos:=match lpT hp n with
 |some 1=>some ⟨.ops ops rest,k,⟨putS ts d (.v (.bool b)),setLp hp n T,nx⟩⟩
 |_=>none
noncomputable def rngQ(v:Option SV)(q:Option Pos):Option Pos:=match v with
 |some _=>q
 |none=>none
noncomputable def exitS(X:Ctx):St→Exit→List KI→Option Pos
 |st,e,[]=>some ⟨.done e,[],st⟩
 |st,.normal,.code c::k=>some ⟨.code c,k,st⟩
 |st,e,.code _::k=>exitS X st e k
 |st,.normal,.loop c::k=>some ⟨.code c,.loop c::k,st⟩
 |st,e,.loop _::k=>exitS X st e k
 |st,.exit id,.blk j::k=>bif Nat.beq id j then exitS X st .normal k else exitS X st (.exit id) k
 |st,e,.blk _::k=>exitS X st e k
 |st,.normal,.frm ts fn d ops rest::k=>(match retS X fn st with
  |some v=>some ⟨.ops ops rest,k,⟨putS ts d v,st.hp,st.nx⟩⟩
  |none=>none)
 |st,.ret,.frm ts fn d ops rest::k=>(match retS X fn st with
  |some v=>some ⟨.ops ops rest,k,⟨putS ts d v,st.hp,st.nx⟩⟩
  |none=>none)
 |_,_,.frm _ _ _ _ _::_=>none
 |st,.normal,.ds n::k=>bif isDs st.hp n then exitS X ⟨st.ts,st.hp.del n,st.nx⟩ .normal k else none
 |st,.ret,.ds n::k=>bif isDs st.hp n then exitS X ⟨st.ts,st.hp.del n,st.nx⟩ .ret k else none
 |_,_,.ds _::_=>none
 |st,.normal,.rng n _ _ _ fn ts::k=>rngQ (retS X fn st) (rngS (lpT st.hp n) (exitS X ⟨ts,st.hp.del n,st.nx⟩ .normal k) (fun c=>⟨.code c,k,⟨ts,st.hp.del n,st.nx⟩⟩))
 |st,.ret,.rng n _ _ _ fn ts::k=>rngQ (retS X fn st) (rngS (lpT st.hp n) (exitS X ⟨ts,st.hp.del n,st.nx⟩ .normal k) (fun c=>⟨.code c,k,⟨ts,st.hp.del n,st.nx⟩⟩))
 |_,_,.rng _ _ _ _ _ _::_=>none
 |st,.normal,.rbeg n bdy::k=>(match lpT st.hp n with
  |some 0=>some ⟨.code bdy,k,⟨st.ts,setLp st.hp n 1,st.nx⟩⟩
  |_=>none)
 |_,_,.rbeg _ _::_=>none
 |st,.normal,.rend n ts d ops rest::k=>rendS st.hp st.nx n ts d ops rest k 0 true
 |st,.ret,.rend n ts d ops rest::k=>rendS st.hp st.nx n ts d ops rest k 2 false
 |st,.exit id,.rend n ts d ops rest::k=>rendS st.hp st.nx n ts d ops rest k (id+3) false
 |_,_,.rend _ _ _ _ _::_=>none
noncomputable def enterS(X:Ctx)(p:Pos)(o:Oper)(ops:Array Oper)(rest:List Oper)(g:FuncId)(args:List SV):Option Pos:=match entryS X.P g with
 |some (fn,c)=>some ⟨.code c,.frm p.st.ts fn o.dst ops rest::p.k,⟨frame args fn.ntmps,p.st.hp,p.st.nx⟩⟩
 |none=>none
noncomputable def bindS:Sl→List Tmp→List SV→Sl
 |ts,t::ps,x::xs=>bindS (setN ts t x) ps xs
 |ts,_,_=>ts
noncomputable def yieldS(p:Pos)(o:Oper)(ops:Array Oper)(rest:List Oper)(n:Nat)(args:List SV):Option Pos:=match findR n p.k,lpT p.st.hp n with
 |some (prm,asg,bdy,ts),some 0=>bif Nat.beq prm.toList.length args.length then some ⟨.code asg,.rbeg n bdy::.rend n p.st.ts o.dst ops rest::p.k,⟨bindS ts prm.toList args,p.st.hp,p.st.nx⟩⟩ else none
 |_,_=>none
noncomputable def rangeS(X:Ctx)(p:Pos)(g:Operand)(prm:Array Tmp)(asg bdy:Code):Option Pos:=match ev p.st.ts g,mdOf p.k with
 | .f (.func gf) [] b,none=>(match entryS X.P gf with
  |some (fn,c)=>some ⟨.code c,.rng (p.st.nx+1) prm asg bdy fn p.st.ts::addDs p.st.nx p.k,⟨frame (.y (p.st.nx+1)::b) fn.ntmps,setLp (p.st.hp.put p.st.nx ⟨0,.nil,6⟩) (p.st.nx+1) 0,p.st.nx+1+1⟩⟩
  |none=>none)
 |_,_=>none
noncomputable def valS(X:Ctx)(p:Pos)(o:Oper)(ops:Array Oper)(rest:List Oper):Option Pos:=match opS X p.st o.op o.type with
 |some r=>some ⟨.ops ops rest,p.k,⟨putS p.st.ts o.dst r.1,r.2.1,r.2.2⟩⟩
 |none=>none
noncomputable def convS(X:Ctx)(p:Pos)(a b:TypeId)(x:SV):Option (SV×Tr):=match x with
 | .s n i l c=>(match X.P.underlying a with
  |some (.slice e)=>(match X.P.underlying e with
   |some (.int .u8)=>(match p.st.hp.get n with
    |some bl=>bif Nat.beq a b&&Nat.beq bl.k 0 then some (.s n i l c,p.st.hp.put n ⟨bl.T,bl.cs,7⟩) else none
    |none=>none)
   |_=>none)
  |_=>none)
 |_=>none
noncomputable def oneS(X:Ctx)(p:Pos)(o:Oper)(ops:Array Oper)(rest:List Oper):Option Pos :=
 match guardS ops p.st.ts o.guard with
 |some false=>some ⟨.ops ops rest,p.k,⟨putS p.st.ts o.dst undefS,p.st.hp,p.st.nx⟩⟩
 |some true=>(match o.op with
  | .store T x y=>(match ev p.st.ts x,(ev p.st.ts y).cells,szOf X.P T with
   | .p n i,some cs,some z=>bif Nat.beq (rsize cs) z&&o.dst.isNone then (match writeS p.st.hp n i cs with
    |some hp=>some ⟨.ops ops rest,p.k,⟨p.st.ts,hp,p.st.nx⟩⟩
    |none=>none) else none
   |_,_,_=>none)
  | .call c=>(match c.callee with
   | .value f=>(match ev p.st.ts f with
    | .f (.func g) a b=>enterS X p o ops rest g (a++(c.args.toList.map (ev p.st.ts)++b))
    | .y n=>yieldS p o ops rest n (c.args.toList.map (ev p.st.ts))
    |_=>none)
   |_=>valS X p o ops rest)
  | .convert a b x=>(match convS X p a b (ev p.st.ts x) with
   |some (y,hp)=>some ⟨.ops ops rest,p.k,⟨putS p.st.ts o.dst y,hp,p.st.nx⟩⟩
   |none=>valS X p o ops rest)
  |_=>valS X p o ops rest)
 |none=>none
noncomputable def scopeS(p:Pos)(b:Code):Option Pos:=match mdOf p.k with
 |none=>some ⟨.code b,p.k,p.st⟩
 |some _=>none
noncomputable def step(X:Ctx)(p:Pos):Option Pos:=match p.h with
 | .code .skip=>exitS X p.st .normal p.k
 | .code (.label _)=>exitS X p.st .normal p.k
 | .code (.scope b)=>scopeS p b
 | .code (.seq a b)=>some ⟨.code a,.code b::p.k,p.st⟩
 | .code (.block id b)=>some ⟨.code b,.blk id::p.k,p.st⟩
 | .code (.exit id)=>exitS X p.st (.exit id) p.k
 | .code .ret=>exitS X p.st .ret p.k
 | .code (.cond c a b)=>(match ev p.st.ts c with
  | .v (.bool true)=>some ⟨.code a,p.k,p.st⟩
  | .v (.bool false)=>some ⟨.code b,p.k,p.st⟩
  |_=>none)
 | .code (.loop b)=>some ⟨.code b,.loop b::p.k,p.st⟩
 | .code (.region _ ops false)=>some ⟨.ops ops ops.toList,p.k,p.st⟩
 | .code (.rangeFunc g prm asg bdy)=>rangeS X p g prm asg bdy
 | .ops _ []=>exitS X p.st .normal p.k
 | .ops ops (o::rest)=>oneS X p o ops rest
 |_=>none
noncomputable def callPos(X:Ctx)(g:FuncId)(args:List SV):Pos:=match entryS X.P g with
 |some (fn,c)=>⟨.code c,[],⟨frame args fn.ntmps,.e,0⟩⟩
 |none=>⟨.done .normal,[],⟨⟨.e,0⟩,.e,0⟩⟩
end Go.Proofs.YtjboelhcieepkaaGreatDoor
