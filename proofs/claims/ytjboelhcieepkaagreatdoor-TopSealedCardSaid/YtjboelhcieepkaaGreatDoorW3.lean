/- A part of the proof of TopSealed. -/
import Derived.Test.YtjboelhcieepkaaGreatDoorW2
import Derived.Deep.Cut
import Derived.LoopTactic
import Derived.ChangeKeysEq
import Derived.Great.BuildSlice
import Derived.Lib.UnsafeStr
noncomputable section
set_option maxRecDepth 16384
namespace Go.Proofs.YtjboelhcieepkaaGreatDoor
open Go.RowKit Sh
section
variable {P:Program}{l:List Oper}{Q:Exit->Act->World->Prop}{S:World->Prop}{ts:List Value}{df:List Deferred}{w:World}
theorem aEY{op:Oper}{a:Act}(ty:TypeId)(x:Operand)(ho:op.op=.box ty x)(v:Value)(hx:a.eval x=v):
 (execOp a.eval op).run P w=.ok (.value (.pointer (some ⟨w.heap.size,0,none⟩))) (w.alloc (.cells v.cells ty)):=by
 unfold execOp
 simp only [ho]
 simp [Instr.box,newVar,newRow,hx]
theorem oO{op:Oper}{a:Act}(ty:TypeId)(ho:op.op=.alloc ty)(v:Value)(hz:(zeroValue ty).run P w=.ok v w):
 (execOp a.eval op).run P w=.ok (.value (.pointer (some ⟨w.heap.size,0,none⟩))) (w.alloc (.cells v.cells ty)):=by
 unfold execOp
 simp only [ho]
 simp [Instr.alloc,hz,newVar,newRow]
theorem a20(ty:TypeId)(a:Addr)(v:Value)(d:TypeDesc)(hu:P.underlying ty=some d)(hd:(match d with | .struct _ | .array _ _=>true|_=>false)=false)(hc:w.cell? a=some v):(loadVar ty a).run P w=.ok v w:=by
 have hu':=run_underlying (w:=w) (P:=P) hu
 cases d<;>simp_all [loadVar,isAgg]
theorem mC{op:Oper}{a:Act}(ty:TypeId)(x:Operand)(ho:op.op=.load ty x)(g i:Nat)(hx:a.eval x=.pointer (some ⟨g,i,none⟩))(v:Value)(d:TypeDesc)
 (hu:P.underlying ty=some d) (hd:(match d with | .struct _ | .array _ _=>true|_=>false)=false) (hc:w.cell? ⟨g,i,none⟩=some v):(execOp a.eval op).run P w=.ok (.value v) w:=by
 unfold execOp
 simp only [ho,hx,Instr.loadAt,Instr.sureAddr,Sem.run_bind,Sem.run_pure,Result.andThen_ok,a20 ty ⟨g,i,none⟩ v d hu hd hc]
theorem aC.cellIs{g:Nat}{t:TypeId}{cs:Array Value}(h:aC w g t cs)(i:Nat){v:Value}(hv:cs[i]?=some v):w.cell? ⟨g,i,none⟩=some v:=by rw [h.cell,hv]
theorem uR{o:Option Nat}{a b:Nat}(h1:o=some a)(h2:o=some b):a=b:=by rw [h1] at h2;exact jR h2
theorem vZ(k:IntKind)(l:List Nat):∀v∈(va k l).toList,v.oneCell'=true:=λv hv=>gN k l v (by simpa [va] using hv)
end
theorem aJp(w:World)(p:Addr)(n:Nat):(w.freeze p n).heap.size=w.heap.size:=by
 unfold World.freeze;split<;>simp
theorem bBj(w:World)(p q:Addr)(n:Nat):(w.freeze p n).cell? q=w.cell? q:=by
 by_cases hn:n=0
 ·unfold World.freeze;rw [if_pos hn]
 ·unfold World.freeze World.cell?
  rw [if_neg hn]
  simp only [Array.getElem?_modify]
  by_cases h:p.block=q.block
  ·rw [if_pos h]
   cases w.heap[q.block]? with
   |none=>rfl
   |some o=>cases o<;>rfl
  ·rw [if_neg h]
structure mR(W:World)(g:Nat)(l:List Nat):Prop where
 lt:g<W.heap.size
 c:∀j v,(nv .u8 l)[j]?=some v->W.cell? ⟨g,j,Option.none⟩=some v
theorem mR.below{W W2:World}{g B:Nat}{l:List Nat}(h:mR W g l)(b:Below B W W2)(hB:g<B):mR W2 g l :=
 ⟨eQ h.lt b.size,λj v hv=>(b.cell (p:=⟨g,j,Option.none⟩) hB).trans (h.c j v hv)⟩
theorem mR.alloc{W:World}{g:Nat}{l:List Nat}(h:mR W g l)(o:Obj):mR (W.alloc o) g l:=h.below ((Below.refl _ _).alloc (aS _) o) h.lt
section
variable {P:Program}{w:World}
end
section
variable {W:World}
theorem bH.part{B n o m:Nat}{ad:Addr}{k:IntKind}{l:List Nat}(h:bH W B 1 (some ad) n (nv k l))(hm:o+m≤n):bH W B 1 (some (ad.add o)) m (nv k ((l.drop o).take m)):=by
 have hl:=h.len
 refine ⟨by rw [aZ];simp;omega,λhpos=>?_⟩
 obtain ⟨ad',e,hb,hc⟩:=h.2 (by omega)
 injection e with e
 subst e
 refine ⟨_,rfl,by rw [D6];exact hb,λj u hu=>?_⟩
 rw [aKK]
 refine hc _ u ?_
 rw [<-tW,<-rT,List.getElem?_take] at hu
 split at hu
 ·rw [List.getElem?_drop] at hu;exact hu
 ·cases hu
theorem X5(W:World):(Instr.buildSlice 23 0 #[]).run Tryz.prog W=.ok (.slice (some ⟨W.heap.size,0,none⟩) 0 0) (W.alloc (.cells (va .u8 []) 5)):=by
 obtain ⟨ie,hie,h0,h1,h2⟩:=info_parts xM
 simp [Instr.buildSlice,run_underlying Tryz.underlying23,sizeOf,typeInfo,hie,Instr.fill,newRow,va,nv]
 congr 2
 apply Array.ext<;>simp
theorem zH(x:Nat)(W:World):(Instr.buildSlice 23 1 #[(0,.int .u8 (x:Nat))]).run Tryz.prog W=.ok (.slice (some ⟨W.heap.size,0,none⟩) 1 1) (W.alloc (.cells (va .u8 [x]) 5)):=by
 obtain ⟨ie,hie,h0,h1,h2⟩:=info_parts xM
 refine run_buildSlice W _ 5 1 _ (va .u8 [x]) ie _ Tryz.underlying23 hie h0 (by rw [h1];decide) (by rw [h1];decide) ?_
 rw [h1];kernel_rfl
end
section
variable {P:Program}{l:List Oper}{Q:Exit->Act->World->Prop}{S:World->Prop}{fuel:Nat}{listed:Array Bool}{ts:List Value}{df:List Deferred}{w:World}{md:Region.Mode}
theorem aMU(fuel i:Nat)(w2:World){o:Oper}{r:List Oper}{rs:List Nat}(hi:l.drop i=o::r)(hdst:o.dst=none)(hw:Region.wanted o (yielded l.toArray ts.toArray)=true)
 (hrun:(execOp (Act.eval ⟨ts.toArray,df⟩) o).run P w=.ok .skip w2) (hS:S w2)
 (h:S w2->wpAnyH P md l.toArray Q S fuel (listed.setIfInBounds i true) ⟨ts.toArray,df⟩ w2)
 (hs:AllReadyH P md l.toArray Q S fuel listed ⟨ts.toArray,df⟩ w rs):AllReadyH P md l.toArray Q S fuel listed ⟨ts.toArray,df⟩ w (i::rs):=by
 refine AllReadyH.cons (zQ hi) (λK hK=>?_) hs
 rw [if_pos hw]
 unfold Oper.wp
 rw [hrun]
 refine hK.out _ _ hS λhS=>?_
 rw [hdst]
 exact h hS
theorem qG{op:Oper}{a:Act}(ty:TypeId)(x y:Operand)(ho:op.op=.store ty x y)(g:Nat)(hx:a.eval x=.pointer (some ⟨g,0,none⟩))(c:Array Value)(hy:a.eval y=.agg c)(t:TypeId)(old:Array Value)(hb:aC w g t old)(hs:old.size=c.size)
 (hin:(P.info? ty).map (·.size)=some c.size) (h1:∀v∈c.toList,v.oneCell'=true):(execOp a.eval op).run P w=.ok .skip (w.setRow g c):=by
 unfold execOp
 simp only [ho,hx,hy,Instr.storeAt,Instr.sureAddr,Sem.run_bind,Sem.run_pure,Result.andThen_ok,aER hb c hs hin h1]
theorem W8{op:Oper}{a:Act}(ty:TypeId)(x y:Operand)(ho:op.op=.store ty x y)(g i:Nat)(hx:a.eval x=.pointer (some ⟨g,i,none⟩))(v:Value)(hy:a.eval y=v)(hv:v.cells=#[v])(h1:v.oneCell'=true)(t:TypeId)(old:Array Value)(hb:aC w g t old)(hi:i<old.size)
 (hin:(P.info? ty).map (·.size)=some 1):(execOp a.eval op).run P w=.ok .skip (w.setCell ⟨g,i,none⟩ v):=by
 cases hq:P.info? ty with
 |none=>simp [hq] at hin
 |some f =>
  have hs:f.size=1:=by simpa [hq] using hin
  have hc:w.cell? ⟨g,i,none⟩=some old[i]:=by rw [hb.cell];exact tL hi
  have hf:=hb.frozen i
  have e:(storeVar ty ⟨g,i,none⟩ v).run P w=.ok () (w.setCell ⟨g,i,none⟩ v):=by
   have e0:(⟨g,i,none⟩:Addr).add 0=⟨g,i,none⟩:=rfl
   have e1:=run_store P w ⟨g,i,none⟩ v .plain h1
   simp only [hc,hf] at e1
   simp [storeVar,sizeOf,typeInfo,hq,hs,hv,storeCells,e0,e1]
  unfold execOp
  simp only [ho,hx,hy,Instr.storeAt,Instr.sureAddr,Sem.run_bind,Sem.run_pure,Result.andThen_ok,e]
end
section
variable {w:World}
end
section
variable {P:Program}{w w2:World}
theorem aUG{g:Nat}{t:TypeId}{cs:Array Value}(h:aC w g t cs):w.setRow g cs=w:=by
 have e:(w.setRow g cs).heap=w.heap:=by
  apply Array.ext_getElem?
  intro i
  by_cases hi:g=i
  ·subst hi
   rw [h.row cs];exact h.symm
  ·exact sJ w g cs i hi
 calc w.setRow g cs={ w with heap:=(w.setRow g cs).heap }:=rfl
  _={ w with heap:=w.heap }:=by rw [e]
  _=w:=rfl
theorem j8{op:Oper}{a:Act}(t1 t2:TypeId)(x y:Operand)(ho:op.op=.call { callee:=.builtin .append,args:=#[x,y],argTypes:=#[t1,t2] })(v1 v2 v:Value)(hx:a.eval x=v1)(hy:a.eval y=v2)
 (h:(Builtin.append_ #[t1,t2] op.type #[v1,v2]).run P w=.ok v w2):(execOp a.eval op).run P w=.ok (.value v) w2:=by
 unfold execOp
 simp only [ho,resolve,invoke,builtin,Sem.run_bind,Sem.run_pure,Result.andThen_ok,List.map_toArray,List.map_cons,List.map_nil,hx,hy,h]
end
structure WL(P:Program)(ops:Array Oper)(Q:Exit->Act->World->Prop)(l:List Oper)(a:Act)(w:World):Prop where
 out:wpList P ops Q l a w
section
variable {P:Program}{Q:Exit->Act->World->Prop}{ts:List Value}{df:List Deferred}{w:World}
theorem c9{id:Nat}{l:List Oper}{a:Act}(h:WL P l.toArray Q l a w):(Code.region id l.toArray false).wp P Q a w:=wp_region_lit h.out
theorem dA{ops:Array Oper}{a:Act}(h:Q .normal a w):WL P ops Q [] a w:=⟨wpList_nil h⟩
theorem aY{o:Oper}{rest:List Oper}{ops:Array Oper}(d:Nat)(v:Value)(hdst:o.dst=some d)(hw:Region.wanted o (yielded ops ts.toArray)=true)
 (hrun:(execOp (Act.eval ⟨ts.toArray,df⟩) o).run P w=.ok (.value v) w) (h:WL P ops Q rest ⟨(ts.set d v).toArray,df⟩ w):WL P ops Q (o::rest) ⟨ts.toArray,df⟩ w:=⟨a6G d v hdst hw hrun h.out⟩
theorem xK{o:Oper}{rest:List Oper}{ops:Array Oper}(d:Nat)(hdst:o.dst=some d)(hw:Region.wanted o (yielded ops ts.toArray)=true)
 (h:∀K:Act->World->Prop,Shut (∀v w,WL P ops Q rest ⟨(ts.set d v).toArray,df⟩ w->K (Act.put ⟨ts.toArray,df⟩ o.dst v) w)->Oper.wp P o ⟨ts.toArray,df⟩ w K Q):WL P ops Q (o::rest) ⟨ts.toArray,df⟩ w :=
 ⟨bDJ d hdst hw λK hK=>h K (λv w hn=>hK v w hn.out)⟩
theorem dD{o:Oper}{rest:List Oper}{ops:Array Oper}(d:Nat)(v:Value)(w2:World)(hdst:o.dst=some d)(hw:Region.wanted o (yielded ops ts.toArray)=true)
 (hrun:(execOp (Act.eval ⟨ts.toArray,df⟩) o).run P w=.ok (.value v) w2) (h:WL P ops Q rest ⟨(ts.set d v).toArray,df⟩ w2):WL P ops Q (o::rest) ⟨ts.toArray,df⟩ w:=⟨a3j d v w2 hdst hw hrun h.out⟩
theorem oG{o:Oper}{rest:List Oper}{ops:Array Oper}(w2:World)(hdst:o.dst=none)(hw:Region.wanted o (yielded ops ts.toArray)=true)
 (hrun:(execOp (Act.eval ⟨ts.toArray,df⟩) o).run P w=.ok .skip w2) (h:WL P ops Q rest ⟨ts.toArray,df⟩ w2):WL P ops Q (o::rest) ⟨ts.toArray,df⟩ w:=⟨a0T w2 hdst hw hrun h.out⟩
end
end Go.Proofs.YtjboelhcieepkaaGreatDoor
namespace Go.Proofs.YtjboelhcieepkaaGreatDoor.Sh
def frc{α:Type}(n:Nat)(f:Nat->α):α:=Nat.rec (motive:=λ_=>α) (f 0) (λm _=>f (m+1)) n
theorem frc_eq{α:Type}(n:Nat)(f:Nat->α):frc n f=f n:=by cases n<;>rfl
def a6l(x:Nat):Nat:=(Nat.xor (Nat.xor (Nat.lor (Nat.shiftRight x 7) (Nat.mod (Nat.shiftLeft x 25) 4294967296)) (Nat.lor (Nat.shiftRight x 18) (Nat.mod (Nat.shiftLeft x 14) 4294967296))) (Nat.shiftRight x 3))
def aWQ(x:Nat):Nat:=(Nat.xor (Nat.xor (Nat.lor (Nat.shiftRight x 17) (Nat.mod (Nat.shiftLeft x 15) 4294967296)) (Nat.lor (Nat.shiftRight x 19) (Nat.mod (Nat.shiftLeft x 13) 4294967296))) (Nat.shiftRight x 10))
def aUq(x:Nat):Nat:=(Nat.xor (Nat.xor (Nat.lor (Nat.shiftRight x 2) (Nat.mod (Nat.shiftLeft x 30) 4294967296)) (Nat.lor (Nat.shiftRight x 13) (Nat.mod (Nat.shiftLeft x 19) 4294967296))) (Nat.lor (Nat.shiftRight x 22) (Nat.mod (Nat.shiftLeft x 10) 4294967296)))
def aV7(x:Nat):Nat:=(Nat.xor (Nat.xor (Nat.lor (Nat.shiftRight x 6) (Nat.mod (Nat.shiftLeft x 26) 4294967296)) (Nat.lor (Nat.shiftRight x 11) (Nat.mod (Nat.shiftLeft x 21) 4294967296))) (Nat.lor (Nat.shiftRight x 25) (Nat.mod (Nat.shiftLeft x 7) 4294967296)))
def aII(t:Nat):Nat:=Nat.mod (Nat.shiftRight kT (Nat.mul 32 t)) 4294967296
def t1R(k w e f g h:Nat):Nat:=(Nat.mod (Nat.add (Nat.mod (Nat.add (Nat.mod (Nat.add (Nat.mod (Nat.add h (aV7 e)) 4294967296) (Nat.xor (Nat.land e f) (Nat.land (Nat.sub 4294967295 e) g))) 4294967296) k) 4294967296) w) 4294967296)
def t2R(a b c:Nat):Nat:=(Nat.mod (Nat.add (aUq a) (Nat.xor (Nat.xor (Nat.land a b) (Nat.land a c)) (Nat.land b c))) 4294967296)
def zY(l:List Nat):Nat->Nat:=List.rec (motive:=λ_=>Nat->Nat) (λ_=>0) (λx _ ih n=>Nat.rec (motive:=λ_=>Nat) x (λm _=>ih m) n) l
theorem Q4:∀(l:List Nat) (n:Nat),zY l n=l.getD n 0
 |[],n=>by simp [zY]
 |x::l,0=>rfl
 |x::l,n+1=>(Q4 l n).trans (by simp)
def aCn(l:List Nat):Nat:=(Nat.mod (Nat.add (Nat.mod (Nat.add (Nat.mod (Nat.add (aWQ (zY l 1)) (zY l 6)) 4294967296) (a6l (zY l 14))) 4294967296) (zY l 15)) 4294967296)
theorem bBb(l:List Nat):aCn l=Z9 l:=by
 unfold aCn Z9
 rw [Q4,Q4,Q4,Q4]
 rfl
def K2(n:Nat):List Nat->List Nat:=Nat.rec (motive:=λ_=>List Nat->List Nat) (λl=>l) (λ_ ih l=>frc (aCn l) λx=>ih (x::l)) n
theorem aIf(b:List Nat):∀n m,K2 n (jA b m)=jA b (m+n)
 |0,m=>rfl
 |n+1,m=>by
  show frc (aCn (jA b m)) (λx=>K2 n (x::jA b m))=_
  rw [frc_eq,bBb]
  show K2 n (jA b (m+1))=_
  rw [aIf b n (m+1)]
  congr 1;omega
def rGo(ws:List Nat):Nat->Nat->Nat->Nat->Nat->Nat->Nat->Nat->Nat->List Nat :=
 List.rec (motive:=λ_=>Nat->Nat->Nat->Nat->Nat->Nat->Nat->Nat->Nat->List Nat) (λ_ a b c d e f g h=>[a,b,c,d,e,f,g,h])
  (λw _ ih t a b c d e f g h=>frc (t1R (aII t) w e f g h) λx=>frc (Nat.mod (Nat.add x (t2R a b c)) 4294967296) λa'=>frc (Nat.mod (Nat.add d x) 4294967296) λe'=>ih (t+1) a' a b c e' e f g) ws
theorem aJ2(H b:List Nat):∀(n t:Nat),t+n=64->∀a0 a1 a2 a3 a4 a5 a6 a7,nQ H b t=[a0,a1,a2,a3,a4,a5,a6,a7]->rGo ((List.range' t n).map (eE b)) t a0 a1 a2 a3 a4 a5 a6 a7=nQ H b 64
 |0,t,ht,a0,a1,a2,a3,a4,a5,a6,a7,h=>by
  obtain rfl:t=64:=by omega
  rw [h];rfl
 |n+1,t,ht,a0,a1,a2,a3,a4,a5,a6,a7,h=>by
  rw [List.range'_succ,List.map_cons]
  show frc (t1R (aII t) (eE b t) a4 a5 a6 a7) (λx=>frc (Nat.mod (Nat.add x (t2R a0 a1 a2)) 4294967296) λa'=>frc (Nat.mod (Nat.add a3 x) 4294967296) λe'=>rGo ((List.range' (t+1) n).map (eE b)) (t+1) a' a0 a1 a2 e' a4 a5 a6)=_
  rw [frc_eq,frc_eq,frc_eq]
  refine aJ2 H b n (t+1) (by omega) _ _ _ _ _ _ _ _ ?_
  show E6 (pO t) (eE b t) (nQ H b t)=_
  rw [h]
  rfl
def frcL{α:Type}(l:List Nat):(List Nat->α)->α:=List.rec (motive:=λ_=>(List Nat->α)->α) (λf=>f []) (λx _ ih f=>frc x λx=>ih λl=>f (x::l)) l
theorem frcL_eq{α:Type}:∀(l:List Nat) (f:List Nat->α),frcL l f=f l
 |[],f=>rfl
 |x::l,f=>by
  show frc x (λx=>frcL l λl=>f (x::l))=_
  rw [frc_eq,frcL_eq l]
def compF(H b:List Nat):List Nat:=tK H (rGo (frcL (jA b 0) (K2 48)).reverse 0 (H.getD 0 0) (H.getD 1 0) (H.getD 2 0) (H.getD 3 0) (H.getD 4 0) (H.getD 5 0) (H.getD 6 0) (H.getD 7 0))
theorem compF_eq(H b:List Nat)(hH:H.length=8):compF H b=comp H b:=by
 unfold compF comp
 congr 1
 have e:(frcL (jA b 0) (K2 48)).reverse=(List.range' 0 64).map (eE b):=by
  rw [frcL_eq,aIf b 48 0]
  apply List.ext_getElem
  ·simp [X0]
  ·intro i h1 h2
   simp [X0] at h1
   simp only [List.getElem_map,List.getElem_range',eE,List.getElem_reverse]
   rw [cP,eZ (by rw [X0];omega)]
   simp [X0]
 rw [e]
 refine aJ2 H b 64 0 rfl _ _ _ _ _ _ _ _ ?_
 show H=_
 match H,hH with
 |[_,_,_,_,_,_,_,_],_=>rfl
theorem comp_len8(H b:List Nat):(comp H b).length=8:=by simp [comp,tK]
theorem a1d(l:List Nat):∀n,(hs l n).length=8
 |0=>by simp [hs,hL]
 |n+1=>comp_len8 _ _
def U5(l:List Nat)(n:Nat):Nat->List Nat->List Nat :=
 Nat.rec (motive:=λ_=>Nat->List Nat->List Nat) (λ_ H=>H) (λ_ ih i H=>frcL (compF H ((l.drop (64*i)).take 64)) λH=>ih (i+1) H) n
theorem aI4(l:List Nat):∀n i,U5 l n i (hs l i)=hs l (i+n)
 |0,i=>rfl
 |n+1,i=>by
  show frcL (compF (hs l i) ((l.drop (64*i)).take 64)) (λH=>U5 l n (i+1) H)=_
  rw [frcL_eq,compF_eq _ _ (a1d l i)]
  show U5 l n (i+1) (hs l (i+1))=_
  rw [aI4 l n (i+1)]
  congr 1;omega
def shaF(l:List Nat):List Nat:=frcL (cV l) λp=>frcL (flat (U5 p (p.length / 64) 0 hL)) λd=>d
theorem shaF_eq(l:List Nat):shaF l=sha l:=by
 unfold shaF
 rw [frcL_eq,frcL_eq]
 have:=aI4 (cV l) ((cV l).length / 64) 0
 rw [Nat.zero_add] at this
 show flat (U5 (cV l) ((cV l).length / 64) 0 (hs (cV l) 0))=_
 rw [this];rfl
end Go.Proofs.YtjboelhcieepkaaGreatDoor.Sh
namespace Go.Proofs.YtjboelhcieepkaaGreatDoor
open Go.RowKit
structure aA where
 s:Nat
 sh:Nat
 c:Nat
 tag:List Nat
 hs:s≤2
 h0:s=0->sh=0∧c=0∧tag=List.replicate 32 0
 hsh:sh<4294967296
 hc:c<18446744073709551616
 ht:tag.length=32
 hb:Sh.Byt tag
structure aJ where
 s:Nat
 dig:List Nat
 hs:s≤2
 h0:s=0->dig=List.replicate 32 0
 ht:dig.length=32
 hb:Sh.Byt dig
def aA.nnc(x:aA):List Value:=[.int .u32 (x.sh:Int),.int .u64 (x.c:Int)]
def aA.nncB(x:aA):List Nat:=Sh.beB x.sh 4++Sh.beB x.c 8
def aA.vals(x:aA):List Value:=[.int .u8 (x.s:Int)]++(x.nnc++nv .u8 x.tag)
def aA.bytes(x:aA):List Nat:=[x.s]++(x.nncB++x.tag)
def aJ.vals(x:aJ):List Value:=[.int .u8 (x.s:Int)]++nv .u8 x.dig
def aJ.bytes(x:aJ):List Nat:=[x.s]++x.dig
def dG:aA:=⟨0,0,0,List.replicate 32 0,by decide,λ_=>⟨rfl,rfl,rfl⟩,by decide,by decide,rfl,λx hx=>by rw [List.eq_of_mem_replicate hx];decide⟩
def cC:aJ:=⟨0,List.replicate 32 0,by decide,λ_=>rfl,rfl,λx hx=>by rw [List.eq_of_mem_replicate hx];decide⟩
inductive bD where
 |leaf (ix:Nat) (a b c d:aA) (h:ix≤7)
 |inner (lv ix:Nat) (a b c d:aJ) (hl:1≤lv∧lv≤2) (h:ix≤7)
def lT(a b c d:aA):List Value:=a.vals++(b.vals++(c.vals++d.vals))
def l8(a b c d:aJ):List Value:=a.vals++(b.vals++(c.vals++d.vals))
def bD.vals:bD->List Value
 | .leaf ix a b c d _=>[.int .u8 0]++([.int .u32 (ix:Int)]++(lT a b c d++l8 cC cC cC cC))
 | .inner lv ix a b c d _ _=>[.int .u8 (lv:Int)]++([.int .u32 (ix:Int)]++(lT dG dG dG dG++l8 a b c d))
def bD.bytes:bD->List Nat
 | .leaf ix a b c d _=>[0]++(Sh.beB ix 4++(a.bytes++(b.bytes++(c.bytes++d.bytes))))
 | .inner lv ix a b c d _ _=>[lv]++(Sh.beB ix 4++(a.bytes++(b.bytes++(c.bytes++d.bytes))))
theorem aA.len(x:aA):x.vals.length=35:=by simp [aA.vals,aA.nnc,aZ,x.ht]
theorem aA.blen(x:aA):x.bytes.length=45:=by simp [aA.bytes,aA.nncB,Sh.beB,x.ht]
theorem aJ.len(x:aJ):x.vals.length=33:=by simp [aJ.vals,aZ,x.ht]
theorem aJ.blen(x:aJ):x.bytes.length=33:=by simp [aJ.bytes,x.ht]
theorem I6(a b c d:aA):(lT a b c d).length=140:=by simp [lT,aA.len]
theorem aCA(a b c d:aJ):(l8 a b c d).length=132:=by simp [l8,aJ.len]
structure cD where
 l:List Nat
 n:Nat
 hl:l.length=n
 hb:Sh.Byt l
inductive aQ where
 |nd (x:bD)
 |by_ (x:cD)
def aQ.l:aQ->List Nat
 | .nd x=>x.bytes
 | .by_ x=>x.l
def aQ.n:aQ->Nat
 | .nd (.leaf ..)=>185
 | .nd (.inner ..)=>137
 | .by_ x=>x.n
theorem aQ.hl(x:aQ):x.l.length=x.n:=by
 cases x with
 |nd x=>cases x<;>simp [aQ.l,aQ.n,bD.bytes,Sh.beB,aA.blen,aJ.blen]
 |by_ x=>exact x.hl
def cD.st(x:cD):List Value:=jO true (Sh.hs x.l (x.n / 64)) (qU x.l) x.n
inductive At where
 |rcd (x:aA)
 |rcdB (x:aA)
 |ent (x:aJ)
 |entB (x:aJ)
 |nnc (x:aA)
 |nncB (x:aA)
 |node (x:bD)
 |nodeB (x:bD)
 |tag (x:aA)
 |dig (x:aJ)
 |sha (l:List Nat)
 |byt (x:cD)
 |st (x:cD)
 |gh (t N:Nat) (l:List (Option aQ))
 |bit (b:Bool)
def aV(b:Bool):Nat:=bif b then 1 else 0
def At.vals:At->List Value
 | .rcd x=>x.vals
 | .rcdB x=>nv .u8 x.bytes
 | .ent x=>x.vals
 | .entB x=>nv .u8 x.bytes
 | .nnc x=>x.nnc
 | .nncB x=>nv .u8 x.nncB
 | .node x=>x.vals
 | .nodeB x=>nv .u8 x.bytes
 | .tag x=>nv .u8 x.tag
 | .dig x=>nv .u8 x.dig
 | .sha l=>nv .u8 (Sh.shaF l)
 | .byt x=>nv .u8 x.l
 | .st x=>x.st
 | .gh _ _ _=>[]
 | .bit b=>[.int .i64 (aV b:Int)]
def At.size:At->Nat
 | .rcd _=>35
 | .rcdB _=>45
 | .ent _=>33
 | .entB _=>33
 | .nnc _=>2
 | .nncB _=>12
 | .node _=>274
 | .nodeB (.leaf ..)=>185
 | .nodeB (.inner ..)=>137
 | .tag _=>32
 | .dig _=>32
 | .sha _=>32
 | .byt x=>x.n
 | .st _=>74
 | .gh _ _ _=>0
 | .bit _=>1
theorem pS(l:List Nat):(Sh.shaF l).length=32:=by rw [Sh.shaF_eq];simp [Sh.sha,Sh.flat]
theorem rK(l:List Nat):Sh.Byt (Sh.shaF l):=by
 rw [Sh.shaF_eq]
 intro x hx
 simp only [Sh.sha,Sh.flat,dC] at hx
 obtain ⟨i,_,rfl⟩:=hx
 exact Nat.mod_lt _ (by decide)
theorem At.len(a:At):a.vals.length=a.size:=by
 cases a with
 |rcd x=>simp [At.vals,aA.vals,aA.nnc,aZ,x.ht,At.size]
 |rcdB x=>simp [At.vals,aA.bytes,aA.nncB,aZ,Sh.beB,x.ht,At.size]
 |ent x=>simp [At.vals,aJ.vals,aZ,x.ht,At.size]
 |entB x=>simp [At.vals,aJ.bytes,aZ,x.ht,At.size]
 |nnc x=>rfl
 |nncB x=>simp [At.vals,aA.nncB,aZ,Sh.beB,At.size]
 |node x=>cases x<;>simp [At.vals,bD.vals,I6,aCA,At.size]
 |nodeB x=>cases x<;>simp [At.vals,aZ,bD.bytes,Sh.beB,aA.blen,aJ.blen,At.size]
 |tag x=>simp [At.vals,aZ,x.ht,At.size]
 |dig x=>simp [At.vals,aZ,x.ht,At.size]
 |sha l=>simp [At.vals,aZ,pS,At.size]
 |byt x=>simp [At.vals,aZ,x.hl,At.size]
 |st x=>exact aH3 _ _ _ _ (Sh.hs_len _ _) (aNw _)
 |gh _ _ _=>rfl
 |bit _=>rfl
theorem aA.one(x:aA):∀v∈x.vals,v.oneCell'=true:=by
 have n1:∀(k:IntKind) (x:Int),(Value.int k x).oneCell'=true:=λ_ _=>rfl
 intro v hv
 simp only [aA.vals,aA.nnc,eL,bG,cK,or_false] at hv
 rcases hv with rfl|(rfl|rfl)|hv
 ·exact n1 _ _
 ·exact n1 _ _
 ·exact n1 _ _
 ·exact gN _ _ v hv
theorem aJ.one(x:aJ):∀v∈x.vals,v.oneCell'=true:=by
 have n1:∀(k:IntKind) (x:Int),(Value.int k x).oneCell'=true:=λ_ _=>rfl
 intro v hv
 simp only [aJ.vals,eL,iY] at hv
 rcases hv with rfl|hv
 ·exact n1 _ _
 ·exact gN _ _ v hv
theorem At.one(a:At):∀v∈a.vals,v.oneCell'=true:=by
 have n1:∀(k:IntKind) (x:Int),(Value.int k x).oneCell'=true:=λ_ _=>rfl
 have hr:∀a b c d,∀v∈lT a b c d,v.oneCell'=true:=by
  intro a b c d v hv
  simp only [lT,eL] at hv
  rcases hv with h|h|h|h<;>exact aA.one _ v h
 have he:∀a b c d,∀v∈l8 a b c d,v.oneCell'=true:=by
  intro a b c d v hv
  simp only [l8,eL] at hv
  rcases hv with h|h|h|h<;>exact aJ.one _ v h
 cases a with
 |rcd x=>exact x.one
 |rcdB x=>exact gN _ _
 |ent x=>exact x.one
 |entB x=>exact gN _ _
 |nnc x =>
  intro v hv
  simp only [At.vals,aA.nnc,bG,cK,or_false] at hv
  rcases hv with rfl|rfl
  ·exact n1 _ _
  ·exact n1 _ _
 |nncB x=>exact gN _ _
 |nodeB x=>exact gN _ _
 |tag x=>exact gN _ _
 |dig x=>exact gN _ _
 |sha l=>exact gN _ _
 |byt x=>exact gN _ _
 |st x =>
  intro v hv
  exact sY true _ _ _ v (show v∈(jO true (Sh.hs x.l (x.n / 64)) (qU x.l) x.n).toArray.toList from hv)
 |gh _ _ _=>intro v hv;cases hv
 |bit b =>
  intro v hv
  simp only [At.vals,bG,cK,or_false] at hv
  rw [hv];exact n1 _ _
 |node x =>
  intro v hv
  cases x<;>simp only [At.vals,bD.vals,eL,iY] at hv<;>rcases hv with rfl|rfl|h|h<;>first|exact n1 _ _|exact hr _ _ _ _ v h|exact he _ _ _ _ v h
inductive Rp(α:Type) where
 |nil
 |one (x:α)
 |arr (k:IntKind) (n:Nat) (l:List Nat)
 |node (s t:Nat) (a b:Rp α)
 |q (a:At)
inductive SV where
 |v (x:Value)
 |p (n o:Nat)
 |s (n o l c:Nat)
 |w (n l:Nat)
 |a (c:Rp SV)
 |t (vs:List SV)
 |f (fn:Fn) (first caps:List SV)
 |i (t:TypeId) (x:SV)
 |y (n:Nat)
 |gs (n l:Nat)
 |b (x:aQ)
 |u
structure HB where
 T:TypeId
 cs:Rp SV
 k:Nat
inductive Dg where
 |x0|x1|x2|x3|x4|x5|x6|x7
inductive fC(β:Type) where
 |mk (c0 c1 c2 c3 c4 c5 c6 c7:β)
def rV(m:Nat):Dg:=Nat.rec (motive:=λ_=>Dg) .x0 (λ_ x=>Dg.rec .x1 .x2 .x3 .x4 .x5 .x6 .x7 .x7 x) m
def kF(k:Nat):Dg:=rV (Nat.mod k 8)
def kC(k:Nat):Dg:=rV (Nat.mod (Nat.div k 8) 8)
def jZ(k:Nat):Dg:=rV (Nat.mod (Nat.div k 64) 8)
def qK(k:Nat):Dg:=rV (Nat.mod (Nat.div k 512) 8)
def qH(k:Nat):Dg:=rV (Nat.mod (Nat.div k 4096) 8)
section
variable {β:Type}
def fP(d:Dg):fC β->β:=Dg.rec (motive:=λ_=>fC β->β)
 (fC.rec λa _ _ _ _ _ _ _=>a) (fC.rec λ_ a _ _ _ _ _ _=>a) (fC.rec λ_ _ a _ _ _ _ _=>a) (fC.rec λ_ _ _ a _ _ _ _=>a)
 (fC.rec λ_ _ _ _ a _ _ _=>a) (fC.rec λ_ _ _ _ _ a _ _=>a) (fC.rec λ_ _ _ _ _ _ a _=>a) (fC.rec λ_ _ _ _ _ _ _ a=>a) d
def gG(d:Dg):(β->β)->fC β->fC β:=Dg.rec (motive:=λ_=>(β->β)->fC β->fC β)
 (λf=>fC.rec λa b c d e g h i=>.mk (f a) b c d e g h i) (λf=>fC.rec λa b c d e g h i=>.mk a (f b) c d e g h i)
 (λf=>fC.rec λa b c d e g h i=>.mk a b (f c) d e g h i) (λf=>fC.rec λa b c d e g h i=>.mk a b c (f d) e g h i)
 (λf=>fC.rec λa b c d e g h i=>.mk a b c d (f e) g h i) (λf=>fC.rec λa b c d e g h i=>.mk a b c d e (f g) h i)
 (λf=>fC.rec λa b c d e g h i=>.mk a b c d e g (f h) i) (λf=>fC.rec λa b c d e g h i=>.mk a b c d e g h (f i)) d
def lX(x:β):fC β:=.mk x x x x x x x x
end
structure dQ(α:Type) where
 o:fC (fC (fC (Option α)))
 ov:Nat->Option α
def dQ.e{α:Type}:dQ α:=⟨lX (lX (lX none)),λ_=>none⟩
def dQ.get{α:Type}(t:dQ α)(k:Nat):Option α:=Bool.rec (motive:=λ_=>dQ α->Option α) (λt=>t.ov k) (λt=>fP (kF k) (fP (kC k) (fP (jZ k) t.o))) (Nat.ble k 511) t
def dQ.set{α:Type}(x:Option α)(k:Nat)(t:dQ α):dQ α:=Bool.rec (motive:=λ_=>Option α->dQ α->dQ α) (λx t=>⟨t.o,λj=>Bool.rec (t.ov j) x (Nat.beq j k)⟩)
 (λx t=>⟨gG (jZ k) (gG (kC k) (gG (kF k) λ_=>x)) t.o,t.ov⟩) (Nat.ble k 511) x t
def dQ.put{α:Type}(t:dQ α)(k:Nat)(b:α):dQ α:=t.set (some b) k
structure bC(α:Type) where
 o:fC (fC (fC (fC (fC (Option α)))))
 ov:Nat->Option α
def bC.e{α:Type}:bC α:=⟨lX (lX (lX (lX (lX none)))),λ_=>none⟩
def bC.get{α:Type}(t:bC α)(k:Nat):Option α:=Bool.rec (motive:=λ_=>bC α->Option α) (λt=>t.ov k) (λt=>fP (kF k) (fP (kC k) (fP (jZ k) (fP (qK k) (fP (qH k) t.o))))) (Nat.ble k 32767) t
def bC.set{α:Type}(x:Option α)(k:Nat)(t:bC α):bC α:=Bool.rec (motive:=λ_=>Option α->bC α->bC α) (λx t=>⟨t.o,λj=>Bool.rec (t.ov j) x (Nat.beq j k)⟩)
 (λx t=>⟨gG (qH k) (gG (qK k) (gG (jZ k) (gG (kC k) (gG (kF k) λ_=>x)))) t.o,t.ov⟩) (Nat.ble k 32767) x t
abbrev Tr:=bC HB
def bC.put{α:Type}(t:bC α)(k:Nat)(b:α):bC α:=t.set (some b) k
def bC.del{α:Type}(t:bC α)(k:Nat):bC α:=t.set none k
structure Sl where
 t:dQ SV
 n:Nat
structure St where
 ts:Sl
 hp:Tr
 nx:Nat
def mX:SV:=.v undef
def nth(s:Sl)(k:Nat):SV:=Option.rec mX (λx=>x) (s.t.get k)
def sS(s:Sl)(k:Nat)(x:SV):Sl:=Bool.rec ⟨s.t.put k x,s.n⟩ s (Nat.ble s.n k)
def V3:List SV->Nat->dQ SV->dQ SV
 |[],_,t=>t
 |x::xs,k,t=>V3 xs (k+1) (t.put k x)
def frame(args:List SV)(m:Nat):Sl:=⟨V3 args 0 .e,args.length+(m-args.length)⟩
def dK:Rp SV->Nat
 | .nil=>0
 | .one _=>1
 | .arr _ n _=>n
 | .node _ t _ _=>t
 | .q a=>a.size
def cat(a b:Rp SV):Rp SV:=match a,b with
 | .nil,b=>b
 |a,.nil=>a
 |a,b=>.node (dK a) (dK a+dK b) a b
def lH:List SV->Rp SV
 |[]=>.nil
 |x::xs=>cat (.one x) (lH xs)
def tI(n:Nat)(a b c d:Rp SV):Rp SV:=.node n (4*n) a (.node n (3*n) b (.node n (2*n) c d))
def t5:At->Rp SV
 | .rcd x=>.node 1 35 (.one (.v (.int .u8 (x.s:Int)))) (.node 2 34 (.q (.nnc x)) (.q (.tag x)))
 | .rcdB x=>.node 1 45 (.arr .u8 1 [x.s]) (.node 12 44 (.q (.nncB x)) (.q (.tag x)))
 | .nnc x=>.node 1 2 (.one (.v (.int .u32 (x.sh:Int)))) (.one (.v (.int .u64 (x.c:Int))))
 | .nncB x=>.arr .u8 12 x.nncB
 | .tag x=>.arr .u8 32 x.tag
 | .dig x=>.arr .u8 32 x.dig
 | .sha l=>.arr .u8 32 (Sh.shaF l)
 | .byt x=>.arr .u8 x.n x.l
 | .gh _ _ _=>.nil
 | .bit b=>.one (.v (.int .i64 (aV b:Int)))
 | .st x=>.node 1 74 (.one (.v (.bool true))) (.node 8 73 (.arr .u32 8 (Sh.hs x.l (x.n / 64))) (.node 64 65 (.arr .u8 64 (qU x.l)) (.one (.v (.int .u64 (x.n:Int))))))
 | .ent x=>.node 1 33 (.one (.v (.int .u8 (x.s:Int)))) (.q (.dig x))
 | .entB x=>.node 1 33 (.arr .u8 1 [x.s]) (.q (.dig x))
 | .node (.leaf ix a b c d _)=>.node 1 274 (.one (.v (.int .u8 0))) (.node 1 273 (.one (.v (.int .u32 (ix:Int)))) (.node 140 272 (tI 35 (.q (.rcd a)) (.q (.rcd b)) (.q (.rcd c)) (.q (.rcd d))) (tI 33 (.q (.ent cC)) (.q (.ent cC)) (.q (.ent cC)) (.q (.ent cC)))))
 | .node (.inner lv ix a b c d _ _)=>.node 1 274 (.one (.v (.int .u8 (lv:Int)))) (.node 1 273 (.one (.v (.int .u32 (ix:Int)))) (.node 140 272 (tI 35 (.q (.rcd dG)) (.q (.rcd dG)) (.q (.rcd dG)) (.q (.rcd dG))) (tI 33 (.q (.ent a)) (.q (.ent b)) (.q (.ent c)) (.q (.ent d)))))
 | .nodeB (.leaf ix a b c d _)=>.node 1 185 (.arr .u8 1 [0]) (.node 4 184 (.arr .u8 4 (Sh.beB ix 4)) (tI 45 (.q (.rcdB a)) (.q (.rcdB b)) (.q (.rcdB c)) (.q (.rcdB d))))
 | .nodeB (.inner lv ix a b c d _ _)=>.node 1 137 (.arr .u8 1 [lv]) (.node 4 136 (.arr .u8 4 (Sh.beB ix 4)) (tI 33 (.q (.entB a)) (.q (.entB b)) (.q (.entB c)) (.q (.entB d))))
def U4(l:List Value):Rp SV:=lH (l.map .v)
def M7(g:At->Nat->Option SV)(c:Rp SV):Nat->Option SV :=
 Rp.rec (motive:=λ_=>Nat->Option SV) (λ_=>none) (λx o=>Bool.rec none (some x) (Nat.beq o 0))
  (λk n l o=>Bool.rec (some (.v (.int k ((l.getD o 0:Nat):Int)))) none (Nat.ble n o)) (λs _ _ _ ia ib o=>Bool.rec (ia o) (ib (o-s)) (Nat.ble s o)) g c
def aTC(c:Rp SV):Nat->Option SV:=M7 (λa=>M7 (λa o=>(a.vals[o]?).map .v) (t5 a)) c
def sL(g:At->Nat->Rp SV)(c:Rp SV):Nat->Rp SV :=
 Rp.rec (motive:=λ_=>Nat->Rp SV) (λ_=>.nil) (λx o=>Bool.rec .nil (.one x) (Nat.beq o 0))
  (λk n l o=>Bool.rec (Bool.rec (.arr k (n-o) (l.drop o)) .nil (Nat.ble n o)) (.arr k n l) (Nat.beq o 0))
  (λs t a b ia ib o=>Bool.rec (Bool.rec (.node (s-o) (t-o) (ia o) b) (ib (o-s)) (Nat.ble s o)) (.node s t a b) (Nat.beq o 0)) g c
def aEx:Rp SV->Nat->Rp SV:=sL λa o=>Bool.rec (Bool.rec (U4 (a.vals.drop o)) .nil (Nat.ble a.size o)) (.q a) (Nat.beq o 0)
def o8(c:Rp SV):Nat->Rp SV:=sL (λa o=>Bool.rec (Bool.rec (aEx (t5 a) o) .nil (Nat.ble a.size o)) (.q a) (Nat.beq o 0)) c
def sP(g:At->Nat->Rp SV)(c:Rp SV):Nat->Rp SV :=
 Rp.rec (motive:=λ_=>Nat->Rp SV) (λ_=>.nil) (λx o=>Bool.rec (.one x) .nil (Nat.beq o 0))
  (λk n l o=>Bool.rec (.arr k o (l.take o)) (.arr k n l) (Nat.ble n o))
  (λs t a b ia ib o=>Bool.rec (Bool.rec (.node s o a (ib (o-s))) (ia o) (Nat.ble o s)) (.node s t a b) (Nat.ble t o)) g c
def aKy:Rp SV->Nat->Rp SV:=sP λa o=>Bool.rec (U4 (a.vals.take o)) (.q a) (Nat.ble a.size o)
def mP(c:Rp SV):Nat->Rp SV:=sP (λa o=>Bool.rec (aKy (t5 a) o) (.q a) (Nat.ble a.size o)) c
def S7(k:IntKind):Rp SV->Option Nat
 | .one (.v (.int j (.ofNat x)))=>bif decide (k=j) then some x else none
 |_=>none
def a9H(g:At->Nat->Rp SV)(new:Rp SV)(m:Nat)(c:Rp SV):Nat->Rp SV :=
 Rp.rec (motive:=λ_=>Nat->Rp SV) (λ_=>new) (λ_ _=>new)
  (λk n l o=>Option.rec (Bool.rec (cat (mP (.arr k n l) o) (cat new (o8 (.arr k n l) (o+m)))) new (Nat.beq m n)) (λx=>.arr k n (l.set o x)) (S7 k new))
  (λs t a b ia ib o=>Bool.rec (Bool.rec (cat (mP (.node s t a b) o) (cat new (o8 (.node s t a b) (o+m)))) (.node s t a (ib (o-s))) (Nat.ble s o)) (.node s t (ia o) b) (Nat.ble (o+m) s)) g c
def rput(new:Rp SV)(m:Nat)(c:Rp SV):Nat->Rp SV :=
 a9H (λa o=>Bool.rec (cat (mP (.q a) o) (cat new (o8 (.q a) (o+m)))) new (Nat.beq m a.size)) new m c
def uN(c:Rp SV)(o n:Nat):Option (Rp SV):=Bool.rec none (some (mP (o8 c o) n)) (Nat.ble (o+n) (dK c))
def aAW(c:Rp SV)(o:Nat):Option SV:=aTC c o
def aAu(c:Rp SV)(o:Nat)(new:Rp SV):Option (Rp SV):=Bool.rec none (some (Nat.rec c (λ_ _=>rput new (dK new) c o) (dK new))) (Nat.ble (o+dK new) (dK c))
def SV.cells:SV->Option (Rp SV)
 | .a cs=>some cs
 | .v (.agg cs)=>bif cs.toList.all (·.oneCell') then some (lH (cs.toList.map .v)) else none
 | .v (.tuple _)=>none
 | .t _=>none
 | .u=>none
 |x=>some (.one x)
def isRow(P:Program)(T:TypeId):Option Bool:=match P.underlying T with
 |some (.struct _)=>some true
 |some (.array _ _)=>some true
 |some _=>some false
 |none=>none
def aCG(P:Program)(T:TypeId):Bool:=match isRow P T with
 |some t=>t
 |none=>false
def gH(P:Program)(T:TypeId):Option Nat:=match P.info? T with
 |some i=>some i.size
 |none=>none
def Sem.now{α:Type}(P:Program):Sem α->Option α
 | .pure a=>some a
 | .program k=>Sem.now P (k P)
 |_=>none
structure aI where
 P:Program
 G:Nat->Option (Rp SV)
 /-- what is told of blocks that stay unseen (k=8): by kind,in the world,of block g and its other blocks -/
 gh:Nat->Nat->World->Nat->(Nat->Prop)->List (Option aQ)->Prop
 ghs:∀t N w w' g cv l,gh t N w g cv l->w'.heap[g]?=w.heap[g]?->(∀k,cv k->w'.heap[k]?=w.heap[k]?)->gh t N w' g cv l
 ghm:∀t N N' w g cv l,N≤N'->gh t N w g cv l->gh t N' w g cv l
def aKt(t:Tmp)(s:Sl):SV:=nth s t
def a90(v:Value)(_:Sl):SV:=.v v
def aTG(g:Nat)(_:Sl):SV:=.v (.pointer (some ⟨g,0,none⟩))
def a4J(g:FuncId)(_:Sl):SV:=.f (.func g) [] []
def ev(ts:Sl)(x:Operand):SV:=Operand.rec (motive:=λ_=>Sl->SV) aKt a90 aTG a4J x ts
def oN(P:Program)(T:TypeId)(cs:Rp SV)(o:Nat):Option SV:=match isRow P T,gH P T with
 |some true,some n=>(match uN cs o n with
  |some c=>some (.a c)
  |none=>none)
 |some false,some _=>aAW cs o
 |_,_=>none
def sR(X:aI)(hp:Tr)(T:TypeId):SV->Option SV
 | .p n o=>match hp.get n with
  |some b=>oN X.P T b.cs o
  |none=>none
 | .v (.pointer (some ⟨g,o,none⟩))=>match X.G g with
  |some cs=>oN X.P T cs o
  |none=>none
 |_=>none
def qI(hp:Tr)(n o:Nat)(new:Rp SV):Option Tr:=match hp.get n with
 |some b=>bif Nat.blt b.k 2 then (match aAu b.cs o new with
  |some cs=>some (hp.put n ⟨b.T,cs,b.k⟩)
  |none=>none) else none
 |none=>none
def pD:SV->Option Nat
 | .v (.int _ (.ofNat x))=>some x
 |_=>none
def qX(place:Nat->Option (Nat×Nat))(cs:Rp SV):List (Nat×SV)->Option (Rp SV)
 |[]=>some cs
 |(i,x)::rest=>match place i,x.cells with
  |some (off,size),some ns=>bif Nat.beq (dK ns) size then (match aAu cs off ns with
   |some cs=>qX place cs rest
   |none=>none) else none
  |_,_=>none
def zeros(k:IntKind):Nat->List Value->Option (List Value)
 |0,l=>some l
 |n+1,.int j 0::l=>bif decide (k=j) then zeros k n l else none
 |_+1,_=>none
def zr(P:Program):Nat->TypeId->List Value->Option (Rp SV×List Value)
 |0,_,_=>none
 |d+1,T,l=>match P.underlying T with
  |some (.array n e)=>(match P.underlying e with
   |some (.int k)=>(match zeros k n l with
    |some l=>some (.arr k n (List.replicate n 0),l)
    |none=>none)
   |_=>zrs (zr P d e) n l)
  |some (.struct fs)=>zrf (zr P d) (fs.toList.map (·.type)) l
  |_=>(match l with
   |x::l=>bif x.oneCell' then some (.one (.v x),l) else none
   |[]=>none)
where
 zrs (g:List Value->Option (Rp SV×List Value)):Nat->List Value->Option (Rp SV×List Value)
  |0,l=>some (.nil,l)
  |n+1,l=>match g l with
   |some (a,l)=>(match zrs g n l with
    |some (b,l)=>some (cat a b,l)
    |none=>none)
   |none=>none
 zrf (g:TypeId->List Value->Option (Rp SV×List Value)):List TypeId->List Value->Option (Rp SV×List Value)
  |[],l=>some (.nil,l)
  |T::ts,l=>match g T l with
   |some (a,l)=>(match zrf g ts l with
    |some (b,l)=>some (cat a b,l)
    |none=>none)
   |none=>none
def oJ(P:Program)(T:TypeId):Option (Rp SV):=match P.info? T with
 |some i=>(match i.zero with
  |some z=>(match zr P 50 T z.cells.toList with
   |some (c,[])=>bif Nat.beq z.cells.toList.length i.size then some c else none
   |_=>none)
  |none=>none)
 |none=>none
def tO(cs:Rp SV):Nat->Rp SV
 |0=>.nil
 |n+1=>cat cs (tO cs n)
def jH(hp:Tr)(sz:Nat):SV->Option (Nat×Rp SV)
 | .s n o l _=>(match hp.get n with
  |some b=>(match uN b.cs o (l*sz) with
   |some cs=>some (l,cs)
   |none=>none)
  |none=>none)
 | .w n l=>(match hp.get n with
  |some b=>(match uN b.cs 0 (l*sz) with
   |some cs=>some (l,cs)
   |none=>none)
  |none=>none)
 | .v (.slice none 0 _)=>some (0,.nil)
 |_=>none
def vF(x:Option Operand)(ts:Sl)(d:Nat):Option Nat:=match x with
 |some y=>pD (ev ts y)
 |none=>some d
def Q6(ts:Sl)(n c:Nat)(lo hi mx:Option Operand):Option (Nat×Nat×Nat) :=
 match vF mx ts c,vF hi ts n,vF lo ts 0 with
 |some m,some h,some l=>bif Nat.ble m c&&(Nat.ble h m&&(Nat.ble l h&&(mx.isNone || hi.isSome))) then some (l,h,m) else none
 |_,_,_=>none
def aAo(P:Program)(T:TypeId)(ts:Sl)(x:SV)(lo hi mx:Option Operand):Option SV :=
 match P.underlying T with
 |some (.array n e)=>(match gH P e,x,Q6 ts n n lo hi mx with
  |some z,.p g o,some (l,h,m)=>some (.s g (bif Nat.beq m l then o else o+l*z) (h-l) (m-l))
  |_,_,_=>none)
 |some (.slice e)=>(match gH P e,x with
  |some z,.s g o n c=>(match Q6 ts n c lo hi mx with
   |some (l,h,m)=>some (.s g (bif Nat.beq m l then o else o+l*z) (h-l) (m-l))
   |none=>none)
  |some _,.w g n=>(match mx,vF lo ts 0 with
   |none,some 0=>(match vF hi ts n with
    |some h=>bif Nat.ble h n then some (.w g h) else none
    |none=>none)
   |some y,some 0=>(match vF hi ts n,pD (ev ts y) with
    |some h,some m=>bif Nat.ble h m&&(Nat.ble m n&&hi.isSome) then some (.s g 0 h m) else none
    |_,_=>none)
   |_,_=>none)
  |some _,.v (.slice none 0 0)=>(match Q6 ts 0 0 lo hi mx with
   |some _=>some (.v (.slice none 0 0))
   |none=>none)
  |_,_=>none)
 |_=>none
def aAz(P:Program)(T:TypeId)(x i:SV):Option SV :=
 match pD i,P.underlying T with
 |some k,some (.array n e)=>(match gH P e,x with
  |some z,.p g o=>bif Nat.blt k n then some (.p g (o+k*z)) else none
  |some z,.v (.pointer (some ⟨g,o,none⟩))=>bif Nat.blt k n then some (.v (.pointer (some ⟨g,o+k*z,none⟩))) else none
  |_,_=>none)
 |some k,some (.slice e)=>(match gH P e,x with
  |some z,.s g o n _=>bif Nat.blt k n then some (.p g (o+k*z)) else none
  |some z,.w g n=>bif Nat.blt k n then some (.p g (k*z)) else none
  |_,_=>none)
 |_,_=>none
def C1(g:At->List (Rp SV)->List (Rp SV)):Rp SV->List (Rp SV)->List (Rp SV)
 | .nil,l=>l
 | .one x,l=>.one x::l
 | .arr k n m,l=>.arr k n m::l
 | .node _ _ a b,l=>C1 g a (C1 g b l)
 | .q a,l=>g a l
def aEt:Nat->At->List (Rp SV)->List (Rp SV)
 |0,a,l=>.q a::l
 |n+1,a,l=>C1 (aEt n) (t5 a) l
def tC:Rp SV->List (Rp SV)->List (Rp SV):=C1 (aEt 4)
def vJ(q:Bool):List (Rp SV)->List (Rp SV)->Option Bool
 |[],[]=>some true
 | .one (.v (.int k a))::xs,.one (.v (.int j b))::ys=>bif decide (k=j)&&!q then (match vJ q xs ys with
  |some r=>some (decide (a=b)&&r)
  |none=>none) else none
 | .one (.v (.bool a))::xs,.one (.v (.bool b))::ys=>bif q then (match vJ q xs ys with
  |some r=>some ((a==b)&&r)
  |none=>none) else none
 | .arr k n l::xs,.arr j m l'::ys=>bif decide (k=j)&&(Nat.beq n m&&!q) then (match vJ q xs ys with
  |some r=>some (decide (l=l')&&r)
  |none=>none) else none
 |_,_=>none
def G7:List (Rp SV)->List (Rp SV)
 |[]=>[]
 | .arr k n l::xs=>(List.range n).map (λi=>.one (.v (.int k ((l.getD i 0:Nat):Int))))++G7 xs
 |x::xs=>x::G7 xs
def H6(q:Bool)(xs ys:Rp SV):Option Bool:=match vJ q (tC xs []) (tC ys []) with
 |some b=>some b
 |none=>vJ q (G7 (tC xs [])) (G7 (tC ys []))
def plainT(P:Program)(q:Bool):Nat->TypeId->Bool
 |0,_=>false
 |d+1,T=>match P.underlying T with
  |some (.int _)=>!q&&Nat.beq (P.cellsOf T) 1
  |some .bool=>q&&Nat.beq (P.cellsOf T) 1
  |some (.array n e)=>plainT P q d e&&Nat.beq (P.cellsOf T) (n*P.cellsOf e)
  |some (.struct fs) => !P.stoodInHeld T && fs.toList.all (fun f => f.name != "_" && plainT P q d f.type) && flatF P (P.cellsOf T) 0 fs.toList
  |_=>false
where
 flatF (P:Program) (n:Nat):Nat->List Field->Bool
 |o,[]=>Nat.beq o n
 |o,f::fs=>Nat.beq f.offset o&&flatF P n (o+P.cellsOf f.type) fs
def wW:SV->Option Nat
 | .s _ _ l _=>some l
 | .w _ l=>some l
 | .v (.slice _ l _)=>some l
 | .gs _ l=>some l
 |_=>none
def aGi(hp:Tr)(n k:Nat)(e:TypeId):Bool:=match hp.get n with
 |some b=>Nat.beq b.k 1&&(Nat.ble k (dK b.cs)&&Nat.beq b.T e)
 |none=>false
def aDi(P:Program)(hp:Tr)(nx:Nat)(e:TypeId)(s x:SV):Option (SV×Tr×Nat) :=
 match gH P e,oJ P e with
 |some z,some _=>(match jH hp z x,wW s with
  |some (m,new),some n=>bif Nat.blt 0 z&&Nat.ble ((n+m)*(1+P.bytesOf e)) 140737488355328 then (match s with
   | .v (.slice none 0 0)=>(match m with
    |0=>some (s,hp,nx)
    |m+1=>some (.w nx (m+1),hp.put nx ⟨e,new,1⟩,nx+1))
   | .s n o l c=>bif Nat.ble (l+m) c then (match qI hp n (o+l*z) new with
    |some hp=>some (.s n o (l+m) c,hp,nx)
    |none=>none)
    else (match jH hp z s,m with
     |some (_,old),m+1=>some (.w nx (l+(m+1)),hp.put nx ⟨e,cat old new,1⟩,nx+1)
     |_,_=>none)
   | .w n l=>bif aGi hp n ((l+m)*z) e&&Nat.blt 0 m then (match qI hp n (l*z) new with
    |some hp=>some (.w n (l+m),hp,nx)
    |none=>none)
    else (match hp.get n,m with
    |some _,0=>some (s,hp,nx)
    |some b,m+1=>bif Nat.beq b.k 1&&(Nat.beq (dK b.cs) (l*z)&&Nat.beq b.T e) then some (.w nx (l+(m+1)),(hp.del n).put nx ⟨e,cat b.cs new,1⟩,nx+1) else none
    |none,_=>none)
   |_=>none) else none
  |_,_=>none)
 |_,_=>none
def iv(n:Nat):SV:=.v (.int .i64 (n:Int))
def tH(P:Program)(T:TypeId):Option TypeId:=match P.underlying T with
 |some (.slice e)=>some e
 |_=>none
def aEM(P:Program)(hp:Tr)(nx:Nat)(T T':TypeId)(s x:SV):Option (SV×Tr×Nat):=match tH P T,P.underlying T',s,x with
 |some e,some (.int _),.v (.slice none 0 0),.v (.int _ (.ofNat (n+1)))=>(match oJ P e,gH P e with
  |some z,some k=>bif Nat.blt 0 k&&Nat.ble ((n+1)*(1+P.bytesOf e)) 140737488355328 then some (.w nx (n+1),hp.put nx ⟨e,tO z (n+1),1⟩,nx+1) else none
  |_,_=>none)
 |_,_,_,_=>none
def X3(X:aI)(st:St)(b:Builtin)(_ty:TypeId)(at_:List TypeId)(args:List SV):Option (SV×Tr×Nat) :=
 match b,args,at_ with
 | .len,[x],[T]=>(match tH X.P T,wW x with
  |some _,some n=>some (iv n,st.hp,st.nx)
  |_,_=>none)
 | .cap,[.s _ _ _ c],[T]=>(match tH X.P T with
  |some _=>some (iv c,st.hp,st.nx)
  |none=>none)
 | .cap,[.v (.slice none 0 0)],[T]=>(match tH X.P T with
  |some _=>some (iv 0,st.hp,st.nx)
  |none=>none)
 | .append,[s,x],[T,T']=>bif Nat.beq T T' then (match tH X.P T with
  |some e=>aDi X.P st.hp st.nx e s x
  |none=>none) else aEM X.P st.hp st.nx T T' s x
 | .copy,[d,x],[T,_]=>(match tH X.P T with
  |some e=>(match gH X.P e with
   |some z=>(match jH st.hp z x,d with
    |some (m,cs),.s n o l _=>(match qI st.hp n o (mP cs (Nat.min m l*z)) with
     |some hp=>some (iv (Nat.min m l),hp,st.nx)
     |none=>none)
    |some (m,cs),.w n l=>(match qI st.hp n 0 (mP cs (Nat.min m l*z)) with
     |some hp=>some (iv (Nat.min m l),hp,st.nx)
     |none=>none)
    |_,_=>none)
   |none=>none)
  |none=>none)
 | .min,[.v (.int k x),.v (.int _ y)],_=>some (.v (.int k (bif decide (y<x) then y else x)),st.hp,st.nx)
 |_,_,_=>none
def toV:SV->Option Value
 | .v x=>some x
 |_=>none
def eqS(P:Program)(T:TypeId):SV->SV->Option Bool
 | .a xs,.a ys=>bif aCG P T&&(!P.eqGuardType P.depth T&&(Nat.beq (dK xs) (P.cellsOf T)&&Nat.beq (dK ys) (P.cellsOf T))) then
  (bif plainT P false 50 T then H6 false xs ys else bif plainT P true 50 T then H6 true xs ys else none) else none
 |x,y=>(match P.underlying T with
  |some (.interface _)=>(match x,y with
   | .v .nilIface,.i _ _=>some false
   | .i _ _,.v .nilIface=>some false
   |_,_=>none)
  |some (.func _ _ _)=>(match x,y with
   | .v .nilFunc,.f _ _ _=>some false
   | .f _ _ _,.v .nilFunc=>some false
   |_,_=>none)
  |some (.pointer _)=>(match x,y with
   | .p _ _,.v (.pointer none)=>some false
   | .v (.pointer none),.p _ _=>some false
   |_,_=>none)
  |some (.slice _)=>(match x,y with
   | .s _ _ _ _,.v (.slice none 0 0)=>some false
   | .w _ _,.v (.slice none 0 0)=>some false
   |_,_=>none)
  |some .string=>(match x,y with
   | .b p,.b q=>some ((kB p.l).toList==(kB q.l).toList)
   |_,_=>none)
  |_=>none)
def vW(P:Program)(s:Sem Value):Option SV:=(Sem.now P s).map .v
def bin(X:aI)(op:BinOp)(T:TypeId)(ox oy:Operand)(x y:SV):Option SV:=match toV x,toV y with
 |some x,some y=>vW X.P (do eqGuard op T ox oy x y;binOp op T x y)
 |_,_=>match op with
  | .eql=>(match eqS X.P T x y with
   |some b=>some (.v (.bool b))
   |none=>none)
  | .neq=>(match eqS X.P T x y with
   |some b=>some (.v (.bool (!b)))
   |none=>none)
  |_=>none
def dH(st:St)(x:Option SV):Option (SV×Tr×Nat):=match x with
 |some y=>some (y,st.hp,st.nx)
 |none=>none
def rB(st:St)(T:TypeId)(cs:Rp SV)(r:SV):SV×Tr×Nat:=(r,st.hp.put st.nx ⟨T,cs,0⟩,st.nx+1)
def aGK(c:Rp SV):Option aQ:=match c with
 | .q (.nodeB x)=>some (.nd x)
 | .q (.byt x)=>some (.by_ x)
 |_=>none
def aCb(X:aI)(hp:Tr)(a b:TypeId)(n o l:Nat):Option SV:=match hp.get n,X.P.underlying a,X.P.underlying b with
 |some bl,some (.slice e),some .string=>(match X.P.underlying e,uN bl.cs o l with
  |some (.int .u8),some row=>(match aGK row with
   |some y=>some (.b y)
   |none=>none)
  |_,_=>none)
 |_,_,_=>none
def x9(X:aI)(hp:Tr)(a b:TypeId)(x:SV):Option SV:=match x with
 | .s n o l _=>aCb X hp a b n o l
 | .w n l=>aCb X hp a b n 0 l
 |_=>none
def dI(X:aI)(st:St)(op:Op)(ty:TypeId):Option (SV×Tr×Nat) :=
 match op with
 | .move x=>dH st (some (ev st.ts x))
 | .assign x=>dH st (some (ev st.ts x))
 | .pick c a b=>(match ev st.ts c with
  | .v (.bool t)=>dH st (some (bif t then ev st.ts a else ev st.ts b))
  |_=>none)
 | .alloc T=>(match oJ X.P T with
  |some cs=>some (rB st T cs (.p st.nx 0))
  |none=>none)
 | .box T x=>(match (ev st.ts x).cells with
  |some cs=>some (rB st T cs (.p st.nx 0))
  |none=>none)
 | .build T parts=>(match oJ X.P T,X.P.underlying T with
  |some z,some (.struct fs)=>(match fs.toList.mapM (λf=>(X.P.info? f.type).map λi=>(f.offset,i.size)) with
   |some pl=>(match qX (λi=>pl[i]?) z (parts.toList.map λx=>(x.1,ev st.ts x.2)) with
    |some cs=>some (.a cs,st.hp,st.nx)
    |none=>none)
   |none=>none)
  |some z,some (.array _ e)=>(match gH X.P e with
   |some n=>(match qX (λi=>some (i*n,n)) z (parts.toList.map λx=>(x.1,ev st.ts x.2)) with
    |some cs=>some (.a cs,st.hp,st.nx)
    |none=>none)
   |none=>none)
  |_,_=>none)
 | .buildSlice T n parts=>(match X.P.underlying T with
  |some (.slice e)=>(match oJ X.P e,gH X.P e with
   |some z,some k=>bif Nat.ble (n*k) 16777216&&Nat.blt 0 k then (match qX (λi=>some (i*k,k)) (tO z n) (parts.toList.map λx=>(x.1,ev st.ts x.2)) with
    |some cs=>some (rB st e cs (.s st.nx 0 n n))
    |none=>none) else none
   |_,_=>none)
  |_=>none)
 | .load T x=>dH st (sR X st.hp T (ev st.ts x))
 | .nilCheck x=>(match ev st.ts x with
  | .p n o=>dH st (some (.p n o))
  | .v (.pointer (some a))=>dH st (some (.v (.pointer (some a))))
  | .f (.func g) a b=>dH st (some (.f (.func g) a b))
  | .y n=>dH st (some (.y n))
  |_=>none)
 | .binOp op T x y _=>dH st (bin X op T x y (ev st.ts x) (ev st.ts y))
 | .unOp op _ x=>(match ev st.ts x with
  | .v x=>dH st (vW X.P (Op.unary op x))
  |_=>none)
 | .convert a b x=>(match ev st.ts x with
  | .v x=>dH st (vW X.P (convert a b x))
  | .s n o l c=>dH st (x9 X st.hp a b (.s n o l c))
  | .w n l=>dH st (x9 X st.hp a b (.w n l))
  |_=>none)
 | .sliceToArrayPointer T x=>(match X.P.underlying T,ev st.ts x with
  |some (.array n _),.s g o l _=>bif Nat.ble n l then dH st (some (.p g o)) else none
  |some (.array n _),.w g l=>bif Nat.ble n l then dH st (some (.p g 0)) else none
  |_,_=>none)
 | .makeInterface T x=>(match X.P.underlying T with
  |some (.interface _)=>none
  |some _=>dH st (some (.i T (ev st.ts x)))
  |none=>none)
 | .makeFunc fn a b=>dH st (some (.f fn (a.toList.map (ev st.ts)) (b.toList.map (ev st.ts))))
 | .makeSlice T l c=>(match X.P.underlying T,pD (ev st.ts l),pD (ev st.ts c) with
  |some (.slice e),some l,some c=>(match oJ X.P e with
   |some z=>bif Nat.ble l c&&Nat.ble ((1+X.P.bytesOf e)*c) 281474976710656 then some (rB st e (tO z c) (.s st.nx 0 l c)) else none
   |none=>none)
  |_,_,_=>none)
 | .slice T x lo hi mx=>dH st (aAo X.P T st.ts (ev st.ts x) lo hi mx)
 | .fieldAddr T x f=>(match X.P.underlying T with
  |some (.struct fs)=>(match fs.toList[f]?,ev st.ts x with
   |some fd,.p n o=>(match gH X.P fd.type with
    |some (_+1)=>some (.p n (o+fd.offset),st.hp,st.nx)
    |_=>none)
   |_,_=>none)
  |_=>none)
 | .field T x f=>(match X.P.underlying T with
  |some (.struct fs)=>(match fs.toList[f]?,ev st.ts x with
   |some fd,.a cs=>dH st (oN X.P fd.type cs fd.offset)
   |_,_=>none)
  |_=>none)
 | .indexAddr T x i=>dH st (aAz X.P T (ev st.ts x) (ev st.ts i))
 | .index T x i=>(match X.P.underlying T,ev st.ts x,pD (ev st.ts i) with
  |some (.array n e),.a cs,some k=>(match gH X.P e with
   |some z=>bif Nat.blt k n then dH st (oN X.P e cs (k*z)) else none
   |none=>none)
  |_,_,_=>none)
 | .extract x i=>(match ev st.ts x with
  | .t vs=>(match vs[i]? with
   |some y=>dH st (some y)
   |none=>none)
  |_=>none)
 | .call c=>(match c.callee with
  | .builtin b=>X3 X st b ty c.argTypes.toList (c.args.toList.map (ev st.ts))
  |_=>none)
 |_=>none
def mB:Op->Bool
 | .move _ | .assign _ | .pick _ _ _ | .build _ _ | .load _ _ | .nilCheck _ | .binOp _ _ _ _ _ | .unOp _ _ _ | .convert _ _ _ | .sliceToArrayPointer _ _ | .makeInterface _ _ | .makeFunc _ _ _ | .slice _ _ _ _ _ | .fieldAddr _ _ _ | .field _ _ _
 | .indexAddr _ _ _ | .index _ _ _ | .extract _ _=>true
 | .call c=>(match c.callee with
  | .builtin .len=>true
  | .builtin .cap=>true
  | .builtin .min=>true
  |_=>false)
 |_=>false
def oA:Op->Bool
 | .alloc _ | .box _ _ | .buildSlice _ _ _ | .makeSlice _ _ _=>true
 |_=>false
inductive KI where
 |code (c:Code)
 |blk (id:Nat)
 |loop (c:Code)
 |frm (ts:Sl) (fn:Func) (d:Option Tmp) (ops:Array Oper) (rest:List Oper)
 |ds (n:Nat)
 |rng (n:Nat) (prm:Array Tmp) (asg bdy:Code) (fn:Func) (ts:Sl)
 |rbeg (n:Nat) (bdy:Code)
 |rend (n:Nat) (ts:Sl) (d:Option Tmp) (ops:Array Oper) (rest:List Oper)
inductive Hd where
 |code (c:Code)
 |ops (ops:Array Oper) (l:List Oper)
 |done (e:Exit)
structure aB where
 h:Hd
 k:List KI
 st:St
def gB(ops:Array Oper)(ts:Sl)(g:Option (Nat×Bool)):Option Bool:=match g with
 |none=>some true
 |some (j,b)=>match ops[j]? with
  |some o=>(match o.dst with
   |some d=>(match nth ts d with
    | .v (.bool t)=>some (t==b)
    | .v (.tuple _)=>some false
    |_=>none)
   |none=>none)
  |none=>none
def putS(ts:Sl)(d:Option Tmp)(v:SV):Sl:=match d with
 |some d=>sS ts d v
 |none=>ts
def aBI(X:aI)(st:St):ResultVar->Option SV
 | .tmp t=>some (nth st.ts t)
 | .cell t T=>sR X st.hp T (nth st.ts t)
def F1(X:aI)(st:St):List ResultVar->Option (List SV)
 |[]=>some []
 |r::rs=>match aBI X st r,F1 X st rs with
  |some x,some xs=>some (x::xs)
  |_,_=>none
def entryS(P:Program)(g:FuncId):Option (Func×Code):=match P.funcs[g]? with
 |some fn=>(match fn.body with
  |some c => bif fn.name == "runtime.NumGoroutine" then none else some (fn, c)
  |none=>none)
 |none=>none
def mH(X:aI)(fn:Func)(st:St):Option SV:=match F1 X st fn.results.toList with
 |some [x]=>some x
 |some xs=>some (.t xs)
 |none=>none
def nU:List KI->Option Nat
 |[]=>none
 | .frm _ _ _ _ _::_=>none
 | .rng _ _ _ _ _ _::_=>none
 | .rend n _ _ _ _::_=>some n
 | .code _::k=>nU k
 | .blk _::k=>nU k
 | .loop _::k=>nU k
 | .ds _::k=>nU k
 | .rbeg n _::_=>some n
def qO:List KI->List Nat
 |[]=>[]
 | .frm _ _ _ _ _::_=>[]
 | .rng _ _ _ _ _ _::_=>[]
 | .rend _ _ _ _ _::_=>[]
 | .code _::k=>qO k
 | .blk _::k=>qO k
 | .loop _::k=>qO k
 | .ds n::k=>n::qO k
 | .rbeg _ _::k=>qO k
def pH(n:Nat):List KI->List KI
 | .code c::k=>.code c::pH n k
 | .blk i::k=>.blk i::pH n k
 | .loop c::k=>.loop c::pH n k
 |k=>.ds n::k
def J0(n:Nat):List KI->Option (Array Tmp×Code×Code×Sl)
 |[]=>none
 | .rng m prm asg bdy _ ts::k=>bif Nat.beq m n then some (prm,asg,bdy,ts) else J0 n k
 |_::k=>J0 n k
def l9(hp:Tr)(n:Nat):Option Nat:=match hp.get n with
 |some b=>bif Nat.beq b.k 5 then some b.T else none
 |none=>none
def E9(hp:Tr)(n T:Nat):Tr:=hp.put n ⟨T,.nil,5⟩
def pY(hp:Tr)(n:Nat):Bool:=match hp.get n with
 |some b=>Nat.beq b.k 6
 |none=>false
def wY(T:Option Nat)(norm:Option aB)(jump:Code->aB):Option aB:=match T with
 |some 0=>norm
 |some 2=>some (jump .ret)
 |some (i+3)=>some (jump (.exit i))
 |_=>none
def xW(hp:Tr)(nx n:Nat)(ts:Sl)(d:Option Tmp)(ops:Array Oper)(rest:List Oper)(k:List KI)(T:Nat)(b:Bool):Option aB:=match l9 hp n with
 |some 1=>some ⟨.ops ops rest,k,⟨putS ts d (.v (.bool b)),E9 hp n T,nx⟩⟩
 |_=>none
def wC(v:Option SV)(q:Option aB):Option aB:=match v with
 |some _=>q
 |none=>none
def cF(X:aI):St->Exit->List KI->Option aB
 |st,e,[]=>some ⟨.done e,[],st⟩
 |st,.normal,.code c::k=>some ⟨.code c,k,st⟩
 |st,e,.code _::k=>cF X st e k
 |st,.normal,.loop c::k=>some ⟨.code c,.loop c::k,st⟩
 |st,e,.loop _::k=>cF X st e k
 |st,.exit id,.blk j::k=>bif Nat.beq id j then cF X st .normal k else cF X st (.exit id) k
 |st,e,.blk _::k=>cF X st e k
 |st,.normal,.frm ts fn d ops rest::k=>(match mH X fn st with
  |some v=>some ⟨.ops ops rest,k,⟨putS ts d v,st.hp,st.nx⟩⟩
  |none=>none)
 |st,.ret,.frm ts fn d ops rest::k=>(match mH X fn st with
  |some v=>some ⟨.ops ops rest,k,⟨putS ts d v,st.hp,st.nx⟩⟩
  |none=>none)
 |_,_,.frm _ _ _ _ _::_=>none
 |st,.normal,.ds n::k=>bif pY st.hp n then cF X ⟨st.ts,st.hp.del n,st.nx⟩ .normal k else none
 |st,.ret,.ds n::k=>bif pY st.hp n then cF X ⟨st.ts,st.hp.del n,st.nx⟩ .ret k else none
 |_,_,.ds _::_=>none
 |st,.normal,.rng n _ _ _ fn ts::k=>wC (mH X fn st) (wY (l9 st.hp n) (cF X ⟨ts,st.hp.del n,st.nx⟩ .normal k) (λc=>⟨.code c,k,⟨ts,st.hp.del n,st.nx⟩⟩))
 |st,.ret,.rng n _ _ _ fn ts::k=>wC (mH X fn st) (wY (l9 st.hp n) (cF X ⟨ts,st.hp.del n,st.nx⟩ .normal k) (λc=>⟨.code c,k,⟨ts,st.hp.del n,st.nx⟩⟩))
 |_,_,.rng _ _ _ _ _ _::_=>none
 |st,.normal,.rbeg n bdy::k=>(match l9 st.hp n with
  |some 0=>some ⟨.code bdy,k,⟨st.ts,E9 st.hp n 1,st.nx⟩⟩
  |_=>none)
 |_,_,.rbeg _ _::_=>none
 |st,.normal,.rend n ts d ops rest::k=>xW st.hp st.nx n ts d ops rest k 0 true
 |st,.ret,.rend n ts d ops rest::k=>xW st.hp st.nx n ts d ops rest k 2 false
 |st,.exit id,.rend n ts d ops rest::k=>xW st.hp st.nx n ts d ops rest k (id+3) false
 |_,_,.rend _ _ _ _ _::_=>none
def aEK(X:aI)(p:aB)(o:Oper)(ops:Array Oper)(rest:List Oper)(g:FuncId)(args:List SV):Option aB:=match entryS X.P g with
 |some (fn,c)=>some ⟨.code c,.frm p.st.ts fn o.dst ops rest::p.k,⟨frame args fn.ntmps,p.st.hp,p.st.nx⟩⟩
 |none=>none
def aFh:Sl->List Tmp->List SV->Sl
 |ts,t::ps,x::xs=>aFh (sS ts t x) ps xs
 |ts,_,_=>ts
def aC8(p:aB)(o:Oper)(ops:Array Oper)(rest:List Oper)(n:Nat)(args:List SV):Option aB:=match J0 n p.k,l9 p.st.hp n with
 |some (prm,asg,bdy,ts),some 0=>bif Nat.beq prm.toList.length args.length then some ⟨.code asg,.rbeg n bdy::.rend n p.st.ts o.dst ops rest::p.k,⟨aFh ts prm.toList args,p.st.hp,p.st.nx⟩⟩ else none
 |_,_=>none
def aBJ(X:aI)(p:aB)(g:Operand)(prm:Array Tmp)(asg bdy:Code):Option aB:=match ev p.st.ts g,nU p.k with
 | .f (.func gf) [] b,none=>(match entryS X.P gf with
  |some (fn,c)=>some ⟨.code c,.rng (p.st.nx+1) prm asg bdy fn p.st.ts::pH p.st.nx p.k,⟨frame (.y (p.st.nx+1)::b) fn.ntmps,E9 (p.st.hp.put p.st.nx ⟨0,.nil,6⟩) (p.st.nx+1) 0,p.st.nx+1+1⟩⟩
  |none=>none)
 |_,_=>none
def uT(X:aI)(p:aB)(o:Oper)(ops:Array Oper)(rest:List Oper):Option aB:=match dI X p.st o.op o.type with
 |some r=>some ⟨.ops ops rest,p.k,⟨putS p.st.ts o.dst r.1,r.2.1,r.2.2⟩⟩
 |none=>none
def I4(X:aI)(p:aB)(a b:TypeId)(x:SV):Option (SV×Tr):=match x with
 | .s n i l c=>(match X.P.underlying a with
  |some (.slice e)=>(match X.P.underlying e with
   |some (.int .u8)=>(match p.st.hp.get n with
    |some bl=>bif Nat.beq a b&&Nat.beq bl.k 0 then some (.s n i l c,p.st.hp.put n ⟨bl.T,bl.cs,7⟩) else none
    |none=>none)
   |_=>none)
  |_=>none)
 |_=>none
def T0(X:aI)(p:aB)(o:Oper)(ops:Array Oper)(rest:List Oper):Option aB :=
 match gB ops p.st.ts o.guard with
 |some false=>some ⟨.ops ops rest,p.k,⟨putS p.st.ts o.dst mX,p.st.hp,p.st.nx⟩⟩
 |some true=>(match o.op with
  | .store T x y=>(match ev p.st.ts x,(ev p.st.ts y).cells,gH X.P T with
   | .p n i,some cs,some z=>bif Nat.beq (dK cs) z&&o.dst.isNone then (match qI p.st.hp n i cs with
    |some hp=>some ⟨.ops ops rest,p.k,⟨p.st.ts,hp,p.st.nx⟩⟩
    |none=>none) else none
   |_,_,_=>none)
  | .call c=>(match c.callee with
   | .value f=>(match ev p.st.ts f with
    | .f (.func g) a b=>aEK X p o ops rest g (a++(c.args.toList.map (ev p.st.ts)++b))
    | .y n=>aC8 p o ops rest n (c.args.toList.map (ev p.st.ts))
    |_=>none)
   |_=>uT X p o ops rest)
  | .convert a b x=>(match I4 X p a b (ev p.st.ts x) with
   |some (y,hp)=>some ⟨.ops ops rest,p.k,⟨putS p.st.ts o.dst y,hp,p.st.nx⟩⟩
   |none=>uT X p o ops rest)
  |_=>uT X p o ops rest)
 |none=>none
def aHH(p:aB)(b:Code):Option aB:=match nU p.k with
 |none=>some ⟨.code b,p.k,p.st⟩
 |some _=>none
def step(X:aI)(p:aB):Option aB:=match p.h with
 | .code .skip=>cF X p.st .normal p.k
 | .code (.label _)=>cF X p.st .normal p.k
 | .code (.scope b)=>aHH p b
 | .code (.seq a b)=>some ⟨.code a,.code b::p.k,p.st⟩
 | .code (.block id b)=>some ⟨.code b,.blk id::p.k,p.st⟩
 | .code (.exit id)=>cF X p.st (.exit id) p.k
 | .code .ret=>cF X p.st .ret p.k
 | .code (.cond c a b)=>(match ev p.st.ts c with
  | .v (.bool true)=>some ⟨.code a,p.k,p.st⟩
  | .v (.bool false)=>some ⟨.code b,p.k,p.st⟩
  |_=>none)
 | .code (.loop b)=>some ⟨.code b,.loop b::p.k,p.st⟩
 | .code (.region _ ops false)=>some ⟨.ops ops ops.toList,p.k,p.st⟩
 | .code (.rangeFunc g prm asg bdy)=>aBJ X p g prm asg bdy
 | .ops _ []=>cF X p.st .normal p.k
 | .ops ops (o::rest)=>T0 X p o ops rest
 |_=>none
def W4(X:aI)(g:FuncId)(args:List SV):aB:=match entryS X.P g with
 |some (fn,c)=>⟨.code c,[],⟨frame args fn.ntmps,.e,0⟩⟩
 |none=>⟨.done .normal,[],⟨⟨.e,0⟩,.e,0⟩⟩
