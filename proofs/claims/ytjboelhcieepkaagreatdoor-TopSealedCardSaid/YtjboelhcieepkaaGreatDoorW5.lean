/- A part of the proof of TopSealed. -/
import Derived.Test.YtjboelhcieepkaaGreatDoorW4
import Derived.Lib.AppendZeros
import Derived.Laws.StructEq
import Derived.RangeFuncNested
import Derived.OwnWalkIn
import Derived.TacticsInMore
import Derived.LoopNIn
import Derived.LoopIn
import Derived.RangeFuncKeeps
import Derived.RangeFuncCalls
import Derived.RangeFuncBound
import Derived.OrdersIn
noncomputable section
set_option maxRecDepth 16384
namespace Go.Proofs.YtjboelhcieepkaaGreatDoor
open Go.RowKit
section
variable {E:bX}{r:List aF}{hp:Tr}{nx:Nat}{w:World}{P:Program}
theorem aYg(w:World)(o:Obj):Below w.heap.size w (w.drew.alloc o):=(Below.refl _ _).drew.alloc (aS _) o
theorem aNf{t ty e:TypeId}{i:TypeInfo}{A:Option Addr}{n c:Nat}{x:Value}(ht:P.underlying t=some (.slice e))(hi:P.info? e=some i)(hl:(Builtin.lenOf x).run P w=.ok 0 w)(hf:(Builtin.firstCells i.size 0 x).run P w=.ok #[] w)(hn:n≤c):
 (Builtin.append_ #[t,t] ty #[.slice A n c,x]).run P w=.ok (.slice A n c) w:=by
 cases A with
 |none=>simp [Builtin.append_,run_underlying ht,sizeOf,typeInfo,hi,hl,hf,hn]
 |some a=>simp [Builtin.append_,run_underlying ht,sizeOf,typeInfo,hi,hl,hf,hn,storeCells]
theorem aJh{t ty e:TypeId}{i:TypeInfo}{a:Addr}{n c m:Nat}{x:Value}{zs:List Value}{w':World}(ht:P.underlying t=some (.slice e))(hi:P.info? e=some i)(hl:(Builtin.lenOf x).run P w=.ok m w)(hf:(Builtin.firstCells i.size m x).run P w=.ok zs.toArray w)(hn:n+m≤c)
 (hst:(storeCells (a.add (n*i.size)) zs).run P w=.ok () w'):(Builtin.append_ #[t,t] ty #[.slice (some a) n c,x]).run P w=.ok (.slice (some a) (n+m) c) w':=by
 simp [Builtin.append_,run_underlying ht,sizeOf,typeInfo,hi,hl,hf,hn,hst]
theorem aKX{e:TypeId}{cs:Rp SV}{vs zr:List Value}{c g:Nat}(hd:aD r cs vs)(hg:E.w0.heap.size≤g)(hb:aC w g e (vs++zr).toArray)(hz:0<E.X.P.cellsOf e)(hl:vs.length+zr.length=c*E.X.P.cellsOf e)(hc:c≤maxLen):
 eN E r ⟨g,0,c,none,λ_=>False⟩ ⟨e,cs,1⟩ w:=⟨vs,hd,.inr (.inl ⟨rfl,hg,rfl,zr,hb,hz,hl,hc⟩)⟩
theorem aAj{e:TypeId}{i:TypeInfo}{z:Value}(hm:aG E r hp nx w)(hi:E.X.P.info? e=some i)(hzz:z.cells.size=i.size)(hz0:0<i.size){news:List Value}{cs:Rp SV}{need old:Nat}(hd:aD r cs news)(hl:news.length=need*i.size)(hnm:need≤maxLen)(arr:Array Value)
 (ha:arr=(news.toArray++Builtin.zeroCells z.cells (grownCap w need old e-need))) :
 aP (r++[⟨w.heap.size,0,grownCap w need old e,none,λ_=>False⟩]) (.w nx need) (.slice (some ⟨w.heap.size,0,none⟩) need (grownCap w need old e)) ∧
 aG E (r++[⟨w.heap.size,0,grownCap w need old e,none,λ_=>False⟩]) (hp.put nx ⟨e,cs,1⟩) (nx+1) (w.drew.alloc (.cells arr e)):=by
 have hge:=grownCap_ge w need old e
 have hce:E.X.P.cellsOf e=i.size:=by simp [Program.cellsOf,hi]
 refine ⟨?_,?_⟩
 ·have hL:(r++[⟨w.heap.size,0,grownCap w need old e,none,λ_=>False⟩])[nx]?=some ⟨w.heap.size,0,grownCap w need old e,none,λ_=>False⟩:=by rw [<-hm.len];simp
  exact aP.w hL hge
 ·refine hm.add1 (aYg _ _) _ _ (aS _) (aKX (zr:=(Builtin.zeroCells z.cells (grownCap w need old e-need)).toList) (hd.mono _) hm.below.size ?_ (by rw [hce];exact hz0) ?_ (grownCap_le_maxLen w need old e hnm)) (.inl (by show 1<2;decide))
  ·have:(news++(Builtin.zeroCells z.cells (grownCap w need old e-need)).toList).toArray=arr:=by rw [ha];apply Array.toList_inj.1;simp
   rw [this]
   exact aC.new w.drew e arr
  ·have h1:(Builtin.zeroCells z.cells (grownCap w need old e-need)).toList.length=(grownCap w need old e-need)*i.size:=by rw [lC,size_zeroCells,hzz]
   rw [hce,h1,hl,<-Nat.add_mul]
   congr 1;omega
theorem a3J{t t' ty:TypeId}{s x:SV}{vs vx:Value}{res:SV×Tr×Nat}(hm:aG E r hp nx w)(hel:∀e,tH E.X.P t=some e->E.X.P.underlying t=some (.slice e))(hs:aP r s vs)(hx:aP r x vx)(h:aEM E.X.P hp nx t t' s x=some res):
 ∃v w' σ,(Builtin.append_ #[t,t'] ty #[vs,vx]).run E.X.P w=.ok v w'∧aP (r++σ) res.1 v∧aG E (r++σ) res.2.1 res.2.2 w':=by
 unfold aEM at h
 split at h
 ·rename_i e kn k n he htn
  cases hs;cases hx
  split at h
  ·rename_i z sz hz hsz
   obtain ⟨i,hi,rfl⟩:=yI hsz
   obtain ⟨i',zv,hi',hzv,hdz,hzs,_⟩:=qV (r:=r) hz
   rw [hi] at hi';cases hi'
   have hbe:E.X.P.bytesOf e=i.bytes:=by simp [Program.bytesOf,hi]
   simp only [bO,cY,hbe] at h
   by_cases hc:(decide (0<i.size)&&decide ((n+1)*(1+i.bytes)≤140737488355328))=true
   ·rw [hc,cond_true] at h
    simp only [b6] at h
    subst h
    simp only [bJ,bR] at hc
    obtain ⟨hz0,hb⟩:=hc
    rw [Nat.mul_add,Nat.mul_one] at hb
    have hrun:=Lib.run_append_nil_zeros (P:=E.X.P) w t t' ty e i zv k kn (hel e he) htn hi hzv (n+1) (by omega) hz0 (by omega) (by omega)
    have hrep:(Builtin.zeroCells zv.cells (n+1))=((List.replicate (n+1) zv.cells.toList).flatten).toArray:=by
     rw [P9 zv.cells.toList (n+1) (by rw [lC];omega),lC]
     simp [Builtin.zeroCells]
    have hlen:((List.replicate (n+1) zv.cells.toList).flatten).length=(n+1)*i.size:=by simp [hzs]
    have hg:=aAj hm hi hzs hz0 (need:=n+1) (old:=0) (hdz.rep (n+1)) hlen (by unfold maxLen;omega) (Builtin.zeroCells zv.cells (n+1)++Builtin.zeroCells zv.cells (grownCap w (n+1) 0 e-(n+1))) (by rw [hrep])
    exact ⟨_,_,_,hrun,hg.1,hg.2⟩
   ·rw [jD] at hc
    rw [hc] at h;cases h
  ·cases h
 ·cases h
theorem aZh{t ty e:TypeId}{s x:SV}{vs vx:Value}{res:SV×Tr×Nat}(hm:aG E r hp nx w)(ht:E.X.P.underlying t=some (.slice e))(hs:aP r s vs)(hx:aP r x vx)(h:aDi E.X.P hp nx e s x=some res):
 ∃v w' σ,(Builtin.append_ #[t,t] ty #[vs,vx]).run E.X.P w=.ok v w'∧aP (r++σ) res.1 v∧aG E (r++σ) res.2.1 res.2.2 w':=by
 unfold aDi at h
 split at h
 ·rename_i z zc hz hzero
  obtain ⟨i,hi,rfl⟩:=yI hz
  obtain ⟨i',zv,hi',hzv,_,hzs,_⟩:=qV (r:=r) hzero
  rw [hi] at hi';cases hi'
  have hce:E.X.P.cellsOf e=i.size:=by simp [Program.cellsOf,hi]
  have hbe:E.X.P.bytesOf e=i.bytes:=by simp [Program.bytesOf,hi]
  split at h
  ·rename_i m new n hsc hln
   obtain ⟨A,c2,zs,rfl,hd,hzl,hr⟩:=uX hm hx hsc
   have hf:=aLa (P:=E.X.P) (c:=c2) hr
   have hlen:(Builtin.lenOf (.slice A m c2)).run E.X.P w=.ok m w:=rfl
   simp only [bO,cY,hbe] at h
   by_cases hcond:(decide (0<i.size)&&decide ((n+m)*(1+i.bytes)≤140737488355328))=true
   ·rw [hcond,cond_true] at h
    simp only [bJ,bR] at hcond
    obtain ⟨hz0,hbound⟩:=hcond
    rw [Nat.mul_add,Nat.mul_one] at hbound
    have hnm:n+m≤maxLen:=by unfold maxLen;omega
    have hby:(n+m)*i.bytes≤140737488355328:=by omega
    split at h
    ·-- nil
     cases hs
     simp only [wW,b6] at hln
     subst hln
     cases m with
     |zero =>
      simp only [b6] at h
      subst h
      have e0:zs=[]:=mJ (by simpa using hzl)
      subst e0
      exact ⟨.slice none 0 0,w,[],aNf ht hi hlen hf (aS _),.v _,by simpa using hm⟩
     |succ m =>
      simp only [b6] at h
      subst h
      obtain ⟨ad,rfl,hlt,hcell⟩:=hr.2 (Nat.succ_pos m)
      have hrun:=run_append_nil (P:=E.X.P) w t ty e i zv ht hi hzv ad (m+1) c2 zs hzl hcell (Nat.succ_pos m) (by omega) (by simp only [Nat.zero_add] at hby;omega)
      have hg:=aAj hm hi hzs hz0 (need:=m+1) (old:=0) hd hzl (by simpa using hnm) _ rfl
      exact ⟨_,_,_,hrun,hg.1,hg.2⟩
    ·-- a known capacity
     rename_i g o l c
     simp only [wW,b6] at hln
     subst hln
     cases hs with
     |@s _ _ _ _ L hL =>
      by_cases hroom:l+m≤c
      ·simp only [hroom,decide_true,cond_true] at h
       split at h
       ·rename_i hp' hw
        simp only [b6] at h
        subst h
        obtain ⟨w',hst,hm'⟩:=I5 hm hL hd hw
        refine ⟨_,w',[],aJh ht hi hlen hf hroom (by rw [eX,Nat.add_assoc];exact hst),?_,by simpa using hm'⟩
        rw [eC]
        exact .s hL
       ·cases h
      ·simp only [hroom,decide_false,cond_false] at h
       split at h
       ·rename_i fst old m' hso
        simp only [b6] at h
        subst h
        obtain ⟨A',c',os,he,hdo,hol,hro⟩:=uX hm (aP.s (l:=l) (c:=c) (o:=o) hL) hso
        simp only [Value.slice.injEq] at he
        obtain ⟨rfl,rfl,rfl⟩:=he
        obtain ⟨ad,rfl,hlt,hcell⟩:=hr.2 (Nat.succ_pos m')
        have hold:∀j v,os[j]?=some v->w.cell? ((⟨L.g,L.b+o,none⟩:Addr).add j)=some v:=by
         intro j v hv
         rcases Nat.eq_zero_or_pos l with h0|h0
         ·subst h0
          have:os=[]:=mJ (by simpa using hol)
          subst this;simp at hv
         ·obtain ⟨a',e',_,hc'⟩:=hro.2 h0
          cases e'
          exact hc' j v hv
        have hrun:=run_append_grow (P:=E.X.P) w t ty e i zv ht hi hzv ⟨L.g,L.b+o,none⟩ l c os hol hold ad (m'+1) c2 zs hzl hcell (by omega) (by omega) (growslice_fits (by omega) hby)
        have hg:=aAj hm hi hzs hz0 (need:=l+(m'+1)) (old:=c) (aD.cat hdo hd) (by rw [eS,hol,hzl,Nat.add_mul]) hnm (os.toArray++zs.toArray++Builtin.zeroCells zv.cells (grownCap w (l+(m'+1)) c e-(l+(m'+1)))) (by apply Array.toList_inj.1;simp)
        exact ⟨_,_,_,hrun,hg.1,hg.2⟩
       ·cases h
    ·-- a capacity that is not known
     rename_i g l
     simp only [wW,b6] at hln
     subst hln
     cases hs with
     |@w _ _ L hL hle =>
      by_cases hrw:(aGi hp g ((l+m)*i.size) e&&decide (0<m))=true
      ·rw [hrw,cond_true] at h
       split at h
       ·rename_i hp' hw
        simp only [b6] at h
        subst h
        obtain ⟨w',hst,hm'⟩:=I5 hm hL hd hw
        simp only [bJ,bR] at hrw
        obtain ⟨hrw,hm0⟩:=hrw
        unfold aGi at hrw
        split at hrw
        ·rename_i b hb
         simp only [bJ,bE,cY,bR] at hrw
         obtain ⟨hk1,hsz,hT⟩:=hrw
         obtain ⟨M,hM,vs',hdv,hok⟩:=hm.blk g b hb
         rw [hL] at hM;cases hM
         have hroom:l+m≤L.c:=by
          rcases hok with ⟨h0,_⟩|⟨_,_,_,rest,_,_,hlen2,_⟩|⟨h2,_⟩
          ·omega
          ·rw [hT,hce] at hlen2
           have h5:(l+m)*i.size≤L.c*i.size:=by rw [<-hlen2,hdv.length_eq];omega
           exact Nat.le_of_mul_le_mul_right h5 hz0
          ·omega
         refine ⟨_,w',[],aJh ht hi hlen hf hroom (by rw [eX];exact hst),?_,by simpa using hm'⟩
         rw [eC]
         exact .w hL hroom
        ·cases hrw
       ·cases h
      rw [jD] at hrw
      rw [hrw,cond_false] at h
      split at h
      ·simp only [b6] at h
       subst h
       have e0:zs=[]:=mJ (by simpa using hzl)
       subst e0
       refine ⟨_,w,[],aNf ht hi hlen hf hle,?_,by simpa using hm⟩
       rw [eC]
       exact .w hL hle
      ·rename_i b m' hb
       simp only [bE] at h
       by_cases hc3:(decide (b.k=1)&&(decide (dK b.cs=l*i.size)&&decide (b.T=e)))=true
       ·rw [hc3,cond_true] at h
        simp only [b6] at h
        subst h
        simp only [bJ,bR] at hc3
        obtain ⟨hk1,hcs,hT⟩:=hc3
        obtain ⟨M,hM,hok⟩:=hm.blk g b hb
        rw [hL] at hM;cases hM
        obtain ⟨ad,rfl,hlt,hcell⟩:=hr.2 (Nat.succ_pos m')
        have hok2:=hok
        obtain ⟨os,hdo,hcase⟩:=hok2
        rcases hcase with ⟨h0,_⟩|⟨_,hge,hb0,rest,hblk,_,hcap,hcm⟩|⟨h0,_⟩
        ·omega
        ·have hol:os.length=l*i.size:=by rw [hdo.length_eq,hcs]
         rw [hT] at hblk hcap
         have hzone:=hd.one_
         by_cases hroom:l+(m'+1)≤L.c
         ·have hnl:zs.length≤rest.length:=by
           have h1:(l+(m'+1))*i.size≤L.c*i.size:=Nat.mul_le_mul_right _ hroom
           rw [hce,hol] at hcap
           rw [Nat.add_mul,<-hcap] at h1
           rw [hzl]
           exact Nat.le_of_add_le_add_left h1
          have hrun:=run_append_room (P:=E.X.P) w t ty e i ht hi L.g l L.c _ hblk ad (m'+1) c2 zs hzl hcell hzone hroom (by simp;omega)
          have htk:((os++rest).toArray.toList.take (l*i.size)++zs++(os++rest).toArray.toList.drop (l*i.size+zs.length))=(os++zs)++rest.drop zs.length:=by
           simp [<-hol,List.drop_append]
          rw [htk] at hrun
          refine ⟨_,_,[⟨L.g,0,L.c,none,λ_=>False⟩],(by rw [hb0];exact hrun),?_,?_⟩
          ·have hL2:(r++[⟨L.g,0,L.c,none,λ_=>False⟩])[nx]?=some ⟨L.g,0,L.c,none,λ_=>False⟩:=by rw [<-hm.len];simp
           exact aP.w hL2 hroom
          ·refine hm.rename hb (by omega) hL (L':=⟨L.g,0,L.c,none,λ_=>False⟩) rfl (by simp [World.setRow]) (λk hk=>sJ w L.g _ k (Ne.symm hk)) rfl rfl rfl ?_ (by show 1<2;decide)
           refine aKX (aD.cat (hdo.mono _) (hd.mono _)) hge (aC.row hblk _) (by rw [hce];exact hz0) ?_ hcm
           simp;omega
         ·have hold:∀j v,os[j]?=some v->w.cell? ((⟨L.g,L.b,none⟩:Addr).add j)=some v:=by
           intro j v hv
           have hj:=(rI.1 hv).1
           rw [hb0,eX,Nat.zero_add,hblk.cell]
           simpa [mZ hj] using hv
          have hrun:=run_append_grow (P:=E.X.P) w t ty e i zv ht hi hzv ⟨L.g,L.b,none⟩ l L.c os hol hold ad (m'+1) c2 zs hzl hcell (by omega) (by omega) (growslice_fits (by omega) hby)
          have hg:=aAj (hm.del g) hi hzs hz0 (need:=l+(m'+1)) (old:=L.c) (aD.cat hdo hd) (by rw [eS,hol,hzl,Nat.add_mul]) hnm (os.toArray++zs.toArray++Builtin.zeroCells zv.cells (grownCap w (l+(m'+1)) L.c e-(l+(m'+1)))) (by apply Array.toList_inj.1;simp)
          exact ⟨_,_,_,hrun,hg.1,hg.2⟩
        ·omega
       ·rw [jD] at hc3
        rw [hc3] at h;simp at h
      ·cases h
    ·cases h
   ·rw [jD] at hcond
    rw [hcond] at h;simp at h
  ·cases h
 ·cases h
theorem aMr{T T' ty e:TypeId}{z m n o l:Nat}{x:SV}{cs:Rp SV}{vx:Value}{A:Addr}{c:Nat}{hp':Tr}{L:aF}(hm:aG E r hp nx w)(hT:E.X.P.underlying T=some (.slice e))(hz:gH E.X.P e=some z)(hx:aP r x vx)(hc:jH hp z x=some (m,cs))(hL:r[n]?=some L)
 (hA:A=⟨L.g,L.b+o,none⟩) (h:qI hp n o (mP cs (Nat.min m l*z))=some hp') :
 ∃w',(Builtin.copy_ #[T,T'] ty #[.slice (some A) l c,vx]).run E.X.P w=.ok (.int .i64 ((Nat.min m l:Nat):Int)) w'∧aG E r hp' nx w':=by
 subst hA
 obtain ⟨A2,c2,zs,rfl,hd,hzl,hr⟩:=uX hm hx hc
 have hmin:Nat.min m l≤m:=Nat.min_le_left _ _
 have hr2:bH w w.heap.size z A2 (Nat.min m l) (zs.take (Nat.min m l*z)):=by
  refine ⟨by rw [List.length_take,hzl];exact Nat.min_eq_left (Nat.mul_le_mul_right _ hmin),λh0=>?_⟩
  obtain ⟨ad,e,hlt,hcell⟩:=hr.2 (by omega)
  refine ⟨ad,e,hlt,λj u hu=>hcell j u ?_⟩
  rw [List.getElem?_take] at hu
  split at hu
  ·exact hu
  ·cases hu
 have hf:=aLa (P:=E.X.P) (c:=c2) hr2
 have hf2:∀k c',(Builtin.firstCells z k (.slice A2 m c'))=(Builtin.firstCells z k (.slice A2 (Nat.min m l) c')):=λk c'=>by cases A2<;>rfl
 obtain ⟨w',hst,hm'⟩:=I5 hm hL (aD.take_ _ hd) h
 refine ⟨w',?_,hm'⟩
 have hlen:(Builtin.lenOf (.slice A2 m c2)).run E.X.P w=.ok m w:=rfl
 have hf3:(Builtin.firstCells z (Nat.min m l) (.slice A2 m c2)).run E.X.P w=.ok (zs.take (Nat.min m l*z)).toArray w:=by rw [hf2];exact hf
 simp [Builtin.copy_,run_underlying hT,i9 hz,hlen,goInt,hf3,hst]
end
def pT(q:Bool):Value->Value->Option Bool
 | .int k a,.int j b=>if k=j∧q=false then some (decide (a=b)) else none
 | .bool a,.bool b=>if q=true then some (a==b) else none
 |_,_=>none
def eqV(q:Bool):List Value->List Value->Option Bool
 |[],[]=>some true
 |x::xs,y::ys=>match pT q x y,eqV q xs ys with
  |some c,some r=>some (c&&r)
  |_,_=>none
 |_,_=>none
theorem K7{q:Bool}{x y:Value}{xs ys:List Value}{c r:Bool}(h:pT q x y=some c)(h':eqV q xs ys=some r):eqV q (x::xs) (y::ys)=some (c&&r):=by simp [eqV,h,h']
theorem aFJ{q:Bool}{x:Value}{xs ys:List Value}{b:Bool}(h:eqV q (x::xs) ys=some b):∃y ys' c r,ys=y::ys'∧pT q x y=some c∧eqV q xs ys'=some r∧b=(c&&r):=by
 cases ys with
 |nil=>simp [eqV] at h
 |cons y ys =>
  cases h1:pT q x y with
  |none=>simp [eqV,h1] at h
  |some c=>cases h2:eqV q xs ys with
   |none=>simp [eqV,h1,h2] at h
   |some r=>simp only [eqV,h1,h2,b6] at h;exact ⟨y,ys,c,r,rfl,h1,h2,h.symm⟩
theorem aLN{q:Bool}:∀{xs ys xs' ys':List Value} {b b':Bool},eqV q xs ys=some b->eqV q xs' ys'=some b'->eqV q (xs++xs') (ys++ys')=some (b&&b')
 |[],ys,_,_,_,_,h,h'=>by
  cases ys with
  |nil=>simp [eqV] at h;subst h;simpa using h'
  |cons=>simp [eqV] at h
 |x::xs,ys,_,_,_,_,h,h'=>by
  obtain ⟨y,ys',c,r,rfl,h1,h2,rfl⟩:=aFJ h
  rw [Bool.and_assoc]
  exact K7 h1 (aLN h2 h')
theorem aF9{q:Bool}:∀(n:Nat) {xs ys:List Value} {b:Bool},eqV q xs ys=some b->∃b1 b2,eqV q (xs.take n) (ys.take n)=some b1∧eqV q (xs.drop n) (ys.drop n)=some b2∧b=(b1&&b2)
 |0,xs,ys,b,h=>⟨true,b,by simp [eqV],by simpa using h,by simp⟩
 |n+1,[],ys,b,h=>by
  cases ys with
  |nil=>simp [eqV] at h;exact ⟨true,true,by simp [eqV],by simp [eqV],by simp [<-h]⟩
  |cons=>simp [eqV] at h
 |n+1,x::xs,ys,b,h=>by
  obtain ⟨y,ys',c,r,rfl,h1,h2,rfl⟩:=aFJ h
  obtain ⟨b1,b2,h3,h4,rfl⟩:=aF9 n h2
  exact ⟨c&&b1,b2,by simpa using K7 h1 h3,by simpa using h4,by rw [Bool.and_assoc]⟩
theorem aIh(k:IntKind):∀(l m:List Nat),l.length=m.length->eqV false (nv k l) (nv k m)=some (decide (l=m))
 |[],[],_=>by simp [eqV,nv]
 |a::l,b::m,h=>by
  have ih:=aIh k l m (by simpa using h)
  simp only [nv,List.map_cons] at ih ⊢
  rw [K7 (c:=decide (a=b)) (by simp [pT];omega) ih]
  by_cases hab:a=b
  ·subst hab;simp
  ·simp [hab]
 |[],_::_,h=>by simp at h
 |_::_,[],h=>by simp at h
section
variable {r:List aF}
inductive cE(r:List aF):List (Rp SV)->List Value->Prop
 |nil:cE r [] []
 |cons {x:Rp SV} {xs:List (Rp SV)} {us vs:List Value} (h:aD r x us) (t:cE r xs vs):cE r (x::xs) (us++vs)
theorem aEp{g:At->List (Rp SV)->List (Rp SV)}(hg:∀a l vs,cE r l vs->cE r (g a l) (a.vals++vs))(c:Rp SV):∀{us:List Value} {l:List (Rp SV)} {vs:List Value},aD r c us->cE r l vs->cE r (C1 g c l) (us++vs):=by
 induction c with
 |q a=>intro us l vs h t;cases h;exact hg a l vs t
 |nil=>intro us l vs h t;cases h;exact t
 |one x=>intro us l vs h t;exact .cons h t
 |arr k n m=>intro us l vs h t;exact .cons h t
 |node s t a b iha ihb =>
  intro us l vs h t'
  cases h with
  |node ha hb _ _=>rw [List.append_assoc];exact iha ha (ihb hb t')
theorem aKm:∀(n:Nat) (a:At) (l:List (Rp SV)) (vs:List Value),cE r l vs->cE r (aEt n a l) (a.vals++vs)
 |0,a,_,_,t=>.cons (.q a) t
 |n+1,a,_,_,t=>aEp (aKm n) (t5 a) (aBo a) t
theorem F3(c:Rp SV){us:List Value}{l:List (Rp SV)}{vs:List Value}(h:aD r c us)(t:cE r l vs):cE r (tC c l) (us++vs) :=
 aEp (aKm 4) c h t
theorem aLp{q:Bool}:∀(xs:List (Rp SV)) {ys:List (Rp SV)} {us vs:List Value} {b:Bool},cE r xs us->cE r ys vs->vJ q xs ys=some b->eqV q us vs=some b:=by
 intro xs
 induction xs with
 |nil =>
  intro ys us vs b hx hy h
  unfold vJ at h
  split at h
  ·cases hx;cases hy;exact h
  all_goals first|(rename_i e _;cases e;done)|(rename_i e;cases e;done)|cases h
 |cons x xs ih =>
  intro ys us vs b hx hy h
  unfold vJ at h
  split at h
  ·rename_i e;simp at e
  ·rename_i k a xs' j c ys' e
   obtain ⟨rfl,rfl⟩:=List.cons.inj e
   cases hx with
   |cons h1 hx=>cases hy with
    |cons h2 hy =>
     cases h1 with
     |one h1 _=>cases h2 with
      |one h2 _ =>
       cases h1;cases h2
       by_cases hk:k=j∧q=false
       ·obtain ⟨rfl,rfl⟩:=hk
        simp only [decide_true,Bool.not_false,Bool.and_self,cond_true] at h
        split at h
        ·rename_i q hq
         cases h
         exact K7 (by simp [pT]) (ih hx hy hq)
        ·cases h
       ·have:(decide (k=j)&&!q)=false:=by simpa using hk
        simp [this] at h
  ·rename_i a xs' c ys' e
   obtain ⟨rfl,rfl⟩:=List.cons.inj e
   cases hx with
   |cons h1 hx=>cases hy with
    |cons h2 hy =>
     cases h1 with
     |one h1 _=>cases h2 with
      |one h2 _ =>
       cases h1;cases h2
       cases q
       ·simp at h
       ·simp only [cond_true] at h
        split at h
        ·rename_i q hq
         cases h
         exact K7 (by simp [pT]) (ih hx hy hq)
        ·cases h
  ·rename_i k n l xs' j m l' ys' e
   obtain ⟨rfl,rfl⟩:=List.cons.inj e
   cases hx with
   |cons h1 hx=>cases hy with
    |cons h2 hy =>
     cases h1 with
     |arr hl=>cases h2 with
      |arr hl' =>
       by_cases hk:k=j∧n=m∧q=false
       ·obtain ⟨rfl,rfl,rfl⟩:=hk
        simp only [decide_true,bE,Bool.not_false,Bool.and_self,cond_true] at h
        split at h
        ·rename_i q hq
         cases h
         exact aLN (aIh k l l' (by omega)) (ih hx hy hq)
        ·cases h
       ·have:(decide (k=j)&&(decide (n=m)&&!q))=false:=by simpa using hk
        simp [bE,this] at h
  ·cases h
theorem cE.app:∀{xs ys:List (Rp SV)} {us vs:List Value},cE r xs us->cE r ys vs->cE r (xs++ys) (us++vs)
 |[],_,_,_,h,t=>by cases h;exact t
 |_::_,_,_,_,h,t=>by cases h with|cons h1 h2=>rw [List.append_assoc];exact .cons h1 (cE.app h2 t)
theorem aFL:∀{xs:List (Rp SV)} {us:List Value},cE r xs us->cE r (G7 xs) us
 |[],_,h=>by cases h;exact .nil
 |x::xs,_,h=>by
  cases h with
  |cons h1 t =>
   have ih:=aFL t
   cases x with
   |arr k n l =>
    cases h1 with
    |arr hl =>
     subst hl
     refine cE.app ?_ ih
     have e:((List.range l.length).map λi=>Rp.one (SV.v (.int k ((l.getD i 0:Nat):Int))))=(nv k l).map λv=>Rp.one (SV.v v):=by
      apply List.ext_getElem (by simp [nv])
      intro i h1 h2
      simp at h1
      simp [nv,h1]
     rw [e]
     have gen:∀(m:List Value),(∀v∈m,v.oneCell'=true)->cE r (m.map λv=>Rp.one (SV.v v)) m:=by
      intro m
      induction m with
      |nil=>intro _;exact .nil
      |cons v m ihm=>intro hv;exact cE.cons (us:=[v]) (.one (.v v) (hv v (by simp))) (ihm λu hu=>hv u (by simp [hu]))
     exact gen _ (gN k l)
   |nil=>exact .cons h1 ih
   |one y=>exact .cons h1 ih
   |node s t a b=>exact .cons h1 ih
   |q a=>exact .cons h1 ih
theorem aXq{q:Bool}{xs ys:Rp SV}{us vs:List Value}{b:Bool}(hx:aD r xs us)(hy:aD r ys vs)(h:H6 q xs ys=some b):eqV q us vs=some b:=by
 have hx':=F3 _ hx .nil
 have hy':=F3 _ hy .nil
 rw [eC] at hx' hy'
 unfold H6 at h
 split at h
 ·rename_i c hc
  cases h
  exact aLp _ hx' hy' hc
 ·exact aLp _ (aFL hx') (aFL hy') h
end
section
variable {P:Program}{w:World}
def qY(P:Program)(T:TypeId)(xs:List Value):Value:=if isRow P T=some true then .agg xs.toArray else xs.headD undef
theorem aBH{T:TypeId}{xs:List Value}{o n:Nat}{d:TypeDesc}(hu:P.underlying T=some d)(hn:P.cellsOf T=n)(hl:o+n≤xs.length)(h1:isRow P T=some false->n=1)(w:World):(part T xs.toArray o).run P w=.ok (qY P T ((xs.drop o).take n)) w:=by
 obtain ⟨i,hi⟩:=info_of_underlying hu
 have hs:gH P T=some n:=by simp [gH,hi,<-hn,Program.cellsOf]
 cases hr:isRow P T with
 |none=>unfold isRow at hr;rw [hu] at hr;cases d<;>simp at hr
 |some b =>
  cases b with
  |true =>
   have e:xs.toArray.extract o (o+n)=((xs.drop o).take n).toArray:=by
    apply Array.toList_inj.1
    rw [Array.toList_extract]
    simp [List.extract]
   simp [part,aCv hr,i9 hs,qY,hr]
  |false =>
   obtain rfl:=h1 hr
   have hx:xs[o]?=some xs[o]:=eZ (by omega)
   have hx2:xs.toArray[o]?=some xs[o]:=by simp [hx]
   have e:(xs.drop o).take 1=[xs[o]]:=by rw [List.drop_eq_getElem_cons (by omega)];rfl
   simp [part,aAC hr,hx2,qY,hr,e]
theorem zT{T:TypeId}{d:TypeDesc}(hu:P.underlying T=some d):isRow P T=some (match d with | .struct _ | .array _ _=>true|_=>false):=by
 have:isRow P T=(match (some d:Option TypeDesc) with
  |some (.struct _)=>some true
  |some (.array _ _)=>some true
  |some _=>some false
  |none=>none):=by rw [<-hu];rfl
 rw [this]
 cases d<;>rfl
theorem aSP{q:Bool}:∀(d:Nat) (T:TypeId) {xs ys:List Value} {b:Bool},plainT P q d T=true->xs.length=P.cellsOf T->ys.length=P.cellsOf T->eqV q xs ys=some b->∀D,d≤D->(Op.equalIn D T (qY P T xs) (qY P T ys)).run P w=.ok b w:=by
 intro d
 induction d with
 |zero=>intro T xs ys b h;simp [plainT] at h
 |succ d ih =>
  intro T xs ys b h hxl hyl he D hD
  obtain ⟨D,rfl⟩:∃k,D=k+1:=⟨D-1,by omega⟩
  have one:∀{x y:Value},xs=[x]->ys=[y]->∃c,pT q x y=some c∧b=c:=by
   rintro x y rfl rfl
   obtain ⟨y',ys',c,r,e,h1,h2,rfl⟩:=aFJ he
   cases e
   simp [eqV] at h2;subst h2
   exact ⟨c,h1,by simp⟩
  have single:P.cellsOf T=1->∃x y,xs=[x]∧ys=[y]:=λh1=>by
   rw [h1] at hxl hyl
   obtain ⟨x,rfl⟩:=List.length_eq_one_iff.1 hxl
   obtain ⟨y,rfl⟩:=List.length_eq_one_iff.1 hyl
   exact ⟨x,y,rfl,rfl⟩
  have wid:∀e,plainT P q d e=true->isRow P e=some false->P.cellsOf e=1:=by
   intro e hp hr
   cases d with
   |zero=>simp [plainT] at hp
   |succ d =>
    unfold plainT at hp
    split at hp
    ·simp only [bE,bJ,bR] at hp;exact hp.2
    ·simp only [bE,bJ,bR] at hp;exact hp.2
    ·rename_i hu;rw [zT hu] at hr;simp at hr
    ·rename_i hu;rw [zT hu] at hr;simp at hr
    ·cases hp
  have und:∀e,plainT P q d e=true->∃dd,P.underlying e=some dd:=by
   intro e hp
   cases d with
   |zero=>simp [plainT] at hp
   |succ d =>
    unfold plainT at hp
    split at hp<;>first|exact ⟨_,by assumption⟩|cases hp
  unfold plainT at h
  split at h
  ·rename_i k hu
   simp only [bE,bJ,bR,Bool.not_eq_true'] at h
   obtain ⟨rfl,h1⟩:=h
   obtain ⟨x,y,rfl,rfl⟩:=single h1
   obtain ⟨c,hc,rfl⟩:=one rfl rfl
   have hr:=zT hu
   cases x<;>cases y<;>simp only [pT,reduceCtorEq] at hc
   ·simp at hc
   ·rename_i k1 a k2 a2
    by_cases hk:k1=k2
    ·subst hk
     simp only [true_and,if_true,b6] at hc
     subst hc
     simp only [qY,hr,List.headD]
     have:=run_equalIn_int (P:=P) w D T k1 k a a2 hu
     simp only [b6,Bool.false_eq_true,if_false]
     rw [this];congr 1
    ·simp [hk] at hc
  ·rename_i hu
   simp only [bE,bJ,bR] at h
   obtain ⟨rfl,h1⟩:=h
   obtain ⟨x,y,rfl,rfl⟩:=single h1
   obtain ⟨c,hc,rfl⟩:=one rfl rfl
   have hr:=zT hu
   cases x<;>cases y<;>simp only [pT,reduceCtorEq] at hc
   ·simp only [if_true,b6] at hc
    subst hc
    simp only [qY,hr,List.headD,b6,Bool.false_eq_true,if_false]
    exact run_equalIn_bool' w D T _ _ hu
   ·simp at hc
  ·rename_i n e hu
   simp only [bE,bJ,bR] at h
   obtain ⟨hp,hc⟩:=h
   obtain ⟨dd,hue⟩:=und e hp
   obtain ⟨i,hi⟩:=info_of_underlying hue
   have hr:=zT hu
   simp only [qY,hr,if_true]
   rw [run_equalIn_array w D _ _ hu hi]
   have gen:∀(k j:Nat) (b:Bool),j+k=n->eqV q (xs.drop (j*P.cellsOf e)) (ys.drop (j*P.cellsOf e))=some b->(Op.eqItems D e (P.cellsOf e) xs.toArray ys.toArray (List.range' j k)).run P w=.ok b w:=by
    intro k
    induction k with
    |zero =>
     intro j b hj hq
     have e1:xs.drop (j*P.cellsOf e)=[]:=kI (by rw [hxl,hc,<-hj];simp)
     have e2:ys.drop (j*P.cellsOf e)=[]:=kI (by rw [hyl,hc,<-hj];simp)
     rw [e1,e2] at hq
     simp [eqV] at hq
     subst hq
     simp [Op.eqItems]
    |succ k ihk =>
     intro j b hj hq
     obtain ⟨b1,b2,h1,h2,rfl⟩:=aF9 (P.cellsOf e) hq
     have hle:j*P.cellsOf e+P.cellsOf e≤n*P.cellsOf e:=by
      have:(j+1)*P.cellsOf e≤n*P.cellsOf e:=Nat.mul_le_mul_right _ (by omega)
      rwa [Nat.add_mul,Nat.one_mul] at this
     have p1:=aBH (w:=w) hue rfl (xs:=xs) (o:=j*P.cellsOf e) (by rw [hxl,hc];exact hle) (wid e hp)
     have p2:=aBH (w:=w) hue rfl (xs:=ys) (o:=j*P.cellsOf e) (by rw [hyl,hc];exact hle) (wid e hp)
     have p3:=ih e hp (by simp;omega) (by simp;omega) h1 D (by omega)
     rw [List.drop_drop,List.drop_drop,<-Nat.succ_mul] at h2
     have p4:=ihk (j+1) b2 (by omega) h2
     rw [List.range'_succ,Op.eqItems]
     simp only [Sem.run_bind,p1,p2,p3,Result.andThen_ok]
     cases b1
     ·simp
     ·simpa using p4
   have:=gen n 0 b (by omega) (by simpa using he)
   rwa [<-List.range_eq_range'] at this
  ·rename_i fs hu
   simp only [bJ,Bool.not_eq_true'] at h
   obtain ⟨⟨hst,hall⟩,hflat⟩:=h
   have hr:=zT hu
   simp only [qY,hr,if_true]
   have hfs:P.fieldsOf T=fs:=by simp [Program.fieldsOf,hu]
   rw [run_equalIn_struct w D T _ _ (by rw [hfs];exact hu) hst,hfs]
   have gen : ∀ (l : List Field) (o : Nat) (b : Bool), l.all (fun f => f.name != "_" && plainT P q d f.type) = true → plainT.flatF P (P.cellsOf T) o l = true → eqV q (xs.drop o) (ys.drop o) = some b → (Op.eqFields D xs.toArray ys.toArray l).run P w = .ok b w ∧ o ≤ P.cellsOf T := by
    intro l
    induction l with
    |nil =>
     intro o b _ hf hq
     simp only [plainT.flatF,bE,bR] at hf
     rw [kI (by omega),kI (by omega)] at hq
     simp [eqV] at hq
     subst hq
     exact ⟨by simp [Op.eqFields],by omega⟩
    |cons f l ihl =>
     intro o b ha hf hq
     simp only [List.all_cons,bJ,bne_iff_ne,ne_eq] at ha
     obtain ⟨⟨hn,hp⟩,ha⟩:=ha
     simp only [plainT.flatF,bE,bJ,bR] at hf
     obtain ⟨ho,hf⟩:=hf
     obtain ⟨dd,hue⟩:=und f.type hp
     obtain ⟨b1,b2,h1,h2,rfl⟩:=aF9 (P.cellsOf f.type) hq
     rw [List.drop_drop,List.drop_drop] at h2
     obtain ⟨p4,hle⟩:=ihl (o+P.cellsOf f.type) b2 ha hf h2
     have p1:=aBH (w:=w) hue rfl (xs:=xs) (o:=o) (by omega) (wid f.type hp)
     have p2:=aBH (w:=w) hue rfl (xs:=ys) (o:=o) (by omega) (wid f.type hp)
     have p3:=ih f.type hp (by simp;omega) (by simp;omega) h1 D (by omega)
     refine ⟨?_,by omega⟩
     rw [Op.eqFields,if_pos hn,ho]
     simp only [Sem.run_bind,p1,p2,p3,Result.andThen_ok]
     cases b1
     ·simp
     ·simpa using p4
   exact (gen fs.toList 0 b hall hflat (by simpa using he)).1
  ·cases h
end
section
variable {df:List Deferred}
def L4(E:bX)(r:List aF)(w:World)(vs:List Value)(df:List Deferred)(o:Oper)(x:SV×Tr×Nat):Prop :=
 ∃v w' s,(execOp (Act.eval ⟨vs.toArray,df⟩) o).run E.X.P w=.ok (.value v) w'∧aP (r++s) x.1 v∧aG E (r++s) x.2.1 x.2.2 w'
section
variable {E:bX}{r:List aF}{st:St}{w:World}{vs:List Value}{o:Oper}
theorem L4.pure{y:SV}{v:Value}(hm:aG E r st.hp st.nx w)(h:(execOp (Act.eval ⟨vs.toArray,df⟩) o).run E.X.P w=.ok (.value v) w)(hy:aP r y v):L4 E r w vs df o (y,st.hp,st.nx) :=
 ⟨v,w,[],h,by rw [eC];exact hy,by rw [eC];exact hm⟩
theorem L4.new{T:TypeId}{cs:Rp SV}{us:List Value}{y:SV}{v:Value}(hm:aG E r st.hp st.nx w)(hd:aD r cs us)(h:(execOp (Act.eval ⟨vs.toArray,df⟩) o).run E.X.P w=.ok (.value v) (w.alloc (.cells us.toArray T)))(hy:aP (r++[⟨w.heap.size,0,0,none,λ_=>False⟩]) y v):L4 E r w vs df o (rB st T cs y) :=
 ⟨v,_,[⟨w.heap.size,0,0,none,λ_=>False⟩],h,hy,hm.new T hd⟩
theorem aOw(hm:aG E r st.hp st.nx w)(o:Nat):aP (r++[⟨w.heap.size,0,0,none,λ_=>False⟩]) (.p st.nx o) (.pointer (some ⟨w.heap.size,o,none⟩)):=by
 have hL:(r++[⟨w.heap.size,0,0,none,λ_=>False⟩])[st.nx]?=some (⟨w.heap.size,0,0,none,λ_=>False⟩:aF):=by rw [<-hm.len];simp
 have:=aP.p (r:=r++[⟨w.heap.size,0,0,none,λ_=>False⟩]) (o:=o) hL
 simpa using this
theorem aEh(hm:aG E r st.hp st.nx w)(l c:Nat):aP (r++[⟨w.heap.size,0,0,none,λ_=>False⟩]) (.s st.nx 0 l c) (.slice (some ⟨w.heap.size,0,none⟩) l c):=by
 have hL:(r++[⟨w.heap.size,0,0,none,λ_=>False⟩])[st.nx]?=some (⟨w.heap.size,0,0,none,λ_=>False⟩:aF):=by rw [<-hm.len];simp
 have:=aP.s (r:=r++[⟨w.heap.size,0,0,none,λ_=>False⟩]) (o:=0) (l:=l) (c:=c) hL
 simpa using this
theorem lA{x:Option SV}{res:SV×Tr×Nat}(h:dH st x=some res):∃y,x=some y∧res=(y,st.hp,st.nx):=by
 unfold dH at h
 split at h
 ·exact ⟨_,rfl,by simpa using h.symm⟩
 ·cases h
theorem aHB{P:Program}{s:Sem Value}{y:SV}(h:vW P s=some y):∃v,(∀w,s.run P w=.ok v w)∧y=.v v:=by
 unfold vW at h
 cases hs:Sem.now P s with
 |none=>simp [hs] at h
 |some v=>simp [hs] at h;exact ⟨v,λw=>aJ5 hs,h.symm⟩
theorem t4{P:Program}{T:TypeId}{a b:Value}{q:Bool}{ox oy:Operand}{op:BinOp}(hop:op=.eql∨op=.neq)(w:World)(hg:(eqGuard op T ox oy a b).run P w=.ok () w)(he:(Op.equalIn 10000 T a b).run P w=.ok q w)
 (h1:binOp .eql T a b=(do pure (.bool (<-Op.equal T a b)))) (h2:binOp .neq T a b=(do pure (.bool (!(<-Op.equal T a b))))):(do eqGuard op T ox oy a b;binOp op T a b:Sem Value).run P w=.ok (.bool (if op=.eql then q else !q)) w:=by
 have he':(Op.equal T a b).run P w=.ok q w:=he
 rw [Sem.run_bind,hg]
 simp only [Result.andThen_ok]
 rcases hop with rfl|rfl
 ·rw [h1,Sem.run_bind,he'];simp
 ·rw [h2,Sem.run_bind,he'];simp
theorem yQ{P:Program}{T:TypeId}(w:World)(d:Nat){t:TypeId}{y:Value}{fn:Fn}{xs ys:Array Value}{A:Addr}{ms:Array (String×TypeId)}{ps rs:Array TypeId}{vr:Bool}{e:TypeId}:
 (P.underlying T=some (.interface ms)->(Op.equalIn (d+1) T .nilIface (.iface t y)).run P w=.ok false w∧(Op.equalIn (d+1) T (.iface t y) .nilIface).run P w=.ok false w) ∧
 (P.underlying T=some (.func ps rs vr)->(Op.equalIn (d+1) T .nilFunc (.func fn xs ys)).run P w=.ok false w∧(Op.equalIn (d+1) T (.func fn xs ys) .nilFunc).run P w=.ok false w) ∧
 (P.underlying T=some (.pointer e)->(Op.equalIn (d+1) T (.pointer (some A)) (.pointer none)).run P w=.ok false w∧(Op.equalIn (d+1) T (.pointer none) (.pointer (some A))).run P w=.ok false w):=by
 refine ⟨λhu=>⟨?_,?_⟩,λhu=>⟨?_,?_⟩,λhu=>⟨?_,?_⟩⟩<;>(simp only [Op.equalIn,Sem.run_bind,run_underlying hu,Result.andThen_ok];rfl)
theorem aI5{P:Program}{T:TypeId}(w:World)(d:Nat){A:Addr}{e:TypeId}{l c:Nat}(hu:P.underlying T=some (.slice e)):(Op.equalIn (d+1) T (.slice (some A) l c) (.slice none 0 0)).run P w=.ok false w:=by
 simp only [Op.equalIn,Sem.run_bind,run_underlying hu,Result.andThen_ok];rfl
theorem a3D{P:Program}{T:TypeId}{a b:ByteArray}{ox oy:Operand}(op:BinOp)(hop:op=.eql∨op=.neq)(w:World):(do eqGuard op T ox oy (.string a) (.string b);binOp op T (.string a) (.string b):Sem Value).run P w=.ok (.bool (if op=.eql then a.toList==b.toList else !(a.toList==b.toList))) w:=by
 rcases hop with rfl|rfl
 ·simp [binOp,Op.stringOp,eqGuard]
 ·simp [binOp,Op.stringOp,eqGuard]
theorem aN7{T:TypeId}{x y:SV}{a b:Value}{q:Bool}{ox oy:Operand}(op:BinOp)(hop:op=.eql∨op=.neq)(hx:aP r x a)(hy:aP r y b)(h:eqS E.X.P T x y=some q)(w:World):
 (do eqGuard op T ox oy a b;binOp op T a b:Sem Value).run E.X.P w=.ok (.bool (if op=.eql then q else !q)) w:=by
 unfold eqS at h
 split at h
 ·rename_i xs ys
  cases hx with
  |@a _ us hdx=>cases hy with
   |@a _ vs' hdy =>
    simp only [bE] at h
    by_cases hc:(aCG E.X.P T&&(!E.X.P.eqGuardType E.X.P.depth T&&(decide (dK xs=E.X.P.cellsOf T)&&decide (dK ys=E.X.P.cellsOf T))))=true
    ·rw [hc,cond_true] at h
     simp only [bJ,bR,Bool.not_eq_true'] at hc
     obtain ⟨hrow,hg,hsx,hsy⟩:=hc
     have hr:isRow E.X.P T=some true:=by
      unfold aCG at hrow
      cases hq:isRow E.X.P T with
      |none=>rw [hq] at hrow;cases hrow
      |some t=>rw [hq] at hrow;simp at hrow;rw [hrow]
     have fin:∀k d,plainT E.X.P k d T=true->d≤10000->H6 k xs ys=some q->(Op.equalIn 10000 T (.agg us.toArray) (.agg vs'.toArray)).run E.X.P w=.ok q w:=by
      intro k d hp hd hq
      have:=aSP (P:=E.X.P) (w:=w) d T hp (by rw [hdx.length_eq,hsx]) (by rw [hdy.length_eq,hsy]) (aXq hdx hdy hq) 10000 hd
      simpa [qY,hr] using this
     have heq:(Op.equalIn 10000 T (.agg us.toArray) (.agg vs'.toArray)).run E.X.P w=.ok q w:=by
      by_cases h1:plainT E.X.P false 50 T=true
      ·rw [h1,cond_true] at h;exact fin _ _ h1 (by omega) h
      ·rw [jD] at h1
       rw [h1,cond_false] at h
       by_cases h2:plainT E.X.P true 50 T=true
       ·rw [h2,cond_true] at h;exact fin _ _ h2 (by omega) h
       ·rw [jD] at h2
        rw [h2] at h;simp at h
     rw [Sem.run_bind,run_eqGuard_agg w _ _ _ _ _ _ hg]
     simp only [Result.andThen_ok]
     rcases hop with rfl|rfl
     ·rw [run_eql_struct,heq];simp
     ·rw [run_neq_struct,heq];simp
    ·rw [jD] at hc
     rw [hc] at h;simp at h
 ·split at h
  ·rename_i ms hu
   split at h
   ·cases h
    cases hx;cases hy
    exact t4 hop w (by rcases hop with rfl|rfl<;>rfl) ((yQ (fn:=.func 0) (xs:=#[]) (ys:=#[]) (A:=⟨0,0,none⟩) (ps:=#[]) (rs:=#[]) (vr:=false) (e:=0) w 9999).1 hu).1 rfl rfl
   ·cases h
    cases hx;cases hy
    exact t4 hop w (by rcases hop with rfl|rfl<;>rfl) ((yQ (fn:=.func 0) (xs:=#[]) (ys:=#[]) (A:=⟨0,0,none⟩) (ps:=#[]) (rs:=#[]) (vr:=false) (e:=0) w 9999).1 hu).2 rfl rfl
   ·cases h
  ·rename_i hu
   split at h
   ·cases h
    cases hx;cases hy
    exact t4 hop w (by rcases hop with rfl|rfl<;>rfl) ((yQ (t:=0) (y:=.nilIface) (A:=⟨0,0,none⟩) (ms:=#[]) (e:=0) w 9999).2.1 hu).1 rfl rfl
   ·cases h
    cases hx;cases hy
    exact t4 hop w (by rcases hop with rfl|rfl<;>rfl) ((yQ (t:=0) (y:=.nilIface) (A:=⟨0,0,none⟩) (ms:=#[]) (e:=0) w 9999).2.1 hu).2 rfl rfl
   ·cases h
  ·rename_i hu
   split at h
   ·cases h
    cases hx;cases hy
    exact t4 hop w (by rcases hop with rfl|rfl<;>rfl) ((yQ (t:=0) (y:=.nilIface) (fn:=.func 0) (xs:=#[]) (ys:=#[]) (ms:=#[]) (ps:=#[]) (rs:=#[]) (vr:=false) w 9999).2.2 hu).1 rfl rfl
   ·cases h
    cases hx;cases hy
    exact t4 hop w (by rcases hop with rfl|rfl<;>rfl) ((yQ (t:=0) (y:=.nilIface) (fn:=.func 0) (xs:=#[]) (ys:=#[]) (ms:=#[]) (ps:=#[]) (rs:=#[]) (vr:=false) w 9999).2.2 hu).2 rfl rfl
   ·cases h
  ·rename_i hu
   split at h
   ·cases h
    cases hx;cases hy
    exact t4 hop w (by rcases hop with rfl|rfl<;>rfl) (aI5 w 9999 hu) rfl rfl
   ·cases h
    cases hx;cases hy
    exact t4 hop w (by rcases hop with rfl|rfl<;>rfl) (aI5 w 9999 hu) rfl rfl
   ·cases h
  ·rename_i hu
   split at h
   ·cases h
    cases hx;cases hy
    exact a3D op hop w
   ·cases h
  ·cases h
theorem aGP(parts:Array (Nat×Operand))(hs:bU r st.ts vs):(parts.toList.map λx=>(x.1,ev st.ts x.2)).map (·.1)=(parts.toList.map λx=>(x.1,Act.eval ⟨vs.toArray,df⟩ x.2)).map (·.1) ∧
 aX r ((parts.toList.map λx=>(x.1,ev st.ts x.2)).map (·.2)) ((parts.toList.map λx=>(x.1,Act.eval ⟨vs.toArray,df⟩ x.2)).map (·.2)):=by
 constructor
 ·simp
 ·have:=aX.map_ev (r:=r) (ts:=st.ts) (vs:=vs) (df:=df) (aP.ev hs) (parts.toList.map (·.2))
  simpa [List.map_map,Function.comp_def] using this
theorem bEg{c:Rp SV}{x:aQ}{vs:List Value}(h:aGK c=some x)(d:aD r c vs):vs=nv .u8 x.l:=by
 unfold aGK at h
 split at h
 ·cases h;cases d;rfl
 ·cases h;cases d;rfl
 ·cases h
theorem aLR{X:aI}{S:World->Prop}{hp:Tr}{a b:TypeId}{x y:SV}{v:Value}(hb:∀n bl L,hp.get n=some bl->r[n]?=some L->∃vs,aD r bl.cs vs∧∀w,S w->∀j v,vs[j]?=some v->w.cell? ⟨L.g,L.b+j,none⟩=some v)(hx:aP r x v)(h:x9 X hp a b x=some y):
 ∃u,(∀w,S w->(convert a b v).run X.P w=.ok u w)∧aP r y u:=by
 have key:∀{n o l cc:Nat} {L:aF},r[n]?=some L->aCb X hp a b n o l=some y->∃u,(∀w,S w->(convert a b (.slice (some ⟨L.g,L.b+o,none⟩) l cc)).run X.P w=.ok u w)∧aP r y u:=by
  intro n o l cc L hL h
  unfold aCb at h
  split at h
  ·rename_i bl e hbl ha hbb
   split at h
   ·rename_i row he hr
    split at h
    ·rename_i z hz
     cases h
     obtain ⟨vs,hd,hc⟩:=hb n bl L hbl hL
     obtain ⟨h1,h2⟩:=hd.sub hr
     have e1:=bEg hz h1
     have hl:((vs.drop o).take l).length=l:=by simp;omega
     refine ⟨_,λw hw=>?_,.b z⟩
     rw [run_convert_bytes_string w a b e _ _ _ ha he hbb]
     have h3:=run_loadCells_list (P:=X.P) (w:=w) ⟨L.g,L.b+o,none⟩ (nv .u8 z.l) (λj u hu=>by rw [eX,Nat.add_assoc];exact hc w hw _ u (aBL (by rw [e1];exact hu)))
     have e2:z.l.length=l:=by rw [<-hl,e1,aZ]
     rw [aZ,e2] at h3
     have h4:=run_bytesToString (P:=X.P) w ⟨L.g,L.b+o,none⟩ l cc (z.l.map λx:Nat=>(x:Int)) (by rw [h3];simp [nv])
     exact h4
    ·cases h
   ·cases h
  ·cases h
 unfold x9 at h
 split at h
 ·cases hx with
  |s hL=>exact key hL h
 ·cases hx with
  |w hL hl=>exact key (o:=0) hL h
 ·cases h
def T7:Op->Bool
 | .load _ _=>true
 | .convert _ _ _=>true
 |_=>false
theorem aDE{S:World->Prop}{res:SV×Tr×Nat}(hld:T7 o.op=true->(∀(T:TypeId) (x y:SV) (v:Value),aP r x v->sR E.X st.hp T x=some y->∃u,(∀w,S w->(Instr.loadAt T v).run E.X.P w=.ok u w)∧aP r y u)∧∀(a b:TypeId) (x y:SV) (v:Value),aP r x v->x9 E.X st.hp a b x=some y->∃u,(∀w,S w->(convert a b v).run E.X.P w=.ok u w)∧aP r y u)(hs:bU r st.ts vs)(hpu:mB o.op=true)(h:dI E.X st o.op o.type=some res):
 ∃y v,res=(y,st.hp,st.nx)∧aP r y v∧∀w,S w->(execOp (Act.eval ⟨vs.toArray,df⟩) o).run E.X.P w=.ok (.value v) w:=by
 have ev_:=aP.ev (df:=df) hs
 generalize ho:o.op=op at h hpu
 cases op with
 |move x =>
  simp only [dI] at h
  obtain ⟨y,e,rfl⟩:=lA h
  cases e
  exact ⟨_,_,rfl,(ev_ x),λw _=>(by simp [execOp,ho])⟩
 |assign x =>
  simp only [dI] at h
  obtain ⟨y,e,rfl⟩:=lA h
  cases e
  exact ⟨_,_,rfl,(ev_ x),λw _=>(by simp [execOp,ho])⟩
 |pick c a b =>
  simp only [dI] at h
  have hc:=ev_ c
  split at h
  ·rename_i t e
   rw [e] at hc
   generalize hcv:Act.eval ⟨vs.toArray,df⟩ c=cv at hc
   cases hc
   obtain ⟨y,e2,rfl⟩:=lA h
   cases e2
   cases t
   ·exact ⟨_,_,rfl,(ev_ b),λw _=>(by simp [execOp,ho,hcv,asBool])⟩
   ·exact ⟨_,_,rfl,(ev_ a),λw _=>(by simp [execOp,ho,hcv,asBool])⟩
  ·cases h
 |build T parts =>
  simp only [dI] at h
  obtain ⟨hp1,hp2⟩:=aGP (df:=df) parts hs
  split at h
  ·rename_i z fs hz hu
   obtain ⟨i,zv,hi,hzz,hd,hsz,hrun⟩:=qV (r:=r) hz
   split at h
   ·rename_i pl hpl
    split at h
    ·rename_i cs hf
     cases h
     obtain ⟨out,h1,h2⟩:=K5 hp1 hp2 hd hf
     have hb:E.X.P.built T (parts.toList.map λx=>(x.1,Act.eval ⟨vs.toArray,df⟩ x.2))=some out:=by
      simp only [Program.built,hi,hu,hzz,hpl]
      simpa using h1
     refine ⟨_,_,rfl,?_,λw _=>aCO T parts.toList (by simpa using ho) out hb⟩
     simpa using aP.a h2
    ·cases h
   ·cases h
  ·rename_i z n e hz hu
   obtain ⟨i,zv,hi,hzz,hd,hsz,hrun⟩:=qV (r:=r) hz
   split at h
   ·rename_i k hk
    obtain ⟨ie,hie,rfl⟩:=yI hk
    split at h
    ·rename_i cs hf
     cases h
     obtain ⟨out,h1,h2⟩:=K5 hp1 hp2 hd hf
     have hb:E.X.P.built T (parts.toList.map λx=>(x.1,Act.eval ⟨vs.toArray,df⟩ x.2))=some out:=by
      simp only [Program.built,hi,hu,hzz,hie]
      simpa using h1
     refine ⟨_,_,rfl,?_,λw _=>aCO T parts.toList (by simpa using ho) out hb⟩
     simpa using aP.a h2
    ·cases h
   ·cases h
  ·cases h
 |load T x =>
  obtain ⟨y,e,rfl⟩:=lA h
  obtain ⟨u,h1,h2⟩:=(hld (by rw [ho];rfl)).1 _ _ _ _ (ev_ x) e
  exact ⟨_,_,rfl,h2,λw hw=>by simp [execOp,ho,h1 w hw]⟩
 |nilCheck x =>
  simp only [dI] at h
  have hx:=ev_ x
  split at h
  ·rename_i n k e
   rw [e] at hx
   generalize hxv:Act.eval ⟨vs.toArray,df⟩ x=xv at hx
   cases h
   cases hx with
   |p hL=>exact ⟨_,_,rfl,(.p hL),λw _=>(by simp [execOp,ho,hxv])⟩
  ·rename_i a e
   rw [e] at hx
   generalize hxv:Act.eval ⟨vs.toArray,df⟩ x=xv at hx
   cases h
   cases hx
   exact ⟨_,_,rfl,(.v _),λw _=>(by simp [execOp,ho,hxv])⟩
  ·rename_i g a b e
   rw [e] at hx
   generalize hxv:Act.eval ⟨vs.toArray,df⟩ x=xv at hx
   cases h
   cases hx with
   |f ha hb=>exact ⟨_,_,rfl,(.f ha hb),λw _=>(by simp [execOp,ho,hxv])⟩
  ·rename_i n e
   rw [e] at hx
   generalize hxv:Act.eval ⟨vs.toArray,df⟩ x=xv at hx
   cases h
   cases hx with
   |y hL=>exact ⟨_,_,rfl,(.y hL),λw _=>(by simp [execOp,ho,hxv])⟩
  ·cases h
 |binOp op T x y yt =>
  obtain ⟨z,e,rfl⟩:=lA h
  have hx:=ev_ x
  have hy:=ev_ y
  generalize hxv:Act.eval ⟨vs.toArray,df⟩ x=xv at hx
  generalize hyv:Act.eval ⟨vs.toArray,df⟩ y=yv at hy
  have key:∀v,(∀w,(do eqGuard op T x y xv yv;binOp op T xv yv:Sem Value).run E.X.P w=.ok v w)->∀w,(execOp (Act.eval ⟨vs.toArray,df⟩) o).run E.X.P w=.ok (.value v) w:=by
   intro v hv w
   simp only [execOp,ho,hxv,hyv]
   rw [Sem.run_bind,hv]
   rfl
  unfold bin at e
  split at e
  ·rename_i a b e1 e2
   obtain ⟨v,hv,rfl⟩:=aHB e
   have hxa:xv=a:=by
    cases hq:ev st.ts x with
    |v u=>rw [hq] at e1 hx;simp [toV] at e1;subst e1;cases hx;rfl
    |_=>rw [hq] at e1;simp [toV] at e1
   have hyb:yv=b:=by
    cases hq:ev st.ts y with
    |v u=>rw [hq] at e2 hy;simp [toV] at e2;subst e2;cases hy;rfl
    |_=>rw [hq] at e2;simp [toV] at e2
   subst hxa hyb
   exact ⟨_,_,rfl,(.v _),λw _=>key v hv w⟩
  ·split at e
   ·split at e
    ·rename_i q hq
     cases e
     exact ⟨_,_,rfl,(by simpa using aP.v _),λw _=>key _ (aN7 .eql (.inl rfl) hx hy hq) w⟩
    ·cases e
   ·split at e
    ·rename_i q hq
     cases e
     exact ⟨_,_,rfl,(by simpa using aP.v _),λw _=>key _ (aN7 .neq (.inr rfl) hx hy hq) w⟩
    ·cases e
   ·cases e
 |unOp op T x =>
  simp only [dI] at h
  have hx:=ev_ x
  split at h
  ·rename_i a e
   rw [e] at hx
   generalize hxv:Act.eval ⟨vs.toArray,df⟩ x=xv at hx
   cases hx
   obtain ⟨y,e2,rfl⟩:=lA h
   obtain ⟨v,hv,rfl⟩:=aHB e2
   exact ⟨_,_,rfl,(.v _),λw _=>(by simp [execOp,ho,hxv,hv])⟩
  ·cases h
 |convert a b x =>
  simp only [dI] at h
  have hx:=ev_ x
  split at h
  ·rename_i xa e
   rw [e] at hx
   generalize hxv:Act.eval ⟨vs.toArray,df⟩ x=xv at hx
   cases hx
   obtain ⟨y,e2,rfl⟩:=lA h
   obtain ⟨v,hv,rfl⟩:=aHB e2
   exact ⟨_,_,rfl,(.v _),λw _=>(by simp [execOp,ho,hxv,hv])⟩
  ·rename_i n k l c e
   rw [e] at hx
   generalize hxv:Act.eval ⟨vs.toArray,df⟩ x=xv at hx
   obtain ⟨y,e2,rfl⟩:=lA h
   obtain ⟨u,h1,h2⟩:=(hld (by rw [ho];rfl)).2 _ _ _ _ _ hx e2
   exact ⟨_,_,rfl,h2,λw hw=>by simp [execOp,ho,hxv,h1 w hw]⟩
  ·rename_i n k e
   rw [e] at hx
   generalize hxv:Act.eval ⟨vs.toArray,df⟩ x=xv at hx
   obtain ⟨y,e2,rfl⟩:=lA h
   obtain ⟨u,h1,h2⟩:=(hld (by rw [ho];rfl)).2 _ _ _ _ _ hx e2
   exact ⟨_,_,rfl,h2,λw hw=>by simp [execOp,ho,hxv,h1 w hw]⟩
  ·cases h
 |sliceToArrayPointer T x =>
  simp only [dI] at h
  have hx:=ev_ x
  split at h
  ·rename_i n e g k l c hu e1
   rw [e1] at hx
   generalize hxv:Act.eval ⟨vs.toArray,df⟩ x=xv at hx
   rw [cY] at h
   by_cases hl:n≤l
   ·simp only [hl,decide_true,cond_true] at h
    obtain ⟨y,e2,rfl⟩:=lA h
    cases e2
    cases hx with
    |s hL=>exact ⟨_,_,rfl,(.p hL),λw _=>(by simp [execOp,ho,hxv,Instr.arrayAt,run_underlying hu,show ¬ l<n by omega])⟩
   ·simp [hl] at h
  ·rename_i n e g l hu e1
   rw [e1] at hx
   generalize hxv:Act.eval ⟨vs.toArray,df⟩ x=xv at hx
   rw [cY] at h
   by_cases hl:n≤l
   ·simp only [hl,decide_true,cond_true] at h
    obtain ⟨y,e2,rfl⟩:=lA h
    cases e2
    cases hx with
    |w hL hle=>exact ⟨_,_,rfl,(.p hL),λw _=>(by simp [execOp,ho,hxv,Instr.arrayAt,run_underlying hu,show ¬ l<n by omega])⟩
   ·simp [hl] at h
  ·cases h
 |makeInterface T x =>
  simp only [dI] at h
  split at h
  ·cases h
  ·rename_i d hne hu
   obtain ⟨y,e2,rfl⟩:=lA h
   cases e2
   refine ⟨_,_,rfl,(.i (ev_ x)),λw _=>?_⟩
   cases d<;>first|exact absurd rfl (hne _)|simp [execOp,ho,Instr.makeInterface,run_underlying hu]
  ·cases h
 |makeFunc fn a b =>
  simp only [dI] at h
  obtain ⟨y,e2,rfl⟩:=lA h
  cases e2
  refine ⟨_,_,rfl,(.f (aX.map_ev ev_ a.toList) (aX.map_ev ev_ b.toList)),λw _=>?_⟩
  simp [execOp,ho,Instr.makeFunc]
  refine ⟨?_,?_⟩<;>(apply Array.toList_inj.1;simp)
 |slice T x lo hi mx =>
  obtain ⟨y,e,rfl⟩:=lA h
  obtain ⟨u,h1,h2⟩:=a0J (df:=df) hs (ev_ x) e
  exact ⟨_,_,rfl,h2,λw _=>by simp [execOp,ho,h1]⟩
 |fieldAddr T x f =>
  simp only [dI] at h
  have hx:=ev_ x
  split at h
  ·rename_i fs hu
   split at h
   ·rename_i fd n k hf e1
    rw [e1] at hx
    generalize hxv:Act.eval ⟨vs.toArray,df⟩ x=xv at hx
    split at h
    ·rename_i q hsz
     cases h
     have hf2:fs[f]?=some fd:=by simpa using hf
     cases hx with
     |@p _ _ L hL =>
      refine ⟨_,_,rfl,(.p (o:=k+fd.offset) hL),λw _=>?_⟩
      simp [execOp,ho,hxv,Instr.fieldAt,run_underlying hu,hf2,Instr.sureAddr,fieldPlace,i9 hsz,eX,Nat.add_assoc]
    ·cases h
   ·cases h
  ·cases h
 |field T x f =>
  simp only [dI] at h
  have hx:=ev_ x
  split at h
  ·rename_i fs hu
   split at h
   ·rename_i fd cs hf e1
    rw [e1] at hx
    generalize hxv:Act.eval ⟨vs.toArray,df⟩ x=xv at hx
    obtain ⟨y,e2,rfl⟩:=lA h
    have hf2:fs[f]?=some fd:=by simpa using hf
    cases hx with
    |a hd =>
     obtain ⟨u,h1,h2⟩:=aK5 hd e2
     exact ⟨_,_,rfl,h2,λw _=>(by simp [execOp,ho,hxv,Instr.field,run_underlying hu,hf2,asAgg,h1])⟩
   ·cases h
  ·cases h
 |indexAddr T x i =>
  obtain ⟨y,e,rfl⟩:=lA h
  obtain ⟨u,h1,h2⟩:=a0G (ev_ x) (ev_ i) e
  exact ⟨_,_,rfl,h2,λw _=>by simp [execOp,ho,h1]⟩
 |index T x i =>
  simp only [dI] at h
  have hx:=ev_ x
  split at h
  ·rename_i n e cs k hu e1 hk
   rw [e1] at hx
   generalize hxv:Act.eval ⟨vs.toArray,df⟩ x=xv at hx
   obtain ⟨kk,hiv⟩:=rZ (ev_ i) hk
   split at h
   ·rename_i z hz
    rw [bO] at h
    by_cases hn:k<n
    ·simp only [hn,decide_true,cond_true] at h
     obtain ⟨y,e2,rfl⟩:=lA h
     cases hx with
     |a hd =>
      obtain ⟨u,h1,h2⟩:=aK5 hd e2
      have h0:(k:Int)<(n:Int):=by omega
      refine ⟨_,_,rfl,h2,λw _=>?_⟩
      simp [execOp,ho,hxv,hiv,Instr.index,asIntOf,run_underlying hu,i9 hz,h1]
      try (intro h9;omega)
    ·simp [hn] at h
   ·cases h
  ·cases h
 |extract x i =>
  simp only [dI] at h
  have hx:=ev_ x
  split at h
  ·rename_i us e1
   rw [e1] at hx
   generalize hxv:Act.eval ⟨vs.toArray,df⟩ x=xv at hx
   split at h
   ·rename_i y hy
    cases h
    cases hx with
    |@t _ ys hd =>
     have gen:∀{us:List SV} {ys:List Value} {i:Nat} {y:SV},aX r us ys->us[i]?=some y->∃u,ys[i]?=some u∧aP r y u:=by
      intro us
      induction us with
      |nil=>intro ys i y _ h;simp at h
      |cons a us ih =>
       intro ys i y hd h
       cases hd with
       |cons h1 h2 =>
        cases i with
        |zero=>simp at h;subst h;exact ⟨_,rfl,h1⟩
        |succ i=>simpa using ih h2 (by simpa using h)
     obtain ⟨u,h1,h2⟩:=gen hd hy
     have h3:ys.toArray[i]?=some u:=by simpa using h1
     exact ⟨_,_,rfl,h2,λw _=>(by simp [execOp,ho,hxv,Instr.extract,h3])⟩
   ·cases h
  ·cases h
 |call c =>
  simp only [dI] at h
  split at h
  ·rename_i b hb
   have hrun:∀v w,(builtin b c.argTypes o.type (c.args.map fun | .const _=>true|_=>false) (c.args.map (Act.eval ⟨vs.toArray,df⟩))).run E.X.P w=.ok (.value v) w->(execOp (Act.eval ⟨vs.toArray,df⟩) o).run E.X.P w=.ok (.value v) w:=by
    intro v w hv
    simp only [execOp,ho,resolve,hb,invoke,Sem.run_bind,Sem.run_pure,Result.andThen_ok]
    exact hv
   have hargs:=aX.map_ev (r:=r) (ts:=st.ts) (vs:=vs) (df:=df) ev_ c.args.toList
   rw [show c.args.map (Act.eval ⟨vs.toArray,df⟩)=(c.args.toList.map (Act.eval ⟨vs.toArray,df⟩)).toArray by apply Array.toList_inj.1;simp] at hrun
   generalize c.args.toList.map (Act.eval ⟨vs.toArray,df⟩)=av at hargs hrun
   generalize hal:c.args.toList.map (ev st.ts)=al at h hargs
   rw [show c.argTypes=c.argTypes.toList.toArray by simp] at hrun
   generalize c.argTypes.toList=tl at h hrun
   unfold X3 at h
   split at h
   ·-- len
    rename_i x T
    cases hargs with
    |cons h1 h2 =>
     cases h2
     split at h
     ·rename_i e n he hn
      cases h
      refine ⟨_,_,rfl,.v _,λw _=>hrun _ w ?_⟩
      have hu:=qW he
      unfold wW at hn
      split at hn
      ·cases h1;cases hn;simp [builtin,Builtin.len_,run_underlying hu,goInt]
      ·cases h1;cases hn;simp [builtin,Builtin.len_,run_underlying hu,goInt]
      ·cases h1;cases hn;simp [builtin,Builtin.len_,run_underlying hu,goInt]
      ·cases h1;cases hn;simp [builtin,Builtin.len_,run_underlying hu,goInt]
      ·cases hn
     ·cases h
   ·-- cap
    rename_i g k l cc T
    cases hargs with
    |cons h1 h2 =>
     cases h2
     split at h
     ·rename_i e he
      cases h
      have hu:=qW he
      cases h1
      exact ⟨_,_,rfl,.v _,λw _=>hrun _ w (by simp [builtin,Builtin.cap_,run_underlying hu,goInt])⟩
     ·cases h
   ·-- cap of nil
    rename_i T
    cases hargs with
    |cons h1 h2 =>
     cases h2
     split at h
     ·rename_i e he
      cases h
      have hu:=qW he
      cases h1
      exact ⟨_,_,rfl,.v _,λw _=>hrun _ w (by simp [builtin,Builtin.cap_,run_underlying hu,goInt])⟩
     ·cases h
   ·simp [mB,hb] at hpu
   ·simp [mB,hb] at hpu
   ·-- min
    rename_i k x k' y
    cases hargs with
    |cons h1 h2=>cases h2 with
     |cons h2 h3 =>
      cases h3
      cases h1;cases h2
      cases h
      refine ⟨_,_,rfl,.v _,λw _=>hrun _ w ?_⟩
      by_cases hxy:y<x<;>simp [builtin,Builtin.min_,Builtin.min2,hxy]
   ·cases h
  ·cases h
 |_=>cases hpu
theorem aKq{res:SV×Tr×Nat}(hs:bU r st.ts vs)(hm:aG E r st.hp st.nx w)(h:dI E.X st o.op o.type=some res):L4 E r w vs df o res:=by
 have ev_:=aP.ev (df:=df) hs
 by_cases hpu:mB o.op=true
 ·obtain ⟨y,v,rfl,hy,hr⟩:=aDE (S:=λx=>x=w) (λ_=>⟨λT x y v hx hl=>by
   obtain ⟨u,h1,h2⟩:=aJk hm hx hl
   exact ⟨u,λw' e=>by rw [e];exact h1,h2⟩,λa b x y v hx hl=>aLR (λn bl L h1 h2=>by
    obtain ⟨M,h3,hok⟩:=hm.blk n bl h1
    rw [h2] at h3
    cases h3
    obtain ⟨vs,h4,h5⟩:=hok.cells
    exact ⟨vs,h4,λw' e=>by rw [e];exact h5⟩) hx hl⟩) hs hpu h
  exact .pure hm (hr w rfl) hy
 rw [jD] at hpu
 generalize ho:o.op=op at h hpu
 cases op with
 |alloc T =>
  simp only [dI] at h
  split at h
  ·rename_i cs hz
   cases h
   obtain ⟨i,z,hi,hzz,hd,hsz,hrun⟩:=qV (r:=r) hz
   refine .new hm hd ?_ (aOw hm 0)
   simp [execOp,ho,Instr.alloc,hrun,newVar,newRow]
  ·cases h
 |box T x =>
  simp only [dI] at h
  split at h
  ·rename_i cs hc
   cases h
   obtain ⟨hd,hl⟩:=R5 (ev_ x) hc
   refine .new hm hd ?_ (aOw hm 0)
   simp [execOp,ho,Instr.box,newVar,newRow]
  ·cases h
 |buildSlice T n parts =>
  simp only [dI] at h
  obtain ⟨hp1,hp2⟩:=aGP (df:=df) parts hs
  split at h
  ·rename_i e hu
   split at h
   ·rename_i z k hz hk
    obtain ⟨ie,hie,rfl⟩:=yI hk
    obtain ⟨i,zv,hi,hzz,hd,hsz,hrun⟩:=qV (r:=r) hz
    rw [hie] at hi;cases hi
    simp only [cY,bO] at h
    by_cases hc:(decide (n*ie.size≤16777216)&&decide (0<ie.size))=true
    ·rw [hc,cond_true] at h
     simp only [bJ,bR] at hc
     split at h
     ·rename_i cs hf
      cases h
      obtain ⟨out,h1,h2⟩:=K5 hp1 hp2 (hd.rep n) hf
      have hzl:zv.cells.toList.length=ie.size:=by rw [lC];exact hsz
      have hrow:=P9 zv.cells.toList n (by omega)
      rw [hzl] at hrow
      by_cases h0:n=0
      ·subst h0
       refine .new (us:=out.toList) hm h2 ?_ (aEh hm 0 0)
       simp only [List.replicate_zero,List.flatten_nil] at h1
       have hA:(Array.map (λ(_:Nat)=>(default:Value)) (Array.range 0))=#[]:=Array.eq_empty_of_size_eq_zero (by simp)
       simp [execOp,ho,Instr.buildSlice,run_underlying hu,sizeOf,typeInfo,hie,hA,h1,newRow]
      ·refine .new (us:=out.toList) hm h2 ?_ (aEh hm n n)
       refine kP T n parts.toList (by simpa using ho) _ ?_
       rw [Array.toArray_toList]
       refine run_buildSlice (P:=E.X.P) w T e n _ out ie zv hu hie hzz (by omega) (by intro h9;rcases Nat.mul_eq_zero.1 h9 with h9|h9<;>omega) ?_
       rw [hrow] at h1
       simpa using h1
     ·cases h
    ·rw [jD] at hc
     rw [hc] at h;simp at h
   ·cases h
  ·cases h
 |makeSlice T l c =>
  simp only [dI] at h
  split at h
  ·rename_i e ln cn hu hl hc
   obtain ⟨kl,hlv⟩:=rZ (ev_ l) hl
   obtain ⟨kc,hcv⟩:=rZ (ev_ c) hc
   split at h
   ·rename_i z hz
    obtain ⟨i,zv,hi,hzz,hd,hsz,hrun⟩:=qV (r:=r) hz
    have hbe:E.X.P.bytesOf e=i.bytes:=by simp [Program.bytesOf,hi]
    simp only [cY,hbe] at h
    by_cases hcnd:(decide (ln≤cn)&&decide ((1+i.bytes)*cn≤281474976710656))=true
    ·rw [hcnd,cond_true] at h
     cases h
     simp only [bJ,bR] at hcnd
     obtain ⟨h1,h2⟩:=hcnd
     rw [Nat.add_mul,Nat.one_mul] at h2
     have hr:=aFs (P:=E.X.P) T e i zv hu hi hzz kl kc ln cn h1 (by omega) (by omega) w
     have hmade:(madeCells zv.cells (cn*i.size))=((List.replicate cn zv.cells.toList).flatten).toArray:=by
      by_cases h0:0<i.size
      ·rw [P9 zv.cells.toList cn (by rw [lC];omega),lC,hsz]
       simp [madeCells,hsz]
      ·have e1:i.size=0:=by omega
       have e2:zv.cells.toList=[]:=mJ (by rw [lC];omega)
       rw [e1,e2]
       simp [madeCells]
     refine .new hm (hd.rep cn) ?_ (aEh hm ln cn)
     rw [hmade] at hr
     simp [execOp,ho,hlv,hcv,hr]
    ·rw [jD] at hcnd
     rw [hcnd] at h;simp at h
   ·cases h
  ·cases h
 |call c =>
  simp only [dI] at h
  split at h
  ·rename_i b hb
   have hrun:∀v w',(builtin b c.argTypes o.type (c.args.map fun | .const _=>true|_=>false) (c.args.map (Act.eval ⟨vs.toArray,df⟩))).run E.X.P w=.ok (.value v) w'->(execOp (Act.eval ⟨vs.toArray,df⟩) o).run E.X.P w=.ok (.value v) w':=by
    intro v w' hv
    simp only [execOp,ho,resolve,hb,invoke,Sem.run_bind,Sem.run_pure,Result.andThen_ok]
    exact hv
   have hargs:=aX.map_ev (r:=r) (ts:=st.ts) (vs:=vs) (df:=df) ev_ c.args.toList
   rw [show c.args.map (Act.eval ⟨vs.toArray,df⟩)=(c.args.toList.map (Act.eval ⟨vs.toArray,df⟩)).toArray by apply Array.toList_inj.1;simp] at hrun
   generalize c.args.toList.map (Act.eval ⟨vs.toArray,df⟩)=av at hargs hrun
   generalize hal:c.args.toList.map (ev st.ts)=al at h hargs
   rw [show c.argTypes=c.argTypes.toList.toArray by simp] at hrun
   generalize c.argTypes.toList=tl at h hrun
   unfold X3 at h
   split at h
   ·-- len
    rename_i x T
    cases hargs with
    |cons h1 h2 =>
     cases h2
     split at h
     ·rename_i e n he hn
      cases h
      refine .pure hm (hrun _ _ ?_) (.v _)
      have hu:=qW he
      unfold wW at hn
      split at hn
      ·cases h1;cases hn;simp [builtin,Builtin.len_,run_underlying hu,goInt]
      ·cases h1;cases hn;simp [builtin,Builtin.len_,run_underlying hu,goInt]
      ·cases h1;cases hn;simp [builtin,Builtin.len_,run_underlying hu,goInt]
      ·cases h1;cases hn;simp [builtin,Builtin.len_,run_underlying hu,goInt]
      ·cases hn
     ·cases h
   ·-- cap
    rename_i g k l cc T
    cases hargs with
    |cons h1 h2 =>
     cases h2
     split at h
     ·rename_i e he
      cases h
      have hu:=qW he
      cases h1
      exact .pure hm (hrun _ _ (by simp [builtin,Builtin.cap_,run_underlying hu,goInt])) (.v _)
     ·cases h
   ·-- cap of nil
    rename_i T
    cases hargs with
    |cons h1 h2 =>
     cases h2
     split at h
     ·rename_i e he
      cases h
      have hu:=qW he
      cases h1
      exact .pure hm (hrun _ _ (by simp [builtin,Builtin.cap_,run_underlying hu,goInt])) (.v _)
     ·cases h
   ·-- append
    rename_i s x T T'
    cases hargs with
    |cons h1 h2=>cases h2 with
     |cons h2 h3 =>
      cases h3
      rw [bE] at h
      by_cases hT:T=T'
      ·subst hT
       simp only [decide_true,cond_true] at h
       split at h
       ·rename_i e he
        obtain ⟨v,w',σ,hr,hd,hm'⟩:=aZh (ty:=o.type) hm (qW he) h1 h2 h
        exact ⟨v,w',σ,hrun _ _ (by simp [builtin,hr]),hd,hm'⟩
       ·cases h
      ·simp only [hT,decide_false,cond_false] at h
       obtain ⟨v,w',σ,hr,hd,hm'⟩:=a3J (ty:=o.type) hm (λe he=>qW he) h1 h2 h
       exact ⟨v,w',σ,hrun _ _ (by simp [builtin,hr]),hd,hm'⟩
   ·-- copy
    rename_i d x T T'
    cases hargs with
    |cons h1 h2=>cases h2 with
     |cons h2 h3 =>
      cases h3
      split at h
      ·rename_i e he
       split at h
       ·rename_i z hz
        split at h
        ·rename_i m cs n k l cc hc
         cases h1 with
         |s hL =>
          split at h
          ·rename_i hp' hw
           cases h
           obtain ⟨w',hr,hm'⟩:=aMr (T':=T') (ty:=o.type) (c:=cc) hm (qW he) hz h2 hc hL rfl hw
           exact ⟨_,w',[],hrun _ _ (by simp [builtin,hr]),aP.v _,by simpa using hm'⟩
          ·cases h
        ·rename_i m cs n l hc
         cases h1 with
         |@w _ _ L hL hle =>
          split at h
          ·rename_i hp' hw
           cases h
           obtain ⟨w',hr,hm'⟩:=aMr (T':=T') (ty:=o.type) (c:=L.c) hm (qW he) hz h2 hc hL rfl hw
           exact ⟨_,w',[],hrun _ _ (by simpa [builtin] using congrArg (λq=>q.andThen λa w=>Result.ok (Next.value a) w) hr),aP.v _,by simpa using hm'⟩
          ·cases h
        ·cases h
       ·cases h
      ·cases h
   ·-- min
    rename_i k x k' y
    cases hargs with
    |cons h1 h2=>cases h2 with
     |cons h2 h3 =>
      cases h3
      cases h1;cases h2
      cases h
      refine .pure hm (hrun _ _ ?_) (.v _)
      by_cases hxy:y<x<;>simp [builtin,Builtin.min_,Builtin.min2,hxy]
   ·cases h
  ·cases h
 |move _=>cases hpu
 |assign _=>cases hpu
 |pick _ _ _=>cases hpu
 |build _ _=>cases hpu
 |load _ _=>cases hpu
 |nilCheck _=>cases hpu
 |binOp _ _ _ _ _=>cases hpu
 |unOp _ _ _=>cases hpu
 |convert _ _ _=>cases hpu
 |sliceToArrayPointer _ _=>cases hpu
 |makeInterface _ _=>cases hpu
 |makeFunc _ _ _=>cases hpu
 |slice _ _ _ _ _=>cases hpu
 |fieldAddr _ _ _=>cases hpu
 |field _ _ _=>cases hpu
 |indexAddr _ _ _=>cases hpu
 |index _ _ _=>cases hpu
 |extract _ _=>cases hpu
 |_=>simp [dI] at h
end
end
def fU(o:Oper):Bool:=match o.op with | .defer _=>false|_=>true
section
variable {P:Program}{n r:Nat}
end
