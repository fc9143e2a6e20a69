/- A part of the proof of TopSealed. -/
import Derived.Test.YtjboelhcieepkaaGreatDoorW23
noncomputable section
set_option maxRecDepth 16384
namespace Go.Proofs.YtjboelhcieepkaaGreatDoor
open Go.RowKit
def bBP:List (FuncId×bV):=stops [171] []
def HO:Hk:=cZ Xt (cT bBP) 14 6
theorem a49:bZ Xt HO:=eH aH (jQ λp h=>by simp at h) 6
def ofX(n z:Nat)(q:Int)(x:Value):aB×List Ob:=cL ⟨[20],[],0⟩ HO Xt 12 [.c [] (λ_=>.t [aM z,bM]) [],.b false] (eA Xt 90 [aM n,.a (mA z q x)] .e 0)
def vlZ(n z:Nat)(q:Int)(x:Value):Rp SV:=.node 1 4 (.one (aM n)) (mA z q x)
theorem aSh(n z:Nat)(q:Int)(x:Value):((dS Xt 90 (ofX n z q x).1).map (·.1),(ofX n z q x).2.map jI)=(some (.t [.a (vlZ n z q x),bM]),[.c 171 [aM n] [] [] 0 (.t [aM z,bM]) [],.t (!((z:Int)==z)) false]):=by kernel_rfl
def a4d:List (FuncId×bV):=stops [74,96,90,24] W3
def HDt:Hk:=cZ Xt (cT a4d) 14 6
theorem aV9:bZ Xt HDt:=eH aH (jQ aCR) 6
def rdB(k:Nat):SV:=.t [.s k 0 32 32,bM]
def dtE(n z i s:Nat)(d p:cD)(q:Int)(x:Value):List Ev:=[.c [] (λ_=>.t [.a (vlZ n z q x),bM]) [],.c [] (λ_=>.t [aM (2*i),bM]) [],.c [] (λ_=>.t [aM s,bM]) [],.c [] rdB [⟨5,.q (.byt d),1⟩],.c [] (λ_=>.t [.a (.q (.byt p)),bM]) []]
def dtX(n z i s:Nat)(t:Bool)(k m d p:cD)(v:aA)(q:Int)(x:Value):aB×List Ob:=cL S0 HDt Xt 12 (dtE n z i s d p q x) (eA Xt 26 [aM n,.a (mA z q x),.a (sC k m),aM i,.a (.q (.rcd (dV t v)))] .e 0)
def dtG(n z i s:Nat)(k m d p:cD)(v:aA)(q:Int)(x:Value)(t:Bool):Option SV×List Ob:=((dS Xt 26 (dtX n z i s t k m d p v q x).1).map (·.1),(dtX n z i s t k m d p v q x).2)
def dtO(n z i s:Nat)(k m d p:cD)(v:aA)(q:Int)(x:Value)(t:Bool):List Ob:=[.c 90 [aM n,.a (mA z q x)] [] [] 6 (.t [.a (vlZ n z q x),bM]) [],
 .c 24 [aM n,aM i,aM 0] [] [] 8 (.t [aM (2*i),bM]) [],
 .c 24 [aM n,aM i,aM (aV t)] [] [] 8 (.t [aM s,bM]) [],
 .c 74 [.a (mA z q x),aM s] [] [] 8 (rdB 8) [⟨5,.q (.byt d),1⟩],
 .c 96 [.a (.node 16 48 (.arr .u8 16 k.l) (.arr .u8 32 m.l)),aM i,.a (xJ v),.a (.arr .u8 32 d.l),.a (.arr .u8 32 v.tag)] [] [] 16 (.t [.a (.q (.byt p)),bM]) []]
def dtW(n z i s:Nat)(k m d p:cD)(v:aA)(q:Int)(x:Value)(t:Bool):Option SV×List Ob:=(some (.t [.a (.q (.byt p)),.a oV,bM]),dtO n z i s k m d p v q x t)
theorem aPq(n z i s:Nat)(kl ml dl pl:List Nat)(hk:kl.length=16)(hkb:Sh.Byt kl)(hm:ml.length=32)(hmb:Sh.Byt ml)(hd:dl.length=32)(hdb:Sh.Byt dl)(hp:pl.length=32)(hpb:Sh.Byt pl)(v:aA)(q:Int)(x:Value):
 [false,true].map (dtG n z i s ⟨kl,16,hk,hkb⟩ ⟨ml,32,hm,hmb⟩ ⟨dl,32,hd,hdb⟩ ⟨pl,32,hp,hpb⟩ v q x)=[false,true].map (dtW n z i s ⟨kl,16,hk,hkb⟩ ⟨ml,32,hm,hmb⟩ ⟨dl,32,hd,hdb⟩ ⟨pl,32,hp,hpb⟩ v q x):=by kernel_rfl
theorem aWT:(List.range 20).map (λn=>aGQ [aM (n+1)] .e 0)=(List.range 20).map λn=>some (.t [aM (aW (n+1)),bM],⟨⟨.e,0⟩,.e,0⟩):=by kernel_rfl
section
variable {n i g c0:Nat}{q:Int}{w:World}{L:List (Option aQ)}{k m d:cD}{v:aA}{t:Bool}
theorem a7k(h1:1≤n)(h20:n≤20)(hg:cG Xt w):Calls Xt.P 171 #[.int .i64 (n:Int)] w λe w'=>e=.returned (.tuple #[.int .i64 (aW n:Int),.int .i64 0])∧Below w.heap.size w w':=by
 have hl:=cW aWT (show n-1∈List.range 20 by rw [dF];omega)
 simp only [show n-1+1=n by omega] at hl
 refine (aI3 _ _ _ _ _ hl (E0 Xt w) [] [.int .i64 (n:Int)] w rfl (.cons (.v _) .nil) (aG.start Xt w hg)).2.mono ?_
 rintro e w' ⟨q,v,rfl,hd,hm⟩
 refine ⟨?_,hm.below⟩
 cases hd with|t hd=>cases hd with|cons d1 hd=>cases hd with|cons d2 hd=>cases hd;cases d1;cases d2;rfl
theorem aZb(h1:1≤n)(h20:n≤20)(hg:cG Xt w){r:List aF}{vals:List Value}{x:Value}(ha:aX r [aM n,.a (mA (aW n) q x)] vals)(_hx:x.oneCell'=true):
 Calls Xt.P 90 vals.toArray w λe w'=>e=.returned (.tuple #[.agg #[.int .i64 (n:Int),.int .i64 (aW n:Int),.int .i64 q,x],.int .i64 0])∧Below w.heap.size w w':=by
 have hgo:=aSh n (aW n) q x
 simp only [cH] at hgo
 obtain ⟨e1,e2⟩:=hgo
 obtain ⟨⟨res,st⟩,h4,h5⟩:=dE.1 e1
 simp only at h5
 subst h5
 have ha':aX [] [aM n,.a (mA (aW n) q x)] vals:=by
  cases ha with|cons d1 t=>cases t with|cons d2 t =>
   cases t;cases d1
   cases d2 with|a d2 =>
    have hf:=nX d2
    cases hf with|cons f1 hf=>cases hf with|cons f2 hf=>cases hf with|cons f3 hf =>
     cases hf
     exact .cons (.v _) (.cons (.a (aD.cat (f1.toV []) (aD.cat (f2.toV []) (aD.cat (f3.toV []) .nil)))) .nil)
 refine (iQ (E:=E0 Xt w) (r:=[]) aH a49 h4 (λob hob=>?_) ha' (aG.start Xt w hg)).mono ?_
 ·have hob':jI ob∈(ofX n (aW n) q x).2.map jI:=dC.2 ⟨ob,hob,rfl⟩
  rw [e2] at hob'
  simp only [bG,cK,or_false] at hob'
  rcases hob' with h|h
  ·obtain ⟨mm,rfl⟩:=vS h
   refine fV (E:=E0 Xt w) (bB (by kernel_rfl)) λr vals w1 hp ha hm'=>?_
   cases ha with|cons d1 t =>
    cases t;cases d1
    refine (a7k h1 h20 hm'.globs).mono ?_
    rintro e w' ⟨rfl,hbw⟩
    exact ⟨_,rfl,.t (.cons (.v _) (.cons (.v _) .nil)),hbw⟩
  ·cases ob with
   |t e y =>
    have h':Ob.t e y=.t (!(((aW n:Nat):Int)==(aW n:Nat))) false:=h
    cases h'
    show (!(((aW n:Nat):Int)==(aW n:Nat)))=false
    simp
   |c=>cases h
   |r=>cases h
   |bad=>cases h
 ·rintro e w' ⟨qq,u,rfl,hd,hm'⟩
  refine ⟨?_,hm'.below⟩
  cases hd with|t hd=>cases hd with|cons d1 hd=>cases hd with|cons d2 hd =>
   cases hd;cases d2
   cases d1 with|a d1=>cases d1 with|node f1 f2 _ _ =>
    have hf:=nX f2
    cases hf with|cons g1 hf=>cases hf with|cons g2 hf=>cases hf with|cons g3 hf =>
     cases hf
     rw [bQ f1,bQ g1,bQ g2,bQ g3]
     rfl
theorem aWk{s nx:Nat}(hs:s<aW n)(h56:aW n≤56)(hd:mT w g c0 L)(hdn:d.n=32)(hL:L[s]?=some (some (.by_ d))):
 o4 (E0 Xt w) 74 [.a (mA (aW n) q (.slice (some ⟨g,0,none⟩) 1 c0)),aM s] [] [] nx (rdB nx) [⟨5,.q (.byt d),1⟩]:=by
 intro r vals w1 hp ha hm _
 obtain ⟨mm,hmk⟩:∃mm,aW n=mm+(s+1):=⟨aW n-(s+1),by omega⟩
 refine ⟨λw'=>bB (by kernel_rfl) _ w',?_⟩
 have hb:Below w.heap.size w w1:=hm.below
 have hv:vals=[.agg #[.int .i64 (.ofNat (mm+(s+1))),.int .i64 q,.slice (some ⟨g,0,none⟩) 1 c0],.int .i64 (.ofNat s)]:=by
  cases ha with|cons d1 t=>cases t with|cons d2 t =>
   cases t;cases d2
   rw [aAg d1,hmk]
   rfl
 rw [hv]
 refine (aOu s mm (aQ.by_ d).n (by omega) (.inl hdn) w1 hm.globs g c0 hd.hc (eQ hd.hg hb.size) hd.cv (λj hj=>eQ (hd.hcv j hj) hb.size) L (aDR hd.hd hb hd.hg hd.hcv) (.by_ d) hL rfl q).mono ?_
 rintro e w' ⟨p,c,rest,rfl,hp1,hblk,hlen,hmax,hbw⟩
 have hn:(aQ.by_ d).n=32:=hdn
 rw [hn]
 refine ⟨[⟨p,0,c,none,λ_=>False⟩],_,rfl,?_,?_⟩
 ·exact .t (.cons (aP.s (L:=⟨p,0,c,none,λ_=>False⟩) (o:=0) (by rw [<-hm.len];simp)) (.cons (.v _) .nil))
 ·exact hm.add1 hbw ⟨p,0,c,none,λ_=>False⟩ ⟨5,.q (.byt d),1⟩ hp1 ⟨_,.q (.byt d),.inr (.inl ⟨rfl,bI hm.below.size hp1,rfl,rest,hblk,by rw [show (E0 Xt w).X.P.cellsOf 5=1 from by kernel_rfl];decide,by rw [show (E0 Xt w).X.P.cellsOf 5=1 from by kernel_rfl,Nat.mul_one];exact hlen,hmax⟩)⟩ (.inl (by show 1<2;decide))
theorem a7O(h1:1≤n)(h20:n≤20)(hi:i<n)(hg:cG Xt w)(hk:k.n=16)(hm:m.n=32)(hdn:d.n=32)(hd:mT w g c0 L)(hL:L[2*i+aV t]?=some (some (.by_ d)))(hv:v.tag=Sh.shaF (oP m.l (kE i v d.l))):
 Calls Xt.P 26 #[.int .i64 (n:Int),.agg #[.int .i64 (aW n:Int),.int .i64 q,.slice (some ⟨g,0,none⟩) 1 c0],.agg (nv .u8 k.l++nv .u8 m.l).toArray,.int .i64 (i:Int),.agg (dV t v).vals.toArray] w λe w' =>
  e=.returned (.tuple #[.agg (nv .u8 (eY k.l d.l v)).toArray,.agg #[.int .i64 0,.int .u8 0],.int .i64 0])∧Below w.heap.size w w':=by
 have h56:=(X6 (n:=n) (lv:=0) (ix:=0) (s:=0) h1 h20 (by decide) (by unfold aL;omega) (by decide)).2
 have hs:2*i+aV t<aW n:=by have:=vE t;unfold aW;have:=yU h1 h20;omega
 obtain ⟨p,hp⟩:∃p,p=k8 k.l d.l v:=⟨_,rfl⟩
 have hpn:p.n=32:=by rw [hp];rfl
 have hpl:p.l=eY k.l d.l v:=by rw [hp];rfl
 have hobs:∀ob∈dtO n (aW n) i (2*i+aV t) k m d p v q (.slice (some ⟨g,0,none⟩) 1 c0) t,ob.Holds (E0 Xt w):=by
  intro ob hob
  simp only [dtO,bG,cK,or_false] at hob
  rcases hob with rfl|rfl|rfl|rfl|rfl
  ·refine fV (E:=E0 Xt w) (bB (by kernel_rfl)) λr vals w1 hp ha hm'=>?_
   refine (aZb h1 h20 hm'.globs ha rfl).mono ?_
   rintro e w' ⟨rfl,hbw⟩
   exact ⟨_,rfl,.t (.cons (.a (.node (us:=[.int .i64 (n:Int)]) (.one (.v _) rfl) (.node (us:=[.int .i64 (aW n:Int)]) (.one (.v _) rfl) (.node (us:=[.int .i64 q]) (.one (.v _) rfl) (.one (.v _) rfl) rfl rfl) rfl rfl) rfl rfl)) (.cons (.v _) .nil)),hbw⟩
  ·refine fV (E:=E0 Xt w) (bB (by kernel_rfl)) λr vals w1 hp ha hm'=>?_
   cases ha with|cons d1 t=>cases t with|cons d2 t=>cases t with|cons d3 t =>
    cases t;cases d1;cases d2;cases d3
    refine (aBR (t:=false) h1 h20 hi hm'.globs).mono ?_
    rintro e w' ⟨rfl,hbw⟩
    exact ⟨_,rfl,.t (.cons (.v _) (.cons (.v _) .nil)),hbw⟩
  ·refine fV (E:=E0 Xt w) (bB (by kernel_rfl)) λr vals w1 hp ha hm'=>?_
   cases ha with|cons d1 t=>cases t with|cons d2 t=>cases t with|cons d3 t =>
    cases t;cases d1;cases d2;cases d3
    refine (aBR h1 h20 hi hm'.globs).mono ?_
    rintro e w' ⟨rfl,hbw⟩
    exact ⟨_,rfl,.t (.cons (.v _) (.cons (.v _) .nil)),hbw⟩
  ·exact aWk hs h56 hd hdn hL
  ·refine fV (E:=E0 Xt w) (bB (by kernel_rfl)) λr vals w1 o6 ha hm'=>?_
   have hvals:vals=[.agg (nv .u8 k.l++nv .u8 m.l).toArray,.int .i64 (i:Int),.agg v.nnc.toArray,.agg (nv .u8 d.l).toArray,.agg (nv .u8 v.tag).toArray]:=by
    cases ha with|cons d1 t=>cases t with|cons d2 t=>cases t with|cons d3 t=>cases t with|cons d4 t=>cases t with|cons d5 t =>
     cases t;cases d2
     cases d1 with|a d1=>cases d3 with|a d3=>cases d4 with|a d4=>cases d5 with|a d5 =>
      rw [aCr d3,fJ d4,fJ d5]
      cases d1 with|node e1 e2 _ _=>rw [fJ e1,fJ e2]
   rw [hvals]
   refine (aVE (z:=v) hk hm hdn (by omega) hv hm'.globs).mono ?_
   rintro e w' ⟨rfl,hbw⟩
   refine ⟨_,rfl,.t (.cons (.a ?_) (.cons (.v _) .nil)),hbw⟩
   rw [<-hpl]
   exact .q (.byt p)
 rw [<-hpl]
 clear hpl hp hv hL
 obtain ⟨kl,kn,hkl,hkb⟩:=k
 obtain ⟨ml,mn,hml,hmb⟩:=m
 obtain ⟨dl,dn,hdl,hdb⟩:=d
 obtain ⟨pl,pn,hpl,hpb⟩:=p
 simp only at hk hm hdn hpn
 subst hk hm hdn hpn
 have hgo:=cW (aPq n (aW n) i (2*i+aV t) kl ml dl pl hkl hkb hml hmb hdl hdb hpl hpb v q (.slice (some ⟨g,0,none⟩) 1 c0)) (show t∈[false,true] by cases t<;>simp)
 unfold dtG dtW at hgo
 simp only [cH] at hgo
 obtain ⟨e1,e2⟩:=hgo
 obtain ⟨⟨res,st⟩,h4,h5⟩:=dE.1 e1
 simp only at h5
 subst h5
 rw [<-e2] at hobs
 unfold dtX at h4 hobs
 refine (iQ (E:=E0 Xt w) (r:=[]) (vals:=[.int .i64 (n:Int),.agg #[.int .i64 (aW n:Int),.int .i64 q,.slice (some ⟨g,0,none⟩) 1 c0],.agg (nv .u8 kl++nv .u8 ml).toArray,.int .i64 (i:Int),.agg (dV t v).vals.toArray]) aH aV9 h4 hobs (.cons (.v _) (.cons (aEA _) (.cons (.a (Z3 (k:=⟨kl,16,hkl,hkb⟩) (m:=⟨ml,32,hml,hmb⟩) [])) (.cons (.v _) (.cons (.a (.q (.rcd (dV t v)))) .nil))))) (aG.start Xt w hg)).mono ?_
 rintro e w' ⟨qq,u,rfl,hdv,hm'⟩
 refine ⟨?_,hm'.below⟩
 cases hdv with|t hd=>cases hd with|cons d1 hd=>cases hd with|cons d2 hd=>cases hd with|cons d3 hd =>
  cases hd;cases d3
  cases d1 with|a d1 =>
   cases d1
   cases d2 with|a d2=>cases d2 with|node f1 f2 _ _ =>
    rw [bQ f1,bQ f2]
    rfl
end
def npk(o:Oper):Oper:=match o.op with
 | .pick _ _ _=>{ o with op:=.alloc 0 }
 |_=>o
def aHg(hl:FuncId->Option (List SV->Tr->Nat->Option (SV×St)))(X:aI)(ops:Array Oper)(st:St):List (Nat×Nat):=xT hl X st.hp st.nx (ops.toList.map npk) 0 st.ts []
def uB(hl:FuncId->Option (List SV->Tr->Nat->Option (SV×St)))(X:aI)(rec:jS)(ops:Array Oper)(st:St):Option St :=
 bif Region.noSelect ops&&(mN ops&&ops.toList.all fU) then B7 X rec ops st (aHg hl X ops st) else none
def aAZ(hl:FuncId->Option (List SV->Tr->Nat->Option (SV×St)))(X:aI)(tb:List fT)(tl:List (Tmp×Bool))(rec:jS)(ops:Array Oper)(st:St):Option (St×List b8) :=
 bif Region.noSelect ops&&(mN ops&&ops.toList.all fU) then aAw X tb tl rec ops st (aHg hl X ops st) else none
theorem a4k{X:aI}{w0:World}{tb:List fT}{tl:List (Tmp×Bool)}{rec:jS}{ops:Array Oper}(hrec:kO X w0 rec){hl:FuncId->Option (List SV->Tr->Nat->Option (SV×St))}{st st':St}{lg:List b8}(h:aAZ hl X tb tl rec ops st=some (st',lg))(ho:∀ob∈lg,ob.Any X w0):uB hl X (mO X w0 (kS tb rec)) ops st=some st':=by
 unfold aAZ at h
 unfold uB
 cases hc:(Region.noSelect ops&&(mN ops&&ops.toList.all fU)) with
 |false=>rw [hc] at h;cases h
 |true =>
  rw [hc] at h
  simp only [cond_true] at h ⊢
  unfold aAw at h
  unfold B7
  split at h
  rename_i hp lk hlk
  rw [hlk]
  exact (aFP hrec _ h).2 ho
theorem aJY{hl:FuncId->Option (List SV->Tr->Nat->Option (SV×St))}{X:aI}{rec:jS}{ops:Array Oper}{st st':St}(h:uB hl X rec ops st=some st'):(Region.noSelect ops&&(mN ops&&ops.toList.all fU))=true∧B1 X rec ops st (aHg hl X ops st)=some st':=by
 unfold uB at h
 cases hc:(Region.noSelect ops&&(mN ops&&ops.toList.all fU)) with
 |false=>rw [hc] at h;cases h
 |true =>
  rw [hc] at h
  refine ⟨rfl,?_⟩
  simp only [cond_true] at h
  unfold B7 at h
  unfold B1
  split at h
  rename_i hp lk hl
  try rw [hl]
  refine aCU _ ⟨by simp,λj=>?_⟩ h
  rw [Nat.zero_testBit,fK,Array.getElem?_replicate]
  split<;>rfl
theorem aOS{df:List Deferred}{rec:jS}{ops:Array Oper}{Q:cM}{E:bX}{hl:FuncId->Option (List SV->Tr->Nat->Option (SV×St))}{r:List aF}{vs:List Value}{w:World}{st st':St}(hrec:kO E.X E.w0 rec)(h:uB hl E.X rec ops st=some st')(hs:bU r st.ts vs)(hm:aG E r st.hp st.nx w)
 (hk:∀s vs' w',bU (r++s) st'.ts vs'->aG E (r++s) st'.hp st'.nx w'->Q .normal ⟨vs'.toArray,df⟩ w'):wpAny E.X.P .any ops (j9 Q) ops.size (Array.replicate ops.size false) ⟨vs.toArray,df⟩ w.drew:=by
 obtain ⟨hc,h⟩:=aJY h
 simp only [bJ] at hc
 unfold B1 at h
 split at h
 rename_i hp2 lk hl
 have hmd:=hm.drew
 obtain ⟨hlk,hg,_,hall⟩:=aBA hmd _ _ _ _ _ hl ⟨λ_ h=>(by cases h),List.Pairwise.nil⟩ (λ_ h=>by cases h) (λ_ _=>rfl) (by
  have:=hmd.EG0
  rwa [EG.congr (G':=Gs r [])] at this
  exact λk=>⟨λh=>h.elim,λ⟨x,hx,_⟩=>by cases hx⟩)
 refine aC1 _ _ _ _ (aLk (Q:=j9 Q) (aNo Q) hc.1 hc.2.1 hrec hmd hall hk _ lk _ _ h hlk (λ_ h=>h) (λx hx hn=>absurd hx hn) (by simp) ?_ ops.size ?_ [] vs _ ?_ ?_)
 ·intro k o _ hM
  have:(Array.replicate ops.size false).getD k false=false:=by
   rw [fK,Array.getElem?_replicate]
   split<;>rfl
  rw [this] at hM;cases hM
 ·unfold rO;simp
 ·rw [eC];exact hs.hideS _
 ·rw [eC];exact hg
def aEC(X:aI)(leaf:FuncId->Option (List SV->Tr->Nat->Option (SV×St)))(n d:Nat)(tb:List fT)(tl:List (Tmp×Bool))(p:aB):Option (aB×List b8):=match p.h with
 | .code (.region _ ops true)=>Z1 (aAZ leaf X tb tl (nY X leaf n d)) ops X p
 |_=>none
theorem bDg{E:bX}{Q0:cM}{r0:List aF}{leaf:FuncId->Option (List SV->Tr->Nat->Option (SV×St))}{n d:Nat}{tb:List fT}{tl:List (Tmp×Bool)}{p q:aB}{obs:List b8}(aH:E.X.P.follows .mixedOrders=true)(hH:bZ E.X (cZ E.X leaf n d))(h0:e8 E.X.P Q0)(h:aEC E.X leaf n d tb tl p=some (q,obs))(ho:∀ob∈obs,ob.Any E.X E.w0)(hx:Xp E r0 Q0 q):Xp E r0 Q0 p:=by
 have hrec:=aN0 aH hH E.w0
 have hH2:aAp E ⟨leaf,uB leaf E.X (mO E.X E.w0 (kS tb (nY E.X leaf n d)))⟩:=by
  refine ⟨λg args hp nx res st h=>hH.leaf E.w0 g args hp nx res st ?_,λQ r vs df w st st' ops h hs hm hk=>?_⟩
  ·unfold qM at h ⊢
   rw [aDZ]
   exact h
  ·refine ⟨?_,aOS (aM2 E.X E.w0 _) h hs hm hk⟩
   have hc:=(aJY h).1
   simp only [bJ] at hc
   rw [<-Array.all_toList]
   exact hc.2.2
 unfold aEC at h
 split at h
 ·rename_i id ops hp
  obtain ⟨hd,k,st⟩:=p
  simp only at hp
  subst hp
  refine aFG (H:=⟨leaf,uB leaf E.X (mO E.X E.w0 (kS tb (nY E.X leaf n d)))⟩) aH hH2 h0 ?_ hx
  show vU _ ops E.X ⟨.code (.region id ops true),k,st⟩=some q
  unfold Z1 at h
  unfold vU
  have key:∀(f:Option St->Option aB) (o2:Array Oper),xA f (aAZ leaf E.X tb tl (nY E.X leaf n d) o2 st)=some (q,obs)->f (uB leaf E.X (mO E.X E.w0 (kS tb (nY E.X leaf n d))) o2 st)=some q:=by
   intro f o2 hg
   unfold xA at hg
   split at hg
   ·rename_i st' l hr
    split at hg
    ·rename_i q' hq
     simp only [b6,cH] at hg
     obtain ⟨rfl,rfl⟩:=hg
     rw [a4k hrec hr ho]
     exact hq
    ·cases hg
   ·cases hg
  cases ht:yJ ops with
  |true=>rw [ht,cond_true] at h;exact key _ _ h
  |false =>
   rw [ht,cond_false] at h
   cases ht1:xE ops with
   |true=>rw [ht1,cond_true] at h;exact key _ _ h
   |false=>rw [ht1,cond_false] at h;exact key _ _ h
 ·cases h
def Y7:List (FuncId×bV):=stops [5,7,17,18,19,24,25,26,15] aEf
def x8:Hk:=cZ Xt (cT Y7) 14 6
theorem rP:bZ Xt x8:=eH aH (jQ aI1) 6
def aCo(v:aA)(b:cD):Rp SV:=cB [.q (.nnc v),.q (.byt b)]
def ts0(x:VP)(pp sp:SV)(n2 n3 bl:Nat)(v:aA)(b:cD):aB:=eA Xt 4 [.a (vR x pp sp),.v (.int .u8 (.ofNat bl)),.a (aCo v b)] (o6 x n2 n3) 2
def ts1(x:VP)(pp sp:SV)(n2 n3 bl:Nat)(v:aA)(b:cD)(n:Nat)(rt:List Nat)(L:List (Option aQ)):aB×List Ob:=cL ⟨[],[32],0⟩ x8 Xt 12 [.c [0,1] (λk=>.a (S8 x n k rt)) [C4 n L]] (ts0 x pp sp n2 n3 bl v b)
def iI(bl n:Nat):Int:=(IntKind.i64.wrap (Int.ofNat bl)).tmod ((n+1:Nat):Int)
def QS(x:VP)(n:Nat)(rt:List Nat)(L:List (Option aQ))(v:aA)(b:cD)(iv:Int):aB:=rF 4 [.r,.r,.r,.l,.o 0] [(5,.p 0 0),(7,.p 1 0),(8,.v (.int .i64 iv))] [(0,some ⟨83,aCo v b,0⟩),(1,some ⟨40,S8 x n 2 rt,0⟩),(2,some (C4 n L))] 3
def goC(p:aB×List Ob):aB×List Ob×Bool:=(nJ [5,7,8] [3,5,4] 1000 p.1,p.2,oT p.1.k)
def aK0(k:Nat)(x:VP)(pp sp:SV)(n2 n3 n:Nat)(rt:List Nat)(L:List (Option aQ)):Ob:=.c 5 [.a (vR x pp sp)] [0,1] [some ⟨5,.arr .u8 n2 x.pl,2⟩,some ⟨5,.arr .u8 n3 x.sl,2⟩] k (.a (S8 x n k rt)) [C4 n L]
theorem a5O(x:VP)(pp sp:SV)(n2 n3 bl:Nat)(v:aA)(bb:List Nat)(hb:bb.length=32)(hbb:Sh.Byt bb)(n:Nat)(rt:List Nat)(L:List (Option aQ)):goC (ts1 x pp sp n2 n3 bl v ⟨bb,32,hb,hbb⟩ (n+1) rt L)=(QS x (n+1) rt L v ⟨bb,32,hb,hbb⟩ (iI bl n),[aK0 4 x pp sp n2 n3 (n+1) rt L],true):=by kernel_rfl
def tbS(T n:Nat)(q:Int)(row:Rp SV)(L:List (Option aQ)):List fT:=[⟨7,[2],[],λk=>.a (nZ n q k),[fH L]⟩,⟨17,[6],[],λk=>.t [.a (lG n T k),.a oV,bM],[nB row 0]⟩]
def dB(d:cD):HB:=⟨81,.q (.byt d),0⟩
def s4E(T n s:Nat)(t:Bool)(v:aA)(d:cD)(row2:Rp SV):List Ev:=[.c [7] (λk=>.t [.a (lG n T k),.a (K6 s (k+1)),bM]) [nB row2 0,dB d],.c [10] (λ_=>.t [.a (.q (.rcd (dV t v))),bM]) []]
def aHE:Nat->aB->aB
 |0,p=>p
 |k+1,p=>aHE k (gQ S0 x8 Xt 0 p)
def a9Q(n:Nat)(q q2:Int)(L L2:List (Option aQ)):List fT:=[⟨7,[2],[],λk=>.a (nZ n q k),[fH L]⟩,⟨25,[31,11],[31],λk=>.t [.a (nZ n q2 k),bM],[fH L2]⟩]
def s8E(b:cD):List Ev:=[.c [32] (λ_=>.t [.a (.q (.byt b)),.a oV,bM]) [],.g true,.g true,.c [] (λ_=>.v (.bool true)) []]
def S17:gR:=⟨[],[17],0⟩
def SEn:gR:=⟨[],[162,168],0⟩
def tlS:List (Tmp×Bool):=[(87,false),(94,false),(110,false)]
structure pF where
 n:Nat
 T:Nat
 i:Nat
 s:Nat
 rt:List Nat
 L:List (Option aQ)
 L2:List (Option aQ)
 q:Int
 q2:Int
 row:Rp SV
 row2:Rp SV
def y3(a:pF)(p:aB):Option (aB×List b8):=q8 Xt (cT Y7) 14 6 (tbS a.T a.n a.q a.row a.L) [] (gQ S0 x8 Xt 13 p)
def y4(a:pF)(t:Bool)(v:aA)(d:cD)(p:aB):aB×List Ob:=cL S17 x8 Xt 13 (s4E a.T a.n a.s t v d a.row2) p
def y5(p:aB):Option (aB×List b8):=aEC Xt (cT Y7) 14 6 [] tlS (aHE 6 p)
def y6(a:pF)(p:aB):aB×List Ob:=cL S0 x8 Xt 13 [.c [] (λ_=>.t [aM a.s,bM]) []] p
def y7(a:pF)(p:aB):Option (aB×List b8):=q8 Xt (cT Y7) 14 6 (a9Q a.n a.q a.q2 a.L a.L2) [] p
def y8(b:cD)(p:aB):aB×List Ob:=cL SEn x8 Xt 13 (s8E b) p
def tsX(a:pF)(t:Bool)(v:aA)(b d:cD)(p:aB):Option (aB×List Ob×List b8):=match y3 a p with
 |some z3=>(match y5 (y4 a t v d z3.1).1 with
  |some z5=>(match y7 a (y6 a z5.1).1 with
   |some z7=>some ((y8 b z7.1).1,(y4 a t v d z3.1).2++((y6 a z5.1).2++(y8 b z7.1).2),z3.2++(z5.2++z7.2))
   |none=>none)
  |none=>none)
 |none=>none
theorem aJ3{w:World}{r0:List aF}{Q0:cM}(h0:e8 Xt.P Q0):∀(k:Nat) {p:aB},Xp (E0 Xt w) r0 Q0 (aHE k p)->Xp (E0 Xt w) r0 Q0 p
 |0,_,h=>h
 |k+1,_,h=>jP (S:=S0) (E:=E0 Xt w) aH rP h0 0 (aJ3 h0 k h)
theorem aRA{w:World}{r0:List aF}{Q0:cM}(h0:e8 Xt.P Q0){a:pF}{t:Bool}{v:aA}{b d:cD}{p q:aB}{obs:List Ob}{oby:List b8}(h:tsX a t v b d p=some (q,obs,oby))(ho:∀ob∈obs,ob.Holds (E0 Xt w))(hy:∀ob∈oby,ob.Any Xt w)(hq:Xp (E0 Xt w) r0 Q0 q):Xp (E0 Xt w) r0 Q0 p:=by
 unfold tsX at h
 split at h
 ·rename_i z3 h3
  split at h
  ·rename_i z5 h5
   split at h
   ·rename_i z7 h7
    simp only [b6,cH] at h
    obtain ⟨rfl,rfl,rfl⟩:=h
    refine jP (S:=S0) (E:=E0 Xt w) aH rP h0 13 (sD (E:=E0 Xt w) (q:=z3.1) (obs:=z3.2) aH rP h0 h3 (λob hob=>hy ob (kJ _ hob)) ?_)
    refine jG (S:=S17) (E:=E0 Xt w) aH rP h0 13 _ (λob hob=>ho ob (kJ _ hob)) ?_
    refine aJ3 h0 6 (bDg (E:=E0 Xt w) (q:=z5.1) (obs:=z5.2) aH rP h0 h5 (λob hob=>hy ob (gW _ (kJ _ hob))) ?_)
    refine jG (S:=S0) (E:=E0 Xt w) aH rP h0 13 _ (λob hob=>ho ob (gW _ (kJ _ hob))) ?_
    refine sD (E:=E0 Xt w) (q:=z7.1) (obs:=z7.2) aH rP h0 h7 (λob hob=>hy ob (gW _ (gW _ hob))) ?_
    exact jG (S:=SEn) (E:=E0 Xt w) aH rP h0 13 _ (λob hob=>ho ob (gW _ (gW _ hob))) hq
   ·cases h
  ·cases h
 ·cases h
def tsG(a:pF)(v:aA)(b d:cD)(p:aB)(t:Bool):Option (Option SV×List Ob×List b8):=(tsX a t v b d p).map λy=>((dS Xt 4 y.1).map (·.1),y.2)
def yK(k m:cD):Rp SV:=.node 0 48 (.arr .u8 0 []) (.node 0 48 (.arr .u8 0 []) (.node 16 48 (.arr .u8 16 k.l) (.arr .u8 32 m.l)))
def aBC(f:Nat->Nat)(p1 p2 p3:List Nat):List Nat:=Sh.xorB (aBQ f) (List.replicate 64 92)++(Sh.shaF (((Sh.xorB (aBQ f) (List.replicate 64 54)++p1)++p2)++p3)++[])
def aSj(x:VP)(n k:Nat)(rt:List Nat):Rp SV:=cB [.one (aM n),.arr .u8 16 x.el,.arr .u8 32 x.ml,.one (.gs k (aW n)),.arr .u8 32 (Sh.shaF rt),.one (.v (.int .u64 (IntKind.u64.wrap ((x.ep:Nat):Int)))),nI 1000,.one .u,.one .u,.one .u]
def aFq(k:Nat)(x:VP)(n:Nat)(rt:List Nat)(L:List (Option aQ))(q:Int):o7:=⟨7,[.a (aSj x n 2 rt)],[2],[some (C4 n L)],[],k,.a (nZ n q k),[fH L]⟩
def tsO(a:pF)(x:VP)(v:aA)(b d:cD)(t:Bool):List Ob:=[.c 18 [.a (lG a.n a.T 7),.a (yK ⟨x.el,16,x.he,x.heb⟩ ⟨x.ml,32,x.hm,x.hmb⟩),aM a.i,.a (xJ v),.a (.arr .u8 32 b.l)] [7] [some (nB (mK a.row) 0)] 10 (.t [.a (lG a.n a.T 10),.a (K6 a.s 11),bM]) [nB a.row2 0,dB d],
 .c 19 [.a (lG a.n a.T 10),aM a.i] [10] [some (nB (mK a.row2) 0)] 14 (.t [.a (.q (.rcd (dV t v))),bM]) [],
 .c 24 [aM a.n,aM a.i,aM (aV t)] [] [] 31 (.t [aM a.s,bM]) [],
 .c 26 [aM a.n,.a (nZ a.n a.q2 32),.a (yK ⟨x.el,16,x.he,x.heb⟩ ⟨x.ml,32,x.hm,x.hmb⟩),aM a.i,.a (.q (.rcd (dV t v)))] [32] [some (fH a.L2)] 34 (.t [.a (.q (.byt b)),.a oV,bM]) [],
 .t ((a.s:Int)==a.s) true,.t (decide (b.l=b.l)&&true) true,.c 15 [] [] [] 36 (.v (.bool true)) []]
def tsY(a:pF)(x:VP)(f:Nat->Nat)(v:aA)(b d:cD)(_t:Bool):List b8:=[.c ⟨17,[aM a.n,.a (nZ a.n a.q 6),.a (oU (Sh.shaF a.rt) (.int .u64 (IntKind.u64.wrap ((x.ep:Nat):Int))) (.int .u64 1000))],[6],[some (fH a.L)],[],7,.t [.a (lG a.n a.T 7),.a oV,bM],[nB a.row 0]⟩,
 .c (aFq 6 x a.n a.rt a.L a.q),
 .t (!(decide (v.tag=Sh.shaF (aBC f (Sh.beB (a.i%4294967296%18446744073709551616) 4) v.nncB (eY x.el b.l v)))&&true)) false,.t (!(decide ((v.sh:Int)=v.sh)&&(decide ((v.c:Int)=v.c)&&true))) false,.t (!((kB (eY x.el b.l v)).toList==(kB d.l).toList)) false,
 .c ⟨25,[.a (nZ a.n a.q 31),aM a.s,.s 11 0 32 32],[31,11],[some (fH a.L),some ⟨81,.arr .u8 32 d.l,0⟩],[31],32,.t [.a (nZ a.n a.q2 32),bM],[fH a.L2]⟩,
 .c (aFq 31 x a.n a.rt a.L a.q)]
theorem a2T(a:pF)(bl ep ma:Nat)(pl sl el:List Nat)(he:el.length=16)(heb:Sh.Byt el)(f:Nat->Nat)(hf:∀j,f j<256)(v:aA)(bb dd:List Nat)(hb:bb.length=32)(hbb:Sh.Byt bb)(hd:dd.length=32)(hdb:Sh.Byt dd):
 [false,true].map (tsG a v ⟨bb,32,hb,hbb⟩ ⟨dd,32,hd,hdb⟩ (QS ⟨bl,ep,ma,pl,sl,el,(jL 32 f hf).l,he,heb,(jL 32 f hf).hl,(jL 32 f hf).hb⟩ a.n a.rt a.L v ⟨bb,32,hb,hbb⟩ (a.i:Nat))) =
 [false,true].map λt=>some (some (.v (.bool true)),tsO a ⟨bl,ep,ma,pl,sl,el,(jL 32 f hf).l,he,heb,(jL 32 f hf).hl,(jL 32 f hf).hb⟩ v ⟨bb,32,hb,hbb⟩ ⟨dd,32,hd,hdb⟩ t,tsY a ⟨bl,ep,ma,pl,sl,el,(jL 32 f hf).l,he,heb,(jL 32 f hf).hl,(jL 32 f hf).hb⟩ f v ⟨bb,32,hb,hbb⟩ ⟨dd,32,hd,hdb⟩ t):=by kernel_rfl
def BW(n:Nat)(R:Nat->aA)(B:Nat->Bool)(k:Nat):Bool:=bif (bif Nat.blt k (aL n 0) then Nat.blt 0 (aO n)&&bY R n 0 k else Nat.blt 1 (aO n)&&(Nat.blt (k-aL n 0) (aL n 1)&&bY R n 1 (k-aL n 0))) then true else B k
section
variable {n:Nat}{R:Nat->aA}{B:Nat->Bool}
theorem C0{a b:Nat}(h:b≤a):Nat.blt a b=false:=by rw [bO];exact decide_eq_false (by omega)
theorem aES{a b:Nat}(h:a<b):Nat.blt a b=true:=by rw [bO];exact decide_eq_true h
theorem aNY{l j:Nat}(hl:l<3)(hj:j<aL n l):BW n R B (num n l j)=bif Nat.blt l (aO n)&&bY R n l j then true else B (num n l j):=by
 have h2:=oQ n
 have h012:l=0∨l=1∨l=2:=by omega
 rcases h012 with rfl|rfl|rfl
 ·have e:num n 0 j=j:=by unfold num;simp
  rw [e]
  unfold BW
  rw [aES hj,cond_true]
 ·have e:num n 1 j=aL n 0+j:=by unfold num;simp
  rw [e]
  unfold BW
  rw [C0 (show aL n 0≤aL n 0+j by omega),cond_false,show aL n 0+j-aL n 0=j by omega,aES hj,Bool.true_and]
 ·have e:num n 2 j=aL n 0+aL n 1+j:=by unfold num;simp
  rw [e]
  unfold BW
  rw [C0 (show aL n 0≤aL n 0+aL n 1+j by omega),cond_false,C0 (show aL n 1≤aL n 0+aL n 1+j-aL n 0 by omega),Bool.false_and,Bool.and_false,C0 h2,Bool.false_and]
theorem a2F(h1:1≤n)(h20:n≤20):zM n R B=(fR n).map λp=>aV (BW n R B (num n p.1 p.2)):=by
 unfold zM F6
 refine vN λp hp=>?_
 obtain ⟨h3,hc⟩:=aF8 hp
 have hle:=aLe h3 hc
 rw [aNY h3 hc,bE]
 by_cases e:p.1=aO n
 ·have hc1:=aJT h1 h20
  rw [e,hc1] at hc
  have hp2:p.2=0:=by omega
  simp only [e,hp2,decide_true,cond_true]
  rw [C0 (aS _),Bool.false_and,cond_false]
 ·rw [decide_eq_false e,cond_false,aES (show p.1<aO n by omega),Bool.true_and]
  cases bY R n p.1 p.2<;>rfl
theorem enW{l j:Nat}(hl:l<2)(hj:j<aL n l)(h:bP n R (aU n R (BW n R B)) l j=bP n R (aU n R B) l j):aU n R (BW n R B) (num n l j)=aU n R B (num n l j):=by
 rw [pI _ _ _ l j hl hj,pI _ _ _ l j hl hj,aNY (by omega) hj,h]
 cases bY R n l j
 ·rw [Bool.and_false];rfl
 ·rfl
theorem uZ{l j:Nat}(hl:l<2)(h:bP n R (aU n R (BW n R B)) l j=bP n R (aU n R B) l j):ee n (aU n R (BW n R B)) l j=ee n (aU n R B) l j:=by
 unfold ee
 by_cases hj:j<aL n l
 ·rw [enW hl hj h]
 ·rw [C0 (by omega)];rfl
theorem aAi(j:Nat):bP n R (aU n R (BW n R B)) 0 j=bP n R (aU n R B) 0 j:=rfl
theorem N5(j:Nat):bP n R (aU n R (BW n R B)) 1 j=bP n R (aU n R B) 1 j:=by
 show bD.inner 1 (j%8) (ee n _ 0 (4*j)) (ee n _ 0 (4*j+1)) (ee n _ 0 (4*j+2)) (ee n _ 0 (4*j+3)) _ _=bD.inner 1 (j%8) (ee n _ 0 (4*j)) (ee n _ 0 (4*j+1)) (ee n _ 0 (4*j+2)) (ee n _ 0 (4*j+3)) _ _
 rw [uZ (by decide) (aAi _),uZ (by decide) (aAi _),uZ (by decide) (aAi _),uZ (by decide) (aAi _)]
theorem ndW{l j:Nat}(hl:l<3):bP n R (aU n R (BW n R B)) l j=bP n R (aU n R B) l j:=by
 have h012:l=0∨l=1∨l=2:=by omega
 rcases h012 with rfl|rfl|rfl
 ·rfl
 ·exact N5 j
 ·show bD.inner 2 (j%8) (ee n _ 1 (4*j)) (ee n _ 1 (4*j+1)) (ee n _ 1 (4*j+2)) (ee n _ 1 (4*j+3)) _ _=bD.inner 2 (j%8) (ee n _ 1 (4*j)) (ee n _ 1 (4*j+1)) (ee n _ 1 (4*j+2)) (ee n _ 1 (4*j+3)) _ _
  rw [uZ (by decide) (N5 _),uZ (by decide) (N5 _),uZ (by decide) (N5 _),uZ (by decide) (N5 _)]
theorem a8F:f9 n R (aU n R (BW n R B))=f9 n R (aU n R B):=by
 unfold f9
 congr 1
 refine vN λp hp=>?_
 rw [ndW (aID hp)]
end
def uK(n:Nat)(B:Nat->Bool):List Nat:=(fR n).map λp=>aV (B (num n p.1 p.2))
theorem aVa:(eP H4 Xt 12 152 [aM 0] .e 0).map (·.1)=some (.v (.bool false)):=by kernel_rfl
theorem aVt:(eP H4 Xt 12 152 [aM 1] .e 0).map (·.1)=some (.v (.bool false)):=by kernel_rfl
theorem a3R(b:Bool)(w:World)(hg:cG Xt w):Calls Xt.P 152 #[.int .i64 ((aV b:Nat):Int)] w λe w'=>e=.returned (.bool false)∧Below w.heap.size w w':=by
 have key:∀s:Nat,(eP H4 Xt 12 152 [aM s] .e 0).map (·.1)=some (.v (.bool false))->Calls Xt.P 152 #[.int .i64 (s:Int)] w λe w'=>e=.returned (.bool false)∧Below w.heap.size w w':=by
  intro s h
  obtain ⟨⟨res,st⟩,h1,h2⟩:=dE.1 h
  simp only at h2
  subst h2
  refine (oX (E:=E0 Xt w) (r:=[]) (vals:=[.int .i64 (s:Int)]) aH sG h1 (.cons (.v _) .nil) (aG.start Xt w hg)).mono ?_
  rintro e' w' ⟨q,v,rfl,hd,hm⟩
  cases hd
  exact ⟨rfl,hm.below⟩
 cases b
 ·exact key 0 aVa
 ·exact key 1 aVt
def aR5:List (FuncId×bV):=stops [152] []
def HCI:Hk:=cZ Xt (cT aR5) 14 6
theorem a1j:bZ Xt HCI:=eH aH (jQ λp h=>by simp at h) 6
def aEd(n k:Nat):List SV:=[.s k 0 (aT n) (aT n),.f (.func 152) [] []]
def S4(n:Nat)(B:Nat->Bool):Tr:=fD [(0,some ⟨3,i5 (uK n B),2⟩)]
def ciX(n:Nat)(B:Nat->Bool):aB×List Ob:=cL S0 HCI Xt 12 (List.replicate (aT n) (.c [] (λ_=>.v (.bool false)) [])) (eA Xt 151 (aEd n 0) (S4 n B) 1)
def ciG(n:Nat)(B:Nat->Bool):(Option SV×List Ob)×Rp SV:=(((dS Xt 151 (ciX n B).1).map (·.1),(ciX n B).2.map jI),pM [5] (i5 (uK n B)))
theorem aNe(B:Nat->Bool):(List.range 20).map (λm=>ciG (m+1) B)=(List.range 20).map λm=>((some (.v (.bool false)),(fR (m+1)).map λp=>.c 152 [aM (aV (B (num (m+1) p.1 p.2)))] [] [] 0 (.v (.bool false)) []),i5 (uK (m+1) B)):=by kernel_rfl
def a83:List (FuncId×bV):=stops [6,50,151,163] []
def HWk:Hk:=cZ Xt (cT a83) 14 6
theorem a6f:bZ Xt HWk:=eH aH (jQ λp h=>by simp at h) 6
def wkE(n:Nat)(R:Nat->aA)(Ee:Nat->aJ)(B:Nat->Bool):List Ev:=[.c [] (aIB (aT n) n) (aN1 (f9 n R Ee) (uK n B)),.c [4] (λ_=>bM) [],.c [5] (λ_=>.v (.bool false)) [],.k 10 (fL n 1000 R Ee B) false,.c [10] (λ_=>.t [wQ,bM]) []]
def wkX(R:Nat->aA)(Ee:Nat->aJ)(B:Nat->Bool)(q:Int)(v:Value)(dg:List Nat)(e m:Value)(n:Nat):aB×List Ob:=cL S0 HWk Xt 12 (wkE n R Ee B) (eA Xt 17 (vQ n q v dg e m) .e 0)
def wkG(R:Nat->aA)(Ee:Nat->aJ)(B:Nat->Bool)(q:Int)(v:Value)(dg:List Nat)(e m:Value)(n:Nat):(Option SV×Option HB)×List Ob:=(((dS Xt 17 (wkX R Ee B q v dg e m n).1).map (·.1),(wkX R Ee B q v dg e m n).1.st.hp.get 10),(wkX R Ee B q v dg e m n).2)
def wkO(R:Nat->aA)(Ee:Nat->aJ)(B:Nat->Bool)(q:Int)(v:Value)(dg:List Nat)(e m:Value)(n:Nat):List Ob:=[.c 6 (vQ n q v dg e m) [] [] 4 (aIB (aT n) n 4) (aN1 (f9 n R Ee) (uK n B)),
 .c 50 [.a (iK n 4)] [4] [some ⟨67,f9 n R Ee,0⟩] 10 bM [],
 .c 151 (aEd n 5) [5] [some ⟨3,i5 (uK n B),0⟩] 10 (.v (.bool false)) [],
 .r (fL n 1000 R Ee B) (fL n 1000 R Ee B),
 .c 163 [.a (iK n 10)] [10] [some (fG n 1000 R Ee B 0)] (13+aT n) (.t [wQ,bM]) []]
theorem a8S(R:Nat->aA)(Ee:Nat->aJ)(B:Nat->Bool)(q:Int)(v:Value)(dg:List Nat)(e m:Value):(List.range 20).map (λn=>wkG R Ee B q v dg e m (n+1))=(List.range 20).map λn=>((some (.t [.a (iK (n+1) 10),.a oV,bM]),some (fG (n+1) 1000 R Ee B 0)),wkO R Ee B q v dg e m (n+1)):=by kernel_rfl
section
variable {n g c0:Nat}{R:Nat->aA}{B:Nat->Bool}{q e:Int}{m:Value}{dg:List Nat}{w:World}{L:List (Option aQ)}
theorem aUN(h1:1≤n)(h20:n≤20){r:List aF}{vals:List Value}(ha:aX r (aEd n 0) vals)(hm:aG (E0 Xt w) r (S4 n B) 1 w):
 Calls Xt.P 151 vals.toArray w λe w'=>e=.returned (.bool false)∧Below w.heap.size w w':=by
 have h:=cW (aNe B) (show n-1∈List.range 20 by rw [dF];omega)
 simp only [show n-1+1=n by omega] at h
 unfold ciG at h
 simp only [cH] at h
 obtain ⟨⟨hf,ho⟩,_⟩:=h
 obtain ⟨⟨res',st'⟩,h3,h4⟩:=dE.1 hf
 simp only at h4
 subst h4
 refine (iQ (E:=E0 Xt w) (r:=r) aH a1j h3 (λob hob=>?_) ha hm).mono ?_
 ·have hob':jI ob∈(ciX n B).2.map jI:=dC.2 ⟨ob,hob,rfl⟩
  rw [ho] at hob'
  obtain ⟨p,_,hp⟩:=dC.1 hob'
  obtain ⟨mm,rfl⟩:=vS hp.symm
  refine fV (E:=E0 Xt w) (bB (by kernel_rfl)) λr vals w1 hp ha hm=>?_
  cases ha with|cons d1 t =>
   cases t;cases d1
   refine (a3R _ w1 hm.globs).mono ?_
   rintro e w' ⟨rfl,hb⟩
   exact ⟨_,rfl,.v _,hb⟩
 ·rintro e w' ⟨q,v,rfl,hd,hm⟩
  cases hd
  exact ⟨rfl,hm.below⟩
theorem a4r(h1:1≤n)(h20:n≤20)(hd:mT w g c0 L)(hL:O2 n R B L)(hs:IntKind.i64.wrap (e.tmod 2)=((aV (B (num n (aO n) 0)):Nat):Int))(hdg:Sh.shaF (bP n R (aU n R B) (aO n) 0).bytes=dg):
 ∀ob∈wkO R (aU n R (BW n R B)) (BW n R B) q (.slice (some ⟨g,0,none⟩) 1 c0) dg (.int .u64 e) m n,ob.Holds (E0 Xt w):=by
 intro ob hob
 simp only [wkO,bG,cK,or_false] at hob
 rcases hob with rfl|rfl|rfl|rfl|rfl
 ·intro r vals w1 hp ha hm _
  refine ⟨λw'=>bB (by kernel_rfl) _ w',?_⟩
  have hb:Below w.heap.size w w1:=hm.below
  cases ha with|cons d1 t=>cases t with|cons d2 t=>cases t with|cons d3 t =>
   cases t;cases d1
   rw [aAg d2]
   cases d3 with|a d3 =>
    refine (aSC (w:=w1) (L:=L) (R:=R) (B:=B) h1 h20 hm.globs (hd.keep hb) hL hs hdg (aLz h1 h20) (P7 d3)).mono ?_
    rintro e' w' ⟨p,s,rfl,hp1,hs1,hne,b1,b2,hbw⟩
    have hm2:=hm.add2 hbw hp1 hs1 hne b1 b2 (c1:=f9 n R (aU n R (BW n R B))) (c2:=i5 (uK n (BW n R B))) (λr=>by rw [a8F];exact aEF r _ _ _) (λr=>by rw [a2F h1 h20];exact aOJ r _)
    have hlen:r.length=4:=hm.len
    have e1:r++[(⟨p,0,0,none,λ_=>False⟩:aF)]++[⟨s,0,0,none,λ_=>False⟩]=r++[(⟨p,0,0,none,λ_=>False⟩:aF),⟨s,0,0,none,λ_=>False⟩]:=by simp
    rw [e1] at hm2
    refine ⟨[⟨p,0,0,none,λ_=>False⟩,⟨s,0,0,none,λ_=>False⟩],_,rfl,?_,hm2⟩
    refine .t (.cons (.a (vs:=[.int .i64 (n:Int),.slice (some ⟨p,0,none⟩) (aT n) (aT n)]) (.node (us:=[.int .i64 (n:Int)]) (.one (.v _) rfl) (.one (.s (L:=⟨p,0,0,none,λ_=>False⟩) ?_) rfl) rfl rfl)) (.cons (.s (L:=⟨s,0,0,none,λ_=>False⟩) ?_) (.cons (.a (vs:=[.int .i64 0,.int .u8 0]) (.node (us:=[.int .i64 0]) (.one (.v _) rfl) (.one (.v _) rfl) rfl rfl)) (.cons (.v _) .nil))))
    ·rw [<-hlen];simp
    ·rw [<-hlen];simp
 ·exact aMo (E:=E0 Xt w) rfl h1 h20 (aLz h1 h20)
 ·refine aAV (E:=E0 Xt w) rfl (bB (by kernel_rfl)) λr vals w hg ha hm=>?_
  have h:=cW (aNe (BW n R B)) (show n-1∈List.range 20 by rw [dF];omega)
  simp only [show n-1+1=n by omega] at h
  unfold ciG at h
  simp only [cH] at h
  have hm':aG (E0 Xt w) r (fD [(0,some ⟨3,pM [5] (i5 (uK n (BW n R B))),2⟩)]) 1 w:=hm
  rw [h.2] at hm'
  refine (aUN (B:=BW n R B) h1 h20 (by exact ha) hm').mono ?_
  rintro e w' ⟨rfl,hb⟩
  exact ⟨⟨_,rfl,λr=>.v _⟩,hb⟩
 ·exact λr us h=>h
 ·exact aIi (E:=E0 Xt w) rfl h1 h20 (aHc h1 h20) (by decide) rfl
theorem a2M(h1:1≤n)(h20:n≤20)(hg:cG Xt w)(hd:mT w g c0 L)(hL:O2 n R B L)(hs:IntKind.i64.wrap (e.tmod 2)=((aV (B (num n (aO n) 0)):Nat):Int))(hdg:Sh.shaF (bP n R (aU n R B) (aO n) 0).bytes=dg){cs:List Value}(hcs:aD [] (oU dg (.int .u64 e) m) cs):
 Calls Xt.P 17 #[.int .i64 (n:Int),.agg #[.int .i64 (aW n:Int),.int .i64 q,.slice (some ⟨g,0,none⟩) 1 c0],.agg cs.toArray] w λe' w'=>∃r u hp' nx',e'=.returned u∧aP r (.t [.a (iK n 10),.a oV,bM]) u∧aG (E0 Xt w) r hp' nx' w'∧hp'.get 10=some (fG n 1000 R (aU n R (BW n R B)) (BW n R B) 0):=by
 have h:=cW (a8S R (aU n R (BW n R B)) (BW n R B) q (.slice (some ⟨g,0,none⟩) 1 c0) dg (.int .u64 e) m) (show n-1∈List.range 20 by rw [dF];omega)
 simp only [show n-1+1=n by omega] at h
 unfold wkG at h
 simp only [cH] at h
 obtain ⟨⟨e1,e2⟩,e3⟩:=h
 obtain ⟨⟨res,st⟩,h4,h5⟩:=dE.1 e1
 simp only at h5
 subst h5
 have hobs:=a4r (q:=q) (m:=m) h1 h20 hd hL hs hdg
 rw [<-e3] at hobs
 rw [R9 h4] at e2
 unfold wkX at h4 hobs
 refine (iQ (E:=E0 Xt w) (r:=[]) (vals:=[.int .i64 (n:Int),.agg #[.int .i64 (aW n:Int),.int .i64 q,.slice (some ⟨g,0,none⟩) 1 c0],.agg cs.toArray]) aH a6f h4 hobs (.cons (.v _) (.cons (aEA _) (.cons (.a hcs) .nil))) (aG.start Xt w hg)).mono ?_
 rintro e' w' ⟨qq,u,rfl,hdv,hm'⟩
 exact ⟨_,u,_,_,rfl,hdv,hm',e2⟩
end
def aBf(f:aB->aB)(q:aB):aB:=aB.rec (motive:=λ_=>aB) (λh k st=>List.rec (motive:=λ_=>aB) ⟨h,[],st⟩ (λi k _=>J7 f ⟨h,i::k,st⟩) k) q
theorem bD4(f:aB->aB)(q:aB):aBf f q=f q∨aBf f q=q:=by
 obtain ⟨h,k,st⟩:=q
 cases k with
 |nil=>exact .inr rfl
 |cons i k=>exact aIj f ⟨h,i::k,st⟩
def xB(H:Hk)(X:aI)(n:Nat):aB->aB:=Nat.rec (motive:=λ_=>aB->aB) (λp=>Option.rec (motive:=λ_=>aB) p (λq=>q) (oD H X p)) (λ_ ih p=>aBf ih (ih p)) n
section
variable {E:bX}{r0:List aF}{Q0:cM}{H:Hk}
theorem N9(aH:E.X.P.follows .mixedOrders=true)(hH:bZ E.X H)(h0:e8 E.X.P Q0):∀(n:Nat) {p:aB},Xp E r0 Q0 (xB H E.X n p)->Xp E r0 Q0 p
 |0,p,h=>by
  have h':Xp E r0 Q0 (Option.rec (motive:=λ_=>aB) p (λq=>q) (oD H E.X p)):=h
  cases hq:oD H E.X p with
  |none=>rw [hq] at h';exact h'
  |some q=>rw [hq] at h';exact aGZ aH hH h0 hq h'
 |n+1,p,h=>by
  have h':Xp E r0 Q0 (aBf (xB H E.X n) (xB H E.X n p)):=h
  rcases bD4 (xB H E.X n) (xB H E.X n p) with e|e
  ·rw [e] at h';exact N9 aH hH h0 n (N9 aH hH h0 n h')
  ·rw [e] at h';exact N9 aH hH h0 n h'
def aFN(H:Hk)(n:Nat)(p:aB):aB:=xB H Xt n (xB H Xt 0 p)
theorem aH1{w:World}{Q0:cM}(hH:bZ Xt H)(h0:e8 Xt.P Q0)(n:Nat){p:aB}(h:Xp (E0 Xt w) r0 Q0 (aFN H n p)):Xp (E0 Xt w) r0 Q0 p :=
 N9 (E:=E0 Xt w) aH hH h0 0 (N9 (E:=E0 Xt w) aH hH h0 n h)
end
def lD(w:World)(p q:aB):Prop:=∀(r0:List aF) (Q0:cM),e8 Xt.P Q0->Xp (E0 Xt w) r0 Q0 q->Xp (E0 Xt w) r0 Q0 p
theorem lD.one{H:Hk}(hH:bZ Xt H)(w:World)(n:Nat)(ls lh:List Nat){p q:aB}(h:A7 ls lh (aFN H n p)=q):lD w p q:=λ_ _ h0 hq=>aH1 hH h0 n (aDQ ls lh (h▸hq))
theorem lD.next{H:Hk}(hH:bZ Xt H)(w:World)(n:Nat)(p:aB):lD w p (aFN H n p):=λ_ _ h0 hq=>aH1 hH h0 n hq
theorem lD.trans{w:World}{p q s:aB}(h1:lD w p q)(h2:lD w q s):lD w p s:=λr0 Q0 h0 hq=>h1 r0 Q0 h0 (h2 r0 Q0 h0 hq)
theorem lD.call{w:World}{g:FuncId}{fn:Func}{c:Code}{q:aB}{res:SV}{st:St}{u:Value}(hent:entryS Xt.P g=some (fn,c))(h:lD w (W4 Xt g []) q)(hf:uQ Xt fn q=some (res,st))(hv:zD res=some u)(hg:cG Xt w):
 Calls Xt.P g #[] w λe w'=>e=.returned u∧Below w.heap.size w w':=by
 have hp:W4 Xt g []=⟨.code c,[],⟨frame [] fn.ntmps,.e,0⟩⟩:=by unfold W4;rw [hent]
 rw [hp] at h
 have:=tB (E:=E0 Xt w) (k:=[]) (r0:=[]) (vals:=[]) (args:=[]) hent ⟨[],by simp⟩ .nil (aG.start Xt w hg) rfl rfl rfl (h [] _ pC (xP (E:=E0 Xt w) (r:=[]) hf))
 exact this.mono λe w' ⟨q,v,he,hd,hm⟩=>⟨by rw [he,aDq hv hd],hm.below⟩
def H7:Hk:=cZ Xt (cT aFU) 20 14
theorem tQ:bZ Xt H7:=eH aH aNl 14
def o(x:SV):Rp SV:=.one x
def eB(n:Nat):Rp SV:=.one (.v (.int .u8 (n:Int)))
def dU(n:Nat):Rp SV:=.one (.v (.int .u32 (n:Int)))
def dJ(n:Nat):Rp SV:=.one (.v (.int .u64 (n:Int)))
def cQ(n:Nat):Rp SV:=.one (.v (.int .i64 (n:Int)))
def bF:Rp SV:=.one (.v (.bool false))
def pN:Rp SV:=.one (.v (.pointer none))
def arr(k:IntKind)(n:Nat)(l:List Nat):Rp SV:=.arr k n l
def rn{α:Type}(k:Nat)(x:α):List α:=List.replicate k x
def fM:Nat->List (Rp SV)
 |0=>[]
 |n+1=>eB 0::dU 0::dJ 0::.arr .u8 32 mE::fM n
def fO:Nat->List (Rp SV)
 |0=>[]
 |n+1=>eB 0::.arr .u8 32 mE::fO n
def aN(x:Option bD):Rp SV:=match x with
 |some x=>.q (.node x)
 |none=>.nil
def qN(x:Option bD):Rp SV:=match x with
 |some x=>.q (.nodeB x)
 |none=>.nil
def aR(x:Option aA):Rp SV:=match x with
 |some x=>.q (.rcd x)
 |none=>.nil
def aE(x:Option aJ):Rp SV:=match x with
 |some x=>.q (.ent x)
 |none=>.nil
def pk(l:List (Rp SV)):Rp SV:=cB l
def hb(T k:Nat)(c:Rp SV):Option HB:=some ⟨T,c,k⟩
def rrS(n:Nat):List uF:=List.replicate n .r
def F5:aB:=rF 15 (rrS 3) [(1,.p 2 0),(2,.p 456 0),(3,.v (.int .i64 0))] [
(2,hb 81 0 (pk ([arr .u8 32 [200,144,88,32,232,176,120,64,8,208,152,96,40,240,184,128,72,16,216,160,104,48,248,192,136,80,24,224,168,112,56,0]]))),
(6,hb 33 0 (pk ([dJ 0,dJ 0]))),
(28,hb 5 1 (pk ([qN (oY 2 0 (some cC) (some cC) (some cC) (some cC))]))),
(31,hb 242 0 (pk (rn 48 pN++[o (.p 32 0)]++rn 15 pN))),
(32,hb 312 0 (pk ([o (.v (.bool true)),o (.w 28 137),cQ 1,pN]))),
(33,hb 240 0 (pk ([o (.p 31 0)]))),
(253,hb 192 0 (pk ([eB 0,dU 0]++fM 4++fO 4++[cQ 1]++rn 5 bF++[eB 0,dU 1]++fM 4++fO 4++[cQ 1]++rn 5 bF++[eB 0,dU 2]++fM 4++fO 4++[cQ 1]++rn 5 bF++[eB 0,dU 3]++fM 4++fO 4++[cQ 1]++rn 5 bF++[eB 0,dU 4]++fM 4++fO 4++[cQ 1]++rn 5 bF++[eB 1,dU 0]++fM 4++fO 4++[cQ 1]++rn 5 bF++[eB 1,dU 1]++fM 4++fO 4++[cQ 1]++rn 5 bF++[aN (oY 2 0 (some cC) (some cC) (some cC) (some cC)),cQ 0]++rn 5 bF))),
(455,hb 35 0 (pk (rn 5 (arr .u8 0 [])++[arr .u8 32 [205,197,172,215,249,198,87,221,224,156,168,204,181,70,235,22,27,122,192,124,201,197,180,183,106,47,11,188,4,243,33,255],dJ 0,dJ 0]))),
(456,hb 160 0 (pk ([cQ 17,arr .u8 0 [],arr .u8 0 [],arr .u8 16 [183,16,213,123,118,18,156,127,89,137,156,120,38,91,68,133],arr .u8 32 [111,130,102,210,138,98,153,47,22,156,61,224,196,65,81,190,67,192,81,166,82,188,237,76,45,203,132,201,66,190,111,88],cQ 50,cQ 1,o (.s 33 0 1 1),o (.s 455 0 1 1),o (.s 6 0 2 2),dJ 0,dJ 4,dJ 4,cQ 17,o (.s 253 0 8 8),o (.v (.slice none 0 0)),bF])))] 457
def lv3:aB:=rF 15 (rrS 4) [(1,.p 2 0),(2,.p 456 0),(3,.v (.int .i64 0)),(4,.v (.int .i64 0))] [
(2,hb 81 0 (pk ([arr .u8 32 [200,144,88,32,232,176,120,64,8,208,152,96,40,240,184,128,72,16,216,160,104,48,248,192,136,80,24,224,168,112,56,0]]))),
(28,hb 5 1 (pk ([qN (oY 2 0 (some cC) (some cC) (some cC) (some cC))]))),
(32,hb 312 0 (pk ([o (.v (.bool true)),o (.w 28 137),cQ 1,pN]))),
(456,hb 160 0 (pk ([cQ 17,arr .u8 0 [],arr .u8 0 [],arr .u8 16 [183,16,213,123,118,18,156,127,89,137,156,120,38,91,68,133],arr .u8 32 [111,130,102,210,138,98,153,47,22,156,61,224,196,65,81,190,67,192,81,166,82,188,237,76,45,203,132,201,66,190,111,88],cQ 50,cQ 2,o (.s 886 0 1 1),o (.w 491 2),o (.s 502 0 2 2),dJ 4,dJ 4,dJ 4,cQ 17,o (.s 841 0 8 8),o (.s 876 0 1 1),bF]))),
(491,hb 35 1 (pk (rn 5 (arr .u8 0 [])++[arr .u8 32 [205,197,172,215,249,198,87,221,224,156,168,204,181,70,235,22,27,122,192,124,201,197,180,183,106,47,11,188,4,243,33,255],dJ 0,dJ 0]++rn 9 (arr .u8 0 [])++[arr .u8 32 [205,197,172,215,249,198,87,221,224,156,168,204,181,70,235,22,27,122,192,124,201,197,180,183,106,47,11,188,4,243,33,255],dJ 0,dJ 4]))),
(502,hb 33 0 (pk ([dJ 1,dJ 0]))),
(841,hb 192 0 (pk ([eB 0,dU 0]++fM 4++fO 4++[cQ 1]++rn 5 bF++[eB 0,dU 1]++fM 4++fO 4++[cQ 1]++rn 5 bF++[eB 0,dU 2]++fM 4++fO 4++[cQ 1]++rn 5 bF++[eB 0,dU 3]++fM 4++fO 4++[cQ 1]++rn 5 bF++[eB 0,dU 4,eB 1,dU 0,dJ 0,arr .u8 32 [80,120,193,112,198,72,195,35,134,219,184,132,8,55,49,102,208,32,195,224,176,203,254,105,238,73,199,67,151,189,64,152]]++fM 3++fO 4++[cQ 1,o (.v (.bool true)),o (.v (.bool true)),bF,bF,bF,eB 1,dU 0]++fM 4++fO 4++[cQ 1]++rn 5 bF++[eB 1,dU 1]++fM 4++[eB 1,arr .u8 32 [10,164,21,106,44,39,52,113,137,9,192,233,227,182,76,58,232,61,60,188,12,128,81,132,37,97,56,255,41,238,184,117]]++fO 3++[cQ 1,o (.v (.bool true))]++rn 4 bF++[eB 2,dU 0]++rn 4 (aR (some dG))++[aE (some cC),eB 1,arr .u8 32 [63,5,191,123,20,98,169,182,223,115,8,132,43,111,99,19,182,164,185,138,246,24,211,204,77,195,10,118,50,129,170,23],aE (some cC),aE (some cC),cQ 0,o (.v (.bool true))]++rn 4 bF))),
(876,hb 341 1 (pk (rn 4 (arr .u8 0 [])++[arr .u8 16 [183,16,213,123,118,18,156,127,89,137,156,120,38,91,68,133],dU 0,dJ 0,dU 0,dU 1]))),
(881,hb 5 1 (pk ([arr .u8 32 [96,162,175,87,194,30,138,10,73,228,180,252,167,204,11,97,48,22,169,9,166,138,235,194,0,253,177,154,56,122,184,51]]))),
(884,hb 242 0 (pk (rn 32 pN++[o (.p 885 0)]++rn 15 pN++[o (.p 32 0)]++rn 15 pN))),
(885,hb 312 0 (pk ([o (.v (.bool true)),o (.w 881 32),cQ 1,pN]))),
(886,hb 240 0 (pk ([o (.p 884 0)])))] 891
def G4:aB:=rF 15 (rrS 6) [(1,.p 2 0),(2,.p 456 0),(3,.v (.int .i64 0)),(4,.v (.int .i64 0)),(5,.v (.int .i64 0)),(6,.p 1327 0)] [
(2,hb 81 0 (pk ([arr .u8 32 [200,144,88,32,232,176,120,64,8,208,152,96,40,240,184,128,72,16,216,160,104,48,248,192,136,80,24,224,168,112,56,0]]))),
(28,hb 5 1 (pk ([qN (oY 2 0 (some cC) (some cC) (some cC) (some cC))]))),
(32,hb 312 0 (pk ([o (.v (.bool true)),o (.w 28 137),cQ 1,pN]))),
(456,hb 160 0 (pk ([cQ 17,arr .u8 0 [],arr .u8 0 [],arr .u8 16 [183,16,213,123,118,18,156,127,89,137,156,120,38,91,68,133],arr .u8 32 [111,130,102,210,138,98,153,47,22,156,61,224,196,65,81,190,67,192,81,166,82,188,237,76,45,203,132,201,66,190,111,88],cQ 50,cQ 5,o (.s 1100 0 1 1),o (.w 1106 3),o (.s 502 0 2 2),dJ 4,dJ 4,dJ 4,cQ 17,o (.s 1236 0 8 8),o (.s 876 0 1 1),bF]))),
(502,hb 33 0 (pk ([dJ 1,dJ 0]))),
(876,hb 341 1 (pk (rn 4 (arr .u8 0 [])++[arr .u8 16 [183,16,213,123,118,18,156,127,89,137,156,120,38,91,68,133],dU 0,dJ 0,dU 0,dU 1]))),
(881,hb 5 1 (pk ([arr .u8 32 [96,162,175,87,194,30,138,10,73,228,180,252,167,204,11,97,48,22,169,9,166,138,235,194,0,253,177,154,56,122,184,51]]))),
(885,hb 312 0 (pk ([o (.v (.bool true)),o (.w 881 32),cQ 1,pN]))),
(1071,hb 5 1 (pk ([qN (M9 4 (yN 1 0 0 [80,120,193,112,198,72,195,35,134,219,184,132,8,55,49,102,208,32,195,224,176,203,254,105,238,73,199,67,151,189,64,152]) (some dG) (some dG) (some dG))]))),
(1075,hb 312 0 (pk ([o (.v (.bool true)),o (.w 1071 185),cQ 1,pN]))),
(1083,hb 5 1 (pk ([qN (oY 1 1 (uG 1 [10,164,21,106,44,39,52,113,137,9,192,233,227,182,76,58,232,61,60,188,12,128,81,132,37,97,56,255,41,238,184,117]) (some cC) (some cC) (some cC))]))),
(1087,hb 312 0 (pk ([o (.v (.bool true)),o (.w 1083 137),cQ 1,pN]))),
(1095,hb 5 1 (pk ([qN (oY 2 0 (some cC) (uG 1 [63,5,191,123,20,98,169,182,223,115,8,132,43,111,99,19,182,164,185,138,246,24,211,204,77,195,10,118,50,129,170,23]) (some cC) (some cC))]))),
(1098,hb 242 0 (pk (rn 32 pN++[o (.p 885 0)]++rn 9 pN++[o (.p 1075 0),pN,pN,pN,o (.p 1087 0),pN,o (.p 32 0),o (.p 1099 0)]++rn 14 pN))),
(1099,hb 312 0 (pk ([o (.v (.bool true)),o (.w 1095 137),cQ 1,pN]))),
(1100,hb 240 0 (pk ([o (.p 1098 0)]))),
(1106,hb 35 1 (pk (rn 5 (arr .u8 0 [])++[arr .u8 32 [205,197,172,215,249,198,87,221,224,156,168,204,181,70,235,22,27,122,192,124,201,197,180,183,106,47,11,188,4,243,33,255],dJ 0,dJ 0]++rn 9 (arr .u8 0 [])++[arr .u8 32 [205,197,172,215,249,198,87,221,224,156,168,204,181,70,235,22,27,122,192,124,201,197,180,183,106,47,11,188,4,243,33,255],dJ 0,dJ 4]++rn 27 (arr .u8 0 [])++[arr .u8 32 [226,232,23,217,73,35,119,18,20,128,128,228,35,34,33,79,129,180,183,129,180,184,105,91,179,234,140,148,80,211,230,40],dJ 1,dJ 4]))),
(1236,hb 192 0 (pk ([eB 0,dU 0]++fM 4++fO 4++[cQ 1]++rn 5 bF++[eB 0,dU 1]++fM 4++fO 4++[cQ 1]++rn 5 bF++[eB 0,dU 2]++fM 4++fO 4++[cQ 1]++rn 5 bF++[eB 0,dU 3]++fM 4++fO 4++[cQ 1]++rn 5 bF++[eB 0,dU 4,eB 1,dU 0,dJ 0,arr .u8 32 [80,120,193,112,198,72,195,35,134,219,184,132,8,55,49,102,208,32,195,224,176,203,254,105,238,73,199,67,151,189,64,152]]++fM 3++fO 4++[cQ 0]++rn 5 bF++[eB 1,dU 0]++fM 4++fO 4++[cQ 1]++rn 5 bF++[eB 1,dU 1]++fM 4++[eB 1,arr .u8 32 [10,164,21,106,44,39,52,113,137,9,192,233,227,182,76,58,232,61,60,188,12,128,81,132,37,97,56,255,41,238,184,117]]++fO 3++[cQ 0]++rn 5 bF++[eB 2,dU 0]++rn 4 (aR (some dG))++[aE (some cC),eB 1,arr .u8 32 [63,5,191,123,20,98,169,182,223,115,8,132,43,111,99,19,182,164,185,138,246,24,211,204,77,195,10,118,50,129,170,23],aE (some cC),aE (some cC),cQ 1]++rn 5 bF))),
(1327,hb 85 0 (pk ([arr .u8 0 [],arr .u8 0 [],arr .u8 16 [183,16,213,123,118,18,156,127,89,137,156,120,38,91,68,133],arr .u8 32 [111,130,102,210,138,98,153,47,22,156,61,224,196,65,81,190,67,192,81,166,82,188,237,76,45,203,132,201,66,190,111,88]])))] 1328
def r8:aB:=rF 15 (rrS 7) [(1,.p 2 0),(2,.p 456 0),(3,.v (.int .i64 0)),(4,.v (.int .i64 0)),(5,.v (.int .i64 0)),(6,.p 1327 0),(7,.s 2993 0 17 17),(9,.v (.int .i64 0))] [
(2,hb 81 0 (pk ([arr .u8 32 [200,144,88,32,232,176,120,64,8,208,152,96,40,240,184,128,72,16,216,160,104,48,248,192,136,80,24,224,168,112,56,0]]))),
(28,hb 5 1 (pk ([qN (oY 2 0 (some cC) (some cC) (some cC) (some cC))]))),
(32,hb 312 0 (pk ([o (.v (.bool true)),o (.w 28 137),cQ 1,pN]))),
(456,hb 160 0 (pk ([cQ 17,arr .u8 0 [],arr .u8 0 [],arr .u8 16 [183,16,213,123,118,18,156,127,89,137,156,120,38,91,68,133],arr .u8 32 [111,130,102,210,138,98,153,47,22,156,61,224,196,65,81,190,67,192,81,166,82,188,237,76,45,203,132,201,66,190,111,88],cQ 50,cQ 5,o (.s 1100 0 1 1),o (.w 1106 3),o (.s 502 0 2 2),dJ 4,dJ 4,dJ 4,cQ 17,o (.s 1236 0 8 8),o (.s 876 0 1 1),bF]))),
(502,hb 33 0 (pk ([dJ 1,dJ 0]))),
(876,hb 341 1 (pk (rn 4 (arr .u8 0 [])++[arr .u8 16 [183,16,213,123,118,18,156,127,89,137,156,120,38,91,68,133],dU 0,dJ 0,dU 0,dU 1]))),
(881,hb 5 1 (pk ([arr .u8 32 [96,162,175,87,194,30,138,10,73,228,180,252,167,204,11,97,48,22,169,9,166,138,235,194,0,253,177,154,56,122,184,51]]))),
(885,hb 312 0 (pk ([o (.v (.bool true)),o (.w 881 32),cQ 1,pN]))),
(1071,hb 5 1 (pk ([qN (M9 4 (yN 1 0 0 [80,120,193,112,198,72,195,35,134,219,184,132,8,55,49,102,208,32,195,224,176,203,254,105,238,73,199,67,151,189,64,152]) (some dG) (some dG) (some dG))]))),
(1075,hb 312 0 (pk ([o (.v (.bool true)),o (.w 1071 185),cQ 1,pN]))),
(1083,hb 5 1 (pk ([qN (oY 1 1 (uG 1 [10,164,21,106,44,39,52,113,137,9,192,233,227,182,76,58,232,61,60,188,12,128,81,132,37,97,56,255,41,238,184,117]) (some cC) (some cC) (some cC))]))),
(1087,hb 312 0 (pk ([o (.v (.bool true)),o (.w 1083 137),cQ 1,pN]))),
(1095,hb 5 1 (pk ([qN (oY 2 0 (some cC) (uG 1 [63,5,191,123,20,98,169,182,223,115,8,132,43,111,99,19,182,164,185,138,246,24,211,204,77,195,10,118,50,129,170,23]) (some cC) (some cC))]))),
(1098,hb 242 0 (pk (rn 32 pN++[o (.p 885 0)]++rn 9 pN++[o (.p 1075 0),pN,pN,pN,o (.p 1087 0),pN,o (.p 32 0),o (.p 1099 0)]++rn 14 pN))),
(1099,hb 312 0 (pk ([o (.v (.bool true)),o (.w 1095 137),cQ 1,pN]))),
(1100,hb 240 0 (pk ([o (.p 1098 0)]))),
(1106,hb 35 1 (pk (rn 5 (arr .u8 0 [])++[arr .u8 32 [205,197,172,215,249,198,87,221,224,156,168,204,181,70,235,22,27,122,192,124,201,197,180,183,106,47,11,188,4,243,33,255],dJ 0,dJ 0]++rn 9 (arr .u8 0 [])++[arr .u8 32 [205,197,172,215,249,198,87,221,224,156,168,204,181,70,235,22,27,122,192,124,201,197,180,183,106,47,11,188,4,243,33,255],dJ 0,dJ 4]++rn 27 (arr .u8 0 [])++[arr .u8 32 [226,232,23,217,73,35,119,18,20,128,128,228,35,34,33,79,129,180,183,129,180,184,105,91,179,234,140,148,80,211,230,40],dJ 1,dJ 4]))),
(1236,hb 192 0 (pk ([eB 0,dU 0]++fM 4++fO 4++[cQ 1]++rn 5 bF++[eB 0,dU 1]++fM 4++fO 4++[cQ 1]++rn 5 bF++[eB 0,dU 2]++fM 4++fO 4++[cQ 1]++rn 5 bF++[eB 0,dU 3]++fM 4++fO 4++[cQ 1]++rn 5 bF++[eB 0,dU 4,eB 1,dU 0,dJ 0,arr .u8 32 [80,120,193,112,198,72,195,35,134,219,184,132,8,55,49,102,208,32,195,224,176,203,254,105,238,73,199,67,151,189,64,152]]++fM 3++fO 4++[cQ 0]++rn 5 bF++[eB 1,dU 0]++fM 4++fO 4++[cQ 1]++rn 5 bF++[eB 1,dU 1]++fM 4++[eB 1,arr .u8 32 [10,164,21,106,44,39,52,113,137,9,192,233,227,182,76,58,232,61,60,188,12,128,81,132,37,97,56,255,41,238,184,117]]++fO 3++[cQ 0]++rn 5 bF++[eB 2,dU 0]++rn 4 (aR (some dG))++[aE (some cC),eB 1,arr .u8 32 [63,5,191,123,20,98,169,182,223,115,8,132,43,111,99,19,182,164,185,138,246,24,211,204,77,195,10,118,50,129,170,23],aE (some cC),aE (some cC),cQ 1]++rn 5 bF))),
(1327,hb 85 0 (pk ([arr .u8 0 [],arr .u8 0 [],arr .u8 16 [183,16,213,123,118,18,156,127,89,137,156,120,38,91,68,133],arr .u8 32 [111,130,102,210,138,98,153,47,22,156,61,224,196,65,81,190,67,192,81,166,82,188,237,76,45,203,132,201,66,190,111,88]]))),
(2993,hb 81 1 (pk (rn 16 (arr .u8 32 mE)++[arr .u8 32 [200,144,88,32,232,176,120,64,8,208,152,96,40,240,184,128,72,16,216,160,104,48,248,192,136,80,24,224,168,112,56,0]])))] 2994
