/- A part of the proof of TopSealed. -/
import Derived.Test.YtjboelhcieepkaaGreatDoorVLv1
import Derived.Test.YtjboelhcieepkaaGreatDoorVLv2
import Derived.Test.YtjboelhcieepkaaGreatDoorVLv3
import Derived.Test.YtjboelhcieepkaaGreatDoorVLv4
import Derived.Test.YtjboelhcieepkaaGreatDoorVLv5
import Derived.Test.YtjboelhcieepkaaGreatDoorCards
import Derived.Test.YtjboelhcieepkaaGreatDoorTie
import Derived.Deep.DeepHandedRow
import Derived.Lib.LaidTab
import Derived.LaidHandle
noncomputable section
set_option maxRecDepth 16384
namespace Go.Proofs.YtjboelhcieepkaaGreatDoor
open Go.RowKit
theorem aUj(w:World)(hg:cG Xt w):Calls Xt.P 15 #[] w λe w'=>e=.returned (.bool true)∧Below w.heap.size w w':=by
 have he:=a2E
 unfold aLw at he
 split at he
 ·rename_i fn c hent
  cases hf:uQ Xt fn (tG H7 Xt 18 r8) with
  |none=>rw [hf] at he;cases he
  |some x =>
   obtain ⟨y,st⟩:=x
   rw [hf] at he
   simp only [Option.map_some,b6] at he
   subst he
   have hs:lD w r8 (tG H7 Xt 18 r8):=λr0 Q0 h0 hq=>K9 (E:=E0 Xt w) aH tQ h0 18 hq
   exact lD.call hent ((a2l w).trans ((a6z w).trans ((aZs w).trans ((aPg w).trans hs)))) hf rfl hg
 ·cases he
theorem aMk{w:World}{r:List aF}{hp:Tr}{k z n c:Nat}{A:Option Addr}{l:List Nat}(hm:aG (E0 Xt w) r hp k w)(ha:gM hp)(h0:0<w.heap.size)(hz:0<z)(hr:bH w w.heap.size z A n (nv .u8 l)):
 ∃L:aF,aG (E0 Xt w) (r++[L]) (hp.put k ⟨5,.arr .u8 (n*z) l,2⟩) (k+1) w∧(n=0∨A=some ⟨L.g,L.b,none⟩):=by
 have hl:l.length=n*z:=by have:=hr.1;rwa [aZ] at this
 by_cases hn:n=0
 ·subst hn
  refine ⟨⟨0,0,c,none,λ_=>False⟩,hm.addF ha _ _ _ (nv .u8 l) (.arr hl) h0 (aS _) (λj v hv=>?_),.inl rfl⟩
  rw [fA (by rw [aZ,hl];simp)] at hv
  cases hv
 ·obtain ⟨ad,rfl,hlt,hc⟩:=hr.2 (by omega)
  have hsp:ad.spot=none:=by
   have:=hc 0 _ (mL (by rw [hl];exact Nat.mul_pos (by omega) hz))
   have h2:=World.cell?_spot this
   simpa [Addr.add] using h2
  obtain ⟨g,o,s⟩:=ad
  simp only at hsp
  subst hsp
  refine ⟨⟨g,o,c,none,λ_=>False⟩,hm.addF ha _ _ _ (nv .u8 l) (.arr hl) hlt (aS _) (λj v hv=>?_),.inr rfl⟩
  have:=hc j v hv
  rwa [eX] at this
theorem aRQ{w:World}(hg:cG Xt w):0<w.heap.size:=by
 obtain ⟨vs,_,h,_⟩:=hg 0 (.arr .i64 2 [45,33]) (by kernel_rfl)
 omega
theorem a0R{w:World}(hg:cG Xt w)(bl ep ma:Nat){A A2:Option Addr}{n m c c2:Nat}{l l2:List Nat}(hr:bH w w.heap.size 2 A n (nv .u8 l))(hr2:bH w w.heap.size 1 A2 m (nv .u8 l2)):
 ∃pp sp n2 n3 r0,uS pp n n2∧uE sp m n3∧aG (E0 Xt w) r0 (o6 (kN bl ep ma l l2) n2 n3) 2 w∧aD r0 (vR (kN bl ep ma l l2) pp sp) [.int .u8 (bl:Int),.slice A n c,.slice A2 m c2,.int .u8 (ep:Int),.int .u8 (ma:Int)]:=by
 have h0:=aRQ hg
 obtain ⟨L1,hm1,hA⟩:=aMk (c:=c) (aG.start Xt w hg) gM.start h0 (by decide) hr
 obtain ⟨L2,hm2,hA2⟩:=aMk (c:=c2) hm1 (gM.start.put _ _ _) h0 (by decide) hr2
 have row:∀{pp sp:SV},aP ([]++[L1]++[L2]) pp (.slice A n c)->aP ([]++[L1]++[L2]) sp (.slice A2 m c2)->aD ([]++[L1]++[L2]) (vR (kN bl ep ma l l2) pp sp) [.int .u8 (bl:Int),.slice A n c,.slice A2 m c2,.int .u8 (ep:Int),.int .u8 (ma:Int)]:=λh1 h2 =>
  aD.cat (us:=[_]) (.one (.v _) rfl) (aD.cat (us:=[_]) (.one h1 rfl) (aD.cat (us:=[_]) (.one h2 rfl) (aD.cat (us:=[_]) (.one (.v _) rfl) (aD.cat (us:=[_]) (.one (.v _) rfl) .nil))))
 have mem:∀n2 n3,n2=n*2->n3=m*1->aG (E0 Xt w) ([]++[L1]++[L2]) (o6 (kN bl ep ma l l2) n2 n3) 2 w:=λn2 n3 e1 e2=>by
  subst e1 e2
  exact hm2
 obtain ⟨pp,hpp,dp⟩:∃pp,uS pp n (n*2)∧aP ([]++[L1]++[L2]) pp (.slice A n c):=by
  by_cases hn:n=0
  ·subst hn
   exact ⟨.v (.slice A 0 c),.inl ⟨A,c,rfl,rfl⟩,.v _⟩
  ·have e:A=some ⟨L1.g,L1.b+0,none⟩:=hA.resolve_left hn
   rw [e]
   exact ⟨.s 0 0 n c,.inr ⟨c,rfl,by omega⟩,.s (L:=L1) rfl⟩
 obtain ⟨sp,hsp,ds⟩:∃sp,uE sp m (m*1)∧aP ([]++[L1]++[L2]) sp (.slice A2 m c2):=by
  by_cases hn:m=0
  ·subst hn
   exact ⟨.v (.slice A2 0 c2),.inl ⟨A2,c2,rfl,rfl⟩,.v _⟩
  ·have e:A2=some ⟨L2.g,L2.b+0,none⟩:=hA2.resolve_left hn
   rw [e]
   exact ⟨.s 1 0 m c2,.inr ⟨c2,rfl,by omega⟩,.s (L:=L2) rfl⟩
 exact ⟨pp,sp,_,_,_,hpp,hsp,mem _ _ rfl rfl,row dp ds⟩
theorem a2k{E:bX}{nx:Nat}(hE:E.X=Xt):o4 E 15 [] [] [] nx (.v (.bool true)) []:=by
 have hent:fQ E.X.P 15:=by rw [hE];exact bB (by kernel_rfl)
 refine fV hent λr vals w1 hp ha hm=>?_
 cases ha
 rw [hE]
 refine (aUj w1 (hE▸hm.globs)).mono ?_
 rintro e w' ⟨rfl,hb⟩
 exact ⟨_,rfl,.v _,hb⟩
section
variable {w:World}{bl ep ma:Nat}{pl sl:List Nat}{pp sp:SV}{n n2 n3 lp ls:Nat}
theorem a2O(k:Nat)(hb:bl<256)(hn:n=1+bl%20)(hpp:uS pp lp n2)(hsp:uE sp ls n3):
 (aK0 k (kN bl ep ma pl sl) pp sp n2 n3 n (yS (kN bl ep ma pl sl) n lp ls) (LF (kN bl ep ma pl sl) n lp ls)).Holds (E0 Xt w):=by
 obtain ⟨x,hx⟩:∃x,x=kN bl ep ma pl sl:=⟨_,rfl⟩
 rw [<-hx]
 intro r vals w1 hp ha hm hbs
 refine ⟨λw'=>bB (by kernel_rfl) _ w',?_⟩
 have hfr:=hm.fr (ns:=[0,1]) rfl hbs
 have e:kH [0,1] [some ⟨5,.arr .u8 n2 x.pl,2⟩,some ⟨5,.arr .u8 n3 x.sl,2⟩]=o6 x n2 n3:=by kernel_rfl
 rw [e] at hfr
 cases ha with|cons d1 t =>
  cases t
  cases d1 with|a d1 =>
   have hv:aD (fI r [0,1]) (vR x pp sp) _:=aHX hpp.fix hsp.fix r _ _ (λk hk M hM=>by
    have h01:k=0∨k=1:=by omega
    rcases h01 with rfl|rfl
    ·show some ((r[0]?).getD aEw)=some M
     rw [hM];rfl
    ·show some ((r[1]?).getD aEw)=some M
     rw [hM];rfl) d1
   rw [hx] at hv hfr
   refine (a8R hb hn hpp hsp hfr hv).mono ?_
   rintro e' w' ⟨us,L,hr,rfl,hcv,hge,hcvge,hd,hbw⟩
   subst hx
   have hlen:r.length=k:=hm.len
   refine ⟨[L],_,rfl,.a (hd _ k (by rw [<-hlen];simp)),?_⟩
   refine hm.addGh rfl hbw L hge hr.hg hcvge (λj hj=>hr.hcv j (by rw [hcv];exact hj)) (t:=iC n+2) (N:=1000) ⟨?_,?_⟩
   ·have h0:=hr.hr
    rw [hcv] at h0
    exact aG0 _ _ _ _ _ _ hr.hN h0
   ·exact (B4 _ n lp ls).1
end
section
variable {w:World}{n lp ls:Nat}{x:VP}{L:List (Option aQ)}
theorem aIG(k:Nat){rt:List Nat}(h1:1≤n)(h20:n≤20)(hL:L.length=aW n)(hlen:iZ L):(b8.c (aFq k x n rt L (lN L (aW n)))).Any Xt w:=by
 intro E hE hw r vals w1 hp ha hm hbs
 have hent:fQ E.X.P 7:=by rw [hE];exact bB (by kernel_rfl)
 refine ⟨λw'=>hent _ w',?_⟩
 have hbs':[jW (hp.get 2)]=[some (C4 n L)]:=hbs
 simp only [List.cons.injEq,and_true] at hbs'
 have e3:=aAQ hbs'
 cases ha with|cons d1 t =>
  cases t
  cases d1 with|a d1 =>
   have hf:=nX d1
   cases hf with|cons g1 hf=>cases hf with|cons g2 hf=>cases hf with|cons g3 hf=>cases hf with|cons g4 hf=>cases hf with|cons g5 hf=>cases hf with|cons g6 hf=>cases hf with|cons g7 hf=>cases hf with|cons g8 hf=>cases hf with|cons g9 hf=>cases hf with|cons g10 hf =>
    cases hf
    cases g4 with|one g4 g4'=>cases g4 with|@gs _ _ c3 L3 hq3 hc3 =>
     obtain ⟨hg3,hlt3,hcv3⟩:=sZ hm hE e3 hq3
     cases g8 with|@one _ y8 g8 g8'=>cases g9 with|@one _ y9 g9 g9'=>cases g10 with|@one _ y10 g10 g10' =>
      rw [hE]
      refine (aUV (d:=⟨n,x.el,x.ml,Sh.shaF rt,some ⟨L3.g,0,none⟩,c3,.int .u64 (IntKind.u64.wrap ((x.ep:Nat):Int)),.int .u64 1000,y8,y9,y10⟩) (L:=L) h1 h20 rfl ⟨1000,L3.cv,aS _,hlt3,hcv3,hg3.1⟩ hL hlen (hE▸hm.globs) _ ?_).mono ?_
      ·exact aD.cat (g1.toV []) (aD.cat (g2.toA []) (aD.cat (g3.toA []) (aD.cat (.one (.v (.slice (some ⟨L3.g,0,none⟩) (aW n) c3)) rfl) (aD.cat (g5.toA []) (aD.cat (g6.toV []) (aD.cat (g7.toV []) (aD.cat (.one (.v _) g8') (aD.cat (.one (.v _) g9') (aD.cat (.one (.v _) g10') .nil)))))))))
      ·rintro e' w' ⟨g,c,hk,rfl,hge,hcvge,hbw⟩
       have hlen:r.length=k:=hm.len
       have hLn:(r++[(⟨g,0,0,none,hk.cv⟩:aF)])[k]?=some ⟨g,0,0,none,hk.cv⟩:=by
        rw [<-hlen];simp
       refine ⟨[⟨g,0,0,none,hk.cv⟩],_,rfl,?_,?_⟩
       ·exact .a (vs:=[.int .i64 (aW n:Int),.int .i64 (lN L (aW n)),.slice (some ⟨g,0,none⟩) 1 c]) (aD.cat (.one (.v _) rfl) (aD.cat (.one (.v _) rfl) (aD.cat (.one (.gs hLn hk.hc) rfl) .nil)))
       ·exact hm.addGh hE hbw ⟨g,0,0,none,hk.cv⟩ hge hk.hg hcvge hk.hcv (t:=1) (N:=0) hk.hd
theorem aQQ(hx:x.ep<256)(h1:1≤n)(h20:n≤20):IntKind.i64.wrap ((IntKind.u64.wrap ((x.ep:Nat):Int)).tmod 2)=((aV (E4 x n ls (num n (aO n) 0)):Nat):Int):=by
 rw [a5n h1 h20]
 unfold E4
 rw [aKl (by have:=yU h1 h20;omega)]
 have e1:IntKind.u64.wrap ((x.ep:Nat):Int)=((x.ep:Nat):Int):=by
  have hh:((x.ep:Nat):Int)<256:=by exact_mod_cast hx
  exact IntWalk.u64_in _ (by omega)
 rw [e1,aGS]
 unfold Sw
 rw [if_pos rfl]
def Bw(x:VP)(n lp ls:Nat):Nat->Bool:=BW n (kZ x n lp) (E4 x n ls)
def yZ0(x:VP)(n lp ls:Nat):Rp SV:=fL n 1000 (kZ x n lp) (aU n (kZ x n lp) (Bw x n lp ls)) (Bw x n lp ls)
def row2(x:VP)(n lp ls i:Nat)(t:Bool)(v:aA):Rp SV:=fL n i (RU i (dV t v) (kZ x n lp)) (aU n (RU i (dV t v) (kZ x n lp)) (BU n i (Bw x n lp ls))) (Bw x n lp ls)
theorem aTZ(hx:x.ep<256)(h1:1≤n)(h20:n≤20){q:Int}:
 (b8.c ⟨17,[aM n,.a (nZ n q 6),.a (oU (Sh.shaF (yS x n lp ls)) (.int .u64 (IntKind.u64.wrap ((x.ep:Nat):Int))) (.int .u64 1000))],[6],[some (fH (LF x n lp ls))],[],7,.t [.a (lG n (aT n) 7),.a oV,bM],[nB (yZ0 x n lp ls) 0]⟩).Any Xt w:=by
 intro E hE hw r vals w1 hp ha hm hbs
 have hent:fQ E.X.P 17:=by rw [hE];exact bB (by kernel_rfl)
 refine ⟨λw'=>hent _ w',?_⟩
 have hbs':[jW (hp.get 6)]=[some (fH (LF x n lp ls))]:=hbs
 simp only [List.cons.injEq,and_true] at hbs'
 have e5:=aAQ hbs'
 cases ha with|cons d1 t=>cases t with|cons d2 t=>cases t with|cons d3 t =>
  cases t
  cases d1
  cases d2 with|a d2 =>
   have hf:=nX d2
   cases hf with|cons f1 hf=>cases hf with|cons f2 hf=>cases hf with|cons f3 hf =>
    cases hf
    rw [bQ f1,bQ f2]
    cases f3 with|one f3 _=>cases f3 with|@gs _ _ c5 L5 hq5 hc5 =>
     obtain ⟨hg5,hlt5,hcv5⟩:=sZ hm hE e5 hq5
     cases d3 with|a d3 =>
      rw [hE]
      have htr:=a2M (w:=w1) (L:=LF x n lp ls) (g:=L5.g) (c0:=c5) (q:=q) (e:=IntKind.u64.wrap ((x.ep:Nat):Int)) (m:=.int .u64 1000) (R:=kZ x n lp) (B:=E4 x n ls) (dg:=Sh.shaF (yS x n lp ls)) h1 h20 (hE▸hm.globs) ⟨L5.cv,hlt5,hc5,hcv5,hg5⟩ (bEe x h1 h20) (aQQ hx h1 h20) rfl (P7 d3)
      refine htr.mono ?_
      rintro e' w' ⟨r',u,hp',nx',rfl,hd,hm',hget⟩
      cases hd with|t hd=>cases hd with|cons d1 hd=>cases hd with|cons d2 hd=>cases hd with|cons d3 hd =>
       cases hd;cases d3
       cases d1 with|a d1=>cases d1 with|node e1 e2 _ _=>cases e2 with|one e2 _=>cases e2 with|@s _ _ _ _ M hM =>
        cases d2 with|a d2=>cases d2 with|node p1 p2 _ _ =>
         obtain ⟨_,hm2⟩:=aOB hm hm' hget hM aHv
         refine ⟨[M],_,rfl,?_,hm2⟩
         have hlen:r.length=7:=hm.len
         rw [bQ e1,bQ p1,bQ p2]
         exact .t (.cons (.a (.node (us:=[.int .i64 (n:Int)]) (.one (.v _) rfl) (.one (.s (by rw [<-hlen];simp)) rfl) rfl rfl)) (.cons (.a (.node (us:=[.int .i64 0]) (.one (.v _) rfl) (.one (.v _) rfl) rfl rfl)) (.cons (.v _) .nil)))
end
section
variable {w:World}{n lp ls i:Nat}{x:VP}{t:Bool}{v:aA}{k m b:cD}
theorem aNM{r:List aF}{us:List Value}(h:aD r (yK k m) us):us=nv .u8 k.l++nv .u8 m.l:=by
 cases h with|node h1 h2 _ _=>cases h2 with|node h2 h3 _ _=>cases h3 with|node h3 h4 _ _ =>
  rw [fJ h1,fJ h2,fJ h3,fJ h4]
  rfl
theorem a0U(h1:1≤n)(h20:n≤20)(hi:i<n)(ht:nO (kZ x n lp i).s=aV t)(hk:k.n=16)(hm:m.n=32)(hb:b.n=32)(hv:v.tag=Sh.shaF (oP m.l (kE i v (eY k.l b.l v)))):
 o4 (E0 Xt w) 18 [.a (lG n (aT n) 7),.a (yK k m),aM i,.a (xJ v),.a (.arr .u8 32 b.l)] [7] [some (nB (yZ0 x n lp ls) 0)] 10 (.t [.a (lG n (aT n) 10),.a (K6 (2*i+aV t) 11),bM]) [nB (row2 x n lp ls i t v) 0,dB (k8 k.l b.l v)]:=by
 refine aS5 (E:=E0 Xt w) rfl (bB (by kernel_rfl)) aHv (aKI _) λr vals w hg ha hme=>?_
 have hm':aG (E0 Xt w) r (kH [7] [some (fG n 1000 (kZ x n lp) (aU n (kZ x n lp) (Bw x n lp ls)) (Bw x n lp ls) 0)]) 1 w:=hme
 rw [O8 h1 h20 (by decide)] at hm'
 have ha1:aX r [.a (iK n 0),.a (yK k m),aM i,.a (xJ v),.a (.arr .u8 32 b.l)] vals:=ha
 have ha':aX r [.a (iK n 0),.a (sC k m),aM i,.a (.q (.nnc v)),.a (.q (.byt b))] vals:=by
  cases ha1 with|cons d1 t=>cases t with|cons d2 t=>cases t with|cons d3 t=>cases t with|cons d4 t=>cases t with|cons d5 t =>
   cases t
   cases d2 with|a d2=>cases d4 with|a d4=>cases d5 with|a d5 =>
    rw [aNM d2,aCr d4,fJ d5]
    exact .cons d1 (.cons (.a (Z3 r)) (.cons d3 (.cons (.a (.q (.nnc v))) (.cons (.a (.q (.byt b))) .nil))))
 refine (aU5 h1 h20 hi ht hk hm hb hv ha' hm').mono ?_
 rintro e w' ⟨q,u,hp',nx',rfl,hd,hm2,hg9,hg7⟩
 cases hd with|t hd=>cases hd with|cons d1 hd=>cases hd with|cons d2 hd=>cases hd with|cons d3 hd =>
  cases hd;cases d3
  cases d1 with|a d1=>cases d1 with|node e1 e2 _ _ =>
   cases d2 with|a d2=>cases d2 with|node p1 p2 _ _ =>
    rw [bQ e1,bQ p1]
    cases e2 with|one e2 _=>cases e2 with|@s _ _ _ _ L9 hL9 =>
     cases p2 with|one p2 _=>cases p2 with|@s _ _ _ _ L7 hL7 =>
      refine ⟨_,_,_,_,9,7,L9,L7,rfl,hm2,by decide,hg9,hg7,hL9,hL7,λr2 M1 M2 h1 h2 g1 g2 b1 b2=>?_⟩
      rw [<-g1,<-g2,<-b1,<-b2]
      exact .t (.cons (.a (.node (us:=[.int .i64 (n:Int)]) (.one (.v _) rfl) (.one (.s h1) rfl) rfl rfl)) (.cons (.a (.node (us:=[.int .i64 ((2*i+aV t:Nat):Int)]) (.one (.v _) rfl) (.one (.s h2) rfl) rfl rfl)) (.cons (.v _) .nil)))
theorem aSt(h1:1≤n)(h20:n≤20)(hi:i<n):o4 (E0 Xt w) 19 [.a (lG n (aT n) 10),aM i] [10] [some (nB (row2 x n lp ls i t v) 0)] 14 (.t [.a (.q (.rcd (dV t v))),bM]) []:=by
 refine aAV (E:=E0 Xt w) rfl (bB (by kernel_rfl)) λr vals w hg ha hme=>?_
 have hm':aG (E0 Xt w) r (kH [10] [some (fG n i (RU i (dV t v) (kZ x n lp)) (aU n (RU i (dV t v) (kZ x n lp)) (BU n i (Bw x n lp ls))) (Bw x n lp ls) 0)]) 1 w:=hme
 rw [O8 h1 h20 (by decide)] at hm'
 refine (aZk h1 h20 hi (aMw h1 h20) (by exact ha) hm').mono ?_
 rintro e w' ⟨rfl,hb⟩
 exact ⟨⟨_,rfl,λr=>.t (.cons (.a (.q (.rcd (dV t v)))) (.cons (.v _) .nil))⟩,hb⟩
theorem aTF{d:cD}{s:Nat}{q:Int}{L:List (Option aQ)}(hdn:d.n=32)(hs:s<aW n)(h56:aW n≤56)(hl:L[s]?=some none):
 (b8.c ⟨25,[.a (nZ n q 31),aM s,.s 11 0 32 32],[31,11],[some (fH L),some ⟨81,.arr .u8 32 d.l,0⟩],[31],32,.t [.a (nZ n (IntKind.i64.wrap (q+1)) 32),bM],[fH (L.set s (some (.by_ d)))]⟩).Any Xt w:=by
 intro E hE hw r vals w1 hp ha hm hbs
 have hent:fQ E.X.P 25:=by rw [hE];exact bB (by kernel_rfl)
 refine ⟨λw'=>hent _ w',?_⟩
 have hbs':[jW (hp.get 31),jW (hp.get 11)]=[some (fH L),some ⟨81,.arr .u8 32 d.l,0⟩]:=hbs
 simp only [List.cons.injEq,and_true] at hbs'
 obtain ⟨e3,e5⟩:=hbs'
 have hg3:=aAQ e3
 obtain ⟨b5,hb5,eb5⟩:∃b,hp.get 11=some b∧oF b=⟨81,.arr .u8 32 d.l,0⟩:=by
  cases h5:hp.get 11 with
  |none=>rw [h5] at e5;cases e5
  |some b=>rw [h5] at e5;exact ⟨b,rfl,jR e5⟩
 obtain ⟨L5,hL5,hB5⟩:=hm.blk 11 b5 hb5
 have hB5':=Q2 hB5
 rw [eb5] at hB5'
 have hlt5:=hB5'.lt
 obtain ⟨v5,hd5,hcell5⟩:=hB5'.cells
 have hv5:v5=nv .u8 d.l:=fJ hd5
 subst hv5
 obtain ⟨mm,hmk⟩:∃mm,aW n=mm+(s+1):=⟨aW n-(s+1),by omega⟩
 cases ha with|cons d1 t=>cases t with|cons d2 t=>cases t with|cons d3 t =>
  cases t;cases d2
  cases d3 with|@s _ _ _ _ M5 hq5 =>
   rw [hL5] at hq5
   cases hq5
   cases d1 with|a d1 =>
    have hf:=nX d1
    cases hf with|cons p1 hf=>cases hf with|cons p2 hf=>cases hf with|cons p3 hf =>
     cases hf
     cases p3 with|one p3 _=>cases p3 with|@gs _ _ c3 L3 hq3 hc3 =>
      obtain ⟨hd,hg3l,hcv3⟩:=sZ hm hE hg3 hq3
      rw [bQ p1,bQ p2,hE]
      have hcall:=aM4 s mm 32 (by omega) (.inl rfl) w1 (hE▸hm.globs) L3.g c3 hc3 hg3l L3.cv hcv3 L hd hl (.by_ d) hdn L5.g (L5.b+0) 32 (aS _) ⟨by rw [aZ];show d.l.length=32*1;rw [d.hl,hdn],λ_=>⟨_,rfl,hlt5,λj u hu=>by rw [eX];exact hcell5 j u hu⟩⟩ q
      rw [<-hmk] at hcall
      refine hcall.mono ?_
      rintro e w' ⟨g',hge,hlt,rfl,hdk,hb⟩
      have hm1:=hm.del 31
      have hown3:∀j,L3.cv j->E.w0.heap.size≤j∧∀(i:Nat) (c:HB) (M:aF),(hp.del 31).get i=some c->r[i]?=some M->¬ gJ c M j:=by
       intro j hj
       obtain ⟨L3',hL3',vs3,_,hc3'⟩:=hm.blk 31 _ hg3
       rw [hq3] at hL3';cases hL3'
       refine ⟨?_,λi c M hc hM hcov=>?_⟩
       ·rcases hc3' with ⟨h,_⟩|⟨h,_⟩|⟨_,_,_,h4⟩
        ·cases h
        ·cases h
        ·obtain ⟨t',N',l',_,h5,_⟩:=h4.2.2.2 rfl
         exact (h5 j hj).2
       ·rw [bC.get_del] at hc
        by_cases hi3:i=31
        ·rw [if_pos hi3] at hc;cases hc
        ·rw [if_neg hi3] at hc
         exact hm.sep 31 i _ c L3 M hg3 hc (λh=>hi3 h.symm) (by show ¬ 8=2;decide) hq3 hM j (.inr ⟨rfl,hj⟩) hcov
      have hlen:r.length=32:=hm.len
      refine ⟨[⟨g',0,0,none,λj=>L3.cv j∨(w1.heap.size≤j∧j<w'.heap.size)⟩],_,rfl,?_,?_⟩
      ·have hLn:(r++[(⟨g',0,0,none,λj=>L3.cv j∨(w1.heap.size≤j∧j<w'.heap.size)⟩:aF)])[32]?=some ⟨g',0,0,none,λj=>L3.cv j∨(w1.heap.size≤j∧j<w'.heap.size)⟩:=by rw [<-hlen];simp
       exact .t (.cons (.a (vs:=[.int .i64 (aW n:Int),.int .i64 (IntKind.i64.wrap (q+1)),.slice (some ⟨g',0,none⟩) 1 1]) (aD.cat (.one (.v _) rfl) (aD.cat (.one (.v _) rfl) (aD.cat (.one (.gs hLn (aS 1)) rfl) .nil)))) (.cons (.v _) .nil))
      ·have hw1:E.w0.heap.size≤w1.heap.size:=hm.below.size
       refine hm1.addO hb ⟨g',0,0,none,λj=>L3.cv j∨(w1.heap.size≤j∧j<w'.heap.size)⟩ (fH (L.set s (some (.by_ d)))) (λj hj=>?_) ⟨[],.q (.gh 1 0 _),.inr (.inr ⟨by show 2≤8;decide,hlt,λj v hv=>by simp at hv,⟨λh=>absurd h (by show ¬ 8=5;decide),λh=>absurd h (by show ¬ 8=6;decide),λ_=>bI hw1 hge,λ_=>⟨1,0,_,rfl,λj hj=>?_,by rw [hE];exact hdk⟩⟩⟩)⟩ (.inr (by show 5≤8;decide))
       ·rcases hj with rfl|⟨_,hj|hj⟩
        ·exact .inl hge
        ·exact .inr ⟨λhu=>hm.far 31 _ L3 hg3 (.inr (by show 5≤8;decide)) hq3 j (.inr ⟨rfl,hj⟩) hu,(hown3 j hj).2⟩
        ·exact .inl hj.1
       ·rcases hj with hj|hj
        ·exact ⟨eQ (hcv3 j hj) hb.size,(hown3 j hj).1⟩
        ·exact ⟨hj.2,bI hw1 hj.1⟩
theorem a4j{d:cD}{q:Int}{L:List (Option aQ)}(h1:1≤n)(h20:n≤20)(hi:i<n)(hk:k.n=16)(hm:m.n=32)(hb:b.n=32)(hd:d=k8 k.l b.l v)(hL:L[2*i+aV t]?=some (some (.by_ d)))(hv:v.tag=Sh.shaF (oP m.l (kE i v d.l))):
 o4 (E0 Xt w) 26 [aM n,.a (nZ n q 32),.a (yK k m),aM i,.a (.q (.rcd (dV t v)))] [32] [some (fH L)] 34 (.t [.a (.q (.byt b)),.a oV,bM]) []:=by
 intro r vals w1 hp ha hme hbs
 refine ⟨λw'=>bB (by kernel_rfl) _ w',?_⟩
 have hbs':[jW (hp.get 32)]=[some (fH L)]:=hbs
 simp only [List.cons.injEq,and_true] at hbs'
 have e5:=aAQ hbs'
 have hdn:d.n=32:=by rw [hd];rfl
 have hdl:d.l=eY k.l b.l v:=by rw [hd];rfl
 cases ha with|cons d1 t=>cases t with|cons d2 t=>cases t with|cons d3 t=>cases t with|cons d4 t=>cases t with|cons d5 t =>
  cases t;cases d1;cases d4
  cases d3 with|a d3=>cases d5 with|a d5 =>
   rw [aNM d3]
   cases d5
   cases d2 with|a d2 =>
    have hf:=nX d2
    cases hf with|cons f1 hf=>cases hf with|cons f2 hf=>cases hf with|cons f3 hf =>
     cases hf
     rw [bQ f1,bQ f2]
     cases f3 with|one f3 _=>cases f3 with|@gs _ _ c5 L5 hq5 hc5 =>
      obtain ⟨hg5,hlt5,hcv5⟩:=sZ hme rfl e5 hq5
      refine (a7O (w:=w1) (q:=q) (L:=L) h1 h20 hi hme.globs hk hm hdn ⟨L5.cv,hlt5,hc5,hcv5,hg5⟩ hL hv).mono ?_
      rintro e' w' ⟨rfl,hbw⟩
      rw [hdl,aVK (by rw [b.hl,hb]) b.hb]
      refine ⟨[],_,rfl,?_,by have:=hme.grow hbw;rw [eC];exact this⟩
      exact .t (.cons (.a (.q (.byt b))) (.cons (.a (.node (us:=[.int .i64 0]) (.one (.v _) rfl) (.one (.v _) rfl) rfl rfl)) (.cons (.v _) .nil)))
end
theorem aMn{x:VP}{n lp k:Nat}(hk:k<iC n):∀m,(∀i,i<m->lL x lp i->k≠2*i+(gA x i%3-1))->(Lv x n lp m)[k]?=some none
 |0,_=>by
  show (qQ (iC n))[k]?=_
  rw [C9,List.getElem?_replicate,if_pos hk]
 |m+1,h=>by
  have ih:=aMn hk m λi hi=>h i (by omega)
  show (if lL x lp m then (Lv x n lp m).set (2*m+(gA x m%3-1)) _ else Lv x n lp m)[k]?=_
  by_cases hr:lL x lp m
  ·rw [if_pos hr,List.getElem?_set_ne (λe=>h m (by omega) hr e.symm)]
   exact ih
  ·rw [if_neg hr]
   exact ih
theorem aYs{x:VP}{n lp i:Nat}(hi:i<n):kZ x n lp i=Rv x lp i:=by
 show ((List.range n).map (Rv x lp)).getD i dG=_
 rw [cP,jC,rJ hi]
 rfl
theorem aHN{n k:Nat}{R:Nat->aA}{S:Nat->Bool}{L:List (Option aQ)}(h:k<2*n):∀m,(uO n R S L m)[k]?=L[k]?
 |0=>rfl
 |m+1=>(aGx (.inl (eQ h (by unfold jE;omega)))).trans (aHN h m)
theorem bBK{x:VP}{n lp ls i:Nat}{t:Bool}(h1:1≤n)(h20:n≤20)(hi:i<n)(ht:nO (kZ x n lp i).s=aV t):(LF x n lp ls)[2*i+aV t]?=some none:=by
 have hb:=vE t
 unfold LF
 rw [aHN (by omega)]
 refine aMn (by show _<aW n;unfold aW;have:=yU h1 h20;omega) n λj hj hr e=>?_
 have hji:j=i:=by omega
 subst hji
 rw [aYs hi] at ht
 have hs:(Rv x lp j).s=gA x j%3:=by
  unfold Rv
  rw [dif_pos ⟨hr,by omega⟩]
 rw [hs] at ht
 have h0:0<gA x j%3:=hr.2
 have h3:gA x j%3=1∨gA x j%3=2:=by omega
 rcases h3 with h3|h3
 ·rw [h3] at ht e
  have:aV t=1:=ht.symm
  omega
 ·rw [h3] at ht e
  have:aV t=0:=ht.symm
  omega
theorem bDZ(s:Nat):∃t:Bool,nO s=aV t:=by
 unfold nO
 split
 ·exact ⟨true,rfl⟩
 ·exact ⟨false,rfl⟩
theorem aPL{bl n:Nat}(hb:bl<256):iI bl n=((bl%(n+1):Nat):Int):=by
 unfold iI
 rw [show IntKind.i64.wrap (Int.ofNat bl)=((bl:Nat):Int) from IntWalk.i64_in _ (by have:(Int.ofNat bl)=(bl:Int):=rfl;omega)]
 rfl
def qE(sh c:Nat)(hsh:sh<4294967296)(hc:c<18446744073709551616)(l:List Nat):aA:=⟨1,sh,c,Sh.shaF l,by omega,λh=>by omega,hsh,hc,pS l,rK l⟩
section
variable {sh c i:Nat}{hsh:sh<4294967296}{hc:c<18446744073709551616}{l k b d:List Nat}
theorem aPU:(qE sh c hsh hc l).tag=Sh.shaF l:=rfl
theorem aZj:kE i (qE sh c hsh hc l) d=kE i (qE sh c hsh hc []) d:=by simp only [kE,aA.nncB,qE]
theorem aVX:eY k b (qE sh c hsh hc l)=eY k b (qE sh c hsh hc []):=by simp only [eY,T4,ksV,qE]
end
theorem aZZ(f:Nat->Nat)(a b c:List Nat):aBC f a b c=wB f (a++(b++c)):=by
 unfold aBC wB
 rw [List.append_assoc,List.append_assoc]
section
variable {w:World}{n lp ls i:Nat}{x:VP}{t:Bool}{v:aA}{b:cD}
def J6(x:VP)(n lp ls i:Nat)(t:Bool)(v:aA)(b:cD):pF:=⟨n,aT n,i,2*i+aV t,yS x n lp ls,LF x n lp ls,(LF x n lp ls).set (2*i+aV t) (some (.by_ (k8 x.el b.l v))),lN (LF x n lp ls) (aW n),IntKind.i64.wrap (lN (LF x n lp ls) (aW n)+1),yZ0 x n lp ls,row2 x n lp ls i t v⟩
theorem a4S(h1:1≤n)(h20:n≤20)(hi:i<n)(hb:b.n=32)(ht:nO (kZ x n lp i).s=aV t)(hv:v.tag=Sh.shaF (oP x.ml (kE i v (eY x.el b.l v)))):
 ∀ob∈tsO (J6 x n lp ls i t v b) x v b (k8 x.el b.l v) t,ob.Holds (E0 Xt w):=by
 have h56:=aAl h1 h20
 have hs:2*i+aV t<(LF x n lp ls).length:=by
  rw [(B4 x n lp ls).1]
  have:=vE t
  have:=yU h1 h20
  unfold aW
  omega
 intro ob hob
 simp only [tsO,J6,bG,cK,or_false] at hob
 rcases hob with rfl|rfl|rfl|rfl|rfl|rfl|rfl
 ·rw [show mK (yZ0 x n lp ls)=yZ0 x n lp ls from (aA6 h1 h20 []).1]
  exact a0U (k:=⟨x.el,16,x.he,x.heb⟩) (m:=⟨x.ml,32,x.hm,x.hmb⟩) h1 h20 hi ht rfl rfl hb hv
 ·rw [show mK (row2 x n lp ls i t v)=row2 x n lp ls i t v from (aA6 h1 h20 []).1]
  exact aSt h1 h20 hi
 ·refine fV (E:=E0 Xt w) (bB (by kernel_rfl)) λr vals w1 hp ha hm'=>?_
  cases ha with|cons d1 t=>cases t with|cons d2 t=>cases t with|cons d3 t =>
   cases t;cases d1;cases d2;cases d3
   refine (aBR h1 h20 hi hm'.globs).mono ?_
   rintro e w' ⟨rfl,hbw⟩
   exact ⟨_,rfl,.t (.cons (.v _) (.cons (.v _) .nil)),hbw⟩
 ·exact a4j (k:=⟨x.el,16,x.he,x.heb⟩) (m:=⟨x.ml,32,x.hm,x.hmb⟩) h1 h20 hi rfl rfl hb rfl (List.getElem?_set_self hs) hv
 ·show ((((2*i+aV t:Nat):Int))==((2*i+aV t:Nat):Int))=true
  simp
 ·rfl
 ·exact a2k rfl
theorem aQP{f:Nat->Nat}(hx:x.ep<256)(h1:1≤n)(h20:n≤20)(hi:i<n)(ht:nO (kZ x n lp i).s=aV t)(hf:∀m,wB f m=oP x.ml m)(hv:v.tag=Sh.shaF (oP x.ml (kE i v (eY x.el b.l v)))):
 ∀ob∈tsY (J6 x n lp ls i t v b) x f v b (k8 x.el b.l v) t,ob.Any Xt w:=by
 have h56:=aAl h1 h20
 have hs:2*i+aV t<aW n:=by
  have:=vE t
  have:=yU h1 h20
  unfold aW
  omega
 intro ob hob
 simp only [tsY,J6,bG,cK,or_false] at hob
 rcases hob with rfl|rfl|rfl|rfl|rfl|rfl|rfl
 ·exact aTZ hx h1 h20
 ·exact aIG 6 h1 h20 (B4 x n lp ls).1 (B4 x n lp ls).2
 ·show (!(decide (v.tag=Sh.shaF (aBC f (Sh.beB (i%4294967296%18446744073709551616) 4) v.nncB (eY x.el b.l v)))&&true))=false
  rw [aZZ,hf,hv]
  have:kE i v (eY x.el b.l v)=Sh.beB (i%4294967296%18446744073709551616) 4++(v.nncB++eY x.el b.l v):=rfl
  rw [this]
  simp
 ·rfl
 ·show (!((kB (eY x.el b.l v)).toList==(kB (eY x.el b.l v)).toList))=false
  simp
 ·exact aTF rfl hs h56 (bBK h1 h20 hi ht)
 ·exact aIG 31 h1 h20 (B4 x n lp ls).1 (B4 x n lp ls).2
end
theorem aX1{w:World}{Q0:cM}{pe:aB}(ls ns:List Nat)(B:Nat)(hk:oT pe.k=true)(hq:Xp (E0 Xt w) [] Q0 (nJ ls ns B pe)):Xp (E0 Xt w) [] Q0 pe:=by
 have h4:Xp (E0 Xt w) [] Q0 (C2 ns pe):=aEn ls ns B hk hq
 intro r vs w' Q hr hs hm hk
 exact h4 r vs w' Q hr hs (aA2 hm ns) hk
theorem aQM{bl ep ma blk sh c:Nat}(hb:bl<256)(he:ep<256)(hblk:blk<256)(hsh:sh<4294967296)(hc:c<18446744073709551616)(b:cD)(hbn:b.n=32)(A:Option Addr)(m c1:Nat)(l:List Nat){w:World}(hr:bH w w.heap.size 2 A m (nv .u8 l))(A2:Option Addr)(m2 c2:Nat)(l2:List Nat)(hr2:bH w w.heap.size 1 A2 m2 (nv .u8 l2))(hg:cG Xt w):
 Calls Xt.P 4 #[.agg #[.int .u8 (bl:Int),.slice A m c1,.slice A2 m2 c2,.int .u8 (ep:Int),.int .u8 (ma:Int)],.int .u8 (blk:Int),.agg (([.int .u32 (sh:Int),.int .u64 (c:Int)]:List Value)++nv .u8 b.l).toArray] w λe w'=>e=.returned (.bool true)∧Below w.heap.size w w':=by
 obtain ⟨n0,hn0⟩:∃n0,n0=bl%20:=⟨_,rfl⟩
 have h1:1≤n0+1:=by omega
 have h20:n0+1≤20:=by omega
 obtain ⟨i,hie⟩:∃i,i=blk%(n0+1):=⟨_,rfl⟩
 have hi:i<n0+1:=by rw [hie];exact Nat.mod_lt _ (by omega)
 obtain ⟨pp,sp,n2,n3,r0,hpp,hsp,hm,hvR⟩:=a0R (c:=c1) (c2:=c2) hg bl ep ma hr hr2
 have hof:=a2O (w:=w) (bl:=bl) (ep:=ep) (ma:=ma) (pl:=l) (sl:=l2) (n:=n0+1) 4 hb (by omega) hpp hsp
 obtain ⟨x,hx⟩:∃x,x=kN bl ep ma l l2:=⟨_,rfl⟩
 have hxe:x.ep<256:=by rw [hx];exact he
 have hxml:x.ml=(jL 32 (λj=>x.ml.getD j 0) (pB x.hmb)).l:=(H5 x.hm).symm
 rw [<-hx] at hm hvR hof
 obtain ⟨T,hT⟩:∃T,T=oP x.ml (kE i (qE sh c hsh hc []) (eY x.el b.l (qE sh c hsh hc []))):=⟨_,rfl⟩
 obtain ⟨v,hve⟩:∃v,v=qE sh c hsh hc T:=⟨_,rfl⟩
 have hv:v.tag=Sh.shaF (oP x.ml (kE i v (eY x.el b.l v))):=by rw [hve,aPU,aZj,aVX,<-hT]
 have hvn:v.nnc=[.int .u32 (sh:Int),.int .u64 (c:Int)]:=by rw [hve];rfl
 clear hve hT
 obtain ⟨t,ht⟩:=bDZ (kZ x (n0+1) m i).s
 have hobs:=a4S (w:=w) (ls:=m2) (b:=b) h1 h20 hi hbn ht hv
 have hoby:=aQP (w:=w) (ls:=m2) (b:=b) (f:=λj=>x.ml.getD j 0) hxe h1 h20 hi ht (λm=>rfl) hv
 obtain ⟨a,haa⟩:∃a,a=J6 x (n0+1) m m2 i t v b:=⟨_,rfl⟩
 obtain ⟨d,hdd⟩:∃d,d=k8 x.el b.l v:=⟨_,rfl⟩
 have hdn:d.n=32:=by rw [hdd];rfl
 have han:a.n=n0+1:=by rw [haa];rfl
 have hart:a.rt=yS x (n0+1) m m2:=by rw [haa];rfl
 have haL:a.L=LF x (n0+1) m m2:=by rw [haa];rfl
 have hai:a.i=i:=by rw [haa];rfl
 rw [<-haa,<-hdd] at hobs hoby
 rw [<-hart,<-haL] at hof
 clear haa hdd hart haL hv ht
 obtain ⟨bb,bn,hbl,hbb⟩:=b
 obtain ⟨dl,dn,hdl,hdb⟩:=d
 simp only at hbn hdn
 subst hbn hdn
 have hseg:=a5O x pp sp n2 n3 blk v bb hbl hbb n0 a.rt a.L
 rw [aPL hblk,<-hie] at hseg
 have hrun:=cW (a2T a x.bl x.ep x.ma x.pl x.sl x.el x.he x.heb (λj=>x.ml.getD j 0) (pB x.hmb) v bb dl hbl hbb hdl hdb) (show t∈[false,true] by cases t<;>simp)
 have hxx:(⟨x.bl,x.ep,x.ma,x.pl,x.sl,x.el,(jL 32 (λj=>x.ml.getD j 0) (pB x.hmb)).l,x.he,x.heb,(jL 32 (λj=>x.ml.getD j 0) (pB x.hmb)).hl,(jL 32 (λj=>x.ml.getD j 0) (pB x.hmb)).hb⟩:VP)=x:=by
  obtain ⟨a1,a2,a3,a4,a5,a6,a7,a8,a9,a10,a11⟩:=x
  have key:∀(l':List Nat) (h1:l'.length=32) (h2:Sh.Byt l'),l'=a7->VP.mk a1 a2 a3 a4 a5 a6 l' a8 a9 h1 h2=VP.mk a1 a2 a3 a4 a5 a6 a7 a8 a9 a10 a11:=by
   rintro l' h1 h2 rfl
   rfl
  exact key _ _ _ (H5 a10)
 rw [hxx,han,hai] at hrun
 unfold tsG at hrun
 obtain ⟨y,hy,hy2⟩:=dE.1 hrun
 simp only [cH] at hy2
 obtain ⟨e1,e2⟩:=hy2
 obtain ⟨⟨res,st⟩,hfin,heq⟩:=dE.1 e1
 simp only at heq
 subst heq
 have hS:∀Q0:cM,e8 Xt.P Q0->Xp (E0 Xt w) [] Q0 y.1->Xp (E0 Xt w) [] Q0 (ts0 x pp sp n2 n3 blk v ⟨bb,32,hbl,hbb⟩):=by
  intro Q0 h0 hq
  have hq2:=aRA (w:=w) h0 (a:=a) (q:=y.1) (obs:=y.2.1) (oby:=y.2.2) hy (λob hob=>hobs ob (by rw [e2] at hob;exact hob)) (λob hob=>hoby ob (by rw [e2] at hob;exact hob)) hq
  unfold goC at hseg
  simp only [cH] at hseg
  obtain ⟨s1,s2,s3⟩:=hseg
  refine jG (S:=⟨[],[32],0⟩) (E:=E0 Xt w) aH rP h0 12 [.c [0,1] (λk=>.a (S8 x (n0+1) k a.rt)) [C4 (n0+1) a.L]] (λob hob=>?_) (aX1 [5,7,8] [3,5,4] 1000 s3 ?_)
  ·have hob':ob∈(ts1 x pp sp n2 n3 blk v ⟨bb,32,hbl,hbb⟩ (n0+1) a.rt a.L).2:=hob
   rw [s2] at hob'
   simp only [bG,cK,or_false] at hob'
   subst hob'
   exact hof
  ·show Xp (E0 Xt w) [] Q0 (nJ [5,7,8] [3,5,4] 1000 (ts1 x pp sp n2 n3 blk v ⟨bb,32,hbl,hbb⟩ (n0+1) a.rt a.L).1)
   rw [s1]
   exact hq2
 cases hent:entryS Xt.P 4 with
 |none=>unfold dS at hfin;rw [hent] at hfin;cases hfin
 |some fc =>
  obtain ⟨fn,cd⟩:=fc
  have hpos:ts0 x pp sp n2 n3 blk v ⟨bb,32,hbl,hbb⟩=⟨.code cd,[],⟨frame [.a (vR x pp sp),.v (.int .u8 (.ofNat blk)),.a (aCo v ⟨bb,32,hbl,hbb⟩)] fn.ntmps,o6 x n2 n3,2⟩⟩:=by unfold ts0 eA;rw [hent]
  rw [hpos] at hS
  unfold dS at hfin
  rw [hent] at hfin
  have hxx:=hS _ pC (xP (E:=E0 Xt w) (r:=[]) hfin)
  have hsea:aD r0 (aCo v ⟨bb,32,hbl,hbb⟩) (([.int .u32 (sh:Int),.int .u64 (c:Int)]:List Value)++nv .u8 bb):=by
   have:=aD.cat (aD.q (r:=r0) (.nnc v)) (aD.cat (.q (.byt ⟨bb,32,hbl,hbb⟩)) (.nil (r:=r0)))
   rw [eC] at this
   rw [<-hvn]
   exact this
  refine (tB (E:=E0 Xt w) (k:=[]) (r0:=[]) (r:=r0) (vals:=[.agg #[.int .u8 (bl:Int),.slice A m c1,.slice A2 m2 c2,.int .u8 (ep:Int),.int .u8 (ma:Int)],.int .u8 (blk:Int),.agg (([.int .u32 (sh:Int),.int .u64 (c:Int)]:List Value)++nv .u8 bb).toArray]) hent ⟨r0,rfl⟩ (.cons (.a hvR) (.cons (.v _) (.cons (.a hsea) .nil))) hm rfl rfl rfl hxx).mono ?_
  rintro e w' ⟨r,u,rfl,hd,hm'⟩
  cases hd
  exact ⟨rfl,hm'.below⟩
end Go.Proofs.YtjboelhcieepkaaGreatDoor
namespace Go.Proofs.YtjboelhcieepkaaGreatDoor
open Go.ChangeShapes Go.WideShapes Go.ChangeAt Go.RowKit Sh
theorem bCm:ownKnob Tryz.prog.godebug=none:=by kernel_rfl
theorem gI : Tryz.prog.globalNamed "caisson/digests.initial" = some 1 := by kernel_rfl
theorem gC : Tryz.prog.globalNamed "caisson/digests.constants" = some 2 := by kernel_rfl
theorem gIt:(Tryz.prog.globals[1]?).map (·.type)=some 71:=by kernel_rfl
theorem gCt:(Tryz.prog.globals[2]?).map (·.type)=some 243:=by kernel_rfl
def yY(l:List Nat):List Int:=l.map λx:Nat=>(x:Int)
theorem a04:(Rows.laid_caisson_digests_initial:DataW Unit)=Lib.tabData .u32 (yY hL):=by kernel_rfl
theorem aQy:(Rows.laid_caisson_digests_constants:DataW Unit)=Lib.tabData .u32 (yY kL):=by kernel_rfl
theorem aR0{P:Program}{W:World}{n1:String}{d1:DataW Unit}{name:String}{k:IntKind}{zs:List Int}{rest:List (String×DataW Unit)}{g:Nat}{t e:TypeId}{n:Nat}
 (hg:P.globalNamed name=some g) (hty:(P.globals[g]?).map (·.type)=some t) (ht:P.underlying t=some (.array n e)) (he:P.underlying e=some (.int k)) (hce:P.cellsOf e=1) (hct:P.cellsOf t=n)
 (h:laidMet P ((n1,d1)::(name,Lib.tabData k zs)::rest) W):Lib.TabIs P W name k zs:=by
 obtain ⟨ps,⟨_,_,_,_,_,q1,_,_,_,_,⟨g',t',cs,fuel,p,q,hg',ht',hvar,hd,_,_⟩,_⟩,_⟩:=h
 obtain rfl:=jR (hg.symm.trans hg')
 obtain rfl:=jR (hty.symm.trans ht')
 unfold Lib.TabIs
 rw [hvar,<-Lib.cells_of_tab ht he hce hct hd]
theorem gS : Tryz.prog.globalNamed "caisson/nodes.sizes" = some 0 := by kernel_rfl
theorem gSt:(Tryz.prog.globals[0]?).map (·.type)=some 140:=by kernel_rfl
theorem aXM:(Rows.laid_caisson_nodes_sizes:DataW Unit)=Lib.tabData .i64 (yY [45,33]):=by kernel_rfl
theorem a6t{P:Program}{W:World}{n1 n2:String}{d1 d2:DataW Unit}{name:String}{k:IntKind}{zs:List Int}{rest:List (String×DataW Unit)}{g:Nat}{t e:TypeId}{n:Nat}
 (hg:P.globalNamed name=some g) (hty:(P.globals[g]?).map (·.type)=some t) (ht:P.underlying t=some (.array n e)) (he:P.underlying e=some (.int k)) (hce:P.cellsOf e=1) (hct:P.cellsOf t=n)
 (h:laidMet P ((n1,d1)::(n2,d2)::(name,Lib.tabData k zs)::rest) W):Lib.TabIs P W name k zs:=by
 obtain ⟨ps,⟨_,_,_,_,_,q1,_,_,_,_,⟨_,_,_,_,_,q2,_,_,_,_,⟨g',t',cs,fuel,p,q,hg',ht',hvar,hd,_,_⟩,_⟩,_⟩,_⟩:=h
 obtain rfl:=jR (hg.symm.trans hg')
 obtain rfl:=jR (hty.symm.trans ht')
 unfold Lib.TabIs
 rw [hvar,<-Lib.cells_of_tab ht he hce hct hd]
theorem aGq{W:World}{name:String}{k:IntKind}{l:List Nat}{g:Nat}(h:Lib.TabIs Tryz.prog W name k (yY l))(hg:Tryz.prog.globalNamed name=some g):∀j v,(nv k l)[j]?=some v->W.cell? ⟨g,j,none⟩=some v:=λj v hv=>by
 have hj:j<l.length:=by
  rcases Nat.lt_or_ge j l.length with h0|h0
  ·exact h0
  ·rw [fA (by rw [aZ];exact h0)] at hv;cases hv
 have hc:=h.cell hg j (by simpa [yY] using hj)
 rw [mL hj] at hv
 injection hv with hv
 subst hv
 rw [hc]
 simp [yY,hj]
def laid5 : List (String × DataW Unit) := [("caisson/digests.initial", Rows.laid_caisson_digests_initial), ("caisson/digests.constants", Rows.laid_caisson_digests_constants), ("errors.errorType", Rows.laid_errors_errorType), ("caisson/nodes.sizes", Rows.laid_caisson_nodes_sizes), ("caisson/stores.errPoison", Rows.laid_caisson_stores_errPoison)]
theorem bAS{W:World}(h:laidMetH Tryz.prog laid5 W):cG Xt W:=by
 have h' : laidMet Tryz.prog [("caisson/digests.initial", Rows.laid_caisson_digests_initial), ("caisson/digests.constants", Rows.laid_caisson_digests_constants), ("caisson/nodes.sizes", Rows.laid_caisson_nodes_sizes), ("caisson/stores.errPoison", Rows.laid_caisson_stores_errPoison)] W ∧ handlesMet Tryz.prog [("errors.errorType", Rows.laid_errors_errorType)] W := h
 have h0:=h'.1
 rw [a04,aQy,aXM] at h0
 have hI:=aGq (Lib.tabIs_of_head (e:=57) (n:=8) gI gIt (by kernel_rfl) (by kernel_rfl) (by kernel_rfl) (by kernel_rfl) h0) gI
 have hC:=aGq (aR0 (e:=57) (n:=64) gC gCt (by kernel_rfl) (by kernel_rfl) (by kernel_rfl) (by kernel_rfl) h0) gC
 have hS:=aGq (a6t (e:=3) (n:=2) gS gSt (by kernel_rfl) (by kernel_rfl) (by kernel_rfl) (by kernel_rfl) h0) gS
 intro g cs hg
 have hg':Gt g=some cs:=hg
 unfold Gt at hg'
 have lt:∀{k:IntKind} {l:List Nat} {n g:Nat},l.length=n->0<n->(∀j v,(nv k l)[j]?=some v->W.cell? ⟨g,j,none⟩=some v)->∃vs,aD [] (.arr k n l) vs∧g<W.heap.size∧∀j v,vs[j]?=some v->W.cell? ⟨g,j,none⟩=some v:=λ{k l n g} hl hn hc =>
  ⟨nv k l,.arr hl,World.block_lt_of_cell? W _ (hc 0 _ (mL (by omega))),hc⟩
 rw [bE,bE,bE] at hg'
 by_cases e1:g=0
 ·subst e1
  simp only [decide_true,cond_true,b6] at hg'
  subst hg'
  exact lt rfl (by decide) hS
 ·simp only [e1,decide_false,cond_false] at hg'
  by_cases e2:g=2
  ·subst e2
   simp only [decide_true,cond_true,b6] at hg'
   subst hg'
   exact lt rfl (by decide) hC
  ·simp only [e2,decide_false,cond_false] at hg'
   by_cases e3:g=1
   ·subst e3
    simp only [decide_true,cond_true,b6] at hg'
    subst hg'
    exact lt rfl (by decide) hI
   ·simp [e3] at hg'
def a2n:ByteArray:=⟨#[116,104,101,32,115,116,111,114,101,32,105,115,32,112,111,105,115,111,110,101,100]⟩
def U8(c:Array Value):Obj->Obj
 | .cells _ t frozen=>.cells c t frozen
 |o=>o
def aJl(os:Os):World:=World.holding Tryz.prog os ⟨#[.cells #[.string a2n] 493],#[],[]⟩
def a9s:Nat:=(World.holding Tryz.prog default ⟨#[],#[],[]⟩).heap.size
def aEG(os:Os):World :=
 { aJl os with heap:=(((((aJl os).heap.modify 1 (U8 (va .u32 hL))).modify 2 (U8 (va .u32 kL))).modify 0 (U8 (va .i64 [45,33]))).modify 4 (U8 #[.iface 441 (.agg #[typeHandle Tryz.prog 252])])).modify 3 (U8 #[.iface 473 (.pointer (some ⟨a9s,0,none⟩))]) }
theorem a0N(os:Os)(args:Array Value):laidMetH Tryz.prog laid5 ((aEG os).forCall (λ_ _=>0) ⟨#[],args,[]⟩).memory :=
 laidMetH_of_parts (laidMet_of_run' 8 (by kernel_rfl) (by kernel_rfl)) (by kernel_rfl)
