/- A part of the proof of TopSealed. -/
import Derived.Test.YtjboelhcieepkaaGreatDoorVCRd
import Derived.Test.YtjboelhcieepkaaGreatDoorVRfD
noncomputable section
set_option maxRecDepth 16384
set_option maxHeartbeats 1000000
namespace Go.Proofs.YtjboelhcieepkaaGreatDoor
open Go.RowKit
structure pR(G:Nat)(key b:List Nat)(w wr:World):Prop where
 k:aC wr G 26 (va .u8 key)
 b:aC wr (G+1) 26 (va .u8 b)
 r:∃c,aC wr (G+1+1) 26 c∧c.size=16
 bel:Below G w wr
theorem pR.below{G:Nat}{key b:List Nat}{w wr w2:World}(h:pR G key b w wr)(c:Below wr.heap.size wr w2):pR G key b w w2:=by
 obtain ⟨c0,h0,h1⟩:=h.r
 exact ⟨h.k.below c h.k.lt,h.b.below c h.b.lt,⟨c0,h0.below c h0.lt,h1⟩,h.bel.trans (c.mono (by have:=h.k.lt;omega))⟩
theorem pR.drew_{G:Nat}{key b:List Nat}{w wr:World}(h:pR G key b w wr):pR G key b w wr.drew:=by
 obtain ⟨c0,h0,h1⟩:=h.r
 exact ⟨h.k.drew,h.b.drew,⟨c0,h0.drew,h1⟩,jV h.bel 1⟩
theorem pR.row{G:Nat}{key b:List Nat}{w wr:World}(h:pR G key b w wr)(c:Array Value)(hc:c.size=16):pR G key b w (wr.setRow (G+1+1) c):=by
 obtain ⟨c0,h0,h1⟩:=h.r
 exact ⟨h.k.rowFar (by omega) c,h.b.rowFar (by omega) c,⟨c,h0.row c,hc⟩,eJ h.bel (by omega) c⟩
theorem a17(key b:List Nat)(hkl:key.length=16)(hbl:b.length=16)(hk:Ci.Byt key)(hb:Ci.Byt b)(w:World):
 Calls Tryz.prog 276 #[.agg (va .u8 key),.agg (va .u8 b)] w λe w'=>e=.returned (.agg (va .u8 (Ci.enc (Ci.exL key) b)))∧Below w.heap.size w w':=by
 have hc1:=aTj key hkl hk
 have hc2:=aO4 (Ci.exL key) b (Ci.exL_len key) hbl (Ci.exL_byt hk) hb
 have hEl:=aXk (Ci.exL key) b
 generalize Ci.enc (Ci.exL key) b=E at *
 generalize Ci.exL key=L at *
 have hzv:=wJ
 have hsz0:(Tryz.prog.info? 26).map (·.size)=some (va .u8 key).size:=by rw [b9,hkl];kernel_rfl
 have hsz1:(Tryz.prog.info? 26).map (·.size)=some (va .u8 b).size:=by rw [b9,hbl];kernel_rfl
 have hsz2:(Tryz.prog.info? 26).map (·.size)=some (va .u8 E).size:=by rw [b9,hEl];kernel_rfl
 have hm:pR w.heap.size key b w (((w.alloc (.cells (va .u8 key) 26)).alloc (.cells (va .u8 b) 26)).alloc (.cells (va .u8 eD) 26)) :=
  ⟨((aC.new _ _ _).alloc _).alloc _,(aC.newAt (by simp)).alloc _,⟨va .u8 eD,aC.newAt (by simp),by rw [b9,oB]⟩,(((Below.refl _ _).alloc (aS _) _).alloc (by simp) _).alloc (by simp<;>omega) _⟩
 have hmm:=Lib.hid hm
 have hs0:=Lib.hid hsz0
 have hs1:=Lib.hid hsz1
 have hs2:=Lib.hid hsz2
 have hc1h:=Lib.hid hc1
 have hc2h:=Lib.hid hc2
 clear hm hsz0 hsz1 hsz2 hc1 hc2
 go_enter Tryz.func276,Tryz.ntmps276
 go_upto_region 1 with fail
 clear hzv
 refine wp_region_held_drew (S:=pR w.heap.size key b w) (by kernel_rfl) hmm.out.drew_ (λhH=>?_)
 refine iX 4 0 5 (.agg (va .u8 key)) rfl rfl (by kernel_rfl) (by kernel_rfl) (by kernel_rfl) (λ_ _ _ h=>h) (aJd (by rfl) 26 (.tmp 2) rfl w.heap.size rfl 26 (va .u8 key) _ (λ_ h=>h.k) Tryz.underlying26 rfl hs0.out) hH ?_
 simp only [Ls]
 refine iX 3 2 7 (.agg (va .u8 b)) rfl rfl (by kernel_rfl) (by kernel_rfl) (by kernel_rfl) (λ_ _ _ h=>h) (aJd (by rfl) 26 (.tmp 3) rfl (w.heap.size+1) rfl 26 (va .u8 b) _ (λ_ h=>h.b) Tryz.underlying26 rfl hs1.out) hH ?_
 simp only [Ls]
 refine aKD 2 1 6 rfl rfl (by rfl) (by kernel_rfl) (λK hK=>?_)
 go_simp
 refine (hc1h.out _).mono ?_
 rintro e w' ⟨rfl,bK⟩
 dsimp only
 refine hK.out _ _ (hH.below bK) (λhH=>?_)
 clear hK K bK
 simp only [Ls]
 refine aKD 1 3 8 rfl rfl (by rfl) (by kernel_rfl) (λK hK=>?_)
 go_simp
 refine (hc2h.out _).mono ?_
 rintro e w' ⟨rfl,bK⟩
 dsimp only
 refine hK.out _ _ (hH.below bK) (λhH=>?_)
 clear hK K bK
 simp only [Ls]
 obtain ⟨c0,hc0,hc16⟩:=hH.r
 refine aSL 0 4 rfl rfl (by rfl) (by kernel_rfl) 26 (.tmp 4) (.tmp 8) rfl (w.heap.size+1+1) rfl (va .u8 E) rfl 26 c0 hc0 (by rw [hc16,b9,hEl]) hs2.out (λv hv=>gN .u8 E v (by simpa [va] using hv)) (hH.row _ (by rw [b9,hEl])) (λhH=>?_)
 refine wpAnyH_done (by kernel_rfl) ?_ _
 go_wp2_with fail
 exact bodyPost_ret (results_cell_row rfl _ _ (w.heap.size+1+1) 26 (va .u8 E) (0,0) _ rfl (hc0.row _) Tryz.underlying26 rfl hs2.out) rfl ⟨rfl,hH.bel⟩
def rtX(n c d:Nat)(R:Nat->aA)(B:Nat->Bool):aB×List Ob:=cL ⟨[],[],0⟩ HN3 Xt 12 [] (eA Xt 43 [.s 0 0 n c,.s 1 0 (aT n) d] (hpN n (aT n) R B) 2)
def rtP(n:Nat)(R:Nat->aA)(B:Nat->Bool):List (Rp SV):=[.q (.sha (bP n (rL n R) (aU n (rL n R) (bL (aT n) B)) (aO n) 0).bytes)]
theorem aVl(c d:Nat)(R:Nat->aA)(B:Nat->Bool):(List.range 20).map (λn=>W6 (dS Xt 43 (rtX (n+1) c d R B).1))=(List.range 20).map λn=>rtP (n+1) R B:=by kernel_rfl
def aHI:bV:=λargs hp nx=>match args with
 |[x,y]=>(match I3 hp x,aA5 hp y with
  |some xs,some bs=>bif Nat.ble xs.length 20&&Nat.beq bs.length (aT xs.length) then some (.a (.q (.sha (bP xs.length (nR xs) (aU xs.length (nR xs) (o9 bs)) (aO xs.length) 0).bytes)),⟨⟨.e,0⟩,hp,nx⟩) else none
  |_,_=>none)
 |_=>none
theorem aSD(n c d g o g2 o2:Nat)(R:Nat->aA)(B:Nat->Bool)(w:World)(h1:1≤n)(h20:n≤20)(hg:cG Xt w)(hr:bH w w.heap.size 35 (some ⟨g,o,none⟩) n (K1 n R))(hr2:bH w w.heap.size 1 (some ⟨g2,o2,none⟩) (aT n) (zU (aT n) B)):
 Calls Xt.P 43 #[.slice (some ⟨g,o,none⟩) n c,.slice (some ⟨g2,o2,none⟩) (aT n) d] w λe w'=>e=.returned (.agg (At.sha (bP n (rL n R) (aU n (rL n R) (bL (aT n) B)) (aO n) 0).bytes).vals.toArray)∧Below w.heap.size w w':=by
 obtain ⟨m,rfl⟩:∃m,n=m+1:=⟨n-1,by omega⟩
 have h2:=cW (aVl c d R B) (dF.2 (show m<20 by omega))
 have htot:0<aT (m+1):=by have:=yW (n:=m+1) (lv:=0) (i:=0) h1 h20 (by omega) (by unfold aL;omega);omega
 have hm1:aG (E0 Xt w) ([]++[⟨g,o,c,none,λ_=>False⟩]) _ 1 w:=(aG.start Xt w hg).addR (c:=c) (T:=61) gM.start hr (by omega) (aS _) (aS _) (aGg (m+1) R)
 have hm:aG (E0 Xt w) ([⟨g,o,c,none,λ_=>False⟩]++[⟨g2,o2,d,none,λ_=>False⟩]) (hpN (m+1) (aT (m+1)) R B) 2 w:=hm1.addR (c:=d) (T:=3) (gM.start.put _ _ _) hr2 htot (aS _) (aS _) (aB4 (aT (m+1)) B)
 unfold W6 rtP at h2
 split at h2
 ·rename_i cc st hfin
  refine (iQ (E:=E0 Xt w) (vals:=[.slice (some ⟨g,o,none⟩) (m+1) c,.slice (some ⟨g2,o2,none⟩) (aT (m+1)) d]) aH aR2 hfin (λob hob=>(by cases hob)) ?_ hm).mono ?_
  ·exact .cons (.s (L:=⟨g,o,c,none,λ_=>False⟩) (o:=0) rfl) (.cons (.s (L:=⟨g2,o2,d,none,λ_=>False⟩) (o:=0) rfl) .nil)
  ·rintro e w' ⟨q,v,he,hd,hm'⟩
   cases hd with|a hd =>
    have hf:=hZ _ hd
    rw [h2] at hf
    cases hf with|cons h3 hf =>
     cases hf
     cases h3
     exact ⟨by rw [he,eC],hm'.below⟩
 ·cases h2
theorem bDi:bN Xt 43 aHI:=by
 intro args hp nx res st hl E r vals w hE ha hm
 have hgl:cG Xt w:=hE▸hm.globs
 unfold aHI at hl
 split at hl
 ·rename_i x y
  split at hl
  ·rename_i xs bs hx hy
   cases hq:Nat.ble xs.length 20&&Nat.beq bs.length (aT xs.length) with
   |false=>rw [hq] at hl;cases hl
   |true =>
    rw [hq] at hl;cases hl
    simp only [bJ,cY,bE,bR] at hq
    obtain ⟨h20,hb⟩:=hq
    cases ha with|cons d1 t=>cases t with|cons d2 t =>
     cases t
     obtain ⟨h0,g,o,c,rfl,hr⟩:=aHy hm d1 hx
     obtain ⟨h02,g2,o2,d,rfl,hr2⟩:=aJm hm d2 hy
     have hc:=aSD xs.length c d g o g2 o2 (nR xs) (o9 bs) w h0 h20 hgl hr (hb▸hr2)
     rw [aOy,<-hb,aLh] at hc
     exact ⟨λw'=>bB (by kernel_rfl) _ w',hc.mono λe w' ⟨h1,h2⟩=>⟨[],_,h1,.a (.q _),by simpa using hm.grow h2⟩⟩
  ·cases hl
 ·cases hl
def aCY(args:List SV):Option (TypeId×Rp SV×Nat×Nat×Option (List SV)):=match args with
 |[.v (.int .u32 (.ofNat v))]=>bif Nat.blt v 4294967296 then some (5,.arr .u8 4 (Sh.beB v 4),4,4,none) else none
 |_=>none
def aG4(args:List SV):Option (TypeId×Rp SV×Nat×Nat×Option (List SV)):=match args with
 |[.v (.int .u64 (.ofNat v))]=>bif Nat.blt v 18446744073709551616 then some (5,.arr .u8 8 (Sh.beB v 8),8,8,none) else none
 |_=>none
theorem aTw:bN Xt 178 (kY aCY):=xN (bB (by kernel_rfl)) λargs T cs l c zs hf r vals w hd hg=>by
 unfold aCY at hf
 split at hf
 ·rename_i v
  cases hq:Nat.blt v 4294967296 with
  |false=>rw [hq] at hf;cases hf
  |true =>
   rw [hq] at hf;cases hf
   rw [bO,bR] at hq
   cases hd with|cons d t =>
    cases t;cases d
    refine ⟨_,none,.arr (Sh.beB_len _ _),rfl,(aLl v hq w).mono ?_⟩
    rintro e w' ⟨g,rfl,h1,h2,h3⟩
    exact ⟨g,rfl,h2,h1,h3⟩
 ·cases hf
theorem a40:bN Xt 231 (kY aG4):=xN (bB (by kernel_rfl)) λargs T cs l c zs hf r vals w hd hg=>by
 unfold aG4 at hf
 split at hf
 ·rename_i v
  cases hq:Nat.blt v 18446744073709551616 with
  |false=>rw [hq] at hf;cases hf
  |true =>
   rw [hq] at hf;cases hf
   rw [bO,bR] at hq
   cases hd with|cons d t =>
    cases t;cases d
    refine ⟨_,none,.arr (Sh.beB_len _ _),rfl,(aMs v hq w).mono ?_⟩
    rintro e w' ⟨g,rfl,h1,h2,h3⟩
    exact ⟨g,rfl,h2,h1,h3⟩
 ·cases hf
def aFm(args:List SV):Option SV:=match args with
 |[.a s,.a b]=>(match iP s,iP b with
  |some x,some y=>match _h:Nat.beq x.n 16&&Nat.beq y.n 16 with
   |true=>some (.a (.q (.byt ⟨Ci.enc (Ci.exL x.l) y.l,16,Ci.encS_len _ _ _,Ci.encS_byt (Ci.exL_byt x.hb) y.hb _⟩)))
   |false=>none
  |_,_=>none)
 |_=>none
theorem a8a:bN Xt 276 (cU aFm):=jY (bB (by kernel_rfl)) λargs y hf r vals w hd hg=>by
 unfold aFm at hf
 split at hf
 ·split at hf
  ·rename_i s b x y hx hy
   split at hf
   ·rename_i hq
    cases hf
    rw [bJ,bE,bE,bR,bR] at hq
    cases hd with
    |cons d1 t=>cases t with
     |cons d2 t =>
      cases t
      cases d1 with
      |a d1=>cases d2 with
       |a d2 =>
        obtain rfl:=nP hx d1
        obtain rfl:=nP hy d2
        refine (a17 x.l y.l (by rw [x.hl,hq.1]) (by rw [y.hl,hq.2]) x.hb y.hb w).mono ?_
        rintro e w' ⟨rfl,h2⟩
        exact ⟨_,rfl,.a (.q (.byt ⟨Ci.enc (Ci.exL x.l) y.l,16,Ci.encS_len _ _ _,Ci.encS_byt (Ci.exL_byt x.hb) y.hb _⟩)),h2⟩
   ·cases hf
  ·cases hf
 ·cases hf
def lJ(key m:List Nat):List Nat:=Sh.kx key 92++Sh.sha (Sh.kx key 54++m)
def aDb:bV:=λargs hp nx=>match args with
 |[x,y]=>(match zA hp x,zA hp y with
  |some (b,l),some (b2,l2)=>bif Nat.blt l 100000&&Nat.blt l2 100000 then some (.a (.q (.sha (lJ b b2))),⟨⟨.e,0⟩,hp,nx⟩) else none
  |_,_=>none)
 |_=>none
theorem a6R:bN Xt 98 aDb:=by
 intro args hp nx res st hl E r vals w hE ha hm
 unfold aDb at hl
 split at hl
 ·rename_i x y
  split at hl
  ·rename_i b l b2 l2 hx hy
   cases hq:Nat.blt l 100000&&Nat.blt l2 100000 with
   |false=>rw [hq] at hl;cases hl
   |true =>
    rw [hq] at hl;cases hl
    simp only [bJ,bO,bR] at hq
    cases ha with|cons d1 t=>cases t with|cons d2 t =>
     cases t
     obtain ⟨A,c,rfl,h1,h2,h3,h4⟩:=Y4 hm hx d1
     obtain ⟨A2,c2,rfl,k1,k2,k3,k4⟩:=Y4 hm hy d2
     refine ⟨λw'=>bB (by kernel_rfl) _ w',(aTh b b2 A l c _ A2 l2 c2 _ h3 hq.1 k3 hq.2 w h2 (aS _) k2 (aS _)).mono ?_⟩
     rintro e w' ⟨rfl,h5⟩
     refine ⟨[],_,rfl,?_,by simpa using hm.grow h5⟩
     have e:va .u8 (Sh.hm b b2)=(At.sha (lJ b b2)).vals.toArray:=by show _=(nv .u8 (Sh.shaF (lJ b b2))).toArray;rw [Sh.shaF_eq];rfl
     rw [e]
     exact .a (.q _)
  ·cases hl
 ·cases hl
def aBZ:List (FuncId×bV):=[(178,kY aCY),(231,kY aG4),(276,cU aFm),(98,aDb)]
theorem aLK:∀p∈aBZ,bN Xt p.1 p.2:=by
 intro p hp
 simp only [aBZ,bG,cK,or_false] at hp
 rcases hp with rfl|rfl|rfl|rfl
 ·exact aTw
 ·exact a40
 ·exact a8a
 ·exact a6R
def HC:Hk:=cZ Xt (cT aBZ) 14 6
theorem aA8:bZ Xt HC:=eH aH aLK 6
def rW(x:Option (SV×St)):List (List (Rp SV)):=match x with
 |some (.a c,_)=>[iA c []]
 |some (.t [.a c,.a d],_)=>[iA c [],iA d []]
 |_=>[]
section
variable {X:aI}{H:Hk}{n:Nat}{g:FuncId}{args:List SV}{vals:List Value}{w:World}
theorem aGo{ps:List (Rp SV)}{us:List Value}(aH:X.P.follows .mixedOrders=true)(hH:bZ X H)(h:rW (eP H X n g args .e 0)=[ps])(hp:∀(r:List aF) vs,cE r ps vs->vs=us)(ha:aX [] args vals)(hg:cG X w):
 Calls X.P g vals.toArray w λe w'=>e=.returned (.agg us.toArray)∧Below w.heap.size w w':=by
 unfold rW at h
 split at h
 ·rename_i c st hc
  simp only [List.cons.injEq,and_true] at h
  refine (u5 aH hH hc ha hg).mono λe w' ⟨r,v,he,hd,hm⟩=>?_
  cases hd with|a hd =>
   have hf:=hZ _ hd
   rw [h] at hf
   rw [hp _ _ hf] at he
   exact ⟨he,hm.below⟩
 ·cases h
 ·cases h
theorem aM1{ps qs:List (Rp SV)}{us vs:List Value}(aH:X.P.follows .mixedOrders=true)(hH:bZ X H)(h:rW (eP H X n g args .e 0)=[ps,qs])(hp:∀(r:List aF) xs,cE r ps xs->xs=us)(hq:∀(r:List aF) xs,cE r qs xs->xs=vs)(ha:aX [] args vals)(hg:cG X w):
 Calls X.P g vals.toArray w λe w'=>e=.returned (.tuple #[.agg us.toArray,.agg vs.toArray])∧Below w.heap.size w w':=by
 unfold rW at h
 split at h
 ·cases h
 ·rename_i c d st hc
  simp only [List.cons.injEq,and_true] at h
  refine (u5 aH hH hc ha hg).mono λe w' ⟨r,v,he,hd,hm⟩=>?_
  cases hd with|t hd=>cases hd with|cons d1 hd=>cases hd with|cons d2 hd =>
   cases hd
   cases d1 with|a d1=>cases d2 with|a d2 =>
    have hf:=hZ _ d1
    have hf2:=hZ _ d2
    rw [h.1] at hf
    rw [h.2] at hf2
    rw [hp _ _ hf,hq _ _ hf2] at he
    exact ⟨he,hm.below⟩
 ·cases h
end
theorem U6{r:List aF}{n:Nat}{l:List Nat}{vs:List Value}(h:cE r [.arr .u8 n l] vs):vs=nv .u8 l:=by
 cases h with|cons h1 h=>cases h;rw [fJ h1,eC]
theorem G8{r:List aF}{a:At}{vs:List Value}(h:cE r [.q a] vs):vs=a.vals:=by
 cases h with|cons h1 h=>cases h;cases h1;rw [eC]
theorem aAF{α:Type}(l:List α)(f:α->Nat):Sh.Byt (l.map λx=>f x%256):=by
 intro x hx
 obtain ⟨i,_,rfl⟩:=dC.1 hx
 exact Nat.mod_lt _ (by decide)
def rA(s:Nat):List Nat:=(List.range 32).map λj=>s*(j+1)%256
def sF(s:Nat):List Nat:=(List.range 32).map λj=>(s+3*j)%256
def aET(s:Nat):cD:=⟨rA s,32,by simp [rA],aAF _ _⟩
def aFT(s:Nat):cD:=⟨sF s,32,by simp [sF],aAF _ _⟩
theorem a7w(s:Nat):rW (eP HC Xt 12 31 [.v (.int .u8 (.ofNat s))] .e 0)=[[.arr .u8 32 (rA s)]]:=by kernel_rfl
theorem aR1(s:Nat):rW (eP HC Xt 12 28 [.v (.int .u8 (.ofNat s))] .e 0)=[[.arr .u8 32 (sF s)]]:=by kernel_rfl
def yE(f:Nat->cD)(args:List SV):Option SV:=match args with
 |[.v (.int .u8 (.ofNat s))]=>some (.a (.q (.byt (f s))))
 |_=>none
theorem aPl:bN Xt 31 (cU (yE aET)):=jY (bB (by kernel_rfl)) λargs y hf r vals w hd hg=>by
 unfold yE at hf
 split at hf
 ·rename_i s
  cases hf
  cases hd with|cons d t =>
   cases t;cases d
   exact (aGo (vals:=[.int .u8 (.ofNat s)]) aH aA8 (a7w s) (λ_ _=>U6) (.cons (.v _) .nil) hg).mono λe w' ⟨h1,h2⟩=>⟨_,h1,.a (.q (.byt (aET s))),h2⟩
 ·cases hf
theorem aUe:bN Xt 28 (cU (yE aFT)):=jY (bB (by kernel_rfl)) λargs y hf r vals w hd hg=>by
 unfold yE at hf
 split at hf
 ·rename_i s
  cases hf
  cases hd with|cons d t =>
   cases t;cases d
   exact (aGo (vals:=[.int .u8 (.ofNat s)]) aH aA8 (aR1 s) (λ_ _=>U6) (.cons (.v _) .nil) hg).mono λe w' ⟨h1,h2⟩=>⟨_,h1,.a (.q (.byt (aFT s))),h2⟩
 ·cases hf
def aOA(m:List Nat):List Nat:=Sh.shaF (lJ [99,97,105,115,115,111,110] m)
def W5(m:List Nat):List Nat:=(List.range 16).map λj=>(Sh.shaF (lJ (aOA m) [101,110,99,114,121,112,116,1])).getD j 0
def aCu(m:List Nat):List Nat:=(List.range 32).map λj=>(Sh.shaF (lJ (aOA m) [109,97,99,1])).getD j 0
theorem pB{l:List Nat}(h:Sh.Byt l)(j:Nat):l.getD j 0<256:=by
 rw [cP]
 cases hj:l[j]? with
 |none=>simp
 |some x=>exact h x (List.mem_of_getElem? hj)
theorem aIW{n:Nat}{l:List Nat}(h:Sh.Byt l):Sh.Byt ((List.range n).map λj=>l.getD j 0):=by
 intro x hx
 obtain ⟨i,_,rfl⟩:=dC.1 hx
 exact pB h i
def aCD(m:List Nat):cD:=⟨W5 m,16,by simp [W5],aIW (rK _)⟩
def aBh(m:List Nat):cD:=⟨aCu m,32,by simp [aCu],aIW (rK _)⟩
theorem a1C(m:List Nat)(hl:m.length=32)(hb:Sh.Byt m):rW (eP HC Xt 13 27 [.a (.q (.byt ⟨m,32,hl,hb⟩))] .e 0)=[[.arr .u8 16 (W5 m)],[.arr .u8 32 (aCu m)]]:=by kernel_rfl
def aCQ(args:List SV):Option SV:=match args with
 |[.a c]=>(match iP c with
  |some x=>bif Nat.beq x.n 32 then some (.t [.a (.q (.byt (aCD x.l))),.a (.q (.byt (aBh x.l)))]) else none
  |none=>none)
 |_=>none
theorem aU8:bN Xt 27 (cU aCQ):=jY (bB (by kernel_rfl)) λargs y hf r vals w hd hg=>by
 unfold aCQ at hf
 split at hf
 ·split at hf
  ·rename_i c x hx
   obtain ⟨m,n,hl,hb⟩:=x
   cases hq:Nat.beq n 32 with
   |false=>simp only [hq] at hf;cases hf
   |true =>
    simp only [hq] at hf;cases hf
    obtain rfl:=eU hq
    obtain ⟨us,rfl,d⟩:=vI hd
    obtain rfl:=nP hx d
    exact (aM1 (vals:=[.agg (nv .u8 m).toArray]) aH aA8 (a1C m hl hb) (λ_ _=>U6) (λ_ _=>U6) (.cons (.a (.q (.byt ⟨m,32,hl,hb⟩))) .nil) hg).mono λe w' ⟨h1,h2⟩=>⟨_,h1,.t (.cons (.a (.q (.byt (aCD m)))) (.cons (.a (.q (.byt (aBh m)))) .nil)),h2⟩
  ·cases hf
 ·cases hf
def yT(a b:Nat):Nat:=(BitVec.ofInt 8 (a:Int) ^^^ BitVec.ofInt 8 (b:Int)).toNat%256
def ksB(k:List Nat)(c j:Nat):List Nat:=Ci.enc (Ci.exL k) (Sh.beB (c%3) 4++(Sh.beB c 8++Sh.beB j 4))
def sxL(k b:List Nat)(c:Nat):List Nat:=(List.range 32).map λj=>yT (b.getD j 0) ((ksB k c (j / 16)).getD (j%16) 0)
def uH(k b:List Nat)(c:Nat):cD:=⟨sxL k b c,32,by simp [sxL],aAF _ _⟩
def aGj(c:Nat):Rp SV:=.node 1 2 (.one (.v (.int .u32 (.ofNat (c%3))))) (.one (.v (.int .u64 (.ofNat c))))
theorem aSg(k b:List Nat)(hk:k.length=16)(hkb:Sh.Byt k)(hb:b.length=32)(hbb:Sh.Byt b):(List.range 20).map (λc=>rW (eP HC Xt 14 101 [.a (.q (.byt ⟨k,16,hk,hkb⟩)),.a (aGj c),.a (.q (.byt ⟨b,32,hb,hbb⟩))] .e 0))=(List.range 20).map λc=>[[.arr .u8 32 (sxL k b c)]]:=by kernel_rfl
def G6(c:Rp SV):Option Nat:=match c with
 | .node _ _ (.one (.v (.int .u32 (.ofNat a)))) (.one (.v (.int .u64 (.ofNat b))))=>bif Nat.blt b 20&&Nat.beq a (b%3) then some b else none
 |_=>none
theorem aGe{r:List aF}{c:Rp SV}{b:Nat}{us:List Value}(h:G6 c=some b)(d:aD r c us):b<20∧us=[.int .u32 ((b%3:Nat):Int),.int .u64 (b:Int)]:=by
 unfold G6 at h
 split at h
 ·rename_i a b'
  cases hq:Nat.blt b' 20&&Nat.beq a (b'%3) with
  |false=>rw [hq] at h;cases h
  |true =>
   rw [hq] at h;cases h
   simp only [bJ,bO,bE,bR] at hq
   cases d with|node d1 d2 _ _ =>
    rw [bQ d1,bQ d2,hq.2]
    exact ⟨hq.1,rfl⟩
 ·cases h
theorem aJi(c:Nat):aD [] (aGj c) [.int .u32 ((c%3:Nat):Int),.int .u64 (c:Int)]:=.node (us:=[.int .u32 ((c%3:Nat):Int)]) (.one (.v _) rfl) (.one (.v _) rfl) rfl rfl
def fSx(args:List SV):Option SV:=match args with
 |[.a k,.a n,.a b]=>(match iP k,G6 n,iP b with
  |some x,some c,some y=>bif Nat.beq x.n 16&&Nat.beq y.n 32 then some (.a (.q (.byt (uH x.l y.l c)))) else none
  |_,_,_=>none)
 |_=>none
theorem a9Y:bN Xt 101 (cU fSx):=jY (bB (by kernel_rfl)) λargs y hf r vals w hd hg=>by
 unfold fSx at hf
 split at hf
 ·split at hf
  ·rename_i x c y hx hc hy
   obtain ⟨k,n,hl,hb⟩:=x
   obtain ⟨b,n2,hl2,hb2⟩:=y
   cases hq:Nat.beq n 16&&Nat.beq n2 32 with
   |false=>simp only [hq] at hf;cases hf
   |true =>
    simp only [hq] at hf;cases hf
    simp only [bJ,bE,bR] at hq
    obtain ⟨rfl,rfl⟩:=hq
    cases hd with|cons d1 t=>cases t with|cons d2 t=>cases t with|cons d3 t =>
     cases t
     cases d1 with|a d1=>cases d2 with|a d2=>cases d3 with|a d3 =>
      obtain rfl:=nP hx d1
      obtain rfl:=nP hy d3
      obtain ⟨h20,rfl⟩:=aGe hc d2
      exact (aGo (vals:=[.agg (nv .u8 k).toArray,.agg #[.int .u32 ((c%3:Nat):Int),.int .u64 (c:Int)],.agg (nv .u8 b).toArray]) aH aA8 (cW (aSg k b hl hb hl2 hb2) (dF.2 h20)) (λ_ _=>U6) (.cons (.a (.q (.byt ⟨k,16,hl,hb⟩))) (.cons (.a (aJi c)) (.cons (.a (.q (.byt ⟨b,32,hl2,hb2⟩))) .nil))) hg).mono λe w' ⟨h1,h2⟩=>⟨_,h1,.a (.q (.byt (uH k b c))),h2⟩
  ·cases hf
 ·cases hf
def aDt(args:List SV):Option (TypeId×Rp SV×Nat):=match args with
 |[.a n]=>(match G6 n with
  |some c=>some (5,.arr .u8 12 (Sh.beB (c%3) 4++Sh.beB c 8),12)
  |none=>none)
 |_=>none
theorem bAK:bN Xt 179 (pQ aDt):=aHf (bB (by kernel_rfl)) λargs T cs l hf r vals w hd hg=>by
 unfold aDt at hf
 split at hf
 ·split at hf
  ·rename_i n c hc
   cases hf
   obtain ⟨us,rfl,d⟩:=vI hd
   obtain ⟨h20,rfl⟩:=aGe hc d
   exact ⟨nv .u8 (Sh.beB (c%3) 4++Sh.beB c 8),.arr (by simp [Sh.beB_len]),by decide,by rw [zJ];decide,by rw [zJ];exact aIs (c%3) c (by omega) (by omega) w⟩
  ·cases hf
 ·cases hf
def aLT:List (FuncId×bV):=[(101,cU fSx),(179,pQ aDt)]++aBZ
theorem aX3:∀p∈aLT,bN Xt p.1 p.2:=by
 intro p hp
 rcases eL.1 hp with hp|hp
 ·simp only [bG,cK,or_false] at hp
  rcases hp with rfl|rfl
  ·exact a9Y
  ·exact bAK
 ·exact aLK p hp
def HC2:Hk:=cZ Xt (cT aLT) 14 6
theorem aU4:bZ Xt HC2:=eH aH aX3 6
def aEy(k b:List Nat)(c:Nat):List Nat:=(Sh.beB c 4++(Sh.beB (c%3) 4++Sh.beB c 8))++sxL k b c
theorem aXu(k m b:List Nat)(hk:k.length=16)(hkb:Sh.Byt k)(hm:m.length=32)(hmb:Sh.Byt m)(hb:b.length=32)(hbb:Sh.Byt b):(List.range 20).map (λc=>rW (eP HC2 Xt 13 32 [.a (.q (.byt ⟨k,16,hk,hkb⟩)),.a (.q (.byt ⟨m,32,hm,hmb⟩)),.v (.int .i64 (.ofNat c)),.a (aGj c),.a (.q (.byt ⟨b,32,hb,hbb⟩))] .e 0)) =
 (List.range 20).map λc=>[[.q (.byt (uH k b c))],[.q (.sha (lJ m (aEy k b c)))]]:=by kernel_rfl
def aHj(args:List SV):Option SV:=match args with
 |[.a k,.a m,.v (.int .i64 (.ofNat i)),.a n,.a b]=>(match iP k,iP m,G6 n,iP b with
  |some x,some z,some c,some y=>bif Nat.beq x.n 16&&Nat.beq z.n 32&&(Nat.beq y.n 32&&Nat.beq i c) then some (.t [.a (.q (.byt (uH x.l y.l c))),.a (.q (.sha (lJ z.l (aEy x.l y.l c))))]) else none
  |_,_,_,_=>none)
 |_=>none
theorem aZ8:bN Xt 32 (cU aHj):=jY (bB (by kernel_rfl)) λargs y hf r vals w hd hg=>by
 unfold aHj at hf
 split at hf
 ·rename_i k0 m0 i n0 b0
  split at hf
  ·rename_i x z c y hx hz hc hy
   obtain ⟨k,n,hl,hb⟩:=x
   obtain ⟨m,n3,hl3,hb3⟩:=z
   obtain ⟨b,n2,hl2,hb2⟩:=y
   cases hq:Nat.beq n 16&&Nat.beq n3 32&&(Nat.beq n2 32&&Nat.beq i c) with
   |false=>simp only [hq] at hf;cases hf
   |true =>
    simp only [hq] at hf;cases hf
    simp only [bJ,bE,bR] at hq
    obtain ⟨⟨rfl,rfl⟩,rfl,rfl⟩:=hq
    cases hd with|cons d1 t=>cases t with|cons d2 t=>cases t with|cons d3 t=>cases t with|cons d4 t=>cases t with|cons d5 t =>
     cases t
     cases d3
     cases d1 with|a d1=>cases d2 with|a d2=>cases d4 with|a d4=>cases d5 with|a d5 =>
      obtain rfl:=nP hx d1
      obtain rfl:=nP hz d2
      obtain rfl:=nP hy d5
      obtain ⟨h20,rfl⟩:=aGe hc d4
      exact (aM1 (vals:=[.agg (nv .u8 k).toArray,.agg (nv .u8 m).toArray,.int .i64 (.ofNat i),.agg #[.int .u32 ((i%3:Nat):Int),.int .u64 (i:Int)],.agg (nv .u8 b).toArray]) aH aU4 (cW (aXu k m b hl hb hl3 hb3 hl2 hb2) (dF.2 h20)) (λ_ _=>G8) (λ_ _=>G8)
       (.cons (.a (.q (.byt ⟨k,16,hl,hb⟩))) (.cons (.a (.q (.byt ⟨m,32,hl3,hb3⟩))) (.cons (.v _) (.cons (.a (aJi i)) (.cons (.a (.q (.byt ⟨b,32,hl2,hb2⟩))) .nil))))) hg).mono λe w' ⟨h1,h2⟩=>⟨_,h1,.t (.cons (.a (.q (.byt (uH k b i)))) (.cons (.a (.q (.sha _))) .nil)),h2⟩
  ·cases hf
 ·cases hf
def aId:List (FuncId×bV):=[(31,cU (yE aET)),(28,cU (yE aFT)),(27,cU aCQ),(32,cU aHj),(29,aGn),(33,aFv),(43,aHI),(40,yL 3)]++aFw
theorem a72:∀p∈aId,bN Xt p.1 p.2:=by
 intro p hp
 rcases eL.1 hp with hp|hp
 ·simp only [bG,cK,or_false] at hp
  rcases hp with rfl|rfl|rfl|rfl|rfl|rfl|rfl|rfl
  ·exact aPl
  ·exact aUe
  ·exact aU8
  ·exact aZ8
  ·exact aYQ
  ·exact bBh
  ·exact bDi
  ·exact aCj λl hl=>by
    rcases l with _|_|_|l
    ·exact nd0
    ·exact nd1
    ·exact nd2
    ·omega
 ·exact aM6 p hp
def HV:Hk:=cZ Xt (cT aId) 14 6
theorem aIH:bZ Xt HV:=eH aH a72 6
def fB(v n:Nat):cD:=⟨Sh.beB v n,n,Sh.beB_len _ _,Sh.beB_byt _ _⟩
def aG8(args:List SV):Option (TypeId×Rp SV×Nat×Nat×Option (List SV)):=match args with
 |[.v (.int .u64 (.ofNat v)),.v (.int .i64 (.ofNat n))]=>bif Nat.ble n 8 then some (5,.q (.byt (fB v n)),n,n,none) else none
 |_=>none
theorem aZw:bN Xt 64 (kY aG8):=xN (bB (by kernel_rfl)) λargs T cs l c zs hf r vals w hd hg=>by
 unfold aG8 at hf
 split at hf
 ·rename_i v n
  cases hq:Nat.ble n 8 with
  |false=>rw [hq] at hf;cases hf
  |true =>
   rw [hq] at hf;cases hf
   rw [cY,bR] at hq
   cases hd with|cons d t=>cases t with|cons d2 t =>
    cases t;cases d;cases d2
    refine ⟨_,none,.q (.byt (fB v _)),rfl,(aCZ v _ hq w).mono ?_⟩
    rintro e w' ⟨r,rfl,g,rfl,h1,h2,h3⟩
    exact ⟨g,by rw [Sh.beB_len];rfl,h2,h1,h3⟩
 ·cases hf
def aGT:List (FuncId×bV):=(64,kY aG8)::aFU
theorem aJA:∀p∈aGT,bN Xt p.1 p.2:=by
 intro p hp
 rcases bG.1 hp with rfl|hp
 ·exact aZw
 ·exact aNl p hp
def H8:Hk:=cZ Xt (cT aGT) 14 6
theorem aSx:bZ Xt H8:=eH aH aJA 6
def ksV(k:List Nat)(v:aA)(j:Nat):List Nat:=Ci.enc (Ci.exL k) (Sh.beB (v.sh%18446744073709551616) 4++(Sh.beB v.c 8++Sh.beB j 4))
def jL(n:Nat)(f:Nat->Nat)(hf:∀j,f j<256):cD:=⟨(List.range n).map f,n,by simp,λx hx=>by
 obtain ⟨j,_,rfl⟩:=dC.1 hx
 exact hf j⟩
def T4(k:List Nat)(f:Nat->Nat)(v:aA)(j:Nat):Nat:=yT (f j) ((ksV k v (j / 16)).getD (j%16) 0)
def hpX(b:cD):Tr:=bC.e.put 0 ⟨5,.q (.byt b),2⟩
theorem a5j(k:List Nat)(hk:k.length=16)(hkb:Sh.Byt k)(f:Nat->Nat)(hf:∀j,f j<256)(v:aA)(c:Nat):(eP H8 Xt 14 20 [.a (.q (.byt ⟨k,16,hk,hkb⟩)),.a (.q (.nnc v)),aM 0,.s 0 0 32 c] (hpX (jL 32 f hf)) 1).map (λy=>(y.1,(y.2.hp.get 5).map λb:HB=>(b.T,b.k,iA b.cs [])))=some (.t [.s 5 0 32 32,bM],some (5,0,[.arr .u8 0 [],.one (.v (.int .u8 ((T4 k f v 0:Nat):Int))),.arr .u8 31 ((List.range 31).map λj=>T4 k f v (j+1))])):=by kernel_rfl
def eY(k b:List Nat)(v:aA):List Nat:=(List.range 32).map λj=>T4 k (λj=>b.getD j 0) v j
def k8(k b:List Nat)(v:aA):cD:=⟨eY k b v,32,by simp [eY],aAF _ _⟩
theorem cD.eq{x y:cD}(h:x.l=y.l)(hn:x.n=y.n):x=y:=by
 obtain ⟨l,n,h1,h2⟩:=x
 obtain ⟨l',n',h3,h4⟩:=y
 simp only at h hn
 subst h hn
 rfl
theorem H5{l:List Nat}{n:Nat}(h:l.length=n):(List.range n).map (λj=>l.getD j 0)=l:=by
 refine List.ext_getElem (by simp [h]) λi h1 h2=>?_
 rw [List.getElem_map,List.getElem_range,cP,eZ h2]
 rfl
theorem aFB(x:cD){n:Nat}(h:x.n=n):jL n (λj=>x.l.getD j 0) (pB x.hb)=x:=by
 subst h
 exact cD.eq (H5 x.hl) rfl
theorem aY4(k b:cD)(hk:k.n=16)(hb:b.n=32)(v:aA)(g o c:Nat)(w:World)(hg:cG Xt w)(hr:bH w w.heap.size 1 (some ⟨g,o,none⟩) 32 (nv .u8 b.l)):
 Calls Xt.P 20 #[.agg (nv .u8 k.l).toArray,.agg v.nnc.toArray,.int .i64 0,.slice (some ⟨g,o,none⟩) 32 c] w λe w'=>∃p,e=.returned (.tuple #[.slice (some ⟨p,0,none⟩) 32 32,.int .i64 0])∧w.heap.size≤p∧aC w' p 5 (nv .u8 (eY k.l b.l v)).toArray∧Below w.heap.size w w':=by
 obtain ⟨kl,kn,hkl,hkb⟩:=k
 simp only at hk
 subst hk
 have h:=a5j kl hkl hkb (λj=>b.l.getD j 0) (pB b.hb) v c
 rw [aFB b hb] at h
 obtain ⟨⟨res,st⟩,h1,h2⟩:=dE.1 h
 simp only [cH] at h2
 obtain ⟨e1,e2⟩:=h2
 subst e1
 obtain ⟨⟨T,cs,kk⟩,hblk,hb2⟩:=dE.1 e2
 simp only [cH] at hb2
 obtain ⟨rfl,rfl,hrows⟩:=hb2
 have hm:aG (E0 Xt w) ([]++[⟨g,o,c,none,λ_=>False⟩]) (hpX b) 1 w:=(aG.start Xt w hg).addR (c:=c) (T:=5) gM.start hr (by decide) (aS _) (aS _) (.q (.byt b))
 refine (oX (E:=E0 Xt w) (vals:=[.agg (nv .u8 kl).toArray,.agg v.nnc.toArray,.int .i64 0,.slice (some ⟨g,o,none⟩) 32 c]) aH aSx h1 ?_ hm).mono ?_
 ·exact .cons (.a (.q (.byt ⟨kl,16,hkl,hkb⟩))) (.cons (.a (.q (.nnc v))) (.cons (.v _) (.cons (.s (L:=⟨g,o,c,none,λ_=>False⟩) (o:=0) rfl) .nil)))
 ·rintro e w' ⟨q,vv,rfl,hd,hm'⟩
  obtain ⟨L,hL,vs,dv,hc⟩:=hm'.blk 5 _ hblk
  have hB:w.heap.size≤L.g∧L.b=0∧aC w' L.g 5 vs.toArray:=by
   rcases hc with ⟨_,a1,a2,a3⟩|⟨a,_⟩|⟨a,_⟩
   ·exact ⟨a1,a2,a3⟩
   ·cases a
   ·exact absurd a (by show ¬ 2≤0;decide)
  have hf:=hZ _ dv
  rw [hrows] at hf
  have hv:vs=nv .u8 (eY kl b.l v):=by
   cases hf with|cons d1 hf=>cases hf with|cons d2 hf=>cases hf with|cons d3 hf =>
    cases hf
    rw [fJ d1,bQ d2,fJ d3]
    rfl
  refine ⟨L.g,?_,hB.1,hv▸hB.2.2,hm'.below⟩
  cases hd with|t hd=>cases hd with|cons d1 hd=>cases hd with|cons d2 hd =>
   cases hd;cases d2
   cases d1 with|s hq =>
    rw [hL] at hq
    cases hq
    rw [hB.2.1]
def aDm:bV:=λargs hp nx=>match args with
 |[.a kc,.a (.q (.nnc v)),.v (.int .i64 (.ofNat 0)),s]=>(match iP kc,zK hp s with
  |some x,some y=>bif Nat.beq x.n 16&&Nat.beq y.n 32 then some (.t [.s nx 0 32 32,bM],⟨⟨.e,0⟩,hp.put nx ⟨5,.q (.byt (k8 x.l y.l v)),0⟩,nx+1⟩) else none
  |_,_=>none)
 |_=>none
theorem bCO:bN Xt 20 aDm:=by
 intro args hp nx res st hl E r vals w hE ha hm
 have hen:fQ Xt.P 20:=bB (by kernel_rfl)
 unfold aDm at hl
 split at hl
 ·rename_i kc v s
  split at hl
  ·rename_i x y hx hy
   cases hq:Nat.beq x.n 16&&Nat.beq y.n 32 with
   |false=>rw [hq] at hl;cases hl
   |true =>
    rw [hq] at hl;cases hl
    rw [bJ,bE,bE,bR,bR] at hq
    cases ha with|cons d1 t=>cases t with|cons d2 t=>cases t with|cons d3 t=>cases t with|cons d4 t =>
     cases t;cases d3
     obtain ⟨A,c,rfl,hc,hr⟩:=Z4 hm hy d4
     rw [hq.2] at hr ⊢
     obtain ⟨ad,rfl,hlt,hcl⟩:=hr.2 (by decide)
     have hsp:ad.spot=none:=by
      have:=hcl 0 _ (mL (l:=y.l) (by rw [y.hl,hq.2];decide))
      have h2:=World.cell?_spot this
      simpa [Addr.add] using h2
     obtain ⟨g,o,sp⟩:=ad
     simp only at hsp
     subst hsp
     cases d1 with|a d1=>cases d2 with|a d2 =>
      cases d2
      obtain rfl:=nP hx d1
      refine ⟨λw'=>hen _ w',(aY4 x y hq.1 hq.2 v g o c w (hE▸hm.globs) hr).mono ?_⟩
      rintro e w' ⟨p,rfl,h2,h1,h3⟩
      have nm:(r++[(⟨p,0,0,none,λ_=>False⟩:aF)])[nx]?=some ⟨p,0,0,none,λ_=>False⟩:=by rw [<-hm.len];simp
      refine ⟨[⟨p,0,0,none,λ_=>False⟩],_,rfl,.t (.cons (aP.s (o:=0) nm) (.cons (.v _) .nil)),?_⟩
      exact hm.add1 h3 ⟨p,0,0,none,λ_=>False⟩ ⟨5,.q (.byt (k8 x.l y.l v)),0⟩ h2 ⟨nv .u8 (eY x.l y.l v),.q (.byt (k8 x.l y.l v)),.inl ⟨rfl,bI hm.below.size h2,rfl,h1⟩⟩ (.inl (by show 0<2;decide))
  ·cases hl
 ·cases hl
def aEf:List (FuncId×bV):=(20,aDm)::aGT
theorem aI1:∀p∈aEf,bN Xt p.1 p.2:=by
 intro p hp
 rcases bG.1 hp with rfl|hp
 ·exact bCO
 ·exact aJA p hp
def H9:Hk:=cZ Xt (cT aEf) 14 6
theorem aLE:bZ Xt H9:=eH aH aI1 6
def xC(y:Nat->Value)(k:Nat)(x:SV):Rp SV:=lH ((List.range 64).map λj=>bif Nat.beq j k then x else .v (y j))
def eW:SV:=.v (.pointer none)
def hpW(y:Nat->Value)(k:Nat)(x:SV)(n:Nat)(l:List Nat):Tr:=((bC.e.put 0 ⟨203,xC y k x,2⟩).put 1 ⟨240,.one (.p 0 0),2⟩).put 2 ⟨5,.arr .u8 n l,2⟩
def zN(sz:Nat)(c:Int)(x:SV):SV:=.a (.node 1 3 (.one (.v (.int .i64 (.ofNat sz)))) (.node 1 2 (.one (.v (.int .i64 c))) (.one x)))
def H0:Hk:=cZ Xt (cT []) 14 8
theorem aDw:bZ Xt H0:=eH aH (λp h=>by simp at h) 8
def aKz(x:Option (SV×St)):Option (SV×Option HB×Option HB×Option HB×Option HB):=match x with
 |some (y,st)=>some (y,st.hp.get 12,st.hp.get 10,st.hp.get 11,st.hp.get 7)
 |none=>none
def kX(y:Nat->Value)(k m n:Nat)(x:SV)(l:List Nat)(c:Int):Option (SV×Option HB×Option HB×Option HB×Option HB) :=
 aKz (eP H0 Xt 12 25 [zN (m+(k+1)) c (.w 1 1),.v (.int .i64 (.ofNat k)),.w 2 n] (hpW y k x n l) 3)
def kU(y:Nat->Value)(k m n:Nat)(x:SV)(l:List Nat)(num c:Int):Option (SV×Option HB×Option HB×Option HB×Option HB) :=
 some (.t [zN (m+(k+1)) (IntKind.i64.wrap (c+1)) (.s 12 0 1 1),bM],some ⟨240,.one (.p 10 0),0⟩,some ⟨242,xC y k (.p 11 0),0⟩,
  some ⟨312,.node 1 4 (.one (.v (.bool true))) (.node 1 3 (.one (.w 7 n)) (.node 1 2 (.one (.v (.int .i64 num))) (.one x))),0⟩,some ⟨5,.arr .u8 n l,1⟩)
def kd(a b:Nat):List Nat:=(List.range (b-a)).map (a+·)
theorem aAn{a b k:Nat}(h1:a≤k)(h2:k<b):k∈kd a b:=dC.2 ⟨k-a,dF.2 (by omega),by omega⟩
theorem zX{β:Type}{f g:Nat->β}(h0:(kd 0 14).map f=(kd 0 14).map g)(h1:(kd 14 28).map f=(kd 14 28).map g)(h2:(kd 28 42).map f=(kd 28 42).map g)(h3:(kd 42 56).map f=(kd 42 56).map g)(k:Nat)(hk:k<56):f k=g k:=by
 by_cases a:k<14
 ·exact List.map_inj_left.1 h0 k (aAn (by omega) a)
 ·by_cases b:k<28
  ·exact List.map_inj_left.1 h1 k (aAn (by omega) b)
  ·by_cases c:k<42
   ·exact List.map_inj_left.1 h2 k (aAn (by omega) c)
   ·exact List.map_inj_left.1 h3 k (aAn (by omega) hk)
theorem bBo(y:Nat->Value)(m:Nat)(l:List Nat)(c:Int):(kd 0 14).map (λk=>kX y k m 32 eW l c)=(kd 0 14).map λk=>kU y k m 32 eW l 1 c:=by kernel_rfl
theorem a3f(y:Nat->Value)(m:Nat)(l:List Nat)(c:Int):(kd 14 28).map (λk=>kX y k m 32 eW l c)=(kd 14 28).map λk=>kU y k m 32 eW l 1 c:=by kernel_rfl
theorem bC0(y:Nat->Value)(m:Nat)(l:List Nat)(c:Int):(kd 28 42).map (λk=>kX y k m 32 eW l c)=(kd 28 42).map λk=>kU y k m 32 eW l 1 c:=by kernel_rfl
theorem a92(y:Nat->Value)(m:Nat)(l:List Nat)(c:Int):(kd 42 56).map (λk=>kX y k m 32 eW l c)=(kd 42 56).map λk=>kU y k m 32 eW l 1 c:=by kernel_rfl
theorem aZ0(k:Nat)(hk:k<56)(y:Nat->Value)(m:Nat)(l:List Nat)(c:Int):kX y k m 32 eW l c=kU y k m 32 eW l 1 c:=zX (bBo y m l c) (a3f y m l c) (bC0 y m l c) (a92 y m l c) k hk
theorem a4E(y:Nat->Value)(m:Nat)(l:List Nat)(c:Int):(kd 0 14).map (λk=>kX y k m 137 eW l c)=(kd 0 14).map λk=>kU y k m 137 eW l 1 c:=by kernel_rfl
theorem a4p(y:Nat->Value)(m:Nat)(l:List Nat)(c:Int):(kd 14 28).map (λk=>kX y k m 137 eW l c)=(kd 14 28).map λk=>kU y k m 137 eW l 1 c:=by kernel_rfl
theorem aXR(y:Nat->Value)(m:Nat)(l:List Nat)(c:Int):(kd 28 42).map (λk=>kX y k m 137 eW l c)=(kd 28 42).map λk=>kU y k m 137 eW l 1 c:=by kernel_rfl
theorem aVd(y:Nat->Value)(m:Nat)(l:List Nat)(c:Int):(kd 42 56).map (λk=>kX y k m 137 eW l c)=(kd 42 56).map λk=>kU y k m 137 eW l 1 c:=by kernel_rfl
theorem aXT(k:Nat)(hk:k<56)(y:Nat->Value)(m:Nat)(l:List Nat)(c:Int):kX y k m 137 eW l c=kU y k m 137 eW l 1 c:=zX (a4E y m l c) (a4p y m l c) (aXR y m l c) (aVd y m l c) k hk
theorem aVi(y:Nat->Value)(m:Nat)(l:List Nat)(c:Int):(kd 0 14).map (λk=>kX y k m 185 eW l c)=(kd 0 14).map λk=>kU y k m 185 eW l 1 c:=by kernel_rfl
theorem aXB(y:Nat->Value)(m:Nat)(l:List Nat)(c:Int):(kd 14 28).map (λk=>kX y k m 185 eW l c)=(kd 14 28).map λk=>kU y k m 185 eW l 1 c:=by kernel_rfl
theorem bB6(y:Nat->Value)(m:Nat)(l:List Nat)(c:Int):(kd 28 42).map (λk=>kX y k m 185 eW l c)=(kd 28 42).map λk=>kU y k m 185 eW l 1 c:=by kernel_rfl
theorem bD7(y:Nat->Value)(m:Nat)(l:List Nat)(c:Int):(kd 42 56).map (λk=>kX y k m 185 eW l c)=(kd 42 56).map λk=>kU y k m 185 eW l 1 c:=by kernel_rfl
theorem bBt(k:Nat)(hk:k<56)(y:Nat->Value)(m:Nat)(l:List Nat)(c:Int):kX y k m 185 eW l c=kU y k m 185 eW l 1 c:=zX (aVi y m l c) (aXB y m l c) (bB6 y m l c) (bD7 y m l c) k hk
def P4(y:Option Nat):Value:=.pointer (y.map λq=>(⟨q,0,none⟩:Addr))
theorem aH6{r:List aF}:∀{xs:List SV} {vs:List Value},aX r xs vs->(∀v∈vs,v.oneCell'=true)->aD r (lH xs) vs
 |[],_,h,_=>by cases h;exact .nil
 |_::_,_,h,h1=>by
  cases h with
  |cons h t=>exact aD.cat (.one h (h1 _ (by simp))) (aH6 t λv hv=>h1 v (by simp [hv]))
theorem aLd{r:List aF}{k:Nat}{x:SV}{v:Value}(y:Nat->Value)(hx:aP r x v)(h1:∀j,(y j).oneCell'=true)(hv:v.oneCell'=true):aD r (xC y k x) ((List.range 64).map λj=>if j=k then v else y j):=by
 have key:∀l:List Nat,aX r (l.map λj=>bif Nat.beq j k then x else .v (y j)) (l.map λj=>if j=k then v else y j):=by
  intro l
  induction l with
  |nil=>exact .nil
  |cons j l ih =>
   refine .cons ?_ ih
   show aP r (bif Nat.beq j k then x else .v (y j)) (if j=k then v else y j)
   rw [bE]
   by_cases e:j=k
   ·simpa [e] using hx
   ·simpa [e] using aP.v (y j)
 refine aH6 (key _) λu hu=>?_
 obtain ⟨j,_,rfl⟩:=dC.1 hu
 split
 ·exact hv
 ·exact h1 j
theorem aP9(x x':SV)(xs:List SV):∃s t,lH (x::x'::xs)=.node s t (.one x) (lH (x'::xs)):=by
 have e:lH (x::x'::xs)=cat (.one x) (lH (x'::xs)):=rfl
 have h:lH (x'::xs)≠.nil:=by
  have e2:lH (x'::xs)=cat (.one x') (lH xs):=rfl
  rw [e2]
  intro h
  cases hq:lH xs<;>rw [hq] at h<;>cases h
 rw [e]
 cases hq:lH (x'::xs) with
 |nil=>exact absurd hq h
 |_=>exact ⟨_,_,rfl⟩
theorem aOd{r:List aF}:∀{xs:List SV} {vs:List Value},aD r (lH xs) vs->aX r xs vs
 |[],_,h=>by cases h;exact .nil
 |[x],_,h=>by
  have h':aD r (.one x) _:=h
  cases h' with|one h2 _=>exact .cons h2 .nil
 |x::x'::xs,_,h=>by
  obtain ⟨s,t,e⟩:=aP9 x x' xs
  rw [e] at h
  cases h with
  |node ha hb _ _=>cases ha with|one h1 _=>exact .cons h1 (aOd hb)
theorem aXe{r:List aF}{k n o:Nat}{L:aF}{y:Nat->Value}{vs:List Value}(hL:r[n]?=some L)(h:aD r (xC y k (.p n o)) vs):vs=(List.range 64).map λj=>if j=k then .pointer (some ⟨L.g,L.b+o,none⟩) else y j:=by
 have key:∀(l:List Nat) (vs:List Value),aX r (l.map λj=>bif Nat.beq j k then SV.p n o else .v (y j)) vs->vs=l.map λj=>if j=k then .pointer (some ⟨L.g,L.b+o,none⟩) else y j:=by
  intro l
  induction l with
  |nil=>intro vs h;cases h;rfl
  |cons j l ih =>
   intro vs h
   cases h with
   |cons h t =>
    rw [ih _ t]
    replace h:aP r (bif Nat.beq j k then SV.p n o else .v (y j)) _:=h
    rw [bE] at h
    by_cases e:j=k
    ·simp only [e,decide_true,cond_true] at h
     cases h with|p h'=>rw [hL] at h';cases h';simp [e]
    ·simp only [e,decide_false,cond_false] at h
     cases h;simp [e]
 exact key _ _ (aOd h)
theorem a9p{w w':World}{cv cv':Nat->Prop}{q:Nat}{b:aQ}(hb:Below w.heap.size w w')(hq:q<w.heap.size)(hcv:∀j,cv j->j<w.heap.size)(hcc:∀j,cv j->cv' j)(h:aGW w cv q b):aGW w' cv' q b:=by
 obtain ⟨a,c,num,nxt,h1,h2,h3,h4,h5,h6,h7⟩:=h
 have e:∀(g:Nat),g<w.heap.size->∀o,w'.cell? ⟨g,o,none⟩=w.cell? ⟨g,o,none⟩:=λg hg o=>World.cell?_of_block (hb.block g hg)
 exact ⟨a,c,num,nxt,hcc a h1,h2,(e q hq _).trans h3,(e q hq _).trans h4,(e q hq _).trans h5,(e q hq _).trans h6,λj v hv=>(e a (hcv a h1) _).trans (h7 j v hv)⟩
theorem aM4(k m n:Nat)(hk:k<56)(hn:n=32∨n=137∨n=185)(w:World)(hg:cG Xt w)(g c0:Nat)(hc0:1≤c0)(hgl:g<w.heap.size)(cv:Nat->Prop)(hcv:∀j,cv j->j<w.heap.size)(l:List (Option aQ))(hd:uA w g cv l)(hlk:l[k]?=some none)(x:aQ)(hx:x.n=n)(g2 o2 c2:Nat)(hc2:n≤c2)(hr:bH w w.heap.size 1 (some ⟨g2,o2,none⟩) n (nv .u8 x.l))(q:Int):
 Calls Xt.P 25 #[.agg #[.int .i64 (.ofNat (m+(k+1))),.int .i64 q,.slice (some ⟨g,0,none⟩) 1 c0],.int .i64 (.ofNat k),.slice (some ⟨g2,o2,none⟩) n c2] w λe w'=>∃g',w.heap.size≤g'∧g'<w'.heap.size ∧
  e=.returned (.tuple #[.agg #[.int .i64 (.ofNat (m+(k+1))),.int .i64 (IntKind.i64.wrap (q+1)),.slice (some ⟨g',0,none⟩) 1 1],.int .i64 0])∧uA w' g' (λj=>cv j∨(w.heap.size≤j∧j<w'.heap.size)) (l.set k (some x))∧Below w.heap.size w w':=by
 obtain ⟨p,h1,h2,ps,h3,h4,h5⟩:=hd
 have hpk:ps[k]?=some none:=by
  have:=h5 k none hlk
  cases hq:ps[k]? with
  |none=>have:=List.getElem?_eq_none_iff.1 hq;omega
  |some y =>
   cases y with
   |none=>rfl
   |some y=>rw [hq] at this;obtain ⟨_,b,hb,_⟩:=this;cases hb
 obtain ⟨y,hy⟩:∃y:Nat->Value,y=λj=>P4 ((ps[j]?).getD none):=⟨_,rfl⟩
 have hy1:∀j,(y j).oneCell'=true:=λj=>by rw [hy];rfl
 have hrun:kX y k m n eW x.l q=kU y k m n eW x.l 1 q:=by
  rcases hn with rfl|rfl|rfl
  ·exact aZ0 k hk y m x.l q
  ·exact aXT k hk y m x.l q
  ·exact bBt k hk y m x.l q
 unfold kX aKz kU at hrun
 split at hrun
 ·rename_i res st hc
  simp only [b6,cH] at hrun
  obtain ⟨rfl,e12,e10,e11,e7⟩:=hrun
  obtain ⟨ad,ead,hg2,hcell⟩:=hr.2 (by omega)
  cases ead
  have hm1:=(aG.start Xt w hg).addF gM.start ⟨p,0,0,none,λ_=>False⟩ 203 (xC y k eW) _ (aLd (r:=[⟨p,0,0,none,λ_=>False⟩]) y (.v (.pointer none)) hy1 rfl) (hcv p h2) (aS _) (λj v hv=>by
   rw [jC] at hv
   obtain ⟨i,hi,rfl⟩:=dE.1 hv
   obtain ⟨hj,rfl⟩:=rI.1 hi
   simp only [List.getElem_range,List.length_range] at hj ⊢
   show w.cell? ⟨p,0+j,none⟩=_
   rw [Nat.zero_add]
   have hlt:j<ps.length:=by rw [h3];simpa using hj
   have e:=h4 j ps[j] (eZ hlt)
   rw [e]
   by_cases e2:j=k
   ·subst e2
    rw [eZ hlt] at hpk
    rw [jR hpk,if_pos rfl]
    rfl
   ·rw [if_neg e2,hy]
    simp [P4,eZ hlt])
  have hm2:=hm1.addF (gM.start.put _ _ _) ⟨g,0,c0,none,λ_=>False⟩ 240 (.one (.p 0 0)) [.pointer (some ⟨p,0+0,none⟩)] (.one (.p (L:=⟨p,0,0,none,λ_=>False⟩) rfl) rfl) hgl (aS _) (λj v hv=>by
   cases j with
   |zero=>simp only [List.getElem?_cons_zero,b6] at hv;subst hv;exact h1
   |succ j=>simp at hv)
  have hm3:=hm2.addF ((gM.start.put _ _ _).put _ _ _) ⟨g2,o2,c2,none,λ_=>False⟩ 5 (.arr .u8 n x.l) (nv .u8 x.l) (.arr (x.hl.trans hx)) hg2 (aS _) (λj v hv=>by have:=hcell j v hv;rwa [eX] at this)
  have hm4:aG (E0 Xt w) [⟨p,0,0,none,λ_=>False⟩,⟨g,0,c0,none,λ_=>False⟩,⟨g2,o2,c2,none,λ_=>False⟩] (hpW y k eW n x.l) 3 w:=hm3
  have hargs:aX [(⟨p,0,0,none,λ_=>False⟩:aF),⟨g,0,c0,none,λ_=>False⟩,⟨g2,o2,c2,none,λ_=>False⟩] [zN (m+(k+1)) q (.w 1 1),.v (.int .i64 (.ofNat k)),.w 2 n] [.agg #[.int .i64 (.ofNat (m+(k+1))),.int .i64 q,.slice (some ⟨g,0,none⟩) 1 c0],.int .i64 (.ofNat k),.slice (some ⟨g2,o2,none⟩) n c2]:=by
   refine .cons ?_ (.cons (.v _) (.cons (.w (L:=⟨g2,o2,c2,none,λ_=>False⟩) rfl hc2) .nil))
   exact .a (vs:=[.int .i64 (.ofNat (m+(k+1))),.int .i64 q,.slice (some ⟨g,0,none⟩) 1 c0]) (.node (us:=[.int .i64 (.ofNat (m+(k+1)))]) (.one (.v _) rfl) (.node (us:=[.int .i64 q]) (.one (.v _) rfl) (.one (.w (L:=⟨g,0,c0,none,λ_=>False⟩) rfl hc0) rfl) rfl rfl) rfl rfl)
  refine (oX (E:=E0 Xt w) aH aDw hc hargs hm4).mono λe w' ⟨qq,v,he,hdv,hm⟩=>?_
  obtain ⟨L12,hL12,u12,hd12,⟨_,hge12,hb12,hblk12⟩|⟨hbad,_⟩|⟨hbad,_⟩⟩:=hm.blk 12 _ e12
  ·obtain ⟨L10,hL10,u10,hd10,⟨_,hge10,hb10,hblk10⟩|⟨hbad,_⟩|⟨hbad,_⟩⟩:=hm.blk 10 _ e10
   ·obtain ⟨L11,hL11,u11,hd11,⟨_,hge11,hb11,hblk11⟩|⟨hbad,_⟩|⟨hbad,_⟩⟩:=hm.blk 11 _ e11
    ·obtain ⟨L7,hL7,u7,hd7,⟨hbad,_⟩|⟨_,hge7,hb7,rest,hblk7,hz7,hc7,_⟩|⟨hbad,_⟩⟩:=hm.blk 7 _ e7
     ·cases hbad
     ·obtain rfl:=aXe hL11 hd10
      cases hd12 with|one hd12 _=>cases hd12 with|p hq10 =>
       rw [hL10] at hq10
       cases hq10
       cases hd7 with|arr hl7 =>
        cases hd11 with|node ha1 hb1 _ _=>cases ha1 with|one ha1 _=>cases ha1;cases hb1 with|node ha2 hb2 _ _=>cases ha2 with|one ha2 _=>cases ha2 with|w hq7 hlc=>rw [hL7] at hq7;cases hq7;cases hb2 with|node ha3 hb3 _ _=>cases ha3 with|one ha3 _=>cases ha3;cases hb3 with|one hb3 _ =>
         cases hb3
         have hbw:Below w.heap.size w w':=hm.below
         unfold zN at hdv
         refine ⟨L12.g,hge12,hblk12.lt,?_,⟨L10.g,?_,.inr ⟨hge10,hblk10.lt⟩,ps.set k (some L11.g),by simpa using h3,λj z hz=>?_,λj z hz=>?_⟩,hbw⟩
         ·cases hdv with|t d=>cases d with|cons d1 d2=>cases d2 with|cons d2 d3 =>
           cases d3
           cases d2
           cases d1 with|a d1=>cases d1 with|node p1 p2 _ _=>cases p1 with|one p1 _=>cases p1;cases p2 with|node p2 p3 _ _=>cases p2 with|one p2 _=>cases p2;cases p3 with|one p3 _=>cases p3 with|s hq12 =>
            rw [hL12] at hq12
            cases hq12
            rw [he,hb12]
            rfl
         ·rw [hblk12.cell,hb10];rfl
         ·have hj:j<64:=by have:=(rI.1 hz).1;simpa [h3] using this
          rw [hblk10.cell]
          have:((List.range 64).map λj=>if j=k then Value.pointer (some ⟨L11.g,L11.b+0,none⟩) else y j)[j]?=some (if j=k then Value.pointer (some ⟨L11.g,L11.b+0,none⟩) else y j):=by simp [hj]
          simp only [List.getElem?_toArray]
          rw [this]
          by_cases ej:j=k
          ·subst ej
           rw [List.getElem?_set_self (by omega)] at hz
           cases hz
           rw [if_pos rfl,hb11]
           rfl
          ·rw [List.getElem?_set_ne (by omega)] at hz
           rw [if_neg ej,hy]
           show some (P4 ((ps[j]?).getD none))=_
           rw [hz]
           rfl
         ·by_cases ej:j=k
          ·subst ej
           have hjl:j<l.length:=(rI.1 hlk).1
           rw [List.getElem?_set_self hjl] at hz
           cases hz
           rw [List.getElem?_set_self (by omega)]
           refine ⟨.inr ⟨hge11,hblk11.lt⟩,x,rfl,L7.g,L7.c,1,none,.inr ⟨hge7,hblk7.lt⟩,by omega,?_,?_,?_,?_,λi u hu=>?_⟩
           ·rw [hblk11.cell];rfl
           ·rw [hblk11.cell,hb7,hx];rfl
           ·rw [hblk11.cell];rfl
           ·rw [hblk11.cell];rfl
           ·rw [hblk7.cell]
            simp only [List.getElem?_toArray]
            rw [mZ (rI.1 hu).1]
            exact hu
          ·rw [List.getElem?_set_ne (by omega)] at hz
           rw [List.getElem?_set_ne (by omega)]
           have h6:=h5 j z hz
           split at h6
           ·rename_i q' _
            obtain ⟨hq',b,hb,hv⟩:=h6
            exact ⟨.inl hq',b,hb,a9p hbw (hcv _ hq') hcv (λ_ h=>.inl h) hv⟩
           ·exact h6
     ·exact absurd hbad (by show ¬ 2≤1;decide)
    ·cases hbad
    ·exact absurd hbad (by show ¬ 2≤0;decide)
   ·cases hbad
   ·exact absurd hbad (by show ¬ 2≤0;decide)
  ·cases hbad
  ·exact absurd hbad (by show ¬ 2≤0;decide)
 ·cases hrun
def hpR(y:Nat->Value)(k n:Nat)(l:List Nat)(b:Value)(q:Int):Tr:=(((bC.e.put 0 ⟨5,.arr .u8 n l,2⟩).put 1 ⟨312,.node 1 4 (.one (.v (.bool true))) (.node 1 3 (.one (.w 0 n)) (.node 1 2 (.one (.v (.int .i64 q))) (.one (.v b)))),2⟩).put 2 ⟨203,xC y k (.p 1 0),2⟩).put 3 ⟨240,.one (.p 2 0),2⟩
def aJt(x:Option (SV×St)):Option (SV×Option HB):=match x with
 |some (y,st)=>some (y,st.hp.get 7)
 |none=>none
def kV(y:Nat->Value)(k m n:Nat)(l:List Nat)(b:Value)(q c:Int):Option (SV×Option HB) :=
 aJt (eP H0 Xt 12 74 [zN (m+(k+1)) c (.w 3 1),.v (.int .i64 (.ofNat k))] (hpR y k n l b q) 4)
def kM(n:Nat)(l:List Nat):Option (SV×Option HB):=some (.t [.s 7 0 n n,bM],some ⟨5,.arr .u8 n l,1⟩)
theorem aSp(y:Nat->Value)(m:Nat)(l:List Nat)(b:Value)(q c:Int):(kd 0 14).map (λk=>kV y k m 32 l b q c)=(kd 0 14).map λ_=>kM 32 l:=by kernel_rfl
theorem a0a(y:Nat->Value)(m:Nat)(l:List Nat)(b:Value)(q c:Int):(kd 14 28).map (λk=>kV y k m 32 l b q c)=(kd 14 28).map λ_=>kM 32 l:=by kernel_rfl
theorem aVL(y:Nat->Value)(m:Nat)(l:List Nat)(b:Value)(q c:Int):(kd 28 42).map (λk=>kV y k m 32 l b q c)=(kd 28 42).map λ_=>kM 32 l:=by kernel_rfl
theorem bAb(y:Nat->Value)(m:Nat)(l:List Nat)(b:Value)(q c:Int):(kd 42 56).map (λk=>kV y k m 32 l b q c)=(kd 42 56).map λ_=>kM 32 l:=by kernel_rfl
theorem a6X(k:Nat)(hk:k<56)(y:Nat->Value)(m:Nat)(l:List Nat)(b:Value)(q c:Int):kV y k m 32 l b q c=kM 32 l:=zX (aSp y m l b q c) (a0a y m l b q c) (aVL y m l b q c) (bAb y m l b q c) k hk
theorem bEi(y:Nat->Value)(m:Nat)(l:List Nat)(b:Value)(q c:Int):(kd 0 14).map (λk=>kV y k m 137 l b q c)=(kd 0 14).map λ_=>kM 137 l:=by kernel_rfl
theorem bA5(y:Nat->Value)(m:Nat)(l:List Nat)(b:Value)(q c:Int):(kd 14 28).map (λk=>kV y k m 137 l b q c)=(kd 14 28).map λ_=>kM 137 l:=by kernel_rfl
theorem a7E(y:Nat->Value)(m:Nat)(l:List Nat)(b:Value)(q c:Int):(kd 28 42).map (λk=>kV y k m 137 l b q c)=(kd 28 42).map λ_=>kM 137 l:=by kernel_rfl
theorem bB1(y:Nat->Value)(m:Nat)(l:List Nat)(b:Value)(q c:Int):(kd 42 56).map (λk=>kV y k m 137 l b q c)=(kd 42 56).map λ_=>kM 137 l:=by kernel_rfl
theorem a6i(k:Nat)(hk:k<56)(y:Nat->Value)(m:Nat)(l:List Nat)(b:Value)(q c:Int):kV y k m 137 l b q c=kM 137 l:=zX (bEi y m l b q c) (bA5 y m l b q c) (a7E y m l b q c) (bB1 y m l b q c) k hk
theorem aUP(y:Nat->Value)(m:Nat)(l:List Nat)(b:Value)(q c:Int):(kd 0 14).map (λk=>kV y k m 185 l b q c)=(kd 0 14).map λ_=>kM 185 l:=by kernel_rfl
theorem aTl(y:Nat->Value)(m:Nat)(l:List Nat)(b:Value)(q c:Int):(kd 14 28).map (λk=>kV y k m 185 l b q c)=(kd 14 28).map λ_=>kM 185 l:=by kernel_rfl
theorem a5Z(y:Nat->Value)(m:Nat)(l:List Nat)(b:Value)(q c:Int):(kd 28 42).map (λk=>kV y k m 185 l b q c)=(kd 28 42).map λ_=>kM 185 l:=by kernel_rfl
theorem aZc(y:Nat->Value)(m:Nat)(l:List Nat)(b:Value)(q c:Int):(kd 42 56).map (λk=>kV y k m 185 l b q c)=(kd 42 56).map λ_=>kM 185 l:=by kernel_rfl
theorem aWN(k:Nat)(hk:k<56)(y:Nat->Value)(m:Nat)(l:List Nat)(b:Value)(q c:Int):kV y k m 185 l b q c=kM 185 l:=zX (aUP y m l b q c) (aTl y m l b q c) (a5Z y m l b q c) (aZc y m l b q c) k hk
theorem aOu(k m n:Nat)(hk:k<56)(hn:n=32∨n=137∨n=185)(w:World)(hg:cG Xt w)(g c0:Nat)(hc0:1≤c0)(hgl:g<w.heap.size)(cv:Nat->Prop)(hcv:∀j,cv j->j<w.heap.size)(l:List (Option aQ))(hd:uA w g cv l)(x:aQ)(hlk:l[k]?=some (some x))(hx:x.n=n)(q:Int):
 Calls Xt.P 74 #[.agg #[.int .i64 (.ofNat (m+(k+1))),.int .i64 q,.slice (some ⟨g,0,none⟩) 1 c0],.int .i64 (.ofNat k)] w λe w'=>∃p c rest,e=.returned (.tuple #[.slice (some ⟨p,0,none⟩) n n,.int .i64 0])∧w.heap.size≤p ∧
  aC w' p 5 (nv .u8 x.l++rest:List Value).toArray∧(nv .u8 x.l).length+rest.length=c∧c≤maxLen∧Below w.heap.size w w':=by
 obtain ⟨p,h1,h2,ps,h3,h4,h5⟩:=hd
 have h6:=h5 k (some x) hlk
 split at h6
 ·rename_i q' hq'
  obtain ⟨hcq,b,hb,a,c,num,nxt,g1,g2,g3,g4,g5,g6,g7⟩:=h6
  cases hb
  rw [hx] at g2 g4
  obtain ⟨y,hy⟩:∃y:Nat->Value,y=λj=>P4 ((ps[j]?).getD none):=⟨_,rfl⟩
  have hy1:∀j,(y j).oneCell'=true:=λj=>by rw [hy];rfl
  have hrun:kV y k m n x.l (.pointer nxt) num q=kM n x.l:=by
   rcases hn with rfl|rfl|rfl
   ·exact a6X k hk y m x.l _ num q
   ·exact a6i k hk y m x.l _ num q
   ·exact aWN k hk y m x.l _ num q
  unfold kV aJt kM at hrun
  split at hrun
  ·rename_i res st hc
   simp only [b6,cH] at hrun
   obtain ⟨rfl,e7⟩:=hrun
   have hm1:=(aG.start Xt w hg).addF gM.start ⟨a,0,c,none,λ_=>False⟩ 5 (.arr .u8 n x.l) (nv .u8 x.l) (.arr (x.hl.trans hx)) (hcv a g1) (aS _) (λj v hv=>by
    show w.cell? ⟨a,0+j,none⟩=_
    rw [Nat.zero_add];exact g7 j v hv)
   have hm2:=hm1.addF (gM.start.put _ _ _) ⟨q',0,0,none,λ_=>False⟩ 312 (.node 1 4 (.one (.v (.bool true))) (.node 1 3 (.one (.w 0 n)) (.node 1 2 (.one (.v (.int .i64 num))) (.one (.v (.pointer nxt)))))) [.bool true,.slice (some ⟨a,0,none⟩) n c,.int .i64 num,.pointer nxt]
    (.node (us:=[.bool true]) (.one (.v _) rfl) (.node (us:=[.slice (some ⟨a,0,none⟩) n c]) (.one (.w (L:=⟨a,0,c,none,λ_=>False⟩) rfl g2) rfl) (.node (us:=[.int .i64 num]) (.one (.v _) rfl) (.one (.v _) rfl) rfl rfl) rfl rfl) rfl rfl) (hcv q' hcq) (aS _) (λj v hv=>by
    show w.cell? ⟨q',0+j,none⟩=_
    rw [Nat.zero_add]
    match j,hv with
    |0,hv=>cases hv;exact g3
    |1,hv=>cases hv;exact g4
    |2,hv=>cases hv;exact g5
    |3,hv=>cases hv;exact g6
    |j+4,hv=>simp at hv)
   have hm3:=hm2.addF ((gM.start.put _ _ _).put _ _ _) ⟨p,0,0,none,λ_=>False⟩ 203 (xC y k (.p 1 0)) _ (aLd y (.p (n:=1) (o:=0) (L:=⟨q',0,0,none,λ_=>False⟩) rfl) hy1 rfl) (hcv p h2) (aS _) (λj v hv=>by
    rw [jC] at hv
    obtain ⟨i,hi,rfl⟩:=dE.1 hv
    obtain ⟨hj,rfl⟩:=rI.1 hi
    simp only [List.getElem_range,List.length_range] at hj ⊢
    show w.cell? ⟨p,0+j,none⟩=_
    rw [Nat.zero_add]
    have hlt:j<ps.length:=by rw [h3];simpa using hj
    have e:=h4 j ps[j] (eZ hlt)
    rw [e]
    by_cases e2:j=k
    ·subst e2
     rw [eZ hlt] at hq'
     rw [jR hq',if_pos rfl]
     rfl
    ·rw [if_neg e2,hy]
     simp [P4,eZ hlt])
   have hm4:=hm3.addF (((gM.start.put _ _ _).put _ _ _).put _ _ _) ⟨g,0,c0,none,λ_=>False⟩ 240 (.one (.p 2 0)) [.pointer (some ⟨p,0+0,none⟩)] (.one (.p (L:=⟨p,0,0,none,λ_=>False⟩) rfl) rfl) hgl (aS _) (λj v hv=>by
    cases j with
    |zero=>simp only [List.getElem?_cons_zero,b6] at hv;subst hv;exact h1
    |succ j=>simp at hv)
   have hm5:aG (E0 Xt w) [⟨a,0,c,none,λ_=>False⟩,⟨q',0,0,none,λ_=>False⟩,⟨p,0,0,none,λ_=>False⟩,⟨g,0,c0,none,λ_=>False⟩] (hpR y k n x.l (.pointer nxt) num) 4 w:=hm4
   have hargs:aX [(⟨a,0,c,none,λ_=>False⟩:aF),⟨q',0,0,none,λ_=>False⟩,⟨p,0,0,none,λ_=>False⟩,⟨g,0,c0,none,λ_=>False⟩] [zN (m+(k+1)) q (.w 3 1),.v (.int .i64 (.ofNat k))] [.agg #[.int .i64 (.ofNat (m+(k+1))),.int .i64 q,.slice (some ⟨g,0,none⟩) 1 c0],.int .i64 (.ofNat k)]:=by
    refine .cons ?_ (.cons (.v _) .nil)
    exact .a (vs:=[.int .i64 (.ofNat (m+(k+1))),.int .i64 q,.slice (some ⟨g,0,none⟩) 1 c0]) (.node (us:=[.int .i64 (.ofNat (m+(k+1)))]) (.one (.v _) rfl) (.node (us:=[.int .i64 q]) (.one (.v _) rfl) (.one (.w (L:=⟨g,0,c0,none,λ_=>False⟩) rfl hc0) rfl) rfl rfl) rfl rfl)
   refine (oX (E:=E0 Xt w) aH aDw hc hargs hm5).mono λe w' ⟨qq,v,he,hdv,hm⟩=>?_
   obtain ⟨L7,hL7,u7,hd7,⟨hbad,_⟩|⟨_,hge7,hb7,rest,hblk7,hz7,hc7,hmax⟩|⟨hbad,_⟩⟩:=hm.blk 7 _ e7
   ·cases hbad
   ·cases hd7 with|arr hl7 =>
     cases hdv with|t d=>cases d with|cons d1 d2=>cases d2 with|cons d2 d3 =>
      cases d3;cases d2
      cases d1 with|s hq7 =>
       rw [hL7] at hq7
       cases hq7
       rw [hb7] at he
       have hc7':(nv .u8 x.l).length+rest.length=L7.c:=by
        have h:=hc7
        rw [show (E0 Xt w).X.P.cellsOf 5=1 from by kernel_rfl,Nat.mul_one] at h
        exact h
       exact ⟨L7.g,L7.c,rest,he,hge7,hblk7,hc7',hmax,hm.below⟩
   ·exact absurd hbad (by show ¬ 2≤1;decide)
  ·cases hrun
 ·cases h6
def a6m:List (FuncId×bV):=stops [74] oL
def HL:Hk:=cZ Xt (cT a6m) 14 6
theorem a48:bZ Xt HL:=eH aH (jQ pG) 6
def aW(n:Nat):Nat:=2*n+2*aT n
def mA(sz:Nat)(q:Int)(v:Value):Rp SV:=cB [.one (aM sz),.one (.v (.int .i64 q)),.one (.v v)]
def bBV(n:Nat)(q:Int)(v:Value):Rp SV:=.node 1 4 (.one (aM n)) (mA (aW n) q v)
def ndA(n lv ix s:Nat)(q:Int)(v:Value)(dg:List Nat):List SV:=[.a (bBV n q v),.a (.node 1 2 (.one (aM lv)) (.one (aM ix))),aM s,.a (.arr .u8 32 dg)]
def rdR(x:bD)(k:Nat):SV:=.t [.s k 0 (At.nodeB x).size (At.nodeB x).size,bM]
def rdN(x:bD):List HB:=[⟨5,.q (.nodeB x),1⟩]
def ldE(x:bD):List Ev:=[.c [] (rdR x) (rdN x),.b false,.b false,.b false,.b false]
def lO(n lv ix s:Nat):Nat:=jE n lv+(2*ix+s)
def ldO(n lv ix s:Nat)(x:bD)(q:Int)(v:Value)(dg:List Nat):List Ob:=[.c 74 [.a (mA (aW n) q v),aM (lO n lv ix s)] [] [] 10 (rdR x 10) (rdN x),.t false false,.t false false,.t false false,.t (!(decide (Sh.shaF x.bytes=dg)&&true)) false]
def oV:Rp SV:=.node 1 2 (.one (aM 0)) (.one (.v (.int .u8 0)))
def ldX(n lv ix s:Nat)(R:Nat->aA)(E:Nat->aJ)(q:Int)(v:Value)(dg:List Nat):aB×List Ob:=cL ⟨[14],[],1⟩ HL Xt 12 (ldE (bP n R E lv ix)) (eA Xt 181 (ndA n lv ix s q v dg) .e 0)
def aOa(n:Nat)(R:Nat->aA)(E:Nat->aJ)(q:Int)(v:Value)(dg:List Nat)(d:(Nat×Nat)×Nat):Option SV×List Ob:=((dS Xt 181 (ldX n d.1.1 d.1.2 d.2 R E q v dg).1).map (·.1),(ldX n d.1.1 d.1.2 d.2 R E q v dg).2)
def nE(x:bD):SV:=.t [.a (.q (.node x)),.a oV,bM]
def aMP(n:Nat)(R:Nat->aA)(E:Nat->aJ)(q:Int)(v:Value)(dg:List Nat)(d:(Nat×Nat)×Nat):Option SV×List Ob:=(some (nE (bP n R E d.1.1 d.1.2)),ldO n d.1.1 d.1.2 d.2 (bP n R E d.1.1 d.1.2) q v dg)
def aAO(n:Nat):List ((Nat×Nat)×Nat):=(fR n).flatMap λp=>[(p,0),(p,1)]
def iM(n:Nat):Prop:=∀(R:Nat->aA) (E:Nat->aJ) (q:Int) (v:Value) (dg:List Nat),(aAO n).map (aOa n R E q v dg)=(aAO n).map (aMP n R E q v dg)
theorem a9N:iM 1:=by intro R E q v dg;kernel_rfl
theorem a8H:iM 2:=by intro R E q v dg;kernel_rfl
theorem aYq:iM 3:=by intro R E q v dg;kernel_rfl
theorem a3A:iM 4:=by intro R E q v dg;kernel_rfl
theorem aWD:iM 5:=by intro R E q v dg;kernel_rfl
theorem a5Y:iM 6:=by intro R E q v dg;kernel_rfl
theorem a50:iM 7:=by intro R E q v dg;kernel_rfl
theorem aT7:iM 8:=by intro R E q v dg;kernel_rfl
theorem aRb:iM 9:=by intro R E q v dg;kernel_rfl
theorem a42:iM 10:=by intro R E q v dg;kernel_rfl
theorem a66:iM 11:=by intro R E q v dg;kernel_rfl
theorem a8c:iM 12:=by intro R E q v dg;kernel_rfl
theorem a6Q:iM 13:=by intro R E q v dg;kernel_rfl
theorem aZx:iM 14:=by intro R E q v dg;kernel_rfl
theorem a8X:iM 15:=by intro R E q v dg;kernel_rfl
theorem a8W:iM 16:=by intro R E q v dg;kernel_rfl
theorem a28:iM 17:=by intro R E q v dg;kernel_rfl
theorem aVk:iM 18:=by intro R E q v dg;kernel_rfl
theorem a5m:iM 19:=by intro R E q v dg;kernel_rfl
theorem a70:iM 20:=by intro R E q v dg;kernel_rfl
theorem aYn:∀n,1≤n->n≤20->iM n
 |1,_,_=>a9N
 |2,_,_=>a8H
 |3,_,_=>aYq
 |4,_,_=>a3A
 |5,_,_=>aWD
 |6,_,_=>a5Y
 |7,_,_=>a50
 |8,_,_=>aT7
 |9,_,_=>aRb
 |10,_,_=>a42
 |11,_,_=>a66
 |12,_,_=>a8c
 |13,_,_=>a6Q
 |14,_,_=>aZx
 |15,_,_=>a8X
 |16,_,_=>a8W
 |17,_,_=>a28
 |18,_,_=>aVk
 |19,_,_=>a5m
 |20,_,_=>a70
 |n+21,_,h=>absurd h (by omega)
 |0,h,_=>absurd h (by omega)
theorem aDR{w w':World}{g:Nat}{cv:Nat->Prop}{l:List (Option aQ)}(h:uA w g cv l)(hb:Below w.heap.size w w')(hg:g<w.heap.size)(hcv:∀j,cv j->j<w.heap.size):uA w' g cv l :=
 aDM 1 0 w w' g cv l h (hb.block g hg) λk hk=>hb.block k (hcv k hk)
theorem aYw:(fN 20 λ_=>3).map (λq=>(List.range (aL (q.1+1) q.2)).all λi=>Nat.blt (lO (q.1+1) q.2 i 1) (aW (q.1+1))&&Nat.ble (aW (q.1+1)) 56)=(fN 20 λ_=>3).map (λ_=>true):=by kernel_rfl
theorem X6{n lv ix s:Nat}(h1:1≤n)(h20:n≤20)(hl:lv<3)(hi:ix<aL n lv)(hs:s<2):lO n lv ix s<aW n∧aW n≤56:=by
 obtain ⟨m,rfl⟩:∃m,n=m+1:=⟨n-1,by omega⟩
 have:=cW aYw (pU (f:=λ_=>3) (show m<20 by omega) hl)
 simp only [kK,dF,bJ,bO,cY,bR] at this
 have h:=this ix hi
 unfold lO at h ⊢
 exact ⟨by omega,h.2⟩
theorem aJD(x:bD):(aQ.nd x).n=(At.nodeB x).size∧((aQ.nd x).n=32∨(aQ.nd x).n=137∨(aQ.nd x).n=185):=by cases x<;>exact ⟨rfl,by simp [aQ.n]⟩
structure mT(w:World)(g c0:Nat)(L:List (Option aQ)) where
 cv:Nat->Prop
 hg:g<w.heap.size
 hc:1≤c0
 hcv:∀j,cv j->j<w.heap.size
 hd:uA w g cv L
theorem a18{w:World}{n lv ix s g c0 nx:Nat}{x:bD}{q:Int}{L:List (Option aQ)}(h1:1≤n)(h20:n≤20)(hl:lv<3)(hi:ix<aL n lv)(hs:s<2)(hd:mT w g c0 L)(hL:L[lO n lv ix s]?=some (some (.nd x))):
 o4 (E0 Xt w) 74 [.a (mA (aW n) q (.slice (some ⟨g,0,none⟩) 1 c0)),aM (lO n lv ix s)] [] [] nx (rdR x nx) (rdN x):=by
 intro r vals w1 hp ha hm _
 obtain ⟨hlt,h56⟩:=X6 h1 h20 hl hi hs
 obtain ⟨m,hmk⟩:∃m,aW n=m+(lO n lv ix s+1):=⟨aW n-(lO n lv ix s+1),by omega⟩
 refine ⟨λw'=>bB (by kernel_rfl) _ w',?_⟩
 have hb:Below w.heap.size w w1:=hm.below
 have hv:vals=[.agg #[.int .i64 (.ofNat (m+(lO n lv ix s+1))),.int .i64 q,.slice (some ⟨g,0,none⟩) 1 c0],.int .i64 (.ofNat (lO n lv ix s))]:=by
  cases ha with|cons d1 t=>cases t with|cons d2 t =>
   cases t;cases d2
   cases d1 with|a d1 =>
    have d1':aD r (.node 1 3 (.one (aM (aW n))) (.node 1 2 (.one (.v (.int .i64 q))) (.one (.v (.slice (some ⟨g,0,none⟩) 1 c0))))) _:=d1
    cases d1' with|node e1 e2 _ _=>cases e2 with|node e2 e3 _ _ =>
     rw [bQ e1,bQ e2,bQ e3,hmk]
     rfl
 rw [hv]
 obtain ⟨hn1,hn2⟩:=aJD x
 refine (aOu (lO n lv ix s) m (aQ.nd x).n (by omega) hn2 w1 hm.globs g c0 hd.hc (eQ hd.hg hb.size) hd.cv (λj hj=>eQ (hd.hcv j hj) hb.size) L (aDR hd.hd hb hd.hg hd.hcv) (.nd x) hL rfl q).mono ?_
 rintro e w' ⟨p,c,rest,rfl,hp1,hblk,hlen,hmax,hbw⟩
 refine ⟨[⟨p,0,c,none,λ_=>False⟩],_,rfl,?_,?_⟩
 ·rw [hn1]
  exact .t (.cons (aP.s (L:=⟨p,0,c,none,λ_=>False⟩) (o:=0) (by rw [<-hm.len];simp)) (.cons (.v _) .nil))
 ·exact hm.add1 hbw ⟨p,0,c,none,λ_=>False⟩ ⟨5,.q (.nodeB x),1⟩ hp1 ⟨_,.q (.nodeB x),.inr (.inl ⟨rfl,bI hm.below.size hp1,rfl,rest,hblk,by rw [show (E0 Xt w).X.P.cellsOf 5=1 from by kernel_rfl];decide,by rw [show (E0 Xt w).X.P.cellsOf 5=1 from by kernel_rfl,Nat.mul_one];exact hlen,hmax⟩)⟩ (.inl (by show 1<2;decide))
theorem aIC{n lv ix:Nat}(hl:lv<3)(hi:ix<aL n lv):(lv,ix)∈fR n:=pU (f:=aL n) hl hi
theorem aL7(n lv ix s g c0:Nat)(R:Nat->aA)(E:Nat->aJ)(q:Int)(h1:1≤n)(h20:n≤20)(hl:lv<3)(hi:ix<aL n lv)(hs:s<2)(w:World)(hg:cG Xt w)(L:List (Option aQ))(hd:mT w g c0 L)(hL:L[lO n lv ix s]?=some (some (.nd (bP n R E lv ix))))
 (dg:List Nat) (hdg:Sh.shaF (bP n R E lv ix).bytes=dg) :
 Calls Xt.P 181 #[.agg #[.int .i64 (n:Int),.int .i64 (aW n:Int),.int .i64 q,.slice (some ⟨g,0,none⟩) 1 c0],.agg #[.int .i64 (lv:Int),.int .i64 (ix:Int)],.int .i64 (s:Int),.agg (nv .u8 dg).toArray] w λe w' =>
  e=.returned (.tuple #[.agg (bP n R E lv ix).vals.toArray,.agg #[.int .i64 0,.int .u8 0],.int .i64 0])∧Below w.heap.size w w':=by
 have hmem:((lv,ix),s)∈aAO n:=by
  simp only [aAO,List.mem_flatMap]
  refine ⟨(lv,ix),aIC hl hi,?_⟩
  rcases s with _|_|s
  ·simp
  ·simp
  ·omega
 have h:=cW (aYn n h1 h20 R E q (.slice (some ⟨g,0,none⟩) 1 c0) dg) hmem
 unfold aOa aMP at h
 simp only [cH] at h
 obtain ⟨h2,h3⟩:=h
 obtain ⟨⟨res,st⟩,h4,h5⟩:=dE.1 h2
 simp only at h5
 subst h5
 refine (iQ (E:=E0 Xt w) (r:=[]) (vals:=[.agg #[.int .i64 (n:Int),.int .i64 (aW n:Int),.int .i64 q,.slice (some ⟨g,0,none⟩) 1 c0],.agg #[.int .i64 (lv:Int),.int .i64 (ix:Int)],.int .i64 (s:Int),.agg (nv .u8 dg).toArray]) aH a48 h4 ?_ ?_ (aG.start Xt w hg)).mono ?_
 ·intro ob hob
  have hob':ob∈(ldX n lv ix s R E q (.slice (some ⟨g,0,none⟩) 1 c0) dg).2:=hob
  rw [h3] at hob'
  simp only [ldO,bG,cK,or_false] at hob'
  rcases hob' with rfl|rfl|rfl|rfl|rfl
  ·exact a18 h1 h20 hl hi hs hd hL
  ·rfl
  ·rfl
  ·rfl
  ·show (!(decide (Sh.shaF (bP n R E lv ix).bytes=dg)&&true))=false
   simp [hdg]
 ·refine .cons ?_ (.cons ?_ (.cons (.v _) (.cons (.a (.arr (by rw [<-hdg];exact pS _))) .nil)))
  ·exact .a (vs:=[.int .i64 (n:Int),.int .i64 (aW n:Int),.int .i64 q,.slice (some ⟨g,0,none⟩) 1 c0]) (.node (us:=[.int .i64 (n:Int)]) (.one (.v _) rfl) (.node (us:=[.int .i64 (aW n:Int)]) (.one (.v _) rfl) (.node (us:=[.int .i64 q]) (.one (.v _) rfl) (.one (.v _) rfl) rfl rfl) rfl rfl) rfl rfl)
  ·exact .a (vs:=[.int .i64 (lv:Int),.int .i64 (ix:Int)]) (.node (us:=[.int .i64 (lv:Int)]) (.one (.v _) rfl) (.one (.v _) rfl) rfl rfl)
 ·rintro e w' ⟨qq,v,he,hdv,hm⟩
  refine ⟨?_,hm.below⟩
  rw [he]
  cases hdv with|t d=>cases d with|cons d1 d=>cases d with|cons d2 d=>cases d with|cons d3 d =>
   cases d;cases d3
   cases d1 with|a d1 =>
    cases d1
    cases d2 with|a d2=>cases d2 with|node e1 e2 _ _=>rw [bQ e1,bQ e2];rfl
theorem aQ.byt(x:aQ):Sh.Byt x.l:=by
 cases x with
 |nd x=>exact x.byt
 |by_ x=>exact x.hb
theorem aNk:∀(l:List Nat) (r:ByteArray),(l.map λx:Nat=>(x:Int)).foldl (λr n=>r.push (UInt8.ofNat n.toNat)) r=⟨r.data++(l.map UInt8.ofNat).toArray⟩
 |[],r=>by simp
 |x::l,r=>by
  simp only [List.map_cons,List.foldl_cons]
  rw [aNk l]
  simp [ByteArray.push]
theorem aFW(l:List Nat):(kB l).data=(l.map UInt8.ofNat).toArray:=by
 unfold kB
 rw [aNk]
 simp
theorem a00(l:List Nat):(kB l).size=l.length:=by
 show (kB l).data.size=_
 rw [aFW];simp
theorem bDy(l:List Nat)(hb:Sh.Byt l)(n:Nat)(hn:l.length=n)(w:World):∃g c W',(convert 9 23 (.string (kB l))).run Tryz.prog w=.ok (.slice (some ⟨g,0,none⟩) n c) W'∧g<W'.heap.size∧(∀j v,(nv .u8 l)[j]?=some v->W'.cell? ⟨g,j,none⟩=some v)∧n≤c∧w.heap.size≤g∧Below w.heap.size w W':=by
 have hsz:(kB l).size=n:=by rw [a00,hn]
 have h:=run_bytes_of_string (P:=Tryz.prog) w 9 23 5 (kB l) Tryz.underlying9 Tryz.underlying23 Tryz.underlying5
 rw [hsz] at h
 have hc:=grownCap_ge w n 0 5
 generalize grownCap w n 0 5=c at *
 refine ⟨_,c,_,h,by simp,λj v hv=>?_,hc,aS _,(jV (Below.refl _ w) 1).alloc (aS _) _⟩
 have hj:j<l.length:=by
  rcases Nat.lt_or_ge j l.length with h1|h1
  ·exact h1
  ·rw [fA (by rw [aZ];exact h1)] at hv;cases hv
 rw [mL hj] at hv
 have hd:j<(kB l).data.size:=by rw [aFW];simpa using hj
 have hx:=hb.get j
 refine (World.cell?_alloc_mark w.drew _ _ _ j).trans ?_
 rw [bytesRow_at _ _ _ hd,<-hv]
 have e:((kB l).data[j]).toNat=l.getD j 0:=by
  simp only [aFW,List.getElem_toArray,List.getElem_map]
  rw [cP,eZ hj] at hx ⊢
  simp only [Option.getD_some] at hx ⊢
  rw [UInt8.toNat_ofNat']
  omega
 rw [e]
def aE7(p:aB):Option aB:=match p.h with
 | .ops ops (o::rest)=>(match gB ops p.st.ts o.guard with
  |some true=>(match o.op with
   | .convert a b x=>(match ev p.st.ts x with
    | .b y=>bif Nat.beq a 9&&Nat.beq b 23 then some ⟨.ops ops rest,p.k,⟨putS p.st.ts o.dst (.w p.st.nx y.n),p.st.hp.put p.st.nx ⟨5,.arr .u8 y.n y.l,7⟩,p.st.nx+1⟩⟩ else none
    |_=>none)
   |_=>none)
  |_=>none)
 |_=>none
theorem bDL{E:bX}{Q0:cM}{r0:List aF}{p q:aB}(hE:E.X=Xt)(h:aE7 p=some q)(hx:Xp E r0 Q0 q):Xp E r0 Q0 p:=by
 unfold aE7 at h
 split at h
 ·rename_i ops o rest hp
  split at h
  ·rename_i hg
   split at h
   ·rename_i a b x ho
    split at h
    ·rename_i y hy
     cases hq:Nat.beq a 9&&Nat.beq b 23 with
     |false=>rw [hq] at h;cases h
     |true =>
      rw [hq] at h;cases h
      rw [bJ] at hq
      obtain rfl:=eU hq.1
      obtain rfl:=eU hq.2
      intro r vs w Q hr hs hm hk
      rw [hp]
      have hv:=aP.ev (df:=cX r p.k) hs x
      rw [hy] at hv
      generalize hxv:Act.eval ⟨vs.toArray,cX r p.k⟩ x=xv at hv
      cases hv
      obtain ⟨g,c,W',hrun,hgl,hcell,hc,hge,hb⟩:=bDy y.l y.byt y.n y.hl w
      have hr2:(execOp (Act.eval ⟨vs.toArray,cX r p.k⟩) o).run E.X.P w=.ok (.value (.slice (some ⟨g,0,none⟩) y.n c)) W':=by
       have hrun':(convert 9 23 (.string (kB y.l))).run E.X.P w=.ok (.slice (some ⟨g,0,none⟩) y.n c) W':=by rw [hE];exact hrun
       simp [execOp,ho,hxv,hrun']
      refine aDW (pJ hs hg) hr2 ?_
      have hm':=hm.add1 hb ⟨g,0,c,none,λ_=>False⟩ ⟨5,.arr .u8 y.n y.l,7⟩ hge ⟨nv .u8 y.l,.arr y.hl,.inr (.inr ⟨by show 2≤7;decide,hgl,λj v hv=>by
       show W'.cell? ⟨g,0+j,none⟩=_
       rw [Nat.zero_add];exact hcell j v hv,⟨λh=>absurd h (by show ¬ 7=5;decide),λh=>absurd h (by show ¬ 7=6;decide),λ_=>bI hm.below.size hge,λh=>absurd h (by show ¬ 7=8;decide)⟩⟩)⟩ (.inr (by show 5≤7;decide))
      have:=hx (r++[⟨g,0,c,none,λ_=>False⟩]) _ W' Q (ext hr _) (bU.putS (hs.mono _) (aP.w (L:=⟨g,0,c,none,λ_=>False⟩) (by rw [<-hm.len];simp) hc) o.dst) hm' (hk.mono _)
      simp only [lZ,(hk.same _).1,(hk.same _).2] at this
      exact this
    ·cases h
   ·cases h
  ·cases h
 ·cases h
def C6(hp:Tr)(l:List Nat):Tr:=List.rec (motive:=λ_=>Tr->Tr) (λhp=>hp) (λn _ ih hp=>ih (hp.del n)) l hp
def tJ(E:bX)(g:FuncId)(args:List SV)(ns:List Nat)(bs:List (Option HB))(ds:List Nat)(nx:Nat)(res:SV)(new:List HB):Prop :=
 ∀(r:List aF) (vals:List Value) (w:World) (hp:Tr),aX r args vals->aG E r hp nx w->(ns.map λn=>jW (hp.get n))=bs ->
  (∀w',(callFunc g vals.toArray).run E.X.P w'=.ok (.enter g vals.toArray) w')∧Calls E.X.P g vals.toArray w λe w'=>∃q v,e=.returned v∧aP (r++q) res v∧aG E (r++q) (qF (C6 hp ds) nx new).1 (qF (C6 hp ds) nx new).2 w'
structure o7 where
 g:FuncId
 args:List SV
 ns:List Nat
 bs:List (Option HB)
 ds:List Nat
 nx:Nat
 res:SV
 new:List HB
def o7.Holds(E:bX)(o:o7):Prop:=tJ E o.g o.args o.ns o.bs o.ds o.nx o.res o.new
def aFR(ns ds:List Nat)(res:Nat->SV)(new:List HB)(p:aB):Option (aB×o7):=match p.h with
 | .ops ops (o::rest)=>(match gB ops p.st.ts o.guard with
  |some true=>(match o.op with
   | .call c=>(match c.callee with
    | .value f=>(match ev p.st.ts f with
     | .f (.func g) a b=>some (⟨.ops ops rest,p.k,⟨putS p.st.ts o.dst (res p.st.nx),(qF (C6 p.st.hp ds) p.st.nx new).1,(qF (C6 p.st.hp ds) p.st.nx new).2⟩⟩,⟨g,(a++(c.args.toList.map (ev p.st.ts)++b)).map tY,ns,ns.map λn=>jW (p.st.hp.get n),ds,p.st.nx,res p.st.nx,new⟩)
     |_=>none)
    |_=>none)
   |_=>none)
  |_=>none)
 |_=>none
theorem aRY{E:bX}{Q0:cM}{r0:List aF}{ns ds:List Nat}{res:Nat->SV}{new:List HB}{p q:aB}{ob:o7}(h:aFR ns ds res new p=some (q,ob))(ho:ob.Holds E)(hx:Xp E r0 Q0 q):Xp E r0 Q0 p:=by
 unfold aFR at h
 split at h
 ·rename_i ops o rest hp
  split at h
  ·rename_i hg
   split at h
   ·rename_i c hc
    split at h
    ·rename_i f hf
     split at h
     ·rename_i g a b he
      cases h
      intro r vs w Q hr hs hm hk
      rw [hp]
      refine aCW (by unfold fU;rw [hc]) (pJ hs hg) ?_
      refine aJO hc hf he hs λvals hv=>?_
      obtain ⟨h1,h2⟩:=ho r vals w _ (V7 hv) hm rfl
      refine ⟨h1,h2.mono λe w' ⟨s,v,h3,h4,h5⟩=>⟨v,h3,?_⟩⟩
      have:=hx (r++s) _ w' Q (ext hr s) (bU.putS (hs.mono s) h4 o.dst) h5 (hk.mono s)
      simp only [lZ,(hk.same s).1,(hk.same s).2] at this
      exact this
     ·cases h
    ·cases h
   ·cases h
  ·cases h
 ·cases h
