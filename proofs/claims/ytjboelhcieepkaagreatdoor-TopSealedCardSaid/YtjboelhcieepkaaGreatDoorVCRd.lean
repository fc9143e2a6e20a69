/- A part of the proof of TopSealed. -/
import Derived.Test.YtjboelhcieepkaaGreatDoorW16
noncomputable section
set_option maxRecDepth 16384
set_option maxHeartbeats 2000000
namespace Go.Proofs.YtjboelhcieepkaaGreatDoor
open Go.RowKit
structure gV(G X:Nat)(L b M:List Nat)(w wr:World):Prop where
 k:aC wr G 456 (va .u8 L)
 b:aC wr (G+1) 26 (va .u8 b)
 r:aC wr (G+1+1) 26 (va .u8 eD)
 t:aC wr X 465 (va .u8 jN)
 m:aC wr (X+1) 467 (va .u8 M)
 x:G+1+1<X
 bel:Below G w wr
theorem gV.below{G X:Nat}{L b M:List Nat}{w wr w2:World}(h:gV G X L b M w wr)(c:Below wr.heap.size wr w2):gV G X L b M w w2 :=
 ⟨h.k.below c h.k.lt,h.b.below c h.b.lt,h.r.below c h.r.lt,h.t.below c h.t.lt,h.m.below c h.m.lt,h.x,h.bel.trans (c.mono (by have:=h.r.lt;omega))⟩
theorem gV.far{G X:Nat}{L b M:List Nat}{N i:Nat}{w wr:World}{v:Value}(h:gV G X L b M w wr)(hN:X+1<N):gV G X L b M w (wr.setCell ⟨N,i,none⟩ v):=by
 have:=h.x
 exact ⟨h.k.far (by simp;omega) _,h.b.far (by simp;omega) _,h.r.far (by simp;omega) _,h.t.far (by simp;omega) _,h.m.far (by simp;omega) _,h.x,h.bel.setCell (by simp;omega) _⟩
theorem gV.drew_{G X:Nat}{L b M:List Nat}{w wr:World}(h:gV G X L b M w wr):gV G X L b M w wr.drew:=⟨h.k.drew,h.b.drew,h.r.drew,h.t.drew,h.m.drew,h.x,jV h.bel 1⟩
theorem gV.put{G X:Nat}{L b M:List Nat}{w wr:World}(h:gV G X L b M w wr)(p v:Nat):gV G X L b (M.set p v) w (wr.setCell ⟨X+1,p,none⟩ (.int .u8 (v:Int))):=by
 have:=h.x
 exact ⟨h.k.far (by simp;omega) _,h.b.far (by simp;omega) _,h.r.far (by simp;omega) _,h.t.far (by simp) _,h.m.setNum p v,h.x,h.bel.setCell (by simp;omega) _⟩
theorem bBr(w:World):(zeroValue 467).run Tryz.prog w=.ok (.agg (va .u8 eD)) w:=by kernel_rfl
set_option maxRecDepth 8000 in
theorem aO4(L b:List Nat)(hLl:L.length=176)(hbl:b.length=16)(hL:Ci.Byt L)(hb:Ci.Byt b)(w:World):
 Calls Tryz.prog 285 #[.agg (va .u8 L),.agg (va .u8 b)] w λe w'=>e=.returned (.agg (va .u8 (Ci.enc L b)))∧Below w.heap.size w w':=by
 have hzv:=wJ
 have hzt:=aJV
 have hzm:=bBr
 go_enter Tryz.func285,Tryz.ntmps285
 go_wp2_with fail
 refine (aLo _).mono ?_
 obtain ⟨S,hS⟩:∃S,jN=S:=⟨_,rfl⟩
 have hSl:S.length=256:=by rw [<-hS];exact E5
 have hvs:(va .u8 S).size=256:=by rw [b9,hSl]
 rw [hS]
 rintro e w1 ⟨rfl,b1⟩
 have hk1:aC w1 w.heap.size 456 (va .u8 L):=aC.below (((aC.new _ _ _).alloc _).alloc _) b1 (by simp<;>omega)
 have hr1:aC w1 (w.heap.size+1) 26 (va .u8 b):=aC.below ((aC.newAt (by simp)).alloc _) b1 (by simp<;>omega)
 have ho1:aC w1 (w.heap.size+1+1) 26 (va .u8 eD):=aC.below (aC.newAt (by simp)) b1 (by simp<;>omega)
 have hx1:=b1.size
 simp only [World.size_alloc] at hx1
 have hb1:Below w.heap.size w w1:=(((((Below.refl _ _).alloc (aS _) _).alloc (by simp) _).alloc (by simp<;>omega) _)).trans (b1.mono (by simp<;>omega))
 clear b1
 have hst:=tF (P:=Tryz.prog) w1 465 (va .u8 gF) .u8 S (by rw [b9,hSl,xX])
 have hmem:gV w.heap.size w1.heap.size L b (Ci.updT (λs=>(Ci.encS L b 0).getD s 0) eD 0) w ((w1.alloc (.cells (va .u8 S) 465)).alloc (.cells (va .u8 eD) 467)):=by
  rw [<-hS,Ci.updT_zero _ oB]
  refine ⟨(hk1.alloc _).alloc _,(hr1.alloc _).alloc _,(ho1.alloc _).alloc _,(aC.new _ _ _).alloc _,aC.newAt (by simp),hx1,(hb1.alloc hb1.size _).alloc (by have:=hb1.size;simp;omega) _⟩
 have hmm:=Lib.hid hmem
 have hxh:=Lib.hid hx1
 clear hk1 hr1 ho1 hb1 hmem hx1 hS
 go_wp2
 clear hzt
 generalize hX:w1.heap.size=X at *
 generalize (w1.alloc (.cells (va .u8 S) 465)).alloc (.cells (va .u8 eD) 467)=w2 at *
 clear hSl hvs hst
 go_loopw [7] (λs wr=>∃i:Nat,i≤16∧s=.int .i64 (i:Int)∧gV w.heap.size X L b (Ci.updT (λs=>(Ci.encS L b 0).getD s 0) eD i) w wr) (λs _=>16-(intOf s).toNat)
 case atStart=>exact ⟨0,by omega,rfl,hmm.out⟩
 case round =>
  clear hmm
  obtain ⟨i,hi16,rfl,hmem⟩:=hrel
  by_cases hli:i<16
  ·have hliI:(i:Int)<16:=by omega
   obtain ⟨m,hm⟩:∃m,i%4=m:=⟨_,rfl⟩
   obtain ⟨q,hq⟩:∃q,i / 4=q:=⟨_,rfl⟩
   have lJ:(i:Int).tmod 4=(m:Int):=by rw [Int.tmod_eq_emod_of_nonneg (by omega)];omega
   have hqI:(i:Int).tdiv 4=(q:Int):=by rw [Int.tdiv_eq_ediv_of_nonneg (by omega)];omega
   have hmE:(i:Int)%4=(m:Int):=by omega
   have hqE:(i:Int) / 4=(q:Int):=by omega
   have hm4:(m:Int)<4:=by omega
   have hq4:(q:Int)<4:=by omega
   have hq44:(q:Int)<44:=by omega
   have hqw:IntKind.i64.wrap (q:Int)=(q:Int):=IntWalk.i64_in _ (by omega)
   have e2:i=q*4+m:=by omega
   have hT:Ci.T i=m*4+q:=by unfold Ci.T;omega
   have hc1:=hmem.b.num (i:=i) (by omega)
   have hc2:=hmem.k.num (i:=q*4+m) (by omega)
   have hc0:=hmem.m.num (i:=m*4+q) (by rw [Ci.updT_len];omega)
   have hf0:=hmem.m.frozen (m*4+q)
   obtain ⟨c,hc⟩:∃c,(Ci.encS L b 0).getD i 0=c:=⟨_,rfl⟩
   have hv:=Ci.encS_first L b i hli
   have hxor:bits BinOp.xor IntKind.u8 ((b.getD i 0:Nat):Int) ((L.getD (q*4+m) 0:Nat):Int)=(c:Int):=by rw [u8_xor_nat _ _ (hb.get _) (hL.get _),<-e2,<-hv,hc]
   have hput:=hmem.drew_.put (m*4+q) c
   rw [Ci.updT_set _ _ i _ c hli hT hc] at hput
   have hputh:=Lib.hid hput
   generalize (Ci.updT (λs=>(Ci.encS L b 0).getD s 0) eD i).getD (m*4+q) 0=y0 at *
   generalize b.getD i 0=y1 at *
   generalize L.getD (q*4+m) 0=y2 at *
   clear hmem hput hv hc hT e2 hm hq
   go_wp2
   refine wp_region_still_tail 17 (by kernel_rfl) (by kernel_rfl) ?_
   simp only [List.take_succ_cons,List.take_zero,List.drop_succ_cons,List.drop_zero]
   change wpStill _ _ wr.drew _ _ _
   iterate 17 still_step
   refine wpStill_nil ?_
   change wpList _ _ _ _ _ wr.drew
   go_wp2
   go_roundw
   case rel=>exact ⟨i+1,by omega,by go_num,hputh.out⟩
   case measure=>simp [intOf];omega
  ·have hiI:16≤(i:Int):=by omega
   rw [show i=16 from by omega,Ci.updT_all _ _ (Ci.encS L b 0) (λ_ _=>rfl)] at hmem
   have hmm:=Lib.hid hmem
   clear hmem
   clear hzv
   go_wp2
   go_loopw [8] (λs wr=>∃k K:Nat,k≤10∧k+1=K∧s=.int .i64 (K:Int)∧gV w.heap.size X L b (Ci.tr (Ci.encS L b k)) w wr) (λs _=>11-(intOf s).toNat)
   case atStart=>exact ⟨0,1,by omega,rfl,rfl,hmm.out⟩
   case round =>
    clear hmm
    obtain ⟨k,K,hk10,hkK,rfl,hmem⟩:=hrel
    by_cases hlk:k<10
    ·have hlkI:(K:Int)<11:=by omega
     obtain ⟨y,hy⟩:∃y,Ci.yR L b k=y:=⟨_,rfl⟩
     have hN:aC (wr.alloc (.cells (va .u8 eD) 467)) wr.heap.size 467 (va .u8 (Ci.upd (λi=>(Ci.tr y).getD i 0) eD (4*0))):=by rw [Ci.upd_zero];exact aC.new _ _ _
     have hY:X+1<wr.heap.size:=hmem.m.lt
     have hM:=hmem.below ((Below.refl _ wr).alloc (aS _) (.cells (va .u8 eD) 467))
     have hNh:=Lib.hid hN
     have hMh:=Lib.hid hM
     clear hN hM hmem
     go_wp2
     obtain ⟨Y,hYe⟩:∃Y,wr.heap.size=Y:=⟨_,rfl⟩
     rw [hYe] at hNh hY
     rw [hYe]
     generalize wr.alloc (.cells (va .u8 eD) 467)=w3 at *
     clear hYe
     go_loopw [10] (λs wx=>∃r:Nat,r≤4∧s=.int .i64 (r:Int)∧aC wx Y 467 (va .u8 (Ci.upd (λi=>(Ci.tr y).getD i 0) eD (4*r)))∧gV w.heap.size X L b (Ci.tr (Ci.encS L b k)) w wx) (λs _=>4-(intOf s).toNat)
     case atStart=>exact ⟨0,by omega,rfl,hNh.out,hMh.out⟩
     case round =>
      clear hNh hMh
      obtain ⟨r,hr4,rfl,hN,hM⟩:=hrel
      by_cases hlr:r<4
      ·have hlrI:(r:Int)<4:=by omega
       have hNh:=Lib.hid hN
       have hMh:=Lib.hid hM
       clear hN hM
       go_wp2
       go_loopw [11] (λs wx=>∃c:Nat,c≤4∧s=.int .i64 (c:Int)∧aC wx Y 467 (va .u8 (Ci.upd (λi=>(Ci.tr y).getD i 0) eD (4*r+c)))∧gV w.heap.size X L b (Ci.tr (Ci.encS L b k)) w wx) (λs _=>4-(intOf s).toNat)
       case atStart=>exact ⟨0,by omega,rfl,hNh.out,hMh.out⟩
       case round =>
        clear hNh hMh
        obtain ⟨c,hc4,rfl,hN,hM⟩:=hrel
        by_cases hlc:c<4
        ·have hlcI:(c:Int)<4:=by omega
         obtain ⟨q,hq⟩:∃q,c+r=q:=⟨_,rfl⟩
         have hqI:(c:Int)+(r:Int)=(q:Int):=by omega
         have hqw:IntKind.i64.wrap (q:Int)=(q:Int):=IntWalk.i64_in _ (by omega)
         obtain ⟨p,hp⟩:∃p,q%4=p:=⟨_,rfl⟩
         have S4:(q:Int).tmod 4=(p:Int):=by rw [Int.tmod_eq_emod_of_nonneg (by omega)];omega
         have hpE:(q:Int)%4=(p:Int):=by omega
         have hp4:(p:Int)<4:=by omega
         have hst:=Ci.yR_get L b k r c hlr hlc
         rw [hy,hq,hp,Nat.mul_comm 4 r] at hst
         obtain ⟨x,hx⟩:∃x,(Ci.tr (Ci.encS L b k)).getD (r*4+p) 0=x:=⟨_,rfl⟩
         have hxl:x<256:=by
          rw [<-hx,Ci.tr_get _ (by omega)];exact (Ci.encS_byt hL hb k).get _
         have hxI:(x:Int)<256:=by omega
         have hc1:=hM.m.num (i:=r*4+p) (by rw [Ci.tr_len];omega)
         rw [hx] at hc1 hst
         have hc2:=R7 hM.t x hxl
         obtain ⟨n,hn⟩:∃n,4*r+c=n:=⟨_,rfl⟩
         have e2:n=r*4+c:=by omega
         rw [hn] at hN
         have hst2:(Ci.tr y).getD n 0=Gf.sub x:=by rw [e2];exact hst
         have hc0:=hN.num (i:=n) (by rw [Ci.upd_len,oB];omega)
         have hf0:=hN.frozen n
         have hput:=hN.drew.setNum n (Gf.sub x)
         rw [show Gf.sub x=(λi=>(Ci.tr y).getD i 0) n from hst2.symm,Ci.upd_set] at hput
         simp only [hst2] at hput
         have hMf:gV w.heap.size X L b (Ci.tr (Ci.encS L b k)) w (wr.drew.setCell ⟨Y,n,none⟩ (.int .u8 ((Gf.sub x:Nat):Int))):=hM.drew_.far hY
         generalize (Ci.upd (λi=>(Ci.tr y).getD i 0) eD n).getD n 0=y0 at *
         generalize Gf.sub x=sx at *
         rw [e2] at hc0 hf0 hput hMf
         have hputh:=Lib.hid hput
         have hMfh:=Lib.hid hMf
         have hnh:=Lib.hid hn
         clear hN hM hput hMf hst hst2 hx hp hq hn e2
         go_wp2
         refine wp_region_still_tail 14 (by kernel_rfl) (by kernel_rfl) ?_
         simp only [List.take_succ_cons,List.take_zero,List.drop_succ_cons,List.drop_zero]
         change wpStill _ _ wr.drew _ _ _
         iterate 14 still_step
         refine wpStill_nil ?_
         change wpList _ _ _ _ _ wr.drew
         go_wp2
         go_roundw
         case rel=>exact ⟨c+1,by omega,by go_num,by rw [show 4*r+(c+1)=r*4+c+1 from by omega];exact hputh.out,hMfh.out⟩
         case measure=>simp [intOf];omega
        ·obtain rfl:c=4:=by omega
         have hNh:=Lib.hid hN
         have hMh:=Lib.hid hM
         clear hN hM
         go_wp2
         go_roundw
         case rel=>exact ⟨r+1,by omega,by go_num,by rw [show 4*(r+1)=4*r+4 from by omega];exact hNh.out,hMh.out⟩
         case measure=>simp [intOf];omega
      ·have hrI:4≤(r:Int):=by omega
       rw [show 4*r=16 from by omega,<-hy,Ci.sub_all L b k eD oB,hy] at hN
       rw [<-Ci.updT_zero (λs=>(Ci.xR L b k).getD s 0) (Ci.tr_len y)] at hN
       rw [<-Ci.updT_zero (λs=>(Ci.encS L b (k+1)).getD s 0) (Ci.tr_len (Ci.encS L b k))] at hM
       have hNh:=Lib.hid hN
       have hMh:=Lib.hid hM
       clear hN hM
       go_wp2
       go_loopw [12] (λs wx=>∃c:Nat,c≤4∧s=.int .i64 (c:Int)∧aC wx Y 467 (va .u8 (Ci.updT (λs=>(Ci.xR L b k).getD s 0) (Ci.tr y) (4*c)))∧gV w.heap.size X L b (Ci.updT (λs=>(Ci.encS L b (k+1)).getD s 0) (Ci.tr (Ci.encS L b k)) (4*c)) w wx) (λs _=>4-(intOf s).toNat)
       case atStart=>exact ⟨0,by omega,rfl,hNh.out,hMh.out⟩
       case round =>
        clear hNh hMh
        obtain ⟨c,hc4,rfl,hN,hM⟩:=hrel
        by_cases hlc:c<4
        ·have hlcI:(c:Int)<4:=by omega
         have hyb:Ci.Byt y:=hy▸Ci.yR_byt L b k
         obtain ⟨N,hNe⟩:∃N,Ci.updT (λs=>(Ci.xR L b k).getD s 0) (Ci.tr y) (4*c)=N:=⟨_,rfl⟩
         have hNl:N.length=16:=by rw [<-hNe];exact Ci.updT_len _ _ _
         have n0:=Ci.n_at (λs=>(Ci.xR L b k).getD s 0) y c 0 hlc (by omega)
         have n1:=Ci.n_at (λs=>(Ci.xR L b k).getD s 0) y c 1 hlc (by omega)
         have n2:=Ci.n_at (λs=>(Ci.xR L b k).getD s 0) y c 2 hlc (by omega)
         have n3:=Ci.n_at (λs=>(Ci.xR L b k).getD s 0) y c 3 hlc (by omega)
         rw [hNe] at n0 n1 n2 n3 hN
         simp only [Nat.mul_zero,Nat.zero_add,Nat.add_zero,Nat.mul_one,Nat.reduceMul] at n0 n1 n2 n3
         obtain ⟨a0,h0⟩:∃a,y.getD (4*c) 0=a:=⟨_,rfl⟩
         obtain ⟨a1,h1⟩:∃a,y.getD (4*c+1) 0=a:=⟨_,rfl⟩
         obtain ⟨a2,h2⟩:∃a,y.getD (4*c+2) 0=a:=⟨_,rfl⟩
         obtain ⟨a3,h3⟩:∃a,y.getD (4*c+3) 0=a:=⟨_,rfl⟩
         have la0:a0<256:=h0▸hyb.get _
         have la1:a1<256:=h1▸hyb.get _
         have la2:a2<256:=h2▸hyb.get _
         have la3:a3<256:=h3▸hyb.get _
         rw [h0] at n0
         rw [h1] at n1
         rw [h2] at n2
         rw [h3] at n3
         have c0:=hN.num (i:=c) (by omega)
         have c1:=hN.num (i:=4+c) (by omega)
         have c2:=hN.num (i:=8+c) (by omega)
         have c3:=hN.num (i:=12+c) (by omega)
         rw [n0] at c0
         rw [n1] at c1
         rw [n2] at c2
         rw [n3] at c3
         have f0:=hN.frozen c
         have f1:=hN.frozen (4+c)
         have f2:=hN.frozen (8+c)
         have f3:=hN.frozen (12+c)
         have aH:=Ci.mix_at y hyb c hlc a0 a1 a2 a3 h0 h1 h2 h3
         have hNh:=Lib.hid hN
         have hMh:=Lib.hid hM
         have hmxh:=Lib.hid aH
         have hNeh:=Lib.hid hNe
         have hyh:=Lib.hid hy
         clear hN hM aH hNe hy hyb n0 n1 n2 n3 h0 h1 h2 h3
         go_wp2
         go_region
         rename_i aK
         refine aK _ _ ?_
         clear aK
         have hN4:=Lib.hid hNh.out.drew
         have hM4:=Lib.hid hMh.out.drew_
         clear hNh hMh c0 c1 c2 c3 f0 f1 f2 f3
         generalize wr.drew=w4 at *
         refine wp_seq_k λKc hKc=>?_
         go_cut [] (λwx=>aC wx Y 467 (va .u8 (Ci.updT (λs=>(Ci.xR L b k).getD s 0) (Ci.tr y) (4*c+4)))∧gV w.heap.size X L b (Ci.updT (λs=>(Ci.encS L b (k+1)).getD s 0) (Ci.tr (Ci.encS L b k)) (4*c)) w wx)
         case first =>
          by_cases h10:k+1<10
          ·have h10I:(K:Int)<10:=by omega
           obtain ⟨D0,hD0⟩:∃D,Ci.dbl a0=D:=⟨_,rfl⟩
           have lD0:D0<256:=hD0▸Ci.dbl_lt _
           obtain ⟨D1,hD1⟩:∃D,Ci.dbl a1=D:=⟨_,rfl⟩
           have lD1:D1<256:=hD1▸Ci.dbl_lt _
           obtain ⟨D2,hD2⟩:∃D,Ci.dbl a2=D:=⟨_,rfl⟩
           have lD2:D2<256:=hD2▸Ci.dbl_lt _
           obtain ⟨D3,hD3⟩:∃D,Ci.dbl a3=D:=⟨_,rfl⟩
           have lD3:D3<256:=hD3▸Ci.dbl_lt _
           obtain ⟨v0,hv0⟩:∃v,D0 ^^^ D1=v:=⟨_,rfl⟩
           have lv0:v0<256:=hv0▸gD (n:=8) lD0 lD1
           have xv0:bits BinOp.xor IntKind.u8 (D0:Int) (D1:Int)=(v0:Int):=by rw [u8_xor_nat _ _ lD0 lD1,hv0]
           obtain ⟨v1,hv1⟩:∃v,v0 ^^^ a1=v:=⟨_,rfl⟩
           have lv1:v1<256:=hv1▸gD (n:=8) lv0 la1
           have xv1:bits BinOp.xor IntKind.u8 (v0:Int) (a1:Int)=(v1:Int):=by rw [u8_xor_nat _ _ lv0 la1,hv1]
           obtain ⟨v2,hv2⟩:∃v,v1 ^^^ a2=v:=⟨_,rfl⟩
           have F5:v2<256:=hv2▸gD (n:=8) lv1 la2
           have xv2:bits BinOp.xor IntKind.u8 (v1:Int) (a2:Int)=(v2:Int):=by rw [u8_xor_nat _ _ lv1 la2,hv2]
           obtain ⟨v3,hv3⟩:∃v,v2 ^^^ a3=v:=⟨_,rfl⟩
           have lv3:v3<256:=hv3▸gD (n:=8) F5 la3
           have xv3:bits BinOp.xor IntKind.u8 (v2:Int) (a3:Int)=(v3:Int):=by rw [u8_xor_nat _ _ F5 la3,hv3]
           obtain ⟨v4,hv4⟩:∃v,a0 ^^^ D1=v:=⟨_,rfl⟩
           have lv4:v4<256:=hv4▸gD (n:=8) la0 lD1
           have xv4:bits BinOp.xor IntKind.u8 (a0:Int) (D1:Int)=(v4:Int):=by rw [u8_xor_nat _ _ la0 lD1,hv4]
           obtain ⟨v5,hv5⟩:∃v,v4 ^^^ D2=v:=⟨_,rfl⟩
           have G4:v5<256:=hv5▸gD (n:=8) lv4 lD2
           have xv5:bits BinOp.xor IntKind.u8 (v4:Int) (D2:Int)=(v5:Int):=by rw [u8_xor_nat _ _ lv4 lD2,hv5]
           obtain ⟨v6,hv6⟩:∃v,v5 ^^^ a2=v:=⟨_,rfl⟩
           have r8:v6<256:=hv6▸gD (n:=8) G4 la2
           have xv6:bits BinOp.xor IntKind.u8 (v5:Int) (a2:Int)=(v6:Int):=by rw [u8_xor_nat _ _ G4 la2,hv6]
           obtain ⟨v7,hv7⟩:∃v,v6 ^^^ a3=v:=⟨_,rfl⟩
           have lv7:v7<256:=hv7▸gD (n:=8) r8 la3
           have xv7:bits BinOp.xor IntKind.u8 (v6:Int) (a3:Int)=(v7:Int):=by rw [u8_xor_nat _ _ r8 la3,hv7]
           obtain ⟨v8,hv8⟩:∃v,a0 ^^^ a1=v:=⟨_,rfl⟩
           have lv8:v8<256:=hv8▸gD (n:=8) la0 la1
           have xv8:bits BinOp.xor IntKind.u8 (a0:Int) (a1:Int)=(v8:Int):=by rw [u8_xor_nat _ _ la0 la1,hv8]
           obtain ⟨v9,hv9⟩:∃v,v8 ^^^ D2=v:=⟨_,rfl⟩
           have lv9:v9<256:=hv9▸gD (n:=8) lv8 lD2
           have xv9:bits BinOp.xor IntKind.u8 (v8:Int) (D2:Int)=(v9:Int):=by rw [u8_xor_nat _ _ lv8 lD2,hv9]
           obtain ⟨v10,hv10⟩:∃v,v9 ^^^ D3=v:=⟨_,rfl⟩
           have lv10:v10<256:=hv10▸gD (n:=8) lv9 lD3
           have xv10:bits BinOp.xor IntKind.u8 (v9:Int) (D3:Int)=(v10:Int):=by rw [u8_xor_nat _ _ lv9 lD3,hv10]
           obtain ⟨v11,hv11⟩:∃v,v10 ^^^ a3=v:=⟨_,rfl⟩
           have lv11:v11<256:=hv11▸gD (n:=8) lv10 la3
           have xv11:bits BinOp.xor IntKind.u8 (v10:Int) (a3:Int)=(v11:Int):=by rw [u8_xor_nat _ _ lv10 la3,hv11]
           obtain ⟨v12,hv12⟩:∃v,D0 ^^^ a0=v:=⟨_,rfl⟩
           have lv12:v12<256:=hv12▸gD (n:=8) lD0 la0
           have xv12:bits BinOp.xor IntKind.u8 (D0:Int) (a0:Int)=(v12:Int):=by rw [u8_xor_nat _ _ lD0 la0,hv12]
           obtain ⟨v13,hv13⟩:∃v,v12 ^^^ a1=v:=⟨_,rfl⟩
           have lv13:v13<256:=hv13▸gD (n:=8) lv12 la1
           have xv13:bits BinOp.xor IntKind.u8 (v12:Int) (a1:Int)=(v13:Int):=by rw [u8_xor_nat _ _ lv12 la1,hv13]
           obtain ⟨v14,hv14⟩:∃v,v13 ^^^ a2=v:=⟨_,rfl⟩
           have lv14:v14<256:=hv14▸gD (n:=8) lv13 la2
           have xv14:bits BinOp.xor IntKind.u8 (v13:Int) (a2:Int)=(v14:Int):=by rw [u8_xor_nat _ _ lv13 la2,hv14]
           obtain ⟨v15,hv15⟩:∃v,v14 ^^^ D3=v:=⟨_,rfl⟩
           have lv15:v15<256:=hv15▸gD (n:=8) lv14 lD3
           have xv15:bits BinOp.xor IntKind.u8 (v14:Int) (D3:Int)=(v15:Int):=by rw [u8_xor_nat _ _ lv14 lD3,hv15]
           have hxr:Ci.xR L b k=Ci.mix [2,3,1,1] y:=by unfold Ci.xR;rw [if_pos h10,hyh.out]
           have g0:(Ci.xR L b k).getD (4*c) 0=v3:=by rw [hxr,hmxh.out.1,hD0,hD1,hv0,hv1,hv2,hv3]
           have g1:(Ci.xR L b k).getD (4*c+1) 0=v7:=by rw [hxr,hmxh.out.2.1,hD1,hD2,hv4,hv5,hv6,hv7]
           have g2:(Ci.xR L b k).getD (4*c+2) 0=v11:=by rw [hxr,hmxh.out.2.2.1,hD2,hD3,hv8,hv9,hv10,hv11]
           have g3:(Ci.xR L b k).getD (4*c+3) 0=v15:=by rw [hxr,hmxh.out.2.2.2,hD0,hD3,hv12,hv13,hv14,hv15]
           have hcol:=Ci.set_col (λs=>(Ci.xR L b k).getD s 0) (Ci.tr y) c v3 v7 v11 v15 hlc g0 g1 g2 g3
           rw [hNeh.out] at hcol
           have hNs:=(((hN4.out.setNum c v3).setNum (4+c) v7).setNum (8+c) v11).setNum (12+c) v15
           rw [hcol] at hNs
           have hMs:=Lib.hid ((((hM4.out.far hY (i:=c) (v:=.int .u8 (v3:Int))).far hY (i:=4+c) (v:=.int .u8 (v7:Int))).far hY (i:=8+c) (v:=.int .u8 (v11:Int))).far hY (i:=12+c) (v:=.int .u8 (v15:Int)))
           have c0:=hN4.out.num (i:=c) (by omega)
           have f0:=hN4.out.frozen (c)
           generalize N.getD c 0=y0 at c0
           have c1:=hN4.out.num (i:=4+c) (by omega)
           have f1:=hN4.out.frozen (4+c)
           generalize N.getD (4+c) 0=y1 at c1
           have c2:=hN4.out.num (i:=8+c) (by omega)
           have f2:=hN4.out.frozen (8+c)
           generalize N.getD (8+c) 0=y2 at c2
           have c3:=hN4.out.num (i:=12+c) (by omega)
           have f3:=hN4.out.frozen (12+c)
           generalize N.getD (12+c) 0=y3 at c3
           have hD0h:=Lib.hid hD0
           have hD1h:=Lib.hid hD1
           have hD2h:=Lib.hid hD2
           have hD3h:=Lib.hid hD3
           have hNsh:=Lib.hid hNs
           clear hNs hcol g0 g1 g2 g3 hxr hD0 hD1 hD2 hD3 hv0 lv0 hv1 lv1 hv2 F5 hv3 lv3 hv4 lv4 hv5 G4 hv6 r8 hv7 lv7 hv8 lv8 hv9 lv9 hv10 lv10 hv11 lv11 hv12 lv12 hv13 lv13 hv14 lv14 hv15 lv15 lD0 lD1 lD2 lD3 hmxh
           go_wp2_with fail
           refine (u6 a0 D0 la0 hD0h.out _).mono ?_
           rintro e w' ⟨rfl,rfl⟩
           go_wp2_with fail
           refine (u6 a1 D1 la1 hD1h.out _).mono ?_
           rintro e w' ⟨rfl,rfl⟩
           go_wp2_with fail
           refine (u6 a1 D1 la1 hD1h.out _).mono ?_
           rintro e w' ⟨rfl,rfl⟩
           go_wp2_with fail
           refine (u6 a2 D2 la2 hD2h.out _).mono ?_
           rintro e w' ⟨rfl,rfl⟩
           go_wp2_with fail
           refine (u6 a2 D2 la2 hD2h.out _).mono ?_
           rintro e w' ⟨rfl,rfl⟩
           go_wp2_with fail
           refine (u6 a3 D3 la3 hD3h.out _).mono ?_
           rintro e w' ⟨rfl,rfl⟩
           go_wp2_with fail
           refine (u6 a0 D0 la0 hD0h.out _).mono ?_
           rintro e w' ⟨rfl,rfl⟩
           go_wp2_with fail
           refine (u6 a3 D3 la3 hD3h.out _).mono ?_
           rintro e w' ⟨rfl,rfl⟩
           go_wp2
           go_meet
           exact ⟨hNsh.out,hMs.out⟩
          ·have h10I:10≤(K:Int):=by omega
           have hxr:Ci.xR L b k=y:=by unfold Ci.xR;rw [if_neg h10,hyh.out]
           have hid:∀n,Ci.updT (λs=>(Ci.xR L b k).getD s 0) (Ci.tr y) n=Ci.tr y:=λn=>Ci.updT_id _ (Ci.tr_len y) n (λi hi=>by rw [hxr,Ci.tr_get _ hi])
           have hNe2:Ci.updT (λs=>(Ci.xR L b k).getD s 0) (Ci.tr y) (4*c+4)=N:=by rw [hid,<-hNeh.out,hid]
           have hNs:=hN4.out
           rw [<-hNe2] at hNs
           have hNsh:=Lib.hid hNs
           clear hNs hNe2 hid hxr hmxh
           go_wp2
           go_meet
           exact ⟨hNsh.out,hM4.out⟩
         case rest =>
          obtain ⟨hN,hM⟩:=hcut
          clear hN4 hM4 hmxh hNeh hNl la0 la1 la2 la3
          have hNh:=Lib.hid hN
          have hMh:=Lib.hid hM
          clear hN hM
          go_wp2
          go_loopw [17] (λs wx=>∃j:Nat,j≤4∧s=.int .i64 (j:Int)∧aC wx Y 467 (va .u8 (Ci.updT (λs=>(Ci.xR L b k).getD s 0) (Ci.tr y) (4*c+4)))∧gV w.heap.size X L b (Ci.updT (λs=>(Ci.encS L b (k+1)).getD s 0) (Ci.tr (Ci.encS L b k)) (4*c+j)) w wx) (λs _=>4-(intOf s).toNat)
          case atStart=>exact ⟨0,by omega,rfl,hNh.out,hMh.out⟩
          case round =>
           clear hNh hMh
           obtain ⟨j,hj4,rfl,hN,hM⟩:=hrel
           by_cases hlj:j<4
           ·have hljI:(j:Int)<4:=by omega
            obtain ⟨n,hn⟩:∃n,4*K+c=n:=⟨_,rfl⟩
            have hnI:4*(K:Int)+(c:Int)=(n:Int):=by omega
            have hw4:IntKind.i64.wrap (4*(K:Int))=4*(K:Int):=IntWalk.i64_in _ (by omega)
            have hw5:IntKind.i64.wrap (n:Int)=(n:Int):=IntWalk.i64_in _ (by omega)
            have hn44:(n:Int)<44:=by omega
            have hc1:=hN.num (i:=j*4+c) (by rw [Ci.updT_len];omega)
            have hd:=Ci.n_done (λs=>(Ci.xR L b k).getD s 0) (Ci.tr y) c j hlc hlj
            rw [Nat.mul_comm 4 j] at hd
            rw [hd] at hc1
            have hc2:=hM.k.num (i:=n*4+j) (by omega)
            have he:=Ci.encS_get L b k (4*c+j) (by omega)
            rw [show (k+1)*16+(4*c+j)=n*4+j from by omega] at he
            obtain ⟨v,hv⟩:∃v,(Ci.encS L b (k+1)).getD (4*c+j) 0=v:=⟨_,rfl⟩
            have hxor:bits BinOp.xor IntKind.u8 (((Ci.xR L b k).getD (4*c+j) 0:Nat):Int) ((L.getD (n*4+j) 0:Nat):Int)=(v:Int):=by rw [u8_xor_nat _ _ ((Ci.xR_byt L b k).get _) (hL.get _),<-he,hv]
            have hc0:=hM.m.num (i:=j*4+c) (by rw [Ci.updT_len];omega)
            have hf0:=hM.m.frozen (j*4+c)
            have hput:=hM.drew_.put (j*4+c) v
            rw [Ci.updT_set _ _ (4*c+j) _ v (by omega) (by unfold Ci.T;omega) hv] at hput
            have hNf:aC (wr.drew.setCell ⟨X+1,j*4+c,none⟩ (.int .u8 (v:Int))) Y 467 (va .u8 (Ci.updT (λs=>(Ci.xR L b k).getD s 0) (Ci.tr y) (4*c+4))):=hN.drew.far (by simp;omega) _
            have hputh:=Lib.hid hput
            have hNfh:=Lib.hid hNf
            generalize (Ci.updT (λs=>(Ci.encS L b (k+1)).getD s 0) (Ci.tr (Ci.encS L b k)) (4*c+j)).getD (j*4+c) 0=y0 at *
            generalize (Ci.xR L b k).getD (4*c+j) 0=y1 at *
            generalize L.getD (n*4+j) 0=y2 at *
            clear hN hM hput hNf he hv hd hn
            go_wp2
            refine wp_region_still_tail 18 (by kernel_rfl) (by kernel_rfl) ?_
            simp only [List.take_succ_cons,List.take_zero,List.drop_succ_cons,List.drop_zero]
            change wpStill _ _ wr.drew _ _ _
            iterate 18 still_step
            refine wpStill_nil ?_
            change wpList _ _ _ _ _ wr.drew
            go_wp2
            go_roundw
            case rel=>exact ⟨j+1,by omega,by go_num,hNfh.out,hputh.out⟩
            case measure=>simp [intOf];omega
           ·have hjI:4≤(j:Int):=by omega
            rw [show j=4 from by omega] at hM
            have hNh:=Lib.hid hN
            have hMh:=Lib.hid hM
            clear hN hM
            go_wp2
            go_roundw
            case rel=>exact ⟨c+1,by omega,by go_num,hNh.out,hMh.out⟩
            case measure=>simp [intOf];omega
        ·have hcI:4≤(c:Int):=by omega
         rw [show 4*c=16 from by omega,Ci.updT_all _ _ (Ci.encS L b (k+1)) (λ_ _=>rfl)] at hM
         have hMh:=Lib.hid hM
         clear hN hM
         go_wp2
         go_roundw
         case rel=>exact ⟨k+1,K+1,by omega,by omega,by go_num,hMh.out⟩
         case measure=>simp [intOf];omega
    ·have hKI:11≤(K:Int):=by omega
     rw [show k=10 from by omega] at hmem
     obtain ⟨E,hE⟩:∃E,Ci.enc L b=E:=⟨_,rfl⟩
     have hEl:E.length=16:=hE▸Ci.encS_len L b 10
     rw [show Ci.encS L b 10=E from hE] at hmem
     have hzv:=wJ
     have hN:aC (wr.alloc (.cells (va .u8 eD) 26)) wr.heap.size 26 (va .u8 (Ci.upd (λi=>(Ci.tr E).getD (Ci.T i) 0) eD 0)):=by rw [Ci.upd_zero];exact aC.new _ _ _
     have hY:X+1<wr.heap.size:=hmem.m.lt
     have hM:=hmem.below ((Below.refl _ wr).alloc (aS _) (.cells (va .u8 eD) 26))
     have hNh:=Lib.hid hN
     have hMh:=Lib.hid hM
     clear hN hM hmem
     go_wp2
     obtain ⟨Y,hYe⟩:∃Y,wr.heap.size=Y:=⟨_,rfl⟩
     rw [hYe] at hNh hY
     rw [hYe]
     generalize wr.alloc (.cells (va .u8 eD) 26)=w3 at *
     clear hYe
     go_loopw [19] (λs wx=>∃i:Nat,i≤16∧s=.int .i64 (i:Int)∧aC wx Y 26 (va .u8 (Ci.upd (λi=>(Ci.tr E).getD (Ci.T i) 0) eD i))∧gV w.heap.size X L b (Ci.tr E) w wx) (λs _=>16-(intOf s).toNat)
     case atStart=>exact ⟨0,by omega,rfl,hNh.out,hMh.out⟩
     case round =>
      clear hNh hMh
      obtain ⟨n,hn16,rfl,hN,hM⟩:=hrel
      by_cases hln:n<16
      ·have hlnI:(n:Int)<16:=by omega
       obtain ⟨m,hm⟩:∃m,n%4=m:=⟨_,rfl⟩
       obtain ⟨q,hq⟩:∃q,n / 4=q:=⟨_,rfl⟩
       have lJ:(n:Int).tmod 4=(m:Int):=by rw [Int.tmod_eq_emod_of_nonneg (by omega)];omega
       have hqI:(n:Int).tdiv 4=(q:Int):=by rw [Int.tdiv_eq_ediv_of_nonneg (by omega)];omega
       have hmE:(n:Int)%4=(m:Int):=by omega
       have hqE:(n:Int) / 4=(q:Int):=by omega
       have hm4:(m:Int)<4:=by omega
       have hq4:(q:Int)<4:=by omega
       have hqw:IntKind.i64.wrap (q:Int)=(q:Int):=IntWalk.i64_in _ (by omega)
       have hT:Ci.T n=m*4+q:=by unfold Ci.T;omega
       have hc1:=hM.m.num (i:=m*4+q) (by rw [Ci.tr_len];omega)
       have hc0:=hN.num (i:=n) (by rw [Ci.upd_len,oB];omega)
       have hf0:=hN.frozen n
       obtain ⟨v,hv⟩:∃v,(Ci.tr E).getD (m*4+q) 0=v:=⟨_,rfl⟩
       have hv2:(Ci.tr E).getD (Ci.T n) 0=v:=by rw [hT];exact hv
       rw [hv] at hc1
       have hput:=hN.setNum n v
       rw [show v=(λi=>(Ci.tr E).getD (Ci.T i) 0) n from hv2.symm,Ci.upd_set] at hput
       simp only [hv2] at hput
       have hMf:gV w.heap.size X L b (Ci.tr E) w (wr.setCell ⟨Y,n,none⟩ (.int .u8 (v:Int))):=hM.far hY
       generalize (Ci.upd (λi=>(Ci.tr E).getD (Ci.T i) 0) eD n).getD n 0=y0 at *
       have hputh:=Lib.hid hput
       have hMfh:=Lib.hid hMf
       clear hN hM hput hMf hv hv2 hT hm hq hzv
       go_wp2
       exact ⟨⟨n+1,by omega,by go_num,hputh.out,hMfh.out⟩,by simp [intOf];omega⟩
      ·have hnI:16≤(n:Int):=by omega
       rw [show n=16 from by omega,Ci.out_all E eD hEl oB] at hN
       have hsz0:(Tryz.prog.info? 26).map (·.size)=some (va .u8 E).size:=by rw [b9,hEl];kernel_rfl
       have hszE:=Lib.hid hsz0
       have hmr:=hM.r
       have hst:=mU (P:=Tryz.prog) hmr .u8 E (by rw [b9,oB,hEl])
       have hvs:(va .u8 E).size=16:=by rw [b9,hEl]
       have hNh:=Lib.hid hN
       have hMh:=Lib.hid hM
       have hmrh:=Lib.hid hmr
       clear hsz0 hN hM hmr hzv
       go_wp2_with (refine wpList_load_row rfl 26 (.tmp 18) rfl Y rfl 26 (va .u8 E) (0,0) _ hNh.out Tryz.underlying26 rfl hszE.out ?_)
       exact bodyPost_ret (results_cell_row rfl _ _ (w.heap.size+1+1) 26 (va .u8 E) (0,0) _ rfl (hmrh.out.row _) Tryz.underlying26 rfl hszE.out) rfl ⟨by rw [hE],eJ hMh.out.bel (by omega) _⟩
