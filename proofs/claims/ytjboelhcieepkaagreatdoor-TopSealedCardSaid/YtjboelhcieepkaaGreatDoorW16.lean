/- A part of the proof of TopSealed. -/
import Derived.Test.YtjboelhcieepkaaGreatDoorW15
noncomputable section
set_option maxRecDepth 16384
set_option maxHeartbeats 4000000
namespace Go.Proofs.YtjboelhcieepkaaGreatDoor
open Go.RowKit Sh
set_option maxRecDepth 8000 in
theorem bAz(key:List Nat)(A:Option Addr)(n c B:Nat)(hk:Byt key)(hn:n<100000)(w:World)(hr:bH w B 1 A n (nv .u8 key))(hB:B≤w.heap.size):
 Calls Tryz.prog 175 #[.slice A n c] w λe w'=>∃g c',e=.returned (.slice (some ⟨g,0,none⟩) 64 c')∧mR w' g (kb key)∧64≤c'∧w.heap.size≤g∧Below w.heap.size w w':=by
 have hln:=hr.len
 obtain ⟨B0,hB0e,hW,hB0⟩:=B9 w
 rw [hB0e]
 have hBB:B≤B0:=by omega
 have rd:=aBM hr hBB
 clear hr hB
 have hB0q:=Lib.hid hB0e
 clear hB0e
 obtain ⟨L,hL⟩:∃L,(kc key).length=L:=⟨_,rfl⟩
 have hLle:=aMD key
 rw [hL] at hLle
 by_cases h64:64<n
 ·
  have h64I:(64:Int)<(n:Int):=by omega
  have hkc:kc key=sha key:=by unfold kc;rw [if_pos (by omega)]
  have hLv:L=32:=by rw [<-hL,hkc];exact rM _
  have hkcq:=Lib.hid hkc
  clear hkc
  go_enter Tryz.func175,Tryz.ntmps175
  go_upto_region 0 with fail
  refine c9 ?_
  refine aY 2 (.slice none 0 0) rfl (by rfl) (by go_simp) ?_
  simp only [Ls]
  refine dA ?_
  go_upto_region 1 with fail
  refine c9 ?_
  refine dD 5 (.slice (some ⟨w.heap.size,0,none⟩) 0 0) (w.alloc (.cells (va .u8 ([])) 5)) rfl (by rfl) (kP 23 0 _ rfl _ (by exact X5 _)) ?_
  simp only [Ls]
  have lw_q1:=bI hB0 hW.size
  have hq1:aC (w.alloc (.cells (va .u8 ([])) 5)) w.heap.size 5 (va .u8 ([])):=aC.new _ _ _
  replace hW:=lQ hW hB0 (.cells (va .u8 ([])) 5)
  generalize w.alloc (.cells (va .u8 ([])) 5)=w1 at *
  generalize w.heap.size=q1 at hq1 lw_q1  ⊢
  refine aY 6 (.slice A n c) rfl (by rfl) (by go_simp) ?_
  simp only [Ls]
  have hoq1:cA w1 B0 (some ⟨q1,0,none⟩) 0 0 ([]):=hq1.owned rfl lw_q1 (by unfold maxLen;omega)
  clear hq1
  obtain ⟨A1,cA1,w2,hap,hA1,hcA1,hgr,hof⟩:=nS hoq1 A n c _ key (rd.out _ hW) (bI hB0 hW.size) key (by simp) n (by omega) (by omega) 23
  refine dD 7 (.slice A1 n cA1) w2 rfl (by rfl) (j8 _ _ _ _ rfl _ _ _ rfl rfl hap) ?_
  simp only [Ls]
  replace hW:=cA.belowG hW (bI hB0 hW.size) hoq1.from_ hgr
  clear hoq1 hgr hof hap
  refine aY 3 (.slice A1 n cA1) rfl (by rfl) (by go_simp) ?_
  simp only [Ls]
  refine dA ?_
  go_upto_region 2 with fail
  refine c9 ?_
  refine aY 8 (.slice A n c) rfl (by rfl) (by go_simp) ?_
  refine aY 9 (.int .i64 n) rfl (by rfl) (by go_simp) ?_
  refine aY 10 (.bool true) rfl (by rfl) (by go_simp) ?_
  simp only [Ls]
  refine dA ?_
  go_upto_region 3 with fail
  refine c9 ?_
  refine aY 11 (.slice A n c) rfl (by rfl) (by go_simp) ?_
  simp only [Ls]
  refine xK 12 rfl (by rfl) (λK hK=>uU 176 #[.slice A n c] (by go_simp) (aAR key A n c B hk (by omega) _ (rd.out _ hW) (bI hBB (bI hB0 hW.size))) ?_)
  rintro e w3 ⟨rfl,bx⟩
  replace hA1:=hA1.below bx
  replace hW:=kQ hW hB0 bx
  clear bx
  refine ⟨_,rfl,hK.out _ _ ?_⟩
  clear hK K
  simp only [Ls]
  refine dD 4 (.pointer (some ⟨w3.heap.size,0,none⟩)) (w3.alloc (.cells (va .u8 (List.replicate 32 0)) 32)) rfl (by rfl) (oO 32 rfl _ (J2 _)) ?_
  simp only [Ls]
  have nA1_p4:=hA1.new_off
  have lw_p4:=bI hB0 hW.size
  have hp4:=aC.new w3 32 (va .u8 (List.replicate 32 0))
  replace hA1:=hA1.alloc (.cells (va .u8 (List.replicate 32 0)) 32)
  replace hW:=lQ hW hB0 (.cells (va .u8 (List.replicate 32 0)) 32)
  generalize w3.alloc (.cells (va .u8 (List.replicate 32 0)) 32)=w4 at *
  generalize w3.heap.size=p4 at hp4 lw_p4 nA1_p4 ⊢
  refine oG (w4.setRow p4 (va .u8 (sha key))) rfl (by rfl) (qG 32 (.tmp 4) (.tmp 12) rfl p4 rfl (va .u8 (sha key)) rfl 32 (va .u8 (List.replicate 32 0)) hp4 (uR (mG _ (lR)) (mG _ (rM _))) (mG _ (rM _)) (vZ .u8 _)) ?_
  replace hA1:=hA1.rowFar nA1_p4 (va .u8 (sha key))
  replace hp4:=hp4.row (va .u8 (sha key))
  replace hW:=eJ hW lw_p4 (va .u8 (sha key))
  generalize w4.setRow p4 (va .u8 (sha key))=w5 at *
  refine dA ?_
  clear hA1
  go_upto_region 4 with fail
  refine c9 ?_
  refine dD 13 (.slice (some ⟨w5.heap.size,0,none⟩) 0 0) (w5.alloc (.cells (va .u8 ([])) 5)) rfl (by rfl) (kP 23 0 _ rfl _ (by exact X5 _)) ?_
  simp only [Ls]
  have lp4_q2:=hp4.lt
  have lw_q2:=bI hB0 hW.size
  have hq2:aC (w5.alloc (.cells (va .u8 ([])) 5)) w5.heap.size 5 (va .u8 ([])):=aC.new _ _ _
  have bx:=sE w5 (.cells (va .u8 ([])) 5)
  replace hp4:=gO hp4 bx
  replace hW:=kQ hW hB0 bx
  clear bx
  generalize w5.alloc (.cells (va .u8 ([])) 5)=w6 at *
  generalize w5.heap.size=q2 at hq2 lw_q2 lp4_q2 ⊢
  refine aY 14 (.slice (some ⟨p4,0,none⟩) 32 32) rfl (by rfl) (by go_simp) ?_
  simp only [Ls]
  have hoq2:cA w6 B0 (some ⟨q2,0,none⟩) 0 0 ([]):=hq2.owned rfl lw_q2 (by unfold maxLen;omega)
  have noq2_p4:eI (some ⟨q2,0,none⟩) p4:=λa ha=>by cases ha;simp;omega
  clear hq2
  obtain ⟨A1,cA1,w7,hap,hA1,hcA1,hgr,hof⟩:=nS hoq2 (some ⟨p4,0,none⟩) 32 32 _ (sha key) (hp4.readsAll (Nat.lt_succ_self _) (rM _)) (bI hB0 hW.size) (sha key) (by simp) 32 (by omega) (by omega) 23
  refine dD 15 (.slice A1 32 cA1) w7 rfl (by rfl) (j8 _ _ _ _ rfl _ _ _ rfl rfl hap) ?_
  simp only [Ls]
  have nA1_p4:=hof p4 noq2_p4 hp4.lt
  replace hp4:=hp4.grown hgr (noq2_p4.ob _ _)
  replace hW:=cA.belowG hW (bI hB0 hW.size) hoq2.from_ hgr
  clear hoq2 hgr hof hap
  refine aY 3 (.slice A1 32 cA1) rfl (by rfl) (by go_simp) ?_
  simp only [Ls]
  refine dA ?_
  clear hp4
  have hz:kc key++List.replicate 0 0=sha key:=by rw [hkcq.out];simp
  rw [<-hz] at hA1
  clear hz
  go_wp2
  go_loopw [3] (λv wr=>∃(k N:Nat) (A:Option Addr) (c:Nat),v=.slice A N c∧N=L+k∧k≤64-L∧cA wr B0 A N c (kc key++List.replicate k 0)∧Below B0 w wr) (λv _=>64-rH v)
  case atStart=>exact ⟨0,32,A1,cA1,rfl,by omega,by omega,hA1,hW⟩
  case round =>
   clear hA1 hW
   obtain ⟨k,N,A3,cA3,rfl,hN,hk2,hA3,hW⟩:=hrel
   by_cases hlt:k<64-L
   ·
    have hltI:(N:Int)<64:=by omega
    go_upto_region 6 with fail
    refine c9 ?_
    refine aY 19 (.slice A3 N cA3) rfl (by rfl) (by go_simp) ?_
    simp only [Ls]
    refine dD 20 (.slice (some ⟨wr.heap.size,0,none⟩) 1 1) (wr.alloc (.cells (va .u8 [0]) 5)) rfl (by rfl) (kP 23 1 _ rfl _ (by exact zH 0 _)) ?_
    simp only [Ls]
    have nA3_q3:=hA3.new_off
    have lw_q3:=bI hB0 hW.size
    have hq3:aC (wr.alloc (.cells (va .u8 [0]) 5)) wr.heap.size 5 (va .u8 [0]):=aC.new _ _ _
    replace hA3:=hA3.alloc (.cells (va .u8 [0]) 5)
    replace hW:=lQ hW hB0 (.cells (va .u8 [0]) 5)
    generalize wr.alloc (.cells (va .u8 [0]) 5)=w8 at *
    generalize wr.heap.size=q3 at hq3 lw_q3 nA3_q3 ⊢
    obtain ⟨A4,cA4,w9,hap,hA4,hcA4,hgr,hof⟩:=nS hA3 (some ⟨q3,0,none⟩) 1 1 _ ([0]) (hq3.readsAll (Nat.lt_succ_self _) rfl) (bI hB0 hW.size) (kc key++List.replicate (k+1) 0) (by rw [List.append_assoc,<-List.replicate_succ']) (N+1) (by omega) (by omega) 23
    refine dD 21 (.slice A4 (N+1) cA4) w9 rfl (by rfl) (j8 _ _ _ _ rfl _ _ _ rfl rfl hap) ?_
    simp only [Ls]
    have nA4_q3:=hof q3 nA3_q3 hq3.lt
    replace hq3:=hq3.grown hgr (nA3_q3.ob _ _)
    replace hW:=cA.belowG hW (bI hB0 hW.size) hA3.from_ hgr
    clear hA3 hgr hof hap
    refine aY 3 (.slice A4 (N+1) cA4) rfl (by rfl) (by go_simp) ?_
    simp only [Ls]
    refine dA ?_
    go_wp2
    go_roundw
    case rel=>exact ⟨k+1,N+1,A4,cA4,rfl,by omega,by omega,hA4,hW⟩
    case measure=>simp [rH];omega
   ·
    obtain rfl:N=64:=by omega
    have hkL:k=64-L:=by omega
    have hfin:kc key++List.replicate k 0=kb key:=by unfold kb;rw [hL,hkL]
    rw [hfin] at hA3
    rcases hA3.form with ⟨_,h0,_⟩|⟨ga,rfl,hga,hgl⟩
    ·omega
    have hcap:=hA3.cap
    have hby:=Lib.hid hA3.byB
    clear hA3 hN hkL hfin hL hLv hk2 hlt
    go_upto_region 7 with fail
    refine c9 ?_
    refine aY 22 (.slice (some ⟨ga,0,none⟩) 64 cA3) rfl (by rfl) (by go_simp) ?_
    refine aY 2 (.slice (some ⟨ga,0,none⟩) 64 cA3) rfl (by rfl) (by go_simp) ?_
    simp only [Ls]
    refine dA ?_
    go_wp2_with fail
    go_ret
    exact ⟨ga,cA3,rfl,hby.out,hcap,hga,hW⟩
 ·
  have h64I:¬ (64:Int)<(n:Int):=by omega
  have hkc:kc key=key:=by unfold kc;rw [if_neg (by omega)]
  have hLv:L=n:=by rw [<-hL,hkc];exact hln
  have hkcq:=Lib.hid hkc
  clear hkc
  go_enter Tryz.func175,Tryz.ntmps175
  go_upto_region 0 with fail
  refine c9 ?_
  refine aY 2 (.slice none 0 0) rfl (by rfl) (by go_simp) ?_
  simp only [Ls]
  refine dA ?_
  go_upto_region 1 with fail
  refine c9 ?_
  refine dD 5 (.slice (some ⟨w.heap.size,0,none⟩) 0 0) (w.alloc (.cells (va .u8 ([])) 5)) rfl (by rfl) (kP 23 0 _ rfl _ (by exact X5 _)) ?_
  simp only [Ls]
  have lw_q1:=bI hB0 hW.size
  have hq1:aC (w.alloc (.cells (va .u8 ([])) 5)) w.heap.size 5 (va .u8 ([])):=aC.new _ _ _
  replace hW:=lQ hW hB0 (.cells (va .u8 ([])) 5)
  generalize w.alloc (.cells (va .u8 ([])) 5)=w10 at *
  generalize w.heap.size=q1 at hq1 lw_q1  ⊢
  refine aY 6 (.slice A n c) rfl (by rfl) (by go_simp) ?_
  simp only [Ls]
  have hoq1:cA w10 B0 (some ⟨q1,0,none⟩) 0 0 ([]):=hq1.owned rfl lw_q1 (by unfold maxLen;omega)
  clear hq1
  obtain ⟨A1,cA1,w11,hap,hA1,hcA1,hgr,hof⟩:=nS hoq1 A n c _ key (rd.out _ hW) (bI hB0 hW.size) key (by simp) n (by omega) (by omega) 23
  refine dD 7 (.slice A1 n cA1) w11 rfl (by rfl) (j8 _ _ _ _ rfl _ _ _ rfl rfl hap) ?_
  simp only [Ls]
  replace hW:=cA.belowG hW (bI hB0 hW.size) hoq1.from_ hgr
  clear hoq1 hgr hof hap
  refine aY 3 (.slice A1 n cA1) rfl (by rfl) (by go_simp) ?_
  simp only [Ls]
  refine dA ?_
  go_upto_region 2 with fail
  refine c9 ?_
  refine aY 8 (.slice A n c) rfl (by rfl) (by go_simp) ?_
  refine aY 9 (.int .i64 n) rfl (by rfl) (by go_simp) ?_
  refine aY 10 (.bool false) rfl (by rfl) (by go_simp) ?_
  simp only [Ls]
  refine dA ?_
  have hz:kc key++List.replicate 0 0=key:=by rw [hkcq.out];simp
  rw [<-hz] at hA1
  clear hz
  go_wp2
  go_loopw [3] (λv wr=>∃(k N:Nat) (A:Option Addr) (c:Nat),v=.slice A N c∧N=L+k∧k≤64-L∧cA wr B0 A N c (kc key++List.replicate k 0)∧Below B0 w wr) (λv _=>64-rH v)
  case atStart=>exact ⟨0,n,A1,cA1,rfl,by omega,by omega,hA1,hW⟩
  case round =>
   clear hA1 hW
   obtain ⟨k,N,A3,cA3,rfl,hN,hk2,hA3,hW⟩:=hrel
   by_cases hlt:k<64-L
   ·
    have hltI:(N:Int)<64:=by omega
    go_upto_region 6 with fail
    refine c9 ?_
    refine aY 19 (.slice A3 N cA3) rfl (by rfl) (by go_simp) ?_
    simp only [Ls]
    refine dD 20 (.slice (some ⟨wr.heap.size,0,none⟩) 1 1) (wr.alloc (.cells (va .u8 [0]) 5)) rfl (by rfl) (kP 23 1 _ rfl _ (by exact zH 0 _)) ?_
    simp only [Ls]
    have nA3_q2:=hA3.new_off
    have lw_q2:=bI hB0 hW.size
    have hq2:aC (wr.alloc (.cells (va .u8 [0]) 5)) wr.heap.size 5 (va .u8 [0]):=aC.new _ _ _
    replace hA3:=hA3.alloc (.cells (va .u8 [0]) 5)
    replace hW:=lQ hW hB0 (.cells (va .u8 [0]) 5)
    generalize wr.alloc (.cells (va .u8 [0]) 5)=w12 at *
    generalize wr.heap.size=q2 at hq2 lw_q2 nA3_q2 ⊢
    obtain ⟨A4,cA4,w13,hap,hA4,hcA4,hgr,hof⟩:=nS hA3 (some ⟨q2,0,none⟩) 1 1 _ ([0]) (hq2.readsAll (Nat.lt_succ_self _) rfl) (bI hB0 hW.size) (kc key++List.replicate (k+1) 0) (by rw [List.append_assoc,<-List.replicate_succ']) (N+1) (by omega) (by omega) 23
    refine dD 21 (.slice A4 (N+1) cA4) w13 rfl (by rfl) (j8 _ _ _ _ rfl _ _ _ rfl rfl hap) ?_
    simp only [Ls]
    have nA4_q2:=hof q2 nA3_q2 hq2.lt
    replace hq2:=hq2.grown hgr (nA3_q2.ob _ _)
    replace hW:=cA.belowG hW (bI hB0 hW.size) hA3.from_ hgr
    clear hA3 hgr hof hap
    refine aY 3 (.slice A4 (N+1) cA4) rfl (by rfl) (by go_simp) ?_
    simp only [Ls]
    refine dA ?_
    go_wp2
    go_roundw
    case rel=>exact ⟨k+1,N+1,A4,cA4,rfl,by omega,by omega,hA4,hW⟩
    case measure=>simp [rH];omega
   ·
    obtain rfl:N=64:=by omega
    have hkL:k=64-L:=by omega
    have hfin:kc key++List.replicate k 0=kb key:=by unfold kb;rw [hL,hkL]
    rw [hfin] at hA3
    rcases hA3.form with ⟨_,h0,_⟩|⟨ga,rfl,hga,hgl⟩
    ·omega
    have hcap:=hA3.cap
    have hby:=Lib.hid hA3.byB
    clear hA3 hN hkL hfin hL hLv hk2 hlt
    go_upto_region 7 with fail
    refine c9 ?_
    refine aY 22 (.slice (some ⟨ga,0,none⟩) 64 cA3) rfl (by rfl) (by go_simp) ?_
    refine aY 2 (.slice (some ⟨ga,0,none⟩) 64 cA3) rfl (by rfl) (by go_simp) ?_
    simp only [Ls]
    refine dA ?_
    go_wp2_with fail
    go_ret
    exact ⟨ga,cA3,rfl,hby.out,hcap,hga,hW⟩
set_option maxRecDepth 8000 in
theorem aTh(key m:List Nat)(A:Option Addr)(n c B:Nat)(A2:Option Addr)(n2 c2 B2:Nat)(hk:Byt key)(hn:n<100000)(hm0:Byt m)(hn2:n2<100000)(w:World)(hr:bH w B 1 A n (nv .u8 key))(hB:B≤w.heap.size)
 (hr2:bH w B2 1 A2 n2 (nv .u8 m)) (hB2:B2≤w.heap.size) :
 Calls Tryz.prog 98 #[.slice A n c,.slice A2 n2 c2] w λe w'=>e=.returned (.agg (va .u8 (hm key m)))∧Below w.heap.size w w':=by
 have hln2:=hr2.len
 obtain ⟨B0,hB0e,hW,hB0⟩:=B9 w
 rw [hB0e]
 have hBB:B≤B0:=by omega
 have hBB2:B2≤B0:=by omega
 have rd:=aBM hr hBB
 have rd2:=aBM hr2 hBB2
 clear hr hB hr2 hB2
 have hB0q:=Lib.hid hB0e
 clear hB0e
 go_enter Tryz.func98,Tryz.ntmps98
 go_upto_region 0 with fail
 refine c9 ?_
 refine dD 4 (.pointer (some ⟨w.heap.size,0,none⟩)) (w.alloc (.cells (va .u8 (List.replicate 32 0)) 32)) rfl (by rfl) (oO 32 rfl _ (J2 _)) ?_
 simp only [Ls]
 have lw_p4:=bI hB0 hW.size
 have hp4:=aC.new w 32 (va .u8 (List.replicate 32 0))
 replace hW:=lQ hW hB0 (.cells (va .u8 (List.replicate 32 0)) 32)
 generalize w.alloc (.cells (va .u8 (List.replicate 32 0)) 32)=w1 at *
 generalize w.heap.size=p4 at hp4 lw_p4  ⊢
 refine dA ?_
 go_upto_region 1 with fail
 refine c9 ?_
 refine aY 10 (.slice A n c) rfl (by rfl) (by go_simp) ?_
 simp only [Ls]
 refine xK 11 rfl (by rfl) (λK hK=>uU 175 #[.slice A n c] (by go_simp) (bAz key A n c B hk hn _ (rd.out _ hW) (bI hBB (bI hB0 hW.size))) ?_)
 rintro e w2 ⟨g5,c5,rfl,hg5,hc5,hgg,bx⟩
 have lp4_g5:p4<g5:=eQ hp4.lt hgg
 have lw_g5:B0≤g5:=bI (bI hB0 hW.size) hgg
 replace hp4:=gO hp4 bx
 replace hW:=kQ hW hB0 bx
 clear hgg
 clear bx
 refine ⟨_,rfl,hK.out _ _ ?_⟩
 clear hK K
 refine aY 5 (.slice (some ⟨g5,0,none⟩) 64 c5) rfl (by rfl) (by go_simp) ?_
 simp only [Ls]
 refine dA ?_
 go_upto_region 2 with fail
 refine c9 ?_
 refine aY 6 (.slice none 0 0) rfl (by rfl) (by go_simp) ?_
 refine aY 7 (.slice none 0 0) rfl (by rfl) (by go_simp) ?_
 simp only [Ls]
 refine dA ?_
 have hI0:cA w2 B0 none 0 0 []:=cA.nil _ _
 have nI0_p4:eI none p4:=eI.nil _
 have nI0_g5:eI none g5:=eI.nil _
 have hO0:cA w2 B0 none 0 0 []:=cA.nil _ _
 have nO0_p4:eI none p4:=eI.nil _
 have nO0_g5:eI none g5:=eI.nil _
 have sI0_O0:∀a:Addr,none=some a->eI none a.block:=λa _=>eI.nil _
 have sO0_I0:∀a:Addr,(none:Option Addr)=some a->eI none a.block:=λa ha=>by cases ha
 go_wp2
 go_loopw [6,7,8] (λu v s wr=>∃(i:Nat) (AI AO:Option Addr) (cI cO:Nat),i≤64∧s=.int .i64 (i:Int)∧u=.slice AI i cI∧v=.slice AO i cO∧cA wr B0 AI i cI ((kx key 54).take i)∧cA wr B0 AO i cO ((kx key 92).take i)∧(∀a,AI=some a->eI AO a.block)∧(∀a,AO=some a->eI AI a.block)∧eI AI p4∧eI AO p4∧eI AI g5∧eI AO g5∧aC wr p4 32 (va .u8 (List.replicate 32 0))∧mR wr g5 (kb key)∧Below B0 w wr) (λ_ _ s _=>64-(intOf s).toNat)
 case atStart=>exact ⟨0,none,none,0,0,by omega,rfl,rfl,rfl,hI0,hO0,(λ_ h=>by cases h),(λ_ h=>by cases h),eI.nil _,eI.nil _,eI.nil _,eI.nil _,hp4,hg5,hW⟩
 case round =>
  clear hI0 hO0 hp4 hg5 hW nI0_p4 nI0_g5 sI0_O0 sO0_I0 nO0_p4 nO0_g5
  obtain ⟨i,AI,AO,cI,cO,hi,rfl,rfl,rfl,hAI,hAO,sAI_AO,sAO_AI,nAI_p4,nAO_p4,nAI_g5,nAO_g5,hp4,hg5,hW⟩:=hrel
  by_cases hlt:i<64
  ·
   have hltI:(i:Int)<64:=by omega
   have hy:=(aIO key hk).get i
   obtain ⟨y,hye⟩:∃y,(kb key).getD i 0=y:=⟨_,rfl⟩
   rw [hye] at hy
   have hyq:=Lib.hid hye
   have hx1:bits BinOp.xor IntKind.u8 (y:Int) 54=((y ^^^ 54:Nat):Int):=u8_xor_nat y 54 hy (by omega)
   have hx2:bits BinOp.xor IntKind.u8 (y:Int) 92=((y ^^^ 92:Nat):Int):=u8_xor_nat y 92 hy (by omega)
   have ht1:(kx key 54).take i++[y ^^^ 54]=(kx key 54).take (i+1):=by rw [aBv _ _ (by rw [aFA];exact hlt),aIp _ _ _ hlt,hye]
   have ht2:(kx key 92).take i++[y ^^^ 92]=(kx key 92).take (i+1):=by rw [aBv _ _ (by rw [aFA];exact hlt),aIp _ _ _ hlt,hye]
   have ht1q:=Lib.hid ht1
   have ht2q:=Lib.hid ht2
   clear hye ht1 ht2
   go_upto_region 6 with fail
   refine c9 ?_
   refine aY 16 (.slice AI i cI) rfl (by rfl) (by go_simp) ?_
   refine aY 17 (.slice (some ⟨g5,0,none⟩) 64 c5) rfl (by rfl) (by go_simp) ?_
   refine aY 18 (.int .i64 (i:Int)) rfl (by rfl) (by go_simp) ?_
   refine aY 19 (.pointer (some ⟨g5,i,none⟩)) rfl (by rfl) (by go_simp) ?_
   refine aY 20 (.int .u8 ((y:Nat):Int)) rfl (by rfl) (mC 5 (.tmp 19) rfl g5 i rfl (.int .u8 ((y:Nat):Int)) _ Tryz.underlying5 rfl (by rw [<-hyq.out];exact hg5.num (by rw [aAt];exact hlt))) ?_
   refine aY 21 (.int .u8 ((y ^^^ 54:Nat):Int)) rfl (by rfl) (by go_simp) ?_
   simp only [Ls]
   refine dD 22 (.slice (some ⟨wr.heap.size,0,none⟩) 1 1) (wr.alloc (.cells (va .u8 [(y ^^^ 54)]) 5)) rfl (by rfl) (kP 23 1 _ rfl _ (by exact zH (y ^^^ 54) _)) ?_
   simp only [Ls]
   have lp4_q1:=hp4.lt
   have lg5_q1:=hg5.lt
   have nAI_q1:=hAI.new_off
   have nAO_q1:=hAO.new_off
   have lw_q1:=bI hB0 hW.size
   have hq1:aC (wr.alloc (.cells (va .u8 [(y ^^^ 54)]) 5)) wr.heap.size 5 (va .u8 [(y ^^^ 54)]):=aC.new _ _ _
   replace hp4:=hp4.alloc (.cells (va .u8 [(y ^^^ 54)]) 5)
   replace hg5:=hg5.alloc (.cells (va .u8 [(y ^^^ 54)]) 5)
   replace hAI:=hAI.alloc (.cells (va .u8 [(y ^^^ 54)]) 5)
   replace hAO:=hAO.alloc (.cells (va .u8 [(y ^^^ 54)]) 5)
   replace hW:=lQ hW hB0 (.cells (va .u8 [(y ^^^ 54)]) 5)
   generalize wr.alloc (.cells (va .u8 [(y ^^^ 54)]) 5)=w3 at *
   generalize wr.heap.size=q1 at hq1 lw_q1 lp4_q1 lg5_q1 nAI_q1 nAO_q1 ⊢
   obtain ⟨AJ,cAJ,w4,hap,hAJ,hcAJ,hgr,hof⟩:=nS hAI (some ⟨q1,0,none⟩) 1 1 _ ([(y ^^^ 54)]) (hq1.readsAll (Nat.lt_succ_self _) rfl) (bI hB0 hW.size) ((kx key 54).take (i+1)) ht1q.out (i+1) (by omega) (by omega) 23
   refine dD 23 (.slice AJ (i+1) cAJ) w4 rfl (by rfl) (j8 _ _ _ _ rfl _ _ _ rfl rfl hap) ?_
   simp only [Ls]
   have nAJ_p4:=hof p4 nAI_p4 hp4.lt
   replace hp4:=hp4.grown hgr (nAI_p4.ob _ _)
   have nAJ_g5:=hof g5 nAI_g5 hg5.lt
   replace hg5:=hg5.grown hgr (nAI_g5.ob _ _)
   have sAO_AJ:∀a:Addr,AO=some a->eI AJ a.block:=λa ha=>hof a.block (sAO_AI a ha) (hAO.lt ha).2
   replace hAO:=hAO.grown hgr sAO_AI
   have sAJ_AO:=cA.new_sep hAO hAJ sAO_AJ
   have nAJ_q1:=hof q1 nAI_q1 hq1.lt
   replace hq1:=hq1.grown hgr (nAI_q1.ob _ _)
   replace hW:=cA.belowG hW (bI hB0 hW.size) hAI.from_ hgr
   clear hAI hgr hof hap
   refine aY 6 (.slice AJ (i+1) cAJ) rfl (by rfl) (by go_simp) ?_
   simp only [Ls]
   refine dA ?_
   clear hq1
   go_upto_region 7 with fail
   refine c9 ?_
   refine aY 24 (.slice AO i cO) rfl (by rfl) (by go_simp) ?_
   refine aY 25 (.slice (some ⟨g5,0,none⟩) 64 c5) rfl (by rfl) (by go_simp) ?_
   refine aY 26 (.int .i64 (i:Int)) rfl (by rfl) (by go_simp) ?_
   refine aY 27 (.pointer (some ⟨g5,i,none⟩)) rfl (by rfl) (by go_simp) ?_
   refine aY 28 (.int .u8 ((y:Nat):Int)) rfl (by rfl) (mC 5 (.tmp 27) rfl g5 i rfl (.int .u8 ((y:Nat):Int)) _ Tryz.underlying5 rfl (by rw [<-hyq.out];exact hg5.num (by rw [aAt];exact hlt))) ?_
   refine aY 29 (.int .u8 ((y ^^^ 92:Nat):Int)) rfl (by rfl) (by go_simp) ?_
   simp only [Ls]
   refine dD 30 (.slice (some ⟨w4.heap.size,0,none⟩) 1 1) (w4.alloc (.cells (va .u8 [(y ^^^ 92)]) 5)) rfl (by rfl) (kP 23 1 _ rfl _ (by exact zH (y ^^^ 92) _)) ?_
   simp only [Ls]
   have lp4_q2:=hp4.lt
   have lg5_q2:=hg5.lt
   have nAO_q2:=hAO.new_off
   have nAJ_q2:=hAJ.new_off
   have lw_q2:=bI hB0 hW.size
   have hq2:aC (w4.alloc (.cells (va .u8 [(y ^^^ 92)]) 5)) w4.heap.size 5 (va .u8 [(y ^^^ 92)]):=aC.new _ _ _
   replace hp4:=hp4.alloc (.cells (va .u8 [(y ^^^ 92)]) 5)
   replace hg5:=hg5.alloc (.cells (va .u8 [(y ^^^ 92)]) 5)
   replace hAO:=hAO.alloc (.cells (va .u8 [(y ^^^ 92)]) 5)
   replace hAJ:=hAJ.alloc (.cells (va .u8 [(y ^^^ 92)]) 5)
   replace hW:=lQ hW hB0 (.cells (va .u8 [(y ^^^ 92)]) 5)
   generalize w4.alloc (.cells (va .u8 [(y ^^^ 92)]) 5)=w5 at *
   generalize w4.heap.size=q2 at hq2 lw_q2 lp4_q2 lg5_q2 nAO_q2 nAJ_q2 ⊢
   obtain ⟨AP,cAP,w6,hap,hAP,hcAP,hgr,hof⟩:=nS hAO (some ⟨q2,0,none⟩) 1 1 _ ([(y ^^^ 92)]) (hq2.readsAll (Nat.lt_succ_self _) rfl) (bI hB0 hW.size) ((kx key 92).take (i+1)) ht2q.out (i+1) (by omega) (by omega) 23
   refine dD 31 (.slice AP (i+1) cAP) w6 rfl (by rfl) (j8 _ _ _ _ rfl _ _ _ rfl rfl hap) ?_
   simp only [Ls]
   have nAP_p4:=hof p4 nAO_p4 hp4.lt
   replace hp4:=hp4.grown hgr (nAO_p4.ob _ _)
   have nAP_g5:=hof g5 nAO_g5 hg5.lt
   replace hg5:=hg5.grown hgr (nAO_g5.ob _ _)
   have sAJ_AP:∀a:Addr,AJ=some a->eI AP a.block:=λa ha=>hof a.block (sAJ_AO a ha) (hAJ.lt ha).2
   replace hAJ:=hAJ.grown hgr sAJ_AO
   have sAP_AJ:=cA.new_sep hAJ hAP sAJ_AP
   have nAP_q2:=hof q2 nAO_q2 hq2.lt
   replace hq2:=hq2.grown hgr (nAO_q2.ob _ _)
   replace hW:=cA.belowG hW (bI hB0 hW.size) hAO.from_ hgr
   clear hAO hgr hof hap
   refine aY 7 (.slice AP (i+1) cAP) rfl (by rfl) (by go_simp) ?_
   simp only [Ls]
   refine dA ?_
   go_wp2
   go_roundw
   case rel=>exact ⟨i+1,AJ,AP,cAJ,cAP,by omega,by go_num,rfl,rfl,hAJ,hAP,sAJ_AP,sAP_AJ,nAJ_p4,nAP_p4,nAJ_g5,nAP_g5,hp4,hg5,hW⟩
   case measure=>simp [intOf];omega
  ·
   obtain rfl:i=64:=by omega
   rw [jB (by rw [aFA];omega)] at hAI hAO
   clear hg5
   go_upto_region 8 with fail
   refine c9 ?_
   refine aY 32 (.slice AI 64 cI) rfl (by rfl) (by go_simp) ?_
   refine aY 33 (.slice A2 n2 c2) rfl (by rfl) (by go_simp) ?_
   simp only [Ls]
   obtain ⟨AJ,cAJ,w7,hap,hAJ,hcAJ,hgr,hof⟩:=nS hAI A2 n2 c2 _ m (rd2.out _ hW) (bI hB0 hW.size) (kx key 54++m) rfl (64+n2) (by omega) (by omega) 23
   refine dD 34 (.slice AJ (64+n2) cAJ) w7 rfl (by rfl) (j8 _ _ _ _ rfl _ _ _ rfl rfl hap) ?_
   simp only [Ls]
   have nAJ_p4:=hof p4 nAI_p4 hp4.lt
   replace hp4:=hp4.grown hgr (nAI_p4.ob _ _)
   have sAO_AJ:∀a:Addr,AO=some a->eI AJ a.block:=λa ha=>hof a.block (sAO_AI a ha) (hAO.lt ha).2
   replace hAO:=hAO.grown hgr sAO_AI
   have sAJ_AO:=cA.new_sep hAO hAJ sAO_AJ
   replace hW:=cA.belowG hW (bI hB0 hW.size) hAI.from_ hgr
   clear hAI hgr hof hap
   refine xK 35 rfl (by rfl) (λK hK=>uU 176 #[.slice AJ (64+n2) cAJ] (by go_simp) (aAR (kx key 54++m) AJ (64+n2) cAJ _ ((aKE _ _ hk (by omega)).app hm0) (by omega) _ hAJ.reads (aS _)) ?_)
   rintro e w8 ⟨rfl,bx⟩
   replace hp4:=gO hp4 bx
   replace hAO:=hAO.below bx
   replace hAJ:=hAJ.below bx
   replace hW:=kQ hW hB0 bx
   clear bx
   refine ⟨_,rfl,hK.out _ _ ?_⟩
   clear hK K
   simp only [Ls]
   refine dD 9 (.pointer (some ⟨w8.heap.size,0,none⟩)) (w8.alloc (.cells (va .u8 (List.replicate 32 0)) 32)) rfl (by rfl) (oO 32 rfl _ (J2 _)) ?_
   simp only [Ls]
   have lp4_p9:=hp4.lt
   have nAO_p9:=hAO.new_off
   have nAJ_p9:=hAJ.new_off
   have lw_p9:=bI hB0 hW.size
   have hp9:=aC.new w8 32 (va .u8 (List.replicate 32 0))
   replace hp4:=hp4.alloc (.cells (va .u8 (List.replicate 32 0)) 32)
   replace hAO:=hAO.alloc (.cells (va .u8 (List.replicate 32 0)) 32)
   replace hAJ:=hAJ.alloc (.cells (va .u8 (List.replicate 32 0)) 32)
   replace hW:=lQ hW hB0 (.cells (va .u8 (List.replicate 32 0)) 32)
   generalize w8.alloc (.cells (va .u8 (List.replicate 32 0)) 32)=w9 at *
   generalize w8.heap.size=p9 at hp9 lw_p9 lp4_p9 nAO_p9 nAJ_p9 ⊢
   refine oG (w9.setRow p9 (va .u8 (sha (kx key 54++m)))) rfl (by rfl) (qG 32 (.tmp 9) (.tmp 35) rfl p9 rfl (va .u8 (sha (kx key 54++m))) rfl 32 (va .u8 (List.replicate 32 0)) hp9 (uR (mG _ (lR)) (mG _ (rM _))) (mG _ (rM _)) (vZ .u8 _)) ?_
   replace hp4:=hp4.rowFar (show p9≠p4 from (by omega)) (va .u8 (sha (kx key 54++m)))
   replace hAO:=hAO.rowFar nAO_p9 (va .u8 (sha (kx key 54++m)))
   replace hAJ:=hAJ.rowFar nAJ_p9 (va .u8 (sha (kx key 54++m)))
   replace hp9:=hp9.row (va .u8 (sha (kx key 54++m)))
   replace hW:=eJ hW lw_p9 (va .u8 (sha (kx key 54++m)))
   generalize w9.setRow p9 (va .u8 (sha (kx key 54++m)))=w10 at *
   refine dA ?_
   clear hAJ
   go_upto_region 9 with fail
   refine c9 ?_
   refine aY 36 (.slice AO 64 cO) rfl (by rfl) (by go_simp) ?_
   refine aY 37 (.slice (some ⟨p9,0,none⟩) 32 32) rfl (by rfl) (by go_simp) ?_
   simp only [Ls]
   obtain ⟨AP,cAP,w11,hap,hAP,hcAP,hgr,hof⟩:=nS hAO (some ⟨p9,0,none⟩) 32 32 _ (sha (kx key 54++m)) (hp9.readsAll (Nat.lt_succ_self _) (rM _)) (bI hB0 hW.size) (kx key 92++sha (kx key 54++m)) rfl (64+32) (by omega) (by omega) 23
   refine dD 38 (.slice AP (64+32) cAP) w11 rfl (by rfl) (j8 _ _ _ _ rfl _ _ _ rfl rfl hap) ?_
   simp only [Ls]
   have nAP_p4:=hof p4 nAO_p4 hp4.lt
   replace hp4:=hp4.grown hgr (nAO_p4.ob _ _)
   have nAP_p9:=hof p9 nAO_p9 hp9.lt
   replace hp9:=hp9.grown hgr (nAO_p9.ob _ _)
   replace hW:=cA.belowG hW (bI hB0 hW.size) hAO.from_ hgr
   clear hAO hgr hof hap
   refine xK 39 rfl (by rfl) (λK hK=>uU 176 #[.slice AP (64+32) cAP] (by go_simp) (aAR (kx key 92++sha (kx key 54++m)) AP (64+32) cAP _ ((aKE _ _ hk (by omega)).app (aNv _)) (by omega) _ hAP.reads (aS _)) ?_)
   rintro e w12 ⟨rfl,bx⟩
   replace hp4:=gO hp4 bx
   replace hp9:=gO hp9 bx
   replace hAP:=hAP.below bx
   replace hW:=kQ hW hB0 bx
   clear bx
   refine ⟨_,rfl,hK.out _ _ ?_⟩
   clear hK K
   simp only [Ls]
   refine oG (w12.setRow p4 (va .u8 (hm key m))) rfl (by rfl) (qG 32 (.tmp 4) (.tmp 39) rfl p4 rfl (va .u8 (hm key m)) rfl 32 (va .u8 (List.replicate 32 0)) hp4 (uR (mG _ (lR)) (mG _ (aD9 _ _))) (mG _ (aD9 _ _)) (vZ .u8 _)) ?_
   replace hp9:=hp9.rowFar (show p4≠p9 from (by omega)) (va .u8 (hm key m))
   replace hAP:=hAP.rowFar nAP_p4 (va .u8 (hm key m))
   replace hp4:=hp4.row (va .u8 (hm key m))
   replace hW:=eJ hW lw_p4 (va .u8 (hm key m))
   generalize w12.setRow p4 (va .u8 (hm key m))=w13 at *
   refine dA ?_
   go_wp2_with fail
   exact bodyPost_ret (results_cell_row rfl _ _ p4 32 (va .u8 (hm key m)) (0,0) _ rfl hp4 (by exact Tryz.underlying32) rfl (mG _ (aD9 _ _))) rfl ⟨rfl,hW⟩
end Go.Proofs.YtjboelhcieepkaaGreatDoor
namespace Go.Proofs.YtjboelhcieepkaaGreatDoor
open Go.RowKit
def yZ:List Nat:=[160,250,254,23,136,84,44,177,35,163,57,57,42,108,118,5]
theorem aXk(L b:List Nat):(Ci.enc L b).length=16:=Ci.encS_len L b 10
end Go.Proofs.YtjboelhcieepkaaGreatDoor
namespace Go.Proofs.YtjboelhcieepkaaGreatDoor.Ci
def T(j:Nat):Nat:=4*(j%4)+j / 4
theorem aEZ{j:Nat}(h:j<16):T j<16:=by unfold T;omega
theorem T_T{j:Nat}(h:j<16):T (T j)=j:=by unfold T;omega
theorem aAq(c r:Nat)(hr:r<4):T (4*c+r)=4*r+c:=by unfold T;omega
theorem n6(f:Nat->Nat){i:Nat}(hi:i<16):((List.range 16).map f).getD i 0=f i:=by
 simp [hi]
def tr(x:List Nat):List Nat:=(List.range 16).map λj=>x.getD (T j) 0
theorem tr_len(x:List Nat):(tr x).length=16:=by simp [tr]
theorem tr_get(x:List Nat){j:Nat}(hj:j<16):(tr x).getD j 0=x.getD (T j) 0:=n6 _ hj
def updT(f:Nat->Nat)(b:List Nat)(k:Nat):List Nat:=(List.range 16).map λj=>if T j<k then f (T j) else b.getD j 0
theorem updT_len(f:Nat->Nat)(b:List Nat)(k:Nat):(updT f b k).length=16:=by simp [updT]
theorem wI(f:Nat->Nat)(b:List Nat)(k:Nat){j:Nat}(hj:j<16):(updT f b k).getD j 0=if T j<k then f (T j) else b.getD j 0:=n6 _ hj
theorem yH{a b:List Nat}(ha:a.length=16)(hb:b.length=16)(h:∀i,i<16->a.getD i 0=b.getD i 0):a=b:=by
 apply List.ext_getElem (by omega)
 intro i h1 h2
 have:=h i (by omega)
 simpa [h1,h2] using this
theorem a4M(l:List Nat)(p v i:Nat)(hi:i<l.length):(l.set p v).getD i 0=if p=i then v else l.getD i 0:=by
 simp only [cP,List.getElem?_set]
 by_cases h:p=i
 ·subst h;simp [hi]
 ·simp [h]
theorem updT_zero(f:Nat->Nat){b:List Nat}(hb:b.length=16):updT f b 0=b :=
 yH (updT_len ..) hb λi hi=>by rw [wI _ _ _ hi];simp
theorem updT_set(f:Nat->Nat)(b:List Nat)(k p v:Nat)(hk:k<16)(hp:T k=p)(hv:f k=v):(updT f b k).set p v=updT f b (k+1):=by
 refine yH (by simp [updT_len]) (updT_len ..) λi hi=>?_
 rw [a4M _ _ _ _ (by rw [updT_len];exact hi),wI _ _ _ hi,wI _ _ _ hi]
 by_cases h:p=i
 ·subst hp h
  rw [if_pos rfl,T_T hk,if_pos (by omega),hv]
 ·have:T i≠k:=λe=>h (by rw [<-hp,<-e,T_T hi])
  rw [if_neg h]
  by_cases hl:T i<k
  ·rw [if_pos hl,if_pos (by omega)]
  ·rw [if_neg hl,if_neg (by omega)]
theorem updT_id(f:Nat->Nat){b:List Nat}(hb:b.length=16)(k:Nat)(h:∀i,i<16->f (T i)=b.getD i 0):updT f b k=b :=
 yH (updT_len ..) hb λi hi=>by
  rw [wI _ _ _ hi]
  split
  ·exact h i hi
  ·rfl
theorem updT_all(f:Nat->Nat)(b x:List Nat)(h:∀i,i<16->f i=x.getD i 0):updT f b 16=tr x :=
 yH (updT_len ..) (tr_len _) λi hi=>by rw [wI _ _ _ hi,if_pos (aEZ hi),h _ (aEZ hi),tr_get _ hi]
def yR(L b:List Nat)(k:Nat):List Nat:=rot 1 (each Gf.sub (encS L b k))
def xR(L b:List Nat)(k:Nat):List Nat:=if k+1<10 then mix [2,3,1,1] (yR L b k) else yR L b k
theorem yR_byt(L b:List Nat)(k:Nat):Byt (yR L b k):=rot_byt (each_byt Gf.sub_lt _)
theorem xR_byt(L b:List Nat)(k:Nat):Byt (xR L b k):=by
 unfold xR;split
 ·exact mix_byt fac_byt (yR_byt L b k)
 ·exact yR_byt L b k
theorem aTc(L b:List Nat)(k:Nat):encS L b (k+1)=addK (xR L b k) (ks L (k+1)):=rfl
theorem aLt(L:List Nat)(k s:Nat)(hs:s<16):(ks L k).getD s 0=L.getD (k*16+s) 0:=by
 unfold ks
 simp [List.getElem?_drop,hs]
theorem encS_get(L b:List Nat)(k s:Nat)(hs:s<16):(encS L b (k+1)).getD s 0=(xR L b k).getD s 0 ^^^ L.getD ((k+1)*16+s) 0:=by
 rw [aTc];unfold addK;rw [n6 _ hs,aLt _ _ _ hs]
theorem encS_first(L b:List Nat)(s:Nat)(hs:s<16):(encS L b 0).getD s 0=b.getD s 0 ^^^ L.getD s 0:=by
 show (addK b (ks L 0)).getD s 0=_
 unfold addK;rw [n6 _ hs,aLt _ _ _ hs];simp
theorem yR_get(L b:List Nat)(k r c:Nat)(hr:r<4)(hc:c<4):(tr (yR L b k)).getD (4*r+c) 0=Gf.sub ((tr (encS L b k)).getD (4*r+(c+r)%4) 0):=by
 rw [tr_get _ (by omega),tr_get _ (by omega)]
 have e1:T (4*r+c)=4*c+r:=aAq r c hc
 have e2:T (4*r+(c+r)%4)=4*((c+r)%4)+r:=aAq r _ (by omega)
 rw [e1,e2]
 unfold yR rot each
 rw [n6 _ (by omega),n6 _ (by omega)]
 have e3:(4*c+r) / 4=c:=by omega
 have e4:(4*c+r)%4=r:=by omega
 rw [e3,e4,Nat.one_mul]
theorem sub_all(L b:List Nat)(k:Nat)(z:List Nat)(hz:z.length=16):upd (λi=>(tr (yR L b k)).getD i 0) z 16=tr (yR L b k):=by
 rw [upd_all _ _ _ (by omega),hz]
 exact yH (by simp) (tr_len _) λi hi=>n6 _ hi
theorem out_all(x z:List Nat)(hx:x.length=16)(hz:z.length=16):upd (λi=>(tr x).getD (T i) 0) z 16=x:=by
 rw [upd_all _ _ _ (by omega),hz]
 exact yH (by simp) hx λi hi=>by rw [n6 _ hi,tr_get _ (aEZ hi),T_T hi]
theorem gm3(a:Nat):Gf.gm a 3=Gf.gm a 2 ^^^ Gf.gm a 1:=by rw [show (3:Nat)=2 ^^^ 1 from rfl,Gf.gm_right]
theorem bEE(a:Nat)(h:a<256):Gf.gm 3 a=Gf.gm 2 a ^^^ a:=by
 rw [Gf.gm_comm 3 a (by omega) h,gm3,Gf.gm_one a h,Gf.gm_comm a 2 h (by omega)]
theorem vH(a:Nat)(h:a<256):Gf.gm 1 a=a:=by rw [Gf.gm_comm 1 a (by omega) h,Gf.gm_one a h]
def dbl(a:Nat):Nat:=Gf.gm 2 a
theorem dbl_lt(a:Nat):dbl a<256:=Gf.gm_lt _ _ (by omega)
theorem aCk(y:List Nat)(c r p q s t:Nat)(h0:y.getD (4*c+(r+0)%4) 0=p)(h1:y.getD (4*c+(r+1)%4) 0=q)(h2:y.getD (4*c+(r+2)%4) 0=s)(h3:y.getD (4*c+(r+3)%4) 0=t):
 mixS [2,3,1,1] y c r 4=Gf.gm 2 p ^^^ Gf.gm 3 q ^^^ Gf.gm 1 s ^^^ Gf.gm 1 t:=by
 simp only [mixS]
 rw [h0,h1,h2,h3,Nat.zero_xor]
 rfl
theorem mix_at(y:List Nat)(hy:Byt y)(c:Nat)(hc:c<4)(a0 a1 a2 a3:Nat)(h0:y.getD (4*c) 0=a0)(h1:y.getD (4*c+1) 0=a1)(h2:y.getD (4*c+2) 0=a2)(h3:y.getD (4*c+3) 0=a3):
 (mix [2,3,1,1] y).getD (4*c) 0=dbl a0 ^^^ dbl a1 ^^^ a1 ^^^ a2 ^^^ a3 ∧
 (mix [2,3,1,1] y).getD (4*c+1) 0=a0 ^^^ dbl a1 ^^^ dbl a2 ^^^ a2 ^^^ a3 ∧
 (mix [2,3,1,1] y).getD (4*c+2) 0=a0 ^^^ a1 ^^^ dbl a2 ^^^ dbl a3 ^^^ a3 ∧
 (mix [2,3,1,1] y).getD (4*c+3) 0=dbl a0 ^^^ a0 ^^^ a1 ^^^ a2 ^^^ dbl a3:=by
 have b0:a0<256:=h0▸hy.get _
 have b1:a1<256:=h1▸hy.get _
 have b2:a2<256:=h2▸hy.get _
 have b3:a3<256:=h3▸hy.get _
 have g:∀r,r<4->(mix [2,3,1,1] y).getD (4*c+r) 0=mixS [2,3,1,1] y c r 4:=λr hr=>by
  unfold mix
  rw [n6 _ (by omega),show (4*c+r) / 4=c from by omega,show (4*c+r)%4=r from by omega]
 have g0:=g 0 (by omega)
 rw [Nat.add_zero,aCk y c 0 a0 a1 a2 a3 h0 h1 h2 h3,bEE _ b1,vH _ b2,vH _ b3] at g0
 have g1:=g 1 (by omega)
 rw [aCk y c 1 a1 a2 a3 a0 h1 h2 h3 h0,bEE _ b2,vH _ b3,vH _ b0] at g1
 have g2:=g 2 (by omega)
 rw [aCk y c 2 a2 a3 a0 a1 h2 h3 h0 h1,bEE _ b3,vH _ b0,vH _ b1] at g2
 have g3:=g 3 (by omega)
 rw [aCk y c 3 a3 a0 a1 a2 h3 h0 h1 h2,bEE _ b0,vH _ b1,vH _ b2] at g3
 refine ⟨g0.trans ?_,g1.trans ?_,g2.trans ?_,g3.trans ?_⟩<;>(unfold dbl;ac_rfl)
theorem n_at(g:Nat->Nat)(y:List Nat)(c i:Nat)(hc:c<4)(hi:i<4):(updT g (tr y) (4*c)).getD (4*i+c) 0=y.getD (4*c+i) 0:=by
 have e:T (4*i+c)=4*c+i:=aAq i c hc
 rw [wI _ _ _ (by omega),if_neg (by omega),tr_get _ (by omega),e]
theorem n_done(g:Nat->Nat)(b:List Nat)(c r:Nat)(hc:c<4)(hr:r<4):(updT g b (4*c+4)).getD (4*r+c) 0=g (4*c+r):=by
 have e:T (4*r+c)=4*c+r:=aAq r c hc
 rw [wI _ _ _ (by omega),if_pos (by omega),e]
theorem set_col(g:Nat->Nat)(b:List Nat)(c v0 v1 v2 v3:Nat)(hc:c<4)(h0:g (4*c)=v0)(h1:g (4*c+1)=v1)(h2:g (4*c+2)=v2)(h3:g (4*c+3)=v3):
 ((((updT g b (4*c)).set c v0).set (4+c) v1).set (8+c) v2).set (12+c) v3=updT g b (4*c+4):=by
 rw [updT_set g b (4*c) c v0 (by omega) (by unfold T;omega) h0,updT_set g b (4*c+1) (4+c) v1 (by omega) (by unfold T;omega) h1,updT_set g b (4*c+1+1) (8+c) v2 (by omega) (by unfold T;omega) h2,updT_set g b (4*c+1+1+1) (12+c) v3 (by omega) (by unfold T;omega) h3]
theorem dbl_hi:∀a:Fin 256,127<a.val->(2*a.val)%256 ^^^ 27=dbl a.val:=by decide +kernel
theorem dbl_lo:∀a:Fin 256,¬ 127<a.val->2*a.val=dbl a.val:=by decide +kernel
end Go.Proofs.YtjboelhcieepkaaGreatDoor.Ci
namespace Go.Proofs.YtjboelhcieepkaaGreatDoor
open Go.RowKit
theorem a5x(a:Nat)(ha:a<256)(w:World):
 Calls Tryz.prog 291 #[.int .u8 (a:Int)] w λe w'=>e=.returned (.int .u8 ((Ci.dbl a:Nat):Int))∧w'=w:=by
 by_cases h:127<a
 ·have hI:127<(a:Int):=by omega
  have e:=Ci.dbl_hi ⟨a,ha⟩ h
  simp only at e
  have e2:bits .xor .u8 ((a:Int)*2%256) 27=((Ci.dbl a:Nat):Int):=by
   rw [show (a:Int)*2%256=((2*a%256:Nat):Int) from by omega,show (27:Int)=((27:Nat):Int) from rfl,u8_xor_nat _ _ (by omega) (by omega),e]
  clear e
  go_enter Tryz.func291,Tryz.ntmps291
  go_wp2
  go_ret
  exact ⟨rfl,rfl⟩
 ·have hI:¬ 127<(a:Int):=by omega
  have e:=Ci.dbl_lo ⟨a,ha⟩ h
  simp only at e
  have e2:(a:Int)*2=((Ci.dbl a:Nat):Int):=by omega
  clear e
  go_enter Tryz.func291,Tryz.ntmps291
  go_wp2
  go_ret
  exact ⟨rfl,rfl⟩
theorem u6(a D:Nat)(ha:a<256)(hD:Ci.dbl a=D)(w:World):
 Calls Tryz.prog 291 #[.int .u8 (a:Int)] w λe w'=>e=.returned (.int .u8 (D:Int))∧w=w':=by
 subst hD
 exact (a5x a ha w).mono λ_ _ h=>⟨h.1,h.2.symm⟩
structure kD(G X:Nat)(key:List Nat)(n:Nat)(w wr:World):Prop where
 k:aC wr G 26 (va .u8 key)
 r:aC wr (G+1) 456 (va .u8 fF)
 o:aC wr (G+1+1) 456 (va .u8 (Ci.upd (Ci.exF key) fF n))
 t:aC wr X 465 (va .u8 jN)
 x:G+1+1<X
 bel:Below G w wr
theorem kD.below{G X:Nat}{key:List Nat}{n:Nat}{w wr w2:World}(h:kD G X key n w wr)(b:Below wr.heap.size wr w2):kD G X key n w w2 :=
 ⟨h.k.below b h.k.lt,h.r.below b h.r.lt,h.o.below b h.o.lt,h.t.below b h.t.lt,h.x,h.bel.trans (b.mono (by have:=h.r.lt;omega))⟩
theorem kD.far{G X:Nat}{key:List Nat}{n N i:Nat}{w wr:World}{v:Value}(h:kD G X key n w wr)(hN:X<N):kD G X key n w (wr.setCell ⟨N,i,none⟩ v):=by
 have:=h.x
 exact ⟨h.k.far (by simp;omega) _,h.r.far (by simp;omega) _,h.o.far (by simp;omega) _,h.t.far (by simp;omega) _,h.x,h.bel.setCell (by simp;omega) _⟩
theorem kD.drew_{G X:Nat}{key:List Nat}{n:Nat}{w wr:World}(h:kD G X key n w wr):kD G X key n w wr.drew:=⟨h.k.drew,h.r.drew,h.o.drew,h.t.drew,h.x,jV h.bel 1⟩
theorem kD.put{G X:Nat}{key:List Nat}{n v:Nat}{w wr:World}(h:kD G X key n w wr)(hv:Ci.exF key n=v):kD G X key (n+1) w (wr.setCell ⟨G+1+1,n,none⟩ (.int .u8 (v:Int))):=by
 have:=h.x
 refine ⟨h.k.far (by simp<;>omega) _,h.r.far (by simp<;>omega) _,?_,h.t.far (by simp;omega) _,h.x,h.bel.setCell (by simp;omega) _⟩
 rw [<-Ci.upd_set,hv]
 exact h.o.setNum n v
theorem R7{w:World}{X:Nat}(h:aC w X 465 (va .u8 jN))(x:Nat)(hx:x<256):w.cell? ⟨X,x,none⟩=some (.int .u8 ((Gf.sub x:Nat):Int)):=by
 have e:=h.num (i:=x) (by rw [E5];exact hx)
 have g:jN.getD x 0=Gf.sub x:=by simp [jN,hx]
 rw [g] at e
 exact e
theorem a6j{l:List Nat}(h:l.length=4){a b c d:Nat}:((((va .u8 l).setIfInBounds 0 (.int .u8 (a:Int))).setIfInBounds 1 (.int .u8 (b:Int))).setIfInBounds 2 (.int .u8 (c:Int))).setIfInBounds 3 (.int .u8 (d:Int))=va .u8 [a,b,c,d]:=by
 rcases l with _|⟨x,_|⟨y,_|⟨z,_|⟨u,_|⟨v,l⟩⟩⟩⟩⟩<;>simp at h
 rfl
theorem aJV(w:World):(zeroValue 465).run Tryz.prog w=.ok (.agg (va .u8 gF)) w:=by kernel_rfl
set_option maxRecDepth 8000 in
theorem aTj(key:List Nat)(hkl:key.length=16)(hk:Ci.Byt key)(w:World):
 Calls Tryz.prog 286 #[.agg (va .u8 key)] w λe w'=>e=.returned (.agg (va .u8 (Ci.exL key)))∧Below w.heap.size w w':=by
 have hzv:=bDz
 have hzt:=aJV
 have hz4:=aL9
 go_enter Tryz.func286,Tryz.ntmps286
 go_wp2_with fail
 refine (aLo _).mono ?_
 obtain ⟨S,hS⟩:∃S,jN=S:=⟨_,rfl⟩
 have hSl:S.length=256:=by rw [<-hS];exact E5
 have hvs:(va .u8 S).size=256:=by rw [b9,hSl]
 rw [hS]
 rintro e w1 ⟨rfl,b1⟩
 have hk1:aC w1 w.heap.size 26 (va .u8 key):=aC.below (((aC.new _ _ _).alloc _).alloc _) b1 (by simp<;>omega)
 have hr1:aC w1 (w.heap.size+1) 456 (va .u8 fF):=aC.below ((aC.newAt (by simp)).alloc _) b1 (by simp<;>omega)
 have ho1:aC w1 (w.heap.size+1+1) 456 (va .u8 fF):=aC.below (aC.newAt (by simp)) b1 (by simp<;>omega)
 have hx1:=b1.size
 simp only [World.size_alloc] at hx1
 have hb1:Below w.heap.size w w1:=(((((Below.refl _ _).alloc (aS _) _).alloc (by simp) _).alloc (by simp<;>omega) _)).trans (b1.mono (by simp<;>omega))
 clear b1
 have hst:=tF (P:=Tryz.prog) w1 465 (va .u8 gF) .u8 S (by rw [b9,hSl,xX])
 have hmem:kD w.heap.size w1.heap.size key (4*0) w (w1.alloc (.cells (va .u8 S) 465)):=by
  rw [<-hS]
  refine ⟨hk1.alloc _,hr1.alloc _,?_,aC.new _ _ _,hx1,hb1.alloc hb1.size _⟩
  rw [Ci.upd_zero]
  exact ho1.alloc _
 have hmm:=Lib.hid hmem
 have hxh:=Lib.hid hx1
 clear hk1 hr1 ho1 hb1 hmem hx1 hS
 go_wp2
 clear hzv hzt
 generalize hX:w1.heap.size=X at *
 generalize w1.alloc (.cells (va .u8 S) 465)=w2 at *
 clear hSl hvs hst
 go_loopw [5,6] (λf s wr=>∃i:Nat,i≤44∧s=.int .i64 (i:Int)∧f=.int .u8 ((Gf.pw 2 ((i-1) / 4):Nat):Int)∧kD w.heap.size X key (4*i) w wr) (λ_ s _=>44-(intOf s).toNat)
 case atStart=>exact ⟨0,by omega,rfl,rfl,hmm.out⟩
 case round =>
  clear hmm
  obtain ⟨i,hi44,rfl,rfl,hmem⟩:=hrel
  by_cases hli:i<44
  ·have hliI:(i:Int)<44:=by omega
   by_cases hi4:i<4
   ·have hi4I:(i:Int)<4:=by omega
    have hmm:=Lib.hid hmem
    clear hmem
    go_wp2
    go_loopw [7] (λs wr=>∃k:Nat,k≤4∧s=.int .i64 (k:Int)∧kD w.heap.size X key (4*i+k) w wr) (λs _=>4-(intOf s).toNat)
    case atStart=>exact ⟨0,by omega,rfl,hmm.out⟩
    case round =>
     clear hmm
     obtain ⟨k,hk4,rfl,hmem⟩:=hrel
     by_cases hlk:k<4
     ·have hlkI:(k:Int)<4:=by omega
      obtain ⟨n,hn⟩:∃n,4*i+k=n:=⟨_,rfl⟩
      rw [hn] at hmem
      have hnI:4*(i:Int)+(k:Int)=(n:Int):=by omega
      have hn16:(n:Int)<16:=by omega
      have w4:IntKind.i64.wrap (4*(i:Int))=4*(i:Int):=IntWalk.i64_in _ (by omega)
      have w5:IntKind.i64.wrap (n:Int)=(n:Int):=IntWalk.i64_in _ (by omega)
      have hc1:=hmem.k.num (i:=n) (by omega)
      have e2:n=i*4+k:=by omega
      have hc0:=hmem.o.num (i:=n) (by rw [Ci.upd_len,nL];omega)
      have hf0:=hmem.o.frozen n
      have hv:=Ci.word_key (key:=key) i k hi4 hlk
      rw [hn] at hv
      generalize key.getD n 0=x0 at *
      generalize (Ci.upd (Ci.exF key) fF n).getD n 0=y0 at *
      have hput:=Lib.hid (hmem.drew_.put hv)
      rw [e2] at hc0 hf0 hput
      have hnh:=Lib.hid e2
      clear hmem hv e2 hn
      go_wp2
      refine wp_region_still_tail 10 (by kernel_rfl) (by kernel_rfl) ?_
      simp only [List.take_succ_cons,List.take_zero,List.drop_succ_cons,List.drop_zero]
      change wpStill _ _ wr.drew _ _ _
      iterate 10 still_step
      refine wpStill_nil ?_
      change wpList _ _ _ _ _ wr.drew
      go_wp2
      go_roundw
      case rel=>exact ⟨k+1,by omega,by go_num,by rw [show 4*i+(k+1)=i*4+k+1 from by omega];exact hput.out⟩
      case measure=>simp [intOf];omega
     ·obtain rfl:k=4:=by omega
      have hmm:=Lib.hid hmem
      clear hmem
      go_wp2
      go_roundw
      case rel=>exact ⟨i+1,by omega,by go_num,by rw [show (i+1-1) / 4=(i-1) / 4 from by omega],by rw [show 4*(i+1)=4*i+4 from by omega];exact hmm.out⟩
      case measure=>simp [intOf];omega
   ·have hi4I:¬ (i:Int)<4:=by omega
    obtain ⟨p,hp⟩:∃p,i-1=p:=⟨_,rfl⟩
    have S4:(i:Int)-1=(p:Int):=by omega
    have hpw:IntKind.i64.wrap (p:Int)=(p:Int):=IntWalk.i64_in _ (by omega)
    have hp44:(p:Int)<44:=by omega
    have hrl:=hmem.o.part (p*4) 4
    rw [<-hp,Ci.pvL_part key fF (4*i) i (by omega) (aS _) (by rw [nL];omega),hp] at hrl
    have hlx:(Ci.pvL key i).length=4:=rfl
    have hb:=Ci.pv_lt hk i
    have hg0:(Ci.pvL key i).getD 0 0=Ci.pv key i 0:=rfl
    have hg1:(Ci.pvL key i).getD 1 0=Ci.pv key i 1:=rfl
    have hg2:(Ci.pvL key i).getD 2 0=Ci.pv key i 2:=rfl
    have hg3:(Ci.pvL key i).getD 3 0=Ci.pv key i 3:=rfl
    obtain ⟨dW,hle⟩:∃dW,Ci.pvL key i=dW:=⟨_,rfl⟩
    rw [hle] at hrl hlx hg0 hg1 hg2 hg3
    have hnl:(nv .u8 dW).length=4:=by rw [aZ,hlx]
    have hst:=tF (P:=Tryz.prog) wr 378 (va .u8 z4) .u8 dW (by rw [b9,hlx,aKg])
    have hst2:(storeCells ⟨wr.heap.size,0,none⟩ (nv .u8 dW)).run Tryz.prog (wr.alloc (.cells (va .u8 z4) 378))=.ok () (wr.alloc (.cells (va .u8 dW) 378)):=by
     have:(va .u8 dW).toList=nv .u8 dW:=by simp [va]
     rw [<-this];exact hst
    have hY:X<wr.heap.size:=hmem.t.lt
    have hrlh:=Lib.hid hrl
    have hN:aC (wr.alloc (.cells (va .u8 dW) 378)) wr.heap.size 378 (va .u8 dW):=aC.new _ _ _
    have hM:kD w.heap.size X key (4*i) w (wr.alloc (.cells (va .u8 dW) 378)):=hmem.below ((Below.refl _ _).alloc (aS _) _)
    have hNh:=Lib.hid hN
    have hMh:=Lib.hid hM
    have hleh:=Lib.hid hle
    have hbh:=Lib.hid hb
    clear hrl hN hM hle hmem hb hst
    go_upto_region 13 with (refine wpList_load_mid rfl 378 (.tmp 33) rfl (w.heap.size+1+1) (p*4) rfl (nv .u8 dW) _ hrlh.out Tryz.underlying378 rfl (by rw [hnl];kernel_rfl) ?_)
    obtain ⟨m,hm⟩:∃m,i%4=m:=⟨_,rfl⟩
    have lJ:(i:Int).tmod 4=(m:Int):=by rw [Int.tmod_eq_emod_of_nonneg (by omega)];omega
    have hmE:(i:Int)%4=(m:Int):=by omega
    go_cut [37] (λv wx=>v=.bool ((m:Int)==0)∧wx=wr.alloc (.cells (va .u8 dW) 378))
    case first =>
     go_wp2
     go_meet
     exact ⟨rfl,rfl⟩
    case rest =>
     obtain ⟨hv37,rfl⟩:=hcut
     have hv37h:=Lib.hid hv37
     clear hv37
     obtain ⟨Y,hYe⟩:∃Y,wr.heap.size=Y:=⟨_,rfl⟩
     rw [hYe] at hNh hY hst2
     generalize wr.alloc (.cells (va .u8 dW) 378)=w3 at *
     clear hst2
     rename_i aK
     refine aK _ _ ?_
     clear aK
     rw [hYe]
     go_cut [5] (λf wx=>f=.int .u8 ((Gf.pw 2 ((i+1-1) / 4):Nat):Int)∧aC wx Y 378 (va .u8 (Ci.tWord key i))∧kD w.heap.size X key (4*i) w wx)
     case first =>
      by_cases hm0:m=0
      ·have hmz:((m:Int)==0)=true:=by rw [hm0];rfl
       rw [hmz] at hv37h
       obtain rfl:=hv37h.out
       have hmi:i%4=0:=by omega
       obtain ⟨x0,hx0⟩:∃x,Ci.pv key i 0=x:=⟨_,rfl⟩
       obtain ⟨x1,hx1⟩:∃x,Ci.pv key i 1=x:=⟨_,rfl⟩
       obtain ⟨x2,hx2⟩:∃x,Ci.pv key i 2=x:=⟨_,rfl⟩
       obtain ⟨x3,hx3⟩:∃x,Ci.pv key i 3=x:=⟨_,rfl⟩
       have hxl0:=hbh.out 0
       have hxl1:=hbh.out 1
       have hxl2:=hbh.out 2
       have hxl3:=hbh.out 3
       rw [hx0] at hxl0 hg0
       rw [hx1] at hxl1 hg1
       rw [hx2] at hxl2 hg2
       rw [hx3] at hxl3 hg3
       have e0:=hNh.out.num (i:=0) (by omega)
       have e1:=hNh.out.num (i:=1) (by omega)
       have e2:=hNh.out.num (i:=2) (by omega)
       have e3:=hNh.out.num (i:=3) (by omega)
       rw [hg0] at e0
       rw [hg1] at e1
       rw [hg2] at e2
       rw [hg3] at e3
       have t0:=R7 hMh.out.t x0 hxl0
       have t1:=R7 hMh.out.t x1 hxl1
       have t2:=R7 hMh.out.t x2 hxl2
       have t3:=R7 hMh.out.t x3 hxl3
       have f0:=hNh.out.frozen 0
       have f1:=hNh.out.frozen 1
       have f2:=hNh.out.frozen 2
       have f3:=hNh.out.frozen 3
       have hxi0:(x0:Int)<256:=by omega
       have hxi1:(x1:Int)<256:=by omega
       have hxi2:(x2:Int)<256:=by omega
       have hxi3:(x3:Int)<256:=by omega
       have htw:Ci.tWord key i=[Gf.sub x1 ^^^ Gf.pw 2 (p / 4),Gf.sub x2,Gf.sub x3,Gf.sub x0]:=by
        unfold Ci.tWord
        rw [if_pos hmi,hx0,hx1,hx2,hx3,hp]
       have hpl:Gf.pw 2 (p / 4)<256:=Gf.pw_lt 2 _ (by omega)
       have hpn:Gf.gm (Gf.pw 2 (p / 4)) 2=Gf.pw 2 ((i+1-1) / 4):=by rw [<-hp];exact Ci.pow_next i hmi (by omega)
       have hxor:bits BinOp.xor IntKind.u8 ((Gf.sub x1:Nat):Int) ((Gf.pw 2 (p / 4):Nat):Int)=((Gf.sub x1 ^^^ Gf.pw 2 (p / 4):Nat):Int):=u8_xor_nat _ _ (Gf.sub_lt _) hpl
       have htwh:=Lib.hid htw
       generalize Gf.pw 2 ((i+1-1) / 4)=q2 at *
       generalize Gf.pw 2 (p / 4)=q1 at *
       generalize hc:Gf.sub x1 ^^^ q1=c1 at *
       generalize Gf.sub x0=s0 at *
       generalize Gf.sub x1=s1 at *
       generalize Gf.sub x2=s2 at *
       generalize Gf.sub x3=s3 at *
       have hpnh:=Lib.hid hpn
       clear hpn htw hc hx0 hx1 hx2 hx3 hg0 hg1 hg2 hg3 hm lJ hmE hm0 hmz hmi hz4
       go_wp2
       refine wp_region_still_tail 19 (by kernel_rfl) (by kernel_rfl) ?_
       simp only [List.take_succ_cons,List.take_zero,List.drop_succ_cons,List.drop_zero]
       change wpStill _ _ w3.drew _ _ _
       iterate 19 still_step
       refine wpStill_nil ?_
       change wpList _ _ _ _ _ w3.drew
       go_wp2_with fail
       refine (aSk q1 2 q2 hpl (by omega) hpnh.out _).mono ?_
       rintro e w4 ⟨rfl,b4⟩
       go_wp2
       go_meet
       have hNs:=((((hNh.out.set_ 0 (.int .u8 (c1:Int))).set_ 1 (.int .u8 (s2:Int))).set_ 2 (.int .u8 (s3:Int))).set_ 3 (.int .u8 (s0:Int))).drew
       rw [a6j hlx] at hNs
       refine ⟨rfl,?_,((((hMh.out.far hY).far hY).far hY).far hY).drew_.below b4⟩
       rw [htwh.out]
       exact hNs.below b4 hNs.lt
      ·have hmz:((m:Int)==0)=false:=by rw [beq_eq_false_iff_ne];omega
       rw [hmz] at hv37h
       obtain rfl:=hv37h.out
       go_wp2
       go_meet
       refine ⟨by rw [<-Ci.pow_keep i (by omega),hp],?_,hMh.out⟩
       unfold Ci.tWord
       rw [if_neg (by omega),hleh.out]
       exact hNh.out
     case rest =>
      obtain ⟨rfl,hT,hM2⟩:=hcut
      have hTh:=Lib.hid hT
      have hM2h:=Lib.hid hM2
      have htl:=Ci.tWord_len key i
      have htb:=Ci.tWord_byt hk i
      have hnxh:=Lib.hid (Ci.word_next key i)
      obtain ⟨T,hTe⟩:∃T,Ci.tWord key i=T:=⟨_,rfl⟩
      rw [hTe] at hTh hnxh htl htb
      have hbyh:=Lib.hid (Ci.exF_lt hk)
      obtain ⟨q,hq⟩:∃q,i-4=q:=⟨_,rfl⟩
      have hqI:(i:Int)-4=(q:Int):=by omega
      have hqw:IntKind.i64.wrap (q:Int)=(q:Int):=IntWalk.i64_in _ (by omega)
      have hq44:(q:Int)<44:=by omega
      obtain ⟨d,hd⟩:∃d,Gf.pw 2 ((i+1-1) / 4)=d:=⟨_,rfl⟩
      have hdh:=Lib.hid hd
      rw [hd]
      clear hT hM2 hTe hMh hNh hd hv37h hrlh hleh hbh hg0 hg1 hg2 hg3 hlx hnl hpw hp44 hm lJ hmE S4
      go_wp2
      go_loopw [9] (λs wx=>∃k:Nat,k≤4∧s=.int .i64 (k:Int)∧aC wx Y 378 (va .u8 T)∧kD w.heap.size X key (4*i+k) w wx) (λs _=>4-(intOf s).toNat)
      case atStart=>exact ⟨0,by omega,rfl,hTh.out,hM2h.out⟩
      case round =>
       clear hTh hM2h
       obtain ⟨k,hk4,rfl,hT,hmem⟩:=hrel
       by_cases hlk:k<4
       ·have hlkI:(k:Int)<4:=by omega
        obtain ⟨n,hn⟩:∃n,4*i+k=n:=⟨_,rfl⟩
        have hnx:=hnxh.out k (by omega) hlk
        rw [hn] at hmem hnx
        obtain ⟨c,hc⟩:∃c,Ci.exF key n=c:=⟨_,rfl⟩
        rw [hc] at hnx
        have e2:n=i*4+k:=by omega
        have e3:4*(i-4)+k=q*4+k:=by omega
        rw [e3] at hnx
        have hc1:=hT.num (i:=k) (by omega)
        have hc2:=hmem.o.num (i:=q*4+k) (by rw [Ci.upd_len,nL];omega)
        have hg:=Ci.upd_get (Ci.exF key) fF n (q*4+k) (by rw [nL];omega)
        rw [if_pos (by omega)] at hg
        rw [hg] at hc2
        have hc0:=hmem.o.num (i:=n) (by rw [Ci.upd_len,nL];omega)
        have hf0:=hmem.o.frozen n
        have hxor:bits BinOp.xor IntKind.u8 ((Ci.exF key (q*4+k):Nat):Int) ((T.getD k 0:Nat):Int)=(c:Int):=by rw [u8_xor_nat _ _ (hbyh.out _) (htb.get k),hnx]
        have hput:=Lib.hid (hmem.drew_.put hc)
        have hT2:aC (wr.drew.setCell ⟨w.heap.size+1+1,n,none⟩ (.int .u8 (c:Int))) Y 378 (va .u8 T):=hT.drew.far (by have:=hmem.x;simp;omega) _
        have hT2h:=Lib.hid hT2
        generalize Ci.exF key (q*4+k)=y1 at *
        generalize T.getD k 0=y2 at *
        generalize (Ci.upd (Ci.exF key) fF n).getD n 0=y0 at *
        rw [e2] at hc0 hf0 hput hT2h
        have hnh:=Lib.hid e2
        clear hmem hT hT2 hg hnx hc e2 e3 hn
        go_wp2
        refine wp_region_still_tail 14 (by kernel_rfl) (by kernel_rfl) ?_
        simp only [List.take_succ_cons,List.take_zero,List.drop_succ_cons,List.drop_zero]
        change wpStill _ _ wr.drew _ _ _
        iterate 14 still_step
        refine wpStill_nil ?_
        change wpList _ _ _ _ _ wr.drew
        go_wp2
        go_roundw
        case rel=>exact ⟨k+1,by omega,by go_num,hT2h.out,by rw [show 4*i+(k+1)=i*4+k+1 from by omega];exact hput.out⟩
        case measure=>simp [intOf];omega
       ·obtain rfl:k=4:=by omega
        have hmm:=Lib.hid hmem
        clear hmem hT
        go_wp2
        go_roundw
        case rel=>exact ⟨i+1,by omega,by go_num,by rw [hdh.out],by rw [show 4*(i+1)=4*i+4 from by omega];exact hmm.out⟩
        case measure=>simp [intOf];omega
  ·obtain rfl:i=44:=by omega
   have hall:Ci.upd (Ci.exF key) fF (4*44)=Ci.exL key:=Ci.exL_all key fF nL
   have hmo:=hmem.o
   rw [hall] at hmo
   have hmr:=hmem.r
   have hmb:=hmem.bel
   have hLl:=Ci.exL_len key
   have hsz0:(Tryz.prog.info? 456).map (·.size)=some (va .u8 (Ci.exL key)).size:=by rw [b9,hLl];kernel_rfl
   have hszE:=Lib.hid hsz0
   have hst:=mU (P:=Tryz.prog) hmr .u8 (Ci.exL key) (by rw [b9,nL,hLl])
   have hvs:(va .u8 (Ci.exL key)).size=176:=by rw [b9,hLl]
   have hmoh:=Lib.hid hmo
   have hmrh:=Lib.hid hmr
   have hmbh:=Lib.hid hmb
   clear hsz0 hmem hall hmo hmr hmb
   go_wp2_with (refine wpList_load_row rfl 456 (.tmp 3) rfl (w.heap.size+1+1) rfl 456 (va .u8 (Ci.exL key)) (0,0) _ hmoh.out Tryz.underlying456 rfl hszE.out ?_)
   exact bodyPost_ret (results_cell_row rfl _ _ (w.heap.size+1) 456 (va .u8 (Ci.exL key)) (0,0) _ rfl (hmrh.out.row _) Tryz.underlying456 rfl hszE.out) rfl ⟨rfl,eJ hmbh.out (by omega) _⟩
