/-
  The walks of caissonref03.Block, Sum. (Printed by mk03.py.)
-/
import Derived.Test.YtcfddmplnoknlaaDoorY13
import Derived.Laws.IdiomStrings
namespace Go.Proofs.YtcfddmplnoknlaaDoor
set_option maxRecDepth 16384
open Go.RowKit Sh

set_option maxRecDepth 8000 in
set_option maxHeartbeats 2000000 in
theorem rblock_any (key : List Nat) (A : Option Addr) (n c B : Nat) (hk : Byt key) (hn : n < 100000) (w : World) (hr : Reads w B 1 A n (nv .u8 key)) (hB : B ≤ w.heap.size) :
    Calls Tryd.prog 56 #[.slice A n c] w fun e w' => ∃ g c', e = .returned (.slice (some ⟨g, 0, none⟩) 64 c') ∧ ByB w' g (kb key) ∧ 64 ≤ c' ∧ w.heap.size ≤ g ∧ Below w.heap.size w w' := by
  have hln := hr.len
  obtain ⟨B0, hB0e, hW, hB0⟩ := stB w
  rw [hB0e]
  have hBB : B ≤ B0 := by omega
  have rd := reads_of hr hBB
  clear hr hB
  have hB0q := Lib.hid hB0e
  clear hB0e
  obtain ⟨L, hL⟩ : ∃ L, (kc key).length = L := ⟨_, rfl⟩
  have hLle := kc_le key
  rw [hL] at hLle
  by_cases h64 : 64 < n
  ·
    have h64I : (64 : Int) < (n : Int) := by omega
    have hkc : kc key = sha key := by unfold kc; rw [if_pos (by omega)]
    have hLv : L = 32 := by rw [← hL, hkc]; exact sha_len' _
    have hkcq := Lib.hid hkc
    clear hkc
    go_enter Tryd.func56, Tryd.ntmps56
    go_upto_region 0 with fail
    refine wl_lit ?_
    refine runL 2 (.slice none 0 0) rfl (by rfl) (by go_simp) ?_
    simp only [Ls]
    refine nilL ?_
    go_upto_region 1 with fail
    refine wl_lit ?_
    refine runWL 5 (.slice (some ⟨w.heap.size, 0, none⟩) 0 0) (w.alloc (.cells (va .u8 ([])) 5)) rfl (by rfl) (exec_bslice 34 0 _ rfl _ (by exact bs_0 _)) ?_
    simp only [Ls]
    have lw_q1 := Nat.le_trans hB0 hW.size
    have hq1 : Blk (w.alloc (.cells (va .u8 ([])) 5)) w.heap.size 5 (va .u8 ([])) := Blk.new _ _ _
    replace hW := alB hW hB0 (.cells (va .u8 ([])) 5)
    generalize w.alloc (.cells (va .u8 ([])) 5) = w1 at *
    generalize w.heap.size = q1 at hq1 lw_q1  ⊢
    refine runL 6 (.slice A n c) rfl (by rfl) (by go_simp) ?_
    simp only [Ls]
    have hoq1 : Own w1 B0 (some ⟨q1, 0, none⟩) 0 0 ([]) := hq1.owned rfl lw_q1 (by unfold maxLen; omega)
    clear hq1
    obtain ⟨A1, cA1, w2, hap, hA1, hcA1, hgr, hof⟩ := own_append hoq1 A n c _ key (rd.out _ hW) (Nat.le_trans hB0 hW.size) key (by simp) n (by omega) (by omega) 34
    refine runWL 7 (.slice A1 n cA1) w2 rfl (by rfl) (exec_append _ _ _ _ rfl _ _ _ rfl rfl hap) ?_
    simp only [Ls]
    replace hW := Own.belowG hW (Nat.le_trans hB0 hW.size) hoq1.from_ hgr
    clear hoq1 hgr hof hap
    refine runL 3 (.slice A1 n cA1) rfl (by rfl) (by go_simp) ?_
    simp only [Ls]
    refine nilL ?_
    go_upto_region 2 with fail
    refine wl_lit ?_
    refine runL 8 (.slice A n c) rfl (by rfl) (by go_simp) ?_
    refine runL 9 (.int .i64 n) rfl (by rfl) (by go_simp) ?_
    refine runL 10 (.bool true) rfl (by rfl) (by go_simp) ?_
    simp only [Ls]
    refine nilL ?_
    go_upto_region 3 with fail
    refine wl_lit ?_
    refine runL 11 (.slice A n c) rfl (by rfl) (by go_simp) ?_
    simp only [Ls]
    refine callL 12 rfl (by rfl) (fun K hK => wp_callF 57 #[.slice A n c] (by go_simp) (rsum_any key A n c B hk (by omega) _ (rd.out _ hW) (Nat.le_trans hBB (Nat.le_trans hB0 hW.size))) ?_)
    rintro e w3 ⟨rfl, bx⟩
    replace hA1 := hA1.below bx
    replace hW := trB hW hB0 bx
    clear bx
    refine ⟨_, rfl, hK.out _ _ ?_⟩
    clear hK K
    simp only [Ls]
    refine runWL 4 (.pointer (some ⟨w3.heap.size, 0, none⟩)) (w3.alloc (.cells (va .u8 (List.replicate 32 0)) 45)) rfl (by rfl) (exec_allocV 45 rfl _ (zv_api_Digest _)) ?_
    simp only [Ls]
    have nA1_p4 := hA1.new_off
    have lw_p4 := Nat.le_trans hB0 hW.size
    have hp4 := Blk.new w3 45 (va .u8 (List.replicate 32 0))
    replace hA1 := hA1.alloc (.cells (va .u8 (List.replicate 32 0)) 45)
    replace hW := alB hW hB0 (.cells (va .u8 (List.replicate 32 0)) 45)
    generalize w3.alloc (.cells (va .u8 (List.replicate 32 0)) 45) = w4 at *
    generalize w3.heap.size = p4 at hp4 lw_p4 nA1_p4 ⊢
    refine runSL (w4.setRow p4 (va .u8 (sha key))) rfl (by rfl) (exec_storeRow 45 (.tmp 4) (.tmp 12) rfl p4 rfl (va .u8 (sha key)) rfl 45 (va .u8 (List.replicate 32 0)) hp4 (sz_eq (sz_api_Digest _ (List.length_replicate)) (sz_api_Digest _ (sha_len' _))) (sz_api_Digest _ (sha_len' _)) (va_ones .u8 _)) ?_
    replace hA1 := hA1.rowFar nA1_p4 (va .u8 (sha key))
    replace hp4 := hp4.row (va .u8 (sha key))
    replace hW := below_setRow hW lw_p4 (va .u8 (sha key))
    generalize w4.setRow p4 (va .u8 (sha key)) = w5 at *
    refine nilL ?_
    clear hA1
    go_upto_region 4 with fail
    refine wl_lit ?_
    refine runWL 13 (.slice (some ⟨w5.heap.size, 0, none⟩) 0 0) (w5.alloc (.cells (va .u8 ([])) 5)) rfl (by rfl) (exec_bslice 34 0 _ rfl _ (by exact bs_0 _)) ?_
    simp only [Ls]
    have lp4_q2 := hp4.lt
    have lw_q2 := Nat.le_trans hB0 hW.size
    have hq2 : Blk (w5.alloc (.cells (va .u8 ([])) 5)) w5.heap.size 5 (va .u8 ([])) := Blk.new _ _ _
    have bx := bAl w5 (.cells (va .u8 ([])) 5)
    replace hp4 := blB hp4 bx
    replace hW := trB hW hB0 bx
    clear bx
    generalize w5.alloc (.cells (va .u8 ([])) 5) = w6 at *
    generalize w5.heap.size = q2 at hq2 lw_q2 lp4_q2 ⊢
    refine runL 14 (.slice (some ⟨p4, 0, none⟩) 32 32) rfl (by rfl) (by go_simp) ?_
    simp only [Ls]
    have hoq2 : Own w6 B0 (some ⟨q2, 0, none⟩) 0 0 ([]) := hq2.owned rfl lw_q2 (by unfold maxLen; omega)
    have noq2_p4 : Off (some ⟨q2, 0, none⟩) p4 := fun a ha => by cases ha; simp; omega
    clear hq2
    obtain ⟨A1, cA1, w7, hap, hA1, hcA1, hgr, hof⟩ := own_append hoq2 (some ⟨p4, 0, none⟩) 32 32 _ (sha key) (hp4.readsAll (Nat.lt_succ_self _) (sha_len' _)) (Nat.le_trans hB0 hW.size) (sha key) (by simp) 32 (by omega) (by omega) 34
    refine runWL 15 (.slice A1 32 cA1) w7 rfl (by rfl) (exec_append _ _ _ _ rfl _ _ _ rfl rfl hap) ?_
    simp only [Ls]
    have nA1_p4 := hof p4 noq2_p4 hp4.lt
    replace hp4 := hp4.grown hgr (noq2_p4.ob _ _)
    replace hW := Own.belowG hW (Nat.le_trans hB0 hW.size) hoq2.from_ hgr
    clear hoq2 hgr hof hap
    refine runL 3 (.slice A1 32 cA1) rfl (by rfl) (by go_simp) ?_
    simp only [Ls]
    refine nilL ?_
    clear hp4
    have hz : kc key ++ List.replicate 0 0 = sha key := by rw [hkcq.out]; simp
    rw [← hz] at hA1
    clear hz
    go_wp2
    go_loopw [3] (fun v wr => ∃ (k N : Nat) (A : Option Addr) (c : Nat), v = .slice A N c ∧ N = L + k ∧ k ≤ 64 - L ∧ Own wr B0 A N c (kc key ++ List.replicate k 0) ∧ Below B0 w wr) (fun v _ => 64 - slen v)
    case atStart => exact ⟨0, 32, A1, cA1, rfl, by omega, by omega, hA1, hW⟩
    case round =>
      clear hA1 hW
      obtain ⟨k, N, A3, cA3, rfl, hN, hk2, hA3, hW⟩ := hrel
      by_cases hlt : k < 64 - L
      ·
        have hltI : (N : Int) < 64 := by omega
        go_upto_region 6 with fail
        refine wl_lit ?_
        refine runL 19 (.slice A3 N cA3) rfl (by rfl) (by go_simp) ?_
        simp only [Ls]
        refine runWL 20 (.slice (some ⟨wr.heap.size, 0, none⟩) 1 1) (wr.alloc (.cells (va .u8 [0]) 5)) rfl (by rfl) (exec_bslice 34 1 _ rfl _ (by exact bs_b1 0 _)) ?_
        simp only [Ls]
        have nA3_q3 := hA3.new_off
        have lw_q3 := Nat.le_trans hB0 hW.size
        have hq3 : Blk (wr.alloc (.cells (va .u8 [0]) 5)) wr.heap.size 5 (va .u8 [0]) := Blk.new _ _ _
        replace hA3 := hA3.alloc (.cells (va .u8 [0]) 5)
        replace hW := alB hW hB0 (.cells (va .u8 [0]) 5)
        generalize wr.alloc (.cells (va .u8 [0]) 5) = w8 at *
        generalize wr.heap.size = q3 at hq3 lw_q3 nA3_q3 ⊢
        obtain ⟨A4, cA4, w9, hap, hA4, hcA4, hgr, hof⟩ := own_append hA3 (some ⟨q3, 0, none⟩) 1 1 _ ([0]) (hq3.readsAll (Nat.lt_succ_self _) rfl) (Nat.le_trans hB0 hW.size) (kc key ++ List.replicate (k + 1) 0) (by rw [List.append_assoc, ← List.replicate_succ']) (N + 1) (by omega) (by omega) 34
        refine runWL 21 (.slice A4 (N + 1) cA4) w9 rfl (by rfl) (exec_append _ _ _ _ rfl _ _ _ rfl rfl hap) ?_
        simp only [Ls]
        have nA4_q3 := hof q3 nA3_q3 hq3.lt
        replace hq3 := hq3.grown hgr (nA3_q3.ob _ _)
        replace hW := Own.belowG hW (Nat.le_trans hB0 hW.size) hA3.from_ hgr
        clear hA3 hgr hof hap
        refine runL 3 (.slice A4 (N + 1) cA4) rfl (by rfl) (by go_simp) ?_
        simp only [Ls]
        refine nilL ?_
        go_wp2
        go_roundw
        case rel => exact ⟨k + 1, N + 1, A4, cA4, rfl, by omega, by omega, hA4, hW⟩
        case measure => simp [slen]; omega
      ·
        obtain rfl : N = 64 := by omega
        have hkL : k = 64 - L := by omega
        have hfin : kc key ++ List.replicate k 0 = kb key := by unfold kb; rw [hL, hkL]
        rw [hfin] at hA3
        rcases hA3.form with ⟨_, h0, _⟩ | ⟨ga, rfl, hga, hgl⟩
        · omega
        have hcap := hA3.cap
        have hby := Lib.hid hA3.byB
        clear hA3 hN hkL hfin hL hLv hk2 hlt
        go_upto_region 7 with fail
        refine wl_lit ?_
        refine runL 22 (.slice (some ⟨ga, 0, none⟩) 64 cA3) rfl (by rfl) (by go_simp) ?_
        refine runL 2 (.slice (some ⟨ga, 0, none⟩) 64 cA3) rfl (by rfl) (by go_simp) ?_
        simp only [Ls]
        refine nilL ?_
        go_wp2_with fail
        go_ret
        exact ⟨ga, cA3, rfl, hby.out, hcap, hga, hW⟩
  ·
    have h64I : ¬ (64 : Int) < (n : Int) := by omega
    have hkc : kc key = key := by unfold kc; rw [if_neg (by omega)]
    have hLv : L = n := by rw [← hL, hkc]; exact hln
    have hkcq := Lib.hid hkc
    clear hkc
    go_enter Tryd.func56, Tryd.ntmps56
    go_upto_region 0 with fail
    refine wl_lit ?_
    refine runL 2 (.slice none 0 0) rfl (by rfl) (by go_simp) ?_
    simp only [Ls]
    refine nilL ?_
    go_upto_region 1 with fail
    refine wl_lit ?_
    refine runWL 5 (.slice (some ⟨w.heap.size, 0, none⟩) 0 0) (w.alloc (.cells (va .u8 ([])) 5)) rfl (by rfl) (exec_bslice 34 0 _ rfl _ (by exact bs_0 _)) ?_
    simp only [Ls]
    have lw_q1 := Nat.le_trans hB0 hW.size
    have hq1 : Blk (w.alloc (.cells (va .u8 ([])) 5)) w.heap.size 5 (va .u8 ([])) := Blk.new _ _ _
    replace hW := alB hW hB0 (.cells (va .u8 ([])) 5)
    generalize w.alloc (.cells (va .u8 ([])) 5) = w10 at *
    generalize w.heap.size = q1 at hq1 lw_q1  ⊢
    refine runL 6 (.slice A n c) rfl (by rfl) (by go_simp) ?_
    simp only [Ls]
    have hoq1 : Own w10 B0 (some ⟨q1, 0, none⟩) 0 0 ([]) := hq1.owned rfl lw_q1 (by unfold maxLen; omega)
    clear hq1
    obtain ⟨A1, cA1, w11, hap, hA1, hcA1, hgr, hof⟩ := own_append hoq1 A n c _ key (rd.out _ hW) (Nat.le_trans hB0 hW.size) key (by simp) n (by omega) (by omega) 34
    refine runWL 7 (.slice A1 n cA1) w11 rfl (by rfl) (exec_append _ _ _ _ rfl _ _ _ rfl rfl hap) ?_
    simp only [Ls]
    replace hW := Own.belowG hW (Nat.le_trans hB0 hW.size) hoq1.from_ hgr
    clear hoq1 hgr hof hap
    refine runL 3 (.slice A1 n cA1) rfl (by rfl) (by go_simp) ?_
    simp only [Ls]
    refine nilL ?_
    go_upto_region 2 with fail
    refine wl_lit ?_
    refine runL 8 (.slice A n c) rfl (by rfl) (by go_simp) ?_
    refine runL 9 (.int .i64 n) rfl (by rfl) (by go_simp) ?_
    refine runL 10 (.bool false) rfl (by rfl) (by go_simp) ?_
    simp only [Ls]
    refine nilL ?_
    have hz : kc key ++ List.replicate 0 0 = key := by rw [hkcq.out]; simp
    rw [← hz] at hA1
    clear hz
    go_wp2
    go_loopw [3] (fun v wr => ∃ (k N : Nat) (A : Option Addr) (c : Nat), v = .slice A N c ∧ N = L + k ∧ k ≤ 64 - L ∧ Own wr B0 A N c (kc key ++ List.replicate k 0) ∧ Below B0 w wr) (fun v _ => 64 - slen v)
    case atStart => exact ⟨0, n, A1, cA1, rfl, by omega, by omega, hA1, hW⟩
    case round =>
      clear hA1 hW
      obtain ⟨k, N, A3, cA3, rfl, hN, hk2, hA3, hW⟩ := hrel
      by_cases hlt : k < 64 - L
      ·
        have hltI : (N : Int) < 64 := by omega
        go_upto_region 6 with fail
        refine wl_lit ?_
        refine runL 19 (.slice A3 N cA3) rfl (by rfl) (by go_simp) ?_
        simp only [Ls]
        refine runWL 20 (.slice (some ⟨wr.heap.size, 0, none⟩) 1 1) (wr.alloc (.cells (va .u8 [0]) 5)) rfl (by rfl) (exec_bslice 34 1 _ rfl _ (by exact bs_b1 0 _)) ?_
        simp only [Ls]
        have nA3_q2 := hA3.new_off
        have lw_q2 := Nat.le_trans hB0 hW.size
        have hq2 : Blk (wr.alloc (.cells (va .u8 [0]) 5)) wr.heap.size 5 (va .u8 [0]) := Blk.new _ _ _
        replace hA3 := hA3.alloc (.cells (va .u8 [0]) 5)
        replace hW := alB hW hB0 (.cells (va .u8 [0]) 5)
        generalize wr.alloc (.cells (va .u8 [0]) 5) = w12 at *
        generalize wr.heap.size = q2 at hq2 lw_q2 nA3_q2 ⊢
        obtain ⟨A4, cA4, w13, hap, hA4, hcA4, hgr, hof⟩ := own_append hA3 (some ⟨q2, 0, none⟩) 1 1 _ ([0]) (hq2.readsAll (Nat.lt_succ_self _) rfl) (Nat.le_trans hB0 hW.size) (kc key ++ List.replicate (k + 1) 0) (by rw [List.append_assoc, ← List.replicate_succ']) (N + 1) (by omega) (by omega) 34
        refine runWL 21 (.slice A4 (N + 1) cA4) w13 rfl (by rfl) (exec_append _ _ _ _ rfl _ _ _ rfl rfl hap) ?_
        simp only [Ls]
        have nA4_q2 := hof q2 nA3_q2 hq2.lt
        replace hq2 := hq2.grown hgr (nA3_q2.ob _ _)
        replace hW := Own.belowG hW (Nat.le_trans hB0 hW.size) hA3.from_ hgr
        clear hA3 hgr hof hap
        refine runL 3 (.slice A4 (N + 1) cA4) rfl (by rfl) (by go_simp) ?_
        simp only [Ls]
        refine nilL ?_
        go_wp2
        go_roundw
        case rel => exact ⟨k + 1, N + 1, A4, cA4, rfl, by omega, by omega, hA4, hW⟩
        case measure => simp [slen]; omega
      ·
        obtain rfl : N = 64 := by omega
        have hkL : k = 64 - L := by omega
        have hfin : kc key ++ List.replicate k 0 = kb key := by unfold kb; rw [hL, hkL]
        rw [hfin] at hA3
        rcases hA3.form with ⟨_, h0, _⟩ | ⟨ga, rfl, hga, hgl⟩
        · omega
        have hcap := hA3.cap
        have hby := Lib.hid hA3.byB
        clear hA3 hN hkL hfin hL hLv hk2 hlt
        go_upto_region 7 with fail
        refine wl_lit ?_
        refine runL 22 (.slice (some ⟨ga, 0, none⟩) 64 cA3) rfl (by rfl) (by go_simp) ?_
        refine runL 2 (.slice (some ⟨ga, 0, none⟩) 64 cA3) rfl (by rfl) (by go_simp) ?_
        simp only [Ls]
        refine nilL ?_
        go_wp2_with fail
        go_ret
        exact ⟨ga, cA3, rfl, hby.out, hcap, hga, hW⟩

set_option maxRecDepth 8000 in
set_option maxHeartbeats 4000000 in
theorem rhm_any (key m : List Nat) (A : Option Addr) (n c B : Nat) (A2 : Option Addr) (n2 c2 B2 : Nat) (hk : Byt key) (hn : n < 100000) (hm0 : Byt m) (hn2 : n2 < 100000) (w : World) (hr : Reads w B 1 A n (nv .u8 key)) (hB : B ≤ w.heap.size)
  (hr2 : Reads w B2 1 A2 n2 (nv .u8 m)) (hB2 : B2 ≤ w.heap.size) :
  Calls Tryd.prog 35 #[.slice A n c, .slice A2 n2 c2] w fun e w' => e = .returned (.agg (va .u8 (hm key m))) ∧ Below w.heap.size w w' := by
 have hln2 := hr2.len
 obtain ⟨B0, hB0e, hW, hB0⟩ := stB w
 rw [hB0e]
 have hBB : B ≤ B0 := by omega
 have hBB2 : B2 ≤ B0 := by omega
 have rd := reads_of hr hBB
 have rd2 := reads_of hr2 hBB2
 clear hr hB hr2 hB2
 have hB0q := Lib.hid hB0e
 clear hB0e
 go_enter Tryd.func35, Tryd.ntmps35
 go_upto_region 0 with fail
 refine wl_lit ?_
 refine runWL 4 (.pointer (some ⟨w.heap.size, 0, none⟩)) (w.alloc (.cells (va .u8 (List.replicate 32 0)) 45)) rfl (by rfl) (exec_allocV 45 rfl _ (zv_api_Digest _)) ?_
 simp only [Ls]
 have lw_p4 := Nat.le_trans hB0 hW.size
 have hp4 := Blk.new w 45 (va .u8 (List.replicate 32 0))
 replace hW := alB hW hB0 (.cells (va .u8 (List.replicate 32 0)) 45)
 generalize w.alloc (.cells (va .u8 (List.replicate 32 0)) 45) = w1 at *
 generalize w.heap.size = p4 at hp4 lw_p4  ⊢
 refine nilL ?_
 go_upto_region 1 with fail
 refine wl_lit ?_
 refine runL 10 (.slice A n c) rfl (by rfl) (by go_simp) ?_
 simp only [Ls]
 refine callL 11 rfl (by rfl) (fun K hK => wp_callF 56 #[.slice A n c] (by go_simp) (rblock_any key A n c B hk hn _ (rd.out _ hW) (Nat.le_trans hBB (Nat.le_trans hB0 hW.size))) ?_)
 rintro e w2 ⟨g5, c5, rfl, hg5, hc5, hgg, bx⟩
 have lp4_g5 : p4 < g5 := Nat.lt_of_lt_of_le hp4.lt hgg
 have lw_g5 : B0 ≤ g5 := Nat.le_trans (Nat.le_trans hB0 hW.size) hgg
 replace hp4 := blB hp4 bx
 replace hW := trB hW hB0 bx
 clear hgg
 clear bx
 refine ⟨_, rfl, hK.out _ _ ?_⟩
 clear hK K
 refine runL 5 (.slice (some ⟨g5, 0, none⟩) 64 c5) rfl (by rfl) (by go_simp) ?_
 simp only [Ls]
 refine nilL ?_
 go_upto_region 2 with fail
 refine wl_lit ?_
 refine runL 6 (.slice none 0 0) rfl (by rfl) (by go_simp) ?_
 refine runL 7 (.slice none 0 0) rfl (by rfl) (by go_simp) ?_
 simp only [Ls]
 refine nilL ?_
 have hI0 : Own w2 B0 none 0 0 [] := Own.nil _ _
 have nI0_p4 : Off none p4 := Off.nil _
 have nI0_g5 : Off none g5 := Off.nil _
 have hO0 : Own w2 B0 none 0 0 [] := Own.nil _ _
 have nO0_p4 : Off none p4 := Off.nil _
 have nO0_g5 : Off none g5 := Off.nil _
 have sI0_O0 : ∀ a : Addr, none = some a → Off none a.block := fun a _ => Off.nil _
 have sO0_I0 : ∀ a : Addr, (none : Option Addr) = some a → Off none a.block := fun a ha => by cases ha
 go_wp2
 go_loopw [6, 7, 8] (fun u v s wr => ∃ (i : Nat) (AI AO : Option Addr) (cI cO : Nat), i ≤ 64 ∧ s = .int .i64 (i : Int) ∧ u = .slice AI i cI ∧ v = .slice AO i cO ∧ Own wr B0 AI i cI ((kx key 54).take i) ∧ Own wr B0 AO i cO ((kx key 92).take i) ∧ (∀ a, AI = some a → Off AO a.block) ∧ (∀ a, AO = some a → Off AI a.block) ∧ Off AI p4 ∧ Off AO p4 ∧ Off AI g5 ∧ Off AO g5 ∧ Blk wr p4 45 (va .u8 (List.replicate 32 0)) ∧ ByB wr g5 (kb key) ∧ Below B0 w wr) (fun _ _ s _ => 64 - (intOf s).toNat)
 case atStart => exact ⟨0, none, none, 0, 0, by omega, rfl, rfl, rfl, hI0, hO0, (fun _ h => by cases h), (fun _ h => by cases h), Off.nil _, Off.nil _, Off.nil _, Off.nil _, hp4, hg5, hW⟩
 case round =>
  clear hI0 hO0 hp4 hg5 hW nI0_p4 nI0_g5 sI0_O0 sO0_I0 nO0_p4 nO0_g5
  obtain ⟨i, AI, AO, cI, cO, hi, rfl, rfl, rfl, hAI, hAO, sAI_AO, sAO_AI, nAI_p4, nAO_p4, nAI_g5, nAO_g5, hp4, hg5, hW⟩ := hrel
  by_cases hlt : i < 64
  ·
   have hltI : (i : Int) < 64 := by omega
   have hy := (kb_byt key hk).get i
   obtain ⟨y, hye⟩ : ∃ y, (kb key).getD i 0 = y := ⟨_, rfl⟩
   rw [hye] at hy
   have hyq := Lib.hid hye
   have hx1 : bits BinOp.xor IntKind.u8 (y : Int) 54 = ((y ^^^ 54 : Nat) : Int) := u8_xor_nat y 54 hy (by omega)
   have hx2 : bits BinOp.xor IntKind.u8 (y : Int) 92 = ((y ^^^ 92 : Nat) : Int) := u8_xor_nat y 92 hy (by omega)
   have ht1 : (kx key 54).take i ++ [y ^^^ 54] = (kx key 54).take (i + 1) := by rw [take_succ_getD _ _ (by rw [kx_len]; exact hlt), kx_get _ _ _ hlt, hye]
   have ht2 : (kx key 92).take i ++ [y ^^^ 92] = (kx key 92).take (i + 1) := by rw [take_succ_getD _ _ (by rw [kx_len]; exact hlt), kx_get _ _ _ hlt, hye]
   have ht1q := Lib.hid ht1
   have ht2q := Lib.hid ht2
   clear hye ht1 ht2
   go_upto_region 6 with fail
   refine wl_lit ?_
   refine runL 16 (.slice AI i cI) rfl (by rfl) (by go_simp) ?_
   refine runL 17 (.slice (some ⟨g5, 0, none⟩) 64 c5) rfl (by rfl) (by go_simp) ?_
   refine runL 18 (.int .i64 (i : Int)) rfl (by rfl) (by go_simp) ?_
   refine runL 19 (.pointer (some ⟨g5, i, none⟩)) rfl (by rfl) (by go_simp) ?_
   refine runL 20 (.int .u8 ((y : Nat) : Int)) rfl (by rfl) (exec_cell 5 (.tmp 19) rfl g5 i rfl (.int .u8 ((y : Nat) : Int)) _ Tryd.underlying5 rfl (by rw [← hyq.out]; exact hg5.num (by rw [kb_len]; exact hlt))) ?_
   refine runL 21 (.int .u8 ((y ^^^ 54 : Nat) : Int)) rfl (by rfl) (by go_simp) ?_
   simp only [Ls]
   refine runWL 22 (.slice (some ⟨wr.heap.size, 0, none⟩) 1 1) (wr.alloc (.cells (va .u8 [(y ^^^ 54)]) 5)) rfl (by rfl) (exec_bslice 34 1 _ rfl _ (by exact bs_b1 (y ^^^ 54) _)) ?_
   simp only [Ls]
   have lp4_q1 := hp4.lt
   have lg5_q1 := hg5.lt
   have nAI_q1 := hAI.new_off
   have nAO_q1 := hAO.new_off
   have lw_q1 := Nat.le_trans hB0 hW.size
   have hq1 : Blk (wr.alloc (.cells (va .u8 [(y ^^^ 54)]) 5)) wr.heap.size 5 (va .u8 [(y ^^^ 54)]) := Blk.new _ _ _
   replace hp4 := hp4.alloc (.cells (va .u8 [(y ^^^ 54)]) 5)
   replace hg5 := hg5.alloc (.cells (va .u8 [(y ^^^ 54)]) 5)
   replace hAI := hAI.alloc (.cells (va .u8 [(y ^^^ 54)]) 5)
   replace hAO := hAO.alloc (.cells (va .u8 [(y ^^^ 54)]) 5)
   replace hW := alB hW hB0 (.cells (va .u8 [(y ^^^ 54)]) 5)
   generalize wr.alloc (.cells (va .u8 [(y ^^^ 54)]) 5) = w3 at *
   generalize wr.heap.size = q1 at hq1 lw_q1 lp4_q1 lg5_q1 nAI_q1 nAO_q1 ⊢
   obtain ⟨AJ, cAJ, w4, hap, hAJ, hcAJ, hgr, hof⟩ := own_append hAI (some ⟨q1, 0, none⟩) 1 1 _ ([(y ^^^ 54)]) (hq1.readsAll (Nat.lt_succ_self _) rfl) (Nat.le_trans hB0 hW.size) ((kx key 54).take (i + 1)) ht1q.out (i + 1) (by omega) (by omega) 34
   refine runWL 23 (.slice AJ (i + 1) cAJ) w4 rfl (by rfl) (exec_append _ _ _ _ rfl _ _ _ rfl rfl hap) ?_
   simp only [Ls]
   have nAJ_p4 := hof p4 nAI_p4 hp4.lt
   replace hp4 := hp4.grown hgr (nAI_p4.ob _ _)
   have nAJ_g5 := hof g5 nAI_g5 hg5.lt
   replace hg5 := hg5.grown hgr (nAI_g5.ob _ _)
   have sAO_AJ : ∀ a : Addr, AO = some a → Off AJ a.block := fun a ha => hof a.block (sAO_AI a ha) (hAO.lt ha).2
   replace hAO := hAO.grown hgr sAO_AI
   have sAJ_AO := Own.new_sep hAO hAJ sAO_AJ
   have nAJ_q1 := hof q1 nAI_q1 hq1.lt
   replace hq1 := hq1.grown hgr (nAI_q1.ob _ _)
   replace hW := Own.belowG hW (Nat.le_trans hB0 hW.size) hAI.from_ hgr
   clear hAI hgr hof hap
   refine runL 6 (.slice AJ (i + 1) cAJ) rfl (by rfl) (by go_simp) ?_
   simp only [Ls]
   refine nilL ?_
   clear hq1
   go_upto_region 7 with fail
   refine wl_lit ?_
   refine runL 24 (.slice AO i cO) rfl (by rfl) (by go_simp) ?_
   refine runL 25 (.slice (some ⟨g5, 0, none⟩) 64 c5) rfl (by rfl) (by go_simp) ?_
   refine runL 26 (.int .i64 (i : Int)) rfl (by rfl) (by go_simp) ?_
   refine runL 27 (.pointer (some ⟨g5, i, none⟩)) rfl (by rfl) (by go_simp) ?_
   refine runL 28 (.int .u8 ((y : Nat) : Int)) rfl (by rfl) (exec_cell 5 (.tmp 27) rfl g5 i rfl (.int .u8 ((y : Nat) : Int)) _ Tryd.underlying5 rfl (by rw [← hyq.out]; exact hg5.num (by rw [kb_len]; exact hlt))) ?_
   refine runL 29 (.int .u8 ((y ^^^ 92 : Nat) : Int)) rfl (by rfl) (by go_simp) ?_
   simp only [Ls]
   refine runWL 30 (.slice (some ⟨w4.heap.size, 0, none⟩) 1 1) (w4.alloc (.cells (va .u8 [(y ^^^ 92)]) 5)) rfl (by rfl) (exec_bslice 34 1 _ rfl _ (by exact bs_b1 (y ^^^ 92) _)) ?_
   simp only [Ls]
   have lp4_q2 := hp4.lt
   have lg5_q2 := hg5.lt
   have nAO_q2 := hAO.new_off
   have nAJ_q2 := hAJ.new_off
   have lw_q2 := Nat.le_trans hB0 hW.size
   have hq2 : Blk (w4.alloc (.cells (va .u8 [(y ^^^ 92)]) 5)) w4.heap.size 5 (va .u8 [(y ^^^ 92)]) := Blk.new _ _ _
   replace hp4 := hp4.alloc (.cells (va .u8 [(y ^^^ 92)]) 5)
   replace hg5 := hg5.alloc (.cells (va .u8 [(y ^^^ 92)]) 5)
   replace hAO := hAO.alloc (.cells (va .u8 [(y ^^^ 92)]) 5)
   replace hAJ := hAJ.alloc (.cells (va .u8 [(y ^^^ 92)]) 5)
   replace hW := alB hW hB0 (.cells (va .u8 [(y ^^^ 92)]) 5)
   generalize w4.alloc (.cells (va .u8 [(y ^^^ 92)]) 5) = w5 at *
   generalize w4.heap.size = q2 at hq2 lw_q2 lp4_q2 lg5_q2 nAO_q2 nAJ_q2 ⊢
   obtain ⟨AP, cAP, w6, hap, hAP, hcAP, hgr, hof⟩ := own_append hAO (some ⟨q2, 0, none⟩) 1 1 _ ([(y ^^^ 92)]) (hq2.readsAll (Nat.lt_succ_self _) rfl) (Nat.le_trans hB0 hW.size) ((kx key 92).take (i + 1)) ht2q.out (i + 1) (by omega) (by omega) 34
   refine runWL 31 (.slice AP (i + 1) cAP) w6 rfl (by rfl) (exec_append _ _ _ _ rfl _ _ _ rfl rfl hap) ?_
   simp only [Ls]
   have nAP_p4 := hof p4 nAO_p4 hp4.lt
   replace hp4 := hp4.grown hgr (nAO_p4.ob _ _)
   have nAP_g5 := hof g5 nAO_g5 hg5.lt
   replace hg5 := hg5.grown hgr (nAO_g5.ob _ _)
   have sAJ_AP : ∀ a : Addr, AJ = some a → Off AP a.block := fun a ha => hof a.block (sAJ_AO a ha) (hAJ.lt ha).2
   replace hAJ := hAJ.grown hgr sAJ_AO
   have sAP_AJ := Own.new_sep hAJ hAP sAJ_AP
   have nAP_q2 := hof q2 nAO_q2 hq2.lt
   replace hq2 := hq2.grown hgr (nAO_q2.ob _ _)
   replace hW := Own.belowG hW (Nat.le_trans hB0 hW.size) hAO.from_ hgr
   clear hAO hgr hof hap
   refine runL 7 (.slice AP (i + 1) cAP) rfl (by rfl) (by go_simp) ?_
   simp only [Ls]
   refine nilL ?_
   go_wp2
   go_roundw
   case rel => exact ⟨i + 1, AJ, AP, cAJ, cAP, by omega, by go_num, rfl, rfl, hAJ, hAP, sAJ_AP, sAP_AJ, nAJ_p4, nAP_p4, nAJ_g5, nAP_g5, hp4, hg5, hW⟩
   case measure => simp [intOf]; omega
  ·
   obtain rfl : i = 64 := by omega
   rw [List.take_of_length_le (by rw [kx_len]; omega)] at hAI hAO
   clear hg5
   go_upto_region 8 with fail
   refine wl_lit ?_
   refine runL 32 (.slice AI 64 cI) rfl (by rfl) (by go_simp) ?_
   refine runL 33 (.slice A2 n2 c2) rfl (by rfl) (by go_simp) ?_
   simp only [Ls]
   obtain ⟨AJ, cAJ, w7, hap, hAJ, hcAJ, hgr, hof⟩ := own_append hAI A2 n2 c2 _ m (rd2.out _ hW) (Nat.le_trans hB0 hW.size) (kx key 54 ++ m) rfl (64 + n2) (by omega) (by omega) 34
   refine runWL 34 (.slice AJ (64 + n2) cAJ) w7 rfl (by rfl) (exec_append _ _ _ _ rfl _ _ _ rfl rfl hap) ?_
   simp only [Ls]
   have nAJ_p4 := hof p4 nAI_p4 hp4.lt
   replace hp4 := hp4.grown hgr (nAI_p4.ob _ _)
   have sAO_AJ : ∀ a : Addr, AO = some a → Off AJ a.block := fun a ha => hof a.block (sAO_AI a ha) (hAO.lt ha).2
   replace hAO := hAO.grown hgr sAO_AI
   have sAJ_AO := Own.new_sep hAO hAJ sAO_AJ
   replace hW := Own.belowG hW (Nat.le_trans hB0 hW.size) hAI.from_ hgr
   clear hAI hgr hof hap
   refine callL 35 rfl (by rfl) (fun K hK => wp_callF 57 #[.slice AJ (64 + n2) cAJ] (by go_simp) (rsum_any (kx key 54 ++ m) AJ (64 + n2) cAJ _ ((kx_byt _ _ hk (by omega)).app hm0) (by omega) _ hAJ.reads (Nat.le_refl _)) ?_)
   rintro e w8 ⟨rfl, bx⟩
   replace hp4 := blB hp4 bx
   replace hAO := hAO.below bx
   replace hAJ := hAJ.below bx
   replace hW := trB hW hB0 bx
   clear bx
   refine ⟨_, rfl, hK.out _ _ ?_⟩
   clear hK K
   simp only [Ls]
   refine runWL 9 (.pointer (some ⟨w8.heap.size, 0, none⟩)) (w8.alloc (.cells (va .u8 (List.replicate 32 0)) 45)) rfl (by rfl) (exec_allocV 45 rfl _ (zv_api_Digest _)) ?_
   simp only [Ls]
   have lp4_p9 := hp4.lt
   have nAO_p9 := hAO.new_off
   have nAJ_p9 := hAJ.new_off
   have lw_p9 := Nat.le_trans hB0 hW.size
   have hp9 := Blk.new w8 45 (va .u8 (List.replicate 32 0))
   replace hp4 := hp4.alloc (.cells (va .u8 (List.replicate 32 0)) 45)
   replace hAO := hAO.alloc (.cells (va .u8 (List.replicate 32 0)) 45)
   replace hAJ := hAJ.alloc (.cells (va .u8 (List.replicate 32 0)) 45)
   replace hW := alB hW hB0 (.cells (va .u8 (List.replicate 32 0)) 45)
   generalize w8.alloc (.cells (va .u8 (List.replicate 32 0)) 45) = w9 at *
   generalize w8.heap.size = p9 at hp9 lw_p9 lp4_p9 nAO_p9 nAJ_p9 ⊢
   refine runSL (w9.setRow p9 (va .u8 (sha (kx key 54 ++ m)))) rfl (by rfl) (exec_storeRow 45 (.tmp 9) (.tmp 35) rfl p9 rfl (va .u8 (sha (kx key 54 ++ m))) rfl 45 (va .u8 (List.replicate 32 0)) hp9 (sz_eq (sz_api_Digest _ (List.length_replicate)) (sz_api_Digest _ (sha_len' _))) (sz_api_Digest _ (sha_len' _)) (va_ones .u8 _)) ?_
   replace hp4 := hp4.rowFar (show p9 ≠ p4 from (by omega)) (va .u8 (sha (kx key 54 ++ m)))
   replace hAO := hAO.rowFar nAO_p9 (va .u8 (sha (kx key 54 ++ m)))
   replace hAJ := hAJ.rowFar nAJ_p9 (va .u8 (sha (kx key 54 ++ m)))
   replace hp9 := hp9.row (va .u8 (sha (kx key 54 ++ m)))
   replace hW := below_setRow hW lw_p9 (va .u8 (sha (kx key 54 ++ m)))
   generalize w9.setRow p9 (va .u8 (sha (kx key 54 ++ m))) = w10 at *
   refine nilL ?_
   clear hAJ
   go_upto_region 9 with fail
   refine wl_lit ?_
   refine runL 36 (.slice AO 64 cO) rfl (by rfl) (by go_simp) ?_
   refine runL 37 (.slice (some ⟨p9, 0, none⟩) 32 32) rfl (by rfl) (by go_simp) ?_
   simp only [Ls]
   obtain ⟨AP, cAP, w11, hap, hAP, hcAP, hgr, hof⟩ := own_append hAO (some ⟨p9, 0, none⟩) 32 32 _ (sha (kx key 54 ++ m)) (hp9.readsAll (Nat.lt_succ_self _) (sha_len' _)) (Nat.le_trans hB0 hW.size) (kx key 92 ++ sha (kx key 54 ++ m)) rfl (64 + 32) (by omega) (by omega) 34
   refine runWL 38 (.slice AP (64 + 32) cAP) w11 rfl (by rfl) (exec_append _ _ _ _ rfl _ _ _ rfl rfl hap) ?_
   simp only [Ls]
   have nAP_p4 := hof p4 nAO_p4 hp4.lt
   replace hp4 := hp4.grown hgr (nAO_p4.ob _ _)
   have nAP_p9 := hof p9 nAO_p9 hp9.lt
   replace hp9 := hp9.grown hgr (nAO_p9.ob _ _)
   replace hW := Own.belowG hW (Nat.le_trans hB0 hW.size) hAO.from_ hgr
   clear hAO hgr hof hap
   refine callL 39 rfl (by rfl) (fun K hK => wp_callF 57 #[.slice AP (64 + 32) cAP] (by go_simp) (rsum_any (kx key 92 ++ sha (kx key 54 ++ m)) AP (64 + 32) cAP _ ((kx_byt _ _ hk (by omega)).app (sha_byt _)) (by omega) _ hAP.reads (Nat.le_refl _)) ?_)
   rintro e w12 ⟨rfl, bx⟩
   replace hp4 := blB hp4 bx
   replace hp9 := blB hp9 bx
   replace hAP := hAP.below bx
   replace hW := trB hW hB0 bx
   clear bx
   refine ⟨_, rfl, hK.out _ _ ?_⟩
   clear hK K
   simp only [Ls]
   refine runSL (w12.setRow p4 (va .u8 (hm key m))) rfl (by rfl) (exec_storeRow 45 (.tmp 4) (.tmp 39) rfl p4 rfl (va .u8 (hm key m)) rfl 45 (va .u8 (List.replicate 32 0)) hp4 (sz_eq (sz_api_Digest _ (List.length_replicate)) (sz_api_Digest _ (hm_len _ _))) (sz_api_Digest _ (hm_len _ _)) (va_ones .u8 _)) ?_
   replace hp9 := hp9.rowFar (show p4 ≠ p9 from (by omega)) (va .u8 (hm key m))
   replace hAP := hAP.rowFar nAP_p4 (va .u8 (hm key m))
   replace hp4 := hp4.row (va .u8 (hm key m))
   replace hW := below_setRow hW lw_p4 (va .u8 (hm key m))
   generalize w12.setRow p4 (va .u8 (hm key m)) = w13 at *
   refine nilL ?_
   go_wp2_with fail
   exact bodyPost_ret (results_cell_row rfl _ _ p4 45 (va .u8 (hm key m)) (0, 0) _ rfl hp4 (by exact Tryd.underlying45) rfl (sz_api_Digest _ (hm_len _ _))) rfl ⟨rfl, hW⟩
end Go.Proofs.YtcfddmplnoknlaaDoor
namespace Go.Proofs.YtcfddmplnoknlaaDoor
set_option maxRecDepth 16384
open Go.RowKit Sh
theorem Own.take {W : World} {B0 n c : Nat} {A' : Addr} {l : List Nat} (h : Own W B0 (some A') n c l) {m : Nat} (hm : m ≤ n) : Own W B0 (some A') m c (l.take m) := by
  have hl := h.len
  refine ⟨by rw [nv_len, List.length_take]; omega, ?_⟩
  rcases h.2 with ⟨e, h0⟩ | ⟨g, cap, cur, e, hb, hh, h1, h2, h3, h4⟩
  · cases e
  · injection e with e1 e2 e3
    refine .inr ⟨g, cap, cur, by rw [e1, e3], hb, hh, by omega, h2, h3, ?_⟩
    rw [← nv_take, ← h4, List.take_take]
    congr 1
    omega

set_option maxRecDepth 8000 in
set_option maxHeartbeats 4000000 in
theorem rexp_any (key info : List Nat) (z : Nat) (hz : z ≤ 8160) (A : Option Addr) (n c B : Nat) (A2 : Option Addr) (n2 c2 B2 : Nat) (hk : Byt key) (hi : Byt info) (_hnc : n ≤ c) (hn : n < 1000) (_hnc2 : n2 ≤ c2) (hn2 : n2 < 1000) (w : World)
  (hr : Reads w B 1 A n (nv .u8 key)) (hB : B ≤ w.heap.size) (hr2 : Reads w B2 1 A2 n2 (nv .u8 info)) (hB2 : B2 ≤ w.heap.size) :
  Calls Tryd.prog 36 #[.slice A n c, .slice A2 n2 c2, .int .i64 (z : Int)] w fun e' w' => ∃ Ar cr, e' = .returned (.slice Ar z cr) ∧ Own w' w.heap.size Ar z cr (ex key info z) ∧ Below w.heap.size w w' := by
 obtain ⟨B0, hB0e, hW, hB0⟩ := stB w
 rw [hB0e]
 have hl2n := hr2.len
 have hBB : B ≤ B0 := by omega
 have hBB2 : B2 ≤ B0 := by omega
 have rd := reads_of hr hBB
 have rd2 := reads_of hr2 hBB2
 clear hr hB hr2 hB2
 have hB0q := Lib.hid hB0e
 clear hB0e
 go_enter Tryd.func36, Tryd.ntmps36
 go_upto_region 0 with fail
 refine wl_lit ?_
 refine runL 6 (.slice none 0 0) rfl (by rfl) (by go_simp) ?_
 simp only [Ls]
 refine nilL ?_
 go_upto_region 1 with fail
 refine wl_lit ?_
 refine runL 7 (.slice none 0 0) rfl (by rfl) (by go_simp) ?_
 refine runL 8 (.slice none 0 0) rfl (by rfl) (by go_simp) ?_
 simp only [Ls]
 refine nilL ?_
 have hO0 : Own w B0 none 0 0 [] := Own.nil _ _
 have hO1 : Own w B0 none 0 0 [] := Own.nil _ _
 have sO0_O1 : ∀ a : Addr, none = some a → Off none a.block := fun a _ => Off.nil _
 have sO1_O0 : ∀ a : Addr, (none : Option Addr) = some a → Off none a.block := fun a ha => by cases ha
 go_upto_region 2 with fail
 refine wl_lit ?_
 refine runL 9 (.int .i64 1) rfl (by rfl) (by go_simp) ?_
 simp only [Ls]
 refine nilL ?_
 go_wp2
 go_loopw [7, 8, 9] (fun v v2 u wr => ∃ (k : Nat) (AI : Option Addr) (cI : Nat) (AL : Option Addr) (nL cL mI : Nat), k ≤ 255 ∧ 32 * k < z + 32 ∧ u = .int .i64 ((k + 1 : Nat) : Int) ∧ v = .slice AI mI cI ∧ v2 = .slice AL nL cL ∧ mI = 32 * k ∧ Own wr B0 AI mI cI (ol key info k) ∧ Own wr B0 AL nL cL (tk key info k) ∧ (∀ a : Addr, AI = some a → Off AL a.block) ∧ (∀ a : Addr, AL = some a → Off AI a.block) ∧ Below B0 w wr) (fun _ _ u _ => 256 - (intOf u).toNat)
 case atStart => exact ⟨0, none, 0, none, 0, 0, 0, by omega, by omega, rfl, rfl, rfl, rfl, hO0, hO1, (fun a ha => by cases ha), (fun a ha => by cases ha), hW⟩
 case round =>
  clear hO0 hO1 hW sO0_O1 sO1_O0
  obtain ⟨k, AI, cI, AL, nL, cL, mI, hk255, hkz, rfl, rfl, rfl, hmI, hAI, hAL, sAI_AL, sAL_AI, hW⟩ := hrel
  obtain ⟨i, hik⟩ : ∃ i, k + 1 = i := ⟨_, rfl⟩
  rw [hik]
  by_cases hlt : mI < z
  ·
   have hltI : (mI : Int) < (z : Int) := by omega
   have hi256 : i < 256 := by omega
   have hw8 : IntKind.u8.wrap (i : Int) = (i : Int) := by simp [IntKind.wrap, IntKind.bits, IntKind.signed]; omega
   have hwi : IntKind.i64.wrap ((i : Int) + 1) = ((i + 1 : Nat) : Int) := by rw [IntWalk.i64_in _ (by omega)]; omega
   obtain ⟨t, ht⟩ : ∃ t, tk key info i = t := ⟨_, rfl⟩
   obtain ⟨la, hla⟩ : ∃ t, tk key info k = t := ⟨_, rfl⟩
   obtain ⟨ok, hok⟩ : ∃ t, ol key info k = t := ⟨_, rfl⟩
   obtain ⟨ok2, hok2⟩ : ∃ t, ol key info i = t := ⟨_, rfl⟩
   obtain ⟨m2, hm2⟩ : ∃ x, mI + 32 = x := ⟨_, rfl⟩
   have htl : t.length = 32 := by rw [← ht, ← hik]; exact tk_len _ _ _
   have htb : Byt t := by rw [← ht]; exact tk_byt _ _ _
   have hlb : Byt la := by rw [← hla]; exact tk_byt _ _ _
   have hll : la.length ≤ 32 := by rw [← hla]; exact tk_le _ _ _
   have hln : nL ≤ 32 := by have h1 := hAL.len; rw [hla] at h1; omega
   have hob : Byt ok2 := by rw [← hok2]; exact ol_byt _ _ _
   have hjo : ok ++ t = ok2 := by rw [← hok2, ← hik, ol, hok, hik, ht]
   have hne : hm key (la ++ info ++ [i]) = t := by rw [← ht, ← hik, tk, hla]; simp
   have hmb : Byt (la ++ info ++ [i]) := (hlb.app hi).app (byt_one' _ (by omega))
   rw [hok] at hAI
   rw [hla] at hAL
   have hneq := Lib.hid hne
   have hjoq := Lib.hid hjo
   have htq := Lib.hid ht
   have ho2q := Lib.hid hok2
   have hiq := Lib.hid hik
   clear hne hjo ht hok2 hla hok hik
   go_upto_region 5 with fail
   refine wl_lit ?_
   refine runL 17 (.slice A n c) rfl (by rfl) (by go_simp) ?_
   simp only [Ls]
   refine runWL 18 (.slice (some ⟨wr.heap.size, 0, none⟩) 0 0) (wr.alloc (.cells (va .u8 ([])) 5)) rfl (by rfl) (exec_bslice 34 0 _ rfl _ (by exact bs_0 _)) ?_
   simp only [Ls]
   have nAI_q1 := hAI.new_off
   have nAL_q1 := hAL.new_off
   have lw_q1 := Nat.le_trans hB0 hW.size
   have hq1 : Blk (wr.alloc (.cells (va .u8 ([])) 5)) wr.heap.size 5 (va .u8 ([])) := Blk.new _ _ _
   replace hAI := hAI.alloc (.cells (va .u8 ([])) 5)
   replace hAL := hAL.alloc (.cells (va .u8 ([])) 5)
   replace hW := alB hW hB0 (.cells (va .u8 ([])) 5)
   generalize wr.alloc (.cells (va .u8 ([])) 5) = w1 at *
   generalize wr.heap.size = q1 at hq1 lw_q1 nAI_q1 nAL_q1 ⊢
   refine runL 19 (.slice AL nL cL) rfl (by rfl) (by go_simp) ?_
   simp only [Ls]
   have hoq1 : Own w1 B0 (some ⟨q1, 0, none⟩) 0 0 ([]) := hq1.owned rfl lw_q1 (by unfold maxLen; omega)
   have sAI_oq1 : ∀ a : Addr, AI = some a → Off (some ⟨q1, 0, none⟩) a.block := fun a ha b hb e => by cases hb; exact nAI_q1 a ha e.symm
   have soq1_AI : ∀ a : Addr, (some ⟨q1, 0, none⟩ : Option Addr) = some a → Off AI a.block := fun a ha => by cases ha; exact nAI_q1
   have sAL_oq1 : ∀ a : Addr, AL = some a → Off (some ⟨q1, 0, none⟩) a.block := fun a ha b hb e => by cases hb; exact nAL_q1 a ha e.symm
   have soq1_AL : ∀ a : Addr, (some ⟨q1, 0, none⟩ : Option Addr) = some a → Off AL a.block := fun a ha => by cases ha; exact nAL_q1
   clear hq1
   obtain ⟨J1, cJ1, w2, hap, hJ1, hcJ1, hgr, hof⟩ := own_append hoq1 AL nL cL _ la hAL.reads (Nat.le_trans hB0 hW.size) la (by simp) nL (by omega) (by omega) 34
   refine runWL 20 (.slice J1 nL cJ1) w2 rfl (by rfl) (exec_append _ _ _ _ rfl _ _ _ rfl rfl hap) ?_
   simp only [Ls]
   have sAI_J1 : ∀ a : Addr, AI = some a → Off J1 a.block := fun a ha => hof a.block (sAI_oq1 a ha) (hAI.lt ha).2
   replace hAI := hAI.grown hgr sAI_oq1
   have sJ1_AI := Own.new_sep hAI hJ1 sAI_J1
   have sAL_J1 : ∀ a : Addr, AL = some a → Off J1 a.block := fun a ha => hof a.block (sAL_oq1 a ha) (hAL.lt ha).2
   replace hAL := hAL.grown hgr sAL_oq1
   have sJ1_AL := Own.new_sep hAL hJ1 sAL_J1
   replace hW := Own.belowG hW (Nat.le_trans hB0 hW.size) hoq1.from_ hgr
   clear hoq1 hgr hof hap
   refine runL 21 (.slice A2 n2 c2) rfl (by rfl) (by go_simp) ?_
   simp only [Ls]
   obtain ⟨J2, cJ2, w3, hap, hJ2, hcJ2, hgr, hof⟩ := own_append hJ1 A2 n2 c2 _ info (rd2.out _ hW) (Nat.le_trans hB0 hW.size) (la ++ info) rfl (nL + n2) (by omega) (by omega) 34
   refine runWL 22 (.slice J2 (nL + n2) cJ2) w3 rfl (by rfl) (exec_append _ _ _ _ rfl _ _ _ rfl rfl hap) ?_
   simp only [Ls]
   have sAI_J2 : ∀ a : Addr, AI = some a → Off J2 a.block := fun a ha => hof a.block (sAI_J1 a ha) (hAI.lt ha).2
   replace hAI := hAI.grown hgr sAI_J1
   have sJ2_AI := Own.new_sep hAI hJ2 sAI_J2
   have sAL_J2 : ∀ a : Addr, AL = some a → Off J2 a.block := fun a ha => hof a.block (sAL_J1 a ha) (hAL.lt ha).2
   replace hAL := hAL.grown hgr sAL_J1
   have sJ2_AL := Own.new_sep hAL hJ2 sAL_J2
   replace hW := Own.belowG hW (Nat.le_trans hB0 hW.size) hJ1.from_ hgr
   clear hJ1 hgr hof hap
   refine runL 23 (.int .i64 (i : Int)) rfl (by rfl) (by go_simp) ?_
   refine runL 24 (.int .u8 ((i : Nat) : Int)) rfl (by rfl) (by go_simp) ?_
   simp only [Ls]
   refine runWL 25 (.slice (some ⟨w3.heap.size, 0, none⟩) 1 1) (w3.alloc (.cells (va .u8 ([i])) 5)) rfl (by rfl) (exec_bslice 34 1 _ rfl _ (by exact bs_b1 i _)) ?_
   simp only [Ls]
   have nAI_q2 := hAI.new_off
   have nAL_q2 := hAL.new_off
   have nJ2_q2 := hJ2.new_off
   have lw_q2 := Nat.le_trans hB0 hW.size
   have hq2 : Blk (w3.alloc (.cells (va .u8 ([i])) 5)) w3.heap.size 5 (va .u8 ([i])) := Blk.new _ _ _
   replace hAI := hAI.alloc (.cells (va .u8 ([i])) 5)
   replace hAL := hAL.alloc (.cells (va .u8 ([i])) 5)
   replace hJ2 := hJ2.alloc (.cells (va .u8 ([i])) 5)
   replace hW := alB hW hB0 (.cells (va .u8 ([i])) 5)
   generalize w3.alloc (.cells (va .u8 ([i])) 5) = w4 at *
   generalize w3.heap.size = q2 at hq2 lw_q2 nAI_q2 nAL_q2 nJ2_q2 ⊢
   obtain ⟨J3, cJ3, w5, hap, hJ3, hcJ3, hgr, hof⟩ := own_append hJ2 (some ⟨q2, 0, none⟩) 1 1 _ ([i]) (hq2.readsAll (Nat.lt_succ_self _) rfl) (Nat.le_trans hB0 hW.size) (la ++ info ++ [i]) rfl (nL + n2 + 1) (by omega) (by omega) 34
   refine runWL 26 (.slice J3 (nL + n2 + 1) cJ3) w5 rfl (by rfl) (exec_append _ _ _ _ rfl _ _ _ rfl rfl hap) ?_
   simp only [Ls]
   have sAI_J3 : ∀ a : Addr, AI = some a → Off J3 a.block := fun a ha => hof a.block (sAI_J2 a ha) (hAI.lt ha).2
   replace hAI := hAI.grown hgr sAI_J2
   have sJ3_AI := Own.new_sep hAI hJ3 sAI_J3
   have sAL_J3 : ∀ a : Addr, AL = some a → Off J3 a.block := fun a ha => hof a.block (sAL_J2 a ha) (hAL.lt ha).2
   replace hAL := hAL.grown hgr sAL_J2
   have sJ3_AL := Own.new_sep hAL hJ3 sAL_J3
   have nJ3_q2 := hof q2 nJ2_q2 hq2.lt
   replace hq2 := hq2.grown hgr (nJ2_q2.ob _ _)
   replace hW := Own.belowG hW (Nat.le_trans hB0 hW.size) hJ2.from_ hgr
   clear hJ2 hgr hof hap
   refine callL 27 rfl (by rfl) (fun K hK => wp_callF 35 #[.slice A n c, .slice J3 (nL + n2 + 1) cJ3] (by go_simp) (rhm_any key (la ++ info ++ [i]) A n c B _ (nL + n2 + 1) _ _ hk (by omega) hmb (by omega) _ (rd.out _ hW) (Nat.le_trans hBB (Nat.le_trans hB0 hW.size)) hJ3.reads (Nat.le_refl _)) ?_)
   rintro e w6 ⟨rfl, bx⟩
   rw [hneq.out]
   replace hAI := hAI.below bx
   replace hAL := hAL.below bx
   replace hq2 := blB hq2 bx
   replace hJ3 := hJ3.below bx
   replace hW := trB hW hB0 bx
   clear bx
   skip
   refine ⟨_, rfl, hK.out _ _ ?_⟩
   clear hK K
   simp only [Ls]
   refine runWL 10 (.pointer (some ⟨w6.heap.size, 0, none⟩)) (w6.alloc (.cells (va .u8 (List.replicate 32 0)) 45)) rfl (by rfl) (exec_allocV 45 rfl _ (zv_api_Digest _)) ?_
   simp only [Ls]
   have nAI_p10 := hAI.new_off
   have nAL_p10 := hAL.new_off
   have lq2_p10 := hq2.lt
   have nJ3_p10 := hJ3.new_off
   have lw_p10 := Nat.le_trans hB0 hW.size
   have hp10 := Blk.new w6 45 (va .u8 (List.replicate 32 0))
   replace hAI := hAI.alloc (.cells (va .u8 (List.replicate 32 0)) 45)
   replace hAL := hAL.alloc (.cells (va .u8 (List.replicate 32 0)) 45)
   replace hq2 := hq2.alloc (.cells (va .u8 (List.replicate 32 0)) 45)
   replace hJ3 := hJ3.alloc (.cells (va .u8 (List.replicate 32 0)) 45)
   replace hW := alB hW hB0 (.cells (va .u8 (List.replicate 32 0)) 45)
   generalize w6.alloc (.cells (va .u8 (List.replicate 32 0)) 45) = w7 at *
   generalize w6.heap.size = p10 at hp10 lw_p10 nAI_p10 nAL_p10 lq2_p10 nJ3_p10 ⊢
   refine runSL (w7.setRow p10 (va .u8 t)) rfl (by rfl) (exec_storeRow 45 (.tmp 10) (.tmp 27) rfl p10 rfl (va .u8 t) rfl 45 (va .u8 (List.replicate 32 0)) hp10 (sz_eq (sz_api_Digest _ (List.length_replicate)) (sz_api_Digest _ htl)) (sz_api_Digest _ htl) (va_ones .u8 _)) ?_
   replace hAI := hAI.rowFar nAI_p10 (va .u8 t)
   replace hAL := hAL.rowFar nAL_p10 (va .u8 t)
   replace hq2 := hq2.rowFar (show p10 ≠ q2 from (by omega)) (va .u8 t)
   replace hJ3 := hJ3.rowFar nJ3_p10 (va .u8 t)
   replace hp10 := hp10.row (va .u8 t)
   replace hW := below_setRow hW lw_p10 (va .u8 t)
   generalize w7.setRow p10 (va .u8 t) = w8 at *
   refine nilL ?_
   clear hJ3
   clear hAL
   go_upto_region 6 with fail
   refine wl_lit ?_
   refine runWL 28 (.slice (some ⟨w8.heap.size, 0, none⟩) 0 0) (w8.alloc (.cells (va .u8 ([])) 5)) rfl (by rfl) (exec_bslice 34 0 _ rfl _ (by exact bs_0 _)) ?_
   simp only [Ls]
   have nAI_q3 := hAI.new_off
   have lq2_q3 := hq2.lt
   have lp10_q3 := hp10.lt
   have lw_q3 := Nat.le_trans hB0 hW.size
   have hq3 : Blk (w8.alloc (.cells (va .u8 ([])) 5)) w8.heap.size 5 (va .u8 ([])) := Blk.new _ _ _
   replace hAI := hAI.alloc (.cells (va .u8 ([])) 5)
   replace hq2 := hq2.alloc (.cells (va .u8 ([])) 5)
   have bx := bAl w8 (.cells (va .u8 ([])) 5)
   replace hp10 := blB hp10 bx
   replace hW := trB hW hB0 bx
   clear bx
   generalize w8.alloc (.cells (va .u8 ([])) 5) = w9 at *
   generalize w8.heap.size = q3 at hq3 lw_q3 nAI_q3 lq2_q3 lp10_q3 ⊢
   refine runL 29 (.slice (some ⟨p10, 0, none⟩) 32 32) rfl (by rfl) (by go_simp) ?_
   simp only [Ls]
   have hoq3 : Own w9 B0 (some ⟨q3, 0, none⟩) 0 0 ([]) := hq3.owned rfl lw_q3 (by unfold maxLen; omega)
   have sAI_oq3 : ∀ a : Addr, AI = some a → Off (some ⟨q3, 0, none⟩) a.block := fun a ha b hb e => by cases hb; exact nAI_q3 a ha e.symm
   have soq3_AI : ∀ a : Addr, (some ⟨q3, 0, none⟩ : Option Addr) = some a → Off AI a.block := fun a ha => by cases ha; exact nAI_q3
   have noq3_q2 : Off (some ⟨q3, 0, none⟩) q2 := fun a ha => by cases ha; simp; omega
   have noq3_p10 : Off (some ⟨q3, 0, none⟩) p10 := fun a ha => by cases ha; simp; omega
   clear hq3
   obtain ⟨J4, cJ4, w10, hap, hJ4, hcJ4, hgr, hof⟩ := own_append hoq3 (some ⟨p10, 0, none⟩) 32 32 _ t (hp10.readsAll (Nat.lt_succ_self _) htl) (Nat.le_trans hB0 hW.size) t (by simp) 32 (by omega) (by omega) 34
   refine runWL 30 (.slice J4 32 cJ4) w10 rfl (by rfl) (exec_append _ _ _ _ rfl _ _ _ rfl rfl hap) ?_
   simp only [Ls]
   have sAI_J4 : ∀ a : Addr, AI = some a → Off J4 a.block := fun a ha => hof a.block (sAI_oq3 a ha) (hAI.lt ha).2
   replace hAI := hAI.grown hgr sAI_oq3
   have sJ4_AI := Own.new_sep hAI hJ4 sAI_J4
   have nJ4_q2 := hof q2 noq3_q2 hq2.lt
   replace hq2 := hq2.grown hgr (noq3_q2.ob _ _)
   have nJ4_p10 := hof p10 noq3_p10 hp10.lt
   replace hp10 := hp10.grown hgr (noq3_p10.ob _ _)
   replace hW := Own.belowG hW (Nat.le_trans hB0 hW.size) hoq3.from_ hgr
   clear hoq3 hgr hof hap
   refine runL 8 (.slice J4 32 cJ4) rfl (by rfl) (by go_simp) ?_
   simp only [Ls]
   refine nilL ?_
   go_upto_region 7 with fail
   refine wl_lit ?_
   refine runL 31 (.slice AI mI cI) rfl (by rfl) (by go_simp) ?_
   refine runL 32 (.slice J4 32 cJ4) rfl (by rfl) (by go_simp) ?_
   simp only [Ls]
   obtain ⟨AO, cAO, w11, hap, hAO, hcAO, hgr, hof⟩ := own_append hAI J4 32 cJ4 _ t hJ4.reads (Nat.le_trans hB0 hW.size) ok2 hjoq.out m2 (by omega) (by omega) 34
   refine runWL 33 (.slice AO m2 cAO) w11 rfl (by rfl) (exec_append _ _ _ _ rfl _ _ _ rfl rfl hap) ?_
   simp only [Ls]
   have nAO_q2 := hof q2 nAI_q2 hq2.lt
   replace hq2 := hq2.grown hgr (nAI_q2.ob _ _)
   have nAO_p10 := hof p10 nAI_p10 hp10.lt
   replace hp10 := hp10.grown hgr (nAI_p10.ob _ _)
   have sJ4_AO : ∀ a : Addr, J4 = some a → Off AO a.block := fun a ha => hof a.block (sJ4_AI a ha) (hJ4.lt ha).2
   replace hJ4 := hJ4.grown hgr sJ4_AI
   have sAO_J4 := Own.new_sep hJ4 hAO sJ4_AO
   replace hW := Own.belowG hW (Nat.le_trans hB0 hW.size) hAI.from_ hgr
   clear hAI hgr hof hap
   refine runL 7 (.slice AO m2 cAO) rfl (by rfl) (by go_simp) ?_
   simp only [Ls]
   refine nilL ?_
   go_wp2
   go_roundw
   case rel => exact ⟨i, AO, cAO, J4, 32, cJ4, m2, by omega, by have := hiq.out; omega, by go_num, rfl, rfl, by have := hiq.out; omega, by rw [ho2q.out]; exact hAO, by rw [htq.out]; exact hJ4, sAO_J4, sJ4_AO, hW⟩
   case measure => simp [intOf]; omega
  ·
   have hltI : ¬ (mI : Int) < (z : Int) := by omega
   have hzmI : (z : Int) ≤ (mI : Int) := by omega
   have hzm : z ≤ mI := by omega
   have hex := ex_of key info k z hk255 (by omega)
   have hexq := Lib.hid hex
   clear hex hAL sAI_AL sAL_AI
   have hcI := hAI.cap
   have hzc : z ≤ cI := by omega
   rcases hAI.form with ⟨rfl, h2, h3⟩ | ⟨g, rfl, hgB, hgl⟩
   ·
    obtain rfl : cI = 0 := h3
    obtain rfl : k = 0 := by omega
    obtain rfl : mI = 0 := h2
    obtain rfl : z = 0 := by omega
    clear hmI hzm hzmI hcI hzc hkz hk255 hltI hlt hAI
    have hltI : ¬ ((0 : Nat) : Int) < ((0 : Nat) : Int) := by omega
    go_upto_region 8 with fail
    refine wl_lit ?_
    refine runL 34 (.slice none 0 0) rfl (by rfl) (by first | (go_simp; done) | (go_simp; rfl)) ?_
    refine runL 35 (.int .i64 ((0 : Nat) : Int)) rfl (by rfl) (by first | (go_simp; done) | (go_simp; rfl)) ?_
    refine runL 36 (.slice none 0 0) rfl (by rfl) (by first | (go_simp; done) | (go_simp; rfl)) ?_
    refine runL 6 (.slice none 0 0) rfl (by rfl) (by first | (go_simp; done) | (go_simp; rfl)) ?_
    simp only [Ls]
    refine nilL ?_
    go_wp2_with fail
    go_ret
    exact ⟨none, 0, rfl, Own.nil _ _, hW⟩
   ·
    go_upto_region 8 with fail
    refine wl_lit ?_
    refine runL 34 (.slice (some ⟨g, 0, none⟩) mI cI) rfl (by rfl) (by go_simp) ?_
    refine runL 35 (.int .i64 (z : Int)) rfl (by rfl) (by go_simp) ?_
    refine runL 36 (.slice (some ⟨g, 0, none⟩) z cI) rfl (by rfl) (by go_simp) ?_
    refine runL 6 (.slice (some ⟨g, 0, none⟩) z cI) rfl (by rfl) (by go_simp) ?_
    simp only [Ls]
    refine nilL ?_
    go_wp2_with fail
    go_ret
    exact ⟨_, _, rfl, (by have hx := hAI.take hzm; rwa [hexq.out] at hx), hW⟩
end Go.Proofs.YtcfddmplnoknlaaDoor
namespace Go.Proofs.YtcfddmplnoknlaaDoor
set_option maxRecDepth 16384
open Go.RowKit Sh
def Rs (W : World) (B0 : Nat) (A : Option Addr) (n : Nat) (l : List Nat) : Prop := l.length = n ∧ ((A = none ∧ n = 0) ∨ ∃ g, A = some ⟨g, 0, none⟩ ∧ B0 ≤ g ∧ ByB W g l)
section
variable {w w' : World} {B0 n : Nat} {A : Option Addr} {l : List Nat}
theorem Rs.reads (h : Rs w B0 A n l) : Reads w w.heap.size 1 A n (nv .u8 l) := by
  obtain ⟨hl, ⟨rfl, rfl⟩ | ⟨g, rfl, _, hb⟩⟩ := h
  · obtain rfl := List.eq_nil_of_length_eq_zero hl
    exact Reads.none_
  · exact (hb.reads hl).more hb.lt
theorem Rs.map (h : Rs w B0 A n l) (f : ∀ g, A = some ⟨g, 0, none⟩ → ByB w g l → ByB w' g l) : Rs w' B0 A n l := by
  refine ⟨h.1, ?_⟩
  rcases h.2 with h | ⟨g, rfl, hg, hb⟩
  · exact .inl h
  · exact .inr ⟨g, rfl, hg, f g rfl hb⟩
theorem Rs.lt (h : Rs w B0 A n l) {a : Addr} (ha : A = some a) : a.block < w.heap.size := by
  rcases h.2 with ⟨rfl, _⟩ | ⟨g, rfl, hg, hb⟩
  · cases ha
  · cases ha; exact hb.lt
theorem Rs.new_off (h : Rs w B0 A n l) : Off A w.heap.size := fun a ha e => by have := h.lt ha; omega
theorem Rs.below (h : Rs w B0 A n l) (bx : Below w.heap.size w w') : Rs w' B0 A n l := h.map fun _g _ hb => hb.below bx hb.lt
theorem Rs.alloc (h : Rs w B0 A n l) (o : Obj) : Rs (w.alloc o) B0 A n l := h.map fun _g _ hb => hb.alloc o
theorem Rs.rowFar {x : Nat} (h : Rs w B0 A n l) (hne : Off A x) (cs : Array Value) : Rs (w.setRow x cs) B0 A n l := h.map fun _g e hb => hb.rowFar (fun e2 => hne _ e e2.symm) cs
theorem Rs.mono {B1 : Nat} (h : Rs w B0 A n l) (hb : B1 ≤ B0) : Rs w B1 A n l := ⟨h.1, h.2.imp id fun ⟨g, e, hg, hb2⟩ => ⟨g, e, Nat.le_trans hb hg, hb2⟩⟩
end
theorem dexp_to (key info : List Nat) (z : Nat) (l : List Nat) (hl : ex key info z = l) (hz : z ≤ 8160) (A : Option Addr) (n c B : Nat) (A2 : Option Addr) (n2 c2 B2 : Nat) (hk : Byt key) (hi : Byt info) (hnc : n ≤ c) (hn : n < 1000) (hnc2 : n2 ≤ c2) (hn2 : n2 < 1000) (w : World) (hg : Glob w)
    (hr : Reads w B 1 A n (nv .u8 key)) (hB : B ≤ w.heap.size) (hr2 : Reads w B2 1 A2 n2 (nv .u8 info)) (hB2 : B2 ≤ w.heap.size) :
    Calls Tryd.prog 38 #[.slice A n c, .slice A2 n2 c2, .int .i64 (z : Int)] w fun e' w' => ∃ Ar, e' = .returned (.tuple #[.slice Ar z z, .int .i64 0]) ∧ Rs w' w.heap.size Ar z l ∧ Below w.heap.size w w' := by
  subst hl
  by_cases h0 : 0 < z
  · refine (dexp_ok key info z h0 hz A n c B A2 n2 c2 B2 hk hi hnc hn hnc2 hn2 w hg hr hB hr2 hB2).mono ?_
    rintro e w' ⟨g, rfl, hg, hgg, bx⟩
    exact ⟨_, rfl, ⟨ex_len _ _ _ hz, .inr ⟨g, rfl, hgg, hg⟩⟩, bx⟩
  · obtain rfl : z = 0 := by omega
    refine (dexp_none 0 0 (.inr (.inr ⟨rfl, rfl⟩)) (by omega) A n c A2 n2 c2 w).mono ?_
    rintro e w' ⟨rfl, bx⟩
    exact ⟨none, rfl, ⟨rfl, .inl ⟨rfl, rfl⟩⟩, bx⟩
theorem extract_to (key m t : List Nat) (ht : hm key m = t) (A : Option Addr) (n c B : Nat) (A2 : Option Addr) (n2 c2 B2 : Nat) (hk : Byt key) (hmb : Byt m) (hnc : n ≤ c) (hn : n < 1000) (hnc2 : n2 ≤ c2) (hn2 : n2 < 1000) (w : World) (hg : Glob w) (hr : Reads w B 1 A n (nv .u8 key)) (hB : B ≤ w.heap.size)
  (hr2 : Reads w B2 1 A2 n2 (nv .u8 m)) (hB2 : B2 ≤ w.heap.size) :
  Calls Tryd.prog 37 #[.slice A n c, .slice A2 n2 c2] w fun e w' => e = .returned (.agg (va .u8 t)) ∧ Below w.heap.size w w' := by
 subst ht; exact extract_any key m A n c B A2 n2 c2 B2 hk hmb hnc hn hnc2 hn2 w hg hr hB hr2 hB2

theorem bst_fold : ∀ (l : List Nat) (r : ByteArray), (l.map fun x : Nat => (x : Int)).foldl (fun r n => r.push (UInt8.ofNat n.toNat)) r = ⟨r.data ++ (l.map UInt8.ofNat).toArray⟩
 | [], r => by simp
 | x :: l, r => by
  simp only [List.map_cons, List.foldl_cons]
  rw [bst_fold l]
  simp [ByteArray.push]
theorem bst_data (l : List Nat) : (bst l).data = (l.map UInt8.ofNat).toArray := by
 unfold bst
 rw [bst_fold]
 simp
theorem bst_sizeD (l : List Nat) : (bst l).size = l.length := by
 show (bst l).data.size = _
 rw [bst_data]; simp
end Go.Proofs.YtcfddmplnoknlaaDoor
