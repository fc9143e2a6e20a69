/-
  The walks of caissonref03.Block, Sum. (Printed by mk03.py.)
-/
import Derived.Test.YtcfddmplnoknlaaDoorZ13
import Derived.Laws.IdiomStrings
namespace Go.Proofs.YtcfddmplnoknlaaDoor
set_option maxRecDepth 16384
open Go.RowKit Sh

set_option maxRecDepth 8000 in
set_option maxHeartbeats 2000000 in
theorem rblock_any (key : List Nat) (A : Option Addr) (n c B : Nat) (hk : Byt key) (hn : n < 100000) (w : World) (hr : Reads w B 1 A n (nv .u8 key)) (hB : B ≤ w.heap.size) :
    Calls Tryd.prog 56 #[.slice A n c] w fun e w' => ∃ g c', e = .returned (.slice (some ⟨g, 0, none⟩) 64 c') ∧ ByB w' g (kb key) ∧ 64 ≤ c' ∧ w.heap.size ≤ g ∧ Below w.heap.size w w' := by
  have hln := hr.len
  obtain ⟨B0, hB0e⟩ : ∃ b, w.heap.size = b := ⟨_, rfl⟩
  rw [hB0e]
  have hW : Below B0 w w := by rw [← hB0e]; exact Below.refl _ _
  have hB0 : B0 ≤ w.heap.size := by omega
  have hBB : B ≤ B0 := by omega
  have rd := reads_of hr hBB
  clear hr hB
  have hB0q := Lib.hid hB0e
  clear hB0e
  obtain ⟨L, hL⟩ : ∃ L, (kc key).length = L := ⟨_, rfl⟩
  have hLle := kc_le key
  rw [hL] at hLle
  by_cases h64 : 64 < n
  ·
    have h64I : (64 : Int) < (n : Int) := by omega
    have hkc : kc key = sha key := by unfold kc; rw [if_pos (by omega)]
    have hLv : L = 32 := by rw [← hL, hkc]; exact sha_len' _
    have hkcq := Lib.hid hkc
    clear hkc
    go_enter Tryd.func56, Tryd.ntmps56
    go_upto_region 0 with fail
    refine wl_lit ?_
    refine runL 2 (.slice none 0 0) rfl (by rfl) (by go_simp) ?_
    simp only [ls0, ls1]
    refine nilL ?_
    go_upto_region 1 with fail
    refine wl_lit ?_
    refine runWL 5 (.slice (some ⟨w.heap.size, 0, none⟩) 0 0) (w.alloc (.cells (va .u8 ([])) 5)) rfl (by rfl) (exec_bslice 34 0 _ rfl _ (by exact bs_0 _)) ?_
    simp only [ls0, ls1]
    have lw_q1 := Nat.le_trans hB0 hW.size
    have hq1 : Blk (w.alloc (.cells (va .u8 ([])) 5)) w.heap.size 5 (va .u8 ([])) := Blk.new _ _ _
    replace hW := hW.alloc (Nat.le_trans hB0 hW.size) (.cells (va .u8 ([])) 5)
    generalize w.alloc (.cells (va .u8 ([])) 5) = w1 at *
    generalize w.heap.size = q1 at hq1 lw_q1  ⊢
    refine runL 6 (.slice (A) n c) rfl (by rfl) (by go_simp) ?_
    simp only [ls0, ls1]
    have hoq1 : Own w1 B0 (some ⟨q1, 0, none⟩) 0 0 ([]) := hq1.owned (rfl) lw_q1 (by unfold maxLen; omega)
    clear hq1
    obtain ⟨A1, cA1, w2, hap, hA1, hcA1, hgr, hof⟩ := own_append hoq1 (A) n c _ (key) (rd.out _ hW) (Nat.le_trans hB0 hW.size) (key) (by simp) (n) (by omega) (by omega) 34
    refine runWL 7 (.slice A1 (n) cA1) w2 rfl (by rfl) (exec_append _ _ _ _ rfl _ _ _ rfl rfl hap) ?_
    simp only [ls0, ls1]
    replace hW := Own.belowG hW (Nat.le_trans hB0 hW.size) hoq1.from_ hgr
    clear hoq1 hgr hof hap
    refine runL 3 (.slice (A1) (n) cA1) rfl (by rfl) (by go_simp) ?_
    simp only [ls0, ls1]
    refine nilL ?_
    go_upto_region 2 with fail
    refine wl_lit ?_
    refine runL 8 (.slice (A) n c) rfl (by rfl) (by go_simp) ?_
    simp only [ls0, ls1]
    refine runL 9 (.int .i64 (n)) rfl (by rfl) (by go_simp) ?_
    simp only [ls0, ls1]
    refine runL 10 (.bool true) rfl (by rfl) (by go_simp) ?_
    simp only [ls0, ls1]
    refine nilL ?_
    go_upto_region 3 with fail
    refine wl_lit ?_
    refine runL 11 (.slice (A) n c) rfl (by rfl) (by go_simp) ?_
    simp only [ls0, ls1]
    refine callL 12 rfl (by rfl) (fun K hK => wp_callF 57 #[.slice (A) n c] (by go_simp) (rsum_any key A n c B hk (by omega) _ (rd.out _ hW) (Nat.le_trans hBB (Nat.le_trans hB0 hW.size))) ?_)
    rintro e w3 ⟨rfl, bx⟩
    replace hA1 := hA1.below bx
    replace hW := hW.trans (bx.mono (Nat.le_trans hB0 hW.size))
    clear bx
    refine ⟨_, rfl, hK.out _ _ ?_⟩
    clear hK K
    simp only [ls0, ls1]
    refine runWL 4 (.pointer (some ⟨w3.heap.size, 0, none⟩)) (w3.alloc (.cells (va .u8 (List.replicate 32 0)) 45)) rfl (by rfl) (exec_allocV 45 rfl _ (zv_api_Digest _)) ?_
    simp only [ls0, ls1]
    have nA1_p4 := hA1.new_off
    have lw_p4 := Nat.le_trans hB0 hW.size
    have hp4 : Blk (w3.alloc (.cells (va .u8 (List.replicate 32 0)) 45)) w3.heap.size 45 (va .u8 (List.replicate 32 0)) := Blk.new _ _ _
    replace hA1 := hA1.alloc (.cells (va .u8 (List.replicate 32 0)) 45)
    replace hW := hW.alloc (Nat.le_trans hB0 hW.size) (.cells (va .u8 (List.replicate 32 0)) 45)
    generalize w3.alloc (.cells (va .u8 (List.replicate 32 0)) 45) = w4 at *
    generalize w3.heap.size = p4 at hp4 lw_p4 nA1_p4 ⊢
    refine runSL (w4.setRow p4 (va .u8 (sha key))) rfl (by rfl) (exec_storeRow 45 (.tmp 4) (.tmp 12) rfl p4 rfl (va .u8 (sha key)) rfl 45 (va .u8 (List.replicate 32 0)) hp4 (sz_eq (sz_api_Digest _ (List.length_replicate)) (sz_api_Digest _ (sha_len' _))) (sz_api_Digest _ (sha_len' _)) (va_ones .u8 _)) ?_
    replace hA1 := hA1.rowFar nA1_p4 (va .u8 (sha key))
    replace hp4 := hp4.row (va .u8 (sha key))
    replace hW := below_setRow hW lw_p4 (va .u8 (sha key))
    generalize w4.setRow p4 (va .u8 (sha key)) = w5 at *
    refine nilL ?_
    clear hA1
    go_upto_region 4 with fail
    refine wl_lit ?_
    refine runWL 13 (.slice (some ⟨w5.heap.size, 0, none⟩) 0 0) (w5.alloc (.cells (va .u8 ([])) 5)) rfl (by rfl) (exec_bslice 34 0 _ rfl _ (by exact bs_0 _)) ?_
    simp only [ls0, ls1]
    have lp4_q2 := hp4.lt
    have lw_q2 := Nat.le_trans hB0 hW.size
    have hq2 : Blk (w5.alloc (.cells (va .u8 ([])) 5)) w5.heap.size 5 (va .u8 ([])) := Blk.new _ _ _
    replace hp4 := hp4.alloc (.cells (va .u8 ([])) 5)
    replace hW := hW.alloc (Nat.le_trans hB0 hW.size) (.cells (va .u8 ([])) 5)
    generalize w5.alloc (.cells (va .u8 ([])) 5) = w6 at *
    generalize w5.heap.size = q2 at hq2 lw_q2 lp4_q2 ⊢
    refine runL 14 (.slice (some ⟨p4, 0, none⟩) 32 32) rfl (by rfl) (by go_simp) ?_
    simp only [ls0, ls1]
    have hoq2 : Own w6 B0 (some ⟨q2, 0, none⟩) 0 0 ([]) := hq2.owned (rfl) lw_q2 (by unfold maxLen; omega)
    have noq2_p4 : Off (some ⟨q2, 0, none⟩) p4 := fun a ha => by cases ha; simp; omega
    clear hq2
    obtain ⟨A1, cA1, w7, hap, hA1, hcA1, hgr, hof⟩ := own_append hoq2 (some ⟨p4, 0, none⟩) 32 32 _ (sha key) (hp4.readsAll (Nat.lt_succ_self _) (sha_len' _)) (Nat.le_trans hB0 hW.size) (sha key) (by simp) (32) (by omega) (by omega) 34
    refine runWL 15 (.slice A1 32 cA1) w7 rfl (by rfl) (exec_append _ _ _ _ rfl _ _ _ rfl rfl hap) ?_
    simp only [ls0, ls1]
    have nA1_p4 := hof p4 noq2_p4 hp4.lt
    replace hp4 := hp4.grown hgr (noq2_p4.ob _ _)
    replace hW := Own.belowG hW (Nat.le_trans hB0 hW.size) hoq2.from_ hgr
    clear hoq2 hgr hof hap
    refine runL 3 (.slice (A1) 32 cA1) rfl (by rfl) (by go_simp) ?_
    simp only [ls0, ls1]
    refine nilL ?_
    clear hp4
    have hz : kc key ++ List.replicate 0 0 = sha key := by rw [hkcq.out]; simp
    rw [← hz] at hA1
    clear hz
    go_wp2
    go_loopw [3] (fun v wr => ∃ (k N : Nat) (A : Option Addr) (c : Nat), v = .slice A N c ∧ N = L + k ∧ k ≤ 64 - L ∧ Own wr B0 A N c (kc key ++ List.replicate k 0) ∧ Below B0 w wr) (fun v _ => 64 - slen v)
    case atStart => exact ⟨0, 32, A1, cA1, rfl, by omega, by omega, hA1, hW⟩
    case round =>
      clear hA1 hW
      obtain ⟨k, N, A3, cA3, rfl, hN, hk2, hA3, hW⟩ := hrel
      by_cases hlt : k < 64 - L
      ·
        have hltI : (N : Int) < 64 := by omega
        go_upto_region 6 with fail
        refine wl_lit ?_
        refine runL 19 (.slice (A3) N cA3) rfl (by rfl) (by go_simp) ?_
        simp only [ls0, ls1]
        refine runWL 20 (.slice (some ⟨wr.heap.size, 0, none⟩) 1 1) (wr.alloc (.cells (va .u8 [0]) 5)) rfl (by rfl) (exec_bslice 34 1 _ rfl _ (by exact bs_b1 0 _)) ?_
        simp only [ls0, ls1]
        have nA3_q3 := hA3.new_off
        have lw_q3 := Nat.le_trans hB0 hW.size
        have hq3 : Blk (wr.alloc (.cells (va .u8 [0]) 5)) wr.heap.size 5 (va .u8 [0]) := Blk.new _ _ _
        replace hA3 := hA3.alloc (.cells (va .u8 [0]) 5)
        replace hW := hW.alloc (Nat.le_trans hB0 hW.size) (.cells (va .u8 [0]) 5)
        generalize wr.alloc (.cells (va .u8 [0]) 5) = w8 at *
        generalize wr.heap.size = q3 at hq3 lw_q3 nA3_q3 ⊢
        obtain ⟨A4, cA4, w9, hap, hA4, hcA4, hgr, hof⟩ := own_append hA3 (some ⟨q3, 0, none⟩) 1 1 _ ([0]) (hq3.readsAll (Nat.lt_succ_self _) (rfl)) (Nat.le_trans hB0 hW.size) (kc key ++ List.replicate (k + 1) 0) (by rw [List.append_assoc, ← List.replicate_succ']) (N + 1) (by omega) (by omega) 34
        refine runWL 21 (.slice A4 (N + 1) cA4) w9 rfl (by rfl) (exec_append _ _ _ _ rfl _ _ _ rfl rfl hap) ?_
        simp only [ls0, ls1]
        have nA4_q3 := hof q3 nA3_q3 hq3.lt
        replace hq3 := hq3.grown hgr (nA3_q3.ob _ _)
        replace hW := Own.belowG hW (Nat.le_trans hB0 hW.size) hA3.from_ hgr
        clear hA3 hgr hof hap
        refine runL 3 (.slice (A4) (N + 1) cA4) rfl (by rfl) (by go_simp) ?_
        simp only [ls0, ls1]
        refine nilL ?_
        go_wp2
        go_roundw
        case rel => exact ⟨k + 1, N + 1, A4, cA4, rfl, by omega, by omega, hA4, hW⟩
        case measure => simp [slen]; omega
      ·
        obtain rfl : N = 64 := by omega
        have hkL : k = 64 - L := by omega
        have hfin : kc key ++ List.replicate k 0 = kb key := by unfold kb; rw [hL, hkL]
        rw [hfin] at hA3
        rcases hA3.form with ⟨_, h0, _⟩ | ⟨ga, rfl, hga, hgl⟩
        · omega
        have hcap := hA3.cap
        have hby := Lib.hid hA3.byB
        clear hA3 hN hkL hfin hL hLv hk2 hlt
        go_upto_region 7 with fail
        refine wl_lit ?_
        refine runL 22 (.slice (some ⟨ga, 0, none⟩) 64 cA3) rfl (by rfl) (by go_simp) ?_
        simp only [ls0, ls1]
        refine runL 2 (.slice (some ⟨ga, 0, none⟩) 64 cA3) rfl (by rfl) (by go_simp) ?_
        simp only [ls0, ls1]
        refine nilL ?_
        go_wp2_with fail
        go_ret
        exact ⟨ga, cA3, rfl, hby.out, hcap, hga, hW⟩
  ·
    have h64I : ¬ (64 : Int) < (n : Int) := by omega
    have hkc : kc key = key := by unfold kc; rw [if_neg (by omega)]
    have hLv : L = n := by rw [← hL, hkc]; exact hln
    have hkcq := Lib.hid hkc
    clear hkc
    go_enter Tryd.func56, Tryd.ntmps56
    go_upto_region 0 with fail
    refine wl_lit ?_
    refine runL 2 (.slice none 0 0) rfl (by rfl) (by go_simp) ?_
    simp only [ls0, ls1]
    refine nilL ?_
    go_upto_region 1 with fail
    refine wl_lit ?_
    refine runWL 5 (.slice (some ⟨w.heap.size, 0, none⟩) 0 0) (w.alloc (.cells (va .u8 ([])) 5)) rfl (by rfl) (exec_bslice 34 0 _ rfl _ (by exact bs_0 _)) ?_
    simp only [ls0, ls1]
    have lw_q1 := Nat.le_trans hB0 hW.size
    have hq1 : Blk (w.alloc (.cells (va .u8 ([])) 5)) w.heap.size 5 (va .u8 ([])) := Blk.new _ _ _
    replace hW := hW.alloc (Nat.le_trans hB0 hW.size) (.cells (va .u8 ([])) 5)
    generalize w.alloc (.cells (va .u8 ([])) 5) = w10 at *
    generalize w.heap.size = q1 at hq1 lw_q1  ⊢
    refine runL 6 (.slice (A) n c) rfl (by rfl) (by go_simp) ?_
    simp only [ls0, ls1]
    have hoq1 : Own w10 B0 (some ⟨q1, 0, none⟩) 0 0 ([]) := hq1.owned (rfl) lw_q1 (by unfold maxLen; omega)
    clear hq1
    obtain ⟨A1, cA1, w11, hap, hA1, hcA1, hgr, hof⟩ := own_append hoq1 (A) n c _ (key) (rd.out _ hW) (Nat.le_trans hB0 hW.size) (key) (by simp) (n) (by omega) (by omega) 34
    refine runWL 7 (.slice A1 (n) cA1) w11 rfl (by rfl) (exec_append _ _ _ _ rfl _ _ _ rfl rfl hap) ?_
    simp only [ls0, ls1]
    replace hW := Own.belowG hW (Nat.le_trans hB0 hW.size) hoq1.from_ hgr
    clear hoq1 hgr hof hap
    refine runL 3 (.slice (A1) (n) cA1) rfl (by rfl) (by go_simp) ?_
    simp only [ls0, ls1]
    refine nilL ?_
    go_upto_region 2 with fail
    refine wl_lit ?_
    refine runL 8 (.slice (A) n c) rfl (by rfl) (by go_simp) ?_
    simp only [ls0, ls1]
    refine runL 9 (.int .i64 (n)) rfl (by rfl) (by go_simp) ?_
    simp only [ls0, ls1]
    refine runL 10 (.bool false) rfl (by rfl) (by go_simp) ?_
    simp only [ls0, ls1]
    refine nilL ?_
    have hz : kc key ++ List.replicate 0 0 = key := by rw [hkcq.out]; simp
    rw [← hz] at hA1
    clear hz
    go_wp2
    go_loopw [3] (fun v wr => ∃ (k N : Nat) (A : Option Addr) (c : Nat), v = .slice A N c ∧ N = L + k ∧ k ≤ 64 - L ∧ Own wr B0 A N c (kc key ++ List.replicate k 0) ∧ Below B0 w wr) (fun v _ => 64 - slen v)
    case atStart => exact ⟨0, n, A1, cA1, rfl, by omega, by omega, hA1, hW⟩
    case round =>
      clear hA1 hW
      obtain ⟨k, N, A3, cA3, rfl, hN, hk2, hA3, hW⟩ := hrel
      by_cases hlt : k < 64 - L
      ·
        have hltI : (N : Int) < 64 := by omega
        go_upto_region 6 with fail
        refine wl_lit ?_
        refine runL 19 (.slice (A3) N cA3) rfl (by rfl) (by go_simp) ?_
        simp only [ls0, ls1]
        refine runWL 20 (.slice (some ⟨wr.heap.size, 0, none⟩) 1 1) (wr.alloc (.cells (va .u8 [0]) 5)) rfl (by rfl) (exec_bslice 34 1 _ rfl _ (by exact bs_b1 0 _)) ?_
        simp only [ls0, ls1]
        have nA3_q2 := hA3.new_off
        have lw_q2 := Nat.le_trans hB0 hW.size
        have hq2 : Blk (wr.alloc (.cells (va .u8 [0]) 5)) wr.heap.size 5 (va .u8 [0]) := Blk.new _ _ _
        replace hA3 := hA3.alloc (.cells (va .u8 [0]) 5)
        replace hW := hW.alloc (Nat.le_trans hB0 hW.size) (.cells (va .u8 [0]) 5)
        generalize wr.alloc (.cells (va .u8 [0]) 5) = w12 at *
        generalize wr.heap.size = q2 at hq2 lw_q2 nA3_q2 ⊢
        obtain ⟨A4, cA4, w13, hap, hA4, hcA4, hgr, hof⟩ := own_append hA3 (some ⟨q2, 0, none⟩) 1 1 _ ([0]) (hq2.readsAll (Nat.lt_succ_self _) (rfl)) (Nat.le_trans hB0 hW.size) (kc key ++ List.replicate (k + 1) 0) (by rw [List.append_assoc, ← List.replicate_succ']) (N + 1) (by omega) (by omega) 34
        refine runWL 21 (.slice A4 (N + 1) cA4) w13 rfl (by rfl) (exec_append _ _ _ _ rfl _ _ _ rfl rfl hap) ?_
        simp only [ls0, ls1]
        have nA4_q2 := hof q2 nA3_q2 hq2.lt
        replace hq2 := hq2.grown hgr (nA3_q2.ob _ _)
        replace hW := Own.belowG hW (Nat.le_trans hB0 hW.size) hA3.from_ hgr
        clear hA3 hgr hof hap
        refine runL 3 (.slice (A4) (N + 1) cA4) rfl (by rfl) (by go_simp) ?_
        simp only [ls0, ls1]
        refine nilL ?_
        go_wp2
        go_roundw
        case rel => exact ⟨k + 1, N + 1, A4, cA4, rfl, by omega, by omega, hA4, hW⟩
        case measure => simp [slen]; omega
      ·
        obtain rfl : N = 64 := by omega
        have hkL : k = 64 - L := by omega
        have hfin : kc key ++ List.replicate k 0 = kb key := by unfold kb; rw [hL, hkL]
        rw [hfin] at hA3
        rcases hA3.form with ⟨_, h0, _⟩ | ⟨ga, rfl, hga, hgl⟩
        · omega
        have hcap := hA3.cap
        have hby := Lib.hid hA3.byB
        clear hA3 hN hkL hfin hL hLv hk2 hlt
        go_upto_region 7 with fail
        refine wl_lit ?_
        refine runL 22 (.slice (some ⟨ga, 0, none⟩) 64 cA3) rfl (by rfl) (by go_simp) ?_
        simp only [ls0, ls1]
        refine runL 2 (.slice (some ⟨ga, 0, none⟩) 64 cA3) rfl (by rfl) (by go_simp) ?_
        simp only [ls0, ls1]
        refine nilL ?_
        go_wp2_with fail
        go_ret
        exact ⟨ga, cA3, rfl, hby.out, hcap, hga, hW⟩

set_option maxRecDepth 8000 in
set_option maxHeartbeats 4000000 in
theorem rhm_any (key m : List Nat) (A : Option Addr) (n c B : Nat) (A2 : Option Addr) (n2 c2 B2 : Nat) (hk : Byt key) (hn : n < 100000) (hm0 : Byt m) (hn2 : n2 < 100000) (w : World) (hr : Reads w B 1 A n (nv .u8 key)) (hB : B ≤ w.heap.size)
  (hr2 : Reads w B2 1 A2 n2 (nv .u8 m)) (hB2 : B2 ≤ w.heap.size) :
  Calls Tryd.prog 35 #[.slice A n c, .slice A2 n2 c2] w fun e w' => e = .returned (.agg (va .u8 (hm key m))) ∧ Below w.heap.size w w' := by
 have hln2 := hr2.len
 obtain ⟨B0, hB0e⟩ : ∃ b, w.heap.size = b := ⟨_, rfl⟩
 rw [hB0e]
 have hW : Below B0 w w := by rw [← hB0e]; exact Below.refl _ _
 have hB0 : B0 ≤ w.heap.size := by omega
 have hBB : B ≤ B0 := by omega
 have hBB2 : B2 ≤ B0 := by omega
 have rd := reads_of hr hBB
 have rd2 := reads_of hr2 hBB2
 clear hr hB hr2 hB2
 have hB0q := Lib.hid hB0e
 clear hB0e
 go_enter Tryd.func35, Tryd.ntmps35
 go_upto_region 0 with fail
 refine wl_lit ?_
 refine runWL 4 (.pointer (some ⟨w.heap.size, 0, none⟩)) (w.alloc (.cells (va .u8 (List.replicate 32 0)) 45)) rfl (by rfl) (exec_allocV 45 rfl _ (zv_api_Digest _)) ?_
 simp only [ls0, ls1]
 have lw_p4 := Nat.le_trans hB0 hW.size
 have hp4 : Blk (w.alloc (.cells (va .u8 (List.replicate 32 0)) 45)) w.heap.size 45 (va .u8 (List.replicate 32 0)) := Blk.new _ _ _
 replace hW := hW.alloc (Nat.le_trans hB0 hW.size) (.cells (va .u8 (List.replicate 32 0)) 45)
 generalize w.alloc (.cells (va .u8 (List.replicate 32 0)) 45) = w1 at *
 generalize w.heap.size = p4 at hp4 lw_p4  ⊢
 refine nilL ?_
 go_upto_region 1 with fail
 refine wl_lit ?_
 refine runL 10 (.slice (A) n c) rfl (by rfl) (by go_simp) ?_
 simp only [ls0, ls1]
 refine callL 11 rfl (by rfl) (fun K hK => wp_callF 56 #[.slice (A) n c] (by go_simp) (rblock_any key A n c B hk hn _ (rd.out _ hW) (Nat.le_trans hBB (Nat.le_trans hB0 hW.size))) ?_)
 rintro e w2 ⟨g5, c5, rfl, hg5, hc5, hgg, bx⟩
 have lp4_g5 : p4 < g5 := Nat.lt_of_lt_of_le hp4.lt hgg
 have lw_g5 : B0 ≤ g5 := Nat.le_trans (Nat.le_trans hB0 hW.size) hgg
 replace hp4 := hp4.below bx hp4.lt
 replace hW := hW.trans (bx.mono (Nat.le_trans hB0 hW.size))
 clear hgg
 clear bx
 refine ⟨_, rfl, hK.out _ _ ?_⟩
 clear hK K
 simp only [ls0, ls1]
 refine runL 5 (.slice (some ⟨g5, 0, none⟩) 64 c5) rfl (by rfl) (by go_simp) ?_
 simp only [ls0, ls1]
 refine nilL ?_
 go_upto_region 2 with fail
 refine wl_lit ?_
 refine runL 6 (.slice none 0 0) rfl (by rfl) (by go_simp) ?_
 simp only [ls0, ls1]
 refine runL 7 (.slice none 0 0) rfl (by rfl) (by go_simp) ?_
 simp only [ls0, ls1]
 refine nilL ?_
 have hI0 : Own w2 B0 none 0 0 [] := Own.nil _ _
 have nI0_p4 : Off none p4 := Off.nil _
 have nI0_g5 : Off none g5 := Off.nil _
 have hO0 : Own w2 B0 none 0 0 [] := Own.nil _ _
 have nO0_p4 : Off none p4 := Off.nil _
 have nO0_g5 : Off none g5 := Off.nil _
 have sI0_O0 : ∀ a : Addr, (none) = some a → Off none a.block := fun a _ => Off.nil _
 have sO0_I0 : ∀ a : Addr, (none : Option Addr) = some a → Off (none) a.block := fun a ha => by cases ha
 go_wp2
 go_loopw [6, 7, 8] (fun u v s wr => ∃ (i : Nat) (AI AO : Option Addr) (cI cO : Nat), i ≤ 64 ∧ s = .int .i64 (i : Int) ∧ u = .slice AI i cI ∧ v = .slice AO i cO ∧ Own wr B0 AI i cI ((kx key 54).take i) ∧ Own wr B0 AO i cO ((kx key 92).take i) ∧ (∀ a, AI = some a → Off AO a.block) ∧ (∀ a, AO = some a → Off AI a.block) ∧ Off AI p4 ∧ Off AO p4 ∧ Off AI g5 ∧ Off AO g5 ∧ Blk wr p4 45 (va .u8 (List.replicate 32 0)) ∧ ByB wr g5 (kb key) ∧ Below B0 w wr) (fun _ _ s _ => 64 - (intOf s).toNat)
 case atStart => exact ⟨0, none, none, 0, 0, by omega, rfl, rfl, rfl, hI0, hO0, (fun _ h => by cases h), (fun _ h => by cases h), Off.nil _, Off.nil _, Off.nil _, Off.nil _, hp4, hg5, hW⟩
 case round =>
  clear hI0 hO0 hp4 hg5 hW nI0_p4 nI0_g5 sI0_O0 sO0_I0 nO0_p4 nO0_g5
  obtain ⟨i, AI, AO, cI, cO, hi, rfl, rfl, rfl, hAI, hAO, sAI_AO, sAO_AI, nAI_p4, nAO_p4, nAI_g5, nAO_g5, hp4, hg5, hW⟩ := hrel
  by_cases hlt : i < 64
  ·
   have hltI : (i : Int) < 64 := by omega
   have hy := (kb_byt key hk).get i
   obtain ⟨y, hye⟩ : ∃ y, (kb key).getD i 0 = y := ⟨_, rfl⟩
   rw [hye] at hy
   have hyq := Lib.hid hye
   have hx1 : bits BinOp.xor IntKind.u8 (y : Int) 54 = ((y ^^^ 54 : Nat) : Int) := u8_xor_nat y 54 hy (by omega)
   have hx2 : bits BinOp.xor IntKind.u8 (y : Int) 92 = ((y ^^^ 92 : Nat) : Int) := u8_xor_nat y 92 hy (by omega)
   have ht1 : (kx key 54).take i ++ [y ^^^ 54] = (kx key 54).take (i + 1) := by rw [take_succ_getD _ _ (by rw [kx_len]; exact hlt), kx_get _ _ _ hlt, hye]
   have ht2 : (kx key 92).take i ++ [y ^^^ 92] = (kx key 92).take (i + 1) := by rw [take_succ_getD _ _ (by rw [kx_len]; exact hlt), kx_get _ _ _ hlt, hye]
   have ht1q := Lib.hid ht1
   have ht2q := Lib.hid ht2
   clear hye ht1 ht2
   go_upto_region 6 with fail
   refine wl_lit ?_
   refine runL 16 (.slice (AI) i cI) rfl (by rfl) (by go_simp) ?_
   simp only [ls0, ls1]
   refine runL 17 (.slice (some ⟨g5, 0, none⟩) 64 c5) rfl (by rfl) (by go_simp) ?_
   simp only [ls0, ls1]
   refine runL 18 (.int .i64 (i : Int)) rfl (by rfl) (by go_simp) ?_
   simp only [ls0, ls1]
   refine runL 19 (.pointer (some ⟨g5, i, none⟩)) rfl (by rfl) (by go_simp) ?_
   simp only [ls0, ls1]
   refine runL 20 (.int .u8 ((y : Nat) : Int)) rfl (by rfl) (exec_cell 5 (.tmp 19) rfl g5 i rfl (.int .u8 ((y : Nat) : Int)) _ Tryd.underlying5 rfl (by rw [← hyq.out]; exact hg5.num (by rw [kb_len]; exact hlt))) ?_
   simp only [ls0, ls1]
   refine runL 21 (.int .u8 ((y ^^^ 54 : Nat) : Int)) rfl (by rfl) (by go_simp) ?_
   simp only [ls0, ls1]
   refine runWL 22 (.slice (some ⟨wr.heap.size, 0, none⟩) 1 1) (wr.alloc (.cells (va .u8 [(y ^^^ 54)]) 5)) rfl (by rfl) (exec_bslice 34 1 _ rfl _ (by exact bs_b1 (y ^^^ 54) _)) ?_
   simp only [ls0, ls1]
   have lp4_q1 := hp4.lt
   have lg5_q1 := hg5.lt
   have nAI_q1 := hAI.new_off
   have nAO_q1 := hAO.new_off
   have lw_q1 := Nat.le_trans hB0 hW.size
   have hq1 : Blk (wr.alloc (.cells (va .u8 [(y ^^^ 54)]) 5)) wr.heap.size 5 (va .u8 [(y ^^^ 54)]) := Blk.new _ _ _
   replace hp4 := hp4.alloc (.cells (va .u8 [(y ^^^ 54)]) 5)
   replace hg5 := hg5.alloc (.cells (va .u8 [(y ^^^ 54)]) 5)
   replace hAI := hAI.alloc (.cells (va .u8 [(y ^^^ 54)]) 5)
   replace hAO := hAO.alloc (.cells (va .u8 [(y ^^^ 54)]) 5)
   replace hW := hW.alloc (Nat.le_trans hB0 hW.size) (.cells (va .u8 [(y ^^^ 54)]) 5)
   generalize wr.alloc (.cells (va .u8 [(y ^^^ 54)]) 5) = w3 at *
   generalize wr.heap.size = q1 at hq1 lw_q1 lp4_q1 lg5_q1 nAI_q1 nAO_q1 ⊢
   obtain ⟨AJ, cAJ, w4, hap, hAJ, hcAJ, hgr, hof⟩ := own_append hAI (some ⟨q1, 0, none⟩) 1 1 _ ([(y ^^^ 54)]) (hq1.readsAll (Nat.lt_succ_self _) (rfl)) (Nat.le_trans hB0 hW.size) ((kx key 54).take (i + 1)) ht1q.out (i + 1) (by omega) (by omega) 34
   refine runWL 23 (.slice AJ (i + 1) cAJ) w4 rfl (by rfl) (exec_append _ _ _ _ rfl _ _ _ rfl rfl hap) ?_
   simp only [ls0, ls1]
   have nAJ_p4 := hof p4 nAI_p4 hp4.lt
   replace hp4 := hp4.grown hgr (nAI_p4.ob _ _)
   have nAJ_g5 := hof g5 nAI_g5 hg5.lt
   replace hg5 := hg5.grown hgr (nAI_g5.ob _ _)
   have sAO_AJ : ∀ a : Addr, (AO) = some a → Off AJ a.block := fun a ha => hof a.block (sAO_AI a ha) (hAO.lt ha).2
   replace hAO := hAO.grown hgr sAO_AI
   have sAJ_AO := Own.new_sep hAO hAJ sAO_AJ
   have nAJ_q1 := hof q1 nAI_q1 hq1.lt
   replace hq1 := hq1.grown hgr (nAI_q1.ob _ _)
   replace hW := Own.belowG hW (Nat.le_trans hB0 hW.size) hAI.from_ hgr
   clear hAI hgr hof hap
   refine runL 6 (.slice (AJ) (i + 1) cAJ) rfl (by rfl) (by go_simp) ?_
   simp only [ls0, ls1]
   refine nilL ?_
   clear hq1
   go_upto_region 7 with fail
   refine wl_lit ?_
   refine runL 24 (.slice (AO) i cO) rfl (by rfl) (by go_simp) ?_
   simp only [ls0, ls1]
   refine runL 25 (.slice (some ⟨g5, 0, none⟩) 64 c5) rfl (by rfl) (by go_simp) ?_
   simp only [ls0, ls1]
   refine runL 26 (.int .i64 (i : Int)) rfl (by rfl) (by go_simp) ?_
   simp only [ls0, ls1]
   refine runL 27 (.pointer (some ⟨g5, i, none⟩)) rfl (by rfl) (by go_simp) ?_
   simp only [ls0, ls1]
   refine runL 28 (.int .u8 ((y : Nat) : Int)) rfl (by rfl) (exec_cell 5 (.tmp 27) rfl g5 i rfl (.int .u8 ((y : Nat) : Int)) _ Tryd.underlying5 rfl (by rw [← hyq.out]; exact hg5.num (by rw [kb_len]; exact hlt))) ?_
   simp only [ls0, ls1]
   refine runL 29 (.int .u8 ((y ^^^ 92 : Nat) : Int)) rfl (by rfl) (by go_simp) ?_
   simp only [ls0, ls1]
   refine runWL 30 (.slice (some ⟨w4.heap.size, 0, none⟩) 1 1) (w4.alloc (.cells (va .u8 [(y ^^^ 92)]) 5)) rfl (by rfl) (exec_bslice 34 1 _ rfl _ (by exact bs_b1 (y ^^^ 92) _)) ?_
   simp only [ls0, ls1]
   have lp4_q2 := hp4.lt
   have lg5_q2 := hg5.lt
   have nAO_q2 := hAO.new_off
   have nAJ_q2 := hAJ.new_off
   have lw_q2 := Nat.le_trans hB0 hW.size
   have hq2 : Blk (w4.alloc (.cells (va .u8 [(y ^^^ 92)]) 5)) w4.heap.size 5 (va .u8 [(y ^^^ 92)]) := Blk.new _ _ _
   replace hp4 := hp4.alloc (.cells (va .u8 [(y ^^^ 92)]) 5)
   replace hg5 := hg5.alloc (.cells (va .u8 [(y ^^^ 92)]) 5)
   replace hAO := hAO.alloc (.cells (va .u8 [(y ^^^ 92)]) 5)
   replace hAJ := hAJ.alloc (.cells (va .u8 [(y ^^^ 92)]) 5)
   replace hW := hW.alloc (Nat.le_trans hB0 hW.size) (.cells (va .u8 [(y ^^^ 92)]) 5)
   generalize w4.alloc (.cells (va .u8 [(y ^^^ 92)]) 5) = w5 at *
   generalize w4.heap.size = q2 at hq2 lw_q2 lp4_q2 lg5_q2 nAO_q2 nAJ_q2 ⊢
   obtain ⟨AP, cAP, w6, hap, hAP, hcAP, hgr, hof⟩ := own_append hAO (some ⟨q2, 0, none⟩) 1 1 _ ([(y ^^^ 92)]) (hq2.readsAll (Nat.lt_succ_self _) (rfl)) (Nat.le_trans hB0 hW.size) ((kx key 92).take (i + 1)) ht2q.out (i + 1) (by omega) (by omega) 34
   refine runWL 31 (.slice AP (i + 1) cAP) w6 rfl (by rfl) (exec_append _ _ _ _ rfl _ _ _ rfl rfl hap) ?_
   simp only [ls0, ls1]
   have nAP_p4 := hof p4 nAO_p4 hp4.lt
   replace hp4 := hp4.grown hgr (nAO_p4.ob _ _)
   have nAP_g5 := hof g5 nAO_g5 hg5.lt
   replace hg5 := hg5.grown hgr (nAO_g5.ob _ _)
   have sAJ_AP : ∀ a : Addr, (AJ) = some a → Off AP a.block := fun a ha => hof a.block (sAJ_AO a ha) (hAJ.lt ha).2
   replace hAJ := hAJ.grown hgr sAJ_AO
   have sAP_AJ := Own.new_sep hAJ hAP sAJ_AP
   have nAP_q2 := hof q2 nAO_q2 hq2.lt
   replace hq2 := hq2.grown hgr (nAO_q2.ob _ _)
   replace hW := Own.belowG hW (Nat.le_trans hB0 hW.size) hAO.from_ hgr
   clear hAO hgr hof hap
   refine runL 7 (.slice (AP) (i + 1) cAP) rfl (by rfl) (by go_simp) ?_
   simp only [ls0, ls1]
   refine nilL ?_
   go_wp2
   go_roundw
   case rel => exact ⟨i + 1, AJ, AP, cAJ, cAP, by omega, by go_num, rfl, rfl, hAJ, hAP, sAJ_AP, sAP_AJ, nAJ_p4, nAP_p4, nAJ_g5, nAP_g5, hp4, hg5, hW⟩
   case measure => simp [intOf]; omega
  ·
   obtain rfl : i = 64 := by omega
   rw [List.take_of_length_le (by rw [kx_len]; omega)] at hAI hAO
   clear hg5
   go_upto_region 8 with fail
   refine wl_lit ?_
   refine runL 32 (.slice (AI) 64 cI) rfl (by rfl) (by go_simp) ?_
   simp only [ls0, ls1]
   refine runL 33 (.slice (A2) n2 c2) rfl (by rfl) (by go_simp) ?_
   simp only [ls0, ls1]
   obtain ⟨AJ, cAJ, w7, hap, hAJ, hcAJ, hgr, hof⟩ := own_append hAI (A2) n2 c2 _ (m) (rd2.out _ hW) (Nat.le_trans hB0 hW.size) (kx key 54 ++ m) rfl (64 + n2) (by omega) (by omega) 34
   refine runWL 34 (.slice AJ (64 + n2) cAJ) w7 rfl (by rfl) (exec_append _ _ _ _ rfl _ _ _ rfl rfl hap) ?_
   simp only [ls0, ls1]
   have nAJ_p4 := hof p4 nAI_p4 hp4.lt
   replace hp4 := hp4.grown hgr (nAI_p4.ob _ _)
   have sAO_AJ : ∀ a : Addr, (AO) = some a → Off AJ a.block := fun a ha => hof a.block (sAO_AI a ha) (hAO.lt ha).2
   replace hAO := hAO.grown hgr sAO_AI
   have sAJ_AO := Own.new_sep hAO hAJ sAO_AJ
   replace hW := Own.belowG hW (Nat.le_trans hB0 hW.size) hAI.from_ hgr
   clear hAI hgr hof hap
   refine callL 35 rfl (by rfl) (fun K hK => wp_callF 57 #[.slice (AJ) (64 + n2) cAJ] (by go_simp) (rsum_any (kx key 54 ++ m) AJ (64 + n2) cAJ _ ((kx_byt _ _ hk (by omega)).app hm0) (by omega) _ hAJ.reads (Nat.le_refl _)) ?_)
   rintro e w8 ⟨rfl, bx⟩
   replace hp4 := hp4.below bx hp4.lt
   replace hAO := hAO.below bx
   replace hAJ := hAJ.below bx
   replace hW := hW.trans (bx.mono (Nat.le_trans hB0 hW.size))
   clear bx
   refine ⟨_, rfl, hK.out _ _ ?_⟩
   clear hK K
   simp only [ls0, ls1]
   refine runWL 9 (.pointer (some ⟨w8.heap.size, 0, none⟩)) (w8.alloc (.cells (va .u8 (List.replicate 32 0)) 45)) rfl (by rfl) (exec_allocV 45 rfl _ (zv_api_Digest _)) ?_
   simp only [ls0, ls1]
   have lp4_p9 := hp4.lt
   have nAO_p9 := hAO.new_off
   have nAJ_p9 := hAJ.new_off
   have lw_p9 := Nat.le_trans hB0 hW.size
   have hp9 : Blk (w8.alloc (.cells (va .u8 (List.replicate 32 0)) 45)) w8.heap.size 45 (va .u8 (List.replicate 32 0)) := Blk.new _ _ _
   replace hp4 := hp4.alloc (.cells (va .u8 (List.replicate 32 0)) 45)
   replace hAO := hAO.alloc (.cells (va .u8 (List.replicate 32 0)) 45)
   replace hAJ := hAJ.alloc (.cells (va .u8 (List.replicate 32 0)) 45)
   replace hW := hW.alloc (Nat.le_trans hB0 hW.size) (.cells (va .u8 (List.replicate 32 0)) 45)
   generalize w8.alloc (.cells (va .u8 (List.replicate 32 0)) 45) = w9 at *
   generalize w8.heap.size = p9 at hp9 lw_p9 lp4_p9 nAO_p9 nAJ_p9 ⊢
   refine runSL (w9.setRow p9 (va .u8 (sha (kx key 54 ++ m)))) rfl (by rfl) (exec_storeRow 45 (.tmp 9) (.tmp 35) rfl p9 rfl (va .u8 (sha (kx key 54 ++ m))) rfl 45 (va .u8 (List.replicate 32 0)) hp9 (sz_eq (sz_api_Digest _ (List.length_replicate)) (sz_api_Digest _ (sha_len' _))) (sz_api_Digest _ (sha_len' _)) (va_ones .u8 _)) ?_
   replace hp4 := hp4.rowFar (show p9 ≠ p4 from (by omega)) (va .u8 (sha (kx key 54 ++ m)))
   replace hAO := hAO.rowFar nAO_p9 (va .u8 (sha (kx key 54 ++ m)))
   replace hAJ := hAJ.rowFar nAJ_p9 (va .u8 (sha (kx key 54 ++ m)))
   replace hp9 := hp9.row (va .u8 (sha (kx key 54 ++ m)))
   replace hW := below_setRow hW lw_p9 (va .u8 (sha (kx key 54 ++ m)))
   generalize w9.setRow p9 (va .u8 (sha (kx key 54 ++ m))) = w10 at *
   refine nilL ?_
   clear hAJ
   go_upto_region 9 with fail
   refine wl_lit ?_
   refine runL 36 (.slice (AO) 64 cO) rfl (by rfl) (by go_simp) ?_
   simp only [ls0, ls1]
   refine runL 37 (.slice (some ⟨p9, 0, none⟩) 32 32) rfl (by rfl) (by go_simp) ?_
   simp only [ls0, ls1]
   obtain ⟨AP, cAP, w11, hap, hAP, hcAP, hgr, hof⟩ := own_append hAO (some ⟨p9, 0, none⟩) 32 32 _ (sha (kx key 54 ++ m)) (hp9.readsAll (Nat.lt_succ_self _) (sha_len' _)) (Nat.le_trans hB0 hW.size) (kx key 92 ++ sha (kx key 54 ++ m)) rfl (64 + 32) (by omega) (by omega) 34
   refine runWL 38 (.slice AP (64 + 32) cAP) w11 rfl (by rfl) (exec_append _ _ _ _ rfl _ _ _ rfl rfl hap) ?_
   simp only [ls0, ls1]
   have nAP_p4 := hof p4 nAO_p4 hp4.lt
   replace hp4 := hp4.grown hgr (nAO_p4.ob _ _)
   have nAP_p9 := hof p9 nAO_p9 hp9.lt
   replace hp9 := hp9.grown hgr (nAO_p9.ob _ _)
   replace hW := Own.belowG hW (Nat.le_trans hB0 hW.size) hAO.from_ hgr
   clear hAO hgr hof hap
   refine callL 39 rfl (by rfl) (fun K hK => wp_callF 57 #[.slice (AP) (64 + 32) cAP] (by go_simp) (rsum_any (kx key 92 ++ sha (kx key 54 ++ m)) AP (64 + 32) cAP _ ((kx_byt _ _ hk (by omega)).app (sha_byt _)) (by omega) _ hAP.reads (Nat.le_refl _)) ?_)
   rintro e w12 ⟨rfl, bx⟩
   replace hp4 := hp4.below bx hp4.lt
   replace hp9 := hp9.below bx hp9.lt
   replace hAP := hAP.below bx
   replace hW := hW.trans (bx.mono (Nat.le_trans hB0 hW.size))
   clear bx
   refine ⟨_, rfl, hK.out _ _ ?_⟩
   clear hK K
   simp only [ls0, ls1]
   refine runSL (w12.setRow p4 (va .u8 (hm key m))) rfl (by rfl) (exec_storeRow 45 (.tmp 4) (.tmp 39) rfl p4 rfl (va .u8 (hm key m)) rfl 45 (va .u8 (List.replicate 32 0)) hp4 (sz_eq (sz_api_Digest _ (List.length_replicate)) (sz_api_Digest _ (hm_len _ _))) (sz_api_Digest _ (hm_len _ _)) (va_ones .u8 _)) ?_
   replace hp9 := hp9.rowFar (show p4 ≠ p9 from (by omega)) (va .u8 (hm key m))
   replace hAP := hAP.rowFar nAP_p4 (va .u8 (hm key m))
   replace hp4 := hp4.row (va .u8 (hm key m))
   replace hW := below_setRow hW lw_p4 (va .u8 (hm key m))
   generalize w12.setRow p4 (va .u8 (hm key m)) = w13 at *
   refine nilL ?_
   go_wp2_with fail
   exact bodyPost_ret (results_cell_row rfl _ _ p4 45 (va .u8 (hm key m)) (0, 0) _ rfl hp4 (by exact Tryd.underlying45) rfl (sz_api_Digest _ (hm_len _ _))) rfl ⟨rfl, hW⟩
end Go.Proofs.YtcfddmplnoknlaaDoor
/-
  The walks of caissonlaw04.same, from, lives. (Printed by mkdrv04e.py.)
-/
namespace Go.Proofs.YtcfddmplnoknlaaDoor
set_option maxRecDepth 16384
open Go.RowKit Sh
/-- the slice reads the bytes l; its block, if it has one, is from B0 on -/
def Rs (W : World) (B0 : Nat) (A : Option Addr) (n : Nat) (l : List Nat) : Prop := l.length = n ∧ ((A = none ∧ n = 0) ∨ ∃ g, A = some ⟨g, 0, none⟩ ∧ B0 ≤ g ∧ ByB W g l)
section
variable {w w' : World} {B0 n : Nat} {A : Option Addr} {l : List Nat}
theorem Rs.reads (h : Rs w B0 A n l) : Reads w w.heap.size 1 A n (nv .u8 l) := by
  obtain ⟨hl, ⟨rfl, rfl⟩ | ⟨g, rfl, _, hb⟩⟩ := h
  · obtain rfl := List.eq_nil_of_length_eq_zero hl
    exact Reads.none_
  · exact (hb.reads hl).more hb.lt
theorem Rs.map (h : Rs w B0 A n l) (f : ∀ g, A = some ⟨g, 0, none⟩ → ByB w g l → ByB w' g l) : Rs w' B0 A n l := by
  refine ⟨h.1, ?_⟩
  rcases h.2 with h | ⟨g, rfl, hg, hb⟩
  · exact .inl h
  · exact .inr ⟨g, rfl, hg, f g rfl hb⟩
theorem Rs.lt (h : Rs w B0 A n l) {a : Addr} (ha : A = some a) : a.block < w.heap.size := by
  rcases h.2 with ⟨rfl, _⟩ | ⟨g, rfl, hg, hb⟩
  · cases ha
  · cases ha; exact hb.lt
theorem Rs.new_off (h : Rs w B0 A n l) : Off A w.heap.size := fun a ha e => by have := h.lt ha; omega
theorem Rs.below (h : Rs w B0 A n l) (bx : Below w.heap.size w w') : Rs w' B0 A n l := h.map fun g _ hb => hb.below bx hb.lt
theorem Rs.alloc (h : Rs w B0 A n l) (o : Obj) : Rs (w.alloc o) B0 A n l := h.map fun g _ hb => hb.alloc o
theorem Rs.rowFar {x : Nat} (h : Rs w B0 A n l) (hne : Off A x) (cs : Array Value) : Rs (w.setRow x cs) B0 A n l := h.map fun g e hb => hb.rowFar (fun e2 => hne _ e e2.symm) cs
theorem Rs.mono {B1 : Nat} (h : Rs w B0 A n l) (hb : B1 ≤ B0) : Rs w B1 A n l := ⟨h.1, h.2.imp id fun ⟨g, e, hg, hb2⟩ => ⟨g, e, Nat.le_trans hb hg, hb2⟩⟩
end
/-- derives.Expand where it is allowed -/
theorem dexp_to (key info : List Nat) (z : Nat) (l : List Nat) (hl : ex key info z = l) (hz : z ≤ 8160) (A : Option Addr) (n c B : Nat) (A2 : Option Addr) (n2 c2 B2 : Nat) (hk : Byt key) (hi : Byt info) (hnc : n ≤ c) (hn : n < 1000) (hnc2 : n2 ≤ c2) (hn2 : n2 < 1000) (w : World) (hg : Glob w)
    (hr : Reads w B 1 A n (nv .u8 key)) (hB : B ≤ w.heap.size) (hr2 : Reads w B2 1 A2 n2 (nv .u8 info)) (hB2 : B2 ≤ w.heap.size) :
    Calls Tryd.prog 38 #[.slice A n c, .slice A2 n2 c2, .int .i64 (z : Int)] w fun e' w' => ∃ Ar, e' = .returned (.tuple #[.slice Ar z z, .int .i64 0]) ∧ Rs w' w.heap.size Ar z l ∧ Below w.heap.size w w' := by
  subst hl
  by_cases h0 : 0 < z
  · refine (dexp_ok key info z h0 hz A n c B A2 n2 c2 B2 hk hi hnc hn hnc2 hn2 w hg hr hB hr2 hB2).mono ?_
    rintro e w' ⟨g, rfl, hg, hgg, bx⟩
    exact ⟨_, rfl, ⟨ex_len _ _ _ hz, .inr ⟨g, rfl, hgg, hg⟩⟩, bx⟩
  · obtain rfl : z = 0 := by omega
    refine (dexp_none 0 0 (.inr (.inr ⟨rfl, rfl⟩)) (by omega) A n c A2 n2 c2 w).mono ?_
    rintro e w' ⟨rfl, bx⟩
    exact ⟨none, rfl, ⟨rfl, .inl ⟨rfl, rfl⟩⟩, bx⟩
theorem extract_to (key m t : List Nat) (ht : hm key m = t) (A : Option Addr) (n c B : Nat) (A2 : Option Addr) (n2 c2 B2 : Nat) (hk : Byt key) (hmb : Byt m) (hnc : n ≤ c) (hn : n < 1000) (hnc2 : n2 ≤ c2) (hn2 : n2 < 1000) (w : World) (hg : Glob w) (hr : Reads w B 1 A n (nv .u8 key)) (hB : B ≤ w.heap.size)
  (hr2 : Reads w B2 1 A2 n2 (nv .u8 m)) (hB2 : B2 ≤ w.heap.size) :
  Calls Tryd.prog 37 #[.slice A n c, .slice A2 n2 c2] w fun e w' => e = .returned (.agg (va .u8 t)) ∧ Below w.heap.size w w' := by
 subst ht; exact extract_any key m A n c B A2 n2 c2 B2 hk hmb hnc hn hnc2 hn2 w hg hr hB hr2 hB2

theorem bst_fold : ∀ (l : List Nat) (r : ByteArray), (l.map fun x : Nat => (x : Int)).foldl (fun r n => r.push (UInt8.ofNat n.toNat)) r = ⟨r.data ++ (l.map UInt8.ofNat).toArray⟩
 | [], r => by simp
 | x :: l, r => by
  simp only [List.map_cons, List.foldl_cons]
  rw [bst_fold l]
  simp [ByteArray.push]
theorem bst_data (l : List Nat) : (bst l).data = (l.map UInt8.ofNat).toArray := by
 unfold bst
 rw [bst_fold]
 simp
theorem bst_sizeD (l : List Nat) : (bst l).size = l.length := by
 show (bst l).data.size = _
 rw [bst_data]; simp
end Go.Proofs.YtcfddmplnoknlaaDoor
/-
  The walks of derives.Volume, caissonref04.Keys, caissonlaw04.DerivesVolume. (Printed by mkdrv04g.py.)
-/
namespace Go.Proofs.YtcfddmplnoknlaaDoor
set_option maxRecDepth 16384
open Go.RowKit Sh
theorem sz_derives_Keys (l : List Nat) (h : l.length = 48) : (Tryd.prog.info? 26).map (·.size) = some (va .u8 l).size := by rw [va_size, h]; kernel_rfl
theorem zv_derives_Keys (w : World) : (zeroValue 26).run Tryd.prog w = .ok (.agg (va .u8 (List.replicate 48 0))) w := by kernel_rfl
def kCai : List Nat := [99, 97, 105, 115, 115, 111, 110]
theorem bs_kCai (W : World) : (Instr.buildSlice 34 7 #[(0, .int .u8 99), (1, .int .u8 97), (2, .int .u8 105), (3, .int .u8 115), (4, .int .u8 115), (5, .int .u8 111), (6, .int .u8 110)]).run Tryd.prog W = .ok (.slice (some ⟨W.heap.size, 0, none⟩) 7 7) (W.alloc (.cells (va .u8 kCai) 5)) := by
 obtain ⟨ie, hie, h0, h1, h2⟩ := info_parts byte_info
 refine run_buildSlice W _ 5 7 _ (va .u8 kCai) ie _ Tryd.underlying34 hie h0 (by rw [h1]; decide) (by rw [h1]; decide) ?_
 rw [h1]; kernel_rfl
theorem byt_kCai : Byt kCai := fun x hx => by
 have h : kCai.all (· < 256) = true := by decide
 rw [List.all_eq_true] at h; simpa using h x hx
def kEnc : List Nat := [101, 110, 99, 114, 121, 112, 116]
theorem bs_kEnc (W : World) : (Instr.buildSlice 34 7 #[(0, .int .u8 101), (1, .int .u8 110), (2, .int .u8 99), (3, .int .u8 114), (4, .int .u8 121), (5, .int .u8 112), (6, .int .u8 116)]).run Tryd.prog W = .ok (.slice (some ⟨W.heap.size, 0, none⟩) 7 7) (W.alloc (.cells (va .u8 kEnc) 5)) := by
 obtain ⟨ie, hie, h0, h1, h2⟩ := info_parts byte_info
 refine run_buildSlice W _ 5 7 _ (va .u8 kEnc) ie _ Tryd.underlying34 hie h0 (by rw [h1]; decide) (by rw [h1]; decide) ?_
 rw [h1]; kernel_rfl
theorem byt_kEnc : Byt kEnc := fun x hx => by
 have h : kEnc.all (· < 256) = true := by decide
 rw [List.all_eq_true] at h; simpa using h x hx
def kMac : List Nat := [109, 97, 99]
theorem bs_kMac (W : World) : (Instr.buildSlice 34 3 #[(0, .int .u8 109), (1, .int .u8 97), (2, .int .u8 99)]).run Tryd.prog W = .ok (.slice (some ⟨W.heap.size, 0, none⟩) 3 3) (W.alloc (.cells (va .u8 kMac) 5)) := by
 obtain ⟨ie, hie, h0, h1, h2⟩ := info_parts byte_info
 refine run_buildSlice W _ 5 3 _ (va .u8 kMac) ie _ Tryd.underlying34 hie h0 (by rw [h1]; decide) (by rw [h1]; decide) ?_
 rw [h1]; kernel_rfl
theorem byt_kMac : Byt kMac := fun x hx => by
 have h : kMac.all (· < 256) = true := by decide
 rw [List.all_eq_true] at h; simpa using h x hx

theorem Rs.freeze_ {w : World} {B0 n : Nat} {A : Option Addr} {l : List Nat} {g k m : Nat} (h : Rs w B0 A n l) (_ : Off A g) : Rs (w.freeze ⟨g, k, none⟩ m) B0 A n l := h.map fun _ _ hb => hb.freeze _ _
theorem Rs.off_lt {w : World} {B0 n : Nat} {A : Option Addr} {l : List Nat} {x : Nat} (h : Rs w B0 A n l) (hx : x < B0) : Off A x := fun a ha e => by
  rcases h.2 with ⟨rfl, _⟩ | ⟨g, rfl, hg, hb⟩
  · cases ha
  · cases ha; have e2 : g = x := e; omega
theorem results_row_row {P : Program} {fn : Func} {p q : Tmp} {ty sy : TypeId} (h : fn.results = #[.cell p ty, .cell q sy]) (tmps : Array Value) (w : World) (g : Nat) (t : TypeId) (cs : Array Value) (d : TypeDesc) (g2 : Nat) (t2 : TypeId) (cs2 : Array Value) (d2 : TypeDesc)
  (hp : tmps.getD p undef = .pointer (some ⟨g, 0, none⟩)) (hg : Blk w g t cs)
  (hu : P.underlying ty = some d) (hd : (match d with | .struct _ | .array _ _ => true | _ => false) = true) (hi : (P.info? ty).map (·.size) = some cs.size)
  (hp2 : tmps.getD q undef = .pointer (some ⟨g2, 0, none⟩)) (hg2 : Blk w g2 t2 cs2)
  (hu2 : P.underlying sy = some d2) (hd2 : (match d2 with | .struct _ | .array _ _ => true | _ => false) = true) (hi2 : (P.info? sy).map (·.size) = some cs2.size) :
  (results fn tmps).run P w = .ok (.tuple #[.agg cs, .agg cs2]) w := by
 have hp' : tmps[p]?.getD undef = .pointer (some ⟨g, 0, none⟩) := by simpa using hp
 have hq' : tmps[q]?.getD undef = .pointer (some ⟨g2, 0, none⟩) := by simpa using hp2
 simp [results, h, hp', hq', asAddr, run_loadVar_row w g t ty cs (0, 0) d hg hu hd hi, run_loadVar_row w g2 t2 sy cs2 (0, 0) d2 hg2 hu2 hd2 hi2]
theorem Blk.left {W : World} {g : Nat} {T : TypeId} {x y : List Nat} (hb : Blk W g T (va .u8 (x ++ y))) : W.rangeAt g 0 (nv .u8 x) := fun j v hv => hb.part 0 x.length j v (by simpa using hv)
theorem Blk.right {W : World} {g n : Nat} {T : TypeId} {x y : List Nat} (hb : Blk W g T (va .u8 (x ++ y))) (hn : x.length = n) : W.rangeAt g n (nv .u8 y) := fun j v hv => by
 subst hn
 exact hb.part x.length y.length j v (by simpa using hv)
/-- the keys of a volume -/
def vk (m : List Nat) : List Nat := hm kCai m
def ve (m : List Nat) : List Nat := ex (vk m) kEnc 16
def vm (m : List Nat) : List Nat := ex (vk m) kMac 32
theorem ve_len (m : List Nat) : (ve m).length = 16 := ex_len _ _ _ (by decide)
theorem vm_len (m : List Nat) : (vm m).length = 32 := ex_len _ _ _ (by decide)
set_option maxRecDepth 8000 in
set_option maxHeartbeats 4000000 in
theorem volume_any (m : List Nat) (hml : m.length = 32) (hmb : Byt m) (w : World) (hg : Glob w) :
  Calls Tryd.prog 19 #[.agg (va .u8 m)] w fun e w' => e = .returned (.agg (va .u8 (ve m ++ vm m))) ∧ Below w.heap.size w w' := by
 obtain ⟨B0, hB0e⟩ : ∃ b, w.heap.size = b := ⟨_, rfl⟩
 rw [hB0e]
 have hW : Below B0 w w := by rw [← hB0e]; exact Below.refl _ _
 have hB0 : B0 ≤ w.heap.size := by omega
 have gl := glob_of hg hB0e
 clear hg
 have hB0q := Lib.hid hB0e
 clear hB0e
 obtain ⟨p, hp⟩ : ∃ p, vk m = p := ⟨_, rfl⟩
 obtain ⟨x, hx⟩ : ∃ p, ve m = p := ⟨_, rfl⟩
 obtain ⟨y, hy⟩ : ∃ p, vm m = p := ⟨_, rfl⟩
 have hxl := ve_len m
 have hyl := vm_len m
 have hpl : p.length = 32 := by rw [← hp]; exact hm_len _ _
 have hpb : Byt p := by rw [← hp]; exact hm_byt _ _
 rw [hx] at hxl
 rw [hy] at hyl
 have hxb : Byt x := by rw [← hx]; exact ex_byt _ _ _
 have hyb : Byt y := by rw [← hy]; exact ex_byt _ _ _
 have hpq : Hid (hm kCai m = p) := Lib.hid hp
 have hxq : Hid (ex p kEnc 16 = x) := Lib.hid (by rw [← hp]; exact hx)
 have hyq : Hid (ex p kMac 32 = y) := Lib.hid (by rw [← hp]; exact hy)
 rw [hx, hy]
 clear hp hx hy
 go_enter Tryd.func19, Tryd.ntmps19
 go_upto_region 0 with fail
 refine wl_lit ?_
 refine runWL 1 (.pointer (some ⟨w.heap.size, 0, none⟩)) (w.alloc (.cells (va .u8 (m)) 24)) rfl (by rfl) (exec_box 24 (.tmp 0) rfl (.agg (va .u8 (m))) rfl) ?_
 simp only [ls0, ls1]
 have lw_p1 := Nat.le_trans hB0 hW.size
 have hp1 : Blk (w.alloc (.cells (va .u8 (m)) 24)) w.heap.size 24 (va .u8 (m)) := Blk.new _ _ _
 replace hW := hW.alloc (Nat.le_trans hB0 hW.size) (.cells (va .u8 (m)) 24)
 generalize w.alloc (.cells (va .u8 (m)) 24) = w1 at *
 generalize w.heap.size = p1 at hp1 lw_p1  ⊢
 refine runWL 2 (.pointer (some ⟨w1.heap.size, 0, none⟩)) (w1.alloc (.cells (va .u8 (List.replicate 48 0)) 26)) rfl (by rfl) (exec_allocV 26 rfl _ (zv_derives_Keys _)) ?_
 simp only [ls0, ls1]
 have lp1_p2 := hp1.lt
 have lw_p2 := Nat.le_trans hB0 hW.size
 have hp2 : Blk (w1.alloc (.cells (va .u8 (List.replicate 48 0)) 26)) w1.heap.size 26 (va .u8 (List.replicate 48 0)) := Blk.new _ _ _
 replace hp1 := hp1.alloc (.cells (va .u8 (List.replicate 48 0)) 26)
 replace hW := hW.alloc (Nat.le_trans hB0 hW.size) (.cells (va .u8 (List.replicate 48 0)) 26)
 generalize w1.alloc (.cells (va .u8 (List.replicate 48 0)) 26) = w2 at *
 generalize w1.heap.size = p2 at hp2 lw_p2 lp1_p2 ⊢
 refine nilL ?_
 go_upto_region 1 with fail
 refine wl_lit ?_
 refine runWL 8 (.slice (some ⟨w2.heap.size, 0, none⟩) 7 7) (w2.alloc (.cells (va .u8 (kCai)) 5)) rfl (by rfl) (exec_bslice 34 7 _ rfl _ (by exact bs_kCai _)) ?_
 simp only [ls0, ls1]
 have lp1_q1 := hp1.lt
 have lp2_q1 := hp2.lt
 have lw_q1 := Nat.le_trans hB0 hW.size
 have hq1 : Blk (w2.alloc (.cells (va .u8 (kCai)) 5)) w2.heap.size 5 (va .u8 (kCai)) := Blk.new _ _ _
 replace hp1 := hp1.alloc (.cells (va .u8 (kCai)) 5)
 replace hp2 := hp2.alloc (.cells (va .u8 (kCai)) 5)
 replace hW := hW.alloc (Nat.le_trans hB0 hW.size) (.cells (va .u8 (kCai)) 5)
 generalize w2.alloc (.cells (va .u8 (kCai)) 5) = w3 at *
 generalize w2.heap.size = q1 at hq1 lw_q1 lp1_q1 lp2_q1 ⊢
 refine runWL 9 (.slice (some ⟨q1, 0, none⟩) 7 7) (w3.freeze ⟨q1, 7, none⟩ 1) rfl (by rfl) (exec_convW 34 34 (.tmp 8) rfl (.slice (some ⟨q1, 0, none⟩) 7 7) (.slice (some ⟨q1, 0, none⟩) 7 7) rfl (conv_blk (n := 7) (c := 7) hq1 (rfl))) ?_
 simp only [ls0, ls1]
 replace hp1 := hp1.freeze_ ⟨q1, 7, none⟩ 1 (show q1 ≠ p1 by omega)
 replace hp2 := hp2.freeze_ ⟨q1, 7, none⟩ 1 (show q1 ≠ p2 by omega)
 replace hq1 := hq1.byB.freeze ⟨q1, 7, none⟩ 1
 replace hW := Lib.below_freeze (p := ⟨q1, 7, none⟩) hW lw_q1 1
 generalize w3.freeze ⟨q1, 7, none⟩ 1 = w4 at *
 refine runL 10 (.slice (some ⟨p1, 0, none⟩) 32 32) rfl (by rfl) (by go_simp) ?_
 simp only [ls0, ls1]
 refine callL 11 rfl (by rfl) (fun K hK => wp_callF 37 #[.slice (some ⟨q1, 0, none⟩) 7 7, .slice (some ⟨p1, 0, none⟩) 32 32] (by go_simp) (extract_to kCai m p hpq.out _ 7 7 _ _ 32 32 _ byt_kCai hmb (by decide) (by decide) (by decide) (by decide) _ (gl.out _ hW) (hq1.reads (rfl)) hq1.lt (hp1.readsAll (Nat.lt_succ_self _) (hml)) hp1.lt) ?_)
 rintro e w5 ⟨rfl, bx⟩
 replace hp1 := hp1.below bx hp1.lt
 replace hp2 := hp2.below bx hp2.lt
 replace hq1 := hq1.below bx hq1.lt
 replace hW := hW.trans (bx.mono (Nat.le_trans hB0 hW.size))
 clear bx
 refine ⟨_, rfl, hK.out _ _ ?_⟩
 clear hK K
 simp only [ls0, ls1]
 refine runWL 3 (.pointer (some ⟨w5.heap.size, 0, none⟩)) (w5.alloc (.cells (va .u8 (List.replicate 32 0)) 45)) rfl (by rfl) (exec_allocV 45 rfl _ (zv_api_Digest _)) ?_
 simp only [ls0, ls1]
 have lp1_p3 := hp1.lt
 have lp2_p3 := hp2.lt
 have lq1_p3 := hq1.lt
 have lw_p3 := Nat.le_trans hB0 hW.size
 have hp3 : Blk (w5.alloc (.cells (va .u8 (List.replicate 32 0)) 45)) w5.heap.size 45 (va .u8 (List.replicate 32 0)) := Blk.new _ _ _
 replace hp1 := hp1.alloc (.cells (va .u8 (List.replicate 32 0)) 45)
 replace hp2 := hp2.alloc (.cells (va .u8 (List.replicate 32 0)) 45)
 replace hq1 := hq1.alloc (.cells (va .u8 (List.replicate 32 0)) 45)
 replace hW := hW.alloc (Nat.le_trans hB0 hW.size) (.cells (va .u8 (List.replicate 32 0)) 45)
 generalize w5.alloc (.cells (va .u8 (List.replicate 32 0)) 45) = w6 at *
 generalize w5.heap.size = p3 at hp3 lw_p3 lp1_p3 lp2_p3 lq1_p3 ⊢
 refine runSL (w6.setRow p3 (va .u8 (p))) rfl (by rfl) (exec_storeRow 45 (.tmp 3) (.tmp 11) rfl p3 rfl (va .u8 (p)) rfl 45 (va .u8 (List.replicate 32 0)) hp3 (sz_eq (sz_api_Digest _ (List.length_replicate)) (sz_api_Digest _ (hpl))) (sz_api_Digest _ (hpl)) (va_ones .u8 _)) ?_
 replace hp1 := hp1.rowFar (show p3 ≠ p1 from (by omega)) (va .u8 (p))
 replace hp2 := hp2.rowFar (show p3 ≠ p2 from (by omega)) (va .u8 (p))
 replace hq1 := hq1.rowFar (show p3 ≠ q1 from (by omega)) (va .u8 (p))
 replace hp3 := hp3.row (va .u8 (p))
 replace hW := below_setRow hW lw_p3 (va .u8 (p))
 generalize w6.setRow p3 (va .u8 (p)) = w7 at *
 refine nilL ?_
 go_upto_region 2 with fail
 refine wl_lit ?_
 refine runL 13 (.slice (some ⟨p3, 0, none⟩) 32 32) rfl (by rfl) (by go_simp) ?_
 simp only [ls0, ls1]
 refine runWL 14 (.slice (some ⟨w7.heap.size, 0, none⟩) 7 7) (w7.alloc (.cells (va .u8 (kEnc)) 5)) rfl (by rfl) (exec_bslice 34 7 _ rfl _ (by exact bs_kEnc _)) ?_
 simp only [ls0, ls1]
 have lp1_q2 := hp1.lt
 have lp2_q2 := hp2.lt
 have lq1_q2 := hq1.lt
 have lp3_q2 := hp3.lt
 have lw_q2 := Nat.le_trans hB0 hW.size
 have hq2 : Blk (w7.alloc (.cells (va .u8 (kEnc)) 5)) w7.heap.size 5 (va .u8 (kEnc)) := Blk.new _ _ _
 replace hp1 := hp1.alloc (.cells (va .u8 (kEnc)) 5)
 replace hp2 := hp2.alloc (.cells (va .u8 (kEnc)) 5)
 replace hq1 := hq1.alloc (.cells (va .u8 (kEnc)) 5)
 replace hp3 := hp3.alloc (.cells (va .u8 (kEnc)) 5)
 replace hW := hW.alloc (Nat.le_trans hB0 hW.size) (.cells (va .u8 (kEnc)) 5)
 generalize w7.alloc (.cells (va .u8 (kEnc)) 5) = w8 at *
 generalize w7.heap.size = q2 at hq2 lw_q2 lp1_q2 lp2_q2 lq1_q2 lp3_q2 ⊢
 refine runWL 15 (.slice (some ⟨q2, 0, none⟩) 7 7) (w8.freeze ⟨q2, 7, none⟩ 1) rfl (by rfl) (exec_convW 34 34 (.tmp 14) rfl (.slice (some ⟨q2, 0, none⟩) 7 7) (.slice (some ⟨q2, 0, none⟩) 7 7) rfl (conv_blk (n := 7) (c := 7) hq2 (rfl))) ?_
 simp only [ls0, ls1]
 replace hp1 := hp1.freeze_ ⟨q2, 7, none⟩ 1 (show q2 ≠ p1 by omega)
 replace hp2 := hp2.freeze_ ⟨q2, 7, none⟩ 1 (show q2 ≠ p2 by omega)
 replace hq1 := hq1.freeze ⟨q2, 7, none⟩ 1
 replace hp3 := hp3.freeze_ ⟨q2, 7, none⟩ 1 (show q2 ≠ p3 by omega)
 replace hq2 := hq2.byB.freeze ⟨q2, 7, none⟩ 1
 replace hW := Lib.below_freeze (p := ⟨q2, 7, none⟩) hW lw_q2 1
 generalize w8.freeze ⟨q2, 7, none⟩ 1 = w9 at *
 refine callL 16 rfl (by rfl) (fun K hK => wp_callF 38 #[.slice (some ⟨p3, 0, none⟩) 32 32, .slice (some ⟨q2, 0, none⟩) 7 7, .int .i64 16] (by go_simp) (dexp_to p kEnc 16 x hxq.out (by decide) _ 32 32 _ _ 7 7 _ hpb byt_kEnc (by decide) (by decide) (by decide) (by decide) _ (gl.out _ hW) (hp3.readsAll (Nat.lt_succ_self _) (hpl)) hp3.lt (hq2.reads (rfl)) hq2.lt) ?_)
 rintro e w10 ⟨AX, rfl, hAX, bx⟩
 have nAX_p2 := hAX.off_lt hp2.lt
 replace hAX := hAX.mono (Nat.le_trans hB0 hW.size)
 replace hp1 := hp1.below bx hp1.lt
 replace hp2 := hp2.below bx hp2.lt
 replace hq1 := hq1.below bx hq1.lt
 replace hp3 := hp3.below bx hp3.lt
 replace hq2 := hq2.below bx hq2.lt
 replace hW := hW.trans (bx.mono (Nat.le_trans hB0 hW.size))
 clear bx
 refine ⟨_, rfl, hK.out _ _ ?_⟩
 clear hK K
 simp only [ls0, ls1]
 refine runL 12 (.tuple #[.slice (AX) 16 16, .int .i64 0]) rfl (by rfl) (by go_simp) ?_
 simp only [ls0, ls1]
 refine runL 17 (.slice (AX) 16 16) rfl (by rfl) (by go_simp) ?_
 simp only [ls0, ls1]
 refine runL 18 (.int .i64 0) rfl (by rfl) (by go_simp) ?_
 simp only [ls0, ls1]
 refine runL 4 (.slice (AX) 16 16) rfl (by rfl) (by go_simp) ?_
 simp only [ls0, ls1]
 refine runL 5 (.int .i64 0) rfl (by rfl) (by go_simp) ?_
 simp only [ls0, ls1]
 refine nilL ?_
 go_upto_region 3 with fail
 refine wl_lit ?_
 refine runL 20 (.slice (some ⟨p3, 0, none⟩) 32 32) rfl (by rfl) (by go_simp) ?_
 simp only [ls0, ls1]
 refine runWL 21 (.slice (some ⟨w10.heap.size, 0, none⟩) 3 3) (w10.alloc (.cells (va .u8 (kMac)) 5)) rfl (by rfl) (exec_bslice 34 3 _ rfl _ (by exact bs_kMac _)) ?_
 simp only [ls0, ls1]
 have lp1_q3 := hp1.lt
 have lp2_q3 := hp2.lt
 have lq1_q3 := hq1.lt
 have lp3_q3 := hp3.lt
 have lq2_q3 := hq2.lt
 have nAX_q3 := hAX.new_off
 have lw_q3 := Nat.le_trans hB0 hW.size
 have hq3 : Blk (w10.alloc (.cells (va .u8 (kMac)) 5)) w10.heap.size 5 (va .u8 (kMac)) := Blk.new _ _ _
 replace hp1 := hp1.alloc (.cells (va .u8 (kMac)) 5)
 replace hp2 := hp2.alloc (.cells (va .u8 (kMac)) 5)
 replace hq1 := hq1.alloc (.cells (va .u8 (kMac)) 5)
 replace hp3 := hp3.alloc (.cells (va .u8 (kMac)) 5)
 replace hq2 := hq2.alloc (.cells (va .u8 (kMac)) 5)
 replace hAX := hAX.alloc (.cells (va .u8 (kMac)) 5)
 replace hW := hW.alloc (Nat.le_trans hB0 hW.size) (.cells (va .u8 (kMac)) 5)
 generalize w10.alloc (.cells (va .u8 (kMac)) 5) = w11 at *
 generalize w10.heap.size = q3 at hq3 lw_q3 lp1_q3 lp2_q3 lq1_q3 lp3_q3 lq2_q3 nAX_q3 ⊢
 refine runWL 22 (.slice (some ⟨q3, 0, none⟩) 3 3) (w11.freeze ⟨q3, 3, none⟩ 1) rfl (by rfl) (exec_convW 34 34 (.tmp 21) rfl (.slice (some ⟨q3, 0, none⟩) 3 3) (.slice (some ⟨q3, 0, none⟩) 3 3) rfl (conv_blk (n := 3) (c := 3) hq3 (rfl))) ?_
 simp only [ls0, ls1]
 replace hp1 := hp1.freeze_ ⟨q3, 3, none⟩ 1 (show q3 ≠ p1 by omega)
 replace hp2 := hp2.freeze_ ⟨q3, 3, none⟩ 1 (show q3 ≠ p2 by omega)
 replace hq1 := hq1.freeze ⟨q3, 3, none⟩ 1
 replace hp3 := hp3.freeze_ ⟨q3, 3, none⟩ 1 (show q3 ≠ p3 by omega)
 replace hq2 := hq2.freeze ⟨q3, 3, none⟩ 1
 replace hAX := hAX.freeze_ (k := 3) (m := 1) nAX_q3
 replace hq3 := hq3.byB.freeze ⟨q3, 3, none⟩ 1
 replace hW := Lib.below_freeze (p := ⟨q3, 3, none⟩) hW lw_q3 1
 generalize w11.freeze ⟨q3, 3, none⟩ 1 = w12 at *
 refine callL 23 rfl (by rfl) (fun K hK => wp_callF 38 #[.slice (some ⟨p3, 0, none⟩) 32 32, .slice (some ⟨q3, 0, none⟩) 3 3, .int .i64 32] (by go_simp) (dexp_to p kMac 32 y hyq.out (by decide) _ 32 32 _ _ 3 3 _ hpb byt_kMac (by decide) (by decide) (by decide) (by decide) _ (gl.out _ hW) (hp3.readsAll (Nat.lt_succ_self _) (hpl)) hp3.lt (hq3.reads (rfl)) hq3.lt) ?_)
 rintro e w13 ⟨AY, rfl, hAY, bx⟩
 have nAY_p2 := hAY.off_lt hp2.lt
 replace hAY := hAY.mono (Nat.le_trans hB0 hW.size)
 replace hp1 := hp1.below bx hp1.lt
 replace hp2 := hp2.below bx hp2.lt
 replace hq1 := hq1.below bx hq1.lt
 replace hp3 := hp3.below bx hp3.lt
 replace hq2 := hq2.below bx hq2.lt
 replace hAX := hAX.below bx
 replace hq3 := hq3.below bx hq3.lt
 replace hW := hW.trans (bx.mono (Nat.le_trans hB0 hW.size))
 clear bx
 refine ⟨_, rfl, hK.out _ _ ?_⟩
 clear hK K
 simp only [ls0, ls1]
 refine runL 19 (.tuple #[.slice (AY) 32 32, .int .i64 0]) rfl (by rfl) (by go_simp) ?_
 simp only [ls0, ls1]
 refine runL 24 (.slice (AY) 32 32) rfl (by rfl) (by go_simp) ?_
 simp only [ls0, ls1]
 refine runL 25 (.int .i64 0) rfl (by rfl) (by go_simp) ?_
 simp only [ls0, ls1]
 refine runL 6 (.slice (AY) 32 32) rfl (by rfl) (by go_simp) ?_
 simp only [ls0, ls1]
 refine runL 7 (.int .i64 0) rfl (by rfl) (by go_simp) ?_
 simp only [ls0, ls1]
 refine nilL ?_
 go_upto_region 4 with fail
 refine wl_lit ?_
 refine runL 26 (.pointer (some ⟨p2, 0, none⟩)) rfl (by rfl) (by go_simp) ?_
 simp only [ls0, ls1]
 refine runL 27 (.slice (some ⟨p2, 0, none⟩) 16 16) rfl (by rfl) (by go_simp) ?_
 simp only [ls0, ls1]
 refine runL 28 (.slice (AX) 16 16) rfl (by rfl) (by go_simp) ?_
 simp only [ls0, ls1]
 refine runWL 29 (.int .i64 16) (w13.setRow p2 (va .u8 (x ++ List.replicate 32 0))) rfl (by rfl) (exec_copy _ _ _ _ rfl _ _ _ rfl rfl (copy_row _ _ _ Tryd.underlying34 p2 0 16 16 26 (List.replicate 48 0) hp2 (AX) 16 16 _ (x) hAX.reads (by simp) (by simp) (x ++ List.replicate 32 0) (by rw [List.take_zero]; simp [hxl]))) ?_
 simp only [ls0, ls1]
 replace hp1 := hp1.rowFar (show p2 ≠ p1 from (by omega)) (va .u8 (x ++ List.replicate 32 0))
 replace hq1 := hq1.rowFar (show p2 ≠ q1 from (by omega)) (va .u8 (x ++ List.replicate 32 0))
 replace hp3 := hp3.rowFar (show p2 ≠ p3 from (by omega)) (va .u8 (x ++ List.replicate 32 0))
 replace hq2 := hq2.rowFar (show p2 ≠ q2 from (by omega)) (va .u8 (x ++ List.replicate 32 0))
 replace hAX := hAX.rowFar nAX_p2 (va .u8 (x ++ List.replicate 32 0))
 replace hq3 := hq3.rowFar (show p2 ≠ q3 from (by omega)) (va .u8 (x ++ List.replicate 32 0))
 replace hAY := hAY.rowFar nAY_p2 (va .u8 (x ++ List.replicate 32 0))
 replace hp2 := hp2.row (va .u8 (x ++ List.replicate 32 0))
 replace hW := below_setRow hW lw_p2 (va .u8 (x ++ List.replicate 32 0))
 generalize w13.setRow p2 (va .u8 (x ++ List.replicate 32 0)) = w14 at *
 refine nilL ?_
 go_upto_region 5 with fail
 refine wl_lit ?_
 refine runL 30 (.pointer (some ⟨p2, 16, none⟩)) rfl (by rfl) (by go_simp) ?_
 simp only [ls0, ls1]
 refine runL 31 (.slice (some ⟨p2, 16, none⟩) 32 32) rfl (by rfl) (by go_simp) ?_
 simp only [ls0, ls1]
 refine runL 32 (.slice (AY) 32 32) rfl (by rfl) (by go_simp) ?_
 simp only [ls0, ls1]
 refine runWL 33 (.int .i64 32) (w14.setRow p2 (va .u8 (x ++ y))) rfl (by rfl) (exec_copy _ _ _ _ rfl _ _ _ rfl rfl (copy_row _ _ _ Tryd.underlying34 p2 16 32 32 26 (x ++ List.replicate 32 0) hp2 (AY) 32 32 _ (y) hAY.reads (by simp) (by simp; omega) (x ++ y) (by simp [hxl, hyl]))) ?_
 simp only [ls0, ls1]
 replace hp1 := hp1.rowFar (show p2 ≠ p1 from (by omega)) (va .u8 (x ++ y))
 replace hq1 := hq1.rowFar (show p2 ≠ q1 from (by omega)) (va .u8 (x ++ y))
 replace hp3 := hp3.rowFar (show p2 ≠ p3 from (by omega)) (va .u8 (x ++ y))
 replace hq2 := hq2.rowFar (show p2 ≠ q2 from (by omega)) (va .u8 (x ++ y))
 replace hAX := hAX.rowFar nAX_p2 (va .u8 (x ++ y))
 replace hq3 := hq3.rowFar (show p2 ≠ q3 from (by omega)) (va .u8 (x ++ y))
 replace hAY := hAY.rowFar nAY_p2 (va .u8 (x ++ y))
 replace hp2 := hp2.row (va .u8 (x ++ y))
 replace hW := below_setRow hW lw_p2 (va .u8 (x ++ y))
 generalize w14.setRow p2 (va .u8 (x ++ y)) = w15 at *
 refine nilL ?_
 go_upto_region 6 with fail
 refine wl_lit ?_
 refine runL 34 (.agg (va .u8 (x ++ y))) rfl (by rfl) (exec_row 26 (.tmp 2) rfl p2 rfl 26 (va .u8 (x ++ y)) _ hp2 (by exact Tryd.underlying26) rfl (sz_derives_Keys _ (by simp [hxl, hyl]))) ?_
 simp only [ls0, ls1]
 refine runSL (w15.setRow p2 (va .u8 (x ++ y))) rfl (by rfl) (exec_storeRow 26 (.tmp 2) (.tmp 34) rfl p2 rfl (va .u8 (x ++ y)) rfl 26 (va .u8 (x ++ y)) hp2 (sz_eq (sz_derives_Keys _ (by simp [hxl, hyl])) (sz_derives_Keys _ (by simp [hxl, hyl]))) (sz_derives_Keys _ (by simp [hxl, hyl])) (va_ones .u8 _)) ?_
 replace hp1 := hp1.rowFar (show p2 ≠ p1 from (by omega)) (va .u8 (x ++ y))
 replace hq1 := hq1.rowFar (show p2 ≠ q1 from (by omega)) (va .u8 (x ++ y))
 replace hp3 := hp3.rowFar (show p2 ≠ p3 from (by omega)) (va .u8 (x ++ y))
 replace hq2 := hq2.rowFar (show p2 ≠ q2 from (by omega)) (va .u8 (x ++ y))
 replace hAX := hAX.rowFar nAX_p2 (va .u8 (x ++ y))
 replace hq3 := hq3.rowFar (show p2 ≠ q3 from (by omega)) (va .u8 (x ++ y))
 replace hAY := hAY.rowFar nAY_p2 (va .u8 (x ++ y))
 replace hp2 := hp2.row (va .u8 (x ++ y))
 replace hW := below_setRow hW lw_p2 (va .u8 (x ++ y))
 generalize w15.setRow p2 (va .u8 (x ++ y)) = w16 at *
 refine nilL ?_
 go_wp2_with fail
 exact bodyPost_ret (results_cell_row rfl _ _ p2 26 (va .u8 (x ++ y)) (0, 0) _ rfl hp2 (by exact Tryd.underlying26) rfl (sz_derives_Keys _ (by simp [hxl, hyl]))) rfl ⟨rfl, hW⟩

/-- the first i bytes of l, zeros behind -/
def cpk (l : List Nat) (n i : Nat) : List Nat := (List.range n).map fun j => if j < i then l.getD j 0 else 0
theorem cpk_len (l : List Nat) (n i : Nat) : (cpk l n i).length = n := by simp [cpk]
theorem cpk_zero (l : List Nat) (n : Nat) : cpk l n 0 = List.replicate n 0 := by
 apply ext_getD (by simp [cpk])
 intro j hj
 rw [cpk_len] at hj
 rw [cpk, getD_map_range _ _ _ hj, if_neg (by omega), List.getD_eq_getElem?_getD, List.getElem?_replicate, if_pos hj]; rfl
theorem cpk_all (l : List Nat) (n : Nat) (h : l.length = n) : cpk l n n = l := by
 apply ext_getD (by rw [cpk_len, h])
 intro j hj
 rw [cpk_len] at hj
 rw [cpk, getD_map_range _ _ _ hj, if_pos hj]
theorem cpk_step (l : List Nat) (n i : Nat) (hi : i < n) : (cpk l n i).set i (l.getD i 0) = cpk l n (i + 1) := by
  apply ext_getD (by rw [List.length_set, cpk_len, cpk_len])
  intro j hj
  rw [List.length_set, cpk_len] at hj
  by_cases e : i = j
  · subst e
    rw [List.getD_eq_getElem?_getD, List.getElem?_set_self (by rw [cpk_len]; exact hi), cpk, getD_map_range _ _ _ hj, if_pos (by omega)]; rfl
  · rw [List.getD_eq_getElem?_getD, List.getElem?_set_ne e, ← List.getD_eq_getElem?_getD, cpk, cpk, getD_map_range _ _ _ hj, getD_map_range _ _ _ hj]
    by_cases h : j < i
    · rw [if_pos h, if_pos (by omega)]
    · rw [if_neg h, if_neg (by omega)]
theorem sz16D (l : List Nat) (h : l.length = 16) : (Tryd.prog.info? 22).map (·.size) = some (nv .u8 l).length := by rw [nv_len, h]; kernel_rfl
theorem szKD (l : List Nat) (h : l.length = 32) : (Tryd.prog.info? 24).map (·.size) = some (nv .u8 l).length := by rw [nv_len, h]; kernel_rfl
end Go.Proofs.YtcfddmplnoknlaaDoor
