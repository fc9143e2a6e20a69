/-
  The walk of MacsKnown. (Printed by mk03.py.)
-/
import Derived.Test.YtfnhjbamomolfaaDoorMcBlockW
import Derived.Test.YtfnhjbamomolfaaDoorMcOfW
import Derived.Test.YtfnhjbamomolfaaDoorMcKeyW
namespace Go.Proofs.YtfnhjbamomolfaaDoor
open Go.RowKit Sh
def mSix : List Nat := [84, 101, 115, 116, 32, 85, 115, 105, 110, 103, 32, 76, 97, 114, 103, 101, 114, 32, 84, 104, 97, 110, 32, 66, 108, 111, 99, 107, 45, 83, 105, 122, 101, 32, 75, 101, 121, 32, 45, 32, 72, 97, 115, 104, 32, 75, 101, 121, 32, 70, 105, 114, 115, 116]
theorem bs_mSix (W : World) : (Instr.buildSlice 22 54 #[(0, .int .u8 84), (1, .int .u8 101), (2, .int .u8 115), (3, .int .u8 116), (4, .int .u8 32), (5, .int .u8 85), (6, .int .u8 115), (7, .int .u8 105), (8, .int .u8 110), (9, .int .u8 103), (10, .int .u8 32), (11, .int .u8 76), (12, .int .u8 97), (13, .int .u8 114), (14, .int .u8 103), (15, .int .u8 101), (16, .int .u8 114), (17, .int .u8 32), (18, .int .u8 84), (19, .int .u8 104), (20, .int .u8 97), (21, .int .u8 110), (22, .int .u8 32), (23, .int .u8 66), (24, .int .u8 108), (25, .int .u8 111), (26, .int .u8 99), (27, .int .u8 107), (28, .int .u8 45), (29, .int .u8 83), (30, .int .u8 105), (31, .int .u8 122), (32, .int .u8 101), (33, .int .u8 32), (34, .int .u8 75), (35, .int .u8 101), (36, .int .u8 121), (37, .int .u8 32), (38, .int .u8 45), (39, .int .u8 32), (40, .int .u8 72), (41, .int .u8 97), (42, .int .u8 115), (43, .int .u8 104), (44, .int .u8 32), (45, .int .u8 75), (46, .int .u8 101), (47, .int .u8 121), (48, .int .u8 32), (49, .int .u8 70), (50, .int .u8 105), (51, .int .u8 114), (52, .int .u8 115), (53, .int .u8 116)]).run Tryd.prog W = .ok (.slice (some ⟨W.heap.size, 0, none⟩) 54 54) (W.alloc (.cells (va .u8 mSix) 5)) := by
  obtain ⟨ie, hie, h0, h1, h2⟩ := info_parts byte_info
  refine run_buildSlice W _ 5 54 _ (va .u8 mSix) ie _ Tryd.underlying22 hie h0 (by rw [h1]; decide) (by rw [h1]; decide) ?_
  rw [h1]; kernel_rfl
theorem byt_mSix : Byt mSix := fun x hx => by
  have h : mSix.all (· < 256) = true := by decide
  rw [List.all_eq_true] at h; simpa using h x hx
def dThird : List Nat := [2000595230, 914361926, 2236463339, 3499196839, 693701003, 1056489762, 3647165716, 3470091774]
theorem tag_dThird : hm (List.replicate 20 170) (List.replicate 50 221) = flat dThird := by decide +kernel
theorem w32_dThird : W32 dThird := w32_of _ (by decide)
def dSixth : List Nat := [1625567577, 518043263, 227157674, 3421878143, 2383136289, 925418772, 88474639, 249790292]
theorem tag_dSixth : hm (List.replicate 131 170) (mSix) = flat dSixth := by decide +kernel
theorem w32_dSixth : W32 dSixth := w32_of _ (by decide)

theorem hm_64 : hm (List.replicate 64 0) [] = hm [] [] := hm_zeros [] [] 64 (by simp)

set_option maxRecDepth 8000 in
set_option maxHeartbeats 4000000 in
theorem lawKnown_any (w : World) (hg : Glob w) : Calls Tryd.prog 7 #[] w fun e w' => e = .returned (.bool true) ∧ Below w.heap.size w w' := by
  obtain ⟨B0, hB0e⟩ : ∃ b, w.heap.size = b := ⟨_, rfl⟩
  rw [hB0e]
  have hW : Below B0 w w := by rw [← hB0e]; exact Below.refl _ _
  have hB0 : B0 ≤ w.heap.size := by omega
  have gl := glob_of hg hB0e
  clear hg
  have hB0q := Lib.hid hB0e
  clear hB0e
  go_enter Tryd.func7, Tryd.ntmps7
  go_upto_region 0 with fail
  refine wl_lit ?_
  refine runL 0 (.bool false) rfl (by rfl) (by go_simp) ?_
  simp only [List.set_cons_zero]
  refine nilL ?_
  go_wp2
  go_loopw [1] (fun s wr => ∃ i : Nat, 62 ≤ i ∧ i ≤ 67 ∧ s = .int .i64 (i : Int) ∧ Below B0 w wr) (fun s _ => 67 - (intOf s).toNat)
  case atStart => exact ⟨62, by omega, by omega, rfl, hW⟩
  case round =>
    clear hW
    obtain ⟨i, hi1, hi, rfl, hW⟩ := hrel
    by_cases hlt : i < 67
    ·
      have hltI : (i : Int) < 67 := by omega
      go_upto_region 4 with fail
      refine wl_lit ?_
      refine runL 8 (.int .i64 (i : Int)) rfl (by rfl) (by go_simp) ?_
      simp only [List.set_cons_zero, List.set_cons_succ]
      refine callL 9 rfl (by rfl) (fun K hK => wp_callF 14 #[.int .i64 (i : Int), .int .u8 7] (by go_simp) (many_any i 7 (by omega) _) ?_)
      rintro e w1 ⟨g1, rfl, hg1, hgg, bx⟩
      have lw_g1 : B0 ≤ g1 := Nat.le_trans (Nat.le_trans hB0 hW.size) hgg
      replace hW := hW.trans (bx.mono (Nat.le_trans hB0 hW.size))
      clear hgg
      clear bx
      refine ⟨_, rfl, hK.out _ _ ?_⟩
      clear hK K
      simp only [List.set_cons_zero, List.set_cons_succ]
      refine callL 10 rfl (by rfl) (fun K hK => wp_callF 3 #[.slice (some ⟨g1, 0, none⟩) i i] (by go_simp) (lawBlock_any (List.replicate i 7) _ i i _ (Byt.rep _ _ (by omega)) (Nat.le_refl _) _ (gl.out _ hW) (hg1.readsAll (Nat.lt_succ_self _) (List.length_replicate)) hg1.lt) ?_)
      rintro e w2 ⟨rfl, bx⟩
      replace hg1 := hg1.below bx hg1.lt
      replace hW := hW.trans (bx.mono (Nat.le_trans hB0 hW.size))
      clear bx
      refine ⟨_, rfl, hK.out _ _ ?_⟩
      clear hK K
      simp only [List.set_cons_zero, List.set_cons_succ]
      refine runL 11 (.bool false) rfl (by rfl) (by go_simp) ?_
      simp only [List.set_cons_zero, List.set_cons_succ]
      refine runL 12 (.bool false) rfl (by rfl) (by go_simp) ?_
      simp only [List.set_cons_zero, List.set_cons_succ]
      refine runL 13 (.int .i64 (i : Int)) rfl (by rfl) (by go_simp) ?_
      simp only [List.set_cons_zero, List.set_cons_succ]
      refine callL 14 rfl (by rfl) (fun K hK => wp_callF 14 #[.int .i64 (i : Int), .int .u8 7] (by go_simp) (many_any i 7 (by omega) _) ?_)
      rintro e w3 ⟨g2, rfl, hg2, hgg, bx⟩
      have lg1_g2 : g1 < g2 := Nat.lt_of_lt_of_le hg1.lt hgg
      have lw_g2 : B0 ≤ g2 := Nat.le_trans (Nat.le_trans hB0 hW.size) hgg
      replace hg1 := hg1.below bx hg1.lt
      replace hW := hW.trans (bx.mono (Nat.le_trans hB0 hW.size))
      clear hgg
      clear bx
      refine ⟨_, rfl, hK.out _ _ ?_⟩
      clear hK K
      simp only [List.set_cons_zero, List.set_cons_succ]
      refine runL 15 (.int .i64 (i : Int)) rfl (by rfl) (by go_simp) ?_
      simp only [List.set_cons_zero, List.set_cons_succ]
      refine callL 16 rfl (by rfl) (fun K hK => wp_callF 14 #[.int .i64 (i : Int), .int .u8 9] (by go_simp) (many_any i 9 (by omega) _) ?_)
      rintro e w4 ⟨g3, rfl, hg3, hgg, bx⟩
      have lg1_g3 : g1 < g3 := Nat.lt_of_lt_of_le hg1.lt hgg
      have lg2_g3 : g2 < g3 := Nat.lt_of_lt_of_le hg2.lt hgg
      have lw_g3 : B0 ≤ g3 := Nat.le_trans (Nat.le_trans hB0 hW.size) hgg
      replace hg1 := hg1.below bx hg1.lt
      replace hg2 := hg2.below bx hg2.lt
      replace hW := hW.trans (bx.mono (Nat.le_trans hB0 hW.size))
      clear hgg
      clear bx
      refine ⟨_, rfl, hK.out _ _ ?_⟩
      clear hK K
      simp only [List.set_cons_zero, List.set_cons_succ]
      refine runWL 17 (.slice (some ⟨w4.heap.size, 0, none⟩) 1 1) (w4.alloc (.cells (#[.slice (some ⟨g3, 0, none⟩) i i]) 22)) rfl (by rfl) (exec_bslice 28 1 _ rfl _ (by exact bs_1 (some ⟨g3, 0, none⟩) i i _)) ?_
      simp only [List.set_cons_zero, List.set_cons_succ]
      have lg1_q1 := hg1.lt
      have lg2_q1 := hg2.lt
      have lg3_q1 := hg3.lt
      have lw_q1 := Nat.le_trans hB0 hW.size
      have hq1 : Blk (w4.alloc (.cells (#[.slice (some ⟨g3, 0, none⟩) i i]) 22)) w4.heap.size 22 (#[.slice (some ⟨g3, 0, none⟩) i i]) := Blk.new _ _ _
      replace hg1 := hg1.alloc (.cells (#[.slice (some ⟨g3, 0, none⟩) i i]) 22)
      replace hg2 := hg2.alloc (.cells (#[.slice (some ⟨g3, 0, none⟩) i i]) 22)
      replace hg3 := hg3.alloc (.cells (#[.slice (some ⟨g3, 0, none⟩) i i]) 22)
      replace hW := hW.alloc (Nat.le_trans hB0 hW.size) (.cells (#[.slice (some ⟨g3, 0, none⟩) i i]) 22)
      generalize w4.alloc (.cells (#[.slice (some ⟨g3, 0, none⟩) i i]) 22) = w5 at *
      generalize w4.heap.size = q1 at hq1 lw_q1 lg1_q1 lg2_q1 lg3_q1 ⊢
      refine callL 18 rfl (by rfl) (fun K hK => wp_callF 4 #[.slice (some ⟨g2, 0, none⟩) i i, .slice (some ⟨q1, 0, none⟩) 1 1] (by go_simp) (lawOf_any (List.replicate i 7) _ i i _ [List.replicate i 9] _ 1 1 _ (Byt.rep _ _ (by omega)) (Nat.le_refl _) _ (gl.out _ hW) (hg2.readsAll (Nat.lt_succ_self _) (List.length_replicate)) hg2.lt (parts_one hg3.lt hq1 (hg3.readsAll (Nat.lt_succ_self _) (List.length_replicate)) (Nat.le_refl _) (Byt.rep _ _ (by omega))) (Nat.le_refl _)) ?_)
      rintro e w6 ⟨rfl, bx⟩
      replace hg1 := hg1.below bx hg1.lt
      replace hg2 := hg2.below bx hg2.lt
      replace hg3 := hg3.below bx hg3.lt
      replace hq1 := hq1.below bx hq1.lt
      replace hW := hW.trans (bx.mono (Nat.le_trans hB0 hW.size))
      clear bx
      refine ⟨_, rfl, hK.out _ _ ?_⟩
      clear hK K
      simp only [List.set_cons_zero, List.set_cons_succ]
      refine runL 19 (.bool false) rfl (by rfl) (by go_simp) ?_
      simp only [List.set_cons_zero, List.set_cons_succ]
      refine runL 20 (.bool false) rfl (by rfl) (by go_simp) ?_
      simp only [List.set_cons_zero, List.set_cons_succ]
      refine nilL ?_
      go_wp2
      go_roundw
      case rel => exact ⟨i + 1, by omega, by omega, by go_num, hW⟩
      case measure => simp [intOf]; omega
    ·
      obtain rfl : i = 67 := by omega
      clear hlt hi hi1
      go_upto_region 6 with fail
      refine wl_lit ?_
      refine callL 21 rfl (by rfl) (fun K hK => wp_callF 14 #[.int .i64 20, .int .u8 170] (by go_simp) (many_any 20 170 (by omega) _) ?_)
      rintro e w7 ⟨g1, rfl, hg1, hgg, bx⟩
      have lw_g1 : B0 ≤ g1 := Nat.le_trans (Nat.le_trans hB0 hW.size) hgg
      replace hW := hW.trans (bx.mono (Nat.le_trans hB0 hW.size))
      clear hgg
      clear bx
      refine ⟨_, rfl, hK.out _ _ ?_⟩
      clear hK K
      simp only [List.set_cons_zero, List.set_cons_succ]
      refine callL 22 rfl (by rfl) (fun K hK => wp_callF 14 #[.int .i64 50, .int .u8 221] (by go_simp) (many_any 50 221 (by omega) _) ?_)
      rintro e w8 ⟨g2, rfl, hg2, hgg, bx⟩
      have lg1_g2 : g1 < g2 := Nat.lt_of_lt_of_le hg1.lt hgg
      have lw_g2 : B0 ≤ g2 := Nat.le_trans (Nat.le_trans hB0 hW.size) hgg
      replace hg1 := hg1.below bx hg1.lt
      replace hW := hW.trans (bx.mono (Nat.le_trans hB0 hW.size))
      clear hgg
      clear bx
      refine ⟨_, rfl, hK.out _ _ ?_⟩
      clear hK K
      simp only [List.set_cons_zero, List.set_cons_succ]
      refine runWL 23 (.slice (some ⟨w8.heap.size, 0, none⟩) 1 1) (w8.alloc (.cells (#[.slice (some ⟨g2, 0, none⟩) 50 50]) 22)) rfl (by rfl) (exec_bslice 28 1 _ rfl _ (by exact bs_1 (some ⟨g2, 0, none⟩) 50 50 _)) ?_
      simp only [List.set_cons_zero, List.set_cons_succ]
      have lg1_q2 := hg1.lt
      have lg2_q2 := hg2.lt
      have lw_q2 := Nat.le_trans hB0 hW.size
      have hq2 : Blk (w8.alloc (.cells (#[.slice (some ⟨g2, 0, none⟩) 50 50]) 22)) w8.heap.size 22 (#[.slice (some ⟨g2, 0, none⟩) 50 50]) := Blk.new _ _ _
      replace hg1 := hg1.alloc (.cells (#[.slice (some ⟨g2, 0, none⟩) 50 50]) 22)
      replace hg2 := hg2.alloc (.cells (#[.slice (some ⟨g2, 0, none⟩) 50 50]) 22)
      replace hW := hW.alloc (Nat.le_trans hB0 hW.size) (.cells (#[.slice (some ⟨g2, 0, none⟩) 50 50]) 22)
      generalize w8.alloc (.cells (#[.slice (some ⟨g2, 0, none⟩) 50 50]) 22) = w9 at *
      generalize w8.heap.size = q2 at hq2 lw_q2 lg1_q2 lg2_q2 ⊢
      refine callL 24 rfl (by rfl) (fun K hK => wp_callF 12 #[.slice (some ⟨g1, 0, none⟩) 20 20, .slice (some ⟨q2, 0, none⟩) 1 1] (by go_simp) (macof_eq (List.replicate 20 170) (List.replicate 50 221) (hm (List.replicate 20 170) (List.replicate 50 221)) (rfl) _ 20 20 _ [List.replicate 50 221] (by simp) _ 1 1 _ (Byt.rep _ _ (by omega)) (Nat.le_refl _) (by decide) (by omega) (by decide) _ (gl.out _ hW) (hg1.readsAll (Nat.lt_succ_self _) (List.length_replicate)) hg1.lt (parts_one hg2.lt hq2 (hg2.readsAll (Nat.lt_succ_self _) (List.length_replicate)) (Nat.le_refl _) (Byt.rep _ _ (by omega))) (Nat.le_refl _)) ?_)
      rintro e w10 ⟨rfl, bx⟩
      replace hg1 := hg1.below bx hg1.lt
      replace hg2 := hg2.below bx hg2.lt
      replace hq2 := hq2.below bx hq2.lt
      replace hW := hW.trans (bx.mono (Nat.le_trans hB0 hW.size))
      clear bx
      refine ⟨_, rfl, hK.out _ _ ?_⟩
      clear hK K
      simp only [List.set_cons_zero, List.set_cons_succ]
      refine runWL 2 (.pointer (some ⟨w10.heap.size, 0, none⟩)) (w10.alloc (.cells (va .u8 (List.replicate 32 0)) 30)) rfl (by rfl) (exec_allocV 30 rfl _ (zv_api_Digest _)) ?_
      simp only [List.set_cons_zero, List.set_cons_succ]
      have lg1_p2 := hg1.lt
      have lg2_p2 := hg2.lt
      have lq2_p2 := hq2.lt
      have lw_p2 := Nat.le_trans hB0 hW.size
      have hp2 : Blk (w10.alloc (.cells (va .u8 (List.replicate 32 0)) 30)) w10.heap.size 30 (va .u8 (List.replicate 32 0)) := Blk.new _ _ _
      replace hg1 := hg1.alloc (.cells (va .u8 (List.replicate 32 0)) 30)
      replace hg2 := hg2.alloc (.cells (va .u8 (List.replicate 32 0)) 30)
      replace hq2 := hq2.alloc (.cells (va .u8 (List.replicate 32 0)) 30)
      replace hW := hW.alloc (Nat.le_trans hB0 hW.size) (.cells (va .u8 (List.replicate 32 0)) 30)
      generalize w10.alloc (.cells (va .u8 (List.replicate 32 0)) 30) = w11 at *
      generalize w10.heap.size = p2 at hp2 lw_p2 lg1_p2 lg2_p2 lq2_p2 ⊢
      refine runSL (w11.setRow p2 (va .u8 (hm (List.replicate 20 170) (List.replicate 50 221)))) rfl (by rfl) (exec_storeRow 30 (.tmp 2) (.tmp 24) rfl p2 rfl (va .u8 (hm (List.replicate 20 170) (List.replicate 50 221))) rfl 30 (va .u8 (List.replicate 32 0)) hp2 (sz_eq (sz_api_Digest _ (List.length_replicate)) (sz_api_Digest _ (hm_len _ _))) (sz_api_Digest _ (hm_len _ _)) (va_ones .u8 _)) ?_
      replace hg1 := hg1.rowFar (show p2 ≠ g1 from (by omega)) (va .u8 (hm (List.replicate 20 170) (List.replicate 50 221)))
      replace hg2 := hg2.rowFar (show p2 ≠ g2 from (by omega)) (va .u8 (hm (List.replicate 20 170) (List.replicate 50 221)))
      replace hq2 := hq2.rowFar (show p2 ≠ q2 from (by omega)) (va .u8 (hm (List.replicate 20 170) (List.replicate 50 221)))
      replace hp2 := hp2.row (va .u8 (hm (List.replicate 20 170) (List.replicate 50 221)))
      replace hW := below_setRow hW lw_p2 (va .u8 (hm (List.replicate 20 170) (List.replicate 50 221)))
      generalize w11.setRow p2 (va .u8 (hm (List.replicate 20 170) (List.replicate 50 221))) = w12 at *
      refine nilL ?_
      clear hg1
      clear hg2
      clear hq2
      go_upto_region 7 with fail
      refine wl_lit ?_
      refine callL 25 rfl (by rfl) (fun K hK => wp_callF 14 #[.int .i64 131, .int .u8 170] (by go_simp) (many_any 131 170 (by omega) _) ?_)
      rintro e w13 ⟨g1, rfl, hg1, hgg, bx⟩
      have lp2_g1 : p2 < g1 := Nat.lt_of_lt_of_le hp2.lt hgg
      have lw_g1 : B0 ≤ g1 := Nat.le_trans (Nat.le_trans hB0 hW.size) hgg
      replace hp2 := hp2.below bx hp2.lt
      replace hW := hW.trans (bx.mono (Nat.le_trans hB0 hW.size))
      clear hgg
      clear bx
      refine ⟨_, rfl, hK.out _ _ ?_⟩
      clear hK K
      simp only [List.set_cons_zero, List.set_cons_succ]
      refine runWL 26 (.slice (some ⟨w13.heap.size, 0, none⟩) 54 54) (w13.alloc (.cells (va .u8 (mSix)) 5)) rfl (by rfl) (exec_bslice 22 54 _ rfl _ (by exact bs_mSix _)) ?_
      simp only [List.set_cons_zero, List.set_cons_succ]
      have lp2_q3 := hp2.lt
      have lg1_q3 := hg1.lt
      have lw_q3 := Nat.le_trans hB0 hW.size
      have hq3 : Blk (w13.alloc (.cells (va .u8 (mSix)) 5)) w13.heap.size 5 (va .u8 (mSix)) := Blk.new _ _ _
      replace hp2 := hp2.alloc (.cells (va .u8 (mSix)) 5)
      replace hg1 := hg1.alloc (.cells (va .u8 (mSix)) 5)
      replace hW := hW.alloc (Nat.le_trans hB0 hW.size) (.cells (va .u8 (mSix)) 5)
      generalize w13.alloc (.cells (va .u8 (mSix)) 5) = w14 at *
      generalize w13.heap.size = q3 at hq3 lw_q3 lp2_q3 lg1_q3 ⊢
      refine runWL 27 (.slice (some ⟨q3, 0, none⟩) 54 54) (w14.freeze ⟨q3, 54, none⟩ 1) rfl (by rfl) (exec_convW 22 22 (.tmp 26) rfl (.slice (some ⟨q3, 0, none⟩) 54 54) (.slice (some ⟨q3, 0, none⟩) 54 54) rfl (conv_blk (n := 54) (c := 54) hq3 (rfl))) ?_
      simp only [List.set_cons_zero, List.set_cons_succ]
      replace hp2 := hp2.freeze_ ⟨q3, 54, none⟩ 1 (show q3 ≠ p2 by omega)
      replace hg1 := hg1.freeze_ ⟨q3, 54, none⟩ 1 (show q3 ≠ g1 by omega)
      replace hq3 := hq3.byB.freeze ⟨q3, 54, none⟩ 1
      replace hW := Lib.below_freeze (p := ⟨q3, 54, none⟩) hW lw_q3 1
      generalize w14.freeze ⟨q3, 54, none⟩ 1 = w15 at *
      refine runWL 28 (.slice (some ⟨w15.heap.size, 0, none⟩) 1 1) (w15.alloc (.cells (#[.slice (some ⟨q3, 0, none⟩) 54 54]) 22)) rfl (by rfl) (exec_bslice 28 1 _ rfl _ (by exact bs_1 (some ⟨q3, 0, none⟩) 54 54 _)) ?_
      simp only [List.set_cons_zero, List.set_cons_succ]
      have lp2_q4 := hp2.lt
      have lg1_q4 := hg1.lt
      have lq3_q4 := hq3.lt
      have lw_q4 := Nat.le_trans hB0 hW.size
      have hq4 : Blk (w15.alloc (.cells (#[.slice (some ⟨q3, 0, none⟩) 54 54]) 22)) w15.heap.size 22 (#[.slice (some ⟨q3, 0, none⟩) 54 54]) := Blk.new _ _ _
      replace hp2 := hp2.alloc (.cells (#[.slice (some ⟨q3, 0, none⟩) 54 54]) 22)
      replace hg1 := hg1.alloc (.cells (#[.slice (some ⟨q3, 0, none⟩) 54 54]) 22)
      replace hq3 := hq3.alloc (.cells (#[.slice (some ⟨q3, 0, none⟩) 54 54]) 22)
      replace hW := hW.alloc (Nat.le_trans hB0 hW.size) (.cells (#[.slice (some ⟨q3, 0, none⟩) 54 54]) 22)
      generalize w15.alloc (.cells (#[.slice (some ⟨q3, 0, none⟩) 54 54]) 22) = w16 at *
      generalize w15.heap.size = q4 at hq4 lw_q4 lp2_q4 lg1_q4 lq3_q4 ⊢
      refine callL 29 rfl (by rfl) (fun K hK => wp_callF 12 #[.slice (some ⟨g1, 0, none⟩) 131 131, .slice (some ⟨q4, 0, none⟩) 1 1] (by go_simp) (macof_eq (List.replicate 131 170) (mSix) (hm (List.replicate 131 170) (mSix)) (rfl) _ 131 131 _ [mSix] (by simp) _ 1 1 _ (Byt.rep _ _ (by omega)) (Nat.le_refl _) (by decide) (by omega) (by decide) _ (gl.out _ hW) (hg1.readsAll (Nat.lt_succ_self _) (List.length_replicate)) hg1.lt (parts_one hq3.lt hq4 (hq3.reads (rfl)) (Nat.le_refl _) byt_mSix) (Nat.le_refl _)) ?_)
      rintro e w17 ⟨rfl, bx⟩
      replace hp2 := hp2.below bx hp2.lt
      replace hg1 := hg1.below bx hg1.lt
      replace hq3 := hq3.below bx hq3.lt
      replace hq4 := hq4.below bx hq4.lt
      replace hW := hW.trans (bx.mono (Nat.le_trans hB0 hW.size))
      clear bx
      refine ⟨_, rfl, hK.out _ _ ?_⟩
      clear hK K
      simp only [List.set_cons_zero, List.set_cons_succ]
      refine runWL 3 (.pointer (some ⟨w17.heap.size, 0, none⟩)) (w17.alloc (.cells (va .u8 (List.replicate 32 0)) 30)) rfl (by rfl) (exec_allocV 30 rfl _ (zv_api_Digest _)) ?_
      simp only [List.set_cons_zero, List.set_cons_succ]
      have lp2_p3 := hp2.lt
      have lg1_p3 := hg1.lt
      have lq3_p3 := hq3.lt
      have lq4_p3 := hq4.lt
      have lw_p3 := Nat.le_trans hB0 hW.size
      have hp3 : Blk (w17.alloc (.cells (va .u8 (List.replicate 32 0)) 30)) w17.heap.size 30 (va .u8 (List.replicate 32 0)) := Blk.new _ _ _
      replace hp2 := hp2.alloc (.cells (va .u8 (List.replicate 32 0)) 30)
      replace hg1 := hg1.alloc (.cells (va .u8 (List.replicate 32 0)) 30)
      replace hq3 := hq3.alloc (.cells (va .u8 (List.replicate 32 0)) 30)
      replace hq4 := hq4.alloc (.cells (va .u8 (List.replicate 32 0)) 30)
      replace hW := hW.alloc (Nat.le_trans hB0 hW.size) (.cells (va .u8 (List.replicate 32 0)) 30)
      generalize w17.alloc (.cells (va .u8 (List.replicate 32 0)) 30) = w18 at *
      generalize w17.heap.size = p3 at hp3 lw_p3 lp2_p3 lg1_p3 lq3_p3 lq4_p3 ⊢
      refine runSL (w18.setRow p3 (va .u8 (hm (List.replicate 131 170) (mSix)))) rfl (by rfl) (exec_storeRow 30 (.tmp 3) (.tmp 29) rfl p3 rfl (va .u8 (hm (List.replicate 131 170) (mSix))) rfl 30 (va .u8 (List.replicate 32 0)) hp3 (sz_eq (sz_api_Digest _ (List.length_replicate)) (sz_api_Digest _ (hm_len _ _))) (sz_api_Digest _ (hm_len _ _)) (va_ones .u8 _)) ?_
      replace hp2 := hp2.rowFar (show p3 ≠ p2 from (by omega)) (va .u8 (hm (List.replicate 131 170) (mSix)))
      replace hg1 := hg1.rowFar (show p3 ≠ g1 from (by omega)) (va .u8 (hm (List.replicate 131 170) (mSix)))
      replace hq3 := hq3.rowFar (show p3 ≠ q3 from (by omega)) (va .u8 (hm (List.replicate 131 170) (mSix)))
      replace hq4 := hq4.rowFar (show p3 ≠ q4 from (by omega)) (va .u8 (hm (List.replicate 131 170) (mSix)))
      replace hp3 := hp3.row (va .u8 (hm (List.replicate 131 170) (mSix)))
      replace hW := below_setRow hW lw_p3 (va .u8 (hm (List.replicate 131 170) (mSix)))
      generalize w18.setRow p3 (va .u8 (hm (List.replicate 131 170) (mSix))) = w19 at *
      refine nilL ?_
      clear hg1
      clear hq3
      clear hq4
      go_upto_region 8 with fail
      refine wp_region_held_drew (S := fun wr => Blk wr p2 30 (va .u8 (hm (List.replicate 20 170) (List.replicate 50 221))) ∧ Blk wr p3 30 (va .u8 (hm (List.replicate 131 170) (mSix))) ∧ Below B0 w wr) (by kernel_rfl) ⟨hp2.drew, hp3.drew, below_drewN hW 1⟩ (fun hH => ?_)
      clear hp2 hp3 hW
      obtain ⟨hp2, hp3, hW⟩ := hH
      generalize w19.drew = w20 at *
      refine takeH 18 0 30 (.agg (va .u8 (hm (List.replicate 20 170) (List.replicate 50 221)))) rfl rfl (by kernel_rfl) (by kernel_rfl) (by kernel_rfl) (fun _ _ _ h => h) (Or.inl ⟨by rfl, fun _ h => exec_row 30 (.tmp 2) rfl p2 rfl 30 (va .u8 (hm (List.replicate 20 170) (List.replicate 50 221))) _ h.1 (by exact Tryd.underlying30) rfl (sz_api_Digest _ (hm_len _ _))⟩) ⟨hp2, hp3, hW⟩ ?_
      simp only [List.set_cons_zero, List.set_cons_succ]
      refine takeH 17 1 31 (.agg (va .u32 (dThird))) rfl rfl (by kernel_rfl) (by kernel_rfl) (by kernel_rfl) (fun _ _ _ h => h) (Or.inl ⟨by rfl, fun _ _ => exec_build 42 _ rfl (va .u32 dThird) (by kernel_rfl)⟩) ⟨hp2, hp3, hW⟩ ?_
      simp only [List.set_cons_zero, List.set_cons_succ]
      refine wpAnyH_ready (by kernel_rfl) (by simp) (readyCons 16 2 32 rfl rfl (by rfl) (fun K hK => wp_callF 15 #[.agg (va .u8 (hm (List.replicate 20 170) (List.replicate 50 221))), .agg (va .u32 (dThird))] (by go_simp) (is_to (hm (List.replicate 20 170) (List.replicate 50 221)) dThird tag_dThird rfl w32_dThird _) ?_) AllReadyH.nil)
      rintro e w21 ⟨rfl, bx⟩
      replace hp2 := hp2.below bx hp2.lt
      replace hp3 := hp3.below bx hp3.lt
      replace hW := hW.trans (bx.mono (Nat.le_trans hB0 hW.size))
      clear bx
      refine ⟨_, rfl, hK.out _ _ ⟨hp2, hp3, hW⟩ (fun _ => ?_)⟩
      clear hK K
      simp only [List.set_cons_zero, List.set_cons_succ]
      refine takeH 15 3 33 (.bool true) rfl rfl (by kernel_rfl) (by kernel_rfl) (by kernel_rfl) (fun _ _ _ h => h) (Or.inl ⟨by rfl, fun w _ => by go_simp⟩) ⟨hp2, hp3, hW⟩ ?_
      simp only [List.set_cons_zero, List.set_cons_succ]
      refine takeH 14 4 34 (.agg (va .u8 (hm (List.replicate 131 170) (mSix)))) rfl rfl (by kernel_rfl) (by kernel_rfl) (by kernel_rfl) (fun _ _ _ h => h) (Or.inl ⟨by rfl, fun _ h => exec_row 30 (.tmp 3) rfl p3 rfl 30 (va .u8 (hm (List.replicate 131 170) (mSix))) _ h.2.1 (by exact Tryd.underlying30) rfl (sz_api_Digest _ (hm_len _ _))⟩) ⟨hp2, hp3, hW⟩ ?_
      simp only [List.set_cons_zero, List.set_cons_succ]
      refine takeH 13 5 35 (.agg (va .u32 (dSixth))) rfl rfl (by kernel_rfl) (by kernel_rfl) (by kernel_rfl) (fun _ _ _ h => h) (Or.inl ⟨by rfl, fun _ _ => exec_build 42 _ rfl (va .u32 dSixth) (by kernel_rfl)⟩) ⟨hp2, hp3, hW⟩ ?_
      simp only [List.set_cons_zero, List.set_cons_succ]
      refine wpAnyH_ready (by kernel_rfl) (by simp) (readyCons 12 6 36 rfl rfl (by rfl) (fun K hK => wp_callF 15 #[.agg (va .u8 (hm (List.replicate 131 170) (mSix))), .agg (va .u32 (dSixth))] (by go_simp) (is_to (hm (List.replicate 131 170) (mSix)) dSixth tag_dSixth rfl w32_dSixth _) ?_) AllReadyH.nil)
      rintro e w22 ⟨rfl, bx⟩
      replace hp2 := hp2.below bx hp2.lt
      replace hp3 := hp3.below bx hp3.lt
      replace hW := hW.trans (bx.mono (Nat.le_trans hB0 hW.size))
      clear bx
      refine ⟨_, rfl, hK.out _ _ ⟨hp2, hp3, hW⟩ (fun _ => ?_)⟩
      clear hK K
      simp only [List.set_cons_zero, List.set_cons_succ]
      refine takeH 11 7 37 (.bool true) rfl rfl (by kernel_rfl) (by kernel_rfl) (by kernel_rfl) (fun _ _ _ h => h) (Or.inl ⟨by rfl, fun w _ => by go_simp⟩) ⟨hp2, hp3, hW⟩ ?_
      simp only [List.set_cons_zero, List.set_cons_succ]
      refine takeH 10 8 38 (.bool true) rfl rfl (by kernel_rfl) (by kernel_rfl) (by kernel_rfl) (fun _ _ _ h => h) (Or.inl ⟨by rfl, fun w _ => by go_simp⟩) ⟨hp2, hp3, hW⟩ ?_
      simp only [List.set_cons_zero, List.set_cons_succ]
      refine wpAnyH_ready (by kernel_rfl) (by simp) (readyCons 9 9 39 rfl rfl (by rfl) (fun K hK => wp_callF 12 #[.slice none 0 0, .slice none 0 0] (by go_simp) (macof_eq [] [] (hm [] []) rfl none 0 0 0 [] rfl none 0 0 0 Byt.nil (Nat.le_refl _) (by omega) (by omega) (by simp) _ (gl.out _ hW) Reads.none_ (Nat.zero_le _) (Parts.nil _ _ _) (Nat.zero_le _)) ?_) (readyRun 9 10 40 (.slice (some ⟨w22.heap.size, 0, none⟩) 64 64) (w22.alloc (.cells (va .u8 (List.replicate 64 0)) 5)) rfl rfl (by rfl) (exec_makeB _ _ rfl 64 (by omega) rfl rfl) ⟨hp2.alloc _, hp3.alloc _, hW.alloc (Nat.le_trans hB0 hW.size) _⟩ (fun _ => ?_) (readyRun 9 11 41 (.slice (some ⟨w22.heap.size, 0, none⟩) 1 1) (w22.alloc (.cells (#[.slice none 0 0]) 22)) rfl rfl (by rfl) (exec_bslice 28 1 _ rfl _ (by exact bs_1 (none) 0 0 _)) ⟨hp2.alloc _, hp3.alloc _, hW.alloc (Nat.le_trans hB0 hW.size) _⟩ (fun _ => ?_) AllReadyH.nil)))
      ·
        rintro e w23 ⟨rfl, bx⟩
        replace hp2 := hp2.below bx hp2.lt
        replace hp3 := hp3.below bx hp3.lt
        replace hW := hW.trans (bx.mono (Nat.le_trans hB0 hW.size))
        clear bx
        refine ⟨_, rfl, hK.out _ _ ⟨hp2, hp3, hW⟩ (fun _ => ?_)⟩
        clear hK K
        simp only [List.set_cons_zero, List.set_cons_succ]
        refine wpAnyH_ready (by kernel_rfl) (by simp) (readyRun 8 10 40 (.slice (some ⟨w23.heap.size, 0, none⟩) 64 64) (w23.alloc (.cells (va .u8 (List.replicate 64 0)) 5)) rfl rfl (by rfl) (exec_makeB _ _ rfl 64 (by omega) rfl rfl) ⟨hp2.alloc _, hp3.alloc _, hW.alloc (Nat.le_trans hB0 hW.size) _⟩ (fun _ => ?_) (readyRun 8 11 41 (.slice (some ⟨w23.heap.size, 0, none⟩) 1 1) (w23.alloc (.cells (#[.slice none 0 0]) 22)) rfl rfl (by rfl) (exec_bslice 28 1 _ rfl _ (by exact bs_1 (none) 0 0 _)) ⟨hp2.alloc _, hp3.alloc _, hW.alloc (Nat.le_trans hB0 hW.size) _⟩ (fun _ => ?_) AllReadyH.nil))
        ·
          simp only [List.set_cons_zero, List.set_cons_succ]
          have lp2_q7 := hp2.lt
          have lp3_q7 := hp3.lt
          have lw_q7 := Nat.le_trans hB0 hW.size
          have hq7 : Blk (w23.alloc (.cells (va .u8 (List.replicate 64 0)) 5)) w23.heap.size 5 (va .u8 (List.replicate 64 0)) := Blk.new _ _ _
          replace hp2 := hp2.alloc (.cells (va .u8 (List.replicate 64 0)) 5)
          replace hp3 := hp3.alloc (.cells (va .u8 (List.replicate 64 0)) 5)
          replace hW := hW.alloc (Nat.le_trans hB0 hW.size) (.cells (va .u8 (List.replicate 64 0)) 5)
          generalize w23.alloc (.cells (va .u8 (List.replicate 64 0)) 5) = w24 at *
          generalize w23.heap.size = q7 at hq7 lw_q7 lp2_q7 lp3_q7 ⊢
          refine wpAnyH_ready (by kernel_rfl) (by simp) (readyRun 7 11 41 (.slice (some ⟨w24.heap.size, 0, none⟩) 1 1) (w24.alloc (.cells (#[.slice none 0 0]) 22)) rfl rfl (by rfl) (exec_bslice 28 1 _ rfl _ (by exact bs_1 (none) 0 0 _)) ⟨hp2.alloc _, hp3.alloc _, hW.alloc (Nat.le_trans hB0 hW.size) _⟩ (fun _ => ?_) AllReadyH.nil)
          simp only [List.set_cons_zero, List.set_cons_succ]
          have lp2_q9 := hp2.lt
          have lp3_q9 := hp3.lt
          have lq7_q9 := hq7.lt
          have lw_q9 := Nat.le_trans hB0 hW.size
          have hq9 : Blk (w24.alloc (.cells (#[.slice none 0 0]) 22)) w24.heap.size 22 (#[.slice none 0 0]) := Blk.new _ _ _
          replace hp2 := hp2.alloc (.cells (#[.slice none 0 0]) 22)
          replace hp3 := hp3.alloc (.cells (#[.slice none 0 0]) 22)
          replace hq7 := hq7.alloc (.cells (#[.slice none 0 0]) 22)
          replace hW := hW.alloc (Nat.le_trans hB0 hW.size) (.cells (#[.slice none 0 0]) 22)
          generalize w24.alloc (.cells (#[.slice none 0 0]) 22) = w25 at *
          generalize w24.heap.size = q9 at hq9 lw_q9 lp2_q9 lp3_q9 lq7_q9 ⊢
          refine wpAnyH_ready (by kernel_rfl) (by simp) (readyCons 6 12 42 rfl rfl (by rfl) (fun K hK => wp_callF 12 #[.slice (some ⟨q7, 0, none⟩) 64 64, .slice (some ⟨q9, 0, none⟩) 1 1] (by go_simp) (macof_eq (List.replicate 64 0) [] (hm [] []) hm_64 _ 64 64 _ [[]] (by simp) _ 1 1 _ (Byt.rep _ _ (by omega)) (Nat.le_refl _) (by omega) (by omega) (by simp) _ (gl.out _ hW) (hq7.readsAll (Nat.lt_succ_self _) (List.length_replicate)) hq7.lt (parts_one (Nat.zero_le _) hq9 Reads.none_ (Nat.le_refl _) Byt.nil) (Nat.le_refl _)) ?_) AllReadyH.nil)
          rintro e w26 ⟨rfl, bx⟩
          replace hp2 := hp2.below bx hp2.lt
          replace hp3 := hp3.below bx hp3.lt
          replace hq7 := hq7.below bx hq7.lt
          replace hq9 := hq9.below bx hq9.lt
          replace hW := hW.trans (bx.mono (Nat.le_trans hB0 hW.size))
          clear bx
          refine ⟨_, rfl, hK.out _ _ ⟨hp2, hp3, hW⟩ (fun _ => ?_)⟩
          clear hK K
          simp only [List.set_cons_zero, List.set_cons_succ]
          refine takeH 5 13 43 (.bool true) rfl rfl (by kernel_rfl) (by kernel_rfl) (by kernel_rfl) (fun _ _ _ h => h) (Or.inl ⟨by rfl, fun _ _ => exec_eqB 30 32 (by kernel_rfl) (by kernel_rfl) (.tmp 39) (.tmp 42) _ rfl (hm [] []) (hm [] []) (hm_len _ _) (hm_len _ _) rfl rfl true (by simp)⟩) ⟨hp2, hp3, hW⟩ ?_
          simp only [List.set_cons_zero, List.set_cons_succ]
          refine takeH 4 14 44 (.bool true) rfl rfl (by kernel_rfl) (by kernel_rfl) (by kernel_rfl) (fun _ _ _ h => h) (Or.inl ⟨by rfl, fun w _ => by go_simp⟩) ⟨hp2, hp3, hW⟩ ?_
          simp only [List.set_cons_zero, List.set_cons_succ]
          refine takeH 3 15 45 (.bool true) rfl rfl (by kernel_rfl) (by kernel_rfl) (by kernel_rfl) (fun _ _ _ h => h) (Or.inl ⟨by rfl, fun w _ => by go_simp⟩) ⟨hp2, hp3, hW⟩ ?_
          simp only [List.set_cons_zero, List.set_cons_succ]
          refine wpAnyH_ready (by kernel_rfl) (by simp) (readyCons 2 16 46 rfl rfl (by rfl) (fun K hK => wp_callF 8 #[] (by go_simp) (lives_any _ (gl.out _ hW)) ?_) AllReadyH.nil)
          rintro e w27 ⟨rfl, bx⟩
          replace hp2 := hp2.below bx hp2.lt
          replace hp3 := hp3.below bx hp3.lt
          replace hq7 := hq7.below bx hq7.lt
          replace hq9 := hq9.below bx hq9.lt
          replace hW := hW.trans (bx.mono (Nat.le_trans hB0 hW.size))
          clear bx
          refine ⟨_, rfl, hK.out _ _ ⟨hp2, hp3, hW⟩ (fun _ => ?_)⟩
          clear hK K
          simp only [List.set_cons_zero, List.set_cons_succ]
          refine takeH 1 17 47 (.bool true) rfl rfl (by kernel_rfl) (by kernel_rfl) (by kernel_rfl) (fun _ _ _ h => h) (Or.inl ⟨by rfl, fun w _ => by go_simp⟩) ⟨hp2, hp3, hW⟩ ?_
          simp only [List.set_cons_zero, List.set_cons_succ]
          refine takeH 0 18 0 (.bool true) rfl rfl (by kernel_rfl) (by kernel_rfl) (by kernel_rfl) (fun _ _ _ h => h) (Or.inl ⟨by rfl, fun w _ => by go_simp⟩) ⟨hp2, hp3, hW⟩ ?_
          simp only [List.set_cons_zero]
          refine wpAnyH_done (by kernel_rfl) ?_ _
          go_wp2_with fail
          go_ret
          exact ⟨rfl, hW⟩
        ·
          simp only [List.set_cons_zero, List.set_cons_succ]
          have lp2_q8 := hp2.lt
          have lp3_q8 := hp3.lt
          have lw_q8 := Nat.le_trans hB0 hW.size
          have hq8 : Blk (w23.alloc (.cells (#[.slice none 0 0]) 22)) w23.heap.size 22 (#[.slice none 0 0]) := Blk.new _ _ _
          replace hp2 := hp2.alloc (.cells (#[.slice none 0 0]) 22)
          replace hp3 := hp3.alloc (.cells (#[.slice none 0 0]) 22)
          replace hW := hW.alloc (Nat.le_trans hB0 hW.size) (.cells (#[.slice none 0 0]) 22)
          generalize w23.alloc (.cells (#[.slice none 0 0]) 22) = w28 at *
          generalize w23.heap.size = q8 at hq8 lw_q8 lp2_q8 lp3_q8 ⊢
          refine wpAnyH_ready (by kernel_rfl) (by simp) (readyRun 7 10 40 (.slice (some ⟨w28.heap.size, 0, none⟩) 64 64) (w28.alloc (.cells (va .u8 (List.replicate 64 0)) 5)) rfl rfl (by rfl) (exec_makeB _ _ rfl 64 (by omega) rfl rfl) ⟨hp2.alloc _, hp3.alloc _, hW.alloc (Nat.le_trans hB0 hW.size) _⟩ (fun _ => ?_) AllReadyH.nil)
          simp only [List.set_cons_zero, List.set_cons_succ]
          have lp2_q9 := hp2.lt
          have lp3_q9 := hp3.lt
          have lq8_q9 := hq8.lt
          have lw_q9 := Nat.le_trans hB0 hW.size
          have hq9 : Blk (w28.alloc (.cells (va .u8 (List.replicate 64 0)) 5)) w28.heap.size 5 (va .u8 (List.replicate 64 0)) := Blk.new _ _ _
          replace hp2 := hp2.alloc (.cells (va .u8 (List.replicate 64 0)) 5)
          replace hp3 := hp3.alloc (.cells (va .u8 (List.replicate 64 0)) 5)
          replace hq8 := hq8.alloc (.cells (va .u8 (List.replicate 64 0)) 5)
          replace hW := hW.alloc (Nat.le_trans hB0 hW.size) (.cells (va .u8 (List.replicate 64 0)) 5)
          generalize w28.alloc (.cells (va .u8 (List.replicate 64 0)) 5) = w29 at *
          generalize w28.heap.size = q9 at hq9 lw_q9 lp2_q9 lp3_q9 lq8_q9 ⊢
          refine wpAnyH_ready (by kernel_rfl) (by simp) (readyCons 6 12 42 rfl rfl (by rfl) (fun K hK => wp_callF 12 #[.slice (some ⟨q9, 0, none⟩) 64 64, .slice (some ⟨q8, 0, none⟩) 1 1] (by go_simp) (macof_eq (List.replicate 64 0) [] (hm [] []) hm_64 _ 64 64 _ [[]] (by simp) _ 1 1 _ (Byt.rep _ _ (by omega)) (Nat.le_refl _) (by omega) (by omega) (by simp) _ (gl.out _ hW) (hq9.readsAll (Nat.lt_succ_self _) (List.length_replicate)) hq9.lt (parts_one (Nat.zero_le _) hq8 Reads.none_ (Nat.le_refl _) Byt.nil) (Nat.le_refl _)) ?_) AllReadyH.nil)
          rintro e w30 ⟨rfl, bx⟩
          replace hp2 := hp2.below bx hp2.lt
          replace hp3 := hp3.below bx hp3.lt
          replace hq8 := hq8.below bx hq8.lt
          replace hq9 := hq9.below bx hq9.lt
          replace hW := hW.trans (bx.mono (Nat.le_trans hB0 hW.size))
          clear bx
          refine ⟨_, rfl, hK.out _ _ ⟨hp2, hp3, hW⟩ (fun _ => ?_)⟩
          clear hK K
          simp only [List.set_cons_zero, List.set_cons_succ]
          refine takeH 5 13 43 (.bool true) rfl rfl (by kernel_rfl) (by kernel_rfl) (by kernel_rfl) (fun _ _ _ h => h) (Or.inl ⟨by rfl, fun _ _ => exec_eqB 30 32 (by kernel_rfl) (by kernel_rfl) (.tmp 39) (.tmp 42) _ rfl (hm [] []) (hm [] []) (hm_len _ _) (hm_len _ _) rfl rfl true (by simp)⟩) ⟨hp2, hp3, hW⟩ ?_
          simp only [List.set_cons_zero, List.set_cons_succ]
          refine takeH 4 14 44 (.bool true) rfl rfl (by kernel_rfl) (by kernel_rfl) (by kernel_rfl) (fun _ _ _ h => h) (Or.inl ⟨by rfl, fun w _ => by go_simp⟩) ⟨hp2, hp3, hW⟩ ?_
          simp only [List.set_cons_zero, List.set_cons_succ]
          refine takeH 3 15 45 (.bool true) rfl rfl (by kernel_rfl) (by kernel_rfl) (by kernel_rfl) (fun _ _ _ h => h) (Or.inl ⟨by rfl, fun w _ => by go_simp⟩) ⟨hp2, hp3, hW⟩ ?_
          simp only [List.set_cons_zero, List.set_cons_succ]
          refine wpAnyH_ready (by kernel_rfl) (by simp) (readyCons 2 16 46 rfl rfl (by rfl) (fun K hK => wp_callF 8 #[] (by go_simp) (lives_any _ (gl.out _ hW)) ?_) AllReadyH.nil)
          rintro e w31 ⟨rfl, bx⟩
          replace hp2 := hp2.below bx hp2.lt
          replace hp3 := hp3.below bx hp3.lt
          replace hq8 := hq8.below bx hq8.lt
          replace hq9 := hq9.below bx hq9.lt
          replace hW := hW.trans (bx.mono (Nat.le_trans hB0 hW.size))
          clear bx
          refine ⟨_, rfl, hK.out _ _ ⟨hp2, hp3, hW⟩ (fun _ => ?_)⟩
          clear hK K
          simp only [List.set_cons_zero, List.set_cons_succ]
          refine takeH 1 17 47 (.bool true) rfl rfl (by kernel_rfl) (by kernel_rfl) (by kernel_rfl) (fun _ _ _ h => h) (Or.inl ⟨by rfl, fun w _ => by go_simp⟩) ⟨hp2, hp3, hW⟩ ?_
          simp only [List.set_cons_zero, List.set_cons_succ]
          refine takeH 0 18 0 (.bool true) rfl rfl (by kernel_rfl) (by kernel_rfl) (by kernel_rfl) (fun _ _ _ h => h) (Or.inl ⟨by rfl, fun w _ => by go_simp⟩) ⟨hp2, hp3, hW⟩ ?_
          simp only [List.set_cons_zero]
          refine wpAnyH_done (by kernel_rfl) ?_ _
          go_wp2_with fail
          go_ret
          exact ⟨rfl, hW⟩
      ·
        simp only [List.set_cons_zero, List.set_cons_succ]
        have lp2_q5 := hp2.lt
        have lp3_q5 := hp3.lt
        have lw_q5 := Nat.le_trans hB0 hW.size
        have hq5 : Blk (w22.alloc (.cells (va .u8 (List.replicate 64 0)) 5)) w22.heap.size 5 (va .u8 (List.replicate 64 0)) := Blk.new _ _ _
        replace hp2 := hp2.alloc (.cells (va .u8 (List.replicate 64 0)) 5)
        replace hp3 := hp3.alloc (.cells (va .u8 (List.replicate 64 0)) 5)
        replace hW := hW.alloc (Nat.le_trans hB0 hW.size) (.cells (va .u8 (List.replicate 64 0)) 5)
        generalize w22.alloc (.cells (va .u8 (List.replicate 64 0)) 5) = w32 at *
        generalize w22.heap.size = q5 at hq5 lw_q5 lp2_q5 lp3_q5 ⊢
        refine wpAnyH_ready (by kernel_rfl) (by simp) (readyCons 8 9 39 rfl rfl (by rfl) (fun K hK => wp_callF 12 #[.slice none 0 0, .slice none 0 0] (by go_simp) (macof_eq [] [] (hm [] []) rfl none 0 0 0 [] rfl none 0 0 0 Byt.nil (Nat.le_refl _) (by omega) (by omega) (by simp) _ (gl.out _ hW) Reads.none_ (Nat.zero_le _) (Parts.nil _ _ _) (Nat.zero_le _)) ?_) (readyRun 8 11 41 (.slice (some ⟨w32.heap.size, 0, none⟩) 1 1) (w32.alloc (.cells (#[.slice none 0 0]) 22)) rfl rfl (by rfl) (exec_bslice 28 1 _ rfl _ (by exact bs_1 (none) 0 0 _)) ⟨hp2.alloc _, hp3.alloc _, hW.alloc (Nat.le_trans hB0 hW.size) _⟩ (fun _ => ?_) AllReadyH.nil))
        ·
          rintro e w33 ⟨rfl, bx⟩
          replace hp2 := hp2.below bx hp2.lt
          replace hp3 := hp3.below bx hp3.lt
          replace hq5 := hq5.below bx hq5.lt
          replace hW := hW.trans (bx.mono (Nat.le_trans hB0 hW.size))
          clear bx
          refine ⟨_, rfl, hK.out _ _ ⟨hp2, hp3, hW⟩ (fun _ => ?_)⟩
          clear hK K
          simp only [List.set_cons_zero, List.set_cons_succ]
          refine wpAnyH_ready (by kernel_rfl) (by simp) (readyRun 7 11 41 (.slice (some ⟨w33.heap.size, 0, none⟩) 1 1) (w33.alloc (.cells (#[.slice none 0 0]) 22)) rfl rfl (by rfl) (exec_bslice 28 1 _ rfl _ (by exact bs_1 (none) 0 0 _)) ⟨hp2.alloc _, hp3.alloc _, hW.alloc (Nat.le_trans hB0 hW.size) _⟩ (fun _ => ?_) AllReadyH.nil)
          simp only [List.set_cons_zero, List.set_cons_succ]
          have lp2_q8 := hp2.lt
          have lp3_q8 := hp3.lt
          have lq5_q8 := hq5.lt
          have lw_q8 := Nat.le_trans hB0 hW.size
          have hq8 : Blk (w33.alloc (.cells (#[.slice none 0 0]) 22)) w33.heap.size 22 (#[.slice none 0 0]) := Blk.new _ _ _
          replace hp2 := hp2.alloc (.cells (#[.slice none 0 0]) 22)
          replace hp3 := hp3.alloc (.cells (#[.slice none 0 0]) 22)
          replace hq5 := hq5.alloc (.cells (#[.slice none 0 0]) 22)
          replace hW := hW.alloc (Nat.le_trans hB0 hW.size) (.cells (#[.slice none 0 0]) 22)
          generalize w33.alloc (.cells (#[.slice none 0 0]) 22) = w34 at *
          generalize w33.heap.size = q8 at hq8 lw_q8 lp2_q8 lp3_q8 lq5_q8 ⊢
          refine wpAnyH_ready (by kernel_rfl) (by simp) (readyCons 6 12 42 rfl rfl (by rfl) (fun K hK => wp_callF 12 #[.slice (some ⟨q5, 0, none⟩) 64 64, .slice (some ⟨q8, 0, none⟩) 1 1] (by go_simp) (macof_eq (List.replicate 64 0) [] (hm [] []) hm_64 _ 64 64 _ [[]] (by simp) _ 1 1 _ (Byt.rep _ _ (by omega)) (Nat.le_refl _) (by omega) (by omega) (by simp) _ (gl.out _ hW) (hq5.readsAll (Nat.lt_succ_self _) (List.length_replicate)) hq5.lt (parts_one (Nat.zero_le _) hq8 Reads.none_ (Nat.le_refl _) Byt.nil) (Nat.le_refl _)) ?_) AllReadyH.nil)
          rintro e w35 ⟨rfl, bx⟩
          replace hp2 := hp2.below bx hp2.lt
          replace hp3 := hp3.below bx hp3.lt
          replace hq5 := hq5.below bx hq5.lt
          replace hq8 := hq8.below bx hq8.lt
          replace hW := hW.trans (bx.mono (Nat.le_trans hB0 hW.size))
          clear bx
          refine ⟨_, rfl, hK.out _ _ ⟨hp2, hp3, hW⟩ (fun _ => ?_)⟩
          clear hK K
          simp only [List.set_cons_zero, List.set_cons_succ]
          refine takeH 5 13 43 (.bool true) rfl rfl (by kernel_rfl) (by kernel_rfl) (by kernel_rfl) (fun _ _ _ h => h) (Or.inl ⟨by rfl, fun _ _ => exec_eqB 30 32 (by kernel_rfl) (by kernel_rfl) (.tmp 39) (.tmp 42) _ rfl (hm [] []) (hm [] []) (hm_len _ _) (hm_len _ _) rfl rfl true (by simp)⟩) ⟨hp2, hp3, hW⟩ ?_
          simp only [List.set_cons_zero, List.set_cons_succ]
          refine takeH 4 14 44 (.bool true) rfl rfl (by kernel_rfl) (by kernel_rfl) (by kernel_rfl) (fun _ _ _ h => h) (Or.inl ⟨by rfl, fun w _ => by go_simp⟩) ⟨hp2, hp3, hW⟩ ?_
          simp only [List.set_cons_zero, List.set_cons_succ]
          refine takeH 3 15 45 (.bool true) rfl rfl (by kernel_rfl) (by kernel_rfl) (by kernel_rfl) (fun _ _ _ h => h) (Or.inl ⟨by rfl, fun w _ => by go_simp⟩) ⟨hp2, hp3, hW⟩ ?_
          simp only [List.set_cons_zero, List.set_cons_succ]
          refine wpAnyH_ready (by kernel_rfl) (by simp) (readyCons 2 16 46 rfl rfl (by rfl) (fun K hK => wp_callF 8 #[] (by go_simp) (lives_any _ (gl.out _ hW)) ?_) AllReadyH.nil)
          rintro e w36 ⟨rfl, bx⟩
          replace hp2 := hp2.below bx hp2.lt
          replace hp3 := hp3.below bx hp3.lt
          replace hq5 := hq5.below bx hq5.lt
          replace hq8 := hq8.below bx hq8.lt
          replace hW := hW.trans (bx.mono (Nat.le_trans hB0 hW.size))
          clear bx
          refine ⟨_, rfl, hK.out _ _ ⟨hp2, hp3, hW⟩ (fun _ => ?_)⟩
          clear hK K
          simp only [List.set_cons_zero, List.set_cons_succ]
          refine takeH 1 17 47 (.bool true) rfl rfl (by kernel_rfl) (by kernel_rfl) (by kernel_rfl) (fun _ _ _ h => h) (Or.inl ⟨by rfl, fun w _ => by go_simp⟩) ⟨hp2, hp3, hW⟩ ?_
          simp only [List.set_cons_zero, List.set_cons_succ]
          refine takeH 0 18 0 (.bool true) rfl rfl (by kernel_rfl) (by kernel_rfl) (by kernel_rfl) (fun _ _ _ h => h) (Or.inl ⟨by rfl, fun w _ => by go_simp⟩) ⟨hp2, hp3, hW⟩ ?_
          simp only [List.set_cons_zero]
          refine wpAnyH_done (by kernel_rfl) ?_ _
          go_wp2_with fail
          go_ret
          exact ⟨rfl, hW⟩
        ·
          simp only [List.set_cons_zero, List.set_cons_succ]
          have lp2_q7 := hp2.lt
          have lp3_q7 := hp3.lt
          have lq5_q7 := hq5.lt
          have lw_q7 := Nat.le_trans hB0 hW.size
          have hq7 : Blk (w32.alloc (.cells (#[.slice none 0 0]) 22)) w32.heap.size 22 (#[.slice none 0 0]) := Blk.new _ _ _
          replace hp2 := hp2.alloc (.cells (#[.slice none 0 0]) 22)
          replace hp3 := hp3.alloc (.cells (#[.slice none 0 0]) 22)
          replace hq5 := hq5.alloc (.cells (#[.slice none 0 0]) 22)
          replace hW := hW.alloc (Nat.le_trans hB0 hW.size) (.cells (#[.slice none 0 0]) 22)
          generalize w32.alloc (.cells (#[.slice none 0 0]) 22) = w37 at *
          generalize w32.heap.size = q7 at hq7 lw_q7 lp2_q7 lp3_q7 lq5_q7 ⊢
          refine wpAnyH_ready (by kernel_rfl) (by simp) (readyCons 7 9 39 rfl rfl (by rfl) (fun K hK => wp_callF 12 #[.slice none 0 0, .slice none 0 0] (by go_simp) (macof_eq [] [] (hm [] []) rfl none 0 0 0 [] rfl none 0 0 0 Byt.nil (Nat.le_refl _) (by omega) (by omega) (by simp) _ (gl.out _ hW) Reads.none_ (Nat.zero_le _) (Parts.nil _ _ _) (Nat.zero_le _)) ?_) AllReadyH.nil)
          rintro e w38 ⟨rfl, bx⟩
          replace hp2 := hp2.below bx hp2.lt
          replace hp3 := hp3.below bx hp3.lt
          replace hq5 := hq5.below bx hq5.lt
          replace hq7 := hq7.below bx hq7.lt
          replace hW := hW.trans (bx.mono (Nat.le_trans hB0 hW.size))
          clear bx
          refine ⟨_, rfl, hK.out _ _ ⟨hp2, hp3, hW⟩ (fun _ => ?_)⟩
          clear hK K
          simp only [List.set_cons_zero, List.set_cons_succ]
          refine wpAnyH_ready (by kernel_rfl) (by simp) (readyCons 6 12 42 rfl rfl (by rfl) (fun K hK => wp_callF 12 #[.slice (some ⟨q5, 0, none⟩) 64 64, .slice (some ⟨q7, 0, none⟩) 1 1] (by go_simp) (macof_eq (List.replicate 64 0) [] (hm [] []) hm_64 _ 64 64 _ [[]] (by simp) _ 1 1 _ (Byt.rep _ _ (by omega)) (Nat.le_refl _) (by omega) (by omega) (by simp) _ (gl.out _ hW) (hq5.readsAll (Nat.lt_succ_self _) (List.length_replicate)) hq5.lt (parts_one (Nat.zero_le _) hq7 Reads.none_ (Nat.le_refl _) Byt.nil) (Nat.le_refl _)) ?_) AllReadyH.nil)
          rintro e w39 ⟨rfl, bx⟩
          replace hp2 := hp2.below bx hp2.lt
          replace hp3 := hp3.below bx hp3.lt
          replace hq5 := hq5.below bx hq5.lt
          replace hq7 := hq7.below bx hq7.lt
          replace hW := hW.trans (bx.mono (Nat.le_trans hB0 hW.size))
          clear bx
          refine ⟨_, rfl, hK.out _ _ ⟨hp2, hp3, hW⟩ (fun _ => ?_)⟩
          clear hK K
          simp only [List.set_cons_zero, List.set_cons_succ]
          refine takeH 5 13 43 (.bool true) rfl rfl (by kernel_rfl) (by kernel_rfl) (by kernel_rfl) (fun _ _ _ h => h) (Or.inl ⟨by rfl, fun _ _ => exec_eqB 30 32 (by kernel_rfl) (by kernel_rfl) (.tmp 39) (.tmp 42) _ rfl (hm [] []) (hm [] []) (hm_len _ _) (hm_len _ _) rfl rfl true (by simp)⟩) ⟨hp2, hp3, hW⟩ ?_
          simp only [List.set_cons_zero, List.set_cons_succ]
          refine takeH 4 14 44 (.bool true) rfl rfl (by kernel_rfl) (by kernel_rfl) (by kernel_rfl) (fun _ _ _ h => h) (Or.inl ⟨by rfl, fun w _ => by go_simp⟩) ⟨hp2, hp3, hW⟩ ?_
          simp only [List.set_cons_zero, List.set_cons_succ]
          refine takeH 3 15 45 (.bool true) rfl rfl (by kernel_rfl) (by kernel_rfl) (by kernel_rfl) (fun _ _ _ h => h) (Or.inl ⟨by rfl, fun w _ => by go_simp⟩) ⟨hp2, hp3, hW⟩ ?_
          simp only [List.set_cons_zero, List.set_cons_succ]
          refine wpAnyH_ready (by kernel_rfl) (by simp) (readyCons 2 16 46 rfl rfl (by rfl) (fun K hK => wp_callF 8 #[] (by go_simp) (lives_any _ (gl.out _ hW)) ?_) AllReadyH.nil)
          rintro e w40 ⟨rfl, bx⟩
          replace hp2 := hp2.below bx hp2.lt
          replace hp3 := hp3.below bx hp3.lt
          replace hq5 := hq5.below bx hq5.lt
          replace hq7 := hq7.below bx hq7.lt
          replace hW := hW.trans (bx.mono (Nat.le_trans hB0 hW.size))
          clear bx
          refine ⟨_, rfl, hK.out _ _ ⟨hp2, hp3, hW⟩ (fun _ => ?_)⟩
          clear hK K
          simp only [List.set_cons_zero, List.set_cons_succ]
          refine takeH 1 17 47 (.bool true) rfl rfl (by kernel_rfl) (by kernel_rfl) (by kernel_rfl) (fun _ _ _ h => h) (Or.inl ⟨by rfl, fun w _ => by go_simp⟩) ⟨hp2, hp3, hW⟩ ?_
          simp only [List.set_cons_zero, List.set_cons_succ]
          refine takeH 0 18 0 (.bool true) rfl rfl (by kernel_rfl) (by kernel_rfl) (by kernel_rfl) (fun _ _ _ h => h) (Or.inl ⟨by rfl, fun w _ => by go_simp⟩) ⟨hp2, hp3, hW⟩ ?_
          simp only [List.set_cons_zero]
          refine wpAnyH_done (by kernel_rfl) ?_ _
          go_wp2_with fail
          go_ret
          exact ⟨rfl, hW⟩
      ·
        simp only [List.set_cons_zero, List.set_cons_succ]
        have lp2_q6 := hp2.lt
        have lp3_q6 := hp3.lt
        have lw_q6 := Nat.le_trans hB0 hW.size
        have hq6 : Blk (w22.alloc (.cells (#[.slice none 0 0]) 22)) w22.heap.size 22 (#[.slice none 0 0]) := Blk.new _ _ _
        replace hp2 := hp2.alloc (.cells (#[.slice none 0 0]) 22)
        replace hp3 := hp3.alloc (.cells (#[.slice none 0 0]) 22)
        replace hW := hW.alloc (Nat.le_trans hB0 hW.size) (.cells (#[.slice none 0 0]) 22)
        generalize w22.alloc (.cells (#[.slice none 0 0]) 22) = w41 at *
        generalize w22.heap.size = q6 at hq6 lw_q6 lp2_q6 lp3_q6 ⊢
        refine wpAnyH_ready (by kernel_rfl) (by simp) (readyCons 8 9 39 rfl rfl (by rfl) (fun K hK => wp_callF 12 #[.slice none 0 0, .slice none 0 0] (by go_simp) (macof_eq [] [] (hm [] []) rfl none 0 0 0 [] rfl none 0 0 0 Byt.nil (Nat.le_refl _) (by omega) (by omega) (by simp) _ (gl.out _ hW) Reads.none_ (Nat.zero_le _) (Parts.nil _ _ _) (Nat.zero_le _)) ?_) (readyRun 8 10 40 (.slice (some ⟨w41.heap.size, 0, none⟩) 64 64) (w41.alloc (.cells (va .u8 (List.replicate 64 0)) 5)) rfl rfl (by rfl) (exec_makeB _ _ rfl 64 (by omega) rfl rfl) ⟨hp2.alloc _, hp3.alloc _, hW.alloc (Nat.le_trans hB0 hW.size) _⟩ (fun _ => ?_) AllReadyH.nil))
        ·
          rintro e w42 ⟨rfl, bx⟩
          replace hp2 := hp2.below bx hp2.lt
          replace hp3 := hp3.below bx hp3.lt
          replace hq6 := hq6.below bx hq6.lt
          replace hW := hW.trans (bx.mono (Nat.le_trans hB0 hW.size))
          clear bx
          refine ⟨_, rfl, hK.out _ _ ⟨hp2, hp3, hW⟩ (fun _ => ?_)⟩
          clear hK K
          simp only [List.set_cons_zero, List.set_cons_succ]
          refine wpAnyH_ready (by kernel_rfl) (by simp) (readyRun 7 10 40 (.slice (some ⟨w42.heap.size, 0, none⟩) 64 64) (w42.alloc (.cells (va .u8 (List.replicate 64 0)) 5)) rfl rfl (by rfl) (exec_makeB _ _ rfl 64 (by omega) rfl rfl) ⟨hp2.alloc _, hp3.alloc _, hW.alloc (Nat.le_trans hB0 hW.size) _⟩ (fun _ => ?_) AllReadyH.nil)
          simp only [List.set_cons_zero, List.set_cons_succ]
          have lp2_q8 := hp2.lt
          have lp3_q8 := hp3.lt
          have lq6_q8 := hq6.lt
          have lw_q8 := Nat.le_trans hB0 hW.size
          have hq8 : Blk (w42.alloc (.cells (va .u8 (List.replicate 64 0)) 5)) w42.heap.size 5 (va .u8 (List.replicate 64 0)) := Blk.new _ _ _
          replace hp2 := hp2.alloc (.cells (va .u8 (List.replicate 64 0)) 5)
          replace hp3 := hp3.alloc (.cells (va .u8 (List.replicate 64 0)) 5)
          replace hq6 := hq6.alloc (.cells (va .u8 (List.replicate 64 0)) 5)
          replace hW := hW.alloc (Nat.le_trans hB0 hW.size) (.cells (va .u8 (List.replicate 64 0)) 5)
          generalize w42.alloc (.cells (va .u8 (List.replicate 64 0)) 5) = w43 at *
          generalize w42.heap.size = q8 at hq8 lw_q8 lp2_q8 lp3_q8 lq6_q8 ⊢
          refine wpAnyH_ready (by kernel_rfl) (by simp) (readyCons 6 12 42 rfl rfl (by rfl) (fun K hK => wp_callF 12 #[.slice (some ⟨q8, 0, none⟩) 64 64, .slice (some ⟨q6, 0, none⟩) 1 1] (by go_simp) (macof_eq (List.replicate 64 0) [] (hm [] []) hm_64 _ 64 64 _ [[]] (by simp) _ 1 1 _ (Byt.rep _ _ (by omega)) (Nat.le_refl _) (by omega) (by omega) (by simp) _ (gl.out _ hW) (hq8.readsAll (Nat.lt_succ_self _) (List.length_replicate)) hq8.lt (parts_one (Nat.zero_le _) hq6 Reads.none_ (Nat.le_refl _) Byt.nil) (Nat.le_refl _)) ?_) AllReadyH.nil)
          rintro e w44 ⟨rfl, bx⟩
          replace hp2 := hp2.below bx hp2.lt
          replace hp3 := hp3.below bx hp3.lt
          replace hq6 := hq6.below bx hq6.lt
          replace hq8 := hq8.below bx hq8.lt
          replace hW := hW.trans (bx.mono (Nat.le_trans hB0 hW.size))
          clear bx
          refine ⟨_, rfl, hK.out _ _ ⟨hp2, hp3, hW⟩ (fun _ => ?_)⟩
          clear hK K
          simp only [List.set_cons_zero, List.set_cons_succ]
          refine takeH 5 13 43 (.bool true) rfl rfl (by kernel_rfl) (by kernel_rfl) (by kernel_rfl) (fun _ _ _ h => h) (Or.inl ⟨by rfl, fun _ _ => exec_eqB 30 32 (by kernel_rfl) (by kernel_rfl) (.tmp 39) (.tmp 42) _ rfl (hm [] []) (hm [] []) (hm_len _ _) (hm_len _ _) rfl rfl true (by simp)⟩) ⟨hp2, hp3, hW⟩ ?_
          simp only [List.set_cons_zero, List.set_cons_succ]
          refine takeH 4 14 44 (.bool true) rfl rfl (by kernel_rfl) (by kernel_rfl) (by kernel_rfl) (fun _ _ _ h => h) (Or.inl ⟨by rfl, fun w _ => by go_simp⟩) ⟨hp2, hp3, hW⟩ ?_
          simp only [List.set_cons_zero, List.set_cons_succ]
          refine takeH 3 15 45 (.bool true) rfl rfl (by kernel_rfl) (by kernel_rfl) (by kernel_rfl) (fun _ _ _ h => h) (Or.inl ⟨by rfl, fun w _ => by go_simp⟩) ⟨hp2, hp3, hW⟩ ?_
          simp only [List.set_cons_zero, List.set_cons_succ]
          refine wpAnyH_ready (by kernel_rfl) (by simp) (readyCons 2 16 46 rfl rfl (by rfl) (fun K hK => wp_callF 8 #[] (by go_simp) (lives_any _ (gl.out _ hW)) ?_) AllReadyH.nil)
          rintro e w45 ⟨rfl, bx⟩
          replace hp2 := hp2.below bx hp2.lt
          replace hp3 := hp3.below bx hp3.lt
          replace hq6 := hq6.below bx hq6.lt
          replace hq8 := hq8.below bx hq8.lt
          replace hW := hW.trans (bx.mono (Nat.le_trans hB0 hW.size))
          clear bx
          refine ⟨_, rfl, hK.out _ _ ⟨hp2, hp3, hW⟩ (fun _ => ?_)⟩
          clear hK K
          simp only [List.set_cons_zero, List.set_cons_succ]
          refine takeH 1 17 47 (.bool true) rfl rfl (by kernel_rfl) (by kernel_rfl) (by kernel_rfl) (fun _ _ _ h => h) (Or.inl ⟨by rfl, fun w _ => by go_simp⟩) ⟨hp2, hp3, hW⟩ ?_
          simp only [List.set_cons_zero, List.set_cons_succ]
          refine takeH 0 18 0 (.bool true) rfl rfl (by kernel_rfl) (by kernel_rfl) (by kernel_rfl) (fun _ _ _ h => h) (Or.inl ⟨by rfl, fun w _ => by go_simp⟩) ⟨hp2, hp3, hW⟩ ?_
          simp only [List.set_cons_zero]
          refine wpAnyH_done (by kernel_rfl) ?_ _
          go_wp2_with fail
          go_ret
          exact ⟨rfl, hW⟩
        ·
          simp only [List.set_cons_zero, List.set_cons_succ]
          have lp2_q7 := hp2.lt
          have lp3_q7 := hp3.lt
          have lq6_q7 := hq6.lt
          have lw_q7 := Nat.le_trans hB0 hW.size
          have hq7 : Blk (w41.alloc (.cells (va .u8 (List.replicate 64 0)) 5)) w41.heap.size 5 (va .u8 (List.replicate 64 0)) := Blk.new _ _ _
          replace hp2 := hp2.alloc (.cells (va .u8 (List.replicate 64 0)) 5)
          replace hp3 := hp3.alloc (.cells (va .u8 (List.replicate 64 0)) 5)
          replace hq6 := hq6.alloc (.cells (va .u8 (List.replicate 64 0)) 5)
          replace hW := hW.alloc (Nat.le_trans hB0 hW.size) (.cells (va .u8 (List.replicate 64 0)) 5)
          generalize w41.alloc (.cells (va .u8 (List.replicate 64 0)) 5) = w46 at *
          generalize w41.heap.size = q7 at hq7 lw_q7 lp2_q7 lp3_q7 lq6_q7 ⊢
          refine wpAnyH_ready (by kernel_rfl) (by simp) (readyCons 7 9 39 rfl rfl (by rfl) (fun K hK => wp_callF 12 #[.slice none 0 0, .slice none 0 0] (by go_simp) (macof_eq [] [] (hm [] []) rfl none 0 0 0 [] rfl none 0 0 0 Byt.nil (Nat.le_refl _) (by omega) (by omega) (by simp) _ (gl.out _ hW) Reads.none_ (Nat.zero_le _) (Parts.nil _ _ _) (Nat.zero_le _)) ?_) AllReadyH.nil)
          rintro e w47 ⟨rfl, bx⟩
          replace hp2 := hp2.below bx hp2.lt
          replace hp3 := hp3.below bx hp3.lt
          replace hq6 := hq6.below bx hq6.lt
          replace hq7 := hq7.below bx hq7.lt
          replace hW := hW.trans (bx.mono (Nat.le_trans hB0 hW.size))
          clear bx
          refine ⟨_, rfl, hK.out _ _ ⟨hp2, hp3, hW⟩ (fun _ => ?_)⟩
          clear hK K
          simp only [List.set_cons_zero, List.set_cons_succ]
          refine wpAnyH_ready (by kernel_rfl) (by simp) (readyCons 6 12 42 rfl rfl (by rfl) (fun K hK => wp_callF 12 #[.slice (some ⟨q7, 0, none⟩) 64 64, .slice (some ⟨q6, 0, none⟩) 1 1] (by go_simp) (macof_eq (List.replicate 64 0) [] (hm [] []) hm_64 _ 64 64 _ [[]] (by simp) _ 1 1 _ (Byt.rep _ _ (by omega)) (Nat.le_refl _) (by omega) (by omega) (by simp) _ (gl.out _ hW) (hq7.readsAll (Nat.lt_succ_self _) (List.length_replicate)) hq7.lt (parts_one (Nat.zero_le _) hq6 Reads.none_ (Nat.le_refl _) Byt.nil) (Nat.le_refl _)) ?_) AllReadyH.nil)
          rintro e w48 ⟨rfl, bx⟩
          replace hp2 := hp2.below bx hp2.lt
          replace hp3 := hp3.below bx hp3.lt
          replace hq6 := hq6.below bx hq6.lt
          replace hq7 := hq7.below bx hq7.lt
          replace hW := hW.trans (bx.mono (Nat.le_trans hB0 hW.size))
          clear bx
          refine ⟨_, rfl, hK.out _ _ ⟨hp2, hp3, hW⟩ (fun _ => ?_)⟩
          clear hK K
          simp only [List.set_cons_zero, List.set_cons_succ]
          refine takeH 5 13 43 (.bool true) rfl rfl (by kernel_rfl) (by kernel_rfl) (by kernel_rfl) (fun _ _ _ h => h) (Or.inl ⟨by rfl, fun _ _ => exec_eqB 30 32 (by kernel_rfl) (by kernel_rfl) (.tmp 39) (.tmp 42) _ rfl (hm [] []) (hm [] []) (hm_len _ _) (hm_len _ _) rfl rfl true (by simp)⟩) ⟨hp2, hp3, hW⟩ ?_
          simp only [List.set_cons_zero, List.set_cons_succ]
          refine takeH 4 14 44 (.bool true) rfl rfl (by kernel_rfl) (by kernel_rfl) (by kernel_rfl) (fun _ _ _ h => h) (Or.inl ⟨by rfl, fun w _ => by go_simp⟩) ⟨hp2, hp3, hW⟩ ?_
          simp only [List.set_cons_zero, List.set_cons_succ]
          refine takeH 3 15 45 (.bool true) rfl rfl (by kernel_rfl) (by kernel_rfl) (by kernel_rfl) (fun _ _ _ h => h) (Or.inl ⟨by rfl, fun w _ => by go_simp⟩) ⟨hp2, hp3, hW⟩ ?_
          simp only [List.set_cons_zero, List.set_cons_succ]
          refine wpAnyH_ready (by kernel_rfl) (by simp) (readyCons 2 16 46 rfl rfl (by rfl) (fun K hK => wp_callF 8 #[] (by go_simp) (lives_any _ (gl.out _ hW)) ?_) AllReadyH.nil)
          rintro e w49 ⟨rfl, bx⟩
          replace hp2 := hp2.below bx hp2.lt
          replace hp3 := hp3.below bx hp3.lt
          replace hq6 := hq6.below bx hq6.lt
          replace hq7 := hq7.below bx hq7.lt
          replace hW := hW.trans (bx.mono (Nat.le_trans hB0 hW.size))
          clear bx
          refine ⟨_, rfl, hK.out _ _ ⟨hp2, hp3, hW⟩ (fun _ => ?_)⟩
          clear hK K
          simp only [List.set_cons_zero, List.set_cons_succ]
          refine takeH 1 17 47 (.bool true) rfl rfl (by kernel_rfl) (by kernel_rfl) (by kernel_rfl) (fun _ _ _ h => h) (Or.inl ⟨by rfl, fun w _ => by go_simp⟩) ⟨hp2, hp3, hW⟩ ?_
          simp only [List.set_cons_zero, List.set_cons_succ]
          refine takeH 0 18 0 (.bool true) rfl rfl (by kernel_rfl) (by kernel_rfl) (by kernel_rfl) (fun _ _ _ h => h) (Or.inl ⟨by rfl, fun w _ => by go_simp⟩) ⟨hp2, hp3, hW⟩ ?_
          simp only [List.set_cons_zero]
          refine wpAnyH_done (by kernel_rfl) ?_ _
          go_wp2_with fail
          go_ret
          exact ⟨rfl, hW⟩
end Go.Proofs.YtfnhjbamomolfaaDoor
