/-
  The walk of caissonref07.Overlap; facts about overlapping. (Printed by mk07.py.)
-/
import Derived.Test.YtpcdckhabaoieaaStm3
namespace Go.Proofs.Ytpcdckhabaoieaa
open Go.RowKit Sh

theorem ovl_sym (s c a b s2 c2 a2 b2 : Nat) : ovl s2 c2 a2 b2 s c a b = ovl s c a b s2 c2 a2 b2 := by
  unfold ovl
  have e1 : decide (s2 = s ∧ c2 = c) = decide (s = s2 ∧ c = c2) := by congr 1; apply propext; constructor <;> (rintro ⟨h1, h2⟩; exact ⟨h1.symm, h2.symm⟩)
  have e2 : decide (max a2 a ≤ min b2 b) = decide (max a a2 ≤ min b b2) := by congr 1; apply propext; omega
  rw [e1, e2]
  cases decide (a ≤ b) <;> cases decide (a2 ≤ b2) <;> rfl
theorem ovl_self (s c a b : Nat) : ovl s c a b s c a b = decide (a ≤ b) := by
  unfold ovl
  by_cases h : a ≤ b
  · rw [decide_eq_true h, decide_eq_true (show s = s ∧ c = c from ⟨rfl, rfl⟩), decide_eq_true (by omega)]; rfl
  · rw [decide_eq_false h]; rfl
theorem ovl_off (s c a b s2 c2 a2 b2 : Nat) (h : ¬ (s = s2 ∧ c = c2)) : ovl s c a b s2 c2 a2 b2 = false := by
  unfold ovl
  rw [decide_eq_false h]
  cases decide (a ≤ b) <;> cases decide (a2 ≤ b2) <;> rfl

set_option maxRecDepth 8000 in
set_option maxHeartbeats 2000000 in
theorem roverlap_any (s c a b s2 c2 a2 b2 : Nat) (r : Bool) (hr : ovl s c a b s2 c2 a2 b2 = r) (w : World) :
    Calls Try.prog 13 #[.agg (noV s c), .agg (noV s2 c2), .agg (r2V a b), .agg (r2V a2 b2)] w fun e' w' => e' = .returned (.bool r) ∧ Below w.heap.size w w' := by
  have hno := eqNoD s c s2 c2
  unfold ovl at hr
  obtain ⟨B0, hB0e⟩ : ∃ b, w.heap.size = b := ⟨_, rfl⟩
  rw [hB0e]
  have hW : Below B0 w w := by rw [← hB0e]; exact Below.refl _ _
  have hB0 : B0 ≤ w.heap.size := by omega
  have hB0q := Lib.hid hB0e
  clear hB0e
  by_cases h3 : s = s2 ∧ c = c2
  ·
    rw [decide_eq_true h3, Bool.true_and] at hr
    have hnq := Lib.hid (decide_eq_true h3)
    clear h3
    by_cases h1 : b < a
    ·
      have hI : (b : Int) < (a : Int) := by omega
      have heq : Hid (r = false) := Lib.hid (by rw [← hr, decide_eq_false (by omega)]; rfl)
      clear hr
      go_enter Try.func13, Try.ntmps13
      go_upto_region 0 with fail
      refine wl_lit ?_
      refine runWL 4 (.pointer (some ⟨w.heap.size, 0, none⟩)) (w.alloc (.cells (noV s c) 26)) rfl (by rfl) (exec_box 26 (.tmp 0) rfl (.agg (noV s c)) rfl) ?_
      simp only [List.set_cons_zero, List.set_cons_succ]
      have lw_p4 := Nat.le_trans hB0 hW.size
      have hp4 : Blk (w.alloc (.cells (noV s c) 26)) w.heap.size 26 (noV s c) := Blk.new _ _ _
      replace hW := hW.alloc (Nat.le_trans hB0 hW.size) (.cells (noV s c) 26)
      generalize w.alloc (.cells (noV s c) 26) = w1 at *
      generalize w.heap.size = p4 at hp4 lw_p4  ⊢
      refine runWL 5 (.pointer (some ⟨w1.heap.size, 0, none⟩)) (w1.alloc (.cells (noV s2 c2) 26)) rfl (by rfl) (exec_box 26 (.tmp 1) rfl (.agg (noV s2 c2)) rfl) ?_
      simp only [List.set_cons_zero, List.set_cons_succ]
      have lp4_p5 := hp4.lt
      have lw_p5 := Nat.le_trans hB0 hW.size
      have hp5 : Blk (w1.alloc (.cells (noV s2 c2) 26)) w1.heap.size 26 (noV s2 c2) := Blk.new _ _ _
      replace hp4 := hp4.alloc (.cells (noV s2 c2) 26)
      replace hW := hW.alloc (Nat.le_trans hB0 hW.size) (.cells (noV s2 c2) 26)
      generalize w1.alloc (.cells (noV s2 c2) 26) = w2 at *
      generalize w1.heap.size = p5 at hp5 lw_p5 lp4_p5 ⊢
      refine runWL 6 (.pointer (some ⟨w2.heap.size, 0, none⟩)) (w2.alloc (.cells (r2V a b) 33)) rfl (by rfl) (exec_box 33 (.tmp 2) rfl (.agg (r2V a b)) rfl) ?_
      simp only [List.set_cons_zero, List.set_cons_succ]
      have lp4_p6 := hp4.lt
      have lp5_p6 := hp5.lt
      have lw_p6 := Nat.le_trans hB0 hW.size
      have hp6 : Blk (w2.alloc (.cells (r2V a b) 33)) w2.heap.size 33 (r2V a b) := Blk.new _ _ _
      replace hp4 := hp4.alloc (.cells (r2V a b) 33)
      replace hp5 := hp5.alloc (.cells (r2V a b) 33)
      replace hW := hW.alloc (Nat.le_trans hB0 hW.size) (.cells (r2V a b) 33)
      generalize w2.alloc (.cells (r2V a b) 33) = w3 at *
      generalize w2.heap.size = p6 at hp6 lw_p6 lp4_p6 lp5_p6 ⊢
      refine runWL 7 (.pointer (some ⟨w3.heap.size, 0, none⟩)) (w3.alloc (.cells (r2V a2 b2) 33)) rfl (by rfl) (exec_box 33 (.tmp 3) rfl (.agg (r2V a2 b2)) rfl) ?_
      simp only [List.set_cons_zero, List.set_cons_succ]
      have lp4_p7 := hp4.lt
      have lp5_p7 := hp5.lt
      have lp6_p7 := hp6.lt
      have lw_p7 := Nat.le_trans hB0 hW.size
      have hp7 : Blk (w3.alloc (.cells (r2V a2 b2) 33)) w3.heap.size 33 (r2V a2 b2) := Blk.new _ _ _
      replace hp4 := hp4.alloc (.cells (r2V a2 b2) 33)
      replace hp5 := hp5.alloc (.cells (r2V a2 b2) 33)
      replace hp6 := hp6.alloc (.cells (r2V a2 b2) 33)
      replace hW := hW.alloc (Nat.le_trans hB0 hW.size) (.cells (r2V a2 b2) 33)
      generalize w3.alloc (.cells (r2V a2 b2) 33) = w4 at *
      generalize w3.heap.size = p7 at hp7 lw_p7 lp4_p7 lp5_p7 lp6_p7 ⊢
      refine runL 8 (.bool false) rfl (by rfl) (by go_simp) ?_
      simp only [List.set_cons_zero, List.set_cons_succ]
      refine nilL ?_
      go_upto_region 1 with fail
      refine wl_lit ?_
      refine runL 9 (.agg (noV s c)) rfl (by rfl) (exec_row 26 (.tmp 4) rfl p4 rfl 26 (noV s c) _ hp4 (by exact Try.underlying26) rfl (noV_sz _ _)) ?_
      simp only [List.set_cons_zero, List.set_cons_succ]
      refine runL 10 (.agg (noV s2 c2)) rfl (by rfl) (exec_row 26 (.tmp 5) rfl p5 rfl 26 (noV s2 c2) _ hp5 (by exact Try.underlying26) rfl (noV_sz _ _)) ?_
      simp only [List.set_cons_zero, List.set_cons_succ]
      refine runL 11 (.bool false) rfl (by rfl) (exec_neV 26 (by kernel_rfl) (.tmp 9) (.tmp 10) _ rfl (noV s c) (noV s2 c2) rfl rfl true false rfl (by rw [hno]; rw [hnq.out])) ?_
      simp only [List.set_cons_zero, List.set_cons_succ]
      refine runL 12 (.bool false) rfl (by rfl) (by go_simp) ?_
      simp only [List.set_cons_zero, List.set_cons_succ]
      refine runL 13 (.pointer (some ⟨p6, 0, none⟩)) rfl (by rfl) (by go_simp) ?_
      simp only [List.set_cons_zero, List.set_cons_succ]
      refine runL 14 (.int .u32 (((a : Nat) : Int))) rfl (by rfl) (exec_cell 23 (.tmp 13) rfl p6 0 rfl (.int .u32 (((a : Nat) : Int))) _ Try.underlying23 rfl (hp6.cellIs 0 rfl)) ?_
      simp only [List.set_cons_zero, List.set_cons_succ]
      refine runL 15 (.pointer (some ⟨p6, 1, none⟩)) rfl (by rfl) (by go_simp) ?_
      simp only [List.set_cons_zero, List.set_cons_succ]
      refine runL 16 (.int .u32 (((b : Nat) : Int))) rfl (by rfl) (exec_cell 23 (.tmp 15) rfl p6 1 rfl (.int .u32 (((b : Nat) : Int))) _ Try.underlying23 rfl (hp6.cellIs 1 rfl)) ?_
      simp only [List.set_cons_zero, List.set_cons_succ]
      refine runL 17 (.bool true) rfl (by rfl) (by go_simp) ?_
      simp only [List.set_cons_zero, List.set_cons_succ]
      refine runL 18 (.bool true) rfl (by rfl) (by go_simp) ?_
      simp only [List.set_cons_zero, List.set_cons_succ]
      refine runL 19 (.bool true) rfl (by rfl) (by go_simp) ?_
      simp only [List.set_cons_zero, List.set_cons_succ]
      refine skipL 20 rfl (by kernel_rfl) ?_
      simp only [List.set_cons_zero, List.set_cons_succ]
      refine skipL 21 rfl (by kernel_rfl) ?_
      simp only [List.set_cons_zero, List.set_cons_succ]
      refine skipL 22 rfl (by kernel_rfl) ?_
      simp only [List.set_cons_zero, List.set_cons_succ]
      refine skipL 23 rfl (by kernel_rfl) ?_
      simp only [List.set_cons_zero, List.set_cons_succ]
      refine skipL 24 rfl (by kernel_rfl) ?_
      simp only [List.set_cons_zero, List.set_cons_succ]
      refine runL 25 (.bool true) rfl (by rfl) (by go_simp) ?_
      simp only [List.set_cons_zero, List.set_cons_succ]
      refine nilL ?_
      go_upto_region 2 with fail
      refine wl_lit ?_
      refine runL 8 (.bool false) rfl (by rfl) (by go_simp) ?_
      simp only [List.set_cons_zero, List.set_cons_succ]
      refine nilL ?_
      go_wp2_with fail
      go_ret
      exact ⟨by rw [heq.out]; rfl, hW⟩
    have hI : ¬ (b : Int) < (a : Int) := by omega
    rw [decide_eq_true (show a ≤ b by omega), Bool.true_and] at hr
    by_cases h2 : b2 < a2
    ·
      have hI2 : (b2 : Int) < (a2 : Int) := by omega
      have heq : Hid (r = false) := Lib.hid (by rw [← hr, decide_eq_false (by omega)]; rfl)
      clear hr
      go_enter Try.func13, Try.ntmps13
      go_upto_region 0 with fail
      refine wl_lit ?_
      refine runWL 4 (.pointer (some ⟨w.heap.size, 0, none⟩)) (w.alloc (.cells (noV s c) 26)) rfl (by rfl) (exec_box 26 (.tmp 0) rfl (.agg (noV s c)) rfl) ?_
      simp only [List.set_cons_zero, List.set_cons_succ]
      have lw_p4 := Nat.le_trans hB0 hW.size
      have hp4 : Blk (w.alloc (.cells (noV s c) 26)) w.heap.size 26 (noV s c) := Blk.new _ _ _
      replace hW := hW.alloc (Nat.le_trans hB0 hW.size) (.cells (noV s c) 26)
      generalize w.alloc (.cells (noV s c) 26) = w5 at *
      generalize w.heap.size = p4 at hp4 lw_p4  ⊢
      refine runWL 5 (.pointer (some ⟨w5.heap.size, 0, none⟩)) (w5.alloc (.cells (noV s2 c2) 26)) rfl (by rfl) (exec_box 26 (.tmp 1) rfl (.agg (noV s2 c2)) rfl) ?_
      simp only [List.set_cons_zero, List.set_cons_succ]
      have lp4_p5 := hp4.lt
      have lw_p5 := Nat.le_trans hB0 hW.size
      have hp5 : Blk (w5.alloc (.cells (noV s2 c2) 26)) w5.heap.size 26 (noV s2 c2) := Blk.new _ _ _
      replace hp4 := hp4.alloc (.cells (noV s2 c2) 26)
      replace hW := hW.alloc (Nat.le_trans hB0 hW.size) (.cells (noV s2 c2) 26)
      generalize w5.alloc (.cells (noV s2 c2) 26) = w6 at *
      generalize w5.heap.size = p5 at hp5 lw_p5 lp4_p5 ⊢
      refine runWL 6 (.pointer (some ⟨w6.heap.size, 0, none⟩)) (w6.alloc (.cells (r2V a b) 33)) rfl (by rfl) (exec_box 33 (.tmp 2) rfl (.agg (r2V a b)) rfl) ?_
      simp only [List.set_cons_zero, List.set_cons_succ]
      have lp4_p6 := hp4.lt
      have lp5_p6 := hp5.lt
      have lw_p6 := Nat.le_trans hB0 hW.size
      have hp6 : Blk (w6.alloc (.cells (r2V a b) 33)) w6.heap.size 33 (r2V a b) := Blk.new _ _ _
      replace hp4 := hp4.alloc (.cells (r2V a b) 33)
      replace hp5 := hp5.alloc (.cells (r2V a b) 33)
      replace hW := hW.alloc (Nat.le_trans hB0 hW.size) (.cells (r2V a b) 33)
      generalize w6.alloc (.cells (r2V a b) 33) = w7 at *
      generalize w6.heap.size = p6 at hp6 lw_p6 lp4_p6 lp5_p6 ⊢
      refine runWL 7 (.pointer (some ⟨w7.heap.size, 0, none⟩)) (w7.alloc (.cells (r2V a2 b2) 33)) rfl (by rfl) (exec_box 33 (.tmp 3) rfl (.agg (r2V a2 b2)) rfl) ?_
      simp only [List.set_cons_zero, List.set_cons_succ]
      have lp4_p7 := hp4.lt
      have lp5_p7 := hp5.lt
      have lp6_p7 := hp6.lt
      have lw_p7 := Nat.le_trans hB0 hW.size
      have hp7 : Blk (w7.alloc (.cells (r2V a2 b2) 33)) w7.heap.size 33 (r2V a2 b2) := Blk.new _ _ _
      replace hp4 := hp4.alloc (.cells (r2V a2 b2) 33)
      replace hp5 := hp5.alloc (.cells (r2V a2 b2) 33)
      replace hp6 := hp6.alloc (.cells (r2V a2 b2) 33)
      replace hW := hW.alloc (Nat.le_trans hB0 hW.size) (.cells (r2V a2 b2) 33)
      generalize w7.alloc (.cells (r2V a2 b2) 33) = w8 at *
      generalize w7.heap.size = p7 at hp7 lw_p7 lp4_p7 lp5_p7 lp6_p7 ⊢
      refine runL 8 (.bool false) rfl (by rfl) (by go_simp) ?_
      simp only [List.set_cons_zero, List.set_cons_succ]
      refine nilL ?_
      go_upto_region 1 with fail
      refine wl_lit ?_
      refine runL 9 (.agg (noV s c)) rfl (by rfl) (exec_row 26 (.tmp 4) rfl p4 rfl 26 (noV s c) _ hp4 (by exact Try.underlying26) rfl (noV_sz _ _)) ?_
      simp only [List.set_cons_zero, List.set_cons_succ]
      refine runL 10 (.agg (noV s2 c2)) rfl (by rfl) (exec_row 26 (.tmp 5) rfl p5 rfl 26 (noV s2 c2) _ hp5 (by exact Try.underlying26) rfl (noV_sz _ _)) ?_
      simp only [List.set_cons_zero, List.set_cons_succ]
      refine runL 11 (.bool false) rfl (by rfl) (exec_neV 26 (by kernel_rfl) (.tmp 9) (.tmp 10) _ rfl (noV s c) (noV s2 c2) rfl rfl true false rfl (by rw [hno]; rw [hnq.out])) ?_
      simp only [List.set_cons_zero, List.set_cons_succ]
      refine runL 12 (.bool false) rfl (by rfl) (by go_simp) ?_
      simp only [List.set_cons_zero, List.set_cons_succ]
      refine runL 13 (.pointer (some ⟨p6, 0, none⟩)) rfl (by rfl) (by go_simp) ?_
      simp only [List.set_cons_zero, List.set_cons_succ]
      refine runL 14 (.int .u32 (((a : Nat) : Int))) rfl (by rfl) (exec_cell 23 (.tmp 13) rfl p6 0 rfl (.int .u32 (((a : Nat) : Int))) _ Try.underlying23 rfl (hp6.cellIs 0 rfl)) ?_
      simp only [List.set_cons_zero, List.set_cons_succ]
      refine runL 15 (.pointer (some ⟨p6, 1, none⟩)) rfl (by rfl) (by go_simp) ?_
      simp only [List.set_cons_zero, List.set_cons_succ]
      refine runL 16 (.int .u32 (((b : Nat) : Int))) rfl (by rfl) (exec_cell 23 (.tmp 15) rfl p6 1 rfl (.int .u32 (((b : Nat) : Int))) _ Try.underlying23 rfl (hp6.cellIs 1 rfl)) ?_
      simp only [List.set_cons_zero, List.set_cons_succ]
      refine runL 17 (.bool false) rfl (by rfl) (by go_simp) ?_
      simp only [List.set_cons_zero, List.set_cons_succ]
      refine runL 18 (.bool false) rfl (by rfl) (by go_simp) ?_
      simp only [List.set_cons_zero, List.set_cons_succ]
      refine runL 19 (.bool false) rfl (by rfl) (by go_simp) ?_
      simp only [List.set_cons_zero, List.set_cons_succ]
      refine runL 20 (.pointer (some ⟨p7, 0, none⟩)) rfl (by rfl) (by go_simp) ?_
      simp only [List.set_cons_zero, List.set_cons_succ]
      refine runL 21 (.int .u32 (((a2 : Nat) : Int))) rfl (by rfl) (exec_cell 23 (.tmp 20) rfl p7 0 rfl (.int .u32 (((a2 : Nat) : Int))) _ Try.underlying23 rfl (hp7.cellIs 0 rfl)) ?_
      simp only [List.set_cons_zero, List.set_cons_succ]
      refine runL 22 (.pointer (some ⟨p7, 1, none⟩)) rfl (by rfl) (by go_simp) ?_
      simp only [List.set_cons_zero, List.set_cons_succ]
      refine runL 23 (.int .u32 (((b2 : Nat) : Int))) rfl (by rfl) (exec_cell 23 (.tmp 22) rfl p7 1 rfl (.int .u32 (((b2 : Nat) : Int))) _ Try.underlying23 rfl (hp7.cellIs 1 rfl)) ?_
      simp only [List.set_cons_zero, List.set_cons_succ]
      refine runL 24 (.bool true) rfl (by rfl) (by go_simp) ?_
      simp only [List.set_cons_zero, List.set_cons_succ]
      refine runL 25 (.bool true) rfl (by rfl) (by go_simp) ?_
      simp only [List.set_cons_zero, List.set_cons_succ]
      refine nilL ?_
      go_upto_region 2 with fail
      refine wl_lit ?_
      refine runL 8 (.bool false) rfl (by rfl) (by go_simp) ?_
      simp only [List.set_cons_zero, List.set_cons_succ]
      refine nilL ?_
      go_wp2_with fail
      go_ret
      exact ⟨by rw [heq.out]; rfl, hW⟩
    have hI2 : ¬ (b2 : Int) < (a2 : Int) := by omega
    rw [decide_eq_true (show a2 ≤ b2 by omega), Bool.true_and] at hr
    by_cases h4 : a2 ≤ a
    ·
      have hI4 : (a2 : Int) ≤ (a : Int) := by omega
      by_cases h5 : a ≤ b2
      ·
        have hI5 : (a : Int) ≤ (b2 : Int) := by omega
        have heq : Hid (r = true) := Lib.hid (by rw [← hr, decide_eq_true (by omega)])
        clear hr
        go_enter Try.func13, Try.ntmps13
        go_upto_region 0 with fail
        refine wl_lit ?_
        refine runWL 4 (.pointer (some ⟨w.heap.size, 0, none⟩)) (w.alloc (.cells (noV s c) 26)) rfl (by rfl) (exec_box 26 (.tmp 0) rfl (.agg (noV s c)) rfl) ?_
        simp only [List.set_cons_zero, List.set_cons_succ]
        have lw_p4 := Nat.le_trans hB0 hW.size
        have hp4 : Blk (w.alloc (.cells (noV s c) 26)) w.heap.size 26 (noV s c) := Blk.new _ _ _
        replace hW := hW.alloc (Nat.le_trans hB0 hW.size) (.cells (noV s c) 26)
        generalize w.alloc (.cells (noV s c) 26) = w9 at *
        generalize w.heap.size = p4 at hp4 lw_p4  ⊢
        refine runWL 5 (.pointer (some ⟨w9.heap.size, 0, none⟩)) (w9.alloc (.cells (noV s2 c2) 26)) rfl (by rfl) (exec_box 26 (.tmp 1) rfl (.agg (noV s2 c2)) rfl) ?_
        simp only [List.set_cons_zero, List.set_cons_succ]
        have lp4_p5 := hp4.lt
        have lw_p5 := Nat.le_trans hB0 hW.size
        have hp5 : Blk (w9.alloc (.cells (noV s2 c2) 26)) w9.heap.size 26 (noV s2 c2) := Blk.new _ _ _
        replace hp4 := hp4.alloc (.cells (noV s2 c2) 26)
        replace hW := hW.alloc (Nat.le_trans hB0 hW.size) (.cells (noV s2 c2) 26)
        generalize w9.alloc (.cells (noV s2 c2) 26) = w10 at *
        generalize w9.heap.size = p5 at hp5 lw_p5 lp4_p5 ⊢
        refine runWL 6 (.pointer (some ⟨w10.heap.size, 0, none⟩)) (w10.alloc (.cells (r2V a b) 33)) rfl (by rfl) (exec_box 33 (.tmp 2) rfl (.agg (r2V a b)) rfl) ?_
        simp only [List.set_cons_zero, List.set_cons_succ]
        have lp4_p6 := hp4.lt
        have lp5_p6 := hp5.lt
        have lw_p6 := Nat.le_trans hB0 hW.size
        have hp6 : Blk (w10.alloc (.cells (r2V a b) 33)) w10.heap.size 33 (r2V a b) := Blk.new _ _ _
        replace hp4 := hp4.alloc (.cells (r2V a b) 33)
        replace hp5 := hp5.alloc (.cells (r2V a b) 33)
        replace hW := hW.alloc (Nat.le_trans hB0 hW.size) (.cells (r2V a b) 33)
        generalize w10.alloc (.cells (r2V a b) 33) = w11 at *
        generalize w10.heap.size = p6 at hp6 lw_p6 lp4_p6 lp5_p6 ⊢
        refine runWL 7 (.pointer (some ⟨w11.heap.size, 0, none⟩)) (w11.alloc (.cells (r2V a2 b2) 33)) rfl (by rfl) (exec_box 33 (.tmp 3) rfl (.agg (r2V a2 b2)) rfl) ?_
        simp only [List.set_cons_zero, List.set_cons_succ]
        have lp4_p7 := hp4.lt
        have lp5_p7 := hp5.lt
        have lp6_p7 := hp6.lt
        have lw_p7 := Nat.le_trans hB0 hW.size
        have hp7 : Blk (w11.alloc (.cells (r2V a2 b2) 33)) w11.heap.size 33 (r2V a2 b2) := Blk.new _ _ _
        replace hp4 := hp4.alloc (.cells (r2V a2 b2) 33)
        replace hp5 := hp5.alloc (.cells (r2V a2 b2) 33)
        replace hp6 := hp6.alloc (.cells (r2V a2 b2) 33)
        replace hW := hW.alloc (Nat.le_trans hB0 hW.size) (.cells (r2V a2 b2) 33)
        generalize w11.alloc (.cells (r2V a2 b2) 33) = w12 at *
        generalize w11.heap.size = p7 at hp7 lw_p7 lp4_p7 lp5_p7 lp6_p7 ⊢
        refine runL 8 (.bool false) rfl (by rfl) (by go_simp) ?_
        simp only [List.set_cons_zero, List.set_cons_succ]
        refine nilL ?_
        go_upto_region 1 with fail
        refine wl_lit ?_
        refine runL 9 (.agg (noV s c)) rfl (by rfl) (exec_row 26 (.tmp 4) rfl p4 rfl 26 (noV s c) _ hp4 (by exact Try.underlying26) rfl (noV_sz _ _)) ?_
        simp only [List.set_cons_zero, List.set_cons_succ]
        refine runL 10 (.agg (noV s2 c2)) rfl (by rfl) (exec_row 26 (.tmp 5) rfl p5 rfl 26 (noV s2 c2) _ hp5 (by exact Try.underlying26) rfl (noV_sz _ _)) ?_
        simp only [List.set_cons_zero, List.set_cons_succ]
        refine runL 11 (.bool false) rfl (by rfl) (exec_neV 26 (by kernel_rfl) (.tmp 9) (.tmp 10) _ rfl (noV s c) (noV s2 c2) rfl rfl true false rfl (by rw [hno]; rw [hnq.out])) ?_
        simp only [List.set_cons_zero, List.set_cons_succ]
        refine runL 12 (.bool false) rfl (by rfl) (by go_simp) ?_
        simp only [List.set_cons_zero, List.set_cons_succ]
        refine runL 13 (.pointer (some ⟨p6, 0, none⟩)) rfl (by rfl) (by go_simp) ?_
        simp only [List.set_cons_zero, List.set_cons_succ]
        refine runL 14 (.int .u32 (((a : Nat) : Int))) rfl (by rfl) (exec_cell 23 (.tmp 13) rfl p6 0 rfl (.int .u32 (((a : Nat) : Int))) _ Try.underlying23 rfl (hp6.cellIs 0 rfl)) ?_
        simp only [List.set_cons_zero, List.set_cons_succ]
        refine runL 15 (.pointer (some ⟨p6, 1, none⟩)) rfl (by rfl) (by go_simp) ?_
        simp only [List.set_cons_zero, List.set_cons_succ]
        refine runL 16 (.int .u32 (((b : Nat) : Int))) rfl (by rfl) (exec_cell 23 (.tmp 15) rfl p6 1 rfl (.int .u32 (((b : Nat) : Int))) _ Try.underlying23 rfl (hp6.cellIs 1 rfl)) ?_
        simp only [List.set_cons_zero, List.set_cons_succ]
        refine runL 17 (.bool false) rfl (by rfl) (by go_simp) ?_
        simp only [List.set_cons_zero, List.set_cons_succ]
        refine runL 18 (.bool false) rfl (by rfl) (by go_simp) ?_
        simp only [List.set_cons_zero, List.set_cons_succ]
        refine runL 19 (.bool false) rfl (by rfl) (by go_simp) ?_
        simp only [List.set_cons_zero, List.set_cons_succ]
        refine runL 20 (.pointer (some ⟨p7, 0, none⟩)) rfl (by rfl) (by go_simp) ?_
        simp only [List.set_cons_zero, List.set_cons_succ]
        refine runL 21 (.int .u32 (((a2 : Nat) : Int))) rfl (by rfl) (exec_cell 23 (.tmp 20) rfl p7 0 rfl (.int .u32 (((a2 : Nat) : Int))) _ Try.underlying23 rfl (hp7.cellIs 0 rfl)) ?_
        simp only [List.set_cons_zero, List.set_cons_succ]
        refine runL 22 (.pointer (some ⟨p7, 1, none⟩)) rfl (by rfl) (by go_simp) ?_
        simp only [List.set_cons_zero, List.set_cons_succ]
        refine runL 23 (.int .u32 (((b2 : Nat) : Int))) rfl (by rfl) (exec_cell 23 (.tmp 22) rfl p7 1 rfl (.int .u32 (((b2 : Nat) : Int))) _ Try.underlying23 rfl (hp7.cellIs 1 rfl)) ?_
        simp only [List.set_cons_zero, List.set_cons_succ]
        refine runL 24 (.bool false) rfl (by rfl) (by go_simp) ?_
        simp only [List.set_cons_zero, List.set_cons_succ]
        refine runL 25 (.bool false) rfl (by rfl) (by go_simp) ?_
        simp only [List.set_cons_zero, List.set_cons_succ]
        refine nilL ?_
        go_upto_region 3 with fail
        refine wl_lit ?_
        refine runL 26 (.pointer (some ⟨p6, 0, none⟩)) rfl (by rfl) (by go_simp) ?_
        simp only [List.set_cons_zero, List.set_cons_succ]
        refine runL 27 (.int .u32 (((a : Nat) : Int))) rfl (by rfl) (exec_cell 23 (.tmp 26) rfl p6 0 rfl (.int .u32 (((a : Nat) : Int))) _ Try.underlying23 rfl (hp6.cellIs 0 rfl)) ?_
        simp only [List.set_cons_zero, List.set_cons_succ]
        refine runL 28 (.pointer (some ⟨p7, 0, none⟩)) rfl (by rfl) (by go_simp) ?_
        simp only [List.set_cons_zero, List.set_cons_succ]
        refine runL 29 (.int .u32 (((a2 : Nat) : Int))) rfl (by rfl) (exec_cell 23 (.tmp 28) rfl p7 0 rfl (.int .u32 (((a2 : Nat) : Int))) _ Try.underlying23 rfl (hp7.cellIs 0 rfl)) ?_
        simp only [List.set_cons_zero, List.set_cons_succ]
        refine runL 30 (.bool true) rfl (by rfl) (by go_simp) ?_
        simp only [List.set_cons_zero, List.set_cons_succ]
        refine runL 31 (.bool true) rfl (by rfl) (by go_simp) ?_
        simp only [List.set_cons_zero, List.set_cons_succ]
        refine runL 32 (.pointer (some ⟨p6, 0, none⟩)) rfl (by rfl) (by go_simp) ?_
        simp only [List.set_cons_zero, List.set_cons_succ]
        refine runL 33 (.int .u32 (((a : Nat) : Int))) rfl (by rfl) (exec_cell 23 (.tmp 32) rfl p6 0 rfl (.int .u32 (((a : Nat) : Int))) _ Try.underlying23 rfl (hp6.cellIs 0 rfl)) ?_
        simp only [List.set_cons_zero, List.set_cons_succ]
        refine runL 34 (.pointer (some ⟨p7, 1, none⟩)) rfl (by rfl) (by go_simp) ?_
        simp only [List.set_cons_zero, List.set_cons_succ]
        refine runL 35 (.int .u32 (((b2 : Nat) : Int))) rfl (by rfl) (exec_cell 23 (.tmp 34) rfl p7 1 rfl (.int .u32 (((b2 : Nat) : Int))) _ Try.underlying23 rfl (hp7.cellIs 1 rfl)) ?_
        simp only [List.set_cons_zero, List.set_cons_succ]
        refine runL 36 (.bool true) rfl (by rfl) (by go_simp) ?_
        simp only [List.set_cons_zero, List.set_cons_succ]
        refine runL 37 (.bool true) rfl (by rfl) (by go_simp) ?_
        simp only [List.set_cons_zero, List.set_cons_succ]
        refine runL 38 (.bool true) rfl (by rfl) (by go_simp) ?_
        simp only [List.set_cons_zero, List.set_cons_succ]
        refine skipL 39 rfl (by kernel_rfl) ?_
        simp only [List.set_cons_zero, List.set_cons_succ]
        refine skipL 40 rfl (by kernel_rfl) ?_
        simp only [List.set_cons_zero, List.set_cons_succ]
        refine skipL 41 rfl (by kernel_rfl) ?_
        simp only [List.set_cons_zero, List.set_cons_succ]
        refine skipL 42 rfl (by kernel_rfl) ?_
        simp only [List.set_cons_zero, List.set_cons_succ]
        refine skipL 43 rfl (by kernel_rfl) ?_
        simp only [List.set_cons_zero, List.set_cons_succ]
        refine skipL 44 rfl (by kernel_rfl) ?_
        simp only [List.set_cons_zero, List.set_cons_succ]
        refine skipL 45 rfl (by kernel_rfl) ?_
        simp only [List.set_cons_zero, List.set_cons_succ]
        refine skipL 46 rfl (by kernel_rfl) ?_
        simp only [List.set_cons_zero, List.set_cons_succ]
        refine skipL 47 rfl (by kernel_rfl) ?_
        simp only [List.set_cons_zero, List.set_cons_succ]
        refine skipL 48 rfl (by kernel_rfl) ?_
        simp only [List.set_cons_zero, List.set_cons_succ]
        refine skipL 49 rfl (by kernel_rfl) ?_
        simp only [List.set_cons_zero, List.set_cons_succ]
        refine skipL 50 rfl (by kernel_rfl) ?_
        simp only [List.set_cons_zero, List.set_cons_succ]
        refine runL 51 (.bool true) rfl (by rfl) (by go_simp) ?_
        simp only [List.set_cons_zero, List.set_cons_succ]
        refine runL 8 (.bool true) rfl (by rfl) (by go_simp) ?_
        simp only [List.set_cons_zero, List.set_cons_succ]
        refine nilL ?_
        go_wp2_with fail
        go_ret
        exact ⟨by rw [heq.out]; rfl, hW⟩
      ·
        have hI5 : ¬ (a : Int) ≤ (b2 : Int) := by omega
        have hI6 : ¬ (a : Int) ≤ (a2 : Int) := by omega
        have heq : Hid (r = false) := Lib.hid (by rw [← hr, decide_eq_false (by omega)])
        clear hr
        go_enter Try.func13, Try.ntmps13
        go_upto_region 0 with fail
        refine wl_lit ?_
        refine runWL 4 (.pointer (some ⟨w.heap.size, 0, none⟩)) (w.alloc (.cells (noV s c) 26)) rfl (by rfl) (exec_box 26 (.tmp 0) rfl (.agg (noV s c)) rfl) ?_
        simp only [List.set_cons_zero, List.set_cons_succ]
        have lw_p4 := Nat.le_trans hB0 hW.size
        have hp4 : Blk (w.alloc (.cells (noV s c) 26)) w.heap.size 26 (noV s c) := Blk.new _ _ _
        replace hW := hW.alloc (Nat.le_trans hB0 hW.size) (.cells (noV s c) 26)
        generalize w.alloc (.cells (noV s c) 26) = w13 at *
        generalize w.heap.size = p4 at hp4 lw_p4  ⊢
        refine runWL 5 (.pointer (some ⟨w13.heap.size, 0, none⟩)) (w13.alloc (.cells (noV s2 c2) 26)) rfl (by rfl) (exec_box 26 (.tmp 1) rfl (.agg (noV s2 c2)) rfl) ?_
        simp only [List.set_cons_zero, List.set_cons_succ]
        have lp4_p5 := hp4.lt
        have lw_p5 := Nat.le_trans hB0 hW.size
        have hp5 : Blk (w13.alloc (.cells (noV s2 c2) 26)) w13.heap.size 26 (noV s2 c2) := Blk.new _ _ _
        replace hp4 := hp4.alloc (.cells (noV s2 c2) 26)
        replace hW := hW.alloc (Nat.le_trans hB0 hW.size) (.cells (noV s2 c2) 26)
        generalize w13.alloc (.cells (noV s2 c2) 26) = w14 at *
        generalize w13.heap.size = p5 at hp5 lw_p5 lp4_p5 ⊢
        refine runWL 6 (.pointer (some ⟨w14.heap.size, 0, none⟩)) (w14.alloc (.cells (r2V a b) 33)) rfl (by rfl) (exec_box 33 (.tmp 2) rfl (.agg (r2V a b)) rfl) ?_
        simp only [List.set_cons_zero, List.set_cons_succ]
        have lp4_p6 := hp4.lt
        have lp5_p6 := hp5.lt
        have lw_p6 := Nat.le_trans hB0 hW.size
        have hp6 : Blk (w14.alloc (.cells (r2V a b) 33)) w14.heap.size 33 (r2V a b) := Blk.new _ _ _
        replace hp4 := hp4.alloc (.cells (r2V a b) 33)
        replace hp5 := hp5.alloc (.cells (r2V a b) 33)
        replace hW := hW.alloc (Nat.le_trans hB0 hW.size) (.cells (r2V a b) 33)
        generalize w14.alloc (.cells (r2V a b) 33) = w15 at *
        generalize w14.heap.size = p6 at hp6 lw_p6 lp4_p6 lp5_p6 ⊢
        refine runWL 7 (.pointer (some ⟨w15.heap.size, 0, none⟩)) (w15.alloc (.cells (r2V a2 b2) 33)) rfl (by rfl) (exec_box 33 (.tmp 3) rfl (.agg (r2V a2 b2)) rfl) ?_
        simp only [List.set_cons_zero, List.set_cons_succ]
        have lp4_p7 := hp4.lt
        have lp5_p7 := hp5.lt
        have lp6_p7 := hp6.lt
        have lw_p7 := Nat.le_trans hB0 hW.size
        have hp7 : Blk (w15.alloc (.cells (r2V a2 b2) 33)) w15.heap.size 33 (r2V a2 b2) := Blk.new _ _ _
        replace hp4 := hp4.alloc (.cells (r2V a2 b2) 33)
        replace hp5 := hp5.alloc (.cells (r2V a2 b2) 33)
        replace hp6 := hp6.alloc (.cells (r2V a2 b2) 33)
        replace hW := hW.alloc (Nat.le_trans hB0 hW.size) (.cells (r2V a2 b2) 33)
        generalize w15.alloc (.cells (r2V a2 b2) 33) = w16 at *
        generalize w15.heap.size = p7 at hp7 lw_p7 lp4_p7 lp5_p7 lp6_p7 ⊢
        refine runL 8 (.bool false) rfl (by rfl) (by go_simp) ?_
        simp only [List.set_cons_zero, List.set_cons_succ]
        refine nilL ?_
        go_upto_region 1 with fail
        refine wl_lit ?_
        refine runL 9 (.agg (noV s c)) rfl (by rfl) (exec_row 26 (.tmp 4) rfl p4 rfl 26 (noV s c) _ hp4 (by exact Try.underlying26) rfl (noV_sz _ _)) ?_
        simp only [List.set_cons_zero, List.set_cons_succ]
        refine runL 10 (.agg (noV s2 c2)) rfl (by rfl) (exec_row 26 (.tmp 5) rfl p5 rfl 26 (noV s2 c2) _ hp5 (by exact Try.underlying26) rfl (noV_sz _ _)) ?_
        simp only [List.set_cons_zero, List.set_cons_succ]
        refine runL 11 (.bool false) rfl (by rfl) (exec_neV 26 (by kernel_rfl) (.tmp 9) (.tmp 10) _ rfl (noV s c) (noV s2 c2) rfl rfl true false rfl (by rw [hno]; rw [hnq.out])) ?_
        simp only [List.set_cons_zero, List.set_cons_succ]
        refine runL 12 (.bool false) rfl (by rfl) (by go_simp) ?_
        simp only [List.set_cons_zero, List.set_cons_succ]
        refine runL 13 (.pointer (some ⟨p6, 0, none⟩)) rfl (by rfl) (by go_simp) ?_
        simp only [List.set_cons_zero, List.set_cons_succ]
        refine runL 14 (.int .u32 (((a : Nat) : Int))) rfl (by rfl) (exec_cell 23 (.tmp 13) rfl p6 0 rfl (.int .u32 (((a : Nat) : Int))) _ Try.underlying23 rfl (hp6.cellIs 0 rfl)) ?_
        simp only [List.set_cons_zero, List.set_cons_succ]
        refine runL 15 (.pointer (some ⟨p6, 1, none⟩)) rfl (by rfl) (by go_simp) ?_
        simp only [List.set_cons_zero, List.set_cons_succ]
        refine runL 16 (.int .u32 (((b : Nat) : Int))) rfl (by rfl) (exec_cell 23 (.tmp 15) rfl p6 1 rfl (.int .u32 (((b : Nat) : Int))) _ Try.underlying23 rfl (hp6.cellIs 1 rfl)) ?_
        simp only [List.set_cons_zero, List.set_cons_succ]
        refine runL 17 (.bool false) rfl (by rfl) (by go_simp) ?_
        simp only [List.set_cons_zero, List.set_cons_succ]
        refine runL 18 (.bool false) rfl (by rfl) (by go_simp) ?_
        simp only [List.set_cons_zero, List.set_cons_succ]
        refine runL 19 (.bool false) rfl (by rfl) (by go_simp) ?_
        simp only [List.set_cons_zero, List.set_cons_succ]
        refine runL 20 (.pointer (some ⟨p7, 0, none⟩)) rfl (by rfl) (by go_simp) ?_
        simp only [List.set_cons_zero, List.set_cons_succ]
        refine runL 21 (.int .u32 (((a2 : Nat) : Int))) rfl (by rfl) (exec_cell 23 (.tmp 20) rfl p7 0 rfl (.int .u32 (((a2 : Nat) : Int))) _ Try.underlying23 rfl (hp7.cellIs 0 rfl)) ?_
        simp only [List.set_cons_zero, List.set_cons_succ]
        refine runL 22 (.pointer (some ⟨p7, 1, none⟩)) rfl (by rfl) (by go_simp) ?_
        simp only [List.set_cons_zero, List.set_cons_succ]
        refine runL 23 (.int .u32 (((b2 : Nat) : Int))) rfl (by rfl) (exec_cell 23 (.tmp 22) rfl p7 1 rfl (.int .u32 (((b2 : Nat) : Int))) _ Try.underlying23 rfl (hp7.cellIs 1 rfl)) ?_
        simp only [List.set_cons_zero, List.set_cons_succ]
        refine runL 24 (.bool false) rfl (by rfl) (by go_simp) ?_
        simp only [List.set_cons_zero, List.set_cons_succ]
        refine runL 25 (.bool false) rfl (by rfl) (by go_simp) ?_
        simp only [List.set_cons_zero, List.set_cons_succ]
        refine nilL ?_
        go_upto_region 3 with fail
        refine wl_lit ?_
        refine runL 26 (.pointer (some ⟨p6, 0, none⟩)) rfl (by rfl) (by go_simp) ?_
        simp only [List.set_cons_zero, List.set_cons_succ]
        refine runL 27 (.int .u32 (((a : Nat) : Int))) rfl (by rfl) (exec_cell 23 (.tmp 26) rfl p6 0 rfl (.int .u32 (((a : Nat) : Int))) _ Try.underlying23 rfl (hp6.cellIs 0 rfl)) ?_
        simp only [List.set_cons_zero, List.set_cons_succ]
        refine runL 28 (.pointer (some ⟨p7, 0, none⟩)) rfl (by rfl) (by go_simp) ?_
        simp only [List.set_cons_zero, List.set_cons_succ]
        refine runL 29 (.int .u32 (((a2 : Nat) : Int))) rfl (by rfl) (exec_cell 23 (.tmp 28) rfl p7 0 rfl (.int .u32 (((a2 : Nat) : Int))) _ Try.underlying23 rfl (hp7.cellIs 0 rfl)) ?_
        simp only [List.set_cons_zero, List.set_cons_succ]
        refine runL 30 (.bool true) rfl (by rfl) (by go_simp) ?_
        simp only [List.set_cons_zero, List.set_cons_succ]
        refine runL 31 (.bool true) rfl (by rfl) (by go_simp) ?_
        simp only [List.set_cons_zero, List.set_cons_succ]
        refine runL 32 (.pointer (some ⟨p6, 0, none⟩)) rfl (by rfl) (by go_simp) ?_
        simp only [List.set_cons_zero, List.set_cons_succ]
        refine runL 33 (.int .u32 (((a : Nat) : Int))) rfl (by rfl) (exec_cell 23 (.tmp 32) rfl p6 0 rfl (.int .u32 (((a : Nat) : Int))) _ Try.underlying23 rfl (hp6.cellIs 0 rfl)) ?_
        simp only [List.set_cons_zero, List.set_cons_succ]
        refine runL 34 (.pointer (some ⟨p7, 1, none⟩)) rfl (by rfl) (by go_simp) ?_
        simp only [List.set_cons_zero, List.set_cons_succ]
        refine runL 35 (.int .u32 (((b2 : Nat) : Int))) rfl (by rfl) (exec_cell 23 (.tmp 34) rfl p7 1 rfl (.int .u32 (((b2 : Nat) : Int))) _ Try.underlying23 rfl (hp7.cellIs 1 rfl)) ?_
        simp only [List.set_cons_zero, List.set_cons_succ]
        refine runL 36 (.bool false) rfl (by rfl) (by go_simp) ?_
        simp only [List.set_cons_zero, List.set_cons_succ]
        refine runL 37 (.bool false) rfl (by rfl) (by go_simp) ?_
        simp only [List.set_cons_zero, List.set_cons_succ]
        refine runL 38 (.bool false) rfl (by rfl) (by go_simp) ?_
        simp only [List.set_cons_zero, List.set_cons_succ]
        refine runL 39 (.pointer (some ⟨p7, 0, none⟩)) rfl (by rfl) (by go_simp) ?_
        simp only [List.set_cons_zero, List.set_cons_succ]
        refine runL 40 (.int .u32 (((a2 : Nat) : Int))) rfl (by rfl) (exec_cell 23 (.tmp 39) rfl p7 0 rfl (.int .u32 (((a2 : Nat) : Int))) _ Try.underlying23 rfl (hp7.cellIs 0 rfl)) ?_
        simp only [List.set_cons_zero, List.set_cons_succ]
        refine runL 41 (.pointer (some ⟨p6, 0, none⟩)) rfl (by rfl) (by go_simp) ?_
        simp only [List.set_cons_zero, List.set_cons_succ]
        refine runL 42 (.int .u32 (((a : Nat) : Int))) rfl (by rfl) (exec_cell 23 (.tmp 41) rfl p6 0 rfl (.int .u32 (((a : Nat) : Int))) _ Try.underlying23 rfl (hp6.cellIs 0 rfl)) ?_
        simp only [List.set_cons_zero, List.set_cons_succ]
        refine runL 43 (.bool false) rfl (by rfl) (by go_simp) ?_
        simp only [List.set_cons_zero, List.set_cons_succ]
        refine runL 44 (.bool false) rfl (by rfl) (by go_simp) ?_
        simp only [List.set_cons_zero, List.set_cons_succ]
        refine skipL 45 rfl (by kernel_rfl) ?_
        simp only [List.set_cons_zero, List.set_cons_succ]
        refine skipL 46 rfl (by kernel_rfl) ?_
        simp only [List.set_cons_zero, List.set_cons_succ]
        refine skipL 47 rfl (by kernel_rfl) ?_
        simp only [List.set_cons_zero, List.set_cons_succ]
        refine skipL 48 rfl (by kernel_rfl) ?_
        simp only [List.set_cons_zero, List.set_cons_succ]
        refine skipL 49 rfl (by kernel_rfl) ?_
        simp only [List.set_cons_zero, List.set_cons_succ]
        refine runL 50 (.bool false) rfl (by rfl) (by go_simp) ?_
        simp only [List.set_cons_zero, List.set_cons_succ]
        refine runL 51 (.bool false) rfl (by rfl) (by go_simp) ?_
        simp only [List.set_cons_zero, List.set_cons_succ]
        refine runL 8 (.bool false) rfl (by rfl) (by go_simp) ?_
        simp only [List.set_cons_zero, List.set_cons_succ]
        refine nilL ?_
        go_wp2_with fail
        go_ret
        exact ⟨by rw [heq.out]; rfl, hW⟩
    ·
      have hI4 : ¬ (a2 : Int) ≤ (a : Int) := by omega
      have hI6 : (a : Int) ≤ (a2 : Int) := by omega
      by_cases h5 : a2 ≤ b
      ·
        have hI5 : (a2 : Int) ≤ (b : Int) := by omega
        have heq : Hid (r = true) := Lib.hid (by rw [← hr, decide_eq_true (by omega)])
        clear hr
        go_enter Try.func13, Try.ntmps13
        go_upto_region 0 with fail
        refine wl_lit ?_
        refine runWL 4 (.pointer (some ⟨w.heap.size, 0, none⟩)) (w.alloc (.cells (noV s c) 26)) rfl (by rfl) (exec_box 26 (.tmp 0) rfl (.agg (noV s c)) rfl) ?_
        simp only [List.set_cons_zero, List.set_cons_succ]
        have lw_p4 := Nat.le_trans hB0 hW.size
        have hp4 : Blk (w.alloc (.cells (noV s c) 26)) w.heap.size 26 (noV s c) := Blk.new _ _ _
        replace hW := hW.alloc (Nat.le_trans hB0 hW.size) (.cells (noV s c) 26)
        generalize w.alloc (.cells (noV s c) 26) = w17 at *
        generalize w.heap.size = p4 at hp4 lw_p4  ⊢
        refine runWL 5 (.pointer (some ⟨w17.heap.size, 0, none⟩)) (w17.alloc (.cells (noV s2 c2) 26)) rfl (by rfl) (exec_box 26 (.tmp 1) rfl (.agg (noV s2 c2)) rfl) ?_
        simp only [List.set_cons_zero, List.set_cons_succ]
        have lp4_p5 := hp4.lt
        have lw_p5 := Nat.le_trans hB0 hW.size
        have hp5 : Blk (w17.alloc (.cells (noV s2 c2) 26)) w17.heap.size 26 (noV s2 c2) := Blk.new _ _ _
        replace hp4 := hp4.alloc (.cells (noV s2 c2) 26)
        replace hW := hW.alloc (Nat.le_trans hB0 hW.size) (.cells (noV s2 c2) 26)
        generalize w17.alloc (.cells (noV s2 c2) 26) = w18 at *
        generalize w17.heap.size = p5 at hp5 lw_p5 lp4_p5 ⊢
        refine runWL 6 (.pointer (some ⟨w18.heap.size, 0, none⟩)) (w18.alloc (.cells (r2V a b) 33)) rfl (by rfl) (exec_box 33 (.tmp 2) rfl (.agg (r2V a b)) rfl) ?_
        simp only [List.set_cons_zero, List.set_cons_succ]
        have lp4_p6 := hp4.lt
        have lp5_p6 := hp5.lt
        have lw_p6 := Nat.le_trans hB0 hW.size
        have hp6 : Blk (w18.alloc (.cells (r2V a b) 33)) w18.heap.size 33 (r2V a b) := Blk.new _ _ _
        replace hp4 := hp4.alloc (.cells (r2V a b) 33)
        replace hp5 := hp5.alloc (.cells (r2V a b) 33)
        replace hW := hW.alloc (Nat.le_trans hB0 hW.size) (.cells (r2V a b) 33)
        generalize w18.alloc (.cells (r2V a b) 33) = w19 at *
        generalize w18.heap.size = p6 at hp6 lw_p6 lp4_p6 lp5_p6 ⊢
        refine runWL 7 (.pointer (some ⟨w19.heap.size, 0, none⟩)) (w19.alloc (.cells (r2V a2 b2) 33)) rfl (by rfl) (exec_box 33 (.tmp 3) rfl (.agg (r2V a2 b2)) rfl) ?_
        simp only [List.set_cons_zero, List.set_cons_succ]
        have lp4_p7 := hp4.lt
        have lp5_p7 := hp5.lt
        have lp6_p7 := hp6.lt
        have lw_p7 := Nat.le_trans hB0 hW.size
        have hp7 : Blk (w19.alloc (.cells (r2V a2 b2) 33)) w19.heap.size 33 (r2V a2 b2) := Blk.new _ _ _
        replace hp4 := hp4.alloc (.cells (r2V a2 b2) 33)
        replace hp5 := hp5.alloc (.cells (r2V a2 b2) 33)
        replace hp6 := hp6.alloc (.cells (r2V a2 b2) 33)
        replace hW := hW.alloc (Nat.le_trans hB0 hW.size) (.cells (r2V a2 b2) 33)
        generalize w19.alloc (.cells (r2V a2 b2) 33) = w20 at *
        generalize w19.heap.size = p7 at hp7 lw_p7 lp4_p7 lp5_p7 lp6_p7 ⊢
        refine runL 8 (.bool false) rfl (by rfl) (by go_simp) ?_
        simp only [List.set_cons_zero, List.set_cons_succ]
        refine nilL ?_
        go_upto_region 1 with fail
        refine wl_lit ?_
        refine runL 9 (.agg (noV s c)) rfl (by rfl) (exec_row 26 (.tmp 4) rfl p4 rfl 26 (noV s c) _ hp4 (by exact Try.underlying26) rfl (noV_sz _ _)) ?_
        simp only [List.set_cons_zero, List.set_cons_succ]
        refine runL 10 (.agg (noV s2 c2)) rfl (by rfl) (exec_row 26 (.tmp 5) rfl p5 rfl 26 (noV s2 c2) _ hp5 (by exact Try.underlying26) rfl (noV_sz _ _)) ?_
        simp only [List.set_cons_zero, List.set_cons_succ]
        refine runL 11 (.bool false) rfl (by rfl) (exec_neV 26 (by kernel_rfl) (.tmp 9) (.tmp 10) _ rfl (noV s c) (noV s2 c2) rfl rfl true false rfl (by rw [hno]; rw [hnq.out])) ?_
        simp only [List.set_cons_zero, List.set_cons_succ]
        refine runL 12 (.bool false) rfl (by rfl) (by go_simp) ?_
        simp only [List.set_cons_zero, List.set_cons_succ]
        refine runL 13 (.pointer (some ⟨p6, 0, none⟩)) rfl (by rfl) (by go_simp) ?_
        simp only [List.set_cons_zero, List.set_cons_succ]
        refine runL 14 (.int .u32 (((a : Nat) : Int))) rfl (by rfl) (exec_cell 23 (.tmp 13) rfl p6 0 rfl (.int .u32 (((a : Nat) : Int))) _ Try.underlying23 rfl (hp6.cellIs 0 rfl)) ?_
        simp only [List.set_cons_zero, List.set_cons_succ]
        refine runL 15 (.pointer (some ⟨p6, 1, none⟩)) rfl (by rfl) (by go_simp) ?_
        simp only [List.set_cons_zero, List.set_cons_succ]
        refine runL 16 (.int .u32 (((b : Nat) : Int))) rfl (by rfl) (exec_cell 23 (.tmp 15) rfl p6 1 rfl (.int .u32 (((b : Nat) : Int))) _ Try.underlying23 rfl (hp6.cellIs 1 rfl)) ?_
        simp only [List.set_cons_zero, List.set_cons_succ]
        refine runL 17 (.bool false) rfl (by rfl) (by go_simp) ?_
        simp only [List.set_cons_zero, List.set_cons_succ]
        refine runL 18 (.bool false) rfl (by rfl) (by go_simp) ?_
        simp only [List.set_cons_zero, List.set_cons_succ]
        refine runL 19 (.bool false) rfl (by rfl) (by go_simp) ?_
        simp only [List.set_cons_zero, List.set_cons_succ]
        refine runL 20 (.pointer (some ⟨p7, 0, none⟩)) rfl (by rfl) (by go_simp) ?_
        simp only [List.set_cons_zero, List.set_cons_succ]
        refine runL 21 (.int .u32 (((a2 : Nat) : Int))) rfl (by rfl) (exec_cell 23 (.tmp 20) rfl p7 0 rfl (.int .u32 (((a2 : Nat) : Int))) _ Try.underlying23 rfl (hp7.cellIs 0 rfl)) ?_
        simp only [List.set_cons_zero, List.set_cons_succ]
        refine runL 22 (.pointer (some ⟨p7, 1, none⟩)) rfl (by rfl) (by go_simp) ?_
        simp only [List.set_cons_zero, List.set_cons_succ]
        refine runL 23 (.int .u32 (((b2 : Nat) : Int))) rfl (by rfl) (exec_cell 23 (.tmp 22) rfl p7 1 rfl (.int .u32 (((b2 : Nat) : Int))) _ Try.underlying23 rfl (hp7.cellIs 1 rfl)) ?_
        simp only [List.set_cons_zero, List.set_cons_succ]
        refine runL 24 (.bool false) rfl (by rfl) (by go_simp) ?_
        simp only [List.set_cons_zero, List.set_cons_succ]
        refine runL 25 (.bool false) rfl (by rfl) (by go_simp) ?_
        simp only [List.set_cons_zero, List.set_cons_succ]
        refine nilL ?_
        go_upto_region 3 with fail
        refine wl_lit ?_
        refine runL 26 (.pointer (some ⟨p6, 0, none⟩)) rfl (by rfl) (by go_simp) ?_
        simp only [List.set_cons_zero, List.set_cons_succ]
        refine runL 27 (.int .u32 (((a : Nat) : Int))) rfl (by rfl) (exec_cell 23 (.tmp 26) rfl p6 0 rfl (.int .u32 (((a : Nat) : Int))) _ Try.underlying23 rfl (hp6.cellIs 0 rfl)) ?_
        simp only [List.set_cons_zero, List.set_cons_succ]
        refine runL 28 (.pointer (some ⟨p7, 0, none⟩)) rfl (by rfl) (by go_simp) ?_
        simp only [List.set_cons_zero, List.set_cons_succ]
        refine runL 29 (.int .u32 (((a2 : Nat) : Int))) rfl (by rfl) (exec_cell 23 (.tmp 28) rfl p7 0 rfl (.int .u32 (((a2 : Nat) : Int))) _ Try.underlying23 rfl (hp7.cellIs 0 rfl)) ?_
        simp only [List.set_cons_zero, List.set_cons_succ]
        refine runL 30 (.bool false) rfl (by rfl) (by go_simp) ?_
        simp only [List.set_cons_zero, List.set_cons_succ]
        refine runL 31 (.bool false) rfl (by rfl) (by go_simp) ?_
        simp only [List.set_cons_zero, List.set_cons_succ]
        refine skipL 32 rfl (by kernel_rfl) ?_
        simp only [List.set_cons_zero, List.set_cons_succ]
        refine skipL 33 rfl (by kernel_rfl) ?_
        simp only [List.set_cons_zero, List.set_cons_succ]
        refine skipL 34 rfl (by kernel_rfl) ?_
        simp only [List.set_cons_zero, List.set_cons_succ]
        refine skipL 35 rfl (by kernel_rfl) ?_
        simp only [List.set_cons_zero, List.set_cons_succ]
        refine skipL 36 rfl (by kernel_rfl) ?_
        simp only [List.set_cons_zero, List.set_cons_succ]
        refine runL 37 (.bool false) rfl (by rfl) (by go_simp) ?_
        simp only [List.set_cons_zero, List.set_cons_succ]
        refine runL 38 (.bool false) rfl (by rfl) (by go_simp) ?_
        simp only [List.set_cons_zero, List.set_cons_succ]
        refine runL 39 (.pointer (some ⟨p7, 0, none⟩)) rfl (by rfl) (by go_simp) ?_
        simp only [List.set_cons_zero, List.set_cons_succ]
        refine runL 40 (.int .u32 (((a2 : Nat) : Int))) rfl (by rfl) (exec_cell 23 (.tmp 39) rfl p7 0 rfl (.int .u32 (((a2 : Nat) : Int))) _ Try.underlying23 rfl (hp7.cellIs 0 rfl)) ?_
        simp only [List.set_cons_zero, List.set_cons_succ]
        refine runL 41 (.pointer (some ⟨p6, 0, none⟩)) rfl (by rfl) (by go_simp) ?_
        simp only [List.set_cons_zero, List.set_cons_succ]
        refine runL 42 (.int .u32 (((a : Nat) : Int))) rfl (by rfl) (exec_cell 23 (.tmp 41) rfl p6 0 rfl (.int .u32 (((a : Nat) : Int))) _ Try.underlying23 rfl (hp6.cellIs 0 rfl)) ?_
        simp only [List.set_cons_zero, List.set_cons_succ]
        refine runL 43 (.bool true) rfl (by rfl) (by go_simp) ?_
        simp only [List.set_cons_zero, List.set_cons_succ]
        refine runL 44 (.bool true) rfl (by rfl) (by go_simp) ?_
        simp only [List.set_cons_zero, List.set_cons_succ]
        refine runL 45 (.pointer (some ⟨p7, 0, none⟩)) rfl (by rfl) (by go_simp) ?_
        simp only [List.set_cons_zero, List.set_cons_succ]
        refine runL 46 (.int .u32 (((a2 : Nat) : Int))) rfl (by rfl) (exec_cell 23 (.tmp 45) rfl p7 0 rfl (.int .u32 (((a2 : Nat) : Int))) _ Try.underlying23 rfl (hp7.cellIs 0 rfl)) ?_
        simp only [List.set_cons_zero, List.set_cons_succ]
        refine runL 47 (.pointer (some ⟨p6, 1, none⟩)) rfl (by rfl) (by go_simp) ?_
        simp only [List.set_cons_zero, List.set_cons_succ]
        refine runL 48 (.int .u32 (((b : Nat) : Int))) rfl (by rfl) (exec_cell 23 (.tmp 47) rfl p6 1 rfl (.int .u32 (((b : Nat) : Int))) _ Try.underlying23 rfl (hp6.cellIs 1 rfl)) ?_
        simp only [List.set_cons_zero, List.set_cons_succ]
        refine runL 49 (.bool true) rfl (by rfl) (by go_simp) ?_
        simp only [List.set_cons_zero, List.set_cons_succ]
        refine runL 50 (.bool true) rfl (by rfl) (by go_simp) ?_
        simp only [List.set_cons_zero, List.set_cons_succ]
        refine runL 51 (.bool true) rfl (by rfl) (by go_simp) ?_
        simp only [List.set_cons_zero, List.set_cons_succ]
        refine runL 8 (.bool true) rfl (by rfl) (by go_simp) ?_
        simp only [List.set_cons_zero, List.set_cons_succ]
        refine nilL ?_
        go_wp2_with fail
        go_ret
        exact ⟨by rw [heq.out]; rfl, hW⟩
      ·
        have hI5 : ¬ (a2 : Int) ≤ (b : Int) := by omega
        have heq : Hid (r = false) := Lib.hid (by rw [← hr, decide_eq_false (by omega)])
        clear hr
        go_enter Try.func13, Try.ntmps13
        go_upto_region 0 with fail
        refine wl_lit ?_
        refine runWL 4 (.pointer (some ⟨w.heap.size, 0, none⟩)) (w.alloc (.cells (noV s c) 26)) rfl (by rfl) (exec_box 26 (.tmp 0) rfl (.agg (noV s c)) rfl) ?_
        simp only [List.set_cons_zero, List.set_cons_succ]
        have lw_p4 := Nat.le_trans hB0 hW.size
        have hp4 : Blk (w.alloc (.cells (noV s c) 26)) w.heap.size 26 (noV s c) := Blk.new _ _ _
        replace hW := hW.alloc (Nat.le_trans hB0 hW.size) (.cells (noV s c) 26)
        generalize w.alloc (.cells (noV s c) 26) = w21 at *
        generalize w.heap.size = p4 at hp4 lw_p4  ⊢
        refine runWL 5 (.pointer (some ⟨w21.heap.size, 0, none⟩)) (w21.alloc (.cells (noV s2 c2) 26)) rfl (by rfl) (exec_box 26 (.tmp 1) rfl (.agg (noV s2 c2)) rfl) ?_
        simp only [List.set_cons_zero, List.set_cons_succ]
        have lp4_p5 := hp4.lt
        have lw_p5 := Nat.le_trans hB0 hW.size
        have hp5 : Blk (w21.alloc (.cells (noV s2 c2) 26)) w21.heap.size 26 (noV s2 c2) := Blk.new _ _ _
        replace hp4 := hp4.alloc (.cells (noV s2 c2) 26)
        replace hW := hW.alloc (Nat.le_trans hB0 hW.size) (.cells (noV s2 c2) 26)
        generalize w21.alloc (.cells (noV s2 c2) 26) = w22 at *
        generalize w21.heap.size = p5 at hp5 lw_p5 lp4_p5 ⊢
        refine runWL 6 (.pointer (some ⟨w22.heap.size, 0, none⟩)) (w22.alloc (.cells (r2V a b) 33)) rfl (by rfl) (exec_box 33 (.tmp 2) rfl (.agg (r2V a b)) rfl) ?_
        simp only [List.set_cons_zero, List.set_cons_succ]
        have lp4_p6 := hp4.lt
        have lp5_p6 := hp5.lt
        have lw_p6 := Nat.le_trans hB0 hW.size
        have hp6 : Blk (w22.alloc (.cells (r2V a b) 33)) w22.heap.size 33 (r2V a b) := Blk.new _ _ _
        replace hp4 := hp4.alloc (.cells (r2V a b) 33)
        replace hp5 := hp5.alloc (.cells (r2V a b) 33)
        replace hW := hW.alloc (Nat.le_trans hB0 hW.size) (.cells (r2V a b) 33)
        generalize w22.alloc (.cells (r2V a b) 33) = w23 at *
        generalize w22.heap.size = p6 at hp6 lw_p6 lp4_p6 lp5_p6 ⊢
        refine runWL 7 (.pointer (some ⟨w23.heap.size, 0, none⟩)) (w23.alloc (.cells (r2V a2 b2) 33)) rfl (by rfl) (exec_box 33 (.tmp 3) rfl (.agg (r2V a2 b2)) rfl) ?_
        simp only [List.set_cons_zero, List.set_cons_succ]
        have lp4_p7 := hp4.lt
        have lp5_p7 := hp5.lt
        have lp6_p7 := hp6.lt
        have lw_p7 := Nat.le_trans hB0 hW.size
        have hp7 : Blk (w23.alloc (.cells (r2V a2 b2) 33)) w23.heap.size 33 (r2V a2 b2) := Blk.new _ _ _
        replace hp4 := hp4.alloc (.cells (r2V a2 b2) 33)
        replace hp5 := hp5.alloc (.cells (r2V a2 b2) 33)
        replace hp6 := hp6.alloc (.cells (r2V a2 b2) 33)
        replace hW := hW.alloc (Nat.le_trans hB0 hW.size) (.cells (r2V a2 b2) 33)
        generalize w23.alloc (.cells (r2V a2 b2) 33) = w24 at *
        generalize w23.heap.size = p7 at hp7 lw_p7 lp4_p7 lp5_p7 lp6_p7 ⊢
        refine runL 8 (.bool false) rfl (by rfl) (by go_simp) ?_
        simp only [List.set_cons_zero, List.set_cons_succ]
        refine nilL ?_
        go_upto_region 1 with fail
        refine wl_lit ?_
        refine runL 9 (.agg (noV s c)) rfl (by rfl) (exec_row 26 (.tmp 4) rfl p4 rfl 26 (noV s c) _ hp4 (by exact Try.underlying26) rfl (noV_sz _ _)) ?_
        simp only [List.set_cons_zero, List.set_cons_succ]
        refine runL 10 (.agg (noV s2 c2)) rfl (by rfl) (exec_row 26 (.tmp 5) rfl p5 rfl 26 (noV s2 c2) _ hp5 (by exact Try.underlying26) rfl (noV_sz _ _)) ?_
        simp only [List.set_cons_zero, List.set_cons_succ]
        refine runL 11 (.bool false) rfl (by rfl) (exec_neV 26 (by kernel_rfl) (.tmp 9) (.tmp 10) _ rfl (noV s c) (noV s2 c2) rfl rfl true false rfl (by rw [hno]; rw [hnq.out])) ?_
        simp only [List.set_cons_zero, List.set_cons_succ]
        refine runL 12 (.bool false) rfl (by rfl) (by go_simp) ?_
        simp only [List.set_cons_zero, List.set_cons_succ]
        refine runL 13 (.pointer (some ⟨p6, 0, none⟩)) rfl (by rfl) (by go_simp) ?_
        simp only [List.set_cons_zero, List.set_cons_succ]
        refine runL 14 (.int .u32 (((a : Nat) : Int))) rfl (by rfl) (exec_cell 23 (.tmp 13) rfl p6 0 rfl (.int .u32 (((a : Nat) : Int))) _ Try.underlying23 rfl (hp6.cellIs 0 rfl)) ?_
        simp only [List.set_cons_zero, List.set_cons_succ]
        refine runL 15 (.pointer (some ⟨p6, 1, none⟩)) rfl (by rfl) (by go_simp) ?_
        simp only [List.set_cons_zero, List.set_cons_succ]
        refine runL 16 (.int .u32 (((b : Nat) : Int))) rfl (by rfl) (exec_cell 23 (.tmp 15) rfl p6 1 rfl (.int .u32 (((b : Nat) : Int))) _ Try.underlying23 rfl (hp6.cellIs 1 rfl)) ?_
        simp only [List.set_cons_zero, List.set_cons_succ]
        refine runL 17 (.bool false) rfl (by rfl) (by go_simp) ?_
        simp only [List.set_cons_zero, List.set_cons_succ]
        refine runL 18 (.bool false) rfl (by rfl) (by go_simp) ?_
        simp only [List.set_cons_zero, List.set_cons_succ]
        refine runL 19 (.bool false) rfl (by rfl) (by go_simp) ?_
        simp only [List.set_cons_zero, List.set_cons_succ]
        refine runL 20 (.pointer (some ⟨p7, 0, none⟩)) rfl (by rfl) (by go_simp) ?_
        simp only [List.set_cons_zero, List.set_cons_succ]
        refine runL 21 (.int .u32 (((a2 : Nat) : Int))) rfl (by rfl) (exec_cell 23 (.tmp 20) rfl p7 0 rfl (.int .u32 (((a2 : Nat) : Int))) _ Try.underlying23 rfl (hp7.cellIs 0 rfl)) ?_
        simp only [List.set_cons_zero, List.set_cons_succ]
        refine runL 22 (.pointer (some ⟨p7, 1, none⟩)) rfl (by rfl) (by go_simp) ?_
        simp only [List.set_cons_zero, List.set_cons_succ]
        refine runL 23 (.int .u32 (((b2 : Nat) : Int))) rfl (by rfl) (exec_cell 23 (.tmp 22) rfl p7 1 rfl (.int .u32 (((b2 : Nat) : Int))) _ Try.underlying23 rfl (hp7.cellIs 1 rfl)) ?_
        simp only [List.set_cons_zero, List.set_cons_succ]
        refine runL 24 (.bool false) rfl (by rfl) (by go_simp) ?_
        simp only [List.set_cons_zero, List.set_cons_succ]
        refine runL 25 (.bool false) rfl (by rfl) (by go_simp) ?_
        simp only [List.set_cons_zero, List.set_cons_succ]
        refine nilL ?_
        go_upto_region 3 with fail
        refine wl_lit ?_
        refine runL 26 (.pointer (some ⟨p6, 0, none⟩)) rfl (by rfl) (by go_simp) ?_
        simp only [List.set_cons_zero, List.set_cons_succ]
        refine runL 27 (.int .u32 (((a : Nat) : Int))) rfl (by rfl) (exec_cell 23 (.tmp 26) rfl p6 0 rfl (.int .u32 (((a : Nat) : Int))) _ Try.underlying23 rfl (hp6.cellIs 0 rfl)) ?_
        simp only [List.set_cons_zero, List.set_cons_succ]
        refine runL 28 (.pointer (some ⟨p7, 0, none⟩)) rfl (by rfl) (by go_simp) ?_
        simp only [List.set_cons_zero, List.set_cons_succ]
        refine runL 29 (.int .u32 (((a2 : Nat) : Int))) rfl (by rfl) (exec_cell 23 (.tmp 28) rfl p7 0 rfl (.int .u32 (((a2 : Nat) : Int))) _ Try.underlying23 rfl (hp7.cellIs 0 rfl)) ?_
        simp only [List.set_cons_zero, List.set_cons_succ]
        refine runL 30 (.bool false) rfl (by rfl) (by go_simp) ?_
        simp only [List.set_cons_zero, List.set_cons_succ]
        refine runL 31 (.bool false) rfl (by rfl) (by go_simp) ?_
        simp only [List.set_cons_zero, List.set_cons_succ]
        refine skipL 32 rfl (by kernel_rfl) ?_
        simp only [List.set_cons_zero, List.set_cons_succ]
        refine skipL 33 rfl (by kernel_rfl) ?_
        simp only [List.set_cons_zero, List.set_cons_succ]
        refine skipL 34 rfl (by kernel_rfl) ?_
        simp only [List.set_cons_zero, List.set_cons_succ]
        refine skipL 35 rfl (by kernel_rfl) ?_
        simp only [List.set_cons_zero, List.set_cons_succ]
        refine skipL 36 rfl (by kernel_rfl) ?_
        simp only [List.set_cons_zero, List.set_cons_succ]
        refine runL 37 (.bool false) rfl (by rfl) (by go_simp) ?_
        simp only [List.set_cons_zero, List.set_cons_succ]
        refine runL 38 (.bool false) rfl (by rfl) (by go_simp) ?_
        simp only [List.set_cons_zero, List.set_cons_succ]
        refine runL 39 (.pointer (some ⟨p7, 0, none⟩)) rfl (by rfl) (by go_simp) ?_
        simp only [List.set_cons_zero, List.set_cons_succ]
        refine runL 40 (.int .u32 (((a2 : Nat) : Int))) rfl (by rfl) (exec_cell 23 (.tmp 39) rfl p7 0 rfl (.int .u32 (((a2 : Nat) : Int))) _ Try.underlying23 rfl (hp7.cellIs 0 rfl)) ?_
        simp only [List.set_cons_zero, List.set_cons_succ]
        refine runL 41 (.pointer (some ⟨p6, 0, none⟩)) rfl (by rfl) (by go_simp) ?_
        simp only [List.set_cons_zero, List.set_cons_succ]
        refine runL 42 (.int .u32 (((a : Nat) : Int))) rfl (by rfl) (exec_cell 23 (.tmp 41) rfl p6 0 rfl (.int .u32 (((a : Nat) : Int))) _ Try.underlying23 rfl (hp6.cellIs 0 rfl)) ?_
        simp only [List.set_cons_zero, List.set_cons_succ]
        refine runL 43 (.bool true) rfl (by rfl) (by go_simp) ?_
        simp only [List.set_cons_zero, List.set_cons_succ]
        refine runL 44 (.bool true) rfl (by rfl) (by go_simp) ?_
        simp only [List.set_cons_zero, List.set_cons_succ]
        refine runL 45 (.pointer (some ⟨p7, 0, none⟩)) rfl (by rfl) (by go_simp) ?_
        simp only [List.set_cons_zero, List.set_cons_succ]
        refine runL 46 (.int .u32 (((a2 : Nat) : Int))) rfl (by rfl) (exec_cell 23 (.tmp 45) rfl p7 0 rfl (.int .u32 (((a2 : Nat) : Int))) _ Try.underlying23 rfl (hp7.cellIs 0 rfl)) ?_
        simp only [List.set_cons_zero, List.set_cons_succ]
        refine runL 47 (.pointer (some ⟨p6, 1, none⟩)) rfl (by rfl) (by go_simp) ?_
        simp only [List.set_cons_zero, List.set_cons_succ]
        refine runL 48 (.int .u32 (((b : Nat) : Int))) rfl (by rfl) (exec_cell 23 (.tmp 47) rfl p6 1 rfl (.int .u32 (((b : Nat) : Int))) _ Try.underlying23 rfl (hp6.cellIs 1 rfl)) ?_
        simp only [List.set_cons_zero, List.set_cons_succ]
        refine runL 49 (.bool false) rfl (by rfl) (by go_simp) ?_
        simp only [List.set_cons_zero, List.set_cons_succ]
        refine runL 50 (.bool false) rfl (by rfl) (by go_simp) ?_
        simp only [List.set_cons_zero, List.set_cons_succ]
        refine runL 51 (.bool false) rfl (by rfl) (by go_simp) ?_
        simp only [List.set_cons_zero, List.set_cons_succ]
        refine runL 8 (.bool false) rfl (by rfl) (by go_simp) ?_
        simp only [List.set_cons_zero, List.set_cons_succ]
        refine nilL ?_
        go_wp2_with fail
        go_ret
        exact ⟨by rw [heq.out]; rfl, hW⟩
  ·
    have hnq := Lib.hid (decide_eq_false h3)
    have heq : Hid (r = false) := Lib.hid (by rw [← hr, decide_eq_false h3]; cases decide (a ≤ b) <;> cases decide (a2 ≤ b2) <;> rfl)
    clear hr h3
    go_enter Try.func13, Try.ntmps13
    go_upto_region 0 with fail
    refine wl_lit ?_
    refine runWL 4 (.pointer (some ⟨w.heap.size, 0, none⟩)) (w.alloc (.cells (noV s c) 26)) rfl (by rfl) (exec_box 26 (.tmp 0) rfl (.agg (noV s c)) rfl) ?_
    simp only [List.set_cons_zero, List.set_cons_succ]
    have lw_p4 := Nat.le_trans hB0 hW.size
    have hp4 : Blk (w.alloc (.cells (noV s c) 26)) w.heap.size 26 (noV s c) := Blk.new _ _ _
    replace hW := hW.alloc (Nat.le_trans hB0 hW.size) (.cells (noV s c) 26)
    generalize w.alloc (.cells (noV s c) 26) = w25 at *
    generalize w.heap.size = p4 at hp4 lw_p4  ⊢
    refine runWL 5 (.pointer (some ⟨w25.heap.size, 0, none⟩)) (w25.alloc (.cells (noV s2 c2) 26)) rfl (by rfl) (exec_box 26 (.tmp 1) rfl (.agg (noV s2 c2)) rfl) ?_
    simp only [List.set_cons_zero, List.set_cons_succ]
    have lp4_p5 := hp4.lt
    have lw_p5 := Nat.le_trans hB0 hW.size
    have hp5 : Blk (w25.alloc (.cells (noV s2 c2) 26)) w25.heap.size 26 (noV s2 c2) := Blk.new _ _ _
    replace hp4 := hp4.alloc (.cells (noV s2 c2) 26)
    replace hW := hW.alloc (Nat.le_trans hB0 hW.size) (.cells (noV s2 c2) 26)
    generalize w25.alloc (.cells (noV s2 c2) 26) = w26 at *
    generalize w25.heap.size = p5 at hp5 lw_p5 lp4_p5 ⊢
    refine runWL 6 (.pointer (some ⟨w26.heap.size, 0, none⟩)) (w26.alloc (.cells (r2V a b) 33)) rfl (by rfl) (exec_box 33 (.tmp 2) rfl (.agg (r2V a b)) rfl) ?_
    simp only [List.set_cons_zero, List.set_cons_succ]
    have lp4_p6 := hp4.lt
    have lp5_p6 := hp5.lt
    have lw_p6 := Nat.le_trans hB0 hW.size
    have hp6 : Blk (w26.alloc (.cells (r2V a b) 33)) w26.heap.size 33 (r2V a b) := Blk.new _ _ _
    replace hp4 := hp4.alloc (.cells (r2V a b) 33)
    replace hp5 := hp5.alloc (.cells (r2V a b) 33)
    replace hW := hW.alloc (Nat.le_trans hB0 hW.size) (.cells (r2V a b) 33)
    generalize w26.alloc (.cells (r2V a b) 33) = w27 at *
    generalize w26.heap.size = p6 at hp6 lw_p6 lp4_p6 lp5_p6 ⊢
    refine runWL 7 (.pointer (some ⟨w27.heap.size, 0, none⟩)) (w27.alloc (.cells (r2V a2 b2) 33)) rfl (by rfl) (exec_box 33 (.tmp 3) rfl (.agg (r2V a2 b2)) rfl) ?_
    simp only [List.set_cons_zero, List.set_cons_succ]
    have lp4_p7 := hp4.lt
    have lp5_p7 := hp5.lt
    have lp6_p7 := hp6.lt
    have lw_p7 := Nat.le_trans hB0 hW.size
    have hp7 : Blk (w27.alloc (.cells (r2V a2 b2) 33)) w27.heap.size 33 (r2V a2 b2) := Blk.new _ _ _
    replace hp4 := hp4.alloc (.cells (r2V a2 b2) 33)
    replace hp5 := hp5.alloc (.cells (r2V a2 b2) 33)
    replace hp6 := hp6.alloc (.cells (r2V a2 b2) 33)
    replace hW := hW.alloc (Nat.le_trans hB0 hW.size) (.cells (r2V a2 b2) 33)
    generalize w27.alloc (.cells (r2V a2 b2) 33) = w28 at *
    generalize w27.heap.size = p7 at hp7 lw_p7 lp4_p7 lp5_p7 lp6_p7 ⊢
    refine runL 8 (.bool false) rfl (by rfl) (by go_simp) ?_
    simp only [List.set_cons_zero, List.set_cons_succ]
    refine nilL ?_
    go_upto_region 1 with fail
    refine wl_lit ?_
    refine runL 9 (.agg (noV s c)) rfl (by rfl) (exec_row 26 (.tmp 4) rfl p4 rfl 26 (noV s c) _ hp4 (by exact Try.underlying26) rfl (noV_sz _ _)) ?_
    simp only [List.set_cons_zero, List.set_cons_succ]
    refine runL 10 (.agg (noV s2 c2)) rfl (by rfl) (exec_row 26 (.tmp 5) rfl p5 rfl 26 (noV s2 c2) _ hp5 (by exact Try.underlying26) rfl (noV_sz _ _)) ?_
    simp only [List.set_cons_zero, List.set_cons_succ]
    refine runL 11 (.bool true) rfl (by rfl) (exec_neV 26 (by kernel_rfl) (.tmp 9) (.tmp 10) _ rfl (noV s c) (noV s2 c2) rfl rfl false true rfl (by rw [hno]; rw [hnq.out])) ?_
    simp only [List.set_cons_zero, List.set_cons_succ]
    refine runL 12 (.bool true) rfl (by rfl) (by go_simp) ?_
    simp only [List.set_cons_zero, List.set_cons_succ]
    refine skipL 13 rfl (by kernel_rfl) ?_
    simp only [List.set_cons_zero, List.set_cons_succ]
    refine skipL 14 rfl (by kernel_rfl) ?_
    simp only [List.set_cons_zero, List.set_cons_succ]
    refine skipL 15 rfl (by kernel_rfl) ?_
    simp only [List.set_cons_zero, List.set_cons_succ]
    refine skipL 16 rfl (by kernel_rfl) ?_
    simp only [List.set_cons_zero, List.set_cons_succ]
    refine skipL 17 rfl (by kernel_rfl) ?_
    simp only [List.set_cons_zero, List.set_cons_succ]
    refine runL 18 (.bool true) rfl (by rfl) (by go_simp) ?_
    simp only [List.set_cons_zero, List.set_cons_succ]
    refine runL 19 (.bool true) rfl (by rfl) (by go_simp) ?_
    simp only [List.set_cons_zero, List.set_cons_succ]
    refine skipL 20 rfl (by kernel_rfl) ?_
    simp only [List.set_cons_zero, List.set_cons_succ]
    refine skipL 21 rfl (by kernel_rfl) ?_
    simp only [List.set_cons_zero, List.set_cons_succ]
    refine skipL 22 rfl (by kernel_rfl) ?_
    simp only [List.set_cons_zero, List.set_cons_succ]
    refine skipL 23 rfl (by kernel_rfl) ?_
    simp only [List.set_cons_zero, List.set_cons_succ]
    refine skipL 24 rfl (by kernel_rfl) ?_
    simp only [List.set_cons_zero, List.set_cons_succ]
    refine runL 25 (.bool true) rfl (by rfl) (by go_simp) ?_
    simp only [List.set_cons_zero, List.set_cons_succ]
    refine nilL ?_
    go_upto_region 2 with fail
    refine wl_lit ?_
    refine runL 8 (.bool false) rfl (by rfl) (by go_simp) ?_
    simp only [List.set_cons_zero, List.set_cons_succ]
    refine nilL ?_
    go_wp2_with fail
    go_ret
    exact ⟨by rw [heq.out]; rfl, hW⟩
end Go.Proofs.Ytpcdckhabaoieaa
