/-
  The walks of streams.check, Used, Overlap, caissonref07.Overlap, caissonlaw07.used, same. (Printed by mk07.py.)
-/
import Derived.Test.YtpcdckhabaoieaaStmV
namespace Go.Proofs.Ytpcdckhabaoieaa
open Go.RowKit Sh

/-- the error of an offset and a size -/
def chk (f m : Int) : Int := if f < 0 ∨ m < 0 then 1 else if 1048576 < f ∨ 1048576 - f < m then 3 else 0
set_option maxRecDepth 8000 in
set_option maxHeartbeats 2000000 in
theorem check_any (f m e : Int) (he : chk f m = e) (hf : -9223372036854775808 ≤ f ∧ f ≤ 9223372036854775807) (hm : -9223372036854775808 ≤ m ∧ m ≤ 9223372036854775807) (w : World) :
    Calls Try.prog 25 #[.int .i64 f, .int .i64 m] w fun e' w' => e' = .returned (.int .i64 e) ∧ Below w.heap.size w w' := by
  obtain ⟨B0, hB0e⟩ : ∃ b, w.heap.size = b := ⟨_, rfl⟩
  rw [hB0e]
  have hW : Below B0 w w := by rw [← hB0e]; exact Below.refl _ _
  have hB0 : B0 ≤ w.heap.size := by omega
  have hB0q := Lib.hid hB0e
  clear hB0e
  unfold chk at he
  by_cases h1 : f < 0
  ·
    have heq := Lib.hid (he.symm.trans (if_pos (Or.inl h1)))
    clear he
    go_enter Try.func25, Try.ntmps25
    go_upto_region 0 with fail
    refine wl_lit ?_
    refine runL 4 (.int .i64 0) rfl (by rfl) (by go_simp) ?_
    simp only [List.set_cons_zero, List.set_cons_succ]
    refine nilL ?_
    go_upto_region 1 with fail
    refine wl_lit ?_
    refine runL 6 (.int .i64 (f)) rfl (by rfl) (by go_simp) ?_
    simp only [List.set_cons_zero, List.set_cons_succ]
    refine runL 7 (.bool true) rfl (by rfl) (by go_simp) ?_
    simp only [List.set_cons_zero, List.set_cons_succ]
    refine runL 8 (.bool true) rfl (by rfl) (by go_simp) ?_
    simp only [List.set_cons_zero, List.set_cons_succ]
    refine skipL 9 rfl (by kernel_rfl) ?_
    simp only [List.set_cons_zero, List.set_cons_succ]
    refine skipL 10 rfl (by kernel_rfl) ?_
    simp only [List.set_cons_zero, List.set_cons_succ]
    refine runL 11 (.bool true) rfl (by rfl) (by go_simp) ?_
    simp only [List.set_cons_zero, List.set_cons_succ]
    refine runL 5 (.bool true) rfl (by rfl) (by go_simp) ?_
    simp only [List.set_cons_zero, List.set_cons_succ]
    refine nilL ?_
    go_upto_region 2 with fail
    refine wl_lit ?_
    refine runL 4 (.int .i64 1) rfl (by rfl) (by go_simp) ?_
    simp only [List.set_cons_zero, List.set_cons_succ]
    refine nilL ?_
    go_wp2_with fail
    go_ret
    exact ⟨by rw [heq.out]; rfl, hW⟩
  by_cases h2 : m < 0
  ·
    have heq := Lib.hid (he.symm.trans (if_pos (Or.inr h2)))
    clear he
    go_enter Try.func25, Try.ntmps25
    go_upto_region 0 with fail
    refine wl_lit ?_
    refine runL 4 (.int .i64 0) rfl (by rfl) (by go_simp) ?_
    simp only [List.set_cons_zero, List.set_cons_succ]
    refine nilL ?_
    go_upto_region 1 with fail
    refine wl_lit ?_
    refine runL 6 (.int .i64 (f)) rfl (by rfl) (by go_simp) ?_
    simp only [List.set_cons_zero, List.set_cons_succ]
    refine runL 7 (.bool false) rfl (by rfl) (by go_simp) ?_
    simp only [List.set_cons_zero, List.set_cons_succ]
    refine runL 8 (.bool false) rfl (by rfl) (by go_simp) ?_
    simp only [List.set_cons_zero, List.set_cons_succ]
    refine runL 9 (.int .i64 (m)) rfl (by rfl) (by go_simp) ?_
    simp only [List.set_cons_zero, List.set_cons_succ]
    refine runL 10 (.bool true) rfl (by rfl) (by go_simp) ?_
    simp only [List.set_cons_zero, List.set_cons_succ]
    refine runL 11 (.bool true) rfl (by rfl) (by go_simp) ?_
    simp only [List.set_cons_zero, List.set_cons_succ]
    refine runL 5 (.bool true) rfl (by rfl) (by go_simp) ?_
    simp only [List.set_cons_zero, List.set_cons_succ]
    refine nilL ?_
    go_upto_region 2 with fail
    refine wl_lit ?_
    refine runL 4 (.int .i64 1) rfl (by rfl) (by go_simp) ?_
    simp only [List.set_cons_zero, List.set_cons_succ]
    refine nilL ?_
    go_wp2_with fail
    go_ret
    exact ⟨by rw [heq.out]; rfl, hW⟩
  rw [if_neg (by omega)] at he
  by_cases h3 : 1048576 < f
  ·
    have heq := Lib.hid (he.symm.trans (if_pos (Or.inl h3)))
    clear he
    go_enter Try.func25, Try.ntmps25
    go_upto_region 0 with fail
    refine wl_lit ?_
    refine runL 4 (.int .i64 0) rfl (by rfl) (by go_simp) ?_
    simp only [List.set_cons_zero, List.set_cons_succ]
    refine nilL ?_
    go_upto_region 1 with fail
    refine wl_lit ?_
    refine runL 6 (.int .i64 (f)) rfl (by rfl) (by go_simp) ?_
    simp only [List.set_cons_zero, List.set_cons_succ]
    refine runL 7 (.bool false) rfl (by rfl) (by go_simp) ?_
    simp only [List.set_cons_zero, List.set_cons_succ]
    refine runL 8 (.bool false) rfl (by rfl) (by go_simp) ?_
    simp only [List.set_cons_zero, List.set_cons_succ]
    refine runL 9 (.int .i64 (m)) rfl (by rfl) (by go_simp) ?_
    simp only [List.set_cons_zero, List.set_cons_succ]
    refine runL 10 (.bool false) rfl (by rfl) (by go_simp) ?_
    simp only [List.set_cons_zero, List.set_cons_succ]
    refine runL 11 (.bool false) rfl (by rfl) (by go_simp) ?_
    simp only [List.set_cons_zero, List.set_cons_succ]
    refine runL 5 (.bool false) rfl (by rfl) (by go_simp) ?_
    simp only [List.set_cons_zero, List.set_cons_succ]
    refine nilL ?_
    go_upto_region 3 with fail
    refine wl_lit ?_
    refine runL 13 (.int .i64 (f)) rfl (by rfl) (by go_simp) ?_
    simp only [List.set_cons_zero, List.set_cons_succ]
    refine runL 14 (.bool true) rfl (by rfl) (by go_simp) ?_
    simp only [List.set_cons_zero, List.set_cons_succ]
    refine runL 15 (.bool true) rfl (by rfl) (by go_simp) ?_
    simp only [List.set_cons_zero, List.set_cons_succ]
    refine skipL 16 rfl (by kernel_rfl) ?_
    simp only [List.set_cons_zero, List.set_cons_succ]
    refine skipL 17 rfl (by kernel_rfl) ?_
    simp only [List.set_cons_zero, List.set_cons_succ]
    refine skipL 18 rfl (by kernel_rfl) ?_
    simp only [List.set_cons_zero, List.set_cons_succ]
    refine skipL 19 rfl (by kernel_rfl) ?_
    simp only [List.set_cons_zero, List.set_cons_succ]
    refine runL 20 (.bool true) rfl (by rfl) (by go_simp) ?_
    simp only [List.set_cons_zero, List.set_cons_succ]
    refine runL 12 (.bool true) rfl (by rfl) (by go_simp) ?_
    simp only [List.set_cons_zero, List.set_cons_succ]
    refine nilL ?_
    go_upto_region 4 with fail
    refine wl_lit ?_
    refine runL 4 (.int .i64 3) rfl (by rfl) (by go_simp) ?_
    simp only [List.set_cons_zero, List.set_cons_succ]
    refine nilL ?_
    go_wp2_with fail
    go_ret
    exact ⟨by rw [heq.out]; rfl, hW⟩
  have hw : IntKind.i64.wrap (1048576 - f) = 1048576 - f := IntWalk.i64_in _ (by omega)
  by_cases h4 : 1048576 - f < m
  ·
    have heq := Lib.hid (he.symm.trans (if_pos (Or.inr h4)))
    clear he
    go_enter Try.func25, Try.ntmps25
    go_upto_region 0 with fail
    refine wl_lit ?_
    refine runL 4 (.int .i64 0) rfl (by rfl) (by go_simp) ?_
    simp only [List.set_cons_zero, List.set_cons_succ]
    refine nilL ?_
    go_upto_region 1 with fail
    refine wl_lit ?_
    refine runL 6 (.int .i64 (f)) rfl (by rfl) (by go_simp) ?_
    simp only [List.set_cons_zero, List.set_cons_succ]
    refine runL 7 (.bool false) rfl (by rfl) (by go_simp) ?_
    simp only [List.set_cons_zero, List.set_cons_succ]
    refine runL 8 (.bool false) rfl (by rfl) (by go_simp) ?_
    simp only [List.set_cons_zero, List.set_cons_succ]
    refine runL 9 (.int .i64 (m)) rfl (by rfl) (by go_simp) ?_
    simp only [List.set_cons_zero, List.set_cons_succ]
    refine runL 10 (.bool false) rfl (by rfl) (by go_simp) ?_
    simp only [List.set_cons_zero, List.set_cons_succ]
    refine runL 11 (.bool false) rfl (by rfl) (by go_simp) ?_
    simp only [List.set_cons_zero, List.set_cons_succ]
    refine runL 5 (.bool false) rfl (by rfl) (by go_simp) ?_
    simp only [List.set_cons_zero, List.set_cons_succ]
    refine nilL ?_
    go_upto_region 3 with fail
    refine wl_lit ?_
    refine runL 13 (.int .i64 (f)) rfl (by rfl) (by go_simp) ?_
    simp only [List.set_cons_zero, List.set_cons_succ]
    refine runL 14 (.bool false) rfl (by rfl) (by go_simp) ?_
    simp only [List.set_cons_zero, List.set_cons_succ]
    refine runL 15 (.bool false) rfl (by rfl) (by go_simp) ?_
    simp only [List.set_cons_zero, List.set_cons_succ]
    refine runL 16 (.int .i64 (m)) rfl (by rfl) (by go_simp) ?_
    simp only [List.set_cons_zero, List.set_cons_succ]
    refine runL 17 (.int .i64 (f)) rfl (by rfl) (by go_simp) ?_
    simp only [List.set_cons_zero, List.set_cons_succ]
    refine runL 18 (.int .i64 (1048576 - f)) rfl (by rfl) (by go_simp) ?_
    simp only [List.set_cons_zero, List.set_cons_succ]
    refine runL 19 (.bool true) rfl (by rfl) (by go_simp) ?_
    simp only [List.set_cons_zero, List.set_cons_succ]
    refine runL 20 (.bool true) rfl (by rfl) (by go_simp) ?_
    simp only [List.set_cons_zero, List.set_cons_succ]
    refine runL 12 (.bool true) rfl (by rfl) (by go_simp) ?_
    simp only [List.set_cons_zero, List.set_cons_succ]
    refine nilL ?_
    go_upto_region 4 with fail
    refine wl_lit ?_
    refine runL 4 (.int .i64 3) rfl (by rfl) (by go_simp) ?_
    simp only [List.set_cons_zero, List.set_cons_succ]
    refine nilL ?_
    go_wp2_with fail
    go_ret
    exact ⟨by rw [heq.out]; rfl, hW⟩
  ·
    have heq := Lib.hid (he.symm.trans (if_neg (by omega)))
    clear he
    go_enter Try.func25, Try.ntmps25
    go_upto_region 0 with fail
    refine wl_lit ?_
    refine runL 4 (.int .i64 0) rfl (by rfl) (by go_simp) ?_
    simp only [List.set_cons_zero, List.set_cons_succ]
    refine nilL ?_
    go_upto_region 1 with fail
    refine wl_lit ?_
    refine runL 6 (.int .i64 (f)) rfl (by rfl) (by go_simp) ?_
    simp only [List.set_cons_zero, List.set_cons_succ]
    refine runL 7 (.bool false) rfl (by rfl) (by go_simp) ?_
    simp only [List.set_cons_zero, List.set_cons_succ]
    refine runL 8 (.bool false) rfl (by rfl) (by go_simp) ?_
    simp only [List.set_cons_zero, List.set_cons_succ]
    refine runL 9 (.int .i64 (m)) rfl (by rfl) (by go_simp) ?_
    simp only [List.set_cons_zero, List.set_cons_succ]
    refine runL 10 (.bool false) rfl (by rfl) (by go_simp) ?_
    simp only [List.set_cons_zero, List.set_cons_succ]
    refine runL 11 (.bool false) rfl (by rfl) (by go_simp) ?_
    simp only [List.set_cons_zero, List.set_cons_succ]
    refine runL 5 (.bool false) rfl (by rfl) (by go_simp) ?_
    simp only [List.set_cons_zero, List.set_cons_succ]
    refine nilL ?_
    go_upto_region 3 with fail
    refine wl_lit ?_
    refine runL 13 (.int .i64 (f)) rfl (by rfl) (by go_simp) ?_
    simp only [List.set_cons_zero, List.set_cons_succ]
    refine runL 14 (.bool false) rfl (by rfl) (by go_simp) ?_
    simp only [List.set_cons_zero, List.set_cons_succ]
    refine runL 15 (.bool false) rfl (by rfl) (by go_simp) ?_
    simp only [List.set_cons_zero, List.set_cons_succ]
    refine runL 16 (.int .i64 (m)) rfl (by rfl) (by go_simp) ?_
    simp only [List.set_cons_zero, List.set_cons_succ]
    refine runL 17 (.int .i64 (f)) rfl (by rfl) (by go_simp) ?_
    simp only [List.set_cons_zero, List.set_cons_succ]
    refine runL 18 (.int .i64 (1048576 - f)) rfl (by rfl) (by go_simp) ?_
    simp only [List.set_cons_zero, List.set_cons_succ]
    refine runL 19 (.bool false) rfl (by rfl) (by go_simp) ?_
    simp only [List.set_cons_zero, List.set_cons_succ]
    refine runL 20 (.bool false) rfl (by rfl) (by go_simp) ?_
    simp only [List.set_cons_zero, List.set_cons_succ]
    refine runL 12 (.bool false) rfl (by rfl) (by go_simp) ?_
    simp only [List.set_cons_zero, List.set_cons_succ]
    refine nilL ?_
    go_upto_region 5 with fail
    refine wl_lit ?_
    refine runL 4 (.int .i64 0) rfl (by rfl) (by go_simp) ?_
    simp only [List.set_cons_zero, List.set_cons_succ]
    refine nilL ?_
    go_wp2_with fail
    go_ret
    exact ⟨by rw [heq.out]; rfl, hW⟩

theorem rgV_sz (s c a b : Nat) : (Try.prog.info? 36).map (·.size) = some (rgV s c a b).size := by kernel_rfl
theorem rgV_one (s c a b : Nat) : ∀ v ∈ (rgV s c a b).toList, v.oneCell' = true := by simp [rgV, Value.oneCell']
theorem zv_Range (w : World) : (zeroValue 36).run Try.prog w = .ok (.agg (rgV 0 0 0 0)) w := by kernel_rfl
/-- what Used returns -/
def UsedIs (s c : Nat) (f m : Int) (R : Array Value) (E : Int) : Prop :=
  ∀ w : World, Calls Try.prog 24 #[.agg (noV s c), .int .i64 f, .int .i64 m] w fun e w' => e = .returned (.tuple #[.agg R, .int .i64 E]) ∧ Below w.heap.size w w'

set_option maxRecDepth 8000 in
set_option maxHeartbeats 2000000 in
theorem used_bad (s c : Nat) (f m e : Int) (he : chk f m = e) (hne : e ≠ 0) (hf : -9223372036854775808 ≤ f ∧ f ≤ 9223372036854775807) (hm : -9223372036854775808 ≤ m ∧ m ≤ 9223372036854775807) : UsedIs s c f m (rgV 0 0 0 0) e := by
  intro w
  obtain ⟨B0, hB0e⟩ : ∃ b, w.heap.size = b := ⟨_, rfl⟩
  rw [hB0e]
  have hW : Below B0 w w := by rw [← hB0e]; exact Below.refl _ _
  have hB0 : B0 ≤ w.heap.size := by omega
  have hB0q := Lib.hid hB0e
  clear hB0e
  go_enter Try.func24, Try.ntmps24
  go_upto_region 0 with fail
  refine wl_lit ?_
  refine runWL 3 (.pointer (some ⟨w.heap.size, 0, none⟩)) (w.alloc (.cells (noV s c) 26)) rfl (by rfl) (exec_box 26 (.tmp 0) rfl (.agg (noV s c)) rfl) ?_
  simp only [List.set_cons_zero, List.set_cons_succ]
  have lw_p3 := Nat.le_trans hB0 hW.size
  have hp3 : Blk (w.alloc (.cells (noV s c) 26)) w.heap.size 26 (noV s c) := Blk.new _ _ _
  replace hW := hW.alloc (Nat.le_trans hB0 hW.size) (.cells (noV s c) 26)
  generalize w.alloc (.cells (noV s c) 26) = w1 at *
  generalize w.heap.size = p3 at hp3 lw_p3  ⊢
  refine runWL 6 (.pointer (some ⟨w1.heap.size, 0, none⟩)) (w1.alloc (.cells (rgV 0 0 0 0) 36)) rfl (by rfl) (exec_allocV 36 rfl _ (zv_Range _)) ?_
  simp only [List.set_cons_zero, List.set_cons_succ]
  have lp3_p6 := hp3.lt
  have lw_p6 := Nat.le_trans hB0 hW.size
  have hp6 : Blk (w1.alloc (.cells (rgV 0 0 0 0) 36)) w1.heap.size 36 (rgV 0 0 0 0) := Blk.new _ _ _
  replace hp3 := hp3.alloc (.cells (rgV 0 0 0 0) 36)
  replace hW := hW.alloc (Nat.le_trans hB0 hW.size) (.cells (rgV 0 0 0 0) 36)
  generalize w1.alloc (.cells (rgV 0 0 0 0) 36) = w2 at *
  generalize w1.heap.size = p6 at hp6 lw_p6 lp3_p6 ⊢
  refine runL 7 (.int .i64 0) rfl (by rfl) (by go_simp) ?_
  simp only [List.set_cons_zero, List.set_cons_succ]
  refine nilL ?_
  have hnI : ¬ (e : Int) = 0 := hne
  go_upto_region 1 with fail
  refine wl_lit ?_
  refine runL 9 (.int .i64 (f)) rfl (by rfl) (by go_simp) ?_
  simp only [List.set_cons_zero, List.set_cons_succ]
  refine runL 10 (.int .i64 (m)) rfl (by rfl) (by go_simp) ?_
  simp only [List.set_cons_zero, List.set_cons_succ]
  refine callL 11 rfl (by rfl) (fun K hK => wp_callF 25 #[.int .i64 (f), .int .i64 (m)] (by go_simp) (check_any f m e he hf hm _) ?_)
  rintro e w3 ⟨rfl, bx⟩
  replace hp3 := hp3.below bx hp3.lt
  replace hp6 := hp6.below bx hp6.lt
  replace hW := hW.trans (bx.mono (Nat.le_trans hB0 hW.size))
  clear bx
  refine ⟨_, rfl, hK.out _ _ ?_⟩
  clear hK K
  simp only [List.set_cons_zero, List.set_cons_succ]
  refine runL 8 (.int .i64 (e)) rfl (by rfl) (by go_simp) ?_
  simp only [List.set_cons_zero, List.set_cons_succ]
  refine nilL ?_
  go_upto_region 2 with fail
  refine wl_lit ?_
  refine runL 12 (.int .i64 (e)) rfl (by rfl) (by go_simp) ?_
  simp only [List.set_cons_zero, List.set_cons_succ]
  refine runL 13 (.bool true) rfl (by rfl) (by go_simp) ?_
  simp only [List.set_cons_zero, List.set_cons_succ]
  refine nilL ?_
  go_upto_region 3 with fail
  refine wl_lit ?_
  refine runL 14 (.agg (rgV 0 0 0 0)) rfl (by rfl) (exec_build 36 _ rfl (rgV 0 0 0 0) (by kernel_rfl)) ?_
  simp only [List.set_cons_zero, List.set_cons_succ]
  refine runL 15 (.int .i64 (e)) rfl (by rfl) (by go_simp) ?_
  simp only [List.set_cons_zero, List.set_cons_succ]
  refine runSL (w3.setRow p6 (rgV 0 0 0 0)) rfl (by rfl) (exec_storeRow 36 (.tmp 6) (.tmp 14) rfl p6 rfl (rgV 0 0 0 0) rfl 36 (rgV 0 0 0 0) hp6 (sz_eq (rgV_sz _ _ _ _) (rgV_sz _ _ _ _)) (rgV_sz _ _ _ _) (rgV_one _ _ _ _)) ?_
  replace hp3 := hp3.rowFar (show p6 ≠ p3 from (by omega)) (rgV 0 0 0 0)
  replace hp6 := hp6.row (rgV 0 0 0 0)
  replace hW := below_setRow hW lw_p6 (rgV 0 0 0 0)
  generalize w3.setRow p6 (rgV 0 0 0 0) = w4 at *
  refine runL 7 (.int .i64 (e)) rfl (by rfl) (by go_simp) ?_
  simp only [List.set_cons_zero, List.set_cons_succ]
  refine nilL ?_
  go_wp2_with fail
  exact bodyPost_ret (results_row_tmp rfl _ _ p6 36 (rgV 0 0 0 0) _ _ rfl hp6 (by exact Try.underlying36) rfl (rgV_sz _ _ _ _) rfl) rfl ⟨rfl, hW⟩

set_option maxRecDepth 8000 in
set_option maxHeartbeats 2000000 in
theorem used_none (s c : Nat) (f : Int) (he : chk f 0 = 0) (hf : -9223372036854775808 ≤ f ∧ f ≤ 9223372036854775807) : UsedIs s c f 0 (rgV 0 0 0 0) 16 := by
  intro w
  obtain ⟨B0, hB0e⟩ : ∃ b, w.heap.size = b := ⟨_, rfl⟩
  rw [hB0e]
  have hW : Below B0 w w := by rw [← hB0e]; exact Below.refl _ _
  have hB0 : B0 ≤ w.heap.size := by omega
  have hB0q := Lib.hid hB0e
  clear hB0e
  go_enter Try.func24, Try.ntmps24
  go_upto_region 0 with fail
  refine wl_lit ?_
  refine runWL 3 (.pointer (some ⟨w.heap.size, 0, none⟩)) (w.alloc (.cells (noV s c) 26)) rfl (by rfl) (exec_box 26 (.tmp 0) rfl (.agg (noV s c)) rfl) ?_
  simp only [List.set_cons_zero, List.set_cons_succ]
  have lw_p3 := Nat.le_trans hB0 hW.size
  have hp3 : Blk (w.alloc (.cells (noV s c) 26)) w.heap.size 26 (noV s c) := Blk.new _ _ _
  replace hW := hW.alloc (Nat.le_trans hB0 hW.size) (.cells (noV s c) 26)
  generalize w.alloc (.cells (noV s c) 26) = w1 at *
  generalize w.heap.size = p3 at hp3 lw_p3  ⊢
  refine runWL 6 (.pointer (some ⟨w1.heap.size, 0, none⟩)) (w1.alloc (.cells (rgV 0 0 0 0) 36)) rfl (by rfl) (exec_allocV 36 rfl _ (zv_Range _)) ?_
  simp only [List.set_cons_zero, List.set_cons_succ]
  have lp3_p6 := hp3.lt
  have lw_p6 := Nat.le_trans hB0 hW.size
  have hp6 : Blk (w1.alloc (.cells (rgV 0 0 0 0) 36)) w1.heap.size 36 (rgV 0 0 0 0) := Blk.new _ _ _
  replace hp3 := hp3.alloc (.cells (rgV 0 0 0 0) 36)
  replace hW := hW.alloc (Nat.le_trans hB0 hW.size) (.cells (rgV 0 0 0 0) 36)
  generalize w1.alloc (.cells (rgV 0 0 0 0) 36) = w2 at *
  generalize w1.heap.size = p6 at hp6 lw_p6 lp3_p6 ⊢
  refine runL 7 (.int .i64 0) rfl (by rfl) (by go_simp) ?_
  simp only [List.set_cons_zero, List.set_cons_succ]
  refine nilL ?_
  go_upto_region 1 with fail
  refine wl_lit ?_
  refine runL 9 (.int .i64 (f)) rfl (by rfl) (by go_simp) ?_
  simp only [List.set_cons_zero, List.set_cons_succ]
  refine runL 10 (.int .i64 0) rfl (by rfl) (by go_simp) ?_
  simp only [List.set_cons_zero, List.set_cons_succ]
  refine callL 11 rfl (by rfl) (fun K hK => wp_callF 25 #[.int .i64 (f), .int .i64 0] (by go_simp) (check_any f 0 0 he hf (by omega) _) ?_)
  rintro e w3 ⟨rfl, bx⟩
  replace hp3 := hp3.below bx hp3.lt
  replace hp6 := hp6.below bx hp6.lt
  replace hW := hW.trans (bx.mono (Nat.le_trans hB0 hW.size))
  clear bx
  refine ⟨_, rfl, hK.out _ _ ?_⟩
  clear hK K
  simp only [List.set_cons_zero, List.set_cons_succ]
  refine runL 8 (.int .i64 0) rfl (by rfl) (by go_simp) ?_
  simp only [List.set_cons_zero, List.set_cons_succ]
  refine nilL ?_
  go_upto_region 2 with fail
  refine wl_lit ?_
  refine runL 12 (.int .i64 0) rfl (by rfl) (by go_simp) ?_
  simp only [List.set_cons_zero, List.set_cons_succ]
  refine runL 13 (.bool false) rfl (by rfl) (by go_simp) ?_
  simp only [List.set_cons_zero, List.set_cons_succ]
  refine nilL ?_
  go_upto_region 4 with fail
  refine wl_lit ?_
  refine runL 16 (.int .i64 0) rfl (by rfl) (by go_simp) ?_
  simp only [List.set_cons_zero, List.set_cons_succ]
  refine runL 17 (.bool true) rfl (by rfl) (by go_simp) ?_
  simp only [List.set_cons_zero, List.set_cons_succ]
  refine nilL ?_
  go_upto_region 5 with fail
  refine wl_lit ?_
  refine runL 18 (.agg (rgV 0 0 0 0)) rfl (by rfl) (exec_build 36 _ rfl (rgV 0 0 0 0) (by kernel_rfl)) ?_
  simp only [List.set_cons_zero, List.set_cons_succ]
  refine runSL (w3.setRow p6 (rgV 0 0 0 0)) rfl (by rfl) (exec_storeRow 36 (.tmp 6) (.tmp 18) rfl p6 rfl (rgV 0 0 0 0) rfl 36 (rgV 0 0 0 0) hp6 (sz_eq (rgV_sz _ _ _ _) (rgV_sz _ _ _ _)) (rgV_sz _ _ _ _) (rgV_one _ _ _ _)) ?_
  replace hp3 := hp3.rowFar (show p6 ≠ p3 from (by omega)) (rgV 0 0 0 0)
  replace hp6 := hp6.row (rgV 0 0 0 0)
  replace hW := below_setRow hW lw_p6 (rgV 0 0 0 0)
  generalize w3.setRow p6 (rgV 0 0 0 0) = w4 at *
  refine runL 7 (.int .i64 16) rfl (by rfl) (by go_simp) ?_
  simp only [List.set_cons_zero, List.set_cons_succ]
  refine nilL ?_
  go_wp2_with fail
  exact bodyPost_ret (results_row_tmp rfl _ _ p6 36 (rgV 0 0 0 0) _ _ rfl hp6 (by exact Try.underlying36) rfl (rgV_sz _ _ _ _) rfl) rfl ⟨rfl, hW⟩

set_option maxRecDepth 8000 in
set_option maxHeartbeats 2000000 in
theorem used_ok (s c F M a b : Nat) (hM : 0 < M) (hFM : F + M ≤ 1048576) (ha : F / 16 = a) (hb : (F + M - 1) / 16 = b) : UsedIs s c (F : Int) (M : Int) (rgV s c a b) 0 := by
  intro w
  have he : chk (F : Int) (M : Int) = 0 := by unfold chk; rw [if_neg (by omega), if_neg (by omega)]
  have d1 : (F : Int).tdiv 16 = (a : Int) := by rw [Int.tdiv_eq_ediv_of_nonneg (by omega)]; omega
  have d2 : (F : Int) / 16 = (a : Int) := by omega
  have x1 : IntKind.i64.wrap ((F : Int) + (M : Int)) = (F : Int) + (M : Int) := IntWalk.i64_in _ (by omega)
  have x2 : IntKind.i64.wrap ((F : Int) + (M : Int) - 1) = (F : Int) + (M : Int) - 1 := IntWalk.i64_in _ (by omega)
  have d3 : ((F : Int) + (M : Int) - 1).tdiv 16 = (b : Int) := by rw [Int.tdiv_eq_ediv_of_nonneg (by omega)]; omega
  have d4 : ((F : Int) + (M : Int) - 1) / 16 = (b : Int) := by omega
  have x3 : IntKind.u32.wrap (a : Int) = (a : Int) := by simp [IntKind.wrap, IntKind.bits, IntKind.signed]; omega
  have x4 : IntKind.u32.wrap (b : Int) = (b : Int) := by simp [IntKind.wrap, IntKind.bits, IntKind.signed]; omega
  have x5 : IntKind.i64.wrap (a : Int) = (a : Int) := IntWalk.i64_in _ (by omega)
  have x6 : IntKind.i64.wrap (b : Int) = (b : Int) := IntWalk.i64_in _ (by omega)
  have hMI : ¬ (M : Int) = 0 := by omega
  have hMN : ¬ M = 0 := by omega
  clear ha hb
  obtain ⟨B0, hB0e⟩ : ∃ b, w.heap.size = b := ⟨_, rfl⟩
  rw [hB0e]
  have hW : Below B0 w w := by rw [← hB0e]; exact Below.refl _ _
  have hB0 : B0 ≤ w.heap.size := by omega
  have hB0q := Lib.hid hB0e
  clear hB0e
  go_enter Try.func24, Try.ntmps24
  go_upto_region 0 with fail
  refine wl_lit ?_
  refine runWL 3 (.pointer (some ⟨w.heap.size, 0, none⟩)) (w.alloc (.cells (noV s c) 26)) rfl (by rfl) (exec_box 26 (.tmp 0) rfl (.agg (noV s c)) rfl) ?_
  simp only [List.set_cons_zero, List.set_cons_succ]
  have lw_p3 := Nat.le_trans hB0 hW.size
  have hp3 : Blk (w.alloc (.cells (noV s c) 26)) w.heap.size 26 (noV s c) := Blk.new _ _ _
  replace hW := hW.alloc (Nat.le_trans hB0 hW.size) (.cells (noV s c) 26)
  generalize w.alloc (.cells (noV s c) 26) = w1 at *
  generalize w.heap.size = p3 at hp3 lw_p3  ⊢
  refine runWL 6 (.pointer (some ⟨w1.heap.size, 0, none⟩)) (w1.alloc (.cells (rgV 0 0 0 0) 36)) rfl (by rfl) (exec_allocV 36 rfl _ (zv_Range _)) ?_
  simp only [List.set_cons_zero, List.set_cons_succ]
  have lp3_p6 := hp3.lt
  have lw_p6 := Nat.le_trans hB0 hW.size
  have hp6 : Blk (w1.alloc (.cells (rgV 0 0 0 0) 36)) w1.heap.size 36 (rgV 0 0 0 0) := Blk.new _ _ _
  replace hp3 := hp3.alloc (.cells (rgV 0 0 0 0) 36)
  replace hW := hW.alloc (Nat.le_trans hB0 hW.size) (.cells (rgV 0 0 0 0) 36)
  generalize w1.alloc (.cells (rgV 0 0 0 0) 36) = w2 at *
  generalize w1.heap.size = p6 at hp6 lw_p6 lp3_p6 ⊢
  refine runL 7 (.int .i64 0) rfl (by rfl) (by go_simp) ?_
  simp only [List.set_cons_zero, List.set_cons_succ]
  refine nilL ?_
  go_upto_region 1 with fail
  refine wl_lit ?_
  refine runL 9 (.int .i64 (F : Int)) rfl (by rfl) (by go_simp) ?_
  simp only [List.set_cons_zero, List.set_cons_succ]
  refine runL 10 (.int .i64 (M : Int)) rfl (by rfl) (by go_simp) ?_
  simp only [List.set_cons_zero, List.set_cons_succ]
  refine callL 11 rfl (by rfl) (fun K hK => wp_callF 25 #[.int .i64 (F : Int), .int .i64 (M : Int)] (by go_simp) (check_any _ _ 0 he (by omega) (by omega) _) ?_)
  rintro e w3 ⟨rfl, bx⟩
  replace hp3 := hp3.below bx hp3.lt
  replace hp6 := hp6.below bx hp6.lt
  replace hW := hW.trans (bx.mono (Nat.le_trans hB0 hW.size))
  clear bx
  refine ⟨_, rfl, hK.out _ _ ?_⟩
  clear hK K
  simp only [List.set_cons_zero, List.set_cons_succ]
  refine runL 8 (.int .i64 0) rfl (by rfl) (by go_simp) ?_
  simp only [List.set_cons_zero, List.set_cons_succ]
  refine nilL ?_
  go_upto_region 2 with fail
  refine wl_lit ?_
  refine runL 12 (.int .i64 0) rfl (by rfl) (by go_simp) ?_
  simp only [List.set_cons_zero, List.set_cons_succ]
  refine runL 13 (.bool false) rfl (by rfl) (by go_simp) ?_
  simp only [List.set_cons_zero, List.set_cons_succ]
  refine nilL ?_
  go_upto_region 4 with fail
  refine wl_lit ?_
  refine runL 16 (.int .i64 (M : Int)) rfl (by rfl) (by go_simp) ?_
  simp only [List.set_cons_zero, List.set_cons_succ]
  refine runL 17 (.bool false) rfl (by rfl) (by go_simp) ?_
  simp only [List.set_cons_zero, List.set_cons_succ]
  refine nilL ?_
  go_upto_region 6 with fail
  refine wl_lit ?_
  refine runL 19 (.agg (noV s c)) rfl (by rfl) (exec_row 26 (.tmp 3) rfl p3 rfl 26 (noV s c) _ hp3 (by exact Try.underlying26) rfl (noV_sz _ _)) ?_
  simp only [List.set_cons_zero, List.set_cons_succ]
  refine runL 20 (.int .i64 (F : Int)) rfl (by rfl) (by go_simp) ?_
  simp only [List.set_cons_zero, List.set_cons_succ]
  refine runL 21 (.int .i64 (a : Int)) rfl (by rfl) (by go_simp) ?_
  simp only [List.set_cons_zero, List.set_cons_succ]
  refine runL 22 (.int .u32 (a : Int)) rfl (by rfl) (by go_simp) ?_
  simp only [List.set_cons_zero, List.set_cons_succ]
  refine runL 23 (.int .i64 (F : Int)) rfl (by rfl) (by go_simp) ?_
  simp only [List.set_cons_zero, List.set_cons_succ]
  refine runL 24 (.int .i64 (M : Int)) rfl (by rfl) (by go_simp) ?_
  simp only [List.set_cons_zero, List.set_cons_succ]
  refine runL 25 (.int .i64 ((F : Int) + (M : Int))) rfl (by rfl) (by go_simp) ?_
  simp only [List.set_cons_zero, List.set_cons_succ]
  refine runL 26 (.int .i64 ((F : Int) + (M : Int) - 1)) rfl (by rfl) (by go_simp) ?_
  simp only [List.set_cons_zero, List.set_cons_succ]
  refine runL 27 (.int .i64 (b : Int)) rfl (by rfl) (by go_simp) ?_
  simp only [List.set_cons_zero, List.set_cons_succ]
  refine runL 28 (.int .u32 (b : Int)) rfl (by rfl) (by go_simp) ?_
  simp only [List.set_cons_zero, List.set_cons_succ]
  refine runL 29 (.agg (rgV s c a b)) rfl (by rfl) (exec_build 36 _ rfl (rgV s c a b) (by kernel_rfl)) ?_
  simp only [List.set_cons_zero, List.set_cons_succ]
  refine runSL (w3.setRow p6 (rgV s c a b)) rfl (by rfl) (exec_storeRow 36 (.tmp 6) (.tmp 29) rfl p6 rfl (rgV s c a b) rfl 36 (rgV 0 0 0 0) hp6 (sz_eq (rgV_sz _ _ _ _) (rgV_sz _ _ _ _)) (rgV_sz _ _ _ _) (rgV_one _ _ _ _)) ?_
  replace hp3 := hp3.rowFar (show p6 ≠ p3 from (by omega)) (rgV s c a b)
  replace hp6 := hp6.row (rgV s c a b)
  replace hW := below_setRow hW lw_p6 (rgV s c a b)
  generalize w3.setRow p6 (rgV s c a b) = w4 at *
  refine runL 7 (.int .i64 0) rfl (by rfl) (by go_simp) ?_
  simp only [List.set_cons_zero, List.set_cons_succ]
  refine nilL ?_
  go_wp2_with fail
  exact bodyPost_ret (results_row_tmp rfl _ _ p6 36 (rgV s c a b) _ _ rfl hp6 (by exact Try.underlying36) rfl (rgV_sz _ _ _ _) rfl) rfl ⟨rfl, hW⟩

theorem sz2 (a b : Nat) : (Try.prog.info? 33).map (·.size) = some (r2V a b).size := by kernel_rfl
set_option maxRecDepth 8000 in
set_option maxHeartbeats 2000000 in
theorem lawused_bad (s c a b : Nat) (f m e : Int) (he : e ≠ 0) (h : UsedIs s c f m (rgV 0 0 0 0) e) (w : World) :
    Calls Try.prog 12 #[.agg (noV s c), .int .i64 f, .int .i64 m, .agg (r2V a b), .int .i64 e] w fun e' w' => e' = .returned (.bool true) ∧ Below w.heap.size w w' := by
  have hnI : ¬ e = 0 := he
  obtain ⟨B0, hB0e⟩ : ∃ b, w.heap.size = b := ⟨_, rfl⟩
  rw [hB0e]
  have hW : Below B0 w w := by rw [← hB0e]; exact Below.refl _ _
  have hB0 : B0 ≤ w.heap.size := by omega
  have hB0q := Lib.hid hB0e
  clear hB0e
  go_enter Try.func12, Try.ntmps12
  go_upto_region 0 with fail
  refine wl_lit ?_
  refine runWL 5 (.pointer (some ⟨w.heap.size, 0, none⟩)) (w.alloc (.cells (noV s c) 26)) rfl (by rfl) (exec_box 26 (.tmp 0) rfl (.agg (noV s c)) rfl) ?_
  simp only [List.set_cons_zero, List.set_cons_succ]
  have lw_p5 := Nat.le_trans hB0 hW.size
  have hp5 : Blk (w.alloc (.cells (noV s c) 26)) w.heap.size 26 (noV s c) := Blk.new _ _ _
  replace hW := hW.alloc (Nat.le_trans hB0 hW.size) (.cells (noV s c) 26)
  generalize w.alloc (.cells (noV s c) 26) = w1 at *
  generalize w.heap.size = p5 at hp5 lw_p5  ⊢
  refine runWL 8 (.pointer (some ⟨w1.heap.size, 0, none⟩)) (w1.alloc (.cells (r2V a b) 33)) rfl (by rfl) (exec_box 33 (.tmp 3) rfl (.agg (r2V a b)) rfl) ?_
  simp only [List.set_cons_zero, List.set_cons_succ]
  have lp5_p8 := hp5.lt
  have lw_p8 := Nat.le_trans hB0 hW.size
  have hp8 : Blk (w1.alloc (.cells (r2V a b) 33)) w1.heap.size 33 (r2V a b) := Blk.new _ _ _
  replace hp5 := hp5.alloc (.cells (r2V a b) 33)
  replace hW := hW.alloc (Nat.le_trans hB0 hW.size) (.cells (r2V a b) 33)
  generalize w1.alloc (.cells (r2V a b) 33) = w2 at *
  generalize w1.heap.size = p8 at hp8 lw_p8 lp5_p8 ⊢
  refine runL 10 (.bool false) rfl (by rfl) (by go_simp) ?_
  simp only [List.set_cons_zero, List.set_cons_succ]
  refine nilL ?_
  go_upto_region 1 with fail
  refine wl_lit ?_
  refine runL 14 (.agg (noV s c)) rfl (by rfl) (exec_row 26 (.tmp 5) rfl p5 rfl 26 (noV s c) _ hp5 (by exact Try.underlying26) rfl (noV_sz _ _)) ?_
  simp only [List.set_cons_zero, List.set_cons_succ]
  refine runL 15 (.int .i64 (f)) rfl (by rfl) (by go_simp) ?_
  simp only [List.set_cons_zero, List.set_cons_succ]
  refine runL 16 (.int .i64 (m)) rfl (by rfl) (by go_simp) ?_
  simp only [List.set_cons_zero, List.set_cons_succ]
  refine callL 17 rfl (by rfl) (fun K hK => wp_callF 24 #[.agg (noV s c), .int .i64 (f), .int .i64 (m)] (by go_simp) (h _) ?_)
  rintro e w3 ⟨rfl, bx⟩
  replace hp5 := hp5.below bx hp5.lt
  replace hp8 := hp8.below bx hp8.lt
  replace hW := hW.trans (bx.mono (Nat.le_trans hB0 hW.size))
  clear bx
  refine ⟨_, rfl, hK.out _ _ ?_⟩
  clear hK K
  simp only [List.set_cons_zero, List.set_cons_succ]
  refine runL 13 (.tuple #[.agg (rgV 0 0 0 0), .int .i64 (e)]) rfl (by rfl) (by go_simp) ?_
  simp only [List.set_cons_zero, List.set_cons_succ]
  refine runL 18 (.agg (rgV 0 0 0 0)) rfl (by rfl) (by go_simp) ?_
  simp only [List.set_cons_zero, List.set_cons_succ]
  refine runL 19 (.int .i64 (e)) rfl (by rfl) (by go_simp) ?_
  simp only [List.set_cons_zero, List.set_cons_succ]
  refine runWL 11 (.pointer (some ⟨w3.heap.size, 0, none⟩)) (w3.alloc (.cells (rgV 0 0 0 0) 36)) rfl (by rfl) (exec_allocV 36 rfl _ (zv_Range _)) ?_
  simp only [List.set_cons_zero, List.set_cons_succ]
  have lp5_p11 := hp5.lt
  have lp8_p11 := hp8.lt
  have lw_p11 := Nat.le_trans hB0 hW.size
  have hp11 : Blk (w3.alloc (.cells (rgV 0 0 0 0) 36)) w3.heap.size 36 (rgV 0 0 0 0) := Blk.new _ _ _
  replace hp5 := hp5.alloc (.cells (rgV 0 0 0 0) 36)
  replace hp8 := hp8.alloc (.cells (rgV 0 0 0 0) 36)
  replace hW := hW.alloc (Nat.le_trans hB0 hW.size) (.cells (rgV 0 0 0 0) 36)
  generalize w3.alloc (.cells (rgV 0 0 0 0) 36) = w4 at *
  generalize w3.heap.size = p11 at hp11 lw_p11 lp5_p11 lp8_p11 ⊢
  refine runSL (w4.setRow p11 (rgV 0 0 0 0)) rfl (by rfl) (exec_storeRow 36 (.tmp 11) (.tmp 18) rfl p11 rfl (rgV 0 0 0 0) rfl 36 (rgV 0 0 0 0) hp11 (sz_eq (rgV_sz _ _ _ _) (rgV_sz _ _ _ _)) (rgV_sz _ _ _ _) (rgV_one _ _ _ _)) ?_
  replace hp5 := hp5.rowFar (show p11 ≠ p5 from (by omega)) (rgV 0 0 0 0)
  replace hp8 := hp8.rowFar (show p11 ≠ p8 from (by omega)) (rgV 0 0 0 0)
  replace hp11 := hp11.row (rgV 0 0 0 0)
  replace hW := below_setRow hW lw_p11 (rgV 0 0 0 0)
  generalize w4.setRow p11 (rgV 0 0 0 0) = w5 at *
  refine runL 12 (.int .i64 (e)) rfl (by rfl) (by go_simp) ?_
  simp only [List.set_cons_zero, List.set_cons_succ]
  refine nilL ?_
  go_upto_region 2 with fail
  refine wl_lit ?_
  refine runL 20 (.int .i64 (e)) rfl (by rfl) (by go_simp) ?_
  simp only [List.set_cons_zero, List.set_cons_succ]
  refine runL 21 (.bool true) rfl (by rfl) (by go_simp) ?_
  simp only [List.set_cons_zero, List.set_cons_succ]
  refine nilL ?_
  go_upto_region 3 with fail
  refine wl_lit ?_
  refine runL 22 (.agg (rgV 0 0 0 0)) rfl (by rfl) (exec_row 36 (.tmp 11) rfl p11 rfl 36 (rgV 0 0 0 0) _ hp11 (by exact Try.underlying36) rfl (rgV_sz _ _ _ _)) ?_
  simp only [List.set_cons_zero, List.set_cons_succ]
  refine runL 23 (.agg (rgV 0 0 0 0)) rfl (by rfl) (exec_build 36 _ rfl (rgV 0 0 0 0) (by kernel_rfl)) ?_
  simp only [List.set_cons_zero, List.set_cons_succ]
  refine runL 24 (.bool true) rfl (by rfl) (exec_eqV 36 (by kernel_rfl) (.tmp 22) (.tmp 23) _ rfl (rgV 0 0 0 0) (rgV 0 0 0 0) rfl rfl true (eqRg _ _ _ _ _)) ?_
  simp only [List.set_cons_zero, List.set_cons_succ]
  refine runL 25 (.bool true) rfl (by rfl) (by go_simp) ?_
  simp only [List.set_cons_zero, List.set_cons_succ]
  refine runL 26 (.int .i64 (e)) rfl (by rfl) (by go_simp) ?_
  simp only [List.set_cons_zero, List.set_cons_succ]
  refine runL 27 (.int .i64 (e)) rfl (by rfl) (by go_simp) ?_
  simp only [List.set_cons_zero, List.set_cons_succ]
  refine runL 28 (.bool true) rfl (by rfl) (by go_simp) ?_
  simp only [List.set_cons_zero, List.set_cons_succ]
  refine runL 29 (.bool true) rfl (by rfl) (by go_simp) ?_
  simp only [List.set_cons_zero, List.set_cons_succ]
  refine runL 10 (.bool true) rfl (by rfl) (by go_simp) ?_
  simp only [List.set_cons_zero, List.set_cons_succ]
  refine nilL ?_
  go_wp2_with fail
  go_ret
  exact ⟨rfl, hW⟩

set_option maxRecDepth 8000 in
set_option maxHeartbeats 2000000 in
theorem lawused_ok (s c a b : Nat) (f m : Int) (h : UsedIs s c f m (rgV s c a b) 0) (w : World) :
    Calls Try.prog 12 #[.agg (noV s c), .int .i64 f, .int .i64 m, .agg (r2V a b), .int .i64 0] w fun e' w' => e' = .returned (.bool true) ∧ Below w.heap.size w w' := by
  obtain ⟨B0, hB0e⟩ : ∃ b, w.heap.size = b := ⟨_, rfl⟩
  rw [hB0e]
  have hW : Below B0 w w := by rw [← hB0e]; exact Below.refl _ _
  have hB0 : B0 ≤ w.heap.size := by omega
  have hB0q := Lib.hid hB0e
  clear hB0e
  go_enter Try.func12, Try.ntmps12
  go_upto_region 0 with fail
  refine wl_lit ?_
  refine runWL 5 (.pointer (some ⟨w.heap.size, 0, none⟩)) (w.alloc (.cells (noV s c) 26)) rfl (by rfl) (exec_box 26 (.tmp 0) rfl (.agg (noV s c)) rfl) ?_
  simp only [List.set_cons_zero, List.set_cons_succ]
  have lw_p5 := Nat.le_trans hB0 hW.size
  have hp5 : Blk (w.alloc (.cells (noV s c) 26)) w.heap.size 26 (noV s c) := Blk.new _ _ _
  replace hW := hW.alloc (Nat.le_trans hB0 hW.size) (.cells (noV s c) 26)
  generalize w.alloc (.cells (noV s c) 26) = w1 at *
  generalize w.heap.size = p5 at hp5 lw_p5  ⊢
  refine runWL 8 (.pointer (some ⟨w1.heap.size, 0, none⟩)) (w1.alloc (.cells (r2V a b) 33)) rfl (by rfl) (exec_box 33 (.tmp 3) rfl (.agg (r2V a b)) rfl) ?_
  simp only [List.set_cons_zero, List.set_cons_succ]
  have lp5_p8 := hp5.lt
  have lw_p8 := Nat.le_trans hB0 hW.size
  have hp8 : Blk (w1.alloc (.cells (r2V a b) 33)) w1.heap.size 33 (r2V a b) := Blk.new _ _ _
  replace hp5 := hp5.alloc (.cells (r2V a b) 33)
  replace hW := hW.alloc (Nat.le_trans hB0 hW.size) (.cells (r2V a b) 33)
  generalize w1.alloc (.cells (r2V a b) 33) = w2 at *
  generalize w1.heap.size = p8 at hp8 lw_p8 lp5_p8 ⊢
  refine runL 10 (.bool false) rfl (by rfl) (by go_simp) ?_
  simp only [List.set_cons_zero, List.set_cons_succ]
  refine nilL ?_
  go_upto_region 1 with fail
  refine wl_lit ?_
  refine runL 14 (.agg (noV s c)) rfl (by rfl) (exec_row 26 (.tmp 5) rfl p5 rfl 26 (noV s c) _ hp5 (by exact Try.underlying26) rfl (noV_sz _ _)) ?_
  simp only [List.set_cons_zero, List.set_cons_succ]
  refine runL 15 (.int .i64 (f)) rfl (by rfl) (by go_simp) ?_
  simp only [List.set_cons_zero, List.set_cons_succ]
  refine runL 16 (.int .i64 (m)) rfl (by rfl) (by go_simp) ?_
  simp only [List.set_cons_zero, List.set_cons_succ]
  refine callL 17 rfl (by rfl) (fun K hK => wp_callF 24 #[.agg (noV s c), .int .i64 (f), .int .i64 (m)] (by go_simp) (h _) ?_)
  rintro e w3 ⟨rfl, bx⟩
  replace hp5 := hp5.below bx hp5.lt
  replace hp8 := hp8.below bx hp8.lt
  replace hW := hW.trans (bx.mono (Nat.le_trans hB0 hW.size))
  clear bx
  refine ⟨_, rfl, hK.out _ _ ?_⟩
  clear hK K
  simp only [List.set_cons_zero, List.set_cons_succ]
  refine runL 13 (.tuple #[.agg (rgV s c a b), .int .i64 0]) rfl (by rfl) (by go_simp) ?_
  simp only [List.set_cons_zero, List.set_cons_succ]
  refine runL 18 (.agg (rgV s c a b)) rfl (by rfl) (by go_simp) ?_
  simp only [List.set_cons_zero, List.set_cons_succ]
  refine runL 19 (.int .i64 0) rfl (by rfl) (by go_simp) ?_
  simp only [List.set_cons_zero, List.set_cons_succ]
  refine runWL 11 (.pointer (some ⟨w3.heap.size, 0, none⟩)) (w3.alloc (.cells (rgV 0 0 0 0) 36)) rfl (by rfl) (exec_allocV 36 rfl _ (zv_Range _)) ?_
  simp only [List.set_cons_zero, List.set_cons_succ]
  have lp5_p11 := hp5.lt
  have lp8_p11 := hp8.lt
  have lw_p11 := Nat.le_trans hB0 hW.size
  have hp11 : Blk (w3.alloc (.cells (rgV 0 0 0 0) 36)) w3.heap.size 36 (rgV 0 0 0 0) := Blk.new _ _ _
  replace hp5 := hp5.alloc (.cells (rgV 0 0 0 0) 36)
  replace hp8 := hp8.alloc (.cells (rgV 0 0 0 0) 36)
  replace hW := hW.alloc (Nat.le_trans hB0 hW.size) (.cells (rgV 0 0 0 0) 36)
  generalize w3.alloc (.cells (rgV 0 0 0 0) 36) = w4 at *
  generalize w3.heap.size = p11 at hp11 lw_p11 lp5_p11 lp8_p11 ⊢
  refine runSL (w4.setRow p11 (rgV s c a b)) rfl (by rfl) (exec_storeRow 36 (.tmp 11) (.tmp 18) rfl p11 rfl (rgV s c a b) rfl 36 (rgV 0 0 0 0) hp11 (sz_eq (rgV_sz _ _ _ _) (rgV_sz _ _ _ _)) (rgV_sz _ _ _ _) (rgV_one _ _ _ _)) ?_
  replace hp5 := hp5.rowFar (show p11 ≠ p5 from (by omega)) (rgV s c a b)
  replace hp8 := hp8.rowFar (show p11 ≠ p8 from (by omega)) (rgV s c a b)
  replace hp11 := hp11.row (rgV s c a b)
  replace hW := below_setRow hW lw_p11 (rgV s c a b)
  generalize w4.setRow p11 (rgV s c a b) = w5 at *
  refine runL 12 (.int .i64 0) rfl (by rfl) (by go_simp) ?_
  simp only [List.set_cons_zero, List.set_cons_succ]
  refine nilL ?_
  go_upto_region 2 with fail
  refine wl_lit ?_
  refine runL 20 (.int .i64 0) rfl (by rfl) (by go_simp) ?_
  simp only [List.set_cons_zero, List.set_cons_succ]
  refine runL 21 (.bool false) rfl (by rfl) (by go_simp) ?_
  simp only [List.set_cons_zero, List.set_cons_succ]
  refine nilL ?_
  go_upto_region 4 with fail
  refine wl_lit ?_
  refine runL 30 (.agg (rgV s c a b)) rfl (by rfl) (exec_row 36 (.tmp 11) rfl p11 rfl 36 (rgV s c a b) _ hp11 (by exact Try.underlying36) rfl (rgV_sz _ _ _ _)) ?_
  simp only [List.set_cons_zero, List.set_cons_succ]
  refine runL 31 (.agg (noV s c)) rfl (by rfl) (exec_row 26 (.tmp 5) rfl p5 rfl 26 (noV s c) _ hp5 (by exact Try.underlying26) rfl (noV_sz _ _)) ?_
  simp only [List.set_cons_zero, List.set_cons_succ]
  refine runL 32 (.pointer (some ⟨p8, 0, none⟩)) rfl (by rfl) (by go_simp) ?_
  simp only [List.set_cons_zero, List.set_cons_succ]
  refine runL 33 (.int .u32 (((a : Nat) : Int))) rfl (by rfl) (exec_cell 23 (.tmp 32) rfl p8 0 rfl (.int .u32 (((a : Nat) : Int))) _ Try.underlying23 rfl (hp8.cellIs 0 rfl)) ?_
  simp only [List.set_cons_zero, List.set_cons_succ]
  refine runL 34 (.pointer (some ⟨p8, 1, none⟩)) rfl (by rfl) (by go_simp) ?_
  simp only [List.set_cons_zero, List.set_cons_succ]
  refine runL 35 (.int .u32 (((b : Nat) : Int))) rfl (by rfl) (exec_cell 23 (.tmp 34) rfl p8 1 rfl (.int .u32 (((b : Nat) : Int))) _ Try.underlying23 rfl (hp8.cellIs 1 rfl)) ?_
  simp only [List.set_cons_zero, List.set_cons_succ]
  refine runL 36 (.agg (rgV s c a b)) rfl (by rfl) (exec_build 36 _ rfl (rgV s c a b) (by kernel_rfl)) ?_
  simp only [List.set_cons_zero, List.set_cons_succ]
  refine runL 37 (.bool true) rfl (by rfl) (exec_eqV 36 (by kernel_rfl) (.tmp 30) (.tmp 36) _ rfl (rgV s c a b) (rgV s c a b) rfl rfl true (eqRg _ _ _ _ _)) ?_
  simp only [List.set_cons_zero, List.set_cons_succ]
  refine runL 38 (.bool true) rfl (by rfl) (by go_simp) ?_
  simp only [List.set_cons_zero, List.set_cons_succ]
  refine runL 39 (.int .i64 0) rfl (by rfl) (by go_simp) ?_
  simp only [List.set_cons_zero, List.set_cons_succ]
  refine runL 40 (.bool true) rfl (by rfl) (by go_simp) ?_
  simp only [List.set_cons_zero, List.set_cons_succ]
  refine runL 41 (.bool true) rfl (by rfl) (by go_simp) ?_
  simp only [List.set_cons_zero, List.set_cons_succ]
  refine runL 10 (.bool true) rfl (by rfl) (by go_simp) ?_
  simp only [List.set_cons_zero, List.set_cons_succ]
  refine nilL ?_
  go_wp2_with fail
  go_ret
  exact ⟨rfl, hW⟩

/-- whether two ranges overlap -/
def ovl (s c a b s2 c2 a2 b2 : Nat) : Bool := decide (a ≤ b) && (decide (a2 ≤ b2) && (decide (s = s2 ∧ c = c2) && decide (max a a2 ≤ min b b2)))

set_option maxRecDepth 8000 in
set_option maxHeartbeats 2000000 in
theorem overlap_any (s c a b s2 c2 a2 b2 : Nat) (r : Bool) (hr : ovl s c a b s2 c2 a2 b2 = r) (w : World) :
    Calls Try.prog 14 #[.agg (rgV s c a b), .agg (rgV s2 c2 a2 b2)] w fun e' w' => e' = .returned (.bool r) ∧ Below w.heap.size w w' := by
  unfold ovl at hr
  obtain ⟨B0, hB0e⟩ : ∃ b, w.heap.size = b := ⟨_, rfl⟩
  rw [hB0e]
  have hW : Below B0 w w := by rw [← hB0e]; exact Below.refl _ _
  have hB0 : B0 ≤ w.heap.size := by omega
  have hB0q := Lib.hid hB0e
  clear hB0e
  by_cases h1 : b < a
  ·
    have hI : (b : Int) < (a : Int) := by omega
    have heq : Hid (r = false) := Lib.hid (by rw [← hr, decide_eq_false (by omega)]; rfl)
    clear hr
    go_enter Try.func14, Try.ntmps14
    go_upto_region 0 with fail
    refine wl_lit ?_
    refine runWL 2 (.pointer (some ⟨w.heap.size, 0, none⟩)) (w.alloc (.cells (rgV s c a b) 36)) rfl (by rfl) (exec_box 36 (.tmp 0) rfl (.agg (rgV s c a b)) rfl) ?_
    simp only [List.set_cons_zero, List.set_cons_succ]
    have lw_p2 := Nat.le_trans hB0 hW.size
    have hp2 : Blk (w.alloc (.cells (rgV s c a b) 36)) w.heap.size 36 (rgV s c a b) := Blk.new _ _ _
    replace hW := hW.alloc (Nat.le_trans hB0 hW.size) (.cells (rgV s c a b) 36)
    generalize w.alloc (.cells (rgV s c a b) 36) = w1 at *
    generalize w.heap.size = p2 at hp2 lw_p2  ⊢
    refine runWL 3 (.pointer (some ⟨w1.heap.size, 0, none⟩)) (w1.alloc (.cells (rgV s2 c2 a2 b2) 36)) rfl (by rfl) (exec_box 36 (.tmp 1) rfl (.agg (rgV s2 c2 a2 b2)) rfl) ?_
    simp only [List.set_cons_zero, List.set_cons_succ]
    have lp2_p3 := hp2.lt
    have lw_p3 := Nat.le_trans hB0 hW.size
    have hp3 : Blk (w1.alloc (.cells (rgV s2 c2 a2 b2) 36)) w1.heap.size 36 (rgV s2 c2 a2 b2) := Blk.new _ _ _
    replace hp2 := hp2.alloc (.cells (rgV s2 c2 a2 b2) 36)
    replace hW := hW.alloc (Nat.le_trans hB0 hW.size) (.cells (rgV s2 c2 a2 b2) 36)
    generalize w1.alloc (.cells (rgV s2 c2 a2 b2) 36) = w2 at *
    generalize w1.heap.size = p3 at hp3 lw_p3 lp2_p3 ⊢
    refine runL 4 (.bool false) rfl (by rfl) (by go_simp) ?_
    simp only [List.set_cons_zero, List.set_cons_succ]
    refine nilL ?_
    go_upto_region 1 with fail
    refine wl_lit ?_
    refine runL 5 (.pointer (some ⟨p2, 2, none⟩)) rfl (by rfl) (by go_simp) ?_
    simp only [List.set_cons_zero, List.set_cons_succ]
    refine runL 6 (.int .u32 (((a : Nat) : Int))) rfl (by rfl) (exec_cell 23 (.tmp 5) rfl p2 2 rfl (.int .u32 (((a : Nat) : Int))) _ Try.underlying23 rfl (hp2.cellIs 2 rfl)) ?_
    simp only [List.set_cons_zero, List.set_cons_succ]
    refine runL 7 (.pointer (some ⟨p2, 3, none⟩)) rfl (by rfl) (by go_simp) ?_
    simp only [List.set_cons_zero, List.set_cons_succ]
    refine runL 8 (.int .u32 (((b : Nat) : Int))) rfl (by rfl) (exec_cell 23 (.tmp 7) rfl p2 3 rfl (.int .u32 (((b : Nat) : Int))) _ Try.underlying23 rfl (hp2.cellIs 3 rfl)) ?_
    simp only [List.set_cons_zero, List.set_cons_succ]
    refine runL 9 (.bool true) rfl (by rfl) (by go_simp) ?_
    simp only [List.set_cons_zero, List.set_cons_succ]
    refine runL 10 (.bool true) rfl (by rfl) (by go_simp) ?_
    simp only [List.set_cons_zero, List.set_cons_succ]
    refine skipL 11 rfl (by kernel_rfl) ?_
    simp only [List.set_cons_zero, List.set_cons_succ]
    refine skipL 12 rfl (by kernel_rfl) ?_
    simp only [List.set_cons_zero, List.set_cons_succ]
    refine skipL 13 rfl (by kernel_rfl) ?_
    simp only [List.set_cons_zero, List.set_cons_succ]
    refine skipL 14 rfl (by kernel_rfl) ?_
    simp only [List.set_cons_zero, List.set_cons_succ]
    refine skipL 15 rfl (by kernel_rfl) ?_
    simp only [List.set_cons_zero, List.set_cons_succ]
    refine runL 16 (.bool true) rfl (by rfl) (by go_simp) ?_
    simp only [List.set_cons_zero, List.set_cons_succ]
    refine nilL ?_
    go_upto_region 2 with fail
    refine wl_lit ?_
    refine runL 4 (.bool false) rfl (by rfl) (by go_simp) ?_
    simp only [List.set_cons_zero, List.set_cons_succ]
    refine nilL ?_
    go_wp2_with fail
    go_ret
    exact ⟨by rw [heq.out]; rfl, hW⟩
  have hI : ¬ (b : Int) < (a : Int) := by omega
  rw [decide_eq_true (show a ≤ b by omega), Bool.true_and] at hr
  by_cases h2 : b2 < a2
  ·
    have hI2 : (b2 : Int) < (a2 : Int) := by omega
    have heq : Hid (r = false) := Lib.hid (by rw [← hr, decide_eq_false (by omega)]; rfl)
    clear hr
    go_enter Try.func14, Try.ntmps14
    go_upto_region 0 with fail
    refine wl_lit ?_
    refine runWL 2 (.pointer (some ⟨w.heap.size, 0, none⟩)) (w.alloc (.cells (rgV s c a b) 36)) rfl (by rfl) (exec_box 36 (.tmp 0) rfl (.agg (rgV s c a b)) rfl) ?_
    simp only [List.set_cons_zero, List.set_cons_succ]
    have lw_p2 := Nat.le_trans hB0 hW.size
    have hp2 : Blk (w.alloc (.cells (rgV s c a b) 36)) w.heap.size 36 (rgV s c a b) := Blk.new _ _ _
    replace hW := hW.alloc (Nat.le_trans hB0 hW.size) (.cells (rgV s c a b) 36)
    generalize w.alloc (.cells (rgV s c a b) 36) = w3 at *
    generalize w.heap.size = p2 at hp2 lw_p2  ⊢
    refine runWL 3 (.pointer (some ⟨w3.heap.size, 0, none⟩)) (w3.alloc (.cells (rgV s2 c2 a2 b2) 36)) rfl (by rfl) (exec_box 36 (.tmp 1) rfl (.agg (rgV s2 c2 a2 b2)) rfl) ?_
    simp only [List.set_cons_zero, List.set_cons_succ]
    have lp2_p3 := hp2.lt
    have lw_p3 := Nat.le_trans hB0 hW.size
    have hp3 : Blk (w3.alloc (.cells (rgV s2 c2 a2 b2) 36)) w3.heap.size 36 (rgV s2 c2 a2 b2) := Blk.new _ _ _
    replace hp2 := hp2.alloc (.cells (rgV s2 c2 a2 b2) 36)
    replace hW := hW.alloc (Nat.le_trans hB0 hW.size) (.cells (rgV s2 c2 a2 b2) 36)
    generalize w3.alloc (.cells (rgV s2 c2 a2 b2) 36) = w4 at *
    generalize w3.heap.size = p3 at hp3 lw_p3 lp2_p3 ⊢
    refine runL 4 (.bool false) rfl (by rfl) (by go_simp) ?_
    simp only [List.set_cons_zero, List.set_cons_succ]
    refine nilL ?_
    go_upto_region 1 with fail
    refine wl_lit ?_
    refine runL 5 (.pointer (some ⟨p2, 2, none⟩)) rfl (by rfl) (by go_simp) ?_
    simp only [List.set_cons_zero, List.set_cons_succ]
    refine runL 6 (.int .u32 (((a : Nat) : Int))) rfl (by rfl) (exec_cell 23 (.tmp 5) rfl p2 2 rfl (.int .u32 (((a : Nat) : Int))) _ Try.underlying23 rfl (hp2.cellIs 2 rfl)) ?_
    simp only [List.set_cons_zero, List.set_cons_succ]
    refine runL 7 (.pointer (some ⟨p2, 3, none⟩)) rfl (by rfl) (by go_simp) ?_
    simp only [List.set_cons_zero, List.set_cons_succ]
    refine runL 8 (.int .u32 (((b : Nat) : Int))) rfl (by rfl) (exec_cell 23 (.tmp 7) rfl p2 3 rfl (.int .u32 (((b : Nat) : Int))) _ Try.underlying23 rfl (hp2.cellIs 3 rfl)) ?_
    simp only [List.set_cons_zero, List.set_cons_succ]
    refine runL 9 (.bool false) rfl (by rfl) (by go_simp) ?_
    simp only [List.set_cons_zero, List.set_cons_succ]
    refine runL 10 (.bool false) rfl (by rfl) (by go_simp) ?_
    simp only [List.set_cons_zero, List.set_cons_succ]
    refine runL 11 (.pointer (some ⟨p3, 2, none⟩)) rfl (by rfl) (by go_simp) ?_
    simp only [List.set_cons_zero, List.set_cons_succ]
    refine runL 12 (.int .u32 (((a2 : Nat) : Int))) rfl (by rfl) (exec_cell 23 (.tmp 11) rfl p3 2 rfl (.int .u32 (((a2 : Nat) : Int))) _ Try.underlying23 rfl (hp3.cellIs 2 rfl)) ?_
    simp only [List.set_cons_zero, List.set_cons_succ]
    refine runL 13 (.pointer (some ⟨p3, 3, none⟩)) rfl (by rfl) (by go_simp) ?_
    simp only [List.set_cons_zero, List.set_cons_succ]
    refine runL 14 (.int .u32 (((b2 : Nat) : Int))) rfl (by rfl) (exec_cell 23 (.tmp 13) rfl p3 3 rfl (.int .u32 (((b2 : Nat) : Int))) _ Try.underlying23 rfl (hp3.cellIs 3 rfl)) ?_
    simp only [List.set_cons_zero, List.set_cons_succ]
    refine runL 15 (.bool true) rfl (by rfl) (by go_simp) ?_
    simp only [List.set_cons_zero, List.set_cons_succ]
    refine runL 16 (.bool true) rfl (by rfl) (by go_simp) ?_
    simp only [List.set_cons_zero, List.set_cons_succ]
    refine nilL ?_
    go_upto_region 2 with fail
    refine wl_lit ?_
    refine runL 4 (.bool false) rfl (by rfl) (by go_simp) ?_
    simp only [List.set_cons_zero, List.set_cons_succ]
    refine nilL ?_
    go_wp2_with fail
    go_ret
    exact ⟨by rw [heq.out]; rfl, hW⟩
  have hI2 : ¬ (b2 : Int) < (a2 : Int) := by omega
  rw [decide_eq_true (show a2 ≤ b2 by omega), Bool.true_and] at hr
  have hno := eqNoD s c s2 c2
  by_cases h3 : s = s2 ∧ c = c2
  ·
    rw [decide_eq_true h3, Bool.true_and] at hr
    have hnq := Lib.hid (decide_eq_true h3)
    have hmx : (if a < a2 then (a2 : Int) else (a : Int)) = ((max a a2 : Nat) : Int) := by split <;> omega
    have hmn : (if b2 < b then (b2 : Int) else (b : Int)) = ((min b b2 : Nat) : Int) := by split <;> omega
    obtain ⟨x, hx⟩ : ∃ x, max a a2 = x := ⟨_, rfl⟩
    obtain ⟨y, hy⟩ : ∃ y, min b b2 = y := ⟨_, rfl⟩
    rw [hx] at hmx hr
    rw [hy] at hmn hr
    clear hx hy h3
    by_cases h4 : x ≤ y
    ·
      have hI4 : (x : Int) ≤ (y : Int) := by omega
      have heq : Hid (r = true) := Lib.hid (by rw [← hr, decide_eq_true h4])
      clear hr
      go_enter Try.func14, Try.ntmps14
      go_upto_region 0 with fail
      refine wl_lit ?_
      refine runWL 2 (.pointer (some ⟨w.heap.size, 0, none⟩)) (w.alloc (.cells (rgV s c a b) 36)) rfl (by rfl) (exec_box 36 (.tmp 0) rfl (.agg (rgV s c a b)) rfl) ?_
      simp only [List.set_cons_zero, List.set_cons_succ]
      have lw_p2 := Nat.le_trans hB0 hW.size
      have hp2 : Blk (w.alloc (.cells (rgV s c a b) 36)) w.heap.size 36 (rgV s c a b) := Blk.new _ _ _
      replace hW := hW.alloc (Nat.le_trans hB0 hW.size) (.cells (rgV s c a b) 36)
      generalize w.alloc (.cells (rgV s c a b) 36) = w5 at *
      generalize w.heap.size = p2 at hp2 lw_p2  ⊢
      refine runWL 3 (.pointer (some ⟨w5.heap.size, 0, none⟩)) (w5.alloc (.cells (rgV s2 c2 a2 b2) 36)) rfl (by rfl) (exec_box 36 (.tmp 1) rfl (.agg (rgV s2 c2 a2 b2)) rfl) ?_
      simp only [List.set_cons_zero, List.set_cons_succ]
      have lp2_p3 := hp2.lt
      have lw_p3 := Nat.le_trans hB0 hW.size
      have hp3 : Blk (w5.alloc (.cells (rgV s2 c2 a2 b2) 36)) w5.heap.size 36 (rgV s2 c2 a2 b2) := Blk.new _ _ _
      replace hp2 := hp2.alloc (.cells (rgV s2 c2 a2 b2) 36)
      replace hW := hW.alloc (Nat.le_trans hB0 hW.size) (.cells (rgV s2 c2 a2 b2) 36)
      generalize w5.alloc (.cells (rgV s2 c2 a2 b2) 36) = w6 at *
      generalize w5.heap.size = p3 at hp3 lw_p3 lp2_p3 ⊢
      refine runL 4 (.bool false) rfl (by rfl) (by go_simp) ?_
      simp only [List.set_cons_zero, List.set_cons_succ]
      refine nilL ?_
      go_upto_region 1 with fail
      refine wl_lit ?_
      refine runL 5 (.pointer (some ⟨p2, 2, none⟩)) rfl (by rfl) (by go_simp) ?_
      simp only [List.set_cons_zero, List.set_cons_succ]
      refine runL 6 (.int .u32 (((a : Nat) : Int))) rfl (by rfl) (exec_cell 23 (.tmp 5) rfl p2 2 rfl (.int .u32 (((a : Nat) : Int))) _ Try.underlying23 rfl (hp2.cellIs 2 rfl)) ?_
      simp only [List.set_cons_zero, List.set_cons_succ]
      refine runL 7 (.pointer (some ⟨p2, 3, none⟩)) rfl (by rfl) (by go_simp) ?_
      simp only [List.set_cons_zero, List.set_cons_succ]
      refine runL 8 (.int .u32 (((b : Nat) : Int))) rfl (by rfl) (exec_cell 23 (.tmp 7) rfl p2 3 rfl (.int .u32 (((b : Nat) : Int))) _ Try.underlying23 rfl (hp2.cellIs 3 rfl)) ?_
      simp only [List.set_cons_zero, List.set_cons_succ]
      refine runL 9 (.bool false) rfl (by rfl) (by go_simp) ?_
      simp only [List.set_cons_zero, List.set_cons_succ]
      refine runL 10 (.bool false) rfl (by rfl) (by go_simp) ?_
      simp only [List.set_cons_zero, List.set_cons_succ]
      refine runL 11 (.pointer (some ⟨p3, 2, none⟩)) rfl (by rfl) (by go_simp) ?_
      simp only [List.set_cons_zero, List.set_cons_succ]
      refine runL 12 (.int .u32 (((a2 : Nat) : Int))) rfl (by rfl) (exec_cell 23 (.tmp 11) rfl p3 2 rfl (.int .u32 (((a2 : Nat) : Int))) _ Try.underlying23 rfl (hp3.cellIs 2 rfl)) ?_
      simp only [List.set_cons_zero, List.set_cons_succ]
      refine runL 13 (.pointer (some ⟨p3, 3, none⟩)) rfl (by rfl) (by go_simp) ?_
      simp only [List.set_cons_zero, List.set_cons_succ]
      refine runL 14 (.int .u32 (((b2 : Nat) : Int))) rfl (by rfl) (exec_cell 23 (.tmp 13) rfl p3 3 rfl (.int .u32 (((b2 : Nat) : Int))) _ Try.underlying23 rfl (hp3.cellIs 3 rfl)) ?_
      simp only [List.set_cons_zero, List.set_cons_succ]
      refine runL 15 (.bool false) rfl (by rfl) (by go_simp) ?_
      simp only [List.set_cons_zero, List.set_cons_succ]
      refine runL 16 (.bool false) rfl (by rfl) (by go_simp) ?_
      simp only [List.set_cons_zero, List.set_cons_succ]
      refine nilL ?_
      go_upto_region 3 with fail
      refine wl_lit ?_
      refine runL 17 (.pointer (some ⟨p2, 0, none⟩)) rfl (by rfl) (by go_simp) ?_
      simp only [List.set_cons_zero, List.set_cons_succ]
      refine runL 18 (.agg (noV s c)) rfl (by rfl) (exec_mid 26 (.tmp 17) rfl p2 0 rfl (noV s c).toList _ (hp2.range 0 2) (by exact Try.underlying26) rfl (by kernel_rfl)) ?_
      simp only [List.set_cons_zero, List.set_cons_succ]
      refine runL 19 (.pointer (some ⟨p3, 0, none⟩)) rfl (by rfl) (by go_simp) ?_
      simp only [List.set_cons_zero, List.set_cons_succ]
      refine runL 20 (.agg (noV s2 c2)) rfl (by rfl) (exec_mid 26 (.tmp 19) rfl p3 0 rfl (noV s2 c2).toList _ (hp3.range 0 2) (by exact Try.underlying26) rfl (by kernel_rfl)) ?_
      simp only [List.set_cons_zero, List.set_cons_succ]
      refine runL 21 (.bool true) rfl (by rfl) (exec_eqV 26 (by kernel_rfl) (.tmp 18) (.tmp 20) _ rfl (noV s c) (noV s2 c2) rfl rfl true (by rw [hno]; rw [hnq.out])) ?_
      simp only [List.set_cons_zero, List.set_cons_succ]
      refine runL 22 (.bool true) rfl (by rfl) (by go_simp) ?_
      simp only [List.set_cons_zero, List.set_cons_succ]
      refine runL 23 (.pointer (some ⟨p2, 2, none⟩)) rfl (by rfl) (by go_simp) ?_
      simp only [List.set_cons_zero, List.set_cons_succ]
      refine runL 24 (.int .u32 (((a : Nat) : Int))) rfl (by rfl) (exec_cell 23 (.tmp 23) rfl p2 2 rfl (.int .u32 (((a : Nat) : Int))) _ Try.underlying23 rfl (hp2.cellIs 2 rfl)) ?_
      simp only [List.set_cons_zero, List.set_cons_succ]
      refine runL 25 (.pointer (some ⟨p3, 2, none⟩)) rfl (by rfl) (by go_simp) ?_
      simp only [List.set_cons_zero, List.set_cons_succ]
      refine runL 26 (.int .u32 (((a2 : Nat) : Int))) rfl (by rfl) (exec_cell 23 (.tmp 25) rfl p3 2 rfl (.int .u32 (((a2 : Nat) : Int))) _ Try.underlying23 rfl (hp3.cellIs 2 rfl)) ?_
      simp only [List.set_cons_zero, List.set_cons_succ]
      refine runL 27 (.int .u32 ((x : Nat) : Int)) rfl (by rfl) (by go_simp) ?_
      simp only [List.set_cons_zero, List.set_cons_succ]
      refine runL 28 (.pointer (some ⟨p2, 3, none⟩)) rfl (by rfl) (by go_simp) ?_
      simp only [List.set_cons_zero, List.set_cons_succ]
      refine runL 29 (.int .u32 (((b : Nat) : Int))) rfl (by rfl) (exec_cell 23 (.tmp 28) rfl p2 3 rfl (.int .u32 (((b : Nat) : Int))) _ Try.underlying23 rfl (hp2.cellIs 3 rfl)) ?_
      simp only [List.set_cons_zero, List.set_cons_succ]
      refine runL 30 (.pointer (some ⟨p3, 3, none⟩)) rfl (by rfl) (by go_simp) ?_
      simp only [List.set_cons_zero, List.set_cons_succ]
      refine runL 31 (.int .u32 (((b2 : Nat) : Int))) rfl (by rfl) (exec_cell 23 (.tmp 30) rfl p3 3 rfl (.int .u32 (((b2 : Nat) : Int))) _ Try.underlying23 rfl (hp3.cellIs 3 rfl)) ?_
      simp only [List.set_cons_zero, List.set_cons_succ]
      refine runL 32 (.int .u32 ((y : Nat) : Int)) rfl (by rfl) (by go_simp) ?_
      simp only [List.set_cons_zero, List.set_cons_succ]
      refine runL 33 (.bool true) rfl (by rfl) (by go_simp) ?_
      simp only [List.set_cons_zero, List.set_cons_succ]
      refine runL 34 (.bool true) rfl (by rfl) (by go_simp) ?_
      simp only [List.set_cons_zero, List.set_cons_succ]
      refine runL 4 (.bool true) rfl (by rfl) (by go_simp) ?_
      simp only [List.set_cons_zero, List.set_cons_succ]
      refine nilL ?_
      go_wp2_with fail
      go_ret
      exact ⟨by rw [heq.out]; rfl, hW⟩
    ·
      have hI4 : ¬ (x : Int) ≤ (y : Int) := by omega
      have heq : Hid (r = false) := Lib.hid (by rw [← hr, decide_eq_false h4])
      clear hr
      go_enter Try.func14, Try.ntmps14
      go_upto_region 0 with fail
      refine wl_lit ?_
      refine runWL 2 (.pointer (some ⟨w.heap.size, 0, none⟩)) (w.alloc (.cells (rgV s c a b) 36)) rfl (by rfl) (exec_box 36 (.tmp 0) rfl (.agg (rgV s c a b)) rfl) ?_
      simp only [List.set_cons_zero, List.set_cons_succ]
      have lw_p2 := Nat.le_trans hB0 hW.size
      have hp2 : Blk (w.alloc (.cells (rgV s c a b) 36)) w.heap.size 36 (rgV s c a b) := Blk.new _ _ _
      replace hW := hW.alloc (Nat.le_trans hB0 hW.size) (.cells (rgV s c a b) 36)
      generalize w.alloc (.cells (rgV s c a b) 36) = w7 at *
      generalize w.heap.size = p2 at hp2 lw_p2  ⊢
      refine runWL 3 (.pointer (some ⟨w7.heap.size, 0, none⟩)) (w7.alloc (.cells (rgV s2 c2 a2 b2) 36)) rfl (by rfl) (exec_box 36 (.tmp 1) rfl (.agg (rgV s2 c2 a2 b2)) rfl) ?_
      simp only [List.set_cons_zero, List.set_cons_succ]
      have lp2_p3 := hp2.lt
      have lw_p3 := Nat.le_trans hB0 hW.size
      have hp3 : Blk (w7.alloc (.cells (rgV s2 c2 a2 b2) 36)) w7.heap.size 36 (rgV s2 c2 a2 b2) := Blk.new _ _ _
      replace hp2 := hp2.alloc (.cells (rgV s2 c2 a2 b2) 36)
      replace hW := hW.alloc (Nat.le_trans hB0 hW.size) (.cells (rgV s2 c2 a2 b2) 36)
      generalize w7.alloc (.cells (rgV s2 c2 a2 b2) 36) = w8 at *
      generalize w7.heap.size = p3 at hp3 lw_p3 lp2_p3 ⊢
      refine runL 4 (.bool false) rfl (by rfl) (by go_simp) ?_
      simp only [List.set_cons_zero, List.set_cons_succ]
      refine nilL ?_
      go_upto_region 1 with fail
      refine wl_lit ?_
      refine runL 5 (.pointer (some ⟨p2, 2, none⟩)) rfl (by rfl) (by go_simp) ?_
      simp only [List.set_cons_zero, List.set_cons_succ]
      refine runL 6 (.int .u32 (((a : Nat) : Int))) rfl (by rfl) (exec_cell 23 (.tmp 5) rfl p2 2 rfl (.int .u32 (((a : Nat) : Int))) _ Try.underlying23 rfl (hp2.cellIs 2 rfl)) ?_
      simp only [List.set_cons_zero, List.set_cons_succ]
      refine runL 7 (.pointer (some ⟨p2, 3, none⟩)) rfl (by rfl) (by go_simp) ?_
      simp only [List.set_cons_zero, List.set_cons_succ]
      refine runL 8 (.int .u32 (((b : Nat) : Int))) rfl (by rfl) (exec_cell 23 (.tmp 7) rfl p2 3 rfl (.int .u32 (((b : Nat) : Int))) _ Try.underlying23 rfl (hp2.cellIs 3 rfl)) ?_
      simp only [List.set_cons_zero, List.set_cons_succ]
      refine runL 9 (.bool false) rfl (by rfl) (by go_simp) ?_
      simp only [List.set_cons_zero, List.set_cons_succ]
      refine runL 10 (.bool false) rfl (by rfl) (by go_simp) ?_
      simp only [List.set_cons_zero, List.set_cons_succ]
      refine runL 11 (.pointer (some ⟨p3, 2, none⟩)) rfl (by rfl) (by go_simp) ?_
      simp only [List.set_cons_zero, List.set_cons_succ]
      refine runL 12 (.int .u32 (((a2 : Nat) : Int))) rfl (by rfl) (exec_cell 23 (.tmp 11) rfl p3 2 rfl (.int .u32 (((a2 : Nat) : Int))) _ Try.underlying23 rfl (hp3.cellIs 2 rfl)) ?_
      simp only [List.set_cons_zero, List.set_cons_succ]
      refine runL 13 (.pointer (some ⟨p3, 3, none⟩)) rfl (by rfl) (by go_simp) ?_
      simp only [List.set_cons_zero, List.set_cons_succ]
      refine runL 14 (.int .u32 (((b2 : Nat) : Int))) rfl (by rfl) (exec_cell 23 (.tmp 13) rfl p3 3 rfl (.int .u32 (((b2 : Nat) : Int))) _ Try.underlying23 rfl (hp3.cellIs 3 rfl)) ?_
      simp only [List.set_cons_zero, List.set_cons_succ]
      refine runL 15 (.bool false) rfl (by rfl) (by go_simp) ?_
      simp only [List.set_cons_zero, List.set_cons_succ]
      refine runL 16 (.bool false) rfl (by rfl) (by go_simp) ?_
      simp only [List.set_cons_zero, List.set_cons_succ]
      refine nilL ?_
      go_upto_region 3 with fail
      refine wl_lit ?_
      refine runL 17 (.pointer (some ⟨p2, 0, none⟩)) rfl (by rfl) (by go_simp) ?_
      simp only [List.set_cons_zero, List.set_cons_succ]
      refine runL 18 (.agg (noV s c)) rfl (by rfl) (exec_mid 26 (.tmp 17) rfl p2 0 rfl (noV s c).toList _ (hp2.range 0 2) (by exact Try.underlying26) rfl (by kernel_rfl)) ?_
      simp only [List.set_cons_zero, List.set_cons_succ]
      refine runL 19 (.pointer (some ⟨p3, 0, none⟩)) rfl (by rfl) (by go_simp) ?_
      simp only [List.set_cons_zero, List.set_cons_succ]
      refine runL 20 (.agg (noV s2 c2)) rfl (by rfl) (exec_mid 26 (.tmp 19) rfl p3 0 rfl (noV s2 c2).toList _ (hp3.range 0 2) (by exact Try.underlying26) rfl (by kernel_rfl)) ?_
      simp only [List.set_cons_zero, List.set_cons_succ]
      refine runL 21 (.bool true) rfl (by rfl) (exec_eqV 26 (by kernel_rfl) (.tmp 18) (.tmp 20) _ rfl (noV s c) (noV s2 c2) rfl rfl true (by rw [hno]; rw [hnq.out])) ?_
      simp only [List.set_cons_zero, List.set_cons_succ]
      refine runL 22 (.bool true) rfl (by rfl) (by go_simp) ?_
      simp only [List.set_cons_zero, List.set_cons_succ]
      refine runL 23 (.pointer (some ⟨p2, 2, none⟩)) rfl (by rfl) (by go_simp) ?_
      simp only [List.set_cons_zero, List.set_cons_succ]
      refine runL 24 (.int .u32 (((a : Nat) : Int))) rfl (by rfl) (exec_cell 23 (.tmp 23) rfl p2 2 rfl (.int .u32 (((a : Nat) : Int))) _ Try.underlying23 rfl (hp2.cellIs 2 rfl)) ?_
      simp only [List.set_cons_zero, List.set_cons_succ]
      refine runL 25 (.pointer (some ⟨p3, 2, none⟩)) rfl (by rfl) (by go_simp) ?_
      simp only [List.set_cons_zero, List.set_cons_succ]
      refine runL 26 (.int .u32 (((a2 : Nat) : Int))) rfl (by rfl) (exec_cell 23 (.tmp 25) rfl p3 2 rfl (.int .u32 (((a2 : Nat) : Int))) _ Try.underlying23 rfl (hp3.cellIs 2 rfl)) ?_
      simp only [List.set_cons_zero, List.set_cons_succ]
      refine runL 27 (.int .u32 ((x : Nat) : Int)) rfl (by rfl) (by go_simp) ?_
      simp only [List.set_cons_zero, List.set_cons_succ]
      refine runL 28 (.pointer (some ⟨p2, 3, none⟩)) rfl (by rfl) (by go_simp) ?_
      simp only [List.set_cons_zero, List.set_cons_succ]
      refine runL 29 (.int .u32 (((b : Nat) : Int))) rfl (by rfl) (exec_cell 23 (.tmp 28) rfl p2 3 rfl (.int .u32 (((b : Nat) : Int))) _ Try.underlying23 rfl (hp2.cellIs 3 rfl)) ?_
      simp only [List.set_cons_zero, List.set_cons_succ]
      refine runL 30 (.pointer (some ⟨p3, 3, none⟩)) rfl (by rfl) (by go_simp) ?_
      simp only [List.set_cons_zero, List.set_cons_succ]
      refine runL 31 (.int .u32 (((b2 : Nat) : Int))) rfl (by rfl) (exec_cell 23 (.tmp 30) rfl p3 3 rfl (.int .u32 (((b2 : Nat) : Int))) _ Try.underlying23 rfl (hp3.cellIs 3 rfl)) ?_
      simp only [List.set_cons_zero, List.set_cons_succ]
      refine runL 32 (.int .u32 ((y : Nat) : Int)) rfl (by rfl) (by go_simp) ?_
      simp only [List.set_cons_zero, List.set_cons_succ]
      refine runL 33 (.bool false) rfl (by rfl) (by go_simp) ?_
      simp only [List.set_cons_zero, List.set_cons_succ]
      refine runL 34 (.bool false) rfl (by rfl) (by go_simp) ?_
      simp only [List.set_cons_zero, List.set_cons_succ]
      refine runL 4 (.bool false) rfl (by rfl) (by go_simp) ?_
      simp only [List.set_cons_zero, List.set_cons_succ]
      refine nilL ?_
      go_wp2_with fail
      go_ret
      exact ⟨by rw [heq.out]; rfl, hW⟩
  ·
    have hnq := Lib.hid (decide_eq_false h3)
    have heq : Hid (r = false) := Lib.hid (by rw [← hr, decide_eq_false h3]; rfl)
    clear hr h3
    go_enter Try.func14, Try.ntmps14
    go_upto_region 0 with fail
    refine wl_lit ?_
    refine runWL 2 (.pointer (some ⟨w.heap.size, 0, none⟩)) (w.alloc (.cells (rgV s c a b) 36)) rfl (by rfl) (exec_box 36 (.tmp 0) rfl (.agg (rgV s c a b)) rfl) ?_
    simp only [List.set_cons_zero, List.set_cons_succ]
    have lw_p2 := Nat.le_trans hB0 hW.size
    have hp2 : Blk (w.alloc (.cells (rgV s c a b) 36)) w.heap.size 36 (rgV s c a b) := Blk.new _ _ _
    replace hW := hW.alloc (Nat.le_trans hB0 hW.size) (.cells (rgV s c a b) 36)
    generalize w.alloc (.cells (rgV s c a b) 36) = w9 at *
    generalize w.heap.size = p2 at hp2 lw_p2  ⊢
    refine runWL 3 (.pointer (some ⟨w9.heap.size, 0, none⟩)) (w9.alloc (.cells (rgV s2 c2 a2 b2) 36)) rfl (by rfl) (exec_box 36 (.tmp 1) rfl (.agg (rgV s2 c2 a2 b2)) rfl) ?_
    simp only [List.set_cons_zero, List.set_cons_succ]
    have lp2_p3 := hp2.lt
    have lw_p3 := Nat.le_trans hB0 hW.size
    have hp3 : Blk (w9.alloc (.cells (rgV s2 c2 a2 b2) 36)) w9.heap.size 36 (rgV s2 c2 a2 b2) := Blk.new _ _ _
    replace hp2 := hp2.alloc (.cells (rgV s2 c2 a2 b2) 36)
    replace hW := hW.alloc (Nat.le_trans hB0 hW.size) (.cells (rgV s2 c2 a2 b2) 36)
    generalize w9.alloc (.cells (rgV s2 c2 a2 b2) 36) = w10 at *
    generalize w9.heap.size = p3 at hp3 lw_p3 lp2_p3 ⊢
    refine runL 4 (.bool false) rfl (by rfl) (by go_simp) ?_
    simp only [List.set_cons_zero, List.set_cons_succ]
    refine nilL ?_
    go_upto_region 1 with fail
    refine wl_lit ?_
    refine runL 5 (.pointer (some ⟨p2, 2, none⟩)) rfl (by rfl) (by go_simp) ?_
    simp only [List.set_cons_zero, List.set_cons_succ]
    refine runL 6 (.int .u32 (((a : Nat) : Int))) rfl (by rfl) (exec_cell 23 (.tmp 5) rfl p2 2 rfl (.int .u32 (((a : Nat) : Int))) _ Try.underlying23 rfl (hp2.cellIs 2 rfl)) ?_
    simp only [List.set_cons_zero, List.set_cons_succ]
    refine runL 7 (.pointer (some ⟨p2, 3, none⟩)) rfl (by rfl) (by go_simp) ?_
    simp only [List.set_cons_zero, List.set_cons_succ]
    refine runL 8 (.int .u32 (((b : Nat) : Int))) rfl (by rfl) (exec_cell 23 (.tmp 7) rfl p2 3 rfl (.int .u32 (((b : Nat) : Int))) _ Try.underlying23 rfl (hp2.cellIs 3 rfl)) ?_
    simp only [List.set_cons_zero, List.set_cons_succ]
    refine runL 9 (.bool false) rfl (by rfl) (by go_simp) ?_
    simp only [List.set_cons_zero, List.set_cons_succ]
    refine runL 10 (.bool false) rfl (by rfl) (by go_simp) ?_
    simp only [List.set_cons_zero, List.set_cons_succ]
    refine runL 11 (.pointer (some ⟨p3, 2, none⟩)) rfl (by rfl) (by go_simp) ?_
    simp only [List.set_cons_zero, List.set_cons_succ]
    refine runL 12 (.int .u32 (((a2 : Nat) : Int))) rfl (by rfl) (exec_cell 23 (.tmp 11) rfl p3 2 rfl (.int .u32 (((a2 : Nat) : Int))) _ Try.underlying23 rfl (hp3.cellIs 2 rfl)) ?_
    simp only [List.set_cons_zero, List.set_cons_succ]
    refine runL 13 (.pointer (some ⟨p3, 3, none⟩)) rfl (by rfl) (by go_simp) ?_
    simp only [List.set_cons_zero, List.set_cons_succ]
    refine runL 14 (.int .u32 (((b2 : Nat) : Int))) rfl (by rfl) (exec_cell 23 (.tmp 13) rfl p3 3 rfl (.int .u32 (((b2 : Nat) : Int))) _ Try.underlying23 rfl (hp3.cellIs 3 rfl)) ?_
    simp only [List.set_cons_zero, List.set_cons_succ]
    refine runL 15 (.bool false) rfl (by rfl) (by go_simp) ?_
    simp only [List.set_cons_zero, List.set_cons_succ]
    refine runL 16 (.bool false) rfl (by rfl) (by go_simp) ?_
    simp only [List.set_cons_zero, List.set_cons_succ]
    refine nilL ?_
    go_upto_region 3 with fail
    refine wl_lit ?_
    refine runL 17 (.pointer (some ⟨p2, 0, none⟩)) rfl (by rfl) (by go_simp) ?_
    simp only [List.set_cons_zero, List.set_cons_succ]
    refine runL 18 (.agg (noV s c)) rfl (by rfl) (exec_mid 26 (.tmp 17) rfl p2 0 rfl (noV s c).toList _ (hp2.range 0 2) (by exact Try.underlying26) rfl (by kernel_rfl)) ?_
    simp only [List.set_cons_zero, List.set_cons_succ]
    refine runL 19 (.pointer (some ⟨p3, 0, none⟩)) rfl (by rfl) (by go_simp) ?_
    simp only [List.set_cons_zero, List.set_cons_succ]
    refine runL 20 (.agg (noV s2 c2)) rfl (by rfl) (exec_mid 26 (.tmp 19) rfl p3 0 rfl (noV s2 c2).toList _ (hp3.range 0 2) (by exact Try.underlying26) rfl (by kernel_rfl)) ?_
    simp only [List.set_cons_zero, List.set_cons_succ]
    refine runL 21 (.bool false) rfl (by rfl) (exec_eqV 26 (by kernel_rfl) (.tmp 18) (.tmp 20) _ rfl (noV s c) (noV s2 c2) rfl rfl false (by rw [hno]; rw [hnq.out])) ?_
    simp only [List.set_cons_zero, List.set_cons_succ]
    refine runL 22 (.bool false) rfl (by rfl) (by go_simp) ?_
    simp only [List.set_cons_zero, List.set_cons_succ]
    refine skipL 23 rfl (by kernel_rfl) ?_
    simp only [List.set_cons_zero, List.set_cons_succ]
    refine skipL 24 rfl (by kernel_rfl) ?_
    simp only [List.set_cons_zero, List.set_cons_succ]
    refine skipL 25 rfl (by kernel_rfl) ?_
    simp only [List.set_cons_zero, List.set_cons_succ]
    refine skipL 26 rfl (by kernel_rfl) ?_
    simp only [List.set_cons_zero, List.set_cons_succ]
    refine skipL 27 rfl (by kernel_rfl) ?_
    simp only [List.set_cons_zero, List.set_cons_succ]
    refine skipL 28 rfl (by kernel_rfl) ?_
    simp only [List.set_cons_zero, List.set_cons_succ]
    refine skipL 29 rfl (by kernel_rfl) ?_
    simp only [List.set_cons_zero, List.set_cons_succ]
    refine skipL 30 rfl (by kernel_rfl) ?_
    simp only [List.set_cons_zero, List.set_cons_succ]
    refine skipL 31 rfl (by kernel_rfl) ?_
    simp only [List.set_cons_zero, List.set_cons_succ]
    refine skipL 32 rfl (by kernel_rfl) ?_
    simp only [List.set_cons_zero, List.set_cons_succ]
    refine skipL 33 rfl (by kernel_rfl) ?_
    simp only [List.set_cons_zero, List.set_cons_succ]
    refine runL 34 (.bool false) rfl (by rfl) (by go_simp) ?_
    simp only [List.set_cons_zero, List.set_cons_succ]
    refine runL 4 (.bool false) rfl (by rfl) (by go_simp) ?_
    simp only [List.set_cons_zero, List.set_cons_succ]
    refine nilL ?_
    go_wp2_with fail
    go_ret
    exact ⟨by rw [heq.out]; rfl, hW⟩
end Go.Proofs.Ytpcdckhabaoieaa

/-
  The walk of caissonref07.Overlap; facts about overlapping. (Printed by mk07.py.)
-/
namespace Go.Proofs.Ytpcdckhabaoieaa
open Go.RowKit Sh

theorem ovl_sym (s c a b s2 c2 a2 b2 : Nat) : ovl s2 c2 a2 b2 s c a b = ovl s c a b s2 c2 a2 b2 := by
  unfold ovl
  have e1 : decide (s2 = s ∧ c2 = c) = decide (s = s2 ∧ c = c2) := by congr 1; apply propext; constructor <;> (rintro ⟨h1, h2⟩; exact ⟨h1.symm, h2.symm⟩)
  have e2 : decide (max a2 a ≤ min b2 b) = decide (max a a2 ≤ min b b2) := by congr 1; apply propext; omega
  rw [e1, e2]
  cases decide (a ≤ b) <;> cases decide (a2 ≤ b2) <;> rfl
theorem ovl_self (s c a b : Nat) : ovl s c a b s c a b = decide (a ≤ b) := by
  unfold ovl
  by_cases h : a ≤ b
  · rw [decide_eq_true h, decide_eq_true (show s = s ∧ c = c from ⟨rfl, rfl⟩), decide_eq_true (by omega)]; rfl
  · rw [decide_eq_false h]; rfl
theorem ovl_off (s c a b s2 c2 a2 b2 : Nat) (h : ¬ (s = s2 ∧ c = c2)) : ovl s c a b s2 c2 a2 b2 = false := by
  unfold ovl
  rw [decide_eq_false h]
  cases decide (a ≤ b) <;> cases decide (a2 ≤ b2) <;> rfl

set_option maxRecDepth 8000 in
set_option maxHeartbeats 2000000 in
theorem roverlap_any (s c a b s2 c2 a2 b2 : Nat) (r : Bool) (hr : ovl s c a b s2 c2 a2 b2 = r) (w : World) :
    Calls Try.prog 13 #[.agg (noV s c), .agg (noV s2 c2), .agg (r2V a b), .agg (r2V a2 b2)] w fun e' w' => e' = .returned (.bool r) ∧ Below w.heap.size w w' := by
  have hno := eqNoD s c s2 c2
  unfold ovl at hr
  obtain ⟨B0, hB0e⟩ : ∃ b, w.heap.size = b := ⟨_, rfl⟩
  rw [hB0e]
  have hW : Below B0 w w := by rw [← hB0e]; exact Below.refl _ _
  have hB0 : B0 ≤ w.heap.size := by omega
  have hB0q := Lib.hid hB0e
  clear hB0e
  by_cases h3 : s = s2 ∧ c = c2
  ·
    rw [decide_eq_true h3, Bool.true_and] at hr
    have hnq := Lib.hid (decide_eq_true h3)
    clear h3
    by_cases h1 : b < a
    ·
      have hI : (b : Int) < (a : Int) := by omega
      have heq : Hid (r = false) := Lib.hid (by rw [← hr, decide_eq_false (by omega)]; rfl)
      clear hr
      go_enter Try.func13, Try.ntmps13
      go_upto_region 0 with fail
      refine wl_lit ?_
      refine runWL 4 (.pointer (some ⟨w.heap.size, 0, none⟩)) (w.alloc (.cells (noV s c) 26)) rfl (by rfl) (exec_box 26 (.tmp 0) rfl (.agg (noV s c)) rfl) ?_
      simp only [List.set_cons_zero, List.set_cons_succ]
      have lw_p4 := Nat.le_trans hB0 hW.size
      have hp4 : Blk (w.alloc (.cells (noV s c) 26)) w.heap.size 26 (noV s c) := Blk.new _ _ _
      replace hW := hW.alloc (Nat.le_trans hB0 hW.size) (.cells (noV s c) 26)
      generalize w.alloc (.cells (noV s c) 26) = w1 at *
      generalize w.heap.size = p4 at hp4 lw_p4  ⊢
      refine runWL 5 (.pointer (some ⟨w1.heap.size, 0, none⟩)) (w1.alloc (.cells (noV s2 c2) 26)) rfl (by rfl) (exec_box 26 (.tmp 1) rfl (.agg (noV s2 c2)) rfl) ?_
      simp only [List.set_cons_zero, List.set_cons_succ]
      have lp4_p5 := hp4.lt
      have lw_p5 := Nat.le_trans hB0 hW.size
      have hp5 : Blk (w1.alloc (.cells (noV s2 c2) 26)) w1.heap.size 26 (noV s2 c2) := Blk.new _ _ _
      replace hp4 := hp4.alloc (.cells (noV s2 c2) 26)
      replace hW := hW.alloc (Nat.le_trans hB0 hW.size) (.cells (noV s2 c2) 26)
      generalize w1.alloc (.cells (noV s2 c2) 26) = w2 at *
      generalize w1.heap.size = p5 at hp5 lw_p5 lp4_p5 ⊢
      refine runWL 6 (.pointer (some ⟨w2.heap.size, 0, none⟩)) (w2.alloc (.cells (r2V a b) 33)) rfl (by rfl) (exec_box 33 (.tmp 2) rfl (.agg (r2V a b)) rfl) ?_
      simp only [List.set_cons_zero, List.set_cons_succ]
      have lp4_p6 := hp4.lt
      have lp5_p6 := hp5.lt
      have lw_p6 := Nat.le_trans hB0 hW.size
      have hp6 : Blk (w2.alloc (.cells (r2V a b) 33)) w2.heap.size 33 (r2V a b) := Blk.new _ _ _
      replace hp4 := hp4.alloc (.cells (r2V a b) 33)
      replace hp5 := hp5.alloc (.cells (r2V a b) 33)
      replace hW := hW.alloc (Nat.le_trans hB0 hW.size) (.cells (r2V a b) 33)
      generalize w2.alloc (.cells (r2V a b) 33) = w3 at *
      generalize w2.heap.size = p6 at hp6 lw_p6 lp4_p6 lp5_p6 ⊢
      refine runWL 7 (.pointer (some ⟨w3.heap.size, 0, none⟩)) (w3.alloc (.cells (r2V a2 b2) 33)) rfl (by rfl) (exec_box 33 (.tmp 3) rfl (.agg (r2V a2 b2)) rfl) ?_
      simp only [List.set_cons_zero, List.set_cons_succ]
      have lp4_p7 := hp4.lt
      have lp5_p7 := hp5.lt
      have lp6_p7 := hp6.lt
      have lw_p7 := Nat.le_trans hB0 hW.size
      have hp7 : Blk (w3.alloc (.cells (r2V a2 b2) 33)) w3.heap.size 33 (r2V a2 b2) := Blk.new _ _ _
      replace hp4 := hp4.alloc (.cells (r2V a2 b2) 33)
      replace hp5 := hp5.alloc (.cells (r2V a2 b2) 33)
      replace hp6 := hp6.alloc (.cells (r2V a2 b2) 33)
      replace hW := hW.alloc (Nat.le_trans hB0 hW.size) (.cells (r2V a2 b2) 33)
      generalize w3.alloc (.cells (r2V a2 b2) 33) = w4 at *
      generalize w3.heap.size = p7 at hp7 lw_p7 lp4_p7 lp5_p7 lp6_p7 ⊢
      refine runL 8 (.bool false) rfl (by rfl) (by go_simp) ?_
      simp only [List.set_cons_zero, List.set_cons_succ]
      refine nilL ?_
      go_upto_region 1 with fail
      refine wl_lit ?_
      refine runL 9 (.agg (noV s c)) rfl (by rfl) (exec_row 26 (.tmp 4) rfl p4 rfl 26 (noV s c) _ hp4 (by exact Try.underlying26) rfl (noV_sz _ _)) ?_
      simp only [List.set_cons_zero, List.set_cons_succ]
      refine runL 10 (.agg (noV s2 c2)) rfl (by rfl) (exec_row 26 (.tmp 5) rfl p5 rfl 26 (noV s2 c2) _ hp5 (by exact Try.underlying26) rfl (noV_sz _ _)) ?_
      simp only [List.set_cons_zero, List.set_cons_succ]
      refine runL 11 (.bool false) rfl (by rfl) (exec_neV 26 (by kernel_rfl) (.tmp 9) (.tmp 10) _ rfl (noV s c) (noV s2 c2) rfl rfl true false rfl (by rw [hno]; rw [hnq.out])) ?_
      simp only [List.set_cons_zero, List.set_cons_succ]
      refine runL 12 (.bool false) rfl (by rfl) (by go_simp) ?_
      simp only [List.set_cons_zero, List.set_cons_succ]
      refine runL 13 (.pointer (some ⟨p6, 0, none⟩)) rfl (by rfl) (by go_simp) ?_
      simp only [List.set_cons_zero, List.set_cons_succ]
      refine runL 14 (.int .u32 (((a : Nat) : Int))) rfl (by rfl) (exec_cell 23 (.tmp 13) rfl p6 0 rfl (.int .u32 (((a : Nat) : Int))) _ Try.underlying23 rfl (hp6.cellIs 0 rfl)) ?_
      simp only [List.set_cons_zero, List.set_cons_succ]
      refine runL 15 (.pointer (some ⟨p6, 1, none⟩)) rfl (by rfl) (by go_simp) ?_
      simp only [List.set_cons_zero, List.set_cons_succ]
      refine runL 16 (.int .u32 (((b : Nat) : Int))) rfl (by rfl) (exec_cell 23 (.tmp 15) rfl p6 1 rfl (.int .u32 (((b : Nat) : Int))) _ Try.underlying23 rfl (hp6.cellIs 1 rfl)) ?_
      simp only [List.set_cons_zero, List.set_cons_succ]
      refine runL 17 (.bool true) rfl (by rfl) (by go_simp) ?_
      simp only [List.set_cons_zero, List.set_cons_succ]
      refine runL 18 (.bool true) rfl (by rfl) (by go_simp) ?_
      simp only [List.set_cons_zero, List.set_cons_succ]
      refine runL 19 (.bool true) rfl (by rfl) (by go_simp) ?_
      simp only [List.set_cons_zero, List.set_cons_succ]
      refine skipL 20 rfl (by kernel_rfl) ?_
      simp only [List.set_cons_zero, List.set_cons_succ]
      refine skipL 21 rfl (by kernel_rfl) ?_
      simp only [List.set_cons_zero, List.set_cons_succ]
      refine skipL 22 rfl (by kernel_rfl) ?_
      simp only [List.set_cons_zero, List.set_cons_succ]
      refine skipL 23 rfl (by kernel_rfl) ?_
      simp only [List.set_cons_zero, List.set_cons_succ]
      refine skipL 24 rfl (by kernel_rfl) ?_
      simp only [List.set_cons_zero, List.set_cons_succ]
      refine runL 25 (.bool true) rfl (by rfl) (by go_simp) ?_
      simp only [List.set_cons_zero, List.set_cons_succ]
      refine nilL ?_
      go_upto_region 2 with fail
      refine wl_lit ?_
      refine runL 8 (.bool false) rfl (by rfl) (by go_simp) ?_
      simp only [List.set_cons_zero, List.set_cons_succ]
      refine nilL ?_
      go_wp2_with fail
      go_ret
      exact ⟨by rw [heq.out]; rfl, hW⟩
    have hI : ¬ (b : Int) < (a : Int) := by omega
    rw [decide_eq_true (show a ≤ b by omega), Bool.true_and] at hr
    by_cases h2 : b2 < a2
    ·
      have hI2 : (b2 : Int) < (a2 : Int) := by omega
      have heq : Hid (r = false) := Lib.hid (by rw [← hr, decide_eq_false (by omega)]; rfl)
      clear hr
      go_enter Try.func13, Try.ntmps13
      go_upto_region 0 with fail
      refine wl_lit ?_
      refine runWL 4 (.pointer (some ⟨w.heap.size, 0, none⟩)) (w.alloc (.cells (noV s c) 26)) rfl (by rfl) (exec_box 26 (.tmp 0) rfl (.agg (noV s c)) rfl) ?_
      simp only [List.set_cons_zero, List.set_cons_succ]
      have lw_p4 := Nat.le_trans hB0 hW.size
      have hp4 : Blk (w.alloc (.cells (noV s c) 26)) w.heap.size 26 (noV s c) := Blk.new _ _ _
      replace hW := hW.alloc (Nat.le_trans hB0 hW.size) (.cells (noV s c) 26)
      generalize w.alloc (.cells (noV s c) 26) = w5 at *
      generalize w.heap.size = p4 at hp4 lw_p4  ⊢
      refine runWL 5 (.pointer (some ⟨w5.heap.size, 0, none⟩)) (w5.alloc (.cells (noV s2 c2) 26)) rfl (by rfl) (exec_box 26 (.tmp 1) rfl (.agg (noV s2 c2)) rfl) ?_
      simp only [List.set_cons_zero, List.set_cons_succ]
      have lp4_p5 := hp4.lt
      have lw_p5 := Nat.le_trans hB0 hW.size
      have hp5 : Blk (w5.alloc (.cells (noV s2 c2) 26)) w5.heap.size 26 (noV s2 c2) := Blk.new _ _ _
      replace hp4 := hp4.alloc (.cells (noV s2 c2) 26)
      replace hW := hW.alloc (Nat.le_trans hB0 hW.size) (.cells (noV s2 c2) 26)
      generalize w5.alloc (.cells (noV s2 c2) 26) = w6 at *
      generalize w5.heap.size = p5 at hp5 lw_p5 lp4_p5 ⊢
      refine runWL 6 (.pointer (some ⟨w6.heap.size, 0, none⟩)) (w6.alloc (.cells (r2V a b) 33)) rfl (by rfl) (exec_box 33 (.tmp 2) rfl (.agg (r2V a b)) rfl) ?_
      simp only [List.set_cons_zero, List.set_cons_succ]
      have lp4_p6 := hp4.lt
      have lp5_p6 := hp5.lt
      have lw_p6 := Nat.le_trans hB0 hW.size
      have hp6 : Blk (w6.alloc (.cells (r2V a b) 33)) w6.heap.size 33 (r2V a b) := Blk.new _ _ _
      replace hp4 := hp4.alloc (.cells (r2V a b) 33)
      replace hp5 := hp5.alloc (.cells (r2V a b) 33)
      replace hW := hW.alloc (Nat.le_trans hB0 hW.size) (.cells (r2V a b) 33)
      generalize w6.alloc (.cells (r2V a b) 33) = w7 at *
      generalize w6.heap.size = p6 at hp6 lw_p6 lp4_p6 lp5_p6 ⊢
      refine runWL 7 (.pointer (some ⟨w7.heap.size, 0, none⟩)) (w7.alloc (.cells (r2V a2 b2) 33)) rfl (by rfl) (exec_box 33 (.tmp 3) rfl (.agg (r2V a2 b2)) rfl) ?_
      simp only [List.set_cons_zero, List.set_cons_succ]
      have lp4_p7 := hp4.lt
      have lp5_p7 := hp5.lt
      have lp6_p7 := hp6.lt
      have lw_p7 := Nat.le_trans hB0 hW.size
      have hp7 : Blk (w7.alloc (.cells (r2V a2 b2) 33)) w7.heap.size 33 (r2V a2 b2) := Blk.new _ _ _
      replace hp4 := hp4.alloc (.cells (r2V a2 b2) 33)
      replace hp5 := hp5.alloc (.cells (r2V a2 b2) 33)
      replace hp6 := hp6.alloc (.cells (r2V a2 b2) 33)
      replace hW := hW.alloc (Nat.le_trans hB0 hW.size) (.cells (r2V a2 b2) 33)
      generalize w7.alloc (.cells (r2V a2 b2) 33) = w8 at *
      generalize w7.heap.size = p7 at hp7 lw_p7 lp4_p7 lp5_p7 lp6_p7 ⊢
      refine runL 8 (.bool false) rfl (by rfl) (by go_simp) ?_
      simp only [List.set_cons_zero, List.set_cons_succ]
      refine nilL ?_
      go_upto_region 1 with fail
      refine wl_lit ?_
      refine runL 9 (.agg (noV s c)) rfl (by rfl) (exec_row 26 (.tmp 4) rfl p4 rfl 26 (noV s c) _ hp4 (by exact Try.underlying26) rfl (noV_sz _ _)) ?_
      simp only [List.set_cons_zero, List.set_cons_succ]
      refine runL 10 (.agg (noV s2 c2)) rfl (by rfl) (exec_row 26 (.tmp 5) rfl p5 rfl 26 (noV s2 c2) _ hp5 (by exact Try.underlying26) rfl (noV_sz _ _)) ?_
      simp only [List.set_cons_zero, List.set_cons_succ]
      refine runL 11 (.bool false) rfl (by rfl) (exec_neV 26 (by kernel_rfl) (.tmp 9) (.tmp 10) _ rfl (noV s c) (noV s2 c2) rfl rfl true false rfl (by rw [hno]; rw [hnq.out])) ?_
      simp only [List.set_cons_zero, List.set_cons_succ]
      refine runL 12 (.bool false) rfl (by rfl) (by go_simp) ?_
      simp only [List.set_cons_zero, List.set_cons_succ]
      refine runL 13 (.pointer (some ⟨p6, 0, none⟩)) rfl (by rfl) (by go_simp) ?_
      simp only [List.set_cons_zero, List.set_cons_succ]
      refine runL 14 (.int .u32 (((a : Nat) : Int))) rfl (by rfl) (exec_cell 23 (.tmp 13) rfl p6 0 rfl (.int .u32 (((a : Nat) : Int))) _ Try.underlying23 rfl (hp6.cellIs 0 rfl)) ?_
      simp only [List.set_cons_zero, List.set_cons_succ]
      refine runL 15 (.pointer (some ⟨p6, 1, none⟩)) rfl (by rfl) (by go_simp) ?_
      simp only [List.set_cons_zero, List.set_cons_succ]
      refine runL 16 (.int .u32 (((b : Nat) : Int))) rfl (by rfl) (exec_cell 23 (.tmp 15) rfl p6 1 rfl (.int .u32 (((b : Nat) : Int))) _ Try.underlying23 rfl (hp6.cellIs 1 rfl)) ?_
      simp only [List.set_cons_zero, List.set_cons_succ]
      refine runL 17 (.bool false) rfl (by rfl) (by go_simp) ?_
      simp only [List.set_cons_zero, List.set_cons_succ]
      refine runL 18 (.bool false) rfl (by rfl) (by go_simp) ?_
      simp only [List.set_cons_zero, List.set_cons_succ]
      refine runL 19 (.bool false) rfl (by rfl) (by go_simp) ?_
      simp only [List.set_cons_zero, List.set_cons_succ]
      refine runL 20 (.pointer (some ⟨p7, 0, none⟩)) rfl (by rfl) (by go_simp) ?_
      simp only [List.set_cons_zero, List.set_cons_succ]
      refine runL 21 (.int .u32 (((a2 : Nat) : Int))) rfl (by rfl) (exec_cell 23 (.tmp 20) rfl p7 0 rfl (.int .u32 (((a2 : Nat) : Int))) _ Try.underlying23 rfl (hp7.cellIs 0 rfl)) ?_
      simp only [List.set_cons_zero, List.set_cons_succ]
      refine runL 22 (.pointer (some ⟨p7, 1, none⟩)) rfl (by rfl) (by go_simp) ?_
      simp only [List.set_cons_zero, List.set_cons_succ]
      refine runL 23 (.int .u32 (((b2 : Nat) : Int))) rfl (by rfl) (exec_cell 23 (.tmp 22) rfl p7 1 rfl (.int .u32 (((b2 : Nat) : Int))) _ Try.underlying23 rfl (hp7.cellIs 1 rfl)) ?_
      simp only [List.set_cons_zero, List.set_cons_succ]
      refine runL 24 (.bool true) rfl (by rfl) (by go_simp) ?_
      simp only [List.set_cons_zero, List.set_cons_succ]
      refine runL 25 (.bool true) rfl (by rfl) (by go_simp) ?_
      simp only [List.set_cons_zero, List.set_cons_succ]
      refine nilL ?_
      go_upto_region 2 with fail
      refine wl_lit ?_
      refine runL 8 (.bool false) rfl (by rfl) (by go_simp) ?_
      simp only [List.set_cons_zero, List.set_cons_succ]
      refine nilL ?_
      go_wp2_with fail
      go_ret
      exact ⟨by rw [heq.out]; rfl, hW⟩
    have hI2 : ¬ (b2 : Int) < (a2 : Int) := by omega
    rw [decide_eq_true (show a2 ≤ b2 by omega), Bool.true_and] at hr
    by_cases h4 : a2 ≤ a
    ·
      have hI4 : (a2 : Int) ≤ (a : Int) := by omega
      by_cases h5 : a ≤ b2
      ·
        have hI5 : (a : Int) ≤ (b2 : Int) := by omega
        have heq : Hid (r = true) := Lib.hid (by rw [← hr, decide_eq_true (by omega)])
        clear hr
        go_enter Try.func13, Try.ntmps13
        go_upto_region 0 with fail
        refine wl_lit ?_
        refine runWL 4 (.pointer (some ⟨w.heap.size, 0, none⟩)) (w.alloc (.cells (noV s c) 26)) rfl (by rfl) (exec_box 26 (.tmp 0) rfl (.agg (noV s c)) rfl) ?_
        simp only [List.set_cons_zero, List.set_cons_succ]
        have lw_p4 := Nat.le_trans hB0 hW.size
        have hp4 : Blk (w.alloc (.cells (noV s c) 26)) w.heap.size 26 (noV s c) := Blk.new _ _ _
        replace hW := hW.alloc (Nat.le_trans hB0 hW.size) (.cells (noV s c) 26)
        generalize w.alloc (.cells (noV s c) 26) = w9 at *
        generalize w.heap.size = p4 at hp4 lw_p4  ⊢
        refine runWL 5 (.pointer (some ⟨w9.heap.size, 0, none⟩)) (w9.alloc (.cells (noV s2 c2) 26)) rfl (by rfl) (exec_box 26 (.tmp 1) rfl (.agg (noV s2 c2)) rfl) ?_
        simp only [List.set_cons_zero, List.set_cons_succ]
        have lp4_p5 := hp4.lt
        have lw_p5 := Nat.le_trans hB0 hW.size
        have hp5 : Blk (w9.alloc (.cells (noV s2 c2) 26)) w9.heap.size 26 (noV s2 c2) := Blk.new _ _ _
        replace hp4 := hp4.alloc (.cells (noV s2 c2) 26)
        replace hW := hW.alloc (Nat.le_trans hB0 hW.size) (.cells (noV s2 c2) 26)
        generalize w9.alloc (.cells (noV s2 c2) 26) = w10 at *
        generalize w9.heap.size = p5 at hp5 lw_p5 lp4_p5 ⊢
        refine runWL 6 (.pointer (some ⟨w10.heap.size, 0, none⟩)) (w10.alloc (.cells (r2V a b) 33)) rfl (by rfl) (exec_box 33 (.tmp 2) rfl (.agg (r2V a b)) rfl) ?_
        simp only [List.set_cons_zero, List.set_cons_succ]
        have lp4_p6 := hp4.lt
        have lp5_p6 := hp5.lt
        have lw_p6 := Nat.le_trans hB0 hW.size
        have hp6 : Blk (w10.alloc (.cells (r2V a b) 33)) w10.heap.size 33 (r2V a b) := Blk.new _ _ _
        replace hp4 := hp4.alloc (.cells (r2V a b) 33)
        replace hp5 := hp5.alloc (.cells (r2V a b) 33)
        replace hW := hW.alloc (Nat.le_trans hB0 hW.size) (.cells (r2V a b) 33)
        generalize w10.alloc (.cells (r2V a b) 33) = w11 at *
        generalize w10.heap.size = p6 at hp6 lw_p6 lp4_p6 lp5_p6 ⊢
        refine runWL 7 (.pointer (some ⟨w11.heap.size, 0, none⟩)) (w11.alloc (.cells (r2V a2 b2) 33)) rfl (by rfl) (exec_box 33 (.tmp 3) rfl (.agg (r2V a2 b2)) rfl) ?_
        simp only [List.set_cons_zero, List.set_cons_succ]
        have lp4_p7 := hp4.lt
        have lp5_p7 := hp5.lt
        have lp6_p7 := hp6.lt
        have lw_p7 := Nat.le_trans hB0 hW.size
        have hp7 : Blk (w11.alloc (.cells (r2V a2 b2) 33)) w11.heap.size 33 (r2V a2 b2) := Blk.new _ _ _
        replace hp4 := hp4.alloc (.cells (r2V a2 b2) 33)
        replace hp5 := hp5.alloc (.cells (r2V a2 b2) 33)
        replace hp6 := hp6.alloc (.cells (r2V a2 b2) 33)
        replace hW := hW.alloc (Nat.le_trans hB0 hW.size) (.cells (r2V a2 b2) 33)
        generalize w11.alloc (.cells (r2V a2 b2) 33) = w12 at *
        generalize w11.heap.size = p7 at hp7 lw_p7 lp4_p7 lp5_p7 lp6_p7 ⊢
        refine runL 8 (.bool false) rfl (by rfl) (by go_simp) ?_
        simp only [List.set_cons_zero, List.set_cons_succ]
        refine nilL ?_
        go_upto_region 1 with fail
        refine wl_lit ?_
        refine runL 9 (.agg (noV s c)) rfl (by rfl) (exec_row 26 (.tmp 4) rfl p4 rfl 26 (noV s c) _ hp4 (by exact Try.underlying26) rfl (noV_sz _ _)) ?_
        simp only [List.set_cons_zero, List.set_cons_succ]
        refine runL 10 (.agg (noV s2 c2)) rfl (by rfl) (exec_row 26 (.tmp 5) rfl p5 rfl 26 (noV s2 c2) _ hp5 (by exact Try.underlying26) rfl (noV_sz _ _)) ?_
        simp only [List.set_cons_zero, List.set_cons_succ]
        refine runL 11 (.bool false) rfl (by rfl) (exec_neV 26 (by kernel_rfl) (.tmp 9) (.tmp 10) _ rfl (noV s c) (noV s2 c2) rfl rfl true false rfl (by rw [hno]; rw [hnq.out])) ?_
        simp only [List.set_cons_zero, List.set_cons_succ]
        refine runL 12 (.bool false) rfl (by rfl) (by go_simp) ?_
        simp only [List.set_cons_zero, List.set_cons_succ]
        refine runL 13 (.pointer (some ⟨p6, 0, none⟩)) rfl (by rfl) (by go_simp) ?_
        simp only [List.set_cons_zero, List.set_cons_succ]
        refine runL 14 (.int .u32 (((a : Nat) : Int))) rfl (by rfl) (exec_cell 23 (.tmp 13) rfl p6 0 rfl (.int .u32 (((a : Nat) : Int))) _ Try.underlying23 rfl (hp6.cellIs 0 rfl)) ?_
        simp only [List.set_cons_zero, List.set_cons_succ]
        refine runL 15 (.pointer (some ⟨p6, 1, none⟩)) rfl (by rfl) (by go_simp) ?_
        simp only [List.set_cons_zero, List.set_cons_succ]
        refine runL 16 (.int .u32 (((b : Nat) : Int))) rfl (by rfl) (exec_cell 23 (.tmp 15) rfl p6 1 rfl (.int .u32 (((b : Nat) : Int))) _ Try.underlying23 rfl (hp6.cellIs 1 rfl)) ?_
        simp only [List.set_cons_zero, List.set_cons_succ]
        refine runL 17 (.bool false) rfl (by rfl) (by go_simp) ?_
        simp only [List.set_cons_zero, List.set_cons_succ]
        refine runL 18 (.bool false) rfl (by rfl) (by go_simp) ?_
        simp only [List.set_cons_zero, List.set_cons_succ]
        refine runL 19 (.bool false) rfl (by rfl) (by go_simp) ?_
        simp only [List.set_cons_zero, List.set_cons_succ]
        refine runL 20 (.pointer (some ⟨p7, 0, none⟩)) rfl (by rfl) (by go_simp) ?_
        simp only [List.set_cons_zero, List.set_cons_succ]
        refine runL 21 (.int .u32 (((a2 : Nat) : Int))) rfl (by rfl) (exec_cell 23 (.tmp 20) rfl p7 0 rfl (.int .u32 (((a2 : Nat) : Int))) _ Try.underlying23 rfl (hp7.cellIs 0 rfl)) ?_
        simp only [List.set_cons_zero, List.set_cons_succ]
        refine runL 22 (.pointer (some ⟨p7, 1, none⟩)) rfl (by rfl) (by go_simp) ?_
        simp only [List.set_cons_zero, List.set_cons_succ]
        refine runL 23 (.int .u32 (((b2 : Nat) : Int))) rfl (by rfl) (exec_cell 23 (.tmp 22) rfl p7 1 rfl (.int .u32 (((b2 : Nat) : Int))) _ Try.underlying23 rfl (hp7.cellIs 1 rfl)) ?_
        simp only [List.set_cons_zero, List.set_cons_succ]
        refine runL 24 (.bool false) rfl (by rfl) (by go_simp) ?_
        simp only [List.set_cons_zero, List.set_cons_succ]
        refine runL 25 (.bool false) rfl (by rfl) (by go_simp) ?_
        simp only [List.set_cons_zero, List.set_cons_succ]
        refine nilL ?_
        go_upto_region 3 with fail
        refine wl_lit ?_
        refine runL 26 (.pointer (some ⟨p6, 0, none⟩)) rfl (by rfl) (by go_simp) ?_
        simp only [List.set_cons_zero, List.set_cons_succ]
        refine runL 27 (.int .u32 (((a : Nat) : Int))) rfl (by rfl) (exec_cell 23 (.tmp 26) rfl p6 0 rfl (.int .u32 (((a : Nat) : Int))) _ Try.underlying23 rfl (hp6.cellIs 0 rfl)) ?_
        simp only [List.set_cons_zero, List.set_cons_succ]
        refine runL 28 (.pointer (some ⟨p7, 0, none⟩)) rfl (by rfl) (by go_simp) ?_
        simp only [List.set_cons_zero, List.set_cons_succ]
        refine runL 29 (.int .u32 (((a2 : Nat) : Int))) rfl (by rfl) (exec_cell 23 (.tmp 28) rfl p7 0 rfl (.int .u32 (((a2 : Nat) : Int))) _ Try.underlying23 rfl (hp7.cellIs 0 rfl)) ?_
        simp only [List.set_cons_zero, List.set_cons_succ]
        refine runL 30 (.bool true) rfl (by rfl) (by go_simp) ?_
        simp only [List.set_cons_zero, List.set_cons_succ]
        refine runL 31 (.bool true) rfl (by rfl) (by go_simp) ?_
        simp only [List.set_cons_zero, List.set_cons_succ]
        refine runL 32 (.pointer (some ⟨p6, 0, none⟩)) rfl (by rfl) (by go_simp) ?_
        simp only [List.set_cons_zero, List.set_cons_succ]
        refine runL 33 (.int .u32 (((a : Nat) : Int))) rfl (by rfl) (exec_cell 23 (.tmp 32) rfl p6 0 rfl (.int .u32 (((a : Nat) : Int))) _ Try.underlying23 rfl (hp6.cellIs 0 rfl)) ?_
        simp only [List.set_cons_zero, List.set_cons_succ]
        refine runL 34 (.pointer (some ⟨p7, 1, none⟩)) rfl (by rfl) (by go_simp) ?_
        simp only [List.set_cons_zero, List.set_cons_succ]
        refine runL 35 (.int .u32 (((b2 : Nat) : Int))) rfl (by rfl) (exec_cell 23 (.tmp 34) rfl p7 1 rfl (.int .u32 (((b2 : Nat) : Int))) _ Try.underlying23 rfl (hp7.cellIs 1 rfl)) ?_
        simp only [List.set_cons_zero, List.set_cons_succ]
        refine runL 36 (.bool true) rfl (by rfl) (by go_simp) ?_
        simp only [List.set_cons_zero, List.set_cons_succ]
        refine runL 37 (.bool true) rfl (by rfl) (by go_simp) ?_
        simp only [List.set_cons_zero, List.set_cons_succ]
        refine runL 38 (.bool true) rfl (by rfl) (by go_simp) ?_
        simp only [List.set_cons_zero, List.set_cons_succ]
        refine skipL 39 rfl (by kernel_rfl) ?_
        simp only [List.set_cons_zero, List.set_cons_succ]
        refine skipL 40 rfl (by kernel_rfl) ?_
        simp only [List.set_cons_zero, List.set_cons_succ]
        refine skipL 41 rfl (by kernel_rfl) ?_
        simp only [List.set_cons_zero, List.set_cons_succ]
        refine skipL 42 rfl (by kernel_rfl) ?_
        simp only [List.set_cons_zero, List.set_cons_succ]
        refine skipL 43 rfl (by kernel_rfl) ?_
        simp only [List.set_cons_zero, List.set_cons_succ]
        refine skipL 44 rfl (by kernel_rfl) ?_
        simp only [List.set_cons_zero, List.set_cons_succ]
        refine skipL 45 rfl (by kernel_rfl) ?_
        simp only [List.set_cons_zero, List.set_cons_succ]
        refine skipL 46 rfl (by kernel_rfl) ?_
        simp only [List.set_cons_zero, List.set_cons_succ]
        refine skipL 47 rfl (by kernel_rfl) ?_
        simp only [List.set_cons_zero, List.set_cons_succ]
        refine skipL 48 rfl (by kernel_rfl) ?_
        simp only [List.set_cons_zero, List.set_cons_succ]
        refine skipL 49 rfl (by kernel_rfl) ?_
        simp only [List.set_cons_zero, List.set_cons_succ]
        refine skipL 50 rfl (by kernel_rfl) ?_
        simp only [List.set_cons_zero, List.set_cons_succ]
        refine runL 51 (.bool true) rfl (by rfl) (by go_simp) ?_
        simp only [List.set_cons_zero, List.set_cons_succ]
        refine runL 8 (.bool true) rfl (by rfl) (by go_simp) ?_
        simp only [List.set_cons_zero, List.set_cons_succ]
        refine nilL ?_
        go_wp2_with fail
        go_ret
        exact ⟨by rw [heq.out]; rfl, hW⟩
      ·
        have hI5 : ¬ (a : Int) ≤ (b2 : Int) := by omega
        have hI6 : ¬ (a : Int) ≤ (a2 : Int) := by omega
        have heq : Hid (r = false) := Lib.hid (by rw [← hr, decide_eq_false (by omega)])
        clear hr
        go_enter Try.func13, Try.ntmps13
        go_upto_region 0 with fail
        refine wl_lit ?_
        refine runWL 4 (.pointer (some ⟨w.heap.size, 0, none⟩)) (w.alloc (.cells (noV s c) 26)) rfl (by rfl) (exec_box 26 (.tmp 0) rfl (.agg (noV s c)) rfl) ?_
        simp only [List.set_cons_zero, List.set_cons_succ]
        have lw_p4 := Nat.le_trans hB0 hW.size
        have hp4 : Blk (w.alloc (.cells (noV s c) 26)) w.heap.size 26 (noV s c) := Blk.new _ _ _
        replace hW := hW.alloc (Nat.le_trans hB0 hW.size) (.cells (noV s c) 26)
        generalize w.alloc (.cells (noV s c) 26) = w13 at *
        generalize w.heap.size = p4 at hp4 lw_p4  ⊢
        refine runWL 5 (.pointer (some ⟨w13.heap.size, 0, none⟩)) (w13.alloc (.cells (noV s2 c2) 26)) rfl (by rfl) (exec_box 26 (.tmp 1) rfl (.agg (noV s2 c2)) rfl) ?_
        simp only [List.set_cons_zero, List.set_cons_succ]
        have lp4_p5 := hp4.lt
        have lw_p5 := Nat.le_trans hB0 hW.size
        have hp5 : Blk (w13.alloc (.cells (noV s2 c2) 26)) w13.heap.size 26 (noV s2 c2) := Blk.new _ _ _
        replace hp4 := hp4.alloc (.cells (noV s2 c2) 26)
        replace hW := hW.alloc (Nat.le_trans hB0 hW.size) (.cells (noV s2 c2) 26)
        generalize w13.alloc (.cells (noV s2 c2) 26) = w14 at *
        generalize w13.heap.size = p5 at hp5 lw_p5 lp4_p5 ⊢
        refine runWL 6 (.pointer (some ⟨w14.heap.size, 0, none⟩)) (w14.alloc (.cells (r2V a b) 33)) rfl (by rfl) (exec_box 33 (.tmp 2) rfl (.agg (r2V a b)) rfl) ?_
        simp only [List.set_cons_zero, List.set_cons_succ]
        have lp4_p6 := hp4.lt
        have lp5_p6 := hp5.lt
        have lw_p6 := Nat.le_trans hB0 hW.size
        have hp6 : Blk (w14.alloc (.cells (r2V a b) 33)) w14.heap.size 33 (r2V a b) := Blk.new _ _ _
        replace hp4 := hp4.alloc (.cells (r2V a b) 33)
        replace hp5 := hp5.alloc (.cells (r2V a b) 33)
        replace hW := hW.alloc (Nat.le_trans hB0 hW.size) (.cells (r2V a b) 33)
        generalize w14.alloc (.cells (r2V a b) 33) = w15 at *
        generalize w14.heap.size = p6 at hp6 lw_p6 lp4_p6 lp5_p6 ⊢
        refine runWL 7 (.pointer (some ⟨w15.heap.size, 0, none⟩)) (w15.alloc (.cells (r2V a2 b2) 33)) rfl (by rfl) (exec_box 33 (.tmp 3) rfl (.agg (r2V a2 b2)) rfl) ?_
        simp only [List.set_cons_zero, List.set_cons_succ]
        have lp4_p7 := hp4.lt
        have lp5_p7 := hp5.lt
        have lp6_p7 := hp6.lt
        have lw_p7 := Nat.le_trans hB0 hW.size
        have hp7 : Blk (w15.alloc (.cells (r2V a2 b2) 33)) w15.heap.size 33 (r2V a2 b2) := Blk.new _ _ _
        replace hp4 := hp4.alloc (.cells (r2V a2 b2) 33)
        replace hp5 := hp5.alloc (.cells (r2V a2 b2) 33)
        replace hp6 := hp6.alloc (.cells (r2V a2 b2) 33)
        replace hW := hW.alloc (Nat.le_trans hB0 hW.size) (.cells (r2V a2 b2) 33)
        generalize w15.alloc (.cells (r2V a2 b2) 33) = w16 at *
        generalize w15.heap.size = p7 at hp7 lw_p7 lp4_p7 lp5_p7 lp6_p7 ⊢
        refine runL 8 (.bool false) rfl (by rfl) (by go_simp) ?_
        simp only [List.set_cons_zero, List.set_cons_succ]
        refine nilL ?_
        go_upto_region 1 with fail
        refine wl_lit ?_
        refine runL 9 (.agg (noV s c)) rfl (by rfl) (exec_row 26 (.tmp 4) rfl p4 rfl 26 (noV s c) _ hp4 (by exact Try.underlying26) rfl (noV_sz _ _)) ?_
        simp only [List.set_cons_zero, List.set_cons_succ]
        refine runL 10 (.agg (noV s2 c2)) rfl (by rfl) (exec_row 26 (.tmp 5) rfl p5 rfl 26 (noV s2 c2) _ hp5 (by exact Try.underlying26) rfl (noV_sz _ _)) ?_
        simp only [List.set_cons_zero, List.set_cons_succ]
        refine runL 11 (.bool false) rfl (by rfl) (exec_neV 26 (by kernel_rfl) (.tmp 9) (.tmp 10) _ rfl (noV s c) (noV s2 c2) rfl rfl true false rfl (by rw [hno]; rw [hnq.out])) ?_
        simp only [List.set_cons_zero, List.set_cons_succ]
        refine runL 12 (.bool false) rfl (by rfl) (by go_simp) ?_
        simp only [List.set_cons_zero, List.set_cons_succ]
        refine runL 13 (.pointer (some ⟨p6, 0, none⟩)) rfl (by rfl) (by go_simp) ?_
        simp only [List.set_cons_zero, List.set_cons_succ]
        refine runL 14 (.int .u32 (((a : Nat) : Int))) rfl (by rfl) (exec_cell 23 (.tmp 13) rfl p6 0 rfl (.int .u32 (((a : Nat) : Int))) _ Try.underlying23 rfl (hp6.cellIs 0 rfl)) ?_
        simp only [List.set_cons_zero, List.set_cons_succ]
        refine runL 15 (.pointer (some ⟨p6, 1, none⟩)) rfl (by rfl) (by go_simp) ?_
        simp only [List.set_cons_zero, List.set_cons_succ]
        refine runL 16 (.int .u32 (((b : Nat) : Int))) rfl (by rfl) (exec_cell 23 (.tmp 15) rfl p6 1 rfl (.int .u32 (((b : Nat) : Int))) _ Try.underlying23 rfl (hp6.cellIs 1 rfl)) ?_
        simp only [List.set_cons_zero, List.set_cons_succ]
        refine runL 17 (.bool false) rfl (by rfl) (by go_simp) ?_
        simp only [List.set_cons_zero, List.set_cons_succ]
        refine runL 18 (.bool false) rfl (by rfl) (by go_simp) ?_
        simp only [List.set_cons_zero, List.set_cons_succ]
        refine runL 19 (.bool false) rfl (by rfl) (by go_simp) ?_
        simp only [List.set_cons_zero, List.set_cons_succ]
        refine runL 20 (.pointer (some ⟨p7, 0, none⟩)) rfl (by rfl) (by go_simp) ?_
        simp only [List.set_cons_zero, List.set_cons_succ]
        refine runL 21 (.int .u32 (((a2 : Nat) : Int))) rfl (by rfl) (exec_cell 23 (.tmp 20) rfl p7 0 rfl (.int .u32 (((a2 : Nat) : Int))) _ Try.underlying23 rfl (hp7.cellIs 0 rfl)) ?_
        simp only [List.set_cons_zero, List.set_cons_succ]
        refine runL 22 (.pointer (some ⟨p7, 1, none⟩)) rfl (by rfl) (by go_simp) ?_
        simp only [List.set_cons_zero, List.set_cons_succ]
        refine runL 23 (.int .u32 (((b2 : Nat) : Int))) rfl (by rfl) (exec_cell 23 (.tmp 22) rfl p7 1 rfl (.int .u32 (((b2 : Nat) : Int))) _ Try.underlying23 rfl (hp7.cellIs 1 rfl)) ?_
        simp only [List.set_cons_zero, List.set_cons_succ]
        refine runL 24 (.bool false) rfl (by rfl) (by go_simp) ?_
        simp only [List.set_cons_zero, List.set_cons_succ]
        refine runL 25 (.bool false) rfl (by rfl) (by go_simp) ?_
        simp only [List.set_cons_zero, List.set_cons_succ]
        refine nilL ?_
        go_upto_region 3 with fail
        refine wl_lit ?_
        refine runL 26 (.pointer (some ⟨p6, 0, none⟩)) rfl (by rfl) (by go_simp) ?_
        simp only [List.set_cons_zero, List.set_cons_succ]
        refine runL 27 (.int .u32 (((a : Nat) : Int))) rfl (by rfl) (exec_cell 23 (.tmp 26) rfl p6 0 rfl (.int .u32 (((a : Nat) : Int))) _ Try.underlying23 rfl (hp6.cellIs 0 rfl)) ?_
        simp only [List.set_cons_zero, List.set_cons_succ]
        refine runL 28 (.pointer (some ⟨p7, 0, none⟩)) rfl (by rfl) (by go_simp) ?_
        simp only [List.set_cons_zero, List.set_cons_succ]
        refine runL 29 (.int .u32 (((a2 : Nat) : Int))) rfl (by rfl) (exec_cell 23 (.tmp 28) rfl p7 0 rfl (.int .u32 (((a2 : Nat) : Int))) _ Try.underlying23 rfl (hp7.cellIs 0 rfl)) ?_
        simp only [List.set_cons_zero, List.set_cons_succ]
        refine runL 30 (.bool true) rfl (by rfl) (by go_simp) ?_
        simp only [List.set_cons_zero, List.set_cons_succ]
        refine runL 31 (.bool true) rfl (by rfl) (by go_simp) ?_
        simp only [List.set_cons_zero, List.set_cons_succ]
        refine runL 32 (.pointer (some ⟨p6, 0, none⟩)) rfl (by rfl) (by go_simp) ?_
        simp only [List.set_cons_zero, List.set_cons_succ]
        refine runL 33 (.int .u32 (((a : Nat) : Int))) rfl (by rfl) (exec_cell 23 (.tmp 32) rfl p6 0 rfl (.int .u32 (((a : Nat) : Int))) _ Try.underlying23 rfl (hp6.cellIs 0 rfl)) ?_
        simp only [List.set_cons_zero, List.set_cons_succ]
        refine runL 34 (.pointer (some ⟨p7, 1, none⟩)) rfl (by rfl) (by go_simp) ?_
        simp only [List.set_cons_zero, List.set_cons_succ]
        refine runL 35 (.int .u32 (((b2 : Nat) : Int))) rfl (by rfl) (exec_cell 23 (.tmp 34) rfl p7 1 rfl (.int .u32 (((b2 : Nat) : Int))) _ Try.underlying23 rfl (hp7.cellIs 1 rfl)) ?_
        simp only [List.set_cons_zero, List.set_cons_succ]
        refine runL 36 (.bool false) rfl (by rfl) (by go_simp) ?_
        simp only [List.set_cons_zero, List.set_cons_succ]
        refine runL 37 (.bool false) rfl (by rfl) (by go_simp) ?_
        simp only [List.set_cons_zero, List.set_cons_succ]
        refine runL 38 (.bool false) rfl (by rfl) (by go_simp) ?_
        simp only [List.set_cons_zero, List.set_cons_succ]
        refine runL 39 (.pointer (some ⟨p7, 0, none⟩)) rfl (by rfl) (by go_simp) ?_
        simp only [List.set_cons_zero, List.set_cons_succ]
        refine runL 40 (.int .u32 (((a2 : Nat) : Int))) rfl (by rfl) (exec_cell 23 (.tmp 39) rfl p7 0 rfl (.int .u32 (((a2 : Nat) : Int))) _ Try.underlying23 rfl (hp7.cellIs 0 rfl)) ?_
        simp only [List.set_cons_zero, List.set_cons_succ]
        refine runL 41 (.pointer (some ⟨p6, 0, none⟩)) rfl (by rfl) (by go_simp) ?_
        simp only [List.set_cons_zero, List.set_cons_succ]
        refine runL 42 (.int .u32 (((a : Nat) : Int))) rfl (by rfl) (exec_cell 23 (.tmp 41) rfl p6 0 rfl (.int .u32 (((a : Nat) : Int))) _ Try.underlying23 rfl (hp6.cellIs 0 rfl)) ?_
        simp only [List.set_cons_zero, List.set_cons_succ]
        refine runL 43 (.bool false) rfl (by rfl) (by go_simp) ?_
        simp only [List.set_cons_zero, List.set_cons_succ]
        refine runL 44 (.bool false) rfl (by rfl) (by go_simp) ?_
        simp only [List.set_cons_zero, List.set_cons_succ]
        refine skipL 45 rfl (by kernel_rfl) ?_
        simp only [List.set_cons_zero, List.set_cons_succ]
        refine skipL 46 rfl (by kernel_rfl) ?_
        simp only [List.set_cons_zero, List.set_cons_succ]
        refine skipL 47 rfl (by kernel_rfl) ?_
        simp only [List.set_cons_zero, List.set_cons_succ]
        refine skipL 48 rfl (by kernel_rfl) ?_
        simp only [List.set_cons_zero, List.set_cons_succ]
        refine skipL 49 rfl (by kernel_rfl) ?_
        simp only [List.set_cons_zero, List.set_cons_succ]
        refine runL 50 (.bool false) rfl (by rfl) (by go_simp) ?_
        simp only [List.set_cons_zero, List.set_cons_succ]
        refine runL 51 (.bool false) rfl (by rfl) (by go_simp) ?_
        simp only [List.set_cons_zero, List.set_cons_succ]
        refine runL 8 (.bool false) rfl (by rfl) (by go_simp) ?_
        simp only [List.set_cons_zero, List.set_cons_succ]
        refine nilL ?_
        go_wp2_with fail
        go_ret
        exact ⟨by rw [heq.out]; rfl, hW⟩
    ·
      have hI4 : ¬ (a2 : Int) ≤ (a : Int) := by omega
      have hI6 : (a : Int) ≤ (a2 : Int) := by omega
      by_cases h5 : a2 ≤ b
      ·
        have hI5 : (a2 : Int) ≤ (b : Int) := by omega
        have heq : Hid (r = true) := Lib.hid (by rw [← hr, decide_eq_true (by omega)])
        clear hr
        go_enter Try.func13, Try.ntmps13
        go_upto_region 0 with fail
        refine wl_lit ?_
        refine runWL 4 (.pointer (some ⟨w.heap.size, 0, none⟩)) (w.alloc (.cells (noV s c) 26)) rfl (by rfl) (exec_box 26 (.tmp 0) rfl (.agg (noV s c)) rfl) ?_
        simp only [List.set_cons_zero, List.set_cons_succ]
        have lw_p4 := Nat.le_trans hB0 hW.size
        have hp4 : Blk (w.alloc (.cells (noV s c) 26)) w.heap.size 26 (noV s c) := Blk.new _ _ _
        replace hW := hW.alloc (Nat.le_trans hB0 hW.size) (.cells (noV s c) 26)
        generalize w.alloc (.cells (noV s c) 26) = w17 at *
        generalize w.heap.size = p4 at hp4 lw_p4  ⊢
        refine runWL 5 (.pointer (some ⟨w17.heap.size, 0, none⟩)) (w17.alloc (.cells (noV s2 c2) 26)) rfl (by rfl) (exec_box 26 (.tmp 1) rfl (.agg (noV s2 c2)) rfl) ?_
        simp only [List.set_cons_zero, List.set_cons_succ]
        have lp4_p5 := hp4.lt
        have lw_p5 := Nat.le_trans hB0 hW.size
        have hp5 : Blk (w17.alloc (.cells (noV s2 c2) 26)) w17.heap.size 26 (noV s2 c2) := Blk.new _ _ _
        replace hp4 := hp4.alloc (.cells (noV s2 c2) 26)
        replace hW := hW.alloc (Nat.le_trans hB0 hW.size) (.cells (noV s2 c2) 26)
        generalize w17.alloc (.cells (noV s2 c2) 26) = w18 at *
        generalize w17.heap.size = p5 at hp5 lw_p5 lp4_p5 ⊢
        refine runWL 6 (.pointer (some ⟨w18.heap.size, 0, none⟩)) (w18.alloc (.cells (r2V a b) 33)) rfl (by rfl) (exec_box 33 (.tmp 2) rfl (.agg (r2V a b)) rfl) ?_
        simp only [List.set_cons_zero, List.set_cons_succ]
        have lp4_p6 := hp4.lt
        have lp5_p6 := hp5.lt
        have lw_p6 := Nat.le_trans hB0 hW.size
        have hp6 : Blk (w18.alloc (.cells (r2V a b) 33)) w18.heap.size 33 (r2V a b) := Blk.new _ _ _
        replace hp4 := hp4.alloc (.cells (r2V a b) 33)
        replace hp5 := hp5.alloc (.cells (r2V a b) 33)
        replace hW := hW.alloc (Nat.le_trans hB0 hW.size) (.cells (r2V a b) 33)
        generalize w18.alloc (.cells (r2V a b) 33) = w19 at *
        generalize w18.heap.size = p6 at hp6 lw_p6 lp4_p6 lp5_p6 ⊢
        refine runWL 7 (.pointer (some ⟨w19.heap.size, 0, none⟩)) (w19.alloc (.cells (r2V a2 b2) 33)) rfl (by rfl) (exec_box 33 (.tmp 3) rfl (.agg (r2V a2 b2)) rfl) ?_
        simp only [List.set_cons_zero, List.set_cons_succ]
        have lp4_p7 := hp4.lt
        have lp5_p7 := hp5.lt
        have lp6_p7 := hp6.lt
        have lw_p7 := Nat.le_trans hB0 hW.size
        have hp7 : Blk (w19.alloc (.cells (r2V a2 b2) 33)) w19.heap.size 33 (r2V a2 b2) := Blk.new _ _ _
        replace hp4 := hp4.alloc (.cells (r2V a2 b2) 33)
        replace hp5 := hp5.alloc (.cells (r2V a2 b2) 33)
        replace hp6 := hp6.alloc (.cells (r2V a2 b2) 33)
        replace hW := hW.alloc (Nat.le_trans hB0 hW.size) (.cells (r2V a2 b2) 33)
        generalize w19.alloc (.cells (r2V a2 b2) 33) = w20 at *
        generalize w19.heap.size = p7 at hp7 lw_p7 lp4_p7 lp5_p7 lp6_p7 ⊢
        refine runL 8 (.bool false) rfl (by rfl) (by go_simp) ?_
        simp only [List.set_cons_zero, List.set_cons_succ]
        refine nilL ?_
        go_upto_region 1 with fail
        refine wl_lit ?_
        refine runL 9 (.agg (noV s c)) rfl (by rfl) (exec_row 26 (.tmp 4) rfl p4 rfl 26 (noV s c) _ hp4 (by exact Try.underlying26) rfl (noV_sz _ _)) ?_
        simp only [List.set_cons_zero, List.set_cons_succ]
        refine runL 10 (.agg (noV s2 c2)) rfl (by rfl) (exec_row 26 (.tmp 5) rfl p5 rfl 26 (noV s2 c2) _ hp5 (by exact Try.underlying26) rfl (noV_sz _ _)) ?_
        simp only [List.set_cons_zero, List.set_cons_succ]
        refine runL 11 (.bool false) rfl (by rfl) (exec_neV 26 (by kernel_rfl) (.tmp 9) (.tmp 10) _ rfl (noV s c) (noV s2 c2) rfl rfl true false rfl (by rw [hno]; rw [hnq.out])) ?_
        simp only [List.set_cons_zero, List.set_cons_succ]
        refine runL 12 (.bool false) rfl (by rfl) (by go_simp) ?_
        simp only [List.set_cons_zero, List.set_cons_succ]
        refine runL 13 (.pointer (some ⟨p6, 0, none⟩)) rfl (by rfl) (by go_simp) ?_
        simp only [List.set_cons_zero, List.set_cons_succ]
        refine runL 14 (.int .u32 (((a : Nat) : Int))) rfl (by rfl) (exec_cell 23 (.tmp 13) rfl p6 0 rfl (.int .u32 (((a : Nat) : Int))) _ Try.underlying23 rfl (hp6.cellIs 0 rfl)) ?_
        simp only [List.set_cons_zero, List.set_cons_succ]
        refine runL 15 (.pointer (some ⟨p6, 1, none⟩)) rfl (by rfl) (by go_simp) ?_
        simp only [List.set_cons_zero, List.set_cons_succ]
        refine runL 16 (.int .u32 (((b : Nat) : Int))) rfl (by rfl) (exec_cell 23 (.tmp 15) rfl p6 1 rfl (.int .u32 (((b : Nat) : Int))) _ Try.underlying23 rfl (hp6.cellIs 1 rfl)) ?_
        simp only [List.set_cons_zero, List.set_cons_succ]
        refine runL 17 (.bool false) rfl (by rfl) (by go_simp) ?_
        simp only [List.set_cons_zero, List.set_cons_succ]
        refine runL 18 (.bool false) rfl (by rfl) (by go_simp) ?_
        simp only [List.set_cons_zero, List.set_cons_succ]
        refine runL 19 (.bool false) rfl (by rfl) (by go_simp) ?_
        simp only [List.set_cons_zero, List.set_cons_succ]
        refine runL 20 (.pointer (some ⟨p7, 0, none⟩)) rfl (by rfl) (by go_simp) ?_
        simp only [List.set_cons_zero, List.set_cons_succ]
        refine runL 21 (.int .u32 (((a2 : Nat) : Int))) rfl (by rfl) (exec_cell 23 (.tmp 20) rfl p7 0 rfl (.int .u32 (((a2 : Nat) : Int))) _ Try.underlying23 rfl (hp7.cellIs 0 rfl)) ?_
        simp only [List.set_cons_zero, List.set_cons_succ]
        refine runL 22 (.pointer (some ⟨p7, 1, none⟩)) rfl (by rfl) (by go_simp) ?_
        simp only [List.set_cons_zero, List.set_cons_succ]
        refine runL 23 (.int .u32 (((b2 : Nat) : Int))) rfl (by rfl) (exec_cell 23 (.tmp 22) rfl p7 1 rfl (.int .u32 (((b2 : Nat) : Int))) _ Try.underlying23 rfl (hp7.cellIs 1 rfl)) ?_
        simp only [List.set_cons_zero, List.set_cons_succ]
        refine runL 24 (.bool false) rfl (by rfl) (by go_simp) ?_
        simp only [List.set_cons_zero, List.set_cons_succ]
        refine runL 25 (.bool false) rfl (by rfl) (by go_simp) ?_
        simp only [List.set_cons_zero, List.set_cons_succ]
        refine nilL ?_
        go_upto_region 3 with fail
        refine wl_lit ?_
        refine runL 26 (.pointer (some ⟨p6, 0, none⟩)) rfl (by rfl) (by go_simp) ?_
        simp only [List.set_cons_zero, List.set_cons_succ]
        refine runL 27 (.int .u32 (((a : Nat) : Int))) rfl (by rfl) (exec_cell 23 (.tmp 26) rfl p6 0 rfl (.int .u32 (((a : Nat) : Int))) _ Try.underlying23 rfl (hp6.cellIs 0 rfl)) ?_
        simp only [List.set_cons_zero, List.set_cons_succ]
        refine runL 28 (.pointer (some ⟨p7, 0, none⟩)) rfl (by rfl) (by go_simp) ?_
        simp only [List.set_cons_zero, List.set_cons_succ]
        refine runL 29 (.int .u32 (((a2 : Nat) : Int))) rfl (by rfl) (exec_cell 23 (.tmp 28) rfl p7 0 rfl (.int .u32 (((a2 : Nat) : Int))) _ Try.underlying23 rfl (hp7.cellIs 0 rfl)) ?_
        simp only [List.set_cons_zero, List.set_cons_succ]
        refine runL 30 (.bool false) rfl (by rfl) (by go_simp) ?_
        simp only [List.set_cons_zero, List.set_cons_succ]
        refine runL 31 (.bool false) rfl (by rfl) (by go_simp) ?_
        simp only [List.set_cons_zero, List.set_cons_succ]
        refine skipL 32 rfl (by kernel_rfl) ?_
        simp only [List.set_cons_zero, List.set_cons_succ]
        refine skipL 33 rfl (by kernel_rfl) ?_
        simp only [List.set_cons_zero, List.set_cons_succ]
        refine skipL 34 rfl (by kernel_rfl) ?_
        simp only [List.set_cons_zero, List.set_cons_succ]
        refine skipL 35 rfl (by kernel_rfl) ?_
        simp only [List.set_cons_zero, List.set_cons_succ]
        refine skipL 36 rfl (by kernel_rfl) ?_
        simp only [List.set_cons_zero, List.set_cons_succ]
        refine runL 37 (.bool false) rfl (by rfl) (by go_simp) ?_
        simp only [List.set_cons_zero, List.set_cons_succ]
        refine runL 38 (.bool false) rfl (by rfl) (by go_simp) ?_
        simp only [List.set_cons_zero, List.set_cons_succ]
        refine runL 39 (.pointer (some ⟨p7, 0, none⟩)) rfl (by rfl) (by go_simp) ?_
        simp only [List.set_cons_zero, List.set_cons_succ]
        refine runL 40 (.int .u32 (((a2 : Nat) : Int))) rfl (by rfl) (exec_cell 23 (.tmp 39) rfl p7 0 rfl (.int .u32 (((a2 : Nat) : Int))) _ Try.underlying23 rfl (hp7.cellIs 0 rfl)) ?_
        simp only [List.set_cons_zero, List.set_cons_succ]
        refine runL 41 (.pointer (some ⟨p6, 0, none⟩)) rfl (by rfl) (by go_simp) ?_
        simp only [List.set_cons_zero, List.set_cons_succ]
        refine runL 42 (.int .u32 (((a : Nat) : Int))) rfl (by rfl) (exec_cell 23 (.tmp 41) rfl p6 0 rfl (.int .u32 (((a : Nat) : Int))) _ Try.underlying23 rfl (hp6.cellIs 0 rfl)) ?_
        simp only [List.set_cons_zero, List.set_cons_succ]
        refine runL 43 (.bool true) rfl (by rfl) (by go_simp) ?_
        simp only [List.set_cons_zero, List.set_cons_succ]
        refine runL 44 (.bool true) rfl (by rfl) (by go_simp) ?_
        simp only [List.set_cons_zero, List.set_cons_succ]
        refine runL 45 (.pointer (some ⟨p7, 0, none⟩)) rfl (by rfl) (by go_simp) ?_
        simp only [List.set_cons_zero, List.set_cons_succ]
        refine runL 46 (.int .u32 (((a2 : Nat) : Int))) rfl (by rfl) (exec_cell 23 (.tmp 45) rfl p7 0 rfl (.int .u32 (((a2 : Nat) : Int))) _ Try.underlying23 rfl (hp7.cellIs 0 rfl)) ?_
        simp only [List.set_cons_zero, List.set_cons_succ]
        refine runL 47 (.pointer (some ⟨p6, 1, none⟩)) rfl (by rfl) (by go_simp) ?_
        simp only [List.set_cons_zero, List.set_cons_succ]
        refine runL 48 (.int .u32 (((b : Nat) : Int))) rfl (by rfl) (exec_cell 23 (.tmp 47) rfl p6 1 rfl (.int .u32 (((b : Nat) : Int))) _ Try.underlying23 rfl (hp6.cellIs 1 rfl)) ?_
        simp only [List.set_cons_zero, List.set_cons_succ]
        refine runL 49 (.bool true) rfl (by rfl) (by go_simp) ?_
        simp only [List.set_cons_zero, List.set_cons_succ]
        refine runL 50 (.bool true) rfl (by rfl) (by go_simp) ?_
        simp only [List.set_cons_zero, List.set_cons_succ]
        refine runL 51 (.bool true) rfl (by rfl) (by go_simp) ?_
        simp only [List.set_cons_zero, List.set_cons_succ]
        refine runL 8 (.bool true) rfl (by rfl) (by go_simp) ?_
        simp only [List.set_cons_zero, List.set_cons_succ]
        refine nilL ?_
        go_wp2_with fail
        go_ret
        exact ⟨by rw [heq.out]; rfl, hW⟩
      ·
        have hI5 : ¬ (a2 : Int) ≤ (b : Int) := by omega
        have heq : Hid (r = false) := Lib.hid (by rw [← hr, decide_eq_false (by omega)])
        clear hr
        go_enter Try.func13, Try.ntmps13
        go_upto_region 0 with fail
        refine wl_lit ?_
        refine runWL 4 (.pointer (some ⟨w.heap.size, 0, none⟩)) (w.alloc (.cells (noV s c) 26)) rfl (by rfl) (exec_box 26 (.tmp 0) rfl (.agg (noV s c)) rfl) ?_
        simp only [List.set_cons_zero, List.set_cons_succ]
        have lw_p4 := Nat.le_trans hB0 hW.size
        have hp4 : Blk (w.alloc (.cells (noV s c) 26)) w.heap.size 26 (noV s c) := Blk.new _ _ _
        replace hW := hW.alloc (Nat.le_trans hB0 hW.size) (.cells (noV s c) 26)
        generalize w.alloc (.cells (noV s c) 26) = w21 at *
        generalize w.heap.size = p4 at hp4 lw_p4  ⊢
        refine runWL 5 (.pointer (some ⟨w21.heap.size, 0, none⟩)) (w21.alloc (.cells (noV s2 c2) 26)) rfl (by rfl) (exec_box 26 (.tmp 1) rfl (.agg (noV s2 c2)) rfl) ?_
        simp only [List.set_cons_zero, List.set_cons_succ]
        have lp4_p5 := hp4.lt
        have lw_p5 := Nat.le_trans hB0 hW.size
        have hp5 : Blk (w21.alloc (.cells (noV s2 c2) 26)) w21.heap.size 26 (noV s2 c2) := Blk.new _ _ _
        replace hp4 := hp4.alloc (.cells (noV s2 c2) 26)
        replace hW := hW.alloc (Nat.le_trans hB0 hW.size) (.cells (noV s2 c2) 26)
        generalize w21.alloc (.cells (noV s2 c2) 26) = w22 at *
        generalize w21.heap.size = p5 at hp5 lw_p5 lp4_p5 ⊢
        refine runWL 6 (.pointer (some ⟨w22.heap.size, 0, none⟩)) (w22.alloc (.cells (r2V a b) 33)) rfl (by rfl) (exec_box 33 (.tmp 2) rfl (.agg (r2V a b)) rfl) ?_
        simp only [List.set_cons_zero, List.set_cons_succ]
        have lp4_p6 := hp4.lt
        have lp5_p6 := hp5.lt
        have lw_p6 := Nat.le_trans hB0 hW.size
        have hp6 : Blk (w22.alloc (.cells (r2V a b) 33)) w22.heap.size 33 (r2V a b) := Blk.new _ _ _
        replace hp4 := hp4.alloc (.cells (r2V a b) 33)
        replace hp5 := hp5.alloc (.cells (r2V a b) 33)
        replace hW := hW.alloc (Nat.le_trans hB0 hW.size) (.cells (r2V a b) 33)
        generalize w22.alloc (.cells (r2V a b) 33) = w23 at *
        generalize w22.heap.size = p6 at hp6 lw_p6 lp4_p6 lp5_p6 ⊢
        refine runWL 7 (.pointer (some ⟨w23.heap.size, 0, none⟩)) (w23.alloc (.cells (r2V a2 b2) 33)) rfl (by rfl) (exec_box 33 (.tmp 3) rfl (.agg (r2V a2 b2)) rfl) ?_
        simp only [List.set_cons_zero, List.set_cons_succ]
        have lp4_p7 := hp4.lt
        have lp5_p7 := hp5.lt
        have lp6_p7 := hp6.lt
        have lw_p7 := Nat.le_trans hB0 hW.size
        have hp7 : Blk (w23.alloc (.cells (r2V a2 b2) 33)) w23.heap.size 33 (r2V a2 b2) := Blk.new _ _ _
        replace hp4 := hp4.alloc (.cells (r2V a2 b2) 33)
        replace hp5 := hp5.alloc (.cells (r2V a2 b2) 33)
        replace hp6 := hp6.alloc (.cells (r2V a2 b2) 33)
        replace hW := hW.alloc (Nat.le_trans hB0 hW.size) (.cells (r2V a2 b2) 33)
        generalize w23.alloc (.cells (r2V a2 b2) 33) = w24 at *
        generalize w23.heap.size = p7 at hp7 lw_p7 lp4_p7 lp5_p7 lp6_p7 ⊢
        refine runL 8 (.bool false) rfl (by rfl) (by go_simp) ?_
        simp only [List.set_cons_zero, List.set_cons_succ]
        refine nilL ?_
        go_upto_region 1 with fail
        refine wl_lit ?_
        refine runL 9 (.agg (noV s c)) rfl (by rfl) (exec_row 26 (.tmp 4) rfl p4 rfl 26 (noV s c) _ hp4 (by exact Try.underlying26) rfl (noV_sz _ _)) ?_
        simp only [List.set_cons_zero, List.set_cons_succ]
        refine runL 10 (.agg (noV s2 c2)) rfl (by rfl) (exec_row 26 (.tmp 5) rfl p5 rfl 26 (noV s2 c2) _ hp5 (by exact Try.underlying26) rfl (noV_sz _ _)) ?_
        simp only [List.set_cons_zero, List.set_cons_succ]
        refine runL 11 (.bool false) rfl (by rfl) (exec_neV 26 (by kernel_rfl) (.tmp 9) (.tmp 10) _ rfl (noV s c) (noV s2 c2) rfl rfl true false rfl (by rw [hno]; rw [hnq.out])) ?_
        simp only [List.set_cons_zero, List.set_cons_succ]
        refine runL 12 (.bool false) rfl (by rfl) (by go_simp) ?_
        simp only [List.set_cons_zero, List.set_cons_succ]
        refine runL 13 (.pointer (some ⟨p6, 0, none⟩)) rfl (by rfl) (by go_simp) ?_
        simp only [List.set_cons_zero, List.set_cons_succ]
        refine runL 14 (.int .u32 (((a : Nat) : Int))) rfl (by rfl) (exec_cell 23 (.tmp 13) rfl p6 0 rfl (.int .u32 (((a : Nat) : Int))) _ Try.underlying23 rfl (hp6.cellIs 0 rfl)) ?_
        simp only [List.set_cons_zero, List.set_cons_succ]
        refine runL 15 (.pointer (some ⟨p6, 1, none⟩)) rfl (by rfl) (by go_simp) ?_
        simp only [List.set_cons_zero, List.set_cons_succ]
        refine runL 16 (.int .u32 (((b : Nat) : Int))) rfl (by rfl) (exec_cell 23 (.tmp 15) rfl p6 1 rfl (.int .u32 (((b : Nat) : Int))) _ Try.underlying23 rfl (hp6.cellIs 1 rfl)) ?_
        simp only [List.set_cons_zero, List.set_cons_succ]
        refine runL 17 (.bool false) rfl (by rfl) (by go_simp) ?_
        simp only [List.set_cons_zero, List.set_cons_succ]
        refine runL 18 (.bool false) rfl (by rfl) (by go_simp) ?_
        simp only [List.set_cons_zero, List.set_cons_succ]
        refine runL 19 (.bool false) rfl (by rfl) (by go_simp) ?_
        simp only [List.set_cons_zero, List.set_cons_succ]
        refine runL 20 (.pointer (some ⟨p7, 0, none⟩)) rfl (by rfl) (by go_simp) ?_
        simp only [List.set_cons_zero, List.set_cons_succ]
        refine runL 21 (.int .u32 (((a2 : Nat) : Int))) rfl (by rfl) (exec_cell 23 (.tmp 20) rfl p7 0 rfl (.int .u32 (((a2 : Nat) : Int))) _ Try.underlying23 rfl (hp7.cellIs 0 rfl)) ?_
        simp only [List.set_cons_zero, List.set_cons_succ]
        refine runL 22 (.pointer (some ⟨p7, 1, none⟩)) rfl (by rfl) (by go_simp) ?_
        simp only [List.set_cons_zero, List.set_cons_succ]
        refine runL 23 (.int .u32 (((b2 : Nat) : Int))) rfl (by rfl) (exec_cell 23 (.tmp 22) rfl p7 1 rfl (.int .u32 (((b2 : Nat) : Int))) _ Try.underlying23 rfl (hp7.cellIs 1 rfl)) ?_
        simp only [List.set_cons_zero, List.set_cons_succ]
        refine runL 24 (.bool false) rfl (by rfl) (by go_simp) ?_
        simp only [List.set_cons_zero, List.set_cons_succ]
        refine runL 25 (.bool false) rfl (by rfl) (by go_simp) ?_
        simp only [List.set_cons_zero, List.set_cons_succ]
        refine nilL ?_
        go_upto_region 3 with fail
        refine wl_lit ?_
        refine runL 26 (.pointer (some ⟨p6, 0, none⟩)) rfl (by rfl) (by go_simp) ?_
        simp only [List.set_cons_zero, List.set_cons_succ]
        refine runL 27 (.int .u32 (((a : Nat) : Int))) rfl (by rfl) (exec_cell 23 (.tmp 26) rfl p6 0 rfl (.int .u32 (((a : Nat) : Int))) _ Try.underlying23 rfl (hp6.cellIs 0 rfl)) ?_
        simp only [List.set_cons_zero, List.set_cons_succ]
        refine runL 28 (.pointer (some ⟨p7, 0, none⟩)) rfl (by rfl) (by go_simp) ?_
        simp only [List.set_cons_zero, List.set_cons_succ]
        refine runL 29 (.int .u32 (((a2 : Nat) : Int))) rfl (by rfl) (exec_cell 23 (.tmp 28) rfl p7 0 rfl (.int .u32 (((a2 : Nat) : Int))) _ Try.underlying23 rfl (hp7.cellIs 0 rfl)) ?_
        simp only [List.set_cons_zero, List.set_cons_succ]
        refine runL 30 (.bool false) rfl (by rfl) (by go_simp) ?_
        simp only [List.set_cons_zero, List.set_cons_succ]
        refine runL 31 (.bool false) rfl (by rfl) (by go_simp) ?_
        simp only [List.set_cons_zero, List.set_cons_succ]
        refine skipL 32 rfl (by kernel_rfl) ?_
        simp only [List.set_cons_zero, List.set_cons_succ]
        refine skipL 33 rfl (by kernel_rfl) ?_
        simp only [List.set_cons_zero, List.set_cons_succ]
        refine skipL 34 rfl (by kernel_rfl) ?_
        simp only [List.set_cons_zero, List.set_cons_succ]
        refine skipL 35 rfl (by kernel_rfl) ?_
        simp only [List.set_cons_zero, List.set_cons_succ]
        refine skipL 36 rfl (by kernel_rfl) ?_
        simp only [List.set_cons_zero, List.set_cons_succ]
        refine runL 37 (.bool false) rfl (by rfl) (by go_simp) ?_
        simp only [List.set_cons_zero, List.set_cons_succ]
        refine runL 38 (.bool false) rfl (by rfl) (by go_simp) ?_
        simp only [List.set_cons_zero, List.set_cons_succ]
        refine runL 39 (.pointer (some ⟨p7, 0, none⟩)) rfl (by rfl) (by go_simp) ?_
        simp only [List.set_cons_zero, List.set_cons_succ]
        refine runL 40 (.int .u32 (((a2 : Nat) : Int))) rfl (by rfl) (exec_cell 23 (.tmp 39) rfl p7 0 rfl (.int .u32 (((a2 : Nat) : Int))) _ Try.underlying23 rfl (hp7.cellIs 0 rfl)) ?_
        simp only [List.set_cons_zero, List.set_cons_succ]
        refine runL 41 (.pointer (some ⟨p6, 0, none⟩)) rfl (by rfl) (by go_simp) ?_
        simp only [List.set_cons_zero, List.set_cons_succ]
        refine runL 42 (.int .u32 (((a : Nat) : Int))) rfl (by rfl) (exec_cell 23 (.tmp 41) rfl p6 0 rfl (.int .u32 (((a : Nat) : Int))) _ Try.underlying23 rfl (hp6.cellIs 0 rfl)) ?_
        simp only [List.set_cons_zero, List.set_cons_succ]
        refine runL 43 (.bool true) rfl (by rfl) (by go_simp) ?_
        simp only [List.set_cons_zero, List.set_cons_succ]
        refine runL 44 (.bool true) rfl (by rfl) (by go_simp) ?_
        simp only [List.set_cons_zero, List.set_cons_succ]
        refine runL 45 (.pointer (some ⟨p7, 0, none⟩)) rfl (by rfl) (by go_simp) ?_
        simp only [List.set_cons_zero, List.set_cons_succ]
        refine runL 46 (.int .u32 (((a2 : Nat) : Int))) rfl (by rfl) (exec_cell 23 (.tmp 45) rfl p7 0 rfl (.int .u32 (((a2 : Nat) : Int))) _ Try.underlying23 rfl (hp7.cellIs 0 rfl)) ?_
        simp only [List.set_cons_zero, List.set_cons_succ]
        refine runL 47 (.pointer (some ⟨p6, 1, none⟩)) rfl (by rfl) (by go_simp) ?_
        simp only [List.set_cons_zero, List.set_cons_succ]
        refine runL 48 (.int .u32 (((b : Nat) : Int))) rfl (by rfl) (exec_cell 23 (.tmp 47) rfl p6 1 rfl (.int .u32 (((b : Nat) : Int))) _ Try.underlying23 rfl (hp6.cellIs 1 rfl)) ?_
        simp only [List.set_cons_zero, List.set_cons_succ]
        refine runL 49 (.bool false) rfl (by rfl) (by go_simp) ?_
        simp only [List.set_cons_zero, List.set_cons_succ]
        refine runL 50 (.bool false) rfl (by rfl) (by go_simp) ?_
        simp only [List.set_cons_zero, List.set_cons_succ]
        refine runL 51 (.bool false) rfl (by rfl) (by go_simp) ?_
        simp only [List.set_cons_zero, List.set_cons_succ]
        refine runL 8 (.bool false) rfl (by rfl) (by go_simp) ?_
        simp only [List.set_cons_zero, List.set_cons_succ]
        refine nilL ?_
        go_wp2_with fail
        go_ret
        exact ⟨by rw [heq.out]; rfl, hW⟩
  ·
    have hnq := Lib.hid (decide_eq_false h3)
    have heq : Hid (r = false) := Lib.hid (by rw [← hr, decide_eq_false h3]; cases decide (a ≤ b) <;> cases decide (a2 ≤ b2) <;> rfl)
    clear hr h3
    go_enter Try.func13, Try.ntmps13
    go_upto_region 0 with fail
    refine wl_lit ?_
    refine runWL 4 (.pointer (some ⟨w.heap.size, 0, none⟩)) (w.alloc (.cells (noV s c) 26)) rfl (by rfl) (exec_box 26 (.tmp 0) rfl (.agg (noV s c)) rfl) ?_
    simp only [List.set_cons_zero, List.set_cons_succ]
    have lw_p4 := Nat.le_trans hB0 hW.size
    have hp4 : Blk (w.alloc (.cells (noV s c) 26)) w.heap.size 26 (noV s c) := Blk.new _ _ _
    replace hW := hW.alloc (Nat.le_trans hB0 hW.size) (.cells (noV s c) 26)
    generalize w.alloc (.cells (noV s c) 26) = w25 at *
    generalize w.heap.size = p4 at hp4 lw_p4  ⊢
    refine runWL 5 (.pointer (some ⟨w25.heap.size, 0, none⟩)) (w25.alloc (.cells (noV s2 c2) 26)) rfl (by rfl) (exec_box 26 (.tmp 1) rfl (.agg (noV s2 c2)) rfl) ?_
    simp only [List.set_cons_zero, List.set_cons_succ]
    have lp4_p5 := hp4.lt
    have lw_p5 := Nat.le_trans hB0 hW.size
    have hp5 : Blk (w25.alloc (.cells (noV s2 c2) 26)) w25.heap.size 26 (noV s2 c2) := Blk.new _ _ _
    replace hp4 := hp4.alloc (.cells (noV s2 c2) 26)
    replace hW := hW.alloc (Nat.le_trans hB0 hW.size) (.cells (noV s2 c2) 26)
    generalize w25.alloc (.cells (noV s2 c2) 26) = w26 at *
    generalize w25.heap.size = p5 at hp5 lw_p5 lp4_p5 ⊢
    refine runWL 6 (.pointer (some ⟨w26.heap.size, 0, none⟩)) (w26.alloc (.cells (r2V a b) 33)) rfl (by rfl) (exec_box 33 (.tmp 2) rfl (.agg (r2V a b)) rfl) ?_
    simp only [List.set_cons_zero, List.set_cons_succ]
    have lp4_p6 := hp4.lt
    have lp5_p6 := hp5.lt
    have lw_p6 := Nat.le_trans hB0 hW.size
    have hp6 : Blk (w26.alloc (.cells (r2V a b) 33)) w26.heap.size 33 (r2V a b) := Blk.new _ _ _
    replace hp4 := hp4.alloc (.cells (r2V a b) 33)
    replace hp5 := hp5.alloc (.cells (r2V a b) 33)
    replace hW := hW.alloc (Nat.le_trans hB0 hW.size) (.cells (r2V a b) 33)
    generalize w26.alloc (.cells (r2V a b) 33) = w27 at *
    generalize w26.heap.size = p6 at hp6 lw_p6 lp4_p6 lp5_p6 ⊢
    refine runWL 7 (.pointer (some ⟨w27.heap.size, 0, none⟩)) (w27.alloc (.cells (r2V a2 b2) 33)) rfl (by rfl) (exec_box 33 (.tmp 3) rfl (.agg (r2V a2 b2)) rfl) ?_
    simp only [List.set_cons_zero, List.set_cons_succ]
    have lp4_p7 := hp4.lt
    have lp5_p7 := hp5.lt
    have lp6_p7 := hp6.lt
    have lw_p7 := Nat.le_trans hB0 hW.size
    have hp7 : Blk (w27.alloc (.cells (r2V a2 b2) 33)) w27.heap.size 33 (r2V a2 b2) := Blk.new _ _ _
    replace hp4 := hp4.alloc (.cells (r2V a2 b2) 33)
    replace hp5 := hp5.alloc (.cells (r2V a2 b2) 33)
    replace hp6 := hp6.alloc (.cells (r2V a2 b2) 33)
    replace hW := hW.alloc (Nat.le_trans hB0 hW.size) (.cells (r2V a2 b2) 33)
    generalize w27.alloc (.cells (r2V a2 b2) 33) = w28 at *
    generalize w27.heap.size = p7 at hp7 lw_p7 lp4_p7 lp5_p7 lp6_p7 ⊢
    refine runL 8 (.bool false) rfl (by rfl) (by go_simp) ?_
    simp only [List.set_cons_zero, List.set_cons_succ]
    refine nilL ?_
    go_upto_region 1 with fail
    refine wl_lit ?_
    refine runL 9 (.agg (noV s c)) rfl (by rfl) (exec_row 26 (.tmp 4) rfl p4 rfl 26 (noV s c) _ hp4 (by exact Try.underlying26) rfl (noV_sz _ _)) ?_
    simp only [List.set_cons_zero, List.set_cons_succ]
    refine runL 10 (.agg (noV s2 c2)) rfl (by rfl) (exec_row 26 (.tmp 5) rfl p5 rfl 26 (noV s2 c2) _ hp5 (by exact Try.underlying26) rfl (noV_sz _ _)) ?_
    simp only [List.set_cons_zero, List.set_cons_succ]
    refine runL 11 (.bool true) rfl (by rfl) (exec_neV 26 (by kernel_rfl) (.tmp 9) (.tmp 10) _ rfl (noV s c) (noV s2 c2) rfl rfl false true rfl (by rw [hno]; rw [hnq.out])) ?_
    simp only [List.set_cons_zero, List.set_cons_succ]
    refine runL 12 (.bool true) rfl (by rfl) (by go_simp) ?_
    simp only [List.set_cons_zero, List.set_cons_succ]
    refine skipL 13 rfl (by kernel_rfl) ?_
    simp only [List.set_cons_zero, List.set_cons_succ]
    refine skipL 14 rfl (by kernel_rfl) ?_
    simp only [List.set_cons_zero, List.set_cons_succ]
    refine skipL 15 rfl (by kernel_rfl) ?_
    simp only [List.set_cons_zero, List.set_cons_succ]
    refine skipL 16 rfl (by kernel_rfl) ?_
    simp only [List.set_cons_zero, List.set_cons_succ]
    refine skipL 17 rfl (by kernel_rfl) ?_
    simp only [List.set_cons_zero, List.set_cons_succ]
    refine runL 18 (.bool true) rfl (by rfl) (by go_simp) ?_
    simp only [List.set_cons_zero, List.set_cons_succ]
    refine runL 19 (.bool true) rfl (by rfl) (by go_simp) ?_
    simp only [List.set_cons_zero, List.set_cons_succ]
    refine skipL 20 rfl (by kernel_rfl) ?_
    simp only [List.set_cons_zero, List.set_cons_succ]
    refine skipL 21 rfl (by kernel_rfl) ?_
    simp only [List.set_cons_zero, List.set_cons_succ]
    refine skipL 22 rfl (by kernel_rfl) ?_
    simp only [List.set_cons_zero, List.set_cons_succ]
    refine skipL 23 rfl (by kernel_rfl) ?_
    simp only [List.set_cons_zero, List.set_cons_succ]
    refine skipL 24 rfl (by kernel_rfl) ?_
    simp only [List.set_cons_zero, List.set_cons_succ]
    refine runL 25 (.bool true) rfl (by rfl) (by go_simp) ?_
    simp only [List.set_cons_zero, List.set_cons_succ]
    refine nilL ?_
    go_upto_region 2 with fail
    refine wl_lit ?_
    refine runL 8 (.bool false) rfl (by rfl) (by go_simp) ?_
    simp only [List.set_cons_zero, List.set_cons_succ]
    refine nilL ?_
    go_wp2_with fail
    go_ret
    exact ⟨by rw [heq.out]; rfl, hW⟩
end Go.Proofs.Ytpcdckhabaoieaa
