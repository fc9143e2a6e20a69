/-
  The walks of streams.check, Used, Overlap, caissonref07.Overlap, caissonlaw07.used, same. (Printed by mk07.py.)
-/
import Derived.Test.YtcdgcaljlmondaaDoorZ6
import Derived.RangeFuncNested
import Derived.RangeFuncLeaves
import Derived.WalkKit
import Derived.OwnWalkIn
import Derived.TacticsInMore
import Derived.LoopNIn
import Derived.LoopIn
namespace Go.Proofs.YtcdgcaljlmondaaDoor
set_option maxRecDepth 16384
open Go.RowKit Sh

/-- the error of an offset and a size -/
def chkS (f m : Int) : Int := if f < 0 ∨ m < 0 then 1 else if 1048576 < f ∨ 1048576 - f < m then 3 else 0
set_option maxRecDepth 8000 in
set_option maxHeartbeats 2000000 in
theorem check_anyS (f m e : Int) (he : chkS f m = e) (hf : -9223372036854775808 ≤ f ∧ f ≤ 9223372036854775807) (hm : -9223372036854775808 ≤ m ∧ m ≤ 9223372036854775807) (w : World) :
  Calls Tryd.prog 46 #[.int .i64 f, .int .i64 m] w fun e' w' => e' = .returned (.int .i64 e) ∧ Below w.heap.size w w' := by
 obtain ⟨B0, hB0e⟩ : ∃ b, w.heap.size = b := ⟨_, rfl⟩
 rw [hB0e]
 have hW : Below B0 w w := by rw [← hB0e]; exact Below.refl _ _
 have hB0 : B0 ≤ w.heap.size := by omega
 have hB0q := Lib.hid hB0e
 clear hB0e
 unfold chkS at he
 by_cases h1 : f < 0
 ·
  have heq := Lib.hid (he.symm.trans (if_pos (Or.inl h1)))
  clear he
  go_enter Tryd.func46, Tryd.ntmps46
  go_upto_region 0 with fail
  refine wl_lit ?_
  refine runL 4 (.int .i64 0) rfl (by rfl) (by go_simp) ?_
  simp only [ls0, ls1]
  refine nilL ?_
  go_upto_region 1 with fail
  refine wl_lit ?_
  refine runL 6 (.int .i64 (f)) rfl (by rfl) (by go_simp) ?_
  simp only [ls0, ls1]
  refine runL 7 (.bool true) rfl (by rfl) (by go_simp) ?_
  simp only [ls0, ls1]
  refine runL 8 (.bool true) rfl (by rfl) (by go_simp) ?_
  simp only [ls0, ls1]
  refine skipL 9 rfl (by kernel_rfl) ?_
  simp only [ls0, ls1]
  refine skipL 10 rfl (by kernel_rfl) ?_
  simp only [ls0, ls1]
  refine runL 11 (.bool true) rfl (by rfl) (by go_simp) ?_
  simp only [ls0, ls1]
  refine runL 5 (.bool true) rfl (by rfl) (by go_simp) ?_
  simp only [ls0, ls1]
  refine nilL ?_
  go_upto_region 2 with fail
  refine wl_lit ?_
  refine runL 4 (.int .i64 1) rfl (by rfl) (by go_simp) ?_
  simp only [ls0, ls1]
  refine nilL ?_
  go_wp2_with fail
  go_ret
  exact ⟨by rw [heq.out]; rfl, hW⟩
 by_cases h2 : m < 0
 ·
  have heq := Lib.hid (he.symm.trans (if_pos (Or.inr h2)))
  clear he
  go_enter Tryd.func46, Tryd.ntmps46
  go_upto_region 0 with fail
  refine wl_lit ?_
  refine runL 4 (.int .i64 0) rfl (by rfl) (by go_simp) ?_
  simp only [ls0, ls1]
  refine nilL ?_
  go_upto_region 1 with fail
  refine wl_lit ?_
  refine runL 6 (.int .i64 (f)) rfl (by rfl) (by go_simp) ?_
  simp only [ls0, ls1]
  refine runL 7 (.bool false) rfl (by rfl) (by go_simp) ?_
  simp only [ls0, ls1]
  refine runL 8 (.bool false) rfl (by rfl) (by go_simp) ?_
  simp only [ls0, ls1]
  refine runL 9 (.int .i64 (m)) rfl (by rfl) (by go_simp) ?_
  simp only [ls0, ls1]
  refine runL 10 (.bool true) rfl (by rfl) (by go_simp) ?_
  simp only [ls0, ls1]
  refine runL 11 (.bool true) rfl (by rfl) (by go_simp) ?_
  simp only [ls0, ls1]
  refine runL 5 (.bool true) rfl (by rfl) (by go_simp) ?_
  simp only [ls0, ls1]
  refine nilL ?_
  go_upto_region 2 with fail
  refine wl_lit ?_
  refine runL 4 (.int .i64 1) rfl (by rfl) (by go_simp) ?_
  simp only [ls0, ls1]
  refine nilL ?_
  go_wp2_with fail
  go_ret
  exact ⟨by rw [heq.out]; rfl, hW⟩
 rw [if_neg (by omega)] at he
 by_cases h3 : 1048576 < f
 ·
  have heq := Lib.hid (he.symm.trans (if_pos (Or.inl h3)))
  clear he
  go_enter Tryd.func46, Tryd.ntmps46
  go_upto_region 0 with fail
  refine wl_lit ?_
  refine runL 4 (.int .i64 0) rfl (by rfl) (by go_simp) ?_
  simp only [ls0, ls1]
  refine nilL ?_
  go_upto_region 1 with fail
  refine wl_lit ?_
  refine runL 6 (.int .i64 (f)) rfl (by rfl) (by go_simp) ?_
  simp only [ls0, ls1]
  refine runL 7 (.bool false) rfl (by rfl) (by go_simp) ?_
  simp only [ls0, ls1]
  refine runL 8 (.bool false) rfl (by rfl) (by go_simp) ?_
  simp only [ls0, ls1]
  refine runL 9 (.int .i64 (m)) rfl (by rfl) (by go_simp) ?_
  simp only [ls0, ls1]
  refine runL 10 (.bool false) rfl (by rfl) (by go_simp) ?_
  simp only [ls0, ls1]
  refine runL 11 (.bool false) rfl (by rfl) (by go_simp) ?_
  simp only [ls0, ls1]
  refine runL 5 (.bool false) rfl (by rfl) (by go_simp) ?_
  simp only [ls0, ls1]
  refine nilL ?_
  go_upto_region 3 with fail
  refine wl_lit ?_
  refine runL 13 (.int .i64 (f)) rfl (by rfl) (by go_simp) ?_
  simp only [ls0, ls1]
  refine runL 14 (.bool true) rfl (by rfl) (by go_simp) ?_
  simp only [ls0, ls1]
  refine runL 15 (.bool true) rfl (by rfl) (by go_simp) ?_
  simp only [ls0, ls1]
  refine skipL 16 rfl (by kernel_rfl) ?_
  simp only [ls0, ls1]
  refine skipL 17 rfl (by kernel_rfl) ?_
  simp only [ls0, ls1]
  refine skipL 18 rfl (by kernel_rfl) ?_
  simp only [ls0, ls1]
  refine skipL 19 rfl (by kernel_rfl) ?_
  simp only [ls0, ls1]
  refine runL 20 (.bool true) rfl (by rfl) (by go_simp) ?_
  simp only [ls0, ls1]
  refine runL 12 (.bool true) rfl (by rfl) (by go_simp) ?_
  simp only [ls0, ls1]
  refine nilL ?_
  go_upto_region 4 with fail
  refine wl_lit ?_
  refine runL 4 (.int .i64 3) rfl (by rfl) (by go_simp) ?_
  simp only [ls0, ls1]
  refine nilL ?_
  go_wp2_with fail
  go_ret
  exact ⟨by rw [heq.out]; rfl, hW⟩
 have hw : IntKind.i64.wrap (1048576 - f) = 1048576 - f := IntWalk.i64_in _ (by omega)
 by_cases h4 : 1048576 - f < m
 ·
  have heq := Lib.hid (he.symm.trans (if_pos (Or.inr h4)))
  clear he
  go_enter Tryd.func46, Tryd.ntmps46
  go_upto_region 0 with fail
  refine wl_lit ?_
  refine runL 4 (.int .i64 0) rfl (by rfl) (by go_simp) ?_
  simp only [ls0, ls1]
  refine nilL ?_
  go_upto_region 1 with fail
  refine wl_lit ?_
  refine runL 6 (.int .i64 (f)) rfl (by rfl) (by go_simp) ?_
  simp only [ls0, ls1]
  refine runL 7 (.bool false) rfl (by rfl) (by go_simp) ?_
  simp only [ls0, ls1]
  refine runL 8 (.bool false) rfl (by rfl) (by go_simp) ?_
  simp only [ls0, ls1]
  refine runL 9 (.int .i64 (m)) rfl (by rfl) (by go_simp) ?_
  simp only [ls0, ls1]
  refine runL 10 (.bool false) rfl (by rfl) (by go_simp) ?_
  simp only [ls0, ls1]
  refine runL 11 (.bool false) rfl (by rfl) (by go_simp) ?_
  simp only [ls0, ls1]
  refine runL 5 (.bool false) rfl (by rfl) (by go_simp) ?_
  simp only [ls0, ls1]
  refine nilL ?_
  go_upto_region 3 with fail
  refine wl_lit ?_
  refine runL 13 (.int .i64 (f)) rfl (by rfl) (by go_simp) ?_
  simp only [ls0, ls1]
  refine runL 14 (.bool false) rfl (by rfl) (by go_simp) ?_
  simp only [ls0, ls1]
  refine runL 15 (.bool false) rfl (by rfl) (by go_simp) ?_
  simp only [ls0, ls1]
  refine runL 16 (.int .i64 (m)) rfl (by rfl) (by go_simp) ?_
  simp only [ls0, ls1]
  refine runL 17 (.int .i64 (f)) rfl (by rfl) (by go_simp) ?_
  simp only [ls0, ls1]
  refine runL 18 (.int .i64 (1048576 - f)) rfl (by rfl) (by go_simp) ?_
  simp only [ls0, ls1]
  refine runL 19 (.bool true) rfl (by rfl) (by go_simp) ?_
  simp only [ls0, ls1]
  refine runL 20 (.bool true) rfl (by rfl) (by go_simp) ?_
  simp only [ls0, ls1]
  refine runL 12 (.bool true) rfl (by rfl) (by go_simp) ?_
  simp only [ls0, ls1]
  refine nilL ?_
  go_upto_region 4 with fail
  refine wl_lit ?_
  refine runL 4 (.int .i64 3) rfl (by rfl) (by go_simp) ?_
  simp only [ls0, ls1]
  refine nilL ?_
  go_wp2_with fail
  go_ret
  exact ⟨by rw [heq.out]; rfl, hW⟩
 ·
  have heq := Lib.hid (he.symm.trans (if_neg (by omega)))
  clear he
  go_enter Tryd.func46, Tryd.ntmps46
  go_upto_region 0 with fail
  refine wl_lit ?_
  refine runL 4 (.int .i64 0) rfl (by rfl) (by go_simp) ?_
  simp only [ls0, ls1]
  refine nilL ?_
  go_upto_region 1 with fail
  refine wl_lit ?_
  refine runL 6 (.int .i64 (f)) rfl (by rfl) (by go_simp) ?_
  simp only [ls0, ls1]
  refine runL 7 (.bool false) rfl (by rfl) (by go_simp) ?_
  simp only [ls0, ls1]
  refine runL 8 (.bool false) rfl (by rfl) (by go_simp) ?_
  simp only [ls0, ls1]
  refine runL 9 (.int .i64 (m)) rfl (by rfl) (by go_simp) ?_
  simp only [ls0, ls1]
  refine runL 10 (.bool false) rfl (by rfl) (by go_simp) ?_
  simp only [ls0, ls1]
  refine runL 11 (.bool false) rfl (by rfl) (by go_simp) ?_
  simp only [ls0, ls1]
  refine runL 5 (.bool false) rfl (by rfl) (by go_simp) ?_
  simp only [ls0, ls1]
  refine nilL ?_
  go_upto_region 3 with fail
  refine wl_lit ?_
  refine runL 13 (.int .i64 (f)) rfl (by rfl) (by go_simp) ?_
  simp only [ls0, ls1]
  refine runL 14 (.bool false) rfl (by rfl) (by go_simp) ?_
  simp only [ls0, ls1]
  refine runL 15 (.bool false) rfl (by rfl) (by go_simp) ?_
  simp only [ls0, ls1]
  refine runL 16 (.int .i64 (m)) rfl (by rfl) (by go_simp) ?_
  simp only [ls0, ls1]
  refine runL 17 (.int .i64 (f)) rfl (by rfl) (by go_simp) ?_
  simp only [ls0, ls1]
  refine runL 18 (.int .i64 (1048576 - f)) rfl (by rfl) (by go_simp) ?_
  simp only [ls0, ls1]
  refine runL 19 (.bool false) rfl (by rfl) (by go_simp) ?_
  simp only [ls0, ls1]
  refine runL 20 (.bool false) rfl (by rfl) (by go_simp) ?_
  simp only [ls0, ls1]
  refine runL 12 (.bool false) rfl (by rfl) (by go_simp) ?_
  simp only [ls0, ls1]
  refine nilL ?_
  go_upto_region 5 with fail
  refine wl_lit ?_
  refine runL 4 (.int .i64 0) rfl (by rfl) (by go_simp) ?_
  simp only [ls0, ls1]
  refine nilL ?_
  go_wp2_with fail
  go_ret
  exact ⟨by rw [heq.out]; rfl, hW⟩

theorem rgV_sz (s c a b : Nat) : (Tryd.prog.info? 75).map (·.size) = some (rgV s c a b).size := by kernel_rfl
theorem rgV_one (s c a b : Nat) : ∀ v ∈ (rgV s c a b).toList, v.oneCell' = true := by simp [rgV, Value.oneCell']
theorem zv_Range (w : World) : (zeroValue 75).run Tryd.prog w = .ok (.agg (rgV 0 0 0 0)) w := by kernel_rfl
/-- what Used returns -/
def UsedIs (s c : Nat) (f m : Int) (R : Array Value) (E : Int) : Prop :=
 ∀ w : World, Calls Tryd.prog 26 #[.agg (noV s c), .int .i64 f, .int .i64 m] w fun e w' => e = .returned (.tuple #[.agg R, .int .i64 E]) ∧ Below w.heap.size w w'

set_option maxRecDepth 8000 in
set_option maxHeartbeats 2000000 in
theorem used_ok (s c F M a b : Nat) (hM : 0 < M) (hFM : F + M ≤ 1048576) (ha : F / 16 = a) (hb : (F + M - 1) / 16 = b) : UsedIs s c (F : Int) (M : Int) (rgV s c a b) 0 := by
 intro w
 have he : chkS (F : Int) (M : Int) = 0 := by unfold chkS; rw [if_neg (by omega), if_neg (by omega)]
 have d1 : (F : Int).tdiv 16 = (a : Int) := by rw [Int.tdiv_eq_ediv_of_nonneg (by omega)]; omega
 have d2 : (F : Int) / 16 = (a : Int) := by omega
 have x1 : IntKind.i64.wrap ((F : Int) + (M : Int)) = (F : Int) + (M : Int) := IntWalk.i64_in _ (by omega)
 have x2 : IntKind.i64.wrap ((F : Int) + (M : Int) - 1) = (F : Int) + (M : Int) - 1 := IntWalk.i64_in _ (by omega)
 have d3 : ((F : Int) + (M : Int) - 1).tdiv 16 = (b : Int) := by rw [Int.tdiv_eq_ediv_of_nonneg (by omega)]; omega
 have d4 : ((F : Int) + (M : Int) - 1) / 16 = (b : Int) := by omega
 have x3 : IntKind.u32.wrap (a : Int) = (a : Int) := by simp [IntKind.wrap, IntKind.bits, IntKind.signed]; omega
 have x4 : IntKind.u32.wrap (b : Int) = (b : Int) := by simp [IntKind.wrap, IntKind.bits, IntKind.signed]; omega
 have x5 : IntKind.i64.wrap (a : Int) = (a : Int) := IntWalk.i64_in _ (by omega)
 have x6 : IntKind.i64.wrap (b : Int) = (b : Int) := IntWalk.i64_in _ (by omega)
 have hMI : ¬ (M : Int) = 0 := by omega
 have hMN : ¬ M = 0 := by omega
 clear ha hb
 obtain ⟨B0, hB0e⟩ : ∃ b, w.heap.size = b := ⟨_, rfl⟩
 rw [hB0e]
 have hW : Below B0 w w := by rw [← hB0e]; exact Below.refl _ _
 have hB0 : B0 ≤ w.heap.size := by omega
 have hB0q := Lib.hid hB0e
 clear hB0e
 go_enter Tryd.func26, Tryd.ntmps26
 go_upto_region 0 with fail
 refine wl_lit ?_
 refine runWL 3 (.pointer (some ⟨w.heap.size, 0, none⟩)) (w.alloc (.cells (noV s c) 40)) rfl (by rfl) (exec_box 40 (.tmp 0) rfl (.agg (noV s c)) rfl) ?_
 simp only [ls0, ls1]
 have lw_p3 := Nat.le_trans hB0 hW.size
 have hp3 : Blk (w.alloc (.cells (noV s c) 40)) w.heap.size 40 (noV s c) := Blk.new _ _ _
 replace hW := hW.alloc (Nat.le_trans hB0 hW.size) (.cells (noV s c) 40)
 generalize w.alloc (.cells (noV s c) 40) = w1 at *
 generalize w.heap.size = p3 at hp3 lw_p3  ⊢
 refine runWL 6 (.pointer (some ⟨w1.heap.size, 0, none⟩)) (w1.alloc (.cells (rgV 0 0 0 0) 75)) rfl (by rfl) (exec_allocV 75 rfl _ (zv_Range _)) ?_
 simp only [ls0, ls1]
 have lp3_p6 := hp3.lt
 have lw_p6 := Nat.le_trans hB0 hW.size
 have hp6 : Blk (w1.alloc (.cells (rgV 0 0 0 0) 75)) w1.heap.size 75 (rgV 0 0 0 0) := Blk.new _ _ _
 replace hp3 := hp3.alloc (.cells (rgV 0 0 0 0) 75)
 replace hW := hW.alloc (Nat.le_trans hB0 hW.size) (.cells (rgV 0 0 0 0) 75)
 generalize w1.alloc (.cells (rgV 0 0 0 0) 75) = w2 at *
 generalize w1.heap.size = p6 at hp6 lw_p6 lp3_p6 ⊢
 refine runL 7 (.int .i64 0) rfl (by rfl) (by go_simp) ?_
 simp only [ls0, ls1]
 refine nilL ?_
 go_upto_region 1 with fail
 refine wl_lit ?_
 refine runL 9 (.int .i64 (F : Int)) rfl (by rfl) (by go_simp) ?_
 simp only [ls0, ls1]
 refine runL 10 (.int .i64 (M : Int)) rfl (by rfl) (by go_simp) ?_
 simp only [ls0, ls1]
 refine callL 11 rfl (by rfl) (fun K hK => wp_callF 46 #[.int .i64 (F : Int), .int .i64 (M : Int)] (by go_simp) (check_anyS _ _ 0 he (by omega) (by omega) _) ?_)
 rintro e w3 ⟨rfl, bx⟩
 replace hp3 := hp3.below bx hp3.lt
 replace hp6 := hp6.below bx hp6.lt
 replace hW := hW.trans (bx.mono (Nat.le_trans hB0 hW.size))
 clear bx
 refine ⟨_, rfl, hK.out _ _ ?_⟩
 clear hK K
 simp only [ls0, ls1]
 refine runL 8 (.int .i64 0) rfl (by rfl) (by go_simp) ?_
 simp only [ls0, ls1]
 refine nilL ?_
 go_upto_region 2 with fail
 refine wl_lit ?_
 refine runL 12 (.int .i64 0) rfl (by rfl) (by go_simp) ?_
 simp only [ls0, ls1]
 refine runL 13 (.bool false) rfl (by rfl) (by go_simp) ?_
 simp only [ls0, ls1]
 refine nilL ?_
 go_upto_region 4 with fail
 refine wl_lit ?_
 refine runL 16 (.int .i64 (M : Int)) rfl (by rfl) (by go_simp) ?_
 simp only [ls0, ls1]
 refine runL 17 (.bool false) rfl (by rfl) (by go_simp) ?_
 simp only [ls0, ls1]
 refine nilL ?_
 go_upto_region 6 with fail
 refine wl_lit ?_
 refine runL 19 (.agg (noV s c)) rfl (by rfl) (exec_row 40 (.tmp 3) rfl p3 rfl 40 (noV s c) _ hp3 (by exact Tryd.underlying40) rfl (noV_sz _ _)) ?_
 simp only [ls0, ls1]
 refine runL 20 (.int .i64 (F : Int)) rfl (by rfl) (by go_simp) ?_
 simp only [ls0, ls1]
 refine runL 21 (.int .i64 (a : Int)) rfl (by rfl) (by go_simp) ?_
 simp only [ls0, ls1]
 refine runL 22 (.int .u32 (a : Int)) rfl (by rfl) (by go_simp) ?_
 simp only [ls0, ls1]
 refine runL 23 (.int .i64 (F : Int)) rfl (by rfl) (by go_simp) ?_
 simp only [ls0, ls1]
 refine runL 24 (.int .i64 (M : Int)) rfl (by rfl) (by go_simp) ?_
 simp only [ls0, ls1]
 refine runL 25 (.int .i64 ((F : Int) + (M : Int))) rfl (by rfl) (by go_simp) ?_
 simp only [ls0, ls1]
 refine runL 26 (.int .i64 ((F : Int) + (M : Int) - 1)) rfl (by rfl) (by go_simp) ?_
 simp only [ls0, ls1]
 refine runL 27 (.int .i64 (b : Int)) rfl (by rfl) (by go_simp) ?_
 simp only [ls0, ls1]
 refine runL 28 (.int .u32 (b : Int)) rfl (by rfl) (by go_simp) ?_
 simp only [ls0, ls1]
 refine runL 29 (.agg (rgV s c a b)) rfl (by rfl) (exec_build 75 _ rfl (rgV s c a b) (by kernel_rfl)) ?_
 simp only [ls0, ls1]
 refine runSL (w3.setRow p6 (rgV s c a b)) rfl (by rfl) (exec_storeRow 75 (.tmp 6) (.tmp 29) rfl p6 rfl (rgV s c a b) rfl 75 (rgV 0 0 0 0) hp6 (sz_eq (rgV_sz _ _ _ _) (rgV_sz _ _ _ _)) (rgV_sz _ _ _ _) (rgV_one _ _ _ _)) ?_
 replace hp3 := hp3.rowFar (show p6 ≠ p3 from (by omega)) (rgV s c a b)
 replace hp6 := hp6.row (rgV s c a b)
 replace hW := below_setRow hW lw_p6 (rgV s c a b)
 generalize w3.setRow p6 (rgV s c a b) = w4 at *
 refine runL 7 (.int .i64 0) rfl (by rfl) (by go_simp) ?_
 simp only [ls0, ls1]
 refine nilL ?_
 go_wp2_with fail
 exact bodyPost_ret (results_row_tmp rfl _ _ p6 75 (rgV s c a b) _ _ rfl hp6 (by exact Tryd.underlying75) rfl (rgV_sz _ _ _ _) rfl) rfl ⟨rfl, hW⟩

/-- whether two ranges overlap -/
def ovl (s c a b s2 c2 a2 b2 : Nat) : Bool := decide (a ≤ b) && (decide (a2 ≤ b2) && (decide (s = s2 ∧ c = c2) && decide (max a a2 ≤ min b b2)))

set_option maxRecDepth 8000 in
set_option maxHeartbeats 2000000 in
theorem overlap_any (s c a b s2 c2 a2 b2 : Nat) (r : Bool) (hr : ovl s c a b s2 c2 a2 b2 = r) (w : World) :
  Calls Tryd.prog 65 #[.agg (rgV s c a b), .agg (rgV s2 c2 a2 b2)] w fun e' w' => e' = .returned (.bool r) ∧ Below w.heap.size w w' := by
 unfold ovl at hr
 obtain ⟨B0, hB0e⟩ : ∃ b, w.heap.size = b := ⟨_, rfl⟩
 rw [hB0e]
 have hW : Below B0 w w := by rw [← hB0e]; exact Below.refl _ _
 have hB0 : B0 ≤ w.heap.size := by omega
 have hB0q := Lib.hid hB0e
 clear hB0e
 by_cases h1 : b < a
 ·
  have hI : (b : Int) < (a : Int) := by omega
  have heq : Hid (r = false) := Lib.hid (by rw [← hr, decide_eq_false (by omega)]; rfl)
  clear hr
  go_enter Tryd.func65, Tryd.ntmps65
  go_upto_region 0 with fail
  refine wl_lit ?_
  refine runWL 2 (.pointer (some ⟨w.heap.size, 0, none⟩)) (w.alloc (.cells (rgV s c a b) 75)) rfl (by rfl) (exec_box 75 (.tmp 0) rfl (.agg (rgV s c a b)) rfl) ?_
  simp only [ls0, ls1]
  have lw_p2 := Nat.le_trans hB0 hW.size
  have hp2 : Blk (w.alloc (.cells (rgV s c a b) 75)) w.heap.size 75 (rgV s c a b) := Blk.new _ _ _
  replace hW := hW.alloc (Nat.le_trans hB0 hW.size) (.cells (rgV s c a b) 75)
  generalize w.alloc (.cells (rgV s c a b) 75) = w1 at *
  generalize w.heap.size = p2 at hp2 lw_p2  ⊢
  refine runWL 3 (.pointer (some ⟨w1.heap.size, 0, none⟩)) (w1.alloc (.cells (rgV s2 c2 a2 b2) 75)) rfl (by rfl) (exec_box 75 (.tmp 1) rfl (.agg (rgV s2 c2 a2 b2)) rfl) ?_
  simp only [ls0, ls1]
  have lp2_p3 := hp2.lt
  have lw_p3 := Nat.le_trans hB0 hW.size
  have hp3 : Blk (w1.alloc (.cells (rgV s2 c2 a2 b2) 75)) w1.heap.size 75 (rgV s2 c2 a2 b2) := Blk.new _ _ _
  replace hp2 := hp2.alloc (.cells (rgV s2 c2 a2 b2) 75)
  replace hW := hW.alloc (Nat.le_trans hB0 hW.size) (.cells (rgV s2 c2 a2 b2) 75)
  generalize w1.alloc (.cells (rgV s2 c2 a2 b2) 75) = w2 at *
  generalize w1.heap.size = p3 at hp3 lw_p3 lp2_p3 ⊢
  refine runL 4 (.bool false) rfl (by rfl) (by go_simp) ?_
  simp only [ls0, ls1]
  refine nilL ?_
  go_upto_region 1 with fail
  refine wl_lit ?_
  refine runL 5 (.pointer (some ⟨p2, 2, none⟩)) rfl (by rfl) (by go_simp) ?_
  simp only [ls0, ls1]
  refine runL 6 (.int .u32 (((a : Nat) : Int))) rfl (by rfl) (exec_cell 38 (.tmp 5) rfl p2 2 rfl (.int .u32 (((a : Nat) : Int))) _ Tryd.underlying38 rfl (hp2.cellIs 2 rfl)) ?_
  simp only [ls0, ls1]
  refine runL 7 (.pointer (some ⟨p2, 3, none⟩)) rfl (by rfl) (by go_simp) ?_
  simp only [ls0, ls1]
  refine runL 8 (.int .u32 (((b : Nat) : Int))) rfl (by rfl) (exec_cell 38 (.tmp 7) rfl p2 3 rfl (.int .u32 (((b : Nat) : Int))) _ Tryd.underlying38 rfl (hp2.cellIs 3 rfl)) ?_
  simp only [ls0, ls1]
  refine runL 9 (.bool true) rfl (by rfl) (by go_simp) ?_
  simp only [ls0, ls1]
  refine runL 10 (.bool true) rfl (by rfl) (by go_simp) ?_
  simp only [ls0, ls1]
  refine skipL 11 rfl (by kernel_rfl) ?_
  simp only [ls0, ls1]
  refine skipL 12 rfl (by kernel_rfl) ?_
  simp only [ls0, ls1]
  refine skipL 13 rfl (by kernel_rfl) ?_
  simp only [ls0, ls1]
  refine skipL 14 rfl (by kernel_rfl) ?_
  simp only [ls0, ls1]
  refine skipL 15 rfl (by kernel_rfl) ?_
  simp only [ls0, ls1]
  refine runL 16 (.bool true) rfl (by rfl) (by go_simp) ?_
  simp only [ls0, ls1]
  refine nilL ?_
  go_upto_region 2 with fail
  refine wl_lit ?_
  refine runL 4 (.bool false) rfl (by rfl) (by go_simp) ?_
  simp only [ls0, ls1]
  refine nilL ?_
  go_wp2_with fail
  go_ret
  exact ⟨by rw [heq.out]; rfl, hW⟩
 have hI : ¬ (b : Int) < (a : Int) := by omega
 rw [decide_eq_true (show a ≤ b by omega), Bool.true_and] at hr
 by_cases h2 : b2 < a2
 ·
  have hI2 : (b2 : Int) < (a2 : Int) := by omega
  have heq : Hid (r = false) := Lib.hid (by rw [← hr, decide_eq_false (by omega)]; rfl)
  clear hr
  go_enter Tryd.func65, Tryd.ntmps65
  go_upto_region 0 with fail
  refine wl_lit ?_
  refine runWL 2 (.pointer (some ⟨w.heap.size, 0, none⟩)) (w.alloc (.cells (rgV s c a b) 75)) rfl (by rfl) (exec_box 75 (.tmp 0) rfl (.agg (rgV s c a b)) rfl) ?_
  simp only [ls0, ls1]
  have lw_p2 := Nat.le_trans hB0 hW.size
  have hp2 : Blk (w.alloc (.cells (rgV s c a b) 75)) w.heap.size 75 (rgV s c a b) := Blk.new _ _ _
  replace hW := hW.alloc (Nat.le_trans hB0 hW.size) (.cells (rgV s c a b) 75)
  generalize w.alloc (.cells (rgV s c a b) 75) = w3 at *
  generalize w.heap.size = p2 at hp2 lw_p2  ⊢
  refine runWL 3 (.pointer (some ⟨w3.heap.size, 0, none⟩)) (w3.alloc (.cells (rgV s2 c2 a2 b2) 75)) rfl (by rfl) (exec_box 75 (.tmp 1) rfl (.agg (rgV s2 c2 a2 b2)) rfl) ?_
  simp only [ls0, ls1]
  have lp2_p3 := hp2.lt
  have lw_p3 := Nat.le_trans hB0 hW.size
  have hp3 : Blk (w3.alloc (.cells (rgV s2 c2 a2 b2) 75)) w3.heap.size 75 (rgV s2 c2 a2 b2) := Blk.new _ _ _
  replace hp2 := hp2.alloc (.cells (rgV s2 c2 a2 b2) 75)
  replace hW := hW.alloc (Nat.le_trans hB0 hW.size) (.cells (rgV s2 c2 a2 b2) 75)
  generalize w3.alloc (.cells (rgV s2 c2 a2 b2) 75) = w4 at *
  generalize w3.heap.size = p3 at hp3 lw_p3 lp2_p3 ⊢
  refine runL 4 (.bool false) rfl (by rfl) (by go_simp) ?_
  simp only [ls0, ls1]
  refine nilL ?_
  go_upto_region 1 with fail
  refine wl_lit ?_
  refine runL 5 (.pointer (some ⟨p2, 2, none⟩)) rfl (by rfl) (by go_simp) ?_
  simp only [ls0, ls1]
  refine runL 6 (.int .u32 (((a : Nat) : Int))) rfl (by rfl) (exec_cell 38 (.tmp 5) rfl p2 2 rfl (.int .u32 (((a : Nat) : Int))) _ Tryd.underlying38 rfl (hp2.cellIs 2 rfl)) ?_
  simp only [ls0, ls1]
  refine runL 7 (.pointer (some ⟨p2, 3, none⟩)) rfl (by rfl) (by go_simp) ?_
  simp only [ls0, ls1]
  refine runL 8 (.int .u32 (((b : Nat) : Int))) rfl (by rfl) (exec_cell 38 (.tmp 7) rfl p2 3 rfl (.int .u32 (((b : Nat) : Int))) _ Tryd.underlying38 rfl (hp2.cellIs 3 rfl)) ?_
  simp only [ls0, ls1]
  refine runL 9 (.bool false) rfl (by rfl) (by go_simp) ?_
  simp only [ls0, ls1]
  refine runL 10 (.bool false) rfl (by rfl) (by go_simp) ?_
  simp only [ls0, ls1]
  refine runL 11 (.pointer (some ⟨p3, 2, none⟩)) rfl (by rfl) (by go_simp) ?_
  simp only [ls0, ls1]
  refine runL 12 (.int .u32 (((a2 : Nat) : Int))) rfl (by rfl) (exec_cell 38 (.tmp 11) rfl p3 2 rfl (.int .u32 (((a2 : Nat) : Int))) _ Tryd.underlying38 rfl (hp3.cellIs 2 rfl)) ?_
  simp only [ls0, ls1]
  refine runL 13 (.pointer (some ⟨p3, 3, none⟩)) rfl (by rfl) (by go_simp) ?_
  simp only [ls0, ls1]
  refine runL 14 (.int .u32 (((b2 : Nat) : Int))) rfl (by rfl) (exec_cell 38 (.tmp 13) rfl p3 3 rfl (.int .u32 (((b2 : Nat) : Int))) _ Tryd.underlying38 rfl (hp3.cellIs 3 rfl)) ?_
  simp only [ls0, ls1]
  refine runL 15 (.bool true) rfl (by rfl) (by go_simp) ?_
  simp only [ls0, ls1]
  refine runL 16 (.bool true) rfl (by rfl) (by go_simp) ?_
  simp only [ls0, ls1]
  refine nilL ?_
  go_upto_region 2 with fail
  refine wl_lit ?_
  refine runL 4 (.bool false) rfl (by rfl) (by go_simp) ?_
  simp only [ls0, ls1]
  refine nilL ?_
  go_wp2_with fail
  go_ret
  exact ⟨by rw [heq.out]; rfl, hW⟩
 have hI2 : ¬ (b2 : Int) < (a2 : Int) := by omega
 rw [decide_eq_true (show a2 ≤ b2 by omega), Bool.true_and] at hr
 have hno := eqNoD s c s2 c2
 by_cases h3 : s = s2 ∧ c = c2
 ·
  rw [decide_eq_true h3, Bool.true_and] at hr
  have hnq := Lib.hid (decide_eq_true h3)
  have hmx : (if a < a2 then (a2 : Int) else (a : Int)) = ((max a a2 : Nat) : Int) := by split <;> omega
  have hmn : (if b2 < b then (b2 : Int) else (b : Int)) = ((min b b2 : Nat) : Int) := by split <;> omega
  obtain ⟨x, hx⟩ : ∃ x, max a a2 = x := ⟨_, rfl⟩
  obtain ⟨y, hy⟩ : ∃ y, min b b2 = y := ⟨_, rfl⟩
  rw [hx] at hmx hr
  rw [hy] at hmn hr
  clear hx hy h3
  by_cases h4 : x ≤ y
  ·
   have hI4 : (x : Int) ≤ (y : Int) := by omega
   have heq : Hid (r = true) := Lib.hid (by rw [← hr, decide_eq_true h4])
   clear hr
   go_enter Tryd.func65, Tryd.ntmps65
   go_upto_region 0 with fail
   refine wl_lit ?_
   refine runWL 2 (.pointer (some ⟨w.heap.size, 0, none⟩)) (w.alloc (.cells (rgV s c a b) 75)) rfl (by rfl) (exec_box 75 (.tmp 0) rfl (.agg (rgV s c a b)) rfl) ?_
   simp only [ls0, ls1]
   have lw_p2 := Nat.le_trans hB0 hW.size
   have hp2 : Blk (w.alloc (.cells (rgV s c a b) 75)) w.heap.size 75 (rgV s c a b) := Blk.new _ _ _
   replace hW := hW.alloc (Nat.le_trans hB0 hW.size) (.cells (rgV s c a b) 75)
   generalize w.alloc (.cells (rgV s c a b) 75) = w5 at *
   generalize w.heap.size = p2 at hp2 lw_p2  ⊢
   refine runWL 3 (.pointer (some ⟨w5.heap.size, 0, none⟩)) (w5.alloc (.cells (rgV s2 c2 a2 b2) 75)) rfl (by rfl) (exec_box 75 (.tmp 1) rfl (.agg (rgV s2 c2 a2 b2)) rfl) ?_
   simp only [ls0, ls1]
   have lp2_p3 := hp2.lt
   have lw_p3 := Nat.le_trans hB0 hW.size
   have hp3 : Blk (w5.alloc (.cells (rgV s2 c2 a2 b2) 75)) w5.heap.size 75 (rgV s2 c2 a2 b2) := Blk.new _ _ _
   replace hp2 := hp2.alloc (.cells (rgV s2 c2 a2 b2) 75)
   replace hW := hW.alloc (Nat.le_trans hB0 hW.size) (.cells (rgV s2 c2 a2 b2) 75)
   generalize w5.alloc (.cells (rgV s2 c2 a2 b2) 75) = w6 at *
   generalize w5.heap.size = p3 at hp3 lw_p3 lp2_p3 ⊢
   refine runL 4 (.bool false) rfl (by rfl) (by go_simp) ?_
   simp only [ls0, ls1]
   refine nilL ?_
   go_upto_region 1 with fail
   refine wl_lit ?_
   refine runL 5 (.pointer (some ⟨p2, 2, none⟩)) rfl (by rfl) (by go_simp) ?_
   simp only [ls0, ls1]
   refine runL 6 (.int .u32 (((a : Nat) : Int))) rfl (by rfl) (exec_cell 38 (.tmp 5) rfl p2 2 rfl (.int .u32 (((a : Nat) : Int))) _ Tryd.underlying38 rfl (hp2.cellIs 2 rfl)) ?_
   simp only [ls0, ls1]
   refine runL 7 (.pointer (some ⟨p2, 3, none⟩)) rfl (by rfl) (by go_simp) ?_
   simp only [ls0, ls1]
   refine runL 8 (.int .u32 (((b : Nat) : Int))) rfl (by rfl) (exec_cell 38 (.tmp 7) rfl p2 3 rfl (.int .u32 (((b : Nat) : Int))) _ Tryd.underlying38 rfl (hp2.cellIs 3 rfl)) ?_
   simp only [ls0, ls1]
   refine runL 9 (.bool false) rfl (by rfl) (by go_simp) ?_
   simp only [ls0, ls1]
   refine runL 10 (.bool false) rfl (by rfl) (by go_simp) ?_
   simp only [ls0, ls1]
   refine runL 11 (.pointer (some ⟨p3, 2, none⟩)) rfl (by rfl) (by go_simp) ?_
   simp only [ls0, ls1]
   refine runL 12 (.int .u32 (((a2 : Nat) : Int))) rfl (by rfl) (exec_cell 38 (.tmp 11) rfl p3 2 rfl (.int .u32 (((a2 : Nat) : Int))) _ Tryd.underlying38 rfl (hp3.cellIs 2 rfl)) ?_
   simp only [ls0, ls1]
   refine runL 13 (.pointer (some ⟨p3, 3, none⟩)) rfl (by rfl) (by go_simp) ?_
   simp only [ls0, ls1]
   refine runL 14 (.int .u32 (((b2 : Nat) : Int))) rfl (by rfl) (exec_cell 38 (.tmp 13) rfl p3 3 rfl (.int .u32 (((b2 : Nat) : Int))) _ Tryd.underlying38 rfl (hp3.cellIs 3 rfl)) ?_
   simp only [ls0, ls1]
   refine runL 15 (.bool false) rfl (by rfl) (by go_simp) ?_
   simp only [ls0, ls1]
   refine runL 16 (.bool false) rfl (by rfl) (by go_simp) ?_
   simp only [ls0, ls1]
   refine nilL ?_
   go_upto_region 3 with fail
   refine wl_lit ?_
   refine runL 17 (.pointer (some ⟨p2, 0, none⟩)) rfl (by rfl) (by go_simp) ?_
   simp only [ls0, ls1]
   refine runL 18 (.agg (noV s c)) rfl (by rfl) (exec_mid 40 (.tmp 17) rfl p2 0 rfl (noV s c).toList _ (hp2.range 0 2) (by exact Tryd.underlying40) rfl (by kernel_rfl)) ?_
   simp only [ls0, ls1]
   refine runL 19 (.pointer (some ⟨p3, 0, none⟩)) rfl (by rfl) (by go_simp) ?_
   simp only [ls0, ls1]
   refine runL 20 (.agg (noV s2 c2)) rfl (by rfl) (exec_mid 40 (.tmp 19) rfl p3 0 rfl (noV s2 c2).toList _ (hp3.range 0 2) (by exact Tryd.underlying40) rfl (by kernel_rfl)) ?_
   simp only [ls0, ls1]
   refine runL 21 (.bool true) rfl (by rfl) (exec_eqV 40 (by kernel_rfl) (.tmp 18) (.tmp 20) _ rfl (noV s c) (noV s2 c2) rfl rfl true (by rw [hno]; rw [hnq.out])) ?_
   simp only [ls0, ls1]
   refine runL 22 (.bool true) rfl (by rfl) (by go_simp) ?_
   simp only [ls0, ls1]
   refine runL 23 (.pointer (some ⟨p2, 2, none⟩)) rfl (by rfl) (by go_simp) ?_
   simp only [ls0, ls1]
   refine runL 24 (.int .u32 (((a : Nat) : Int))) rfl (by rfl) (exec_cell 38 (.tmp 23) rfl p2 2 rfl (.int .u32 (((a : Nat) : Int))) _ Tryd.underlying38 rfl (hp2.cellIs 2 rfl)) ?_
   simp only [ls0, ls1]
   refine runL 25 (.pointer (some ⟨p3, 2, none⟩)) rfl (by rfl) (by go_simp) ?_
   simp only [ls0, ls1]
   refine runL 26 (.int .u32 (((a2 : Nat) : Int))) rfl (by rfl) (exec_cell 38 (.tmp 25) rfl p3 2 rfl (.int .u32 (((a2 : Nat) : Int))) _ Tryd.underlying38 rfl (hp3.cellIs 2 rfl)) ?_
   simp only [ls0, ls1]
   refine runL 27 (.int .u32 ((x : Nat) : Int)) rfl (by rfl) (by go_simp) ?_
   simp only [ls0, ls1]
   refine runL 28 (.pointer (some ⟨p2, 3, none⟩)) rfl (by rfl) (by go_simp) ?_
   simp only [ls0, ls1]
   refine runL 29 (.int .u32 (((b : Nat) : Int))) rfl (by rfl) (exec_cell 38 (.tmp 28) rfl p2 3 rfl (.int .u32 (((b : Nat) : Int))) _ Tryd.underlying38 rfl (hp2.cellIs 3 rfl)) ?_
   simp only [ls0, ls1]
   refine runL 30 (.pointer (some ⟨p3, 3, none⟩)) rfl (by rfl) (by go_simp) ?_
   simp only [ls0, ls1]
   refine runL 31 (.int .u32 (((b2 : Nat) : Int))) rfl (by rfl) (exec_cell 38 (.tmp 30) rfl p3 3 rfl (.int .u32 (((b2 : Nat) : Int))) _ Tryd.underlying38 rfl (hp3.cellIs 3 rfl)) ?_
   simp only [ls0, ls1]
   refine runL 32 (.int .u32 ((y : Nat) : Int)) rfl (by rfl) (by go_simp) ?_
   simp only [ls0, ls1]
   refine runL 33 (.bool true) rfl (by rfl) (by go_simp) ?_
   simp only [ls0, ls1]
   refine runL 34 (.bool true) rfl (by rfl) (by go_simp) ?_
   simp only [ls0, ls1]
   refine runL 4 (.bool true) rfl (by rfl) (by go_simp) ?_
   simp only [ls0, ls1]
   refine nilL ?_
   go_wp2_with fail
   go_ret
   exact ⟨by rw [heq.out]; rfl, hW⟩
  ·
   have hI4 : ¬ (x : Int) ≤ (y : Int) := by omega
   have heq : Hid (r = false) := Lib.hid (by rw [← hr, decide_eq_false h4])
   clear hr
   go_enter Tryd.func65, Tryd.ntmps65
   go_upto_region 0 with fail
   refine wl_lit ?_
   refine runWL 2 (.pointer (some ⟨w.heap.size, 0, none⟩)) (w.alloc (.cells (rgV s c a b) 75)) rfl (by rfl) (exec_box 75 (.tmp 0) rfl (.agg (rgV s c a b)) rfl) ?_
   simp only [ls0, ls1]
   have lw_p2 := Nat.le_trans hB0 hW.size
   have hp2 : Blk (w.alloc (.cells (rgV s c a b) 75)) w.heap.size 75 (rgV s c a b) := Blk.new _ _ _
   replace hW := hW.alloc (Nat.le_trans hB0 hW.size) (.cells (rgV s c a b) 75)
   generalize w.alloc (.cells (rgV s c a b) 75) = w7 at *
   generalize w.heap.size = p2 at hp2 lw_p2  ⊢
   refine runWL 3 (.pointer (some ⟨w7.heap.size, 0, none⟩)) (w7.alloc (.cells (rgV s2 c2 a2 b2) 75)) rfl (by rfl) (exec_box 75 (.tmp 1) rfl (.agg (rgV s2 c2 a2 b2)) rfl) ?_
   simp only [ls0, ls1]
   have lp2_p3 := hp2.lt
   have lw_p3 := Nat.le_trans hB0 hW.size
   have hp3 : Blk (w7.alloc (.cells (rgV s2 c2 a2 b2) 75)) w7.heap.size 75 (rgV s2 c2 a2 b2) := Blk.new _ _ _
   replace hp2 := hp2.alloc (.cells (rgV s2 c2 a2 b2) 75)
   replace hW := hW.alloc (Nat.le_trans hB0 hW.size) (.cells (rgV s2 c2 a2 b2) 75)
   generalize w7.alloc (.cells (rgV s2 c2 a2 b2) 75) = w8 at *
   generalize w7.heap.size = p3 at hp3 lw_p3 lp2_p3 ⊢
   refine runL 4 (.bool false) rfl (by rfl) (by go_simp) ?_
   simp only [ls0, ls1]
   refine nilL ?_
   go_upto_region 1 with fail
   refine wl_lit ?_
   refine runL 5 (.pointer (some ⟨p2, 2, none⟩)) rfl (by rfl) (by go_simp) ?_
   simp only [ls0, ls1]
   refine runL 6 (.int .u32 (((a : Nat) : Int))) rfl (by rfl) (exec_cell 38 (.tmp 5) rfl p2 2 rfl (.int .u32 (((a : Nat) : Int))) _ Tryd.underlying38 rfl (hp2.cellIs 2 rfl)) ?_
   simp only [ls0, ls1]
   refine runL 7 (.pointer (some ⟨p2, 3, none⟩)) rfl (by rfl) (by go_simp) ?_
   simp only [ls0, ls1]
   refine runL 8 (.int .u32 (((b : Nat) : Int))) rfl (by rfl) (exec_cell 38 (.tmp 7) rfl p2 3 rfl (.int .u32 (((b : Nat) : Int))) _ Tryd.underlying38 rfl (hp2.cellIs 3 rfl)) ?_
   simp only [ls0, ls1]
   refine runL 9 (.bool false) rfl (by rfl) (by go_simp) ?_
   simp only [ls0, ls1]
   refine runL 10 (.bool false) rfl (by rfl) (by go_simp) ?_
   simp only [ls0, ls1]
   refine runL 11 (.pointer (some ⟨p3, 2, none⟩)) rfl (by rfl) (by go_simp) ?_
   simp only [ls0, ls1]
   refine runL 12 (.int .u32 (((a2 : Nat) : Int))) rfl (by rfl) (exec_cell 38 (.tmp 11) rfl p3 2 rfl (.int .u32 (((a2 : Nat) : Int))) _ Tryd.underlying38 rfl (hp3.cellIs 2 rfl)) ?_
   simp only [ls0, ls1]
   refine runL 13 (.pointer (some ⟨p3, 3, none⟩)) rfl (by rfl) (by go_simp) ?_
   simp only [ls0, ls1]
   refine runL 14 (.int .u32 (((b2 : Nat) : Int))) rfl (by rfl) (exec_cell 38 (.tmp 13) rfl p3 3 rfl (.int .u32 (((b2 : Nat) : Int))) _ Tryd.underlying38 rfl (hp3.cellIs 3 rfl)) ?_
   simp only [ls0, ls1]
   refine runL 15 (.bool false) rfl (by rfl) (by go_simp) ?_
   simp only [ls0, ls1]
   refine runL 16 (.bool false) rfl (by rfl) (by go_simp) ?_
   simp only [ls0, ls1]
   refine nilL ?_
   go_upto_region 3 with fail
   refine wl_lit ?_
   refine runL 17 (.pointer (some ⟨p2, 0, none⟩)) rfl (by rfl) (by go_simp) ?_
   simp only [ls0, ls1]
   refine runL 18 (.agg (noV s c)) rfl (by rfl) (exec_mid 40 (.tmp 17) rfl p2 0 rfl (noV s c).toList _ (hp2.range 0 2) (by exact Tryd.underlying40) rfl (by kernel_rfl)) ?_
   simp only [ls0, ls1]
   refine runL 19 (.pointer (some ⟨p3, 0, none⟩)) rfl (by rfl) (by go_simp) ?_
   simp only [ls0, ls1]
   refine runL 20 (.agg (noV s2 c2)) rfl (by rfl) (exec_mid 40 (.tmp 19) rfl p3 0 rfl (noV s2 c2).toList _ (hp3.range 0 2) (by exact Tryd.underlying40) rfl (by kernel_rfl)) ?_
   simp only [ls0, ls1]
   refine runL 21 (.bool true) rfl (by rfl) (exec_eqV 40 (by kernel_rfl) (.tmp 18) (.tmp 20) _ rfl (noV s c) (noV s2 c2) rfl rfl true (by rw [hno]; rw [hnq.out])) ?_
   simp only [ls0, ls1]
   refine runL 22 (.bool true) rfl (by rfl) (by go_simp) ?_
   simp only [ls0, ls1]
   refine runL 23 (.pointer (some ⟨p2, 2, none⟩)) rfl (by rfl) (by go_simp) ?_
   simp only [ls0, ls1]
   refine runL 24 (.int .u32 (((a : Nat) : Int))) rfl (by rfl) (exec_cell 38 (.tmp 23) rfl p2 2 rfl (.int .u32 (((a : Nat) : Int))) _ Tryd.underlying38 rfl (hp2.cellIs 2 rfl)) ?_
   simp only [ls0, ls1]
   refine runL 25 (.pointer (some ⟨p3, 2, none⟩)) rfl (by rfl) (by go_simp) ?_
   simp only [ls0, ls1]
   refine runL 26 (.int .u32 (((a2 : Nat) : Int))) rfl (by rfl) (exec_cell 38 (.tmp 25) rfl p3 2 rfl (.int .u32 (((a2 : Nat) : Int))) _ Tryd.underlying38 rfl (hp3.cellIs 2 rfl)) ?_
   simp only [ls0, ls1]
   refine runL 27 (.int .u32 ((x : Nat) : Int)) rfl (by rfl) (by go_simp) ?_
   simp only [ls0, ls1]
   refine runL 28 (.pointer (some ⟨p2, 3, none⟩)) rfl (by rfl) (by go_simp) ?_
   simp only [ls0, ls1]
   refine runL 29 (.int .u32 (((b : Nat) : Int))) rfl (by rfl) (exec_cell 38 (.tmp 28) rfl p2 3 rfl (.int .u32 (((b : Nat) : Int))) _ Tryd.underlying38 rfl (hp2.cellIs 3 rfl)) ?_
   simp only [ls0, ls1]
   refine runL 30 (.pointer (some ⟨p3, 3, none⟩)) rfl (by rfl) (by go_simp) ?_
   simp only [ls0, ls1]
   refine runL 31 (.int .u32 (((b2 : Nat) : Int))) rfl (by rfl) (exec_cell 38 (.tmp 30) rfl p3 3 rfl (.int .u32 (((b2 : Nat) : Int))) _ Tryd.underlying38 rfl (hp3.cellIs 3 rfl)) ?_
   simp only [ls0, ls1]
   refine runL 32 (.int .u32 ((y : Nat) : Int)) rfl (by rfl) (by go_simp) ?_
   simp only [ls0, ls1]
   refine runL 33 (.bool false) rfl (by rfl) (by go_simp) ?_
   simp only [ls0, ls1]
   refine runL 34 (.bool false) rfl (by rfl) (by go_simp) ?_
   simp only [ls0, ls1]
   refine runL 4 (.bool false) rfl (by rfl) (by go_simp) ?_
   simp only [ls0, ls1]
   refine nilL ?_
   go_wp2_with fail
   go_ret
   exact ⟨by rw [heq.out]; rfl, hW⟩
 ·
  have hnq := Lib.hid (decide_eq_false h3)
  have heq : Hid (r = false) := Lib.hid (by rw [← hr, decide_eq_false h3]; rfl)
  clear hr h3
  go_enter Tryd.func65, Tryd.ntmps65
  go_upto_region 0 with fail
  refine wl_lit ?_
  refine runWL 2 (.pointer (some ⟨w.heap.size, 0, none⟩)) (w.alloc (.cells (rgV s c a b) 75)) rfl (by rfl) (exec_box 75 (.tmp 0) rfl (.agg (rgV s c a b)) rfl) ?_
  simp only [ls0, ls1]
  have lw_p2 := Nat.le_trans hB0 hW.size
  have hp2 : Blk (w.alloc (.cells (rgV s c a b) 75)) w.heap.size 75 (rgV s c a b) := Blk.new _ _ _
  replace hW := hW.alloc (Nat.le_trans hB0 hW.size) (.cells (rgV s c a b) 75)
  generalize w.alloc (.cells (rgV s c a b) 75) = w9 at *
  generalize w.heap.size = p2 at hp2 lw_p2  ⊢
  refine runWL 3 (.pointer (some ⟨w9.heap.size, 0, none⟩)) (w9.alloc (.cells (rgV s2 c2 a2 b2) 75)) rfl (by rfl) (exec_box 75 (.tmp 1) rfl (.agg (rgV s2 c2 a2 b2)) rfl) ?_
  simp only [ls0, ls1]
  have lp2_p3 := hp2.lt
  have lw_p3 := Nat.le_trans hB0 hW.size
  have hp3 : Blk (w9.alloc (.cells (rgV s2 c2 a2 b2) 75)) w9.heap.size 75 (rgV s2 c2 a2 b2) := Blk.new _ _ _
  replace hp2 := hp2.alloc (.cells (rgV s2 c2 a2 b2) 75)
  replace hW := hW.alloc (Nat.le_trans hB0 hW.size) (.cells (rgV s2 c2 a2 b2) 75)
  generalize w9.alloc (.cells (rgV s2 c2 a2 b2) 75) = w10 at *
  generalize w9.heap.size = p3 at hp3 lw_p3 lp2_p3 ⊢
  refine runL 4 (.bool false) rfl (by rfl) (by go_simp) ?_
  simp only [ls0, ls1]
  refine nilL ?_
  go_upto_region 1 with fail
  refine wl_lit ?_
  refine runL 5 (.pointer (some ⟨p2, 2, none⟩)) rfl (by rfl) (by go_simp) ?_
  simp only [ls0, ls1]
  refine runL 6 (.int .u32 (((a : Nat) : Int))) rfl (by rfl) (exec_cell 38 (.tmp 5) rfl p2 2 rfl (.int .u32 (((a : Nat) : Int))) _ Tryd.underlying38 rfl (hp2.cellIs 2 rfl)) ?_
  simp only [ls0, ls1]
  refine runL 7 (.pointer (some ⟨p2, 3, none⟩)) rfl (by rfl) (by go_simp) ?_
  simp only [ls0, ls1]
  refine runL 8 (.int .u32 (((b : Nat) : Int))) rfl (by rfl) (exec_cell 38 (.tmp 7) rfl p2 3 rfl (.int .u32 (((b : Nat) : Int))) _ Tryd.underlying38 rfl (hp2.cellIs 3 rfl)) ?_
  simp only [ls0, ls1]
  refine runL 9 (.bool false) rfl (by rfl) (by go_simp) ?_
  simp only [ls0, ls1]
  refine runL 10 (.bool false) rfl (by rfl) (by go_simp) ?_
  simp only [ls0, ls1]
  refine runL 11 (.pointer (some ⟨p3, 2, none⟩)) rfl (by rfl) (by go_simp) ?_
  simp only [ls0, ls1]
  refine runL 12 (.int .u32 (((a2 : Nat) : Int))) rfl (by rfl) (exec_cell 38 (.tmp 11) rfl p3 2 rfl (.int .u32 (((a2 : Nat) : Int))) _ Tryd.underlying38 rfl (hp3.cellIs 2 rfl)) ?_
  simp only [ls0, ls1]
  refine runL 13 (.pointer (some ⟨p3, 3, none⟩)) rfl (by rfl) (by go_simp) ?_
  simp only [ls0, ls1]
  refine runL 14 (.int .u32 (((b2 : Nat) : Int))) rfl (by rfl) (exec_cell 38 (.tmp 13) rfl p3 3 rfl (.int .u32 (((b2 : Nat) : Int))) _ Tryd.underlying38 rfl (hp3.cellIs 3 rfl)) ?_
  simp only [ls0, ls1]
  refine runL 15 (.bool false) rfl (by rfl) (by go_simp) ?_
  simp only [ls0, ls1]
  refine runL 16 (.bool false) rfl (by rfl) (by go_simp) ?_
  simp only [ls0, ls1]
  refine nilL ?_
  go_upto_region 3 with fail
  refine wl_lit ?_
  refine runL 17 (.pointer (some ⟨p2, 0, none⟩)) rfl (by rfl) (by go_simp) ?_
  simp only [ls0, ls1]
  refine runL 18 (.agg (noV s c)) rfl (by rfl) (exec_mid 40 (.tmp 17) rfl p2 0 rfl (noV s c).toList _ (hp2.range 0 2) (by exact Tryd.underlying40) rfl (by kernel_rfl)) ?_
  simp only [ls0, ls1]
  refine runL 19 (.pointer (some ⟨p3, 0, none⟩)) rfl (by rfl) (by go_simp) ?_
  simp only [ls0, ls1]
  refine runL 20 (.agg (noV s2 c2)) rfl (by rfl) (exec_mid 40 (.tmp 19) rfl p3 0 rfl (noV s2 c2).toList _ (hp3.range 0 2) (by exact Tryd.underlying40) rfl (by kernel_rfl)) ?_
  simp only [ls0, ls1]
  refine runL 21 (.bool false) rfl (by rfl) (exec_eqV 40 (by kernel_rfl) (.tmp 18) (.tmp 20) _ rfl (noV s c) (noV s2 c2) rfl rfl false (by rw [hno]; rw [hnq.out])) ?_
  simp only [ls0, ls1]
  refine runL 22 (.bool false) rfl (by rfl) (by go_simp) ?_
  simp only [ls0, ls1]
  refine skipL 23 rfl (by kernel_rfl) ?_
  simp only [ls0, ls1]
  refine skipL 24 rfl (by kernel_rfl) ?_
  simp only [ls0, ls1]
  refine skipL 25 rfl (by kernel_rfl) ?_
  simp only [ls0, ls1]
  refine skipL 26 rfl (by kernel_rfl) ?_
  simp only [ls0, ls1]
  refine skipL 27 rfl (by kernel_rfl) ?_
  simp only [ls0, ls1]
  refine skipL 28 rfl (by kernel_rfl) ?_
  simp only [ls0, ls1]
  refine skipL 29 rfl (by kernel_rfl) ?_
  simp only [ls0, ls1]
  refine skipL 30 rfl (by kernel_rfl) ?_
  simp only [ls0, ls1]
  refine skipL 31 rfl (by kernel_rfl) ?_
  simp only [ls0, ls1]
  refine skipL 32 rfl (by kernel_rfl) ?_
  simp only [ls0, ls1]
  refine skipL 33 rfl (by kernel_rfl) ?_
  simp only [ls0, ls1]
  refine runL 34 (.bool false) rfl (by rfl) (by go_simp) ?_
  simp only [ls0, ls1]
  refine runL 4 (.bool false) rfl (by rfl) (by go_simp) ?_
  simp only [ls0, ls1]
  refine nilL ?_
  go_wp2_with fail
  go_ret
  exact ⟨by rw [heq.out]; rfl, hW⟩
end Go.Proofs.YtcdgcaljlmondaaDoor
/-
  What streams.Xor computes, byte by byte: plain law, no program in sight.
-/
namespace Go.Proofs.YtcdgcaljlmondaaDoor
set_option maxRecDepth 16384
open Sh
/-- byte i of the data with the key stream from f on -/
def xb (key : List Nat) (s c f : Nat) (d : List Nat) (i : Nat) : Nat := d.getD i 0 ^^^ (sbl key s c ((f + i) / 16)).getD ((f + i) % 16) 0
/-- the first k bytes done -/
def xmix (key : List Nat) (s c f : Nat) (d : List Nat) (k : Nat) : List Nat := (List.range d.length).map fun i => if i < k then xb key s c f d i else d.getD i 0
def kxor (key : List Nat) (s c f : Nat) (d : List Nat) : List Nat := (List.range d.length).map (xb key s c f d)
section
variable {key : List Nat} {s c f : Nat} {d : List Nat}
theorem xmix_len (k : Nat) : (xmix key s c f d k).length = d.length := by simp [xmix]
theorem kxor_len : (kxor key s c f d).length = d.length := by simp [kxor]
theorem xmix_get {k i : Nat} (hi : i < d.length) : (xmix key s c f d k).getD i 0 = if i < k then xb key s c f d i else d.getD i 0 := by
 simp [xmix, List.getD_eq_getElem?_getD, hi]
theorem xmix_zero : xmix key s c f d 0 = d := by
 apply List.ext_getElem (by simp [xmix])
 intro i h1 h2
 simp [xmix, List.getD_eq_getElem?_getD, h2]
theorem xmix_all {k : Nat} (h : d.length ≤ k) : xmix key s c f d k = kxor key s c f d := by
 apply List.map_congr_left
 intro i hi
 have := List.mem_range.1 hi
 simp [show i < k by omega]
theorem xmix_step {k : Nat} (_hk : k < d.length) : (xmix key s c f d k).set k (xb key s c f d k) = xmix key s c f d (k + 1) := by
  apply List.ext_getElem (by simp [xmix])
  intro i h1 h2
  have hi : i < d.length := by simpa [xmix] using h2
  rw [List.getElem_set]
  by_cases e : k = i
  · subst e; simp [xmix]
  · simp only [xmix, List.getElem_map, List.getElem_range, if_neg e]
    by_cases hl : i < k
    · simp [hl, show i < k + 1 by omega]
    · simp [hl, show ¬ i < k + 1 by omega]
/-- done twice it is undone -/
theorem kxor_twice : kxor key s c f (kxor key s c f d) = d := by
 apply List.ext_getElem (by simp [kxor])
 intro i h1 h2
 simp [kxor, xb, List.getD_eq_getElem?_getD, h2, Nat.xor_assoc]
end
theorem sbl_byt (key : List Nat) (s c k : Nat) (hkb : Byt key) : Byt (sbl key s c k) := Ci.encS_byt (Ci.exL_byt hkb) (cbl_byt _ _ _) 10
theorem xb_byt {key : List Nat} {s c f : Nat} {d : List Nat} (hkb : Byt key) (hdb : Byt d) (i : Nat) : xb key s c f d i < 256 := Nat.xor_lt_two_pow (n := 8) (hdb.get i) ((sbl_byt key s c _ hkb).get _)
theorem kxor_byt {key : List Nat} {s c f : Nat} {d : List Nat} (hkb : Byt key) (hdb : Byt d) : Byt (kxor key s c f d) := Ci.byt_map fun i _ => xb_byt hkb hdb i
end Go.Proofs.YtcdgcaljlmondaaDoor
/-
  Regions inside a round of a range over a function, taken by hand: what is shown of them in the plain calculus serves there.
-/
namespace Go.Proofs.YtcdgcaljlmondaaDoor
set_option maxRecDepth 16384
open Go.RowKit

def noDefer (o : Oper) : Bool := match o.op with | .defer _ => false | _ => true
section
variable {P : Program} {n r : Nat}
theorem opIn_round {o : Oper} {a : Act} {w : World} {K K' : Act → World → Prop} {Q : Exit → Act → World → Prop} (hd : noDefer o = true) (hK : ∀ a w, K a w → K' a w) (h : o.wp P a w K Q) : o.wpIn (Fence.wide.inRound r) n P a w K' Q := by
 refine ⟨fun _ _ => trivial, ?_⟩
 show o.uponIn (Fence.wide.inRound r) n P a K' Q ((o.semAt (some r) a.eval).run P w)
 rw [Oper.semAt_some r a.eval o (fun c hc => by rw [noDefer, hc] at hd; cases hd)]
 unfold Oper.wp at h
 generalize (execOp a.eval o).run P w = x at *
 cases x with
 | ok x w' =>
  cases x <;> simp only [Oper.upon, Oper.uponIn] at h ⊢
  case value u => exact hK _ _ h
  case skip => exact hK _ _ h
  case defer d => exact hK _ _ h
  case enter f args =>
   refine ⟨fun h => by simp [Fence.wide] at h, CallsIn.inRound r (callsIn_wide.2 (h.mono fun e w'' he => ?_))⟩
   cases e with
   | returned u => exact hK _ _ he
   | panicked c => exact he
   | outgrown => exact he
  case row row args =>
   exact ⟨fun h => by simp [Fence.wide] at h, fun c cs _ => let ⟨v, w2, r, s⟩ := h c cs; ⟨v, w2, hK _ _ r, stepsIn_wide.2 s⟩⟩
 | halt x w' =>
  cases x <;> simp only [Oper.upon, Oper.uponIn] at h ⊢
  case panic u => exact h

theorem listIn_of {ops : Array Oper} {Q : Exit → Act → World → Prop} (hlet : ¬ LetsOut Q) : ∀ (l : List Oper) (a : Act) (w : World), l.all noDefer = true → wpList P ops Q l a w → wpListIn (Fence.wide.inRound r) n P ops Q l a w
  | [], _, _, _, h => h
  | o :: l, a, w, hn, h => by
    rw [List.all_cons, Bool.and_eq_true] at hn
    unfold wpList at h
    unfold wpListIn
    by_cases hw : Region.wanted o (yielded ops a.tmps) = true
    · rw [if_pos hw] at h ⊢
      rcases h with h | h
      · exact opIn_round hn.1 (fun a w hh => listIn_of hlet l a w hn.2 hh) h
      · exact absurd h.2 hlet
    · rw [if_neg hw] at h ⊢
      exact ⟨fun _ _ => trivial, listIn_of hlet l _ w hn.2 h⟩
theorem wl_litIn {id : Nat} {l : List Oper} {Q : Exit → Act → World → Prop} {a : Act} {w : World} (hn : l.all noDefer = true) (hlet : ¬ LetsOut Q) (h : WL P l.toArray Q l a w) :
  (Code.region id l.toArray false).wpIn (Fence.wide.inRound r) n P Q a w := wpIn_region_lit (listIn_of hlet l a w hn h.out)

/-- the same, the exits of the region's own taken apart: for a region that has none -/
theorem opIn_round2 {o : Oper} {a : Act} {w : World} {K K' : Act → World → Prop} {Q : Exit → Act → World → Prop} (hd : noDefer o = true) (hK : ∀ a w, K a w → K' a w) (h : o.wp P a w K (Exit.then (fun a w => Q .normal a w) (fun _ _ _ => False))) : o.wpIn (Fence.wide.inRound r) n P a w K' Q := by
 refine ⟨fun _ _ => trivial, ?_⟩
 show o.uponIn (Fence.wide.inRound r) n P a K' Q ((o.semAt (some r) a.eval).run P w)
 rw [Oper.semAt_some r a.eval o (fun c hc => by rw [noDefer, hc] at hd; cases hd)]
 unfold Oper.wp at h
 generalize (execOp a.eval o).run P w = x at *
 cases x with
 | ok x w' =>
  cases x <;> simp only [Oper.upon, Oper.uponIn] at h ⊢
  case value u => exact hK _ _ h
  case skip => exact hK _ _ h
  case defer d => exact hK _ _ h
  case enter f args =>
   refine ⟨fun h => by simp [Fence.wide] at h, CallsIn.inRound r (callsIn_wide.2 (h.mono fun e w'' he => ?_))⟩
   cases e with
   | returned u => exact hK _ _ he
   | panicked c => exact he.elim
   | outgrown => obtain ⟨_, _, hh⟩ := he; exact hh.elim
  case row row args =>
   exact ⟨fun h => by simp [Fence.wide] at h, fun c cs _ => let ⟨v, w2, r, s⟩ := h c cs; ⟨v, w2, hK _ _ r, stepsIn_wide.2 s⟩⟩
 | halt x w' =>
  cases x <;> simp only [Oper.upon, Oper.uponIn] at h ⊢
  case panic u => exact h.elim
theorem listIn_round {ops : Array Oper} {Q : Exit → Act → World → Prop} : ∀ (l : List Oper) (a : Act) (w : World), l.all noDefer = true → wpList P ops (Exit.then (fun a w => Q .normal a w) (fun _ _ _ => False)) l a w → wpListIn (Fence.wide.inRound r) n P ops Q l a w
  | [], _, _, _, h => h
  | o :: l, a, w, hn, h => by
    rw [List.all_cons, Bool.and_eq_true] at hn
    unfold wpList at h
    unfold wpListIn
    by_cases hw : Region.wanted o (yielded ops a.tmps) = true
    · rw [if_pos hw] at h ⊢
      rcases h with h | h
      · exact opIn_round2 hn.1 (fun a w hh => listIn_round l a w hn.2 hh) h
      · obtain ⟨_, _, hh⟩ := h.2
        exact hh.elim
    · rw [if_neg hw] at h ⊢
      exact ⟨fun _ _ => trivial, listIn_round l _ w hn.2 h⟩
theorem wl_round {id : Nat} {l : List Oper} {Q : Exit → Act → World → Prop} {a : Act} {w : World} (hn : l.all noDefer = true) (h : WL P l.toArray (Exit.then (fun a w => Q .normal a w) (fun _ _ _ => False)) l a w) :
  (Code.region id l.toArray false).wpIn (Fence.wide.inRound r) n P Q a w := wpIn_region_lit (listIn_round l a w hn h.out)
theorem anyIn_round {md : Region.Mode} {ops : Array Oper} {Q : Exit → Act → World → Prop} (hn : ops.all noDefer = true) :
    ∀ (fuel : Nat) (listed : Array Bool) (a : Act) (w : World), wpAny P md ops (Exit.then (fun a w => Q .normal a w) (fun _ _ _ => False)) fuel listed a w → wpAnyIn (Fence.wide.inRound r) n P md ops Q fuel listed a w := by
  intro fuel
  induction fuel with
  | zero => exact fun _ _ _ h => h
  | succ f ih =>
    intro listed a w h
    refine ⟨h.1, fun i hi => ?_⟩
    have h2 := h.2 i hi
    unfold wpOp at h2
    unfold wpOpIn
    cases ho : ops[i]? with
    | none => rw [ho] at h2; exact ih _ _ _ h2
    | some o =>
      rw [ho] at h2
      simp only at h2 ⊢
      have hno : noDefer o = true := by
        have := Array.all_eq_true_iff_forall_mem.1 hn o (Array.mem_of_getElem? ho)
        exact this
      by_cases hw : Region.wanted o (yielded ops a.tmps) = true
      · rw [if_pos hw] at h2 ⊢
        rcases h2 with h2 | h2
        · exact opIn_round2 hno (fun a w hh => ih _ a w hh) h2
        · obtain ⟨_, _, hh⟩ := h2.2
          exact hh.elim
      · rw [if_neg hw] at h2 ⊢
        exact ⟨fun _ _ => trivial, ih _ _ _ h2⟩
theorem wl_anyRound {ops : Array Oper} {Q : Exit → Act → World → Prop} {S : World → Prop} {id : Nat} {a : Act} {w : World} (hn : ops.all noDefer = true) (hm : P.follows .mixedOrders = true) (hS : S w.drew)
  (h : S w.drew → wpAnyH P .any ops (Exit.then (fun a w => Q .normal a w) (fun _ _ _ => False)) S ops.size (Array.replicate ops.size false) a w.drew) : (Code.region id ops true).wpIn (Fence.wide.inRound r) n P Q a w :=
 wpIn_region_any hm (anyIn_round hn _ _ _ _ (wpAny_of_held _ _ _ _ (h hS)))
theorem notOut_false {K : Act → World → Prop} : ¬ LetsOut (Exit.then K (fun _ _ _ => False)) := fun ⟨_, _, h⟩ => h
end
end Go.Proofs.YtcdgcaljlmondaaDoor
