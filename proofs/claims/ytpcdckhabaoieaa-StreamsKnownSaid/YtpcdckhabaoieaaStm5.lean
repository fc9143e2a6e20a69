/-
  The walk of caissonlaw07.lives. (Printed by mk07.py.)
-/
import Derived.Test.YtpcdckhabaoieaaStm2
import Derived.Test.YtpcdckhabaoieaaZF
namespace Go.Proofs.Ytpcdckhabaoieaa
open Go.RowKit Sh

def kAes : List Nat := [43, 126, 21, 22, 40, 174, 210, 166, 171, 247, 21, 136, 9, 207, 79, 60]
def eAes : List Nat := [236, 140, 223, 115, 152, 96, 124, 176, 242, 210, 22, 117, 234, 158, 161, 228]
def sN : Nat := 4042388211
def cN : Nat := 17651285859443014395
theorem byt_kAes : Byt kAes := fun x hx => by
  have h : kAes.all (· < 256) = true := by decide
  rw [List.all_eq_true] at h; simpa using h x hx
theorem sbl_aes : sbl kAes sN cN 4244504319 = eAes := by decide +kernel
theorem sblock_to (key : List Nat) (s c k : Nat) (E : List Nat) (hE : sbl key s c k = E) (hkl : key.length = 16) (hkb : Byt key) (hs : s < 4294967296) (hk : k < 4294967296) (w : World) :
    Calls Try.prog 9 #[.agg (va .u8 key), .agg (noV s c), .int .u32 (k : Int)] w fun e w' => e = .returned (.agg (va .u8 E)) ∧ Below w.heap.size w w' := by
  subst hE; exact sblock_any key s c k hkl hkb hs hk w
theorem lov (s c a b s2 c2 a2 b2 : Nat) (r : Bool) (hr : ovl s c a b s2 c2 a2 b2 = r) (w : World) : Calls Try.prog 14 #[.agg (rgV s c a b), .agg (rgV s2 c2 a2 b2)] w fun e' w' => e' = .returned (.bool r) ∧ Below w.heap.size w w' := overlap_any s c a b s2 c2 a2 b2 r hr w

set_option maxRecDepth 8000 in
set_option maxHeartbeats 2000000 in
theorem lives_any7 (w : World) : Calls Try.prog 11 #[] w fun e w' => e = .returned (.bool true) ∧ Below w.heap.size w w' := by
  obtain ⟨B0, hB0e⟩ : ∃ b, w.heap.size = b := ⟨_, rfl⟩
  rw [hB0e]
  have hW : Below B0 w w := by rw [← hB0e]; exact Below.refl _ _
  have hB0 : B0 ≤ w.heap.size := by omega
  have hB0q := Lib.hid hB0e
  clear hB0e
  go_enter Try.func11, Try.ntmps11
  go_upto_region 0 with fail
  refine wl_lit ?_
  refine runL 0 (.bool false) rfl (by rfl) (by go_simp) ?_
  simp only [List.set_cons_zero]
  refine nilL ?_
  go_upto_region 1 with fail
  refine wl_lit ?_
  refine runL 5 (.agg (va .u8 (kAes))) rfl (by rfl) (exec_build 22 _ rfl (va .u8 (kAes)) (by kernel_rfl)) ?_
  simp only [List.set_cons_zero, List.set_cons_succ]
  refine runWL 1 (.pointer (some ⟨w.heap.size, 0, none⟩)) (w.alloc (.cells (va .u8 (List.replicate 16 0)) 22)) rfl (by rfl) (exec_allocV 22 rfl _ (zv__16_uint8 _)) ?_
  simp only [List.set_cons_zero, List.set_cons_succ]
  have lw_p1 := Nat.le_trans hB0 hW.size
  have hp1 : Blk (w.alloc (.cells (va .u8 (List.replicate 16 0)) 22)) w.heap.size 22 (va .u8 (List.replicate 16 0)) := Blk.new _ _ _
  replace hW := hW.alloc (Nat.le_trans hB0 hW.size) (.cells (va .u8 (List.replicate 16 0)) 22)
  generalize w.alloc (.cells (va .u8 (List.replicate 16 0)) 22) = w1 at *
  generalize w.heap.size = p1 at hp1 lw_p1  ⊢
  refine runSL (w1.setRow p1 (va .u8 (kAes))) rfl (by rfl) (exec_storeRow 22 (.tmp 1) (.tmp 5) rfl p1 rfl (va .u8 (kAes)) rfl 22 (va .u8 (List.replicate 16 0)) hp1 (sz_eq (sz__16_uint8 _ (List.length_replicate)) (sz__16_uint8 _ (rfl))) (sz__16_uint8 _ (rfl)) (va_ones .u8 _)) ?_
  replace hp1 := hp1.row (va .u8 (kAes))
  replace hW := below_setRow hW lw_p1 (va .u8 (kAes))
  generalize w1.setRow p1 (va .u8 (kAes)) = w2 at *
  refine nilL ?_
  go_upto_region 2 with fail
  refine wl_lit ?_
  refine runL 6 (.agg (noV sN cN)) rfl (by rfl) (exec_build 26 _ rfl (noV sN cN) (by kernel_rfl)) ?_
  simp only [List.set_cons_zero, List.set_cons_succ]
  refine runWL 2 (.pointer (some ⟨w2.heap.size, 0, none⟩)) (w2.alloc (.cells (noV 0 0) 26)) rfl (by rfl) (exec_allocV 26 rfl _ (zv_Nonce _)) ?_
  simp only [List.set_cons_zero, List.set_cons_succ]
  have lp1_p2 := hp1.lt
  have lw_p2 := Nat.le_trans hB0 hW.size
  have hp2 : Blk (w2.alloc (.cells (noV 0 0) 26)) w2.heap.size 26 (noV 0 0) := Blk.new _ _ _
  replace hp1 := hp1.alloc (.cells (noV 0 0) 26)
  replace hW := hW.alloc (Nat.le_trans hB0 hW.size) (.cells (noV 0 0) 26)
  generalize w2.alloc (.cells (noV 0 0) 26) = w3 at *
  generalize w2.heap.size = p2 at hp2 lw_p2 lp1_p2 ⊢
  refine runSL (w3.setRow p2 (noV sN cN)) rfl (by rfl) (exec_storeRow 26 (.tmp 2) (.tmp 6) rfl p2 rfl (noV sN cN) rfl 26 (noV 0 0) hp2 (sz_eq (noV_sz _ _) (noV_sz _ _)) (noV_sz _ _) (noV_one _ _)) ?_
  replace hp1 := hp1.rowFar (show p2 ≠ p1 from (by omega)) (noV sN cN)
  replace hp2 := hp2.row (noV sN cN)
  replace hW := below_setRow hW lw_p2 (noV sN cN)
  generalize w3.setRow p2 (noV sN cN) = w4 at *
  refine nilL ?_
  go_upto_region 3 with fail
  refine wl_lit ?_
  refine runL 7 (.agg (va .u8 (kAes))) rfl (by rfl) (exec_row 22 (.tmp 1) rfl p1 rfl 22 (va .u8 (kAes)) _ hp1 (by exact Try.underlying22) rfl (sz__16_uint8 _ (rfl))) ?_
  simp only [List.set_cons_zero, List.set_cons_succ]
  refine runL 8 (.agg (noV sN cN)) rfl (by rfl) (exec_row 26 (.tmp 2) rfl p2 rfl 26 (noV sN cN) _ hp2 (by exact Try.underlying26) rfl (noV_sz _ _)) ?_
  simp only [List.set_cons_zero, List.set_cons_succ]
  refine callL 9 rfl (by rfl) (fun K hK => wp_callF 9 #[.agg (va .u8 (kAes)), .agg (noV sN cN), .int .u32 4244504319] (by go_simp) (sblock_to kAes sN cN 4244504319 eAes sbl_aes rfl byt_kAes (by decide) (by decide) _) ?_)
  rintro e w5 ⟨rfl, bx⟩
  replace hp1 := hp1.below bx hp1.lt
  replace hp2 := hp2.below bx hp2.lt
  replace hW := hW.trans (bx.mono (Nat.le_trans hB0 hW.size))
  clear bx
  refine ⟨_, rfl, hK.out _ _ ?_⟩
  clear hK K
  simp only [List.set_cons_zero, List.set_cons_succ]
  refine runL 10 (.agg (va .u8 (eAes))) rfl (by rfl) (exec_build 22 _ rfl (va .u8 (eAes)) (by kernel_rfl)) ?_
  simp only [List.set_cons_zero, List.set_cons_succ]
  refine runL 11 (.bool false) rfl (by rfl) (exec_neB 22 16 (by kernel_rfl) (by kernel_rfl) (.tmp 9) (.tmp 10) _ rfl (eAes) (eAes) (rfl) (rfl) rfl rfl false (by simp)) ?_
  simp only [List.set_cons_zero, List.set_cons_succ]
  refine nilL ?_
  go_upto_region 5 with fail
  refine wl_lit ?_
  refine runL 12 (.agg (noV sN cN)) rfl (by rfl) (exec_row 26 (.tmp 2) rfl p2 rfl 26 (noV sN cN) _ hp2 (by exact Try.underlying26) rfl (noV_sz _ _)) ?_
  simp only [List.set_cons_zero, List.set_cons_succ]
  refine runL 13 (.agg (r2V 0 1)) rfl (by rfl) (exec_build 33 _ rfl (r2V 0 1) (by kernel_rfl)) ?_
  simp only [List.set_cons_zero, List.set_cons_succ]
  refine callL 14 rfl (by rfl) (fun K hK => wp_callF 12 #[.agg (noV sN cN), .int .i64 0, .int .i64 32, .agg (r2V 0 1), .int .i64 0] (by go_simp) (lawused_ok sN cN 0 1 0 32 (used_ok sN cN 0 32 0 1 (by omega) (by omega) rfl rfl) _) ?_)
  rintro e w6 ⟨rfl, bx⟩
  replace hp1 := hp1.below bx hp1.lt
  replace hp2 := hp2.below bx hp2.lt
  replace hW := hW.trans (bx.mono (Nat.le_trans hB0 hW.size))
  clear bx
  refine ⟨_, rfl, hK.out _ _ ?_⟩
  clear hK K
  simp only [List.set_cons_zero, List.set_cons_succ]
  refine runL 15 (.bool false) rfl (by rfl) (by go_simp) ?_
  simp only [List.set_cons_zero, List.set_cons_succ]
  refine runL 16 (.bool false) rfl (by rfl) (by go_simp) ?_
  simp only [List.set_cons_zero, List.set_cons_succ]
  refine runL 17 (.agg (noV sN cN)) rfl (by rfl) (exec_row 26 (.tmp 2) rfl p2 rfl 26 (noV sN cN) _ hp2 (by exact Try.underlying26) rfl (noV_sz _ _)) ?_
  simp only [List.set_cons_zero, List.set_cons_succ]
  refine runL 18 (.agg (r2V 0 1)) rfl (by rfl) (exec_build 33 _ rfl (r2V 0 1) (by kernel_rfl)) ?_
  simp only [List.set_cons_zero, List.set_cons_succ]
  refine callL 19 rfl (by rfl) (fun K hK => wp_callF 12 #[.agg (noV sN cN), .int .i64 15, .int .i64 2, .agg (r2V 0 1), .int .i64 0] (by go_simp) (lawused_ok sN cN 0 1 15 2 (used_ok sN cN 15 2 0 1 (by omega) (by omega) rfl rfl) _) ?_)
  rintro e w7 ⟨rfl, bx⟩
  replace hp1 := hp1.below bx hp1.lt
  replace hp2 := hp2.below bx hp2.lt
  replace hW := hW.trans (bx.mono (Nat.le_trans hB0 hW.size))
  clear bx
  refine ⟨_, rfl, hK.out _ _ ?_⟩
  clear hK K
  simp only [List.set_cons_zero, List.set_cons_succ]
  refine runL 20 (.bool false) rfl (by rfl) (by go_simp) ?_
  simp only [List.set_cons_zero, List.set_cons_succ]
  refine runL 21 (.bool false) rfl (by rfl) (by go_simp) ?_
  simp only [List.set_cons_zero, List.set_cons_succ]
  refine runL 22 (.bool false) rfl (by rfl) (by go_simp) ?_
  simp only [List.set_cons_zero, List.set_cons_succ]
  refine runL 23 (.agg (noV sN cN)) rfl (by rfl) (exec_row 26 (.tmp 2) rfl p2 rfl 26 (noV sN cN) _ hp2 (by exact Try.underlying26) rfl (noV_sz _ _)) ?_
  simp only [List.set_cons_zero, List.set_cons_succ]
  refine runL 24 (.agg (r2V 1 1)) rfl (by rfl) (exec_build 33 _ rfl (r2V 1 1) (by kernel_rfl)) ?_
  simp only [List.set_cons_zero, List.set_cons_succ]
  refine callL 25 rfl (by rfl) (fun K hK => wp_callF 12 #[.agg (noV sN cN), .int .i64 16, .int .i64 16, .agg (r2V 1 1), .int .i64 0] (by go_simp) (lawused_ok sN cN 1 1 16 16 (used_ok sN cN 16 16 1 1 (by omega) (by omega) rfl rfl) _) ?_)
  rintro e w8 ⟨rfl, bx⟩
  replace hp1 := hp1.below bx hp1.lt
  replace hp2 := hp2.below bx hp2.lt
  replace hW := hW.trans (bx.mono (Nat.le_trans hB0 hW.size))
  clear bx
  refine ⟨_, rfl, hK.out _ _ ?_⟩
  clear hK K
  simp only [List.set_cons_zero, List.set_cons_succ]
  refine runL 26 (.bool false) rfl (by rfl) (by go_simp) ?_
  simp only [List.set_cons_zero, List.set_cons_succ]
  refine runL 27 (.bool false) rfl (by rfl) (by go_simp) ?_
  simp only [List.set_cons_zero, List.set_cons_succ]
  refine runL 28 (.bool false) rfl (by rfl) (by go_simp) ?_
  simp only [List.set_cons_zero, List.set_cons_succ]
  refine runL 29 (.agg (noV sN cN)) rfl (by rfl) (exec_row 26 (.tmp 2) rfl p2 rfl 26 (noV sN cN) _ hp2 (by exact Try.underlying26) rfl (noV_sz _ _)) ?_
  simp only [List.set_cons_zero, List.set_cons_succ]
  refine runL 30 (.agg (r2V 0 0)) rfl (by rfl) (exec_build 33 _ rfl (r2V 0 0) (by kernel_rfl)) ?_
  simp only [List.set_cons_zero, List.set_cons_succ]
  refine callL 31 rfl (by rfl) (fun K hK => wp_callF 12 #[.agg (noV sN cN), .int .i64 0, .int .i64 0, .agg (r2V 0 0), .int .i64 16] (by go_simp) (lawused_bad sN cN 0 0 0 0 16 (by decide) (used_none sN cN 0 (by decide) (by decide)) _) ?_)
  rintro e w9 ⟨rfl, bx⟩
  replace hp1 := hp1.below bx hp1.lt
  replace hp2 := hp2.below bx hp2.lt
  replace hW := hW.trans (bx.mono (Nat.le_trans hB0 hW.size))
  clear bx
  refine ⟨_, rfl, hK.out _ _ ?_⟩
  clear hK K
  simp only [List.set_cons_zero, List.set_cons_succ]
  refine runL 32 (.bool false) rfl (by rfl) (by go_simp) ?_
  simp only [List.set_cons_zero, List.set_cons_succ]
  refine runL 33 (.bool false) rfl (by rfl) (by go_simp) ?_
  simp only [List.set_cons_zero, List.set_cons_succ]
  refine runL 34 (.bool false) rfl (by rfl) (by go_simp) ?_
  simp only [List.set_cons_zero, List.set_cons_succ]
  refine runL 35 (.agg (noV sN cN)) rfl (by rfl) (exec_row 26 (.tmp 2) rfl p2 rfl 26 (noV sN cN) _ hp2 (by exact Try.underlying26) rfl (noV_sz _ _)) ?_
  simp only [List.set_cons_zero, List.set_cons_succ]
  refine runL 36 (.agg (r2V 0 0)) rfl (by rfl) (exec_build 33 _ rfl (r2V 0 0) (by kernel_rfl)) ?_
  simp only [List.set_cons_zero, List.set_cons_succ]
  refine callL 37 rfl (by rfl) (fun K hK => wp_callF 12 #[.agg (noV sN cN), .int .i64 (-1), .int .i64 1, .agg (r2V 0 0), .int .i64 1] (by go_simp) (lawused_bad sN cN 0 0 (-1) 1 1 (by decide) (used_bad sN cN (-1) 1 1 (by decide) (by decide) (by decide) (by decide)) _) ?_)
  rintro e w10 ⟨rfl, bx⟩
  replace hp1 := hp1.below bx hp1.lt
  replace hp2 := hp2.below bx hp2.lt
  replace hW := hW.trans (bx.mono (Nat.le_trans hB0 hW.size))
  clear bx
  refine ⟨_, rfl, hK.out _ _ ?_⟩
  clear hK K
  simp only [List.set_cons_zero, List.set_cons_succ]
  refine runL 38 (.bool false) rfl (by rfl) (by go_simp) ?_
  simp only [List.set_cons_zero, List.set_cons_succ]
  refine runL 39 (.bool false) rfl (by rfl) (by go_simp) ?_
  simp only [List.set_cons_zero, List.set_cons_succ]
  refine runL 40 (.bool false) rfl (by rfl) (by go_simp) ?_
  simp only [List.set_cons_zero, List.set_cons_succ]
  refine runL 41 (.agg (noV sN cN)) rfl (by rfl) (exec_row 26 (.tmp 2) rfl p2 rfl 26 (noV sN cN) _ hp2 (by exact Try.underlying26) rfl (noV_sz _ _)) ?_
  simp only [List.set_cons_zero, List.set_cons_succ]
  refine runL 42 (.agg (r2V 0 0)) rfl (by rfl) (exec_build 33 _ rfl (r2V 0 0) (by kernel_rfl)) ?_
  simp only [List.set_cons_zero, List.set_cons_succ]
  refine callL 43 rfl (by rfl) (fun K hK => wp_callF 12 #[.agg (noV sN cN), .int .i64 1048576, .int .i64 1, .agg (r2V 0 0), .int .i64 3] (by go_simp) (lawused_bad sN cN 0 0 1048576 1 3 (by decide) (used_bad sN cN 1048576 1 3 (by decide) (by decide) (by decide) (by decide)) _) ?_)
  rintro e w11 ⟨rfl, bx⟩
  replace hp1 := hp1.below bx hp1.lt
  replace hp2 := hp2.below bx hp2.lt
  replace hW := hW.trans (bx.mono (Nat.le_trans hB0 hW.size))
  clear bx
  refine ⟨_, rfl, hK.out _ _ ?_⟩
  clear hK K
  simp only [List.set_cons_zero, List.set_cons_succ]
  refine runL 44 (.bool false) rfl (by rfl) (by go_simp) ?_
  simp only [List.set_cons_zero, List.set_cons_succ]
  refine runL 45 (.bool false) rfl (by rfl) (by go_simp) ?_
  simp only [List.set_cons_zero, List.set_cons_succ]
  refine nilL ?_
  go_upto_region 7 with fail
  refine wl_lit ?_
  refine runL 46 (.agg (noV sN cN)) rfl (by rfl) (exec_row 26 (.tmp 2) rfl p2 rfl 26 (noV sN cN) _ hp2 (by exact Try.underlying26) rfl (noV_sz _ _)) ?_
  simp only [List.set_cons_zero, List.set_cons_succ]
  refine runL 47 (.agg (rgV sN cN 0 1)) rfl (by rfl) (exec_build 36 _ rfl (rgV sN cN 0 1) (by kernel_rfl)) ?_
  simp only [List.set_cons_zero, List.set_cons_succ]
  refine runWL 3 (.pointer (some ⟨w11.heap.size, 0, none⟩)) (w11.alloc (.cells (rgV 0 0 0 0) 36)) rfl (by rfl) (exec_allocV 36 rfl _ (zv_Range _)) ?_
  simp only [List.set_cons_zero, List.set_cons_succ]
  have lp1_p3 := hp1.lt
  have lp2_p3 := hp2.lt
  have lw_p3 := Nat.le_trans hB0 hW.size
  have hp3 : Blk (w11.alloc (.cells (rgV 0 0 0 0) 36)) w11.heap.size 36 (rgV 0 0 0 0) := Blk.new _ _ _
  replace hp1 := hp1.alloc (.cells (rgV 0 0 0 0) 36)
  replace hp2 := hp2.alloc (.cells (rgV 0 0 0 0) 36)
  replace hW := hW.alloc (Nat.le_trans hB0 hW.size) (.cells (rgV 0 0 0 0) 36)
  generalize w11.alloc (.cells (rgV 0 0 0 0) 36) = w12 at *
  generalize w11.heap.size = p3 at hp3 lw_p3 lp1_p3 lp2_p3 ⊢
  refine runSL (w12.setRow p3 (rgV sN cN 0 1)) rfl (by rfl) (exec_storeRow 36 (.tmp 3) (.tmp 47) rfl p3 rfl (rgV sN cN 0 1) rfl 36 (rgV 0 0 0 0) hp3 (sz_eq (rgV_sz _ _ _ _) (rgV_sz _ _ _ _)) (rgV_sz _ _ _ _) (rgV_one _ _ _ _)) ?_
  replace hp1 := hp1.rowFar (show p3 ≠ p1 from (by omega)) (rgV sN cN 0 1)
  replace hp2 := hp2.rowFar (show p3 ≠ p2 from (by omega)) (rgV sN cN 0 1)
  replace hp3 := hp3.row (rgV sN cN 0 1)
  replace hW := below_setRow hW lw_p3 (rgV sN cN 0 1)
  generalize w12.setRow p3 (rgV sN cN 0 1) = w13 at *
  refine nilL ?_
  go_upto_region 8 with fail
  refine wl_lit ?_
  refine runL 48 (.agg (rgV sN cN 0 1)) rfl (by rfl) (exec_row 36 (.tmp 3) rfl p3 rfl 36 (rgV sN cN 0 1) _ hp3 (by exact Try.underlying36) rfl (rgV_sz _ _ _ _)) ?_
  simp only [List.set_cons_zero, List.set_cons_succ]
  refine runWL 4 (.pointer (some ⟨w13.heap.size, 0, none⟩)) (w13.alloc (.cells (rgV 0 0 0 0) 36)) rfl (by rfl) (exec_allocV 36 rfl _ (zv_Range _)) ?_
  simp only [List.set_cons_zero, List.set_cons_succ]
  have lp1_p4 := hp1.lt
  have lp2_p4 := hp2.lt
  have lp3_p4 := hp3.lt
  have lw_p4 := Nat.le_trans hB0 hW.size
  have hp4 : Blk (w13.alloc (.cells (rgV 0 0 0 0) 36)) w13.heap.size 36 (rgV 0 0 0 0) := Blk.new _ _ _
  replace hp1 := hp1.alloc (.cells (rgV 0 0 0 0) 36)
  replace hp2 := hp2.alloc (.cells (rgV 0 0 0 0) 36)
  replace hp3 := hp3.alloc (.cells (rgV 0 0 0 0) 36)
  replace hW := hW.alloc (Nat.le_trans hB0 hW.size) (.cells (rgV 0 0 0 0) 36)
  generalize w13.alloc (.cells (rgV 0 0 0 0) 36) = w14 at *
  generalize w13.heap.size = p4 at hp4 lw_p4 lp1_p4 lp2_p4 lp3_p4 ⊢
  refine runSL (w14.setRow p4 (rgV sN cN 0 1)) rfl (by rfl) (exec_storeRow 36 (.tmp 4) (.tmp 48) rfl p4 rfl (rgV sN cN 0 1) rfl 36 (rgV 0 0 0 0) hp4 (sz_eq (rgV_sz _ _ _ _) (rgV_sz _ _ _ _)) (rgV_sz _ _ _ _) (rgV_one _ _ _ _)) ?_
  replace hp1 := hp1.rowFar (show p4 ≠ p1 from (by omega)) (rgV sN cN 0 1)
  replace hp2 := hp2.rowFar (show p4 ≠ p2 from (by omega)) (rgV sN cN 0 1)
  replace hp3 := hp3.rowFar (show p4 ≠ p3 from (by omega)) (rgV sN cN 0 1)
  replace hp4 := hp4.row (rgV sN cN 0 1)
  replace hW := below_setRow hW lw_p4 (rgV sN cN 0 1)
  generalize w14.setRow p4 (rgV sN cN 0 1) = w15 at *
  refine nilL ?_
  go_upto_region 9 with fail
  refine wl_lit ?_
  refine runL 49 (.pointer (some ⟨p4, 0, none⟩)) rfl (by rfl) (by go_simp) ?_
  simp only [List.set_cons_zero, List.set_cons_succ]
  refine runL 50 (.pointer (some ⟨p4, 0, none⟩)) rfl (by rfl) (by go_simp) ?_
  simp only [List.set_cons_zero, List.set_cons_succ]
  refine runSL (w15.setCell ⟨p4, 0, none⟩ (.int .u32 1)) rfl (by rfl) (exec_storeCell 23 (.tmp 50) _ rfl p4 0 rfl (.int .u32 1) rfl rfl rfl 36 (rgV sN cN 0 1) hp4 (show 0 < 4 by decide) (by kernel_rfl)) ?_
  replace hp1 := hp1.far (p := ⟨p4, 0, none⟩) (show p1 ≠ p4 from (by omega)) (.int .u32 1)
  replace hp2 := hp2.far (p := ⟨p4, 0, none⟩) (show p2 ≠ p4 from (by omega)) (.int .u32 1)
  replace hp3 := hp3.far (p := ⟨p4, 0, none⟩) (show p3 ≠ p4 from (by omega)) (.int .u32 1)
  replace hp4 : Blk (w15.setCell ⟨p4, 0, none⟩ (.int .u32 1)) p4 36 (#[.int .u32 1, .int .u64 (((cN : Nat) : Int)), .int .u32 (((0 : Nat) : Int)), .int .u32 (((1 : Nat) : Int))]) := hp4.set_ 0 (.int .u32 1)
  replace hW := hW.setCell (p := ⟨p4, 0, none⟩) lw_p4 (.int .u32 1)
  generalize w15.setCell ⟨p4, 0, none⟩ (.int .u32 1) = w16 at *
  refine nilL ?_
  go_upto_region 10 with fail
  refine wl_lit ?_
  refine runL 51 (.agg (rgV sN cN 0 1)) rfl (by rfl) (exec_row 36 (.tmp 3) rfl p3 rfl 36 (rgV sN cN 0 1) _ hp3 (by exact Try.underlying36) rfl (rgV_sz _ _ _ _)) ?_
  simp only [List.set_cons_zero, List.set_cons_succ]
  refine runL 52 (.agg (noV sN cN)) rfl (by rfl) (exec_row 26 (.tmp 2) rfl p2 rfl 26 (noV sN cN) _ hp2 (by exact Try.underlying26) rfl (noV_sz _ _)) ?_
  simp only [List.set_cons_zero, List.set_cons_succ]
  refine runL 53 (.agg (rgV sN cN 1 2)) rfl (by rfl) (exec_build 36 _ rfl (rgV sN cN 1 2) (by kernel_rfl)) ?_
  simp only [List.set_cons_zero, List.set_cons_succ]
  refine callL 54 rfl (by rfl) (fun K hK => wp_callF 14 #[.agg (rgV sN cN 0 1), .agg (rgV sN cN 1 2)] (by go_simp) (lov sN cN 0 1 sN cN 1 2 true (by decide) _) ?_)
  rintro e w17 ⟨rfl, bx⟩
  replace hp1 := hp1.below bx hp1.lt
  replace hp2 := hp2.below bx hp2.lt
  replace hp3 := hp3.below bx hp3.lt
  replace hp4 := hp4.below bx hp4.lt
  replace hW := hW.trans (bx.mono (Nat.le_trans hB0 hW.size))
  clear bx
  refine ⟨_, rfl, hK.out _ _ ?_⟩
  clear hK K
  simp only [List.set_cons_zero, List.set_cons_succ]
  refine runL 55 (.bool true) rfl (by rfl) (by go_simp) ?_
  simp only [List.set_cons_zero, List.set_cons_succ]
  refine runL 56 (.agg (rgV sN cN 0 1)) rfl (by rfl) (exec_row 36 (.tmp 3) rfl p3 rfl 36 (rgV sN cN 0 1) _ hp3 (by exact Try.underlying36) rfl (rgV_sz _ _ _ _)) ?_
  simp only [List.set_cons_zero, List.set_cons_succ]
  refine runL 57 (.agg (noV sN cN)) rfl (by rfl) (exec_row 26 (.tmp 2) rfl p2 rfl 26 (noV sN cN) _ hp2 (by exact Try.underlying26) rfl (noV_sz _ _)) ?_
  simp only [List.set_cons_zero, List.set_cons_succ]
  refine runL 58 (.agg (rgV sN cN 2 3)) rfl (by rfl) (exec_build 36 _ rfl (rgV sN cN 2 3) (by kernel_rfl)) ?_
  simp only [List.set_cons_zero, List.set_cons_succ]
  refine callL 59 rfl (by rfl) (fun K hK => wp_callF 14 #[.agg (rgV sN cN 0 1), .agg (rgV sN cN 2 3)] (by go_simp) (lov sN cN 0 1 sN cN 2 3 false (by decide) _) ?_)
  rintro e w18 ⟨rfl, bx⟩
  replace hp1 := hp1.below bx hp1.lt
  replace hp2 := hp2.below bx hp2.lt
  replace hp3 := hp3.below bx hp3.lt
  replace hp4 := hp4.below bx hp4.lt
  replace hW := hW.trans (bx.mono (Nat.le_trans hB0 hW.size))
  clear bx
  refine ⟨_, rfl, hK.out _ _ ?_⟩
  clear hK K
  simp only [List.set_cons_zero, List.set_cons_succ]
  refine runL 60 (.bool true) rfl (by rfl) (by go_simp) ?_
  simp only [List.set_cons_zero, List.set_cons_succ]
  refine runL 61 (.bool true) rfl (by rfl) (by go_simp) ?_
  simp only [List.set_cons_zero, List.set_cons_succ]
  refine runL 62 (.bool true) rfl (by rfl) (by go_simp) ?_
  simp only [List.set_cons_zero, List.set_cons_succ]
  refine runL 63 (.agg (rgV sN cN 0 1)) rfl (by rfl) (exec_row 36 (.tmp 3) rfl p3 rfl 36 (rgV sN cN 0 1) _ hp3 (by exact Try.underlying36) rfl (rgV_sz _ _ _ _)) ?_
  simp only [List.set_cons_zero, List.set_cons_succ]
  refine runL 64 (.agg (#[.int .u32 1, .int .u64 (((cN : Nat) : Int)), .int .u32 (((0 : Nat) : Int)), .int .u32 (((1 : Nat) : Int))])) rfl (by rfl) (exec_row 36 (.tmp 4) rfl p4 rfl 36 (#[.int .u32 1, .int .u64 (((cN : Nat) : Int)), .int .u32 (((0 : Nat) : Int)), .int .u32 (((1 : Nat) : Int))]) _ hp4 (by exact Try.underlying36) rfl (rgV_sz _ _ _ _)) ?_
  simp only [List.set_cons_zero, List.set_cons_succ]
  refine callL 65 rfl (by rfl) (fun K hK => wp_callF 14 #[.agg (rgV sN cN 0 1), .agg (#[.int .u32 1, .int .u64 (((cN : Nat) : Int)), .int .u32 (((0 : Nat) : Int)), .int .u32 (((1 : Nat) : Int))])] (by go_simp) (lov sN cN 0 1 1 cN 0 1 false (by decide) _) ?_)
  rintro e w19 ⟨rfl, bx⟩
  replace hp1 := hp1.below bx hp1.lt
  replace hp2 := hp2.below bx hp2.lt
  replace hp3 := hp3.below bx hp3.lt
  replace hp4 := hp4.below bx hp4.lt
  replace hW := hW.trans (bx.mono (Nat.le_trans hB0 hW.size))
  clear bx
  refine ⟨_, rfl, hK.out _ _ ?_⟩
  clear hK K
  simp only [List.set_cons_zero, List.set_cons_succ]
  refine runL 66 (.bool true) rfl (by rfl) (by go_simp) ?_
  simp only [List.set_cons_zero, List.set_cons_succ]
  refine runL 67 (.bool true) rfl (by rfl) (by go_simp) ?_
  simp only [List.set_cons_zero, List.set_cons_succ]
  refine runL 0 (.bool true) rfl (by rfl) (by go_simp) ?_
  simp only [List.set_cons_zero]
  refine nilL ?_
  go_wp2_with fail
  go_ret
  exact ⟨rfl, hW⟩
end Go.Proofs.Ytpcdckhabaoieaa
