/-
  The walk of NoncesKnown. (Printed by mkknown08.py.)
-/
import Derived.Test.YtaaldjmopifcjaaNBy
import Derived.Test.YtaaldjmopifcjaaNOnceA
namespace Go.Proofs.Ytaaldjmopifcjaa
open Go.RowKit Sh

set_option maxRecDepth 8000 in
set_option maxHeartbeats 4000000 in
theorem known_any (w : World) : Calls Try.prog 7 #[] w fun e w' => e = .returned (.bool true) ∧ Below w.heap.size w w' := by
  obtain ⟨B0, hB0⟩ : ∃ b, w.heap.size = b := ⟨_, rfl⟩
  rw [hB0]
  have hW : Below B0 w w := by rw [← hB0]; exact Below.refl _ _
  have hW_0 := hW
  replace hB0 : B0 ≤ w.heap.size := by omega
  have wr1 : IntKind.u64.wrap 18446744073709551614 = 18446744073709551614 := by decide
  have wr2 : IntKind.u64.wrap 18446744069414584319 = 18446744069414584319 := by decide
  have wr3 : IntKind.u64.wrap 18446744069414584320 = 18446744069414584320 := by decide
  go_enter Try.func7, Try.ntmps7
  go_upto_region 2 with fail
  refine wp_region_lit ?_
  refine runP 19 (.int .u64 18446744073709551615) rfl (by rfl) (by go_simp) ?_
  simp only [List.set_cons_zero, List.set_cons_succ]
  refine runP 20 (.int .u64 18446744073709551614) rfl (by rfl) (by go_simp) ?_
  simp only [List.set_cons_zero, List.set_cons_succ]
  refine runW 21 (.slice (some ⟨w.heap.size, 0, none⟩) 1 1) (w.alloc (.cells (va .u64 [18446744073709551614]) 23)) rfl (by rfl) (by go_simp; rfl) ?_
  simp only [List.set_cons_zero, List.set_cons_succ]
  have hxa : Blk (w.alloc (.cells (va .u64 [18446744073709551614]) 23)) w.heap.size 23 (va .u64 [18446744073709551614]) := Blk.new _ _ _
  replace hW := hW.alloc (Nat.le_trans hB0 hW.size) (.cells (va .u64 [18446744073709551614]) 23)
  have lw_xa := Nat.le_trans hB0 hW_0.size
  generalize w.alloc (.cells (va .u64 [18446744073709551614]) 23) = w1 at *
  generalize w.heap.size = xa at hxa lw_xa ⊢
  have hW_1 := hW
  refine runP 22 (.int .u64 18446744073709551615) rfl (by rfl) (by go_simp) ?_
  simp only [List.set_cons_zero, List.set_cons_succ]
  refine runP 23 (.int .u64 18446744073709551615) rfl (by rfl) (by go_simp) ?_
  simp only [List.set_cons_zero, List.set_cons_succ]
  refine runP 24 (.agg (alV (some ⟨xa, 0, none⟩) 1 1 18446744073709551615 18446744073709551615 4294967296)) rfl (by rfl) (exec_build 25 _ rfl (alV (some ⟨xa, 0, none⟩) 1 1 18446744073709551615 18446744073709551615 4294967296) (by kernel_rfl)) ?_
  simp only [List.set_cons_zero, List.set_cons_succ]
  refine allocP 2 25 rfl (alV none 0 0 0 0 0) (zeroAl _) rfl (by rfl) ?_
  simp only [List.set_cons_zero, List.set_cons_succ]
  have hpa : Blk (w1.alloc (.cells (alV none 0 0 0 0 0) 25)) w1.heap.size 25 (alV none 0 0 0 0 0) := Blk.new _ _ _
  have lxa_pa := hxa.lt
  replace hxa := hxa.alloc (.cells (alV none 0 0 0 0 0) 25)
  replace hW := hW.alloc (Nat.le_trans hB0 hW.size) (.cells (alV none 0 0 0 0 0) 25)
  have lw_pa := Nat.le_trans hB0 hW_1.size
  generalize w1.alloc (.cells (alV none 0 0 0 0 0) 25) = w2 at *
  generalize w1.heap.size = pa at hpa lw_pa lxa_pa ⊢
  have hW_2 := hW
  refine storeP rfl (by rfl) 25 (.tmp 2) (.tmp 24) rfl pa rfl (alV (some ⟨xa, 0, none⟩) 1 1 18446744073709551615 18446744073709551615 4294967296) rfl 25 (alV none 0 0 0 0 0) hpa rfl (alV_info _ _ _ _ _ _) (alV_one _ _ _ _ _ _) ?_
  have nxa : pa ≠ xa := (hpa.ne_ hxa (by decide))
  replace hpa := hpa.row (alV (some ⟨xa, 0, none⟩) 1 1 18446744073709551615 18446744073709551615 4294967296)
  replace hxa := hxa.rowFar nxa (alV (some ⟨xa, 0, none⟩) 1 1 18446744073709551615 18446744073709551615 4294967296)
  clear nxa
  replace hW := below_setRow hW lw_pa (alV (some ⟨xa, 0, none⟩) 1 1 18446744073709551615 18446744073709551615 4294967296)
  generalize w2.setRow pa (alV (some ⟨xa, 0, none⟩) 1 1 18446744073709551615 18446744073709551615 4294967296) = w3 at *
  have hW_3 := hW
  refine wpList_nil ?_
  go_upto_region 3 with fail
  refine wp_region_lit ?_
  refine runP 26 (.agg (alV (some ⟨xa, 0, none⟩) 1 1 18446744073709551615 18446744073709551615 4294967296)) rfl (by rfl) (exec_row 25 (.tmp 2) rfl pa rfl 25 (alV (some ⟨xa, 0, none⟩) 1 1 18446744073709551615 18446744073709551615 4294967296) _ hpa Try.underlying25 rfl (alV_info _ _ _ _ _ _)) ?_
  simp only [List.set_cons_zero, List.set_cons_succ]
  refine callP 27 rfl (by rfl) (fun K hK => wp_callF 13 #[.agg (alV (some ⟨xa, 0, none⟩) 1 1 18446744073709551615 18446744073709551615 4294967296), .int .i64 0] (by go_simp) (take_to (some ⟨xa, 0, none⟩) 1 1 18446744073709551615 18446744073709551615 4294967296 (xa + 1) 18446744073709551614 [18446744073709551614] [18446744073709551615] 0 (by omega) (by omega) (by decide) rfl (by omega) (by omega) rfl _ (hxa.readsAll (Nat.lt_succ_self _) rfl) (by have := hxa.lt; omega)) ?_)
  rintro e w4 ⟨xb, rfl, hxb, hgb, bx⟩
  refine ⟨_, rfl, hK.out _ _ ?_⟩
  clear hK K
  replace hxa := hxa.below bx hxa.lt
  replace hpa := hpa.below bx hpa.lt
  replace hW := hW.trans (bx.mono (Nat.le_trans hB0 hW.size))
  clear bx
  have hW_4 := hW
  simp only [List.set_cons_zero, List.set_cons_succ]
  clear hgb
  refine runP 25 (.tuple #[.agg (noV 0 18446744073709551614), .agg (alV (some ⟨xb, 0, none⟩) 1 1 18446744073709551615 18446744073709551615 4294967296), .int .i64 0]) rfl (by rfl) (by go_simp) ?_
  simp only [List.set_cons_zero, List.set_cons_succ]
  refine runP 28 (.agg (noV 0 18446744073709551614)) rfl (by rfl) (by go_simp) ?_
  simp only [List.set_cons_zero, List.set_cons_succ]
  refine runP 29 (.agg (alV (some ⟨xb, 0, none⟩) 1 1 18446744073709551615 18446744073709551615 4294967296)) rfl (by rfl) (by go_simp) ?_
  simp only [List.set_cons_zero, List.set_cons_succ]
  refine runP 30 (.int .i64 0) rfl (by rfl) (by go_simp) ?_
  simp only [List.set_cons_zero, List.set_cons_succ]
  refine allocP 3 35 rfl (noV 0 0) (zeroNo _) rfl (by rfl) ?_
  simp only [List.set_cons_zero, List.set_cons_succ]
  have hpn : Blk (w4.alloc (.cells (noV 0 0) 35)) w4.heap.size 35 (noV 0 0) := Blk.new _ _ _
  have lxa_pn := hxa.lt
  have lpa_pn := hpa.lt
  have lxb_pn := hxb.lt
  replace hxa := hxa.alloc (.cells (noV 0 0) 35)
  replace hpa := hpa.alloc (.cells (noV 0 0) 35)
  replace hxb := hxb.alloc (.cells (noV 0 0) 35)
  replace hW := hW.alloc (Nat.le_trans hB0 hW.size) (.cells (noV 0 0) 35)
  have lw_pn := Nat.le_trans hB0 hW_4.size
  generalize w4.alloc (.cells (noV 0 0) 35) = w5 at *
  generalize w4.heap.size = pn at hpn lw_pn lxa_pn lpa_pn lxb_pn ⊢
  have hW_5 := hW
  refine allocP 4 25 rfl (alV none 0 0 0 0 0) (zeroAl _) rfl (by rfl) ?_
  simp only [List.set_cons_zero, List.set_cons_succ]
  have hpb : Blk (w5.alloc (.cells (alV none 0 0 0 0 0) 25)) w5.heap.size 25 (alV none 0 0 0 0 0) := Blk.new _ _ _
  have lxa_pb := hxa.lt
  have lpa_pb := hpa.lt
  have lxb_pb := hxb.lt
  have lpn_pb := hpn.lt
  replace hxa := hxa.alloc (.cells (alV none 0 0 0 0 0) 25)
  replace hpa := hpa.alloc (.cells (alV none 0 0 0 0 0) 25)
  replace hxb := hxb.alloc (.cells (alV none 0 0 0 0 0) 25)
  replace hpn := hpn.alloc (.cells (alV none 0 0 0 0 0) 25)
  replace hW := hW.alloc (Nat.le_trans hB0 hW.size) (.cells (alV none 0 0 0 0 0) 25)
  have lw_pb := Nat.le_trans hB0 hW_5.size
  generalize w5.alloc (.cells (alV none 0 0 0 0 0) 25) = w6 at *
  generalize w5.heap.size = pb at hpb lw_pb lxa_pb lpa_pb lxb_pb lpn_pb ⊢
  have hW_6 := hW
  refine storeP rfl (by rfl) 35 (.tmp 3) (.tmp 28) rfl pn rfl (noV 0 18446744073709551614) rfl 35 (noV 0 0) hpn rfl (noV_info _ _) (noV_one _ _) ?_
  have nxa : pn ≠ xa := (hpn.ne_ hxa (by decide))
  have npa : pn ≠ pa := (hpn.ne_ hpa (by decide))
  have nxb : pn ≠ xb := (hpn.ne_ hxb (by decide))
  have npb : pn ≠ pb := (hpn.ne_ hpb (by decide))
  replace hpn := hpn.row (noV 0 18446744073709551614)
  replace hxa := hxa.rowFar nxa (noV 0 18446744073709551614)
  replace hpa := hpa.rowFar npa (noV 0 18446744073709551614)
  replace hxb := hxb.rowFar nxb (noV 0 18446744073709551614)
  replace hpb := hpb.rowFar npb (noV 0 18446744073709551614)
  clear nxa npa nxb npb
  replace hW := below_setRow hW lw_pn (noV 0 18446744073709551614)
  generalize w6.setRow pn (noV 0 18446744073709551614) = w7 at *
  have hW_7 := hW
  refine storeP rfl (by rfl) 25 (.tmp 4) (.tmp 29) rfl pb rfl (alV (some ⟨xb, 0, none⟩) 1 1 18446744073709551615 18446744073709551615 4294967296) rfl 25 (alV none 0 0 0 0 0) hpb rfl (alV_info _ _ _ _ _ _) (alV_one _ _ _ _ _ _) ?_
  have nxa : pb ≠ xa := (hpb.ne_ hxa (by decide))
  have npa : pb ≠ pa := (by omega)
  have nxb : pb ≠ xb := (hpb.ne_ hxb (by decide))
  have npn : pb ≠ pn := (hpb.ne_ hpn (by decide))
  replace hpb := hpb.row (alV (some ⟨xb, 0, none⟩) 1 1 18446744073709551615 18446744073709551615 4294967296)
  replace hxa := hxa.rowFar nxa (alV (some ⟨xb, 0, none⟩) 1 1 18446744073709551615 18446744073709551615 4294967296)
  replace hpa := hpa.rowFar npa (alV (some ⟨xb, 0, none⟩) 1 1 18446744073709551615 18446744073709551615 4294967296)
  replace hxb := hxb.rowFar nxb (alV (some ⟨xb, 0, none⟩) 1 1 18446744073709551615 18446744073709551615 4294967296)
  replace hpn := hpn.rowFar npn (alV (some ⟨xb, 0, none⟩) 1 1 18446744073709551615 18446744073709551615 4294967296)
  clear nxa npa nxb npn
  replace hW := below_setRow hW lw_pb (alV (some ⟨xb, 0, none⟩) 1 1 18446744073709551615 18446744073709551615 4294967296)
  generalize w7.setRow pb (alV (some ⟨xb, 0, none⟩) 1 1 18446744073709551615 18446744073709551615 4294967296) = w8 at *
  have hW_8 := hW
  refine runP 5 (.int .i64 0) rfl (by rfl) (by go_simp) ?_
  simp only [List.set_cons_zero, List.set_cons_succ]
  refine wpList_nil ?_
  go_upto_region 4 with fail
  refine wp_region_lit ?_
  refine runP 32 (.agg (alV (some ⟨xb, 0, none⟩) 1 1 18446744073709551615 18446744073709551615 4294967296)) rfl (by rfl) (exec_row 25 (.tmp 4) rfl pb rfl 25 (alV (some ⟨xb, 0, none⟩) 1 1 18446744073709551615 18446744073709551615 4294967296) _ hpb Try.underlying25 rfl (alV_info _ _ _ _ _ _)) ?_
  simp only [List.set_cons_zero, List.set_cons_succ]
  refine callP 33 rfl (by rfl) (fun K hK => wp_callF 13 #[.agg (alV (some ⟨xb, 0, none⟩) 1 1 18446744073709551615 18446744073709551615 4294967296), .int .i64 0] (by go_simp) (take_state (some ⟨xb, 0, none⟩) 1 1 18446744073709551615 18446744073709551615 4294967296 (xb + 1) [18446744073709551615] 0 (by omega) (by decide) rfl _ (hxb.readsAll (Nat.lt_succ_self _) rfl) (by have := hxb.lt; omega)) ?_)
  rintro e w9 ⟨rfl, bx⟩
  refine ⟨_, rfl, hK.out _ _ ?_⟩
  clear hK K
  replace hxa := hxa.below bx hxa.lt
  replace hpa := hpa.below bx hpa.lt
  replace hxb := hxb.below bx hxb.lt
  replace hpn := hpn.below bx hpn.lt
  replace hpb := hpb.below bx hpb.lt
  replace hW := hW.trans (bx.mono (Nat.le_trans hB0 hW.size))
  clear bx
  have hW_9 := hW
  simp only [List.set_cons_zero, List.set_cons_succ]
  refine runP 31 (.tuple #[.agg (noV 0 0), .agg (alV none 0 0 0 0 0), .int .i64 10]) rfl (by rfl) (by go_simp) ?_
  simp only [List.set_cons_zero, List.set_cons_succ]
  refine runP 34 (.agg (noV 0 0)) rfl (by rfl) (by go_simp) ?_
  simp only [List.set_cons_zero, List.set_cons_succ]
  refine runP 35 (.agg (alV none 0 0 0 0 0)) rfl (by rfl) (by go_simp) ?_
  simp only [List.set_cons_zero, List.set_cons_succ]
  refine runP 36 (.int .i64 10) rfl (by rfl) (by go_simp) ?_
  simp only [List.set_cons_zero, List.set_cons_succ]
  refine allocP 6 35 rfl (noV 0 0) (zeroNo _) rfl (by rfl) ?_
  simp only [List.set_cons_zero, List.set_cons_succ]
  have hp6 : Blk (w9.alloc (.cells (noV 0 0) 35)) w9.heap.size 35 (noV 0 0) := Blk.new _ _ _
  have lxa_p6 := hxa.lt
  have lpa_p6 := hpa.lt
  have lxb_p6 := hxb.lt
  have lpn_p6 := hpn.lt
  have lpb_p6 := hpb.lt
  replace hxa := hxa.alloc (.cells (noV 0 0) 35)
  replace hpa := hpa.alloc (.cells (noV 0 0) 35)
  replace hxb := hxb.alloc (.cells (noV 0 0) 35)
  replace hpn := hpn.alloc (.cells (noV 0 0) 35)
  replace hpb := hpb.alloc (.cells (noV 0 0) 35)
  replace hW := hW.alloc (Nat.le_trans hB0 hW.size) (.cells (noV 0 0) 35)
  have lw_p6 := Nat.le_trans hB0 hW_9.size
  generalize w9.alloc (.cells (noV 0 0) 35) = w10 at *
  generalize w9.heap.size = p6 at hp6 lw_p6 lxa_p6 lpa_p6 lxb_p6 lpn_p6 lpb_p6 ⊢
  have hW_10 := hW
  refine allocP 7 25 rfl (alV none 0 0 0 0 0) (zeroAl _) rfl (by rfl) ?_
  simp only [List.set_cons_zero, List.set_cons_succ]
  have hp7 : Blk (w10.alloc (.cells (alV none 0 0 0 0 0) 25)) w10.heap.size 25 (alV none 0 0 0 0 0) := Blk.new _ _ _
  have lxa_p7 := hxa.lt
  have lpa_p7 := hpa.lt
  have lxb_p7 := hxb.lt
  have lpn_p7 := hpn.lt
  have lpb_p7 := hpb.lt
  have lp6_p7 := hp6.lt
  replace hxa := hxa.alloc (.cells (alV none 0 0 0 0 0) 25)
  replace hpa := hpa.alloc (.cells (alV none 0 0 0 0 0) 25)
  replace hxb := hxb.alloc (.cells (alV none 0 0 0 0 0) 25)
  replace hpn := hpn.alloc (.cells (alV none 0 0 0 0 0) 25)
  replace hpb := hpb.alloc (.cells (alV none 0 0 0 0 0) 25)
  replace hp6 := hp6.alloc (.cells (alV none 0 0 0 0 0) 25)
  replace hW := hW.alloc (Nat.le_trans hB0 hW.size) (.cells (alV none 0 0 0 0 0) 25)
  have lw_p7 := Nat.le_trans hB0 hW_10.size
  generalize w10.alloc (.cells (alV none 0 0 0 0 0) 25) = w11 at *
  generalize w10.heap.size = p7 at hp7 lw_p7 lxa_p7 lpa_p7 lxb_p7 lpn_p7 lpb_p7 lp6_p7 ⊢
  have hW_11 := hW
  refine storeP rfl (by rfl) 35 (.tmp 6) (.tmp 34) rfl p6 rfl (noV 0 0) rfl 35 (noV 0 0) hp6 rfl (noV_info _ _) (noV_one _ _) ?_
  have nxa : p6 ≠ xa := (hp6.ne_ hxa (by decide))
  have npa : p6 ≠ pa := (hp6.ne_ hpa (by decide))
  have nxb : p6 ≠ xb := (hp6.ne_ hxb (by decide))
  have npn : p6 ≠ pn := (by omega)
  have npb : p6 ≠ pb := (hp6.ne_ hpb (by decide))
  have np7 : p6 ≠ p7 := (hp6.ne_ hp7 (by decide))
  replace hp6 := hp6.row (noV 0 0)
  replace hxa := hxa.rowFar nxa (noV 0 0)
  replace hpa := hpa.rowFar npa (noV 0 0)
  replace hxb := hxb.rowFar nxb (noV 0 0)
  replace hpn := hpn.rowFar npn (noV 0 0)
  replace hpb := hpb.rowFar npb (noV 0 0)
  replace hp7 := hp7.rowFar np7 (noV 0 0)
  clear nxa npa nxb npn npb np7
  replace hW := below_setRow hW lw_p6 (noV 0 0)
  generalize w11.setRow p6 (noV 0 0) = w12 at *
  have hW_12 := hW
  refine storeP rfl (by rfl) 25 (.tmp 7) (.tmp 35) rfl p7 rfl (alV none 0 0 0 0 0) rfl 25 (alV none 0 0 0 0 0) hp7 rfl (alV_info _ _ _ _ _ _) (alV_one _ _ _ _ _ _) ?_
  have nxa : p7 ≠ xa := (hp7.ne_ hxa (by decide))
  have npa : p7 ≠ pa := (by omega)
  have nxb : p7 ≠ xb := (hp7.ne_ hxb (by decide))
  have npn : p7 ≠ pn := (hp7.ne_ hpn (by decide))
  have npb : p7 ≠ pb := (by omega)
  have np6 : p7 ≠ p6 := (hp7.ne_ hp6 (by decide))
  replace hp7 := hp7.row (alV none 0 0 0 0 0)
  replace hxa := hxa.rowFar nxa (alV none 0 0 0 0 0)
  replace hpa := hpa.rowFar npa (alV none 0 0 0 0 0)
  replace hxb := hxb.rowFar nxb (alV none 0 0 0 0 0)
  replace hpn := hpn.rowFar npn (alV none 0 0 0 0 0)
  replace hpb := hpb.rowFar npb (alV none 0 0 0 0 0)
  replace hp6 := hp6.rowFar np6 (alV none 0 0 0 0 0)
  clear nxa npa nxb npn npb np6
  replace hW := below_setRow hW lw_p7 (alV none 0 0 0 0 0)
  generalize w12.setRow p7 (alV none 0 0 0 0 0) = w13 at *
  have hW_13 := hW
  refine runP 8 (.int .i64 10) rfl (by rfl) (by go_simp) ?_
  simp only [List.set_cons_zero, List.set_cons_succ]
  refine wpList_nil ?_
  clear hp6
  clear hp7
  go_upto_region 5 with fail
  refine wp_region_lit ?_
  refine runP 38 (.agg (alV (some ⟨xb, 0, none⟩) 1 1 18446744073709551615 18446744073709551615 4294967296)) rfl (by rfl) (exec_row 25 (.tmp 4) rfl pb rfl 25 (alV (some ⟨xb, 0, none⟩) 1 1 18446744073709551615 18446744073709551615 4294967296) _ hpb Try.underlying25 rfl (alV_info _ _ _ _ _ _)) ?_
  simp only [List.set_cons_zero, List.set_cons_succ]
  refine callP 39 rfl (by rfl) (fun K hK => wp_callF 15 #[.agg (alV (some ⟨xb, 0, none⟩) 1 1 18446744073709551615 18446744073709551615 4294967296)] (by go_simp) (extend_over (some ⟨xb, 0, none⟩) 1 1 18446744073709551615 18446744073709551615 4294967296 (xb + 1) [18446744073709551615] (by decide) (by omega) (by omega) (by omega) _ (hxb.readsAll (Nat.lt_succ_self _) rfl) (by have := hxb.lt; omega)) ?_)
  rintro e w14 ⟨rfl, bx⟩
  refine ⟨_, rfl, hK.out _ _ ?_⟩
  clear hK K
  replace hxa := hxa.below bx hxa.lt
  replace hpa := hpa.below bx hpa.lt
  replace hxb := hxb.below bx hxb.lt
  replace hpn := hpn.below bx hpn.lt
  replace hpb := hpb.below bx hpb.lt
  replace hW := hW.trans (bx.mono (Nat.le_trans hB0 hW.size))
  clear bx
  have hW_14 := hW
  simp only [List.set_cons_zero, List.set_cons_succ]
  refine runP 37 (.tuple #[.agg (alV none 0 0 0 0 0), .int .i64 8]) rfl (by rfl) (by go_simp) ?_
  simp only [List.set_cons_zero, List.set_cons_succ]
  refine runP 40 (.agg (alV none 0 0 0 0 0)) rfl (by rfl) (by go_simp) ?_
  simp only [List.set_cons_zero, List.set_cons_succ]
  refine runP 41 (.int .i64 8) rfl (by rfl) (by go_simp) ?_
  simp only [List.set_cons_zero, List.set_cons_succ]
  refine allocP 9 25 rfl (alV none 0 0 0 0 0) (zeroAl _) rfl (by rfl) ?_
  simp only [List.set_cons_zero, List.set_cons_succ]
  have hp9 : Blk (w14.alloc (.cells (alV none 0 0 0 0 0) 25)) w14.heap.size 25 (alV none 0 0 0 0 0) := Blk.new _ _ _
  have lxa_p9 := hxa.lt
  have lpa_p9 := hpa.lt
  have lxb_p9 := hxb.lt
  have lpn_p9 := hpn.lt
  have lpb_p9 := hpb.lt
  replace hxa := hxa.alloc (.cells (alV none 0 0 0 0 0) 25)
  replace hpa := hpa.alloc (.cells (alV none 0 0 0 0 0) 25)
  replace hxb := hxb.alloc (.cells (alV none 0 0 0 0 0) 25)
  replace hpn := hpn.alloc (.cells (alV none 0 0 0 0 0) 25)
  replace hpb := hpb.alloc (.cells (alV none 0 0 0 0 0) 25)
  replace hW := hW.alloc (Nat.le_trans hB0 hW.size) (.cells (alV none 0 0 0 0 0) 25)
  have lw_p9 := Nat.le_trans hB0 hW_14.size
  generalize w14.alloc (.cells (alV none 0 0 0 0 0) 25) = w15 at *
  generalize w14.heap.size = p9 at hp9 lw_p9 lxa_p9 lpa_p9 lxb_p9 lpn_p9 lpb_p9 ⊢
  have hW_15 := hW
  refine storeP rfl (by rfl) 25 (.tmp 9) (.tmp 40) rfl p9 rfl (alV none 0 0 0 0 0) rfl 25 (alV none 0 0 0 0 0) hp9 rfl (alV_info _ _ _ _ _ _) (alV_one _ _ _ _ _ _) ?_
  have nxa : p9 ≠ xa := (hp9.ne_ hxa (by decide))
  have npa : p9 ≠ pa := (by omega)
  have nxb : p9 ≠ xb := (hp9.ne_ hxb (by decide))
  have npn : p9 ≠ pn := (hp9.ne_ hpn (by decide))
  have npb : p9 ≠ pb := (by omega)
  replace hp9 := hp9.row (alV none 0 0 0 0 0)
  replace hxa := hxa.rowFar nxa (alV none 0 0 0 0 0)
  replace hpa := hpa.rowFar npa (alV none 0 0 0 0 0)
  replace hxb := hxb.rowFar nxb (alV none 0 0 0 0 0)
  replace hpn := hpn.rowFar npn (alV none 0 0 0 0 0)
  replace hpb := hpb.rowFar npb (alV none 0 0 0 0 0)
  clear nxa npa nxb npn npb
  replace hW := below_setRow hW lw_p9 (alV none 0 0 0 0 0)
  generalize w15.setRow p9 (alV none 0 0 0 0 0) = w16 at *
  have hW_16 := hW
  refine runP 10 (.int .i64 8) rfl (by rfl) (by go_simp) ?_
  simp only [List.set_cons_zero, List.set_cons_succ]
  refine wpList_nil ?_
  clear hp9
  clear hpb
  clear hxb
  go_upto_region 6 with fail
  have heq := eqNo 0 18446744073709551614
  refine wp_region_lit ?_
  refine runP 42 (.agg (noV 0 18446744073709551614)) rfl (by rfl) (exec_row 35 (.tmp 3) rfl pn rfl 35 (noV 0 18446744073709551614) _ hpn Try.underlying35 rfl (noV_info _ _)) ?_
  simp only [List.set_cons_zero, List.set_cons_succ]
  refine runP 43 (.int .u64 18446744073709551615) rfl (by rfl) (by go_simp) ?_
  simp only [List.set_cons_zero, List.set_cons_succ]
  refine runP 44 (.int .u64 18446744073709551614) rfl (by rfl) (by go_simp) ?_
  simp only [List.set_cons_zero, List.set_cons_succ]
  refine runP 45 (.agg (noV 0 18446744073709551614)) rfl (by rfl) (exec_build 35 _ rfl (noV 0 18446744073709551614) (by kernel_rfl)) ?_
  simp only [List.set_cons_zero, List.set_cons_succ]
  refine runP 46 ((.bool false)) rfl (by rfl) (by go_simp) ?_
  simp only [List.set_cons_zero, List.set_cons_succ]
  refine runP 47 ((.bool false)) rfl (by rfl) (by go_simp) ?_
  simp only [List.set_cons_zero, List.set_cons_succ]
  refine runP 48 (.int .i64 0) rfl (by rfl) (by go_simp) ?_
  simp only [List.set_cons_zero, List.set_cons_succ]
  refine runP 49 ((.bool false)) rfl (by rfl) (by go_simp) ?_
  simp only [List.set_cons_zero, List.set_cons_succ]
  refine runP 50 ((.bool false)) rfl (by rfl) (by go_simp) ?_
  simp only [List.set_cons_zero, List.set_cons_succ]
  refine runP 51 ((.bool false)) rfl (by rfl) (by go_simp) ?_
  simp only [List.set_cons_zero, List.set_cons_succ]
  refine runP 52 (.int .i64 10) rfl (by rfl) (by go_simp) ?_
  simp only [List.set_cons_zero, List.set_cons_succ]
  refine runP 53 ((.bool false)) rfl (by rfl) (by go_simp) ?_
  simp only [List.set_cons_zero, List.set_cons_succ]
  refine runP 54 ((.bool false)) rfl (by rfl) (by go_simp) ?_
  simp only [List.set_cons_zero, List.set_cons_succ]
  refine runP 55 ((.bool false)) rfl (by rfl) (by go_simp) ?_
  simp only [List.set_cons_zero, List.set_cons_succ]
  refine runP 56 (.int .i64 8) rfl (by rfl) (by go_simp) ?_
  simp only [List.set_cons_zero, List.set_cons_succ]
  refine runP 57 ((.bool false)) rfl (by rfl) (by go_simp) ?_
  simp only [List.set_cons_zero, List.set_cons_succ]
  refine runP 58 ((.bool false)) rfl (by rfl) (by go_simp) ?_
  simp only [List.set_cons_zero, List.set_cons_succ]
  refine wpList_nil ?_
  clear heq hpn
  go_upto_region 8 with fail
  refine wp_region_lit ?_
  refine runP 59 (.int .u64 18446744073709551615) rfl (by rfl) (by go_simp) ?_
  simp only [List.set_cons_zero, List.set_cons_succ]
  refine runP 60 (.int .u64 18446744069414584319) rfl (by rfl) (by go_simp) ?_
  simp only [List.set_cons_zero, List.set_cons_succ]
  refine runP 61 (.pointer (some ⟨pa, 1, none⟩)) rfl (by rfl) (by go_simp) ?_
  simp only [List.set_cons_zero, List.set_cons_succ]
  have hc := hpa.cell 1
  have hf := hpa.frozen 1
  simp only [alV] at hc
  refine runS (w16.setCell ⟨pa, 1, none⟩ (.int .u64 18446744069414584319)) rfl (by rfl) (by go_simp) ?_
  clear hc hf
  replace hxa := hxa.far (p := ⟨pa, 1, none⟩) (show xa ≠ pa from (hxa.ne_ hpa (by decide))) (.int .u64 18446744069414584319)
  replace hpa : Blk (w16.setCell ⟨pa, 1, none⟩ (.int .u64 18446744069414584319)) pa 25 (alV (some ⟨xa, 0, none⟩) 1 1 18446744069414584319 18446744073709551615 4294967296) := hpa.set_ 1 (.int .u64 18446744069414584319)
  replace hW := hW.setCell (p := ⟨pa, 1, none⟩) lw_pa (.int .u64 18446744069414584319)
  generalize w16.setCell ⟨pa, 1, none⟩ (.int .u64 18446744069414584319) = w17 at *
  have hW_17 := hW
  refine wpList_nil ?_
  go_upto_region 9 with fail
  obtain ⟨_, hcm, _, _⟩ := alV_cells hpa
  refine wp_region_lit ?_
  refine runP 62 (.pointer (some ⟨pa, 1, none⟩)) rfl (by rfl) (by go_simp) ?_
  simp only [List.set_cons_zero, List.set_cons_succ]
  refine runP 63 (.int .u64 18446744069414584319) rfl (by rfl) (by go_simp) ?_
  simp only [List.set_cons_zero, List.set_cons_succ]
  clear hcm
  refine runW 64 (.slice (some ⟨w17.heap.size, 0, none⟩) 2 2) (w17.alloc (.cells (va .u64 [0, 18446744069414584319]) 23)) rfl (by rfl) (by go_simp; rfl) ?_
  simp only [List.set_cons_zero, List.set_cons_succ]
  have hxc : Blk (w17.alloc (.cells (va .u64 [0, 18446744069414584319]) 23)) w17.heap.size 23 (va .u64 [0, 18446744069414584319]) := Blk.new _ _ _
  have lxa_xc := hxa.lt
  have lpa_xc := hpa.lt
  replace hxa := hxa.alloc (.cells (va .u64 [0, 18446744069414584319]) 23)
  replace hpa := hpa.alloc (.cells (va .u64 [0, 18446744069414584319]) 23)
  replace hW := hW.alloc (Nat.le_trans hB0 hW.size) (.cells (va .u64 [0, 18446744069414584319]) 23)
  have lw_xc := Nat.le_trans hB0 hW_17.size
  generalize w17.alloc (.cells (va .u64 [0, 18446744069414584319]) 23) = w18 at *
  generalize w17.heap.size = xc at hxc lw_xc lxa_xc lpa_xc ⊢
  have hW_18 := hW
  refine runP 65 (.pointer (some ⟨pa, 0, none⟩)) rfl (by rfl) (by go_simp) ?_
  simp only [List.set_cons_zero, List.set_cons_succ]
  have hc := hpa.cell 0
  have hf := hpa.frozen 0
  simp only [alV] at hc
  refine runS (w18.setCell ⟨pa, 0, none⟩ (.slice (some ⟨xc, 0, none⟩) 2 2)) rfl (by rfl) (by go_simp) ?_
  clear hc hf
  replace hxa := hxa.far (p := ⟨pa, 0, none⟩) (show xa ≠ pa from (hxa.ne_ hpa (by decide))) (.slice (some ⟨xc, 0, none⟩) 2 2)
  replace hxc := hxc.far (p := ⟨pa, 0, none⟩) (show xc ≠ pa from (hxc.ne_ hpa (by decide))) (.slice (some ⟨xc, 0, none⟩) 2 2)
  replace hpa : Blk (w18.setCell ⟨pa, 0, none⟩ (.slice (some ⟨xc, 0, none⟩) 2 2)) pa 25 (alV (some ⟨xc, 0, none⟩) 2 2 18446744069414584319 18446744073709551615 4294967296) := hpa.set_ 0 (.slice (some ⟨xc, 0, none⟩) 2 2)
  replace hW := hW.setCell (p := ⟨pa, 0, none⟩) lw_pa (.slice (some ⟨xc, 0, none⟩) 2 2)
  generalize w18.setCell ⟨pa, 0, none⟩ (.slice (some ⟨xc, 0, none⟩) 2 2) = w19 at *
  have hW_19 := hW
  refine wpList_nil ?_
  clear hxa
  go_upto_region 10 with fail
  refine wp_region_lit ?_
  refine runP 67 (.agg (alV (some ⟨xc, 0, none⟩) 2 2 18446744069414584319 18446744073709551615 4294967296)) rfl (by rfl) (exec_row 25 (.tmp 2) rfl pa rfl 25 (alV (some ⟨xc, 0, none⟩) 2 2 18446744069414584319 18446744073709551615 4294967296) _ hpa Try.underlying25 rfl (alV_info _ _ _ _ _ _)) ?_
  simp only [List.set_cons_zero, List.set_cons_succ]
  refine callP 68 rfl (by rfl) (fun K hK => wp_callF 15 #[.agg (alV (some ⟨xc, 0, none⟩) 2 2 18446744069414584319 18446744073709551615 4294967296)] (by go_simp) (extend_to ⟨xc, 0, none⟩ 2 2 18446744069414584319 18446744073709551615 4294967296 18446744073709551615 (xc + 1) [0, 18446744069414584319] rfl (by omega) (by omega) (by decide) (by omega) (by omega) (by omega) _ (hxc.readsAll (Nat.lt_succ_self _) rfl) (by have := hxc.lt; omega)) ?_)
  rintro e w20 ⟨xd, rfl, hxd, hgd, bx⟩
  refine ⟨_, rfl, hK.out _ _ ?_⟩
  clear hK K
  replace hpa := hpa.below bx hpa.lt
  replace hxc := hxc.below bx hxc.lt
  replace hW := hW.trans (bx.mono (Nat.le_trans hB0 hW.size))
  clear bx
  have hW_20 := hW
  simp only [List.set_cons_zero, List.set_cons_succ]
  clear hgd
  refine runP 66 (.tuple #[.agg (alV (some ⟨xd, 0, none⟩) 2 2 18446744073709551615 18446744073709551615 4294967296), .int .i64 0]) rfl (by rfl) (by go_simp) ?_
  simp only [List.set_cons_zero, List.set_cons_succ]
  refine runP 69 (.agg (alV (some ⟨xd, 0, none⟩) 2 2 18446744073709551615 18446744073709551615 4294967296)) rfl (by rfl) (by go_simp) ?_
  simp only [List.set_cons_zero, List.set_cons_succ]
  refine runP 70 (.int .i64 0) rfl (by rfl) (by go_simp) ?_
  simp only [List.set_cons_zero, List.set_cons_succ]
  refine allocP 11 25 rfl (alV none 0 0 0 0 0) (zeroAl _) rfl (by rfl) ?_
  simp only [List.set_cons_zero, List.set_cons_succ]
  have hpd : Blk (w20.alloc (.cells (alV none 0 0 0 0 0) 25)) w20.heap.size 25 (alV none 0 0 0 0 0) := Blk.new _ _ _
  have lpa_pd := hpa.lt
  have lxc_pd := hxc.lt
  have lxd_pd := hxd.lt
  replace hpa := hpa.alloc (.cells (alV none 0 0 0 0 0) 25)
  replace hxc := hxc.alloc (.cells (alV none 0 0 0 0 0) 25)
  replace hxd := hxd.alloc (.cells (alV none 0 0 0 0 0) 25)
  replace hW := hW.alloc (Nat.le_trans hB0 hW.size) (.cells (alV none 0 0 0 0 0) 25)
  have lw_pd := Nat.le_trans hB0 hW_20.size
  generalize w20.alloc (.cells (alV none 0 0 0 0 0) 25) = w21 at *
  generalize w20.heap.size = pd at hpd lw_pd lpa_pd lxc_pd lxd_pd ⊢
  have hW_21 := hW
  refine storeP rfl (by rfl) 25 (.tmp 11) (.tmp 69) rfl pd rfl (alV (some ⟨xd, 0, none⟩) 2 2 18446744073709551615 18446744073709551615 4294967296) rfl 25 (alV none 0 0 0 0 0) hpd rfl (alV_info _ _ _ _ _ _) (alV_one _ _ _ _ _ _) ?_
  have npa : pd ≠ pa := (by omega)
  have nxc : pd ≠ xc := (hpd.ne_ hxc (by decide))
  have nxd : pd ≠ xd := (hpd.ne_ hxd (by decide))
  replace hpd := hpd.row (alV (some ⟨xd, 0, none⟩) 2 2 18446744073709551615 18446744073709551615 4294967296)
  replace hpa := hpa.rowFar npa (alV (some ⟨xd, 0, none⟩) 2 2 18446744073709551615 18446744073709551615 4294967296)
  replace hxc := hxc.rowFar nxc (alV (some ⟨xd, 0, none⟩) 2 2 18446744073709551615 18446744073709551615 4294967296)
  replace hxd := hxd.rowFar nxd (alV (some ⟨xd, 0, none⟩) 2 2 18446744073709551615 18446744073709551615 4294967296)
  clear npa nxc nxd
  replace hW := below_setRow hW lw_pd (alV (some ⟨xd, 0, none⟩) 2 2 18446744073709551615 18446744073709551615 4294967296)
  generalize w21.setRow pd (alV (some ⟨xd, 0, none⟩) 2 2 18446744073709551615 18446744073709551615 4294967296) = w22 at *
  have hW_22 := hW
  refine runP 12 (.int .i64 0) rfl (by rfl) (by go_simp) ?_
  simp only [List.set_cons_zero, List.set_cons_succ]
  refine wpList_nil ?_
  clear hxd
  go_upto_region 11 with fail
  obtain ⟨_, hcm, _, _⟩ := alV_cells hpa
  refine wp_region_lit ?_
  refine runP 71 (.pointer (some ⟨pa, 1, none⟩)) rfl (by rfl) (by go_simp) ?_
  simp only [List.set_cons_zero, List.set_cons_succ]
  refine runP 72 (.int .u64 18446744069414584319) rfl (by rfl) (by go_simp) ?_
  simp only [List.set_cons_zero, List.set_cons_succ]
  clear hcm
  refine runP 73 (.int .u64 18446744069414584320) rfl (by rfl) (by go_simp) ?_
  simp only [List.set_cons_zero, List.set_cons_succ]
  refine runP 74 (.pointer (some ⟨pa, 1, none⟩)) rfl (by rfl) (by go_simp) ?_
  simp only [List.set_cons_zero, List.set_cons_succ]
  have hc := hpa.cell 1
  have hf := hpa.frozen 1
  simp only [alV] at hc
  refine runS (w22.setCell ⟨pa, 1, none⟩ (.int .u64 18446744069414584320)) rfl (by rfl) (by go_simp) ?_
  clear hc hf
  replace hxc := hxc.far (p := ⟨pa, 1, none⟩) (show xc ≠ pa from (hxc.ne_ hpa (by decide))) (.int .u64 18446744069414584320)
  replace hpd := hpd.far (p := ⟨pa, 1, none⟩) (show pd ≠ pa from (by omega)) (.int .u64 18446744069414584320)
  replace hpa : Blk (w22.setCell ⟨pa, 1, none⟩ (.int .u64 18446744069414584320)) pa 25 (alV (some ⟨xc, 0, none⟩) 2 2 18446744069414584320 18446744073709551615 4294967296) := hpa.set_ 1 (.int .u64 18446744069414584320)
  replace hW := hW.setCell (p := ⟨pa, 1, none⟩) lw_pa (.int .u64 18446744069414584320)
  generalize w22.setCell ⟨pa, 1, none⟩ (.int .u64 18446744069414584320) = w23 at *
  have hW_23 := hW
  refine wpList_nil ?_
  go_upto_region 12 with fail
  refine wp_region_lit ?_
  refine runP 76 (.agg (alV (some ⟨xc, 0, none⟩) 2 2 18446744069414584320 18446744073709551615 4294967296)) rfl (by rfl) (exec_row 25 (.tmp 2) rfl pa rfl 25 (alV (some ⟨xc, 0, none⟩) 2 2 18446744069414584320 18446744073709551615 4294967296) _ hpa Try.underlying25 rfl (alV_info _ _ _ _ _ _)) ?_
  simp only [List.set_cons_zero, List.set_cons_succ]
  refine callP 77 rfl (by rfl) (fun K hK => wp_callF 15 #[.agg (alV (some ⟨xc, 0, none⟩) 2 2 18446744069414584320 18446744073709551615 4294967296)] (by go_simp) (extend_over (some ⟨xc, 0, none⟩) 2 2 18446744069414584320 18446744073709551615 4294967296 (xc + 1) [0, 18446744069414584319] (by decide) (by omega) (by omega) (by omega) _ (hxc.readsAll (Nat.lt_succ_self _) rfl) (by have := hxc.lt; omega)) ?_)
  rintro e w24 ⟨rfl, bx⟩
  refine ⟨_, rfl, hK.out _ _ ?_⟩
  clear hK K
  replace hpa := hpa.below bx hpa.lt
  replace hxc := hxc.below bx hxc.lt
  replace hpd := hpd.below bx hpd.lt
  replace hW := hW.trans (bx.mono (Nat.le_trans hB0 hW.size))
  clear bx
  have hW_24 := hW
  simp only [List.set_cons_zero, List.set_cons_succ]
  refine runP 75 (.tuple #[.agg (alV none 0 0 0 0 0), .int .i64 8]) rfl (by rfl) (by go_simp) ?_
  simp only [List.set_cons_zero, List.set_cons_succ]
  refine runP 78 (.agg (alV none 0 0 0 0 0)) rfl (by rfl) (by go_simp) ?_
  simp only [List.set_cons_zero, List.set_cons_succ]
  refine runP 79 (.int .i64 8) rfl (by rfl) (by go_simp) ?_
  simp only [List.set_cons_zero, List.set_cons_succ]
  refine allocP 13 25 rfl (alV none 0 0 0 0 0) (zeroAl _) rfl (by rfl) ?_
  simp only [List.set_cons_zero, List.set_cons_succ]
  have hp13 : Blk (w24.alloc (.cells (alV none 0 0 0 0 0) 25)) w24.heap.size 25 (alV none 0 0 0 0 0) := Blk.new _ _ _
  have lpa_p13 := hpa.lt
  have lxc_p13 := hxc.lt
  have lpd_p13 := hpd.lt
  replace hpa := hpa.alloc (.cells (alV none 0 0 0 0 0) 25)
  replace hxc := hxc.alloc (.cells (alV none 0 0 0 0 0) 25)
  replace hpd := hpd.alloc (.cells (alV none 0 0 0 0 0) 25)
  replace hW := hW.alloc (Nat.le_trans hB0 hW.size) (.cells (alV none 0 0 0 0 0) 25)
  have lw_p13 := Nat.le_trans hB0 hW_24.size
  generalize w24.alloc (.cells (alV none 0 0 0 0 0) 25) = w25 at *
  generalize w24.heap.size = p13 at hp13 lw_p13 lpa_p13 lxc_p13 lpd_p13 ⊢
  have hW_25 := hW
  refine storeP rfl (by rfl) 25 (.tmp 13) (.tmp 78) rfl p13 rfl (alV none 0 0 0 0 0) rfl 25 (alV none 0 0 0 0 0) hp13 rfl (alV_info _ _ _ _ _ _) (alV_one _ _ _ _ _ _) ?_
  have npa : p13 ≠ pa := (by omega)
  have nxc : p13 ≠ xc := (hp13.ne_ hxc (by decide))
  have npd : p13 ≠ pd := (by omega)
  replace hp13 := hp13.row (alV none 0 0 0 0 0)
  replace hpa := hpa.rowFar npa (alV none 0 0 0 0 0)
  replace hxc := hxc.rowFar nxc (alV none 0 0 0 0 0)
  replace hpd := hpd.rowFar npd (alV none 0 0 0 0 0)
  clear npa nxc npd
  replace hW := below_setRow hW lw_p13 (alV none 0 0 0 0 0)
  generalize w25.setRow p13 (alV none 0 0 0 0 0) = w26 at *
  have hW_26 := hW
  refine runP 14 (.int .i64 8) rfl (by rfl) (by go_simp) ?_
  simp only [List.set_cons_zero, List.set_cons_succ]
  refine wpList_nil ?_
  clear hp13
  clear hpa
  clear hxc
  go_upto_region 13 with fail
  refine wp_region_lit ?_
  refine runP 81 (.int .u64 18446744073709551615) rfl (by rfl) (by go_simp) ?_
  simp only [List.set_cons_zero, List.set_cons_succ]
  refine callP 82 rfl (by rfl) (fun K hK => wp_callF 10 #[.int .i64 8, .int .u64 18446744073709551615, .int .u64 4294967296] (by go_simp) (new_good_to 8 18446744073709551615 4294967296 [0, 0, 0, 0, 0, 0, 0, 0] rfl (by omega) (by omega) (by decide) _) ?_)
  rintro e w27 ⟨xe, rfl, hxe, hge, bx⟩
  refine ⟨_, rfl, hK.out _ _ ?_⟩
  clear hK K
  replace hpd := hpd.below bx hpd.lt
  replace hW := hW.trans (bx.mono (Nat.le_trans hB0 hW.size))
  clear bx
  have hW_27 := hW
  simp only [List.set_cons_zero, List.set_cons_succ]
  clear hge hxe
  refine runP 80 (.tuple #[.agg (alV (some ⟨xe, 0, none⟩) 8 8 0 18446744073709551615 4294967296), .int .i64 0]) rfl (by rfl) (by go_simp) ?_
  simp only [List.set_cons_zero, List.set_cons_succ]
  refine runP 83 (.agg (alV (some ⟨xe, 0, none⟩) 8 8 0 18446744073709551615 4294967296)) rfl (by rfl) (by go_simp) ?_
  simp only [List.set_cons_zero, List.set_cons_succ]
  refine runP 84 (.int .i64 0) rfl (by rfl) (by go_simp) ?_
  simp only [List.set_cons_zero, List.set_cons_succ]
  refine allocP 15 25 rfl (alV none 0 0 0 0 0) (zeroAl _) rfl (by rfl) ?_
  simp only [List.set_cons_zero, List.set_cons_succ]
  have hpe : Blk (w27.alloc (.cells (alV none 0 0 0 0 0) 25)) w27.heap.size 25 (alV none 0 0 0 0 0) := Blk.new _ _ _
  have lpd_pe := hpd.lt
  replace hpd := hpd.alloc (.cells (alV none 0 0 0 0 0) 25)
  replace hW := hW.alloc (Nat.le_trans hB0 hW.size) (.cells (alV none 0 0 0 0 0) 25)
  have lw_pe := Nat.le_trans hB0 hW_27.size
  generalize w27.alloc (.cells (alV none 0 0 0 0 0) 25) = w28 at *
  generalize w27.heap.size = pe at hpe lw_pe lpd_pe ⊢
  have hW_28 := hW
  refine storeP rfl (by rfl) 25 (.tmp 15) (.tmp 83) rfl pe rfl (alV (some ⟨xe, 0, none⟩) 8 8 0 18446744073709551615 4294967296) rfl 25 (alV none 0 0 0 0 0) hpe rfl (alV_info _ _ _ _ _ _) (alV_one _ _ _ _ _ _) ?_
  have npd : pe ≠ pd := (by omega)
  replace hpe := hpe.row (alV (some ⟨xe, 0, none⟩) 8 8 0 18446744073709551615 4294967296)
  replace hpd := hpd.rowFar npd (alV (some ⟨xe, 0, none⟩) 8 8 0 18446744073709551615 4294967296)
  clear npd
  replace hW := below_setRow hW lw_pe (alV (some ⟨xe, 0, none⟩) 8 8 0 18446744073709551615 4294967296)
  generalize w28.setRow pe (alV (some ⟨xe, 0, none⟩) 8 8 0 18446744073709551615 4294967296) = w29 at *
  have hW_29 := hW
  refine runP 16 (.int .i64 0) rfl (by rfl) (by go_simp) ?_
  simp only [List.set_cons_zero, List.set_cons_succ]
  refine wpList_nil ?_
  go_upto_region 14 with fail
  refine wp_region_lit ?_
  refine runP 86 (.int .u64 18446744073709551615) rfl (by rfl) (by go_simp) ?_
  simp only [List.set_cons_zero, List.set_cons_succ]
  refine callP 87 rfl (by rfl) (fun K hK => wp_callF 10 #[.int .i64 8, .int .u64 18446744073709551615, .int .u64 4294967297] (by go_simp) (new_bad 8 18446744073709551615 4294967297 (by omega) (by omega) (by decide) _) ?_)
  rintro e w30 ⟨rfl, bx⟩
  refine ⟨_, rfl, hK.out _ _ ?_⟩
  clear hK K
  replace hpd := hpd.below bx hpd.lt
  replace hpe := hpe.below bx hpe.lt
  replace hW := hW.trans (bx.mono (Nat.le_trans hB0 hW.size))
  clear bx
  have hW_30 := hW
  simp only [List.set_cons_zero, List.set_cons_succ]
  refine runP 85 (.tuple #[.agg (alV none 0 0 0 0 0), .int .i64 1]) rfl (by rfl) (by go_simp) ?_
  simp only [List.set_cons_zero, List.set_cons_succ]
  refine runP 88 (.agg (alV none 0 0 0 0 0)) rfl (by rfl) (by go_simp) ?_
  simp only [List.set_cons_zero, List.set_cons_succ]
  refine runP 89 (.int .i64 1) rfl (by rfl) (by go_simp) ?_
  simp only [List.set_cons_zero, List.set_cons_succ]
  refine allocP 17 25 rfl (alV none 0 0 0 0 0) (zeroAl _) rfl (by rfl) ?_
  simp only [List.set_cons_zero, List.set_cons_succ]
  have hpf : Blk (w30.alloc (.cells (alV none 0 0 0 0 0) 25)) w30.heap.size 25 (alV none 0 0 0 0 0) := Blk.new _ _ _
  have lpd_pf := hpd.lt
  have lpe_pf := hpe.lt
  replace hpd := hpd.alloc (.cells (alV none 0 0 0 0 0) 25)
  replace hpe := hpe.alloc (.cells (alV none 0 0 0 0 0) 25)
  replace hW := hW.alloc (Nat.le_trans hB0 hW.size) (.cells (alV none 0 0 0 0 0) 25)
  have lw_pf := Nat.le_trans hB0 hW_30.size
  generalize w30.alloc (.cells (alV none 0 0 0 0 0) 25) = w31 at *
  generalize w30.heap.size = pf at hpf lw_pf lpd_pf lpe_pf ⊢
  have hW_31 := hW
  refine storeP rfl (by rfl) 25 (.tmp 17) (.tmp 88) rfl pf rfl (alV none 0 0 0 0 0) rfl 25 (alV none 0 0 0 0 0) hpf rfl (alV_info _ _ _ _ _ _) (alV_one _ _ _ _ _ _) ?_
  have npd : pf ≠ pd := (by omega)
  have npe : pf ≠ pe := (by omega)
  replace hpf := hpf.row (alV none 0 0 0 0 0)
  replace hpd := hpd.rowFar npd (alV none 0 0 0 0 0)
  replace hpe := hpe.rowFar npe (alV none 0 0 0 0 0)
  clear npd npe
  replace hW := below_setRow hW lw_pf (alV none 0 0 0 0 0)
  generalize w31.setRow pf (alV none 0 0 0 0 0) = w32 at *
  have hW_32 := hW
  refine runP 18 (.int .i64 1) rfl (by rfl) (by go_simp) ?_
  simp only [List.set_cons_zero, List.set_cons_succ]
  refine wpList_nil ?_
  clear hpf
  go_upto_region 15 with fail
  obtain ⟨_, hcm, _, _⟩ := alV_cells hpd
  obtain ⟨hce, _, _, _⟩ := alV_cells hpe
  refine wp_region_lit ?_
  refine runP 90 (.int .i64 0) rfl (by rfl) (by go_simp) ?_
  simp only [List.set_cons_zero, List.set_cons_succ]
  refine runP 91 ((.bool true)) rfl (by rfl) (by go_simp) ?_
  simp only [List.set_cons_zero, List.set_cons_succ]
  refine runP 92 ((.bool true)) rfl (by rfl) (by go_simp) ?_
  simp only [List.set_cons_zero, List.set_cons_succ]
  refine runP 93 (.pointer (some ⟨pd, 1, none⟩)) rfl (by rfl) (by go_simp) ?_
  simp only [List.set_cons_zero, List.set_cons_succ]
  refine runP 94 (.int .u64 18446744073709551615) rfl (by rfl) (by go_simp) ?_
  simp only [List.set_cons_zero, List.set_cons_succ]
  refine runP 95 (.int .u64 18446744073709551615) rfl (by rfl) (by go_simp) ?_
  simp only [List.set_cons_zero, List.set_cons_succ]
  refine runP 96 ((.bool true)) rfl (by rfl) (by go_simp) ?_
  simp only [List.set_cons_zero, List.set_cons_succ]
  refine runP 97 ((.bool true)) rfl (by rfl) (by go_simp) ?_
  simp only [List.set_cons_zero, List.set_cons_succ]
  refine runP 98 ((.bool true)) rfl (by rfl) (by go_simp) ?_
  simp only [List.set_cons_zero, List.set_cons_succ]
  refine runP 99 (.int .i64 8) rfl (by rfl) (by go_simp) ?_
  simp only [List.set_cons_zero, List.set_cons_succ]
  refine runP 100 ((.bool true)) rfl (by rfl) (by go_simp) ?_
  simp only [List.set_cons_zero, List.set_cons_succ]
  refine runP 101 ((.bool true)) rfl (by rfl) (by go_simp) ?_
  simp only [List.set_cons_zero, List.set_cons_succ]
  refine runP 102 ((.bool true)) rfl (by rfl) (by go_simp) ?_
  simp only [List.set_cons_zero, List.set_cons_succ]
  refine runP 103 (.int .i64 0) rfl (by rfl) (by go_simp) ?_
  simp only [List.set_cons_zero, List.set_cons_succ]
  refine runP 104 ((.bool true)) rfl (by rfl) (by go_simp) ?_
  simp only [List.set_cons_zero, List.set_cons_succ]
  refine runP 105 ((.bool true)) rfl (by rfl) (by go_simp) ?_
  simp only [List.set_cons_zero, List.set_cons_succ]
  refine runP 106 ((.bool true)) rfl (by rfl) (by go_simp) ?_
  simp only [List.set_cons_zero, List.set_cons_succ]
  refine runP 107 (.pointer (some ⟨pe, 0, none⟩)) rfl (by rfl) (by go_simp) ?_
  simp only [List.set_cons_zero, List.set_cons_succ]
  refine runP 108 (.slice (some ⟨xe, 0, none⟩) 8 8) rfl (by rfl) (by go_simp) ?_
  simp only [List.set_cons_zero, List.set_cons_succ]
  refine runP 109 (.int .i64 8) rfl (by rfl) (by go_simp) ?_
  simp only [List.set_cons_zero, List.set_cons_succ]
  refine runP 110 ((.bool true)) rfl (by rfl) (by go_simp) ?_
  simp only [List.set_cons_zero, List.set_cons_succ]
  refine runP 111 ((.bool true)) rfl (by rfl) (by go_simp) ?_
  simp only [List.set_cons_zero, List.set_cons_succ]
  refine runP 112 ((.bool true)) rfl (by rfl) (by go_simp) ?_
  simp only [List.set_cons_zero, List.set_cons_succ]
  refine runP 113 (.int .i64 1) rfl (by rfl) (by go_simp) ?_
  simp only [List.set_cons_zero, List.set_cons_succ]
  refine runP 114 ((.bool true)) rfl (by rfl) (by go_simp) ?_
  simp only [List.set_cons_zero, List.set_cons_succ]
  refine runP 115 ((.bool true)) rfl (by rfl) (by go_simp) ?_
  simp only [List.set_cons_zero, List.set_cons_succ]
  refine runP 116 ((.bool true)) rfl (by rfl) (by go_simp) ?_
  simp only [List.set_cons_zero, List.set_cons_succ]
  refine runP 117 (.int .u64 18446744073709551615) rfl (by rfl) (by go_simp) ?_
  simp only [List.set_cons_zero, List.set_cons_succ]
  refine runP 118 (.agg (noV 4294967295 18446744073709551615)) rfl (by rfl) (exec_build 35 _ rfl (noV 4294967295 18446744073709551615) (by kernel_rfl)) ?_
  simp only [List.set_cons_zero, List.set_cons_succ]
  refine runP 119 (.agg (noV 0 0)) rfl (by rfl) (exec_build 35 _ rfl (noV 0 0) (by kernel_rfl)) ?_
  simp only [List.set_cons_zero, List.set_cons_succ]
  clear hcm hce hpd hpe
  have hmk : ∀ w : World, (Instr.makeSlice 47 (.int .i64 12) (.int .i64 12)).run Try.prog w = .ok (.slice (some ⟨w.heap.size, 0, none⟩) 12 12) (w.alloc (.cells (va .u8 (List.replicate 12 0)) 5)) := make_bytes 12 (by omega)
  refine runW 120 (.slice (some ⟨w32.heap.size, 0, none⟩) 12 12) (w32.alloc (.cells (va .u8 (List.replicate 12 0)) 5)) rfl (by rfl) (by go_simp) ?_
  simp only [List.set_cons_zero, List.set_cons_succ]
  clear hmk
  have hm : Blk (w32.alloc (.cells (va .u8 (List.replicate 12 0)) 5)) w32.heap.size 5 (va .u8 (List.replicate 12 0)) := Blk.new _ _ _
  replace hW := hW.alloc (Nat.le_trans hB0 hW.size) (.cells (va .u8 (List.replicate 12 0)) 5)
  generalize w32.alloc (.cells (va .u8 (List.replicate 12 0)) 5) = w33 at *
  generalize w32.heap.size = pm at hm ⊢
  have hW_33 := hW
  refine callP 121 rfl (by rfl) (fun K hK => wp_callF 6 #[.agg (noV 4294967295 18446744073709551615), .agg (noV 0 0), .slice (some ⟨pm, 0, none⟩) 12 12] (by go_simp) (bytes_any 4294967295 18446744073709551615 0 0 12 12 (pm + 1) (some ⟨pm, 0, none⟩) (List.replicate 12 0) (by omega) (by omega) (by omega) (by omega) (fun x hx => by rw [List.eq_of_mem_replicate hx]; omega) (by omega) _ (hm.readsAll (Nat.lt_succ_self _) rfl) (by have := hm.lt; omega)) ?_)
  rintro e w34 ⟨rfl, bx⟩
  refine ⟨_, rfl, hK.out _ _ ?_⟩
  clear hK K
  replace hW := hW.trans (bx.mono (Nat.le_trans hB0 hW.size))
  clear bx
  have hW_34 := hW
  simp only [List.set_cons_zero, List.set_cons_succ]
  clear hm
  refine runP 122 ((.bool true)) rfl (by rfl) (by go_simp) ?_
  simp only [List.set_cons_zero, List.set_cons_succ]
  refine runP 123 ((.bool true)) rfl (by rfl) (by go_simp) ?_
  simp only [List.set_cons_zero, List.set_cons_succ]
  refine callP 124 rfl (by rfl) (fun K hK => wp_callF 8 #[] (by go_simp) (lives08 _) ?_)
  rintro e w35 ⟨rfl, bx⟩
  refine ⟨_, rfl, hK.out _ _ ?_⟩
  clear hK K
  replace hW := hW.trans (bx.mono (Nat.le_trans hB0 hW.size))
  clear bx
  have hW_35 := hW
  simp only [List.set_cons_zero, List.set_cons_succ]
  refine runP 125 ((.bool true)) rfl (by rfl) (by go_simp) ?_
  simp only [List.set_cons_zero, List.set_cons_succ]
  refine runP 0 ((.bool true)) rfl (by rfl) (by go_simp) ?_
  simp only [List.set_cons_zero]
  refine wpList_nil ?_
  go_wp2_with fail
  go_ret
  exact ⟨rfl, hW⟩
end Go.Proofs.Ytaaldjmopifcjaa
