/-
  The walk of caissonlaw04.DerivesKnown. (Printed by mkdrv04h.py.)
-/
import Derived.Test.YtcdmbknmmnaocaaDoorDrvF
import Derived.Test.YtcdmbknmmnaocaaDoorDrvG
namespace Go.Proofs.YtcdmbknmmnaocaaDoor
open Go.RowKit Sh
def kX : List Nat := [120]
theorem bs_kX (W : World) : (Instr.buildSlice 22 1 #[(0, .int .u8 120)]).run Tryd.prog W = .ok (.slice (some ⟨W.heap.size, 0, none⟩) 1 1) (W.alloc (.cells (va .u8 kX) 5)) := by
  obtain ⟨ie, hie, h0, h1, h2⟩ := info_parts byte_info
  refine run_buildSlice W _ 5 1 _ (va .u8 kX) ie _ Tryd.underlying22 hie h0 (by rw [h1]; decide) (by rw [h1]; decide) ?_
  rw [h1]; kernel_rfl
theorem byt_kX : Byt kX := fun x hx => by
  have h : kX.all (· < 256) = true := by decide
  rw [List.all_eq_true] at h; simpa using h x hx
theorem byt_one31 : Byt (1 :: List.replicate 31 0) := fun x hx => by
  have h : (1 :: List.replicate 31 0).all (· < 256) = true := by decide
  rw [List.all_eq_true] at h; simpa using h x hx
set_option maxRecDepth 8000 in
set_option maxHeartbeats 4000000 in
theorem lawDKnown_any (w : World) (hg : Glob w) :
    Calls Tryd.prog 7 #[] w fun e w' => e = .returned (.bool true) ∧ Below w.heap.size w w' := by
  obtain ⟨B0, hB0e⟩ : ∃ b, w.heap.size = b := ⟨_, rfl⟩
  rw [hB0e]
  have hW : Below B0 w w := by rw [← hB0e]; exact Below.refl _ _
  have hB0 : B0 ≤ w.heap.size := by omega
  have gl := glob_of hg hB0e
  clear hg
  have hB0q := Lib.hid hB0e
  clear hB0e
  go_enter Tryd.func7, Tryd.ntmps7
  go_upto_region 0 with fail
  refine wl_lit ?_
  refine runL 0 (.bool false) rfl (by rfl) (by go_simp) ?_
  simp only [List.set_cons_zero]
  refine nilL ?_
  go_upto_region 1 with fail
  refine wl_lit ?_
  refine callL 7 rfl (by rfl) (fun K hK => wp_callF 16 #[.int .u8 1, .int .i64 32] (by go_simp) (from_any 1 32 (by decide) (by decide) _) ?_)
  rintro e w1 ⟨F1, cF1, rfl, hF1, bx⟩
  replace hF1 := hF1.mono (Nat.le_trans hB0 hW.size)
  replace hW := hW.trans (bx.mono (Nat.le_trans hB0 hW.size))
  clear bx
  refine ⟨_, rfl, hK.out _ _ ?_⟩
  clear hK K
  simp only [List.set_cons_zero, List.set_cons_succ]
  refine runL 1 (.slice (F1) 32 cF1) rfl (by rfl) (by go_simp) ?_
  simp only [List.set_cons_zero, List.set_cons_succ]
  refine nilL ?_
  go_upto_region 2 with fail
  refine wl_lit ?_
  refine runL 2 (.int .i64 30) rfl (by rfl) (by go_simp) ?_
  simp only [List.set_cons_zero, List.set_cons_succ]
  refine nilL ?_
  go_wp2
  go_loopw [2] (fun s wr => ∃ i : Nat, i ≤ 35 ∧ s = .int .i64 (i : Int) ∧ Own wr B0 F1 32 cF1 (fr 1 32) ∧ Below B0 w wr) (fun s _ => 35 - (intOf s).toNat)
  case atStart => exact ⟨30, by omega, rfl, hF1, hW⟩
  case round =>
    clear hF1 hW
    obtain ⟨i, hi, rfl, hF1, hW⟩ := hrel
    by_cases hlt : i < 35
    ·
      have hltI : (i : Int) < 35 := by omega
      have hwi : IntKind.i64.wrap ((i : Int) + 1) = ((i + 1 : Nat) : Int) := by rw [IntWalk.i64_in _ (by omega)]; omega
      have hw2 : IntKind.i64.wrap (2 * (i : Int)) = 2 * (i : Int) := IntWalk.i64_in _ (by omega)
      go_upto_region 5 with fail
      refine wl_lit ?_
      refine runL 12 (.slice (F1) 32 cF1) rfl (by rfl) (by go_simp) ?_
      simp only [List.set_cons_zero, List.set_cons_succ]
      refine runL 13 (.int .i64 (i : Int)) rfl (by rfl) (by go_simp) ?_
      simp only [List.set_cons_zero, List.set_cons_succ]
      refine callL 14 rfl (by rfl) (fun K hK => wp_callF 4 #[.slice (F1) 32 cF1, .slice none 0 0, .int .i64 (i : Int)] (by go_simp) (lawDExpand_any (fr 1 32) [] (i : Int) (by omega) F1 32 cF1 _ none 0 0 0 (fr_byt _ _) Byt.nil hF1.cap (Nat.le_refl _) _ (gl.out _ hW) hF1.reads (Nat.le_refl _) Reads.none_ (Nat.zero_le _)) ?_)
      rintro e w2 ⟨rfl, bx⟩
      replace hF1 := hF1.below bx
      replace hW := hW.trans (bx.mono (Nat.le_trans hB0 hW.size))
      clear bx
      refine ⟨_, rfl, hK.out _ _ ?_⟩
      clear hK K
      simp only [List.set_cons_zero, List.set_cons_succ]
      refine runL 15 (.bool false) rfl (by rfl) (by go_simp) ?_
      simp only [List.set_cons_zero, List.set_cons_succ]
      refine runL 16 (.bool false) rfl (by rfl) (by go_simp) ?_
      simp only [List.set_cons_zero, List.set_cons_succ]
      refine runL 17 (.slice (F1) 32 cF1) rfl (by rfl) (by go_simp) ?_
      simp only [List.set_cons_zero, List.set_cons_succ]
      refine runL 18 (.int .i64 (i : Int)) rfl (by rfl) (by go_simp) ?_
      simp only [List.set_cons_zero, List.set_cons_succ]
      refine runL 19 (.int .i64 (2 * (i : Int))) rfl (by rfl) (by go_simp) ?_
      simp only [List.set_cons_zero, List.set_cons_succ]
      refine callL 20 rfl (by rfl) (fun K hK => wp_callF 4 #[.slice none 0 0, .slice (F1) 32 cF1, .int .i64 (2 * (i : Int))] (by go_simp) (lawDExpand_any [] (fr 1 32) (2 * (i : Int)) (by omega) none 0 0 0 F1 32 cF1 _ Byt.nil (fr_byt _ _) (Nat.le_refl _) hF1.cap _ (gl.out _ hW) Reads.none_ (Nat.zero_le _) hF1.reads (Nat.le_refl _)) ?_)
      rintro e w3 ⟨rfl, bx⟩
      replace hF1 := hF1.below bx
      replace hW := hW.trans (bx.mono (Nat.le_trans hB0 hW.size))
      clear bx
      refine ⟨_, rfl, hK.out _ _ ?_⟩
      clear hK K
      simp only [List.set_cons_zero, List.set_cons_succ]
      refine runL 21 (.bool false) rfl (by rfl) (by go_simp) ?_
      simp only [List.set_cons_zero, List.set_cons_succ]
      refine runL 22 (.bool false) rfl (by rfl) (by go_simp) ?_
      simp only [List.set_cons_zero, List.set_cons_succ]
      refine nilL ?_
      go_wp2
      go_roundw
      case rel => exact ⟨i + 1, by omega, by go_num, hF1, hW⟩
      case measure => simp [intOf]; omega
    ·
      have hltI : ¬ (i : Int) < 35 := by omega
      clear hlt hi
      obtain ⟨r, hr⟩ : ∃ r, ex (fr 1 32) kX 8160 = r := ⟨_, rfl⟩
      obtain ⟨s, hs⟩ : ∃ r, ex (fr 1 32) kX 8159 = r := ⟨_, rfl⟩
      have hrq := Lib.hid hr
      have hsq := Lib.hid hs
      clear hr hs
      go_upto_region 7 with fail
      refine wl_lit ?_
      refine runL 24 (.slice (F1) 32 cF1) rfl (by rfl) (by go_simp) ?_
      simp only [List.set_cons_zero, List.set_cons_succ]
      refine runWL 25 (.slice (some ⟨wr.heap.size, 0, none⟩) 1 1) (wr.alloc (.cells (va .u8 (kX)) 5)) rfl (by rfl) (exec_bslice 22 1 _ rfl _ (by exact bs_kX _)) ?_
      simp only [List.set_cons_zero, List.set_cons_succ]
      have nF1_q1 := hF1.new_off
      have lw_q1 := Nat.le_trans hB0 hW.size
      have hq1 : Blk (wr.alloc (.cells (va .u8 (kX)) 5)) wr.heap.size 5 (va .u8 (kX)) := Blk.new _ _ _
      replace hF1 := hF1.alloc (.cells (va .u8 (kX)) 5)
      replace hW := hW.alloc (Nat.le_trans hB0 hW.size) (.cells (va .u8 (kX)) 5)
      generalize wr.alloc (.cells (va .u8 (kX)) 5) = w4 at *
      generalize wr.heap.size = q1 at hq1 lw_q1 nF1_q1 ⊢
      refine runWL 26 (.slice (some ⟨q1, 0, none⟩) 1 1) (w4.freeze ⟨q1, 1, none⟩ 1) rfl (by rfl) (exec_convW 22 22 (.tmp 25) rfl (.slice (some ⟨q1, 0, none⟩) 1 1) (.slice (some ⟨q1, 0, none⟩) 1 1) rfl (conv_blk (n := 1) (c := 1) hq1 (rfl))) ?_
      simp only [List.set_cons_zero, List.set_cons_succ]
      replace hF1 := hF1.freeze_ (k := 1) (m := 1) nF1_q1
      replace hq1 := hq1.byB.freeze ⟨q1, 1, none⟩ 1
      replace hW := Lib.below_freeze (p := ⟨q1, 1, none⟩) hW lw_q1 1
      generalize w4.freeze ⟨q1, 1, none⟩ 1 = w5 at *
      refine callL 27 rfl (by rfl) (fun K hK => wp_callF 11 #[.slice (F1) 32 cF1, .slice (some ⟨q1, 0, none⟩) 1 1, .int .i64 8160] (by go_simp) (dexp_to (fr 1 32) kX 8160 r hrq.out (by decide) F1 32 cF1 _ _ 1 1 _ (fr_byt _ _) byt_kX hF1.cap (by decide) (by decide) (by decide) _ (gl.out _ hW) hF1.reads (Nat.le_refl _) (hq1.reads (rfl)) hq1.lt) ?_)
      rintro e w6 ⟨AX, rfl, hAX, bx⟩
      replace hAX := hAX.mono (Nat.le_trans hB0 hW.size)
      replace hF1 := hF1.below bx
      replace hq1 := hq1.below bx hq1.lt
      replace hW := hW.trans (bx.mono (Nat.le_trans hB0 hW.size))
      clear bx
      refine ⟨_, rfl, hK.out _ _ ?_⟩
      clear hK K
      simp only [List.set_cons_zero, List.set_cons_succ]
      refine runL 23 (.tuple #[.slice (AX) 8160 8160, .int .i64 0]) rfl (by rfl) (by go_simp) ?_
      simp only [List.set_cons_zero, List.set_cons_succ]
      refine runL 28 (.slice (AX) 8160 8160) rfl (by rfl) (by go_simp) ?_
      simp only [List.set_cons_zero, List.set_cons_succ]
      refine runL 29 (.int .i64 0) rfl (by rfl) (by go_simp) ?_
      simp only [List.set_cons_zero, List.set_cons_succ]
      refine runL 3 (.slice (AX) 8160 8160) rfl (by rfl) (by go_simp) ?_
      simp only [List.set_cons_zero, List.set_cons_succ]
      refine runL 4 (.int .i64 0) rfl (by rfl) (by go_simp) ?_
      simp only [List.set_cons_zero, List.set_cons_succ]
      refine nilL ?_
      go_upto_region 8 with fail
      refine wl_lit ?_
      refine runL 31 (.slice (F1) 32 cF1) rfl (by rfl) (by go_simp) ?_
      simp only [List.set_cons_zero, List.set_cons_succ]
      refine runWL 32 (.slice (some ⟨w6.heap.size, 0, none⟩) 1 1) (w6.alloc (.cells (va .u8 (kX)) 5)) rfl (by rfl) (exec_bslice 22 1 _ rfl _ (by exact bs_kX _)) ?_
      simp only [List.set_cons_zero, List.set_cons_succ]
      have nF1_q2 := hF1.new_off
      have lq1_q2 := hq1.lt
      have nAX_q2 := hAX.new_off
      have lw_q2 := Nat.le_trans hB0 hW.size
      have hq2 : Blk (w6.alloc (.cells (va .u8 (kX)) 5)) w6.heap.size 5 (va .u8 (kX)) := Blk.new _ _ _
      replace hF1 := hF1.alloc (.cells (va .u8 (kX)) 5)
      replace hq1 := hq1.alloc (.cells (va .u8 (kX)) 5)
      replace hAX := hAX.alloc (.cells (va .u8 (kX)) 5)
      replace hW := hW.alloc (Nat.le_trans hB0 hW.size) (.cells (va .u8 (kX)) 5)
      generalize w6.alloc (.cells (va .u8 (kX)) 5) = w7 at *
      generalize w6.heap.size = q2 at hq2 lw_q2 nF1_q2 lq1_q2 nAX_q2 ⊢
      refine runWL 33 (.slice (some ⟨q2, 0, none⟩) 1 1) (w7.freeze ⟨q2, 1, none⟩ 1) rfl (by rfl) (exec_convW 22 22 (.tmp 32) rfl (.slice (some ⟨q2, 0, none⟩) 1 1) (.slice (some ⟨q2, 0, none⟩) 1 1) rfl (conv_blk (n := 1) (c := 1) hq2 (rfl))) ?_
      simp only [List.set_cons_zero, List.set_cons_succ]
      replace hF1 := hF1.freeze_ (k := 1) (m := 1) nF1_q2
      replace hq1 := hq1.freeze ⟨q2, 1, none⟩ 1
      replace hAX := hAX.freeze_ (k := 1) (m := 1) nAX_q2
      replace hq2 := hq2.byB.freeze ⟨q2, 1, none⟩ 1
      replace hW := Lib.below_freeze (p := ⟨q2, 1, none⟩) hW lw_q2 1
      generalize w7.freeze ⟨q2, 1, none⟩ 1 = w8 at *
      refine callL 34 rfl (by rfl) (fun K hK => wp_callF 11 #[.slice (F1) 32 cF1, .slice (some ⟨q2, 0, none⟩) 1 1, .int .i64 8159] (by go_simp) (dexp_to (fr 1 32) kX 8159 s hsq.out (by decide) F1 32 cF1 _ _ 1 1 _ (fr_byt _ _) byt_kX hF1.cap (by decide) (by decide) (by decide) _ (gl.out _ hW) hF1.reads (Nat.le_refl _) (hq2.reads (rfl)) hq2.lt) ?_)
      rintro e w9 ⟨AY, rfl, hAY, bx⟩
      replace hAY := hAY.mono (Nat.le_trans hB0 hW.size)
      replace hF1 := hF1.below bx
      replace hq1 := hq1.below bx hq1.lt
      replace hAX := hAX.below bx
      replace hq2 := hq2.below bx hq2.lt
      replace hW := hW.trans (bx.mono (Nat.le_trans hB0 hW.size))
      clear bx
      refine ⟨_, rfl, hK.out _ _ ?_⟩
      clear hK K
      simp only [List.set_cons_zero, List.set_cons_succ]
      refine runL 30 (.tuple #[.slice (AY) 8159 8159, .int .i64 0]) rfl (by rfl) (by go_simp) ?_
      simp only [List.set_cons_zero, List.set_cons_succ]
      refine runL 35 (.slice (AY) 8159 8159) rfl (by rfl) (by go_simp) ?_
      simp only [List.set_cons_zero, List.set_cons_succ]
      refine runL 36 (.int .i64 0) rfl (by rfl) (by go_simp) ?_
      simp only [List.set_cons_zero, List.set_cons_succ]
      refine runL 5 (.slice (AY) 8159 8159) rfl (by rfl) (by go_simp) ?_
      simp only [List.set_cons_zero, List.set_cons_succ]
      refine runL 6 (.int .i64 0) rfl (by rfl) (by go_simp) ?_
      simp only [List.set_cons_zero, List.set_cons_succ]
      refine nilL ?_
      go_upto_region 9 with fail
      refine wl_lit ?_
      refine runL 37 (.slice (AX) 8160 8160) rfl (by rfl) (by go_simp) ?_
      simp only [List.set_cons_zero, List.set_cons_succ]
      refine runL 38 (.int .i64 0) rfl (by rfl) (by go_simp) ?_
      simp only [List.set_cons_zero, List.set_cons_succ]
      refine runL 39 (.slice (F1) 32 cF1) rfl (by rfl) (by go_simp) ?_
      simp only [List.set_cons_zero, List.set_cons_succ]
      refine runWL 40 (.slice (some ⟨w9.heap.size, 0, none⟩) 1 1) (w9.alloc (.cells (va .u8 (kX)) 5)) rfl (by rfl) (exec_bslice 22 1 _ rfl _ (by exact bs_kX _)) ?_
      simp only [List.set_cons_zero, List.set_cons_succ]
      have nF1_q3 := hF1.new_off
      have lq1_q3 := hq1.lt
      have nAX_q3 := hAX.new_off
      have lq2_q3 := hq2.lt
      have nAY_q3 := hAY.new_off
      have lw_q3 := Nat.le_trans hB0 hW.size
      have hq3 : Blk (w9.alloc (.cells (va .u8 (kX)) 5)) w9.heap.size 5 (va .u8 (kX)) := Blk.new _ _ _
      replace hF1 := hF1.alloc (.cells (va .u8 (kX)) 5)
      replace hq1 := hq1.alloc (.cells (va .u8 (kX)) 5)
      replace hAX := hAX.alloc (.cells (va .u8 (kX)) 5)
      replace hq2 := hq2.alloc (.cells (va .u8 (kX)) 5)
      replace hAY := hAY.alloc (.cells (va .u8 (kX)) 5)
      replace hW := hW.alloc (Nat.le_trans hB0 hW.size) (.cells (va .u8 (kX)) 5)
      generalize w9.alloc (.cells (va .u8 (kX)) 5) = w10 at *
      generalize w9.heap.size = q3 at hq3 lw_q3 nF1_q3 lq1_q3 nAX_q3 lq2_q3 nAY_q3 ⊢
      refine runWL 41 (.slice (some ⟨q3, 0, none⟩) 1 1) (w10.freeze ⟨q3, 1, none⟩ 1) rfl (by rfl) (exec_convW 22 22 (.tmp 40) rfl (.slice (some ⟨q3, 0, none⟩) 1 1) (.slice (some ⟨q3, 0, none⟩) 1 1) rfl (conv_blk (n := 1) (c := 1) hq3 (rfl))) ?_
      simp only [List.set_cons_zero, List.set_cons_succ]
      replace hF1 := hF1.freeze_ (k := 1) (m := 1) nF1_q3
      replace hq1 := hq1.freeze ⟨q3, 1, none⟩ 1
      replace hAX := hAX.freeze_ (k := 1) (m := 1) nAX_q3
      replace hq2 := hq2.freeze ⟨q3, 1, none⟩ 1
      replace hAY := hAY.freeze_ (k := 1) (m := 1) nAY_q3
      replace hq3 := hq3.byB.freeze ⟨q3, 1, none⟩ 1
      replace hW := Lib.below_freeze (p := ⟨q3, 1, none⟩) hW lw_q3 1
      generalize w10.freeze ⟨q3, 1, none⟩ 1 = w11 at *
      refine callL 42 rfl (by rfl) (fun K hK => wp_callF 13 #[.slice (F1) 32 cF1, .slice (some ⟨q3, 0, none⟩) 1 1, .int .i64 8160] (by go_simp) (rexp_any (fr 1 32) kX 8160 (by decide) F1 32 cF1 _ _ 1 1 _ (fr_byt _ _) byt_kX hF1.cap (by decide) (by decide) (by decide) _ hF1.reads (Nat.le_refl _) (hq3.reads (rfl)) hq3.lt) ?_)
      rintro e w12 ⟨AR, cAR, rfl, hAR, bx⟩
      replace hAR := hAR.mono (Nat.le_trans hB0 hW.size)
      replace hF1 := hF1.below bx
      replace hq1 := hq1.below bx hq1.lt
      replace hAX := hAX.below bx
      replace hq2 := hq2.below bx hq2.lt
      replace hAY := hAY.below bx
      replace hq3 := hq3.below bx hq3.lt
      replace hW := hW.trans (bx.mono (Nat.le_trans hB0 hW.size))
      clear bx
      rw [hrq.out] at hAR
      refine ⟨_, rfl, hK.out _ _ ?_⟩
      clear hK K
      simp only [List.set_cons_zero, List.set_cons_succ]
      refine callL 43 rfl (by rfl) (fun K hK => wp_callF 12 #[.slice (AX) 8160 8160, .int .i64 0, .slice (AR) 8160 cAR, .int .i64 0] (by go_simp) (same04_any r AX 8160 _ AR cAR _ 0 _ hAX.reads (Nat.le_refl _) hAR.reads (Nat.le_refl _)) ?_)
      rintro e w13 ⟨rfl, bx⟩
      replace hF1 := hF1.below bx
      replace hq1 := hq1.below bx hq1.lt
      replace hAX := hAX.below bx
      replace hq2 := hq2.below bx hq2.lt
      replace hAY := hAY.below bx
      replace hq3 := hq3.below bx hq3.lt
      replace hAR := hAR.below bx
      replace hW := hW.trans (bx.mono (Nat.le_trans hB0 hW.size))
      clear bx
      refine ⟨_, rfl, hK.out _ _ ?_⟩
      clear hK K
      simp only [List.set_cons_zero, List.set_cons_succ]
      refine runL 44 (.bool true) rfl (by rfl) (by go_simp) ?_
      simp only [List.set_cons_zero, List.set_cons_succ]
      refine runL 45 (.slice (AX) 8160 8160) rfl (by rfl) (by go_simp) ?_
      simp only [List.set_cons_zero, List.set_cons_succ]
      refine runL 46 (.int .i64 8160) rfl (by rfl) (by go_simp) ?_
      simp only [List.set_cons_zero, List.set_cons_succ]
      refine runL 47 (.bool true) rfl (by rfl) (by go_simp) ?_
      simp only [List.set_cons_zero, List.set_cons_succ]
      refine runL 48 (.bool true) rfl (by rfl) (by go_simp) ?_
      simp only [List.set_cons_zero, List.set_cons_succ]
      refine runL 49 (.bool true) rfl (by rfl) (by go_simp) ?_
      simp only [List.set_cons_zero, List.set_cons_succ]
      refine runL 50 (.slice (AY) 8159 8159) rfl (by rfl) (by go_simp) ?_
      simp only [List.set_cons_zero, List.set_cons_succ]
      refine runL 51 (.int .i64 0) rfl (by rfl) (by go_simp) ?_
      simp only [List.set_cons_zero, List.set_cons_succ]
      refine runL 52 (.slice (F1) 32 cF1) rfl (by rfl) (by go_simp) ?_
      simp only [List.set_cons_zero, List.set_cons_succ]
      refine runWL 53 (.slice (some ⟨w13.heap.size, 0, none⟩) 1 1) (w13.alloc (.cells (va .u8 (kX)) 5)) rfl (by rfl) (exec_bslice 22 1 _ rfl _ (by exact bs_kX _)) ?_
      simp only [List.set_cons_zero, List.set_cons_succ]
      have nF1_q4 := hF1.new_off
      have lq1_q4 := hq1.lt
      have nAX_q4 := hAX.new_off
      have lq2_q4 := hq2.lt
      have nAY_q4 := hAY.new_off
      have lq3_q4 := hq3.lt
      have nAR_q4 := hAR.new_off
      have lw_q4 := Nat.le_trans hB0 hW.size
      have hq4 : Blk (w13.alloc (.cells (va .u8 (kX)) 5)) w13.heap.size 5 (va .u8 (kX)) := Blk.new _ _ _
      replace hF1 := hF1.alloc (.cells (va .u8 (kX)) 5)
      replace hq1 := hq1.alloc (.cells (va .u8 (kX)) 5)
      replace hAX := hAX.alloc (.cells (va .u8 (kX)) 5)
      replace hq2 := hq2.alloc (.cells (va .u8 (kX)) 5)
      replace hAY := hAY.alloc (.cells (va .u8 (kX)) 5)
      replace hq3 := hq3.alloc (.cells (va .u8 (kX)) 5)
      replace hAR := hAR.alloc (.cells (va .u8 (kX)) 5)
      replace hW := hW.alloc (Nat.le_trans hB0 hW.size) (.cells (va .u8 (kX)) 5)
      generalize w13.alloc (.cells (va .u8 (kX)) 5) = w14 at *
      generalize w13.heap.size = q4 at hq4 lw_q4 nF1_q4 lq1_q4 nAX_q4 lq2_q4 nAY_q4 lq3_q4 nAR_q4 ⊢
      refine runWL 54 (.slice (some ⟨q4, 0, none⟩) 1 1) (w14.freeze ⟨q4, 1, none⟩ 1) rfl (by rfl) (exec_convW 22 22 (.tmp 53) rfl (.slice (some ⟨q4, 0, none⟩) 1 1) (.slice (some ⟨q4, 0, none⟩) 1 1) rfl (conv_blk (n := 1) (c := 1) hq4 (rfl))) ?_
      simp only [List.set_cons_zero, List.set_cons_succ]
      replace hF1 := hF1.freeze_ (k := 1) (m := 1) nF1_q4
      replace hq1 := hq1.freeze ⟨q4, 1, none⟩ 1
      replace hAX := hAX.freeze_ (k := 1) (m := 1) nAX_q4
      replace hq2 := hq2.freeze ⟨q4, 1, none⟩ 1
      replace hAY := hAY.freeze_ (k := 1) (m := 1) nAY_q4
      replace hq3 := hq3.freeze ⟨q4, 1, none⟩ 1
      replace hAR := hAR.freeze_ (k := 1) (m := 1) nAR_q4
      replace hq4 := hq4.byB.freeze ⟨q4, 1, none⟩ 1
      replace hW := Lib.below_freeze (p := ⟨q4, 1, none⟩) hW lw_q4 1
      generalize w14.freeze ⟨q4, 1, none⟩ 1 = w15 at *
      refine callL 55 rfl (by rfl) (fun K hK => wp_callF 13 #[.slice (F1) 32 cF1, .slice (some ⟨q4, 0, none⟩) 1 1, .int .i64 8159] (by go_simp) (rexp_any (fr 1 32) kX 8159 (by decide) F1 32 cF1 _ _ 1 1 _ (fr_byt _ _) byt_kX hF1.cap (by decide) (by decide) (by decide) _ hF1.reads (Nat.le_refl _) (hq4.reads (rfl)) hq4.lt) ?_)
      rintro e w16 ⟨AS, cAS, rfl, hAS, bx⟩
      replace hAS := hAS.mono (Nat.le_trans hB0 hW.size)
      replace hF1 := hF1.below bx
      replace hq1 := hq1.below bx hq1.lt
      replace hAX := hAX.below bx
      replace hq2 := hq2.below bx hq2.lt
      replace hAY := hAY.below bx
      replace hq3 := hq3.below bx hq3.lt
      replace hAR := hAR.below bx
      replace hq4 := hq4.below bx hq4.lt
      replace hW := hW.trans (bx.mono (Nat.le_trans hB0 hW.size))
      clear bx
      rw [hsq.out] at hAS
      refine ⟨_, rfl, hK.out _ _ ?_⟩
      clear hK K
      simp only [List.set_cons_zero, List.set_cons_succ]
      refine callL 56 rfl (by rfl) (fun K hK => wp_callF 12 #[.slice (AY) 8159 8159, .int .i64 0, .slice (AS) 8159 cAS, .int .i64 0] (by go_simp) (same04_any s AY 8159 _ AS cAS _ 0 _ hAY.reads (Nat.le_refl _) hAS.reads (Nat.le_refl _)) ?_)
      rintro e w17 ⟨rfl, bx⟩
      replace hF1 := hF1.below bx
      replace hq1 := hq1.below bx hq1.lt
      replace hAX := hAX.below bx
      replace hq2 := hq2.below bx hq2.lt
      replace hAY := hAY.below bx
      replace hq3 := hq3.below bx hq3.lt
      replace hAR := hAR.below bx
      replace hq4 := hq4.below bx hq4.lt
      replace hAS := hAS.below bx
      replace hW := hW.trans (bx.mono (Nat.le_trans hB0 hW.size))
      clear bx
      refine ⟨_, rfl, hK.out _ _ ?_⟩
      clear hK K
      simp only [List.set_cons_zero, List.set_cons_succ]
      refine runL 57 (.bool true) rfl (by rfl) (by go_simp) ?_
      simp only [List.set_cons_zero, List.set_cons_succ]
      refine runL 58 (.bool true) rfl (by rfl) (by go_simp) ?_
      simp only [List.set_cons_zero, List.set_cons_succ]
      refine runL 59 (.agg (va .u8 (List.replicate 32 0))) rfl (by rfl) (exec_build 36 _ rfl (va .u8 (List.replicate 32 0)) (by kernel_rfl)) ?_
      simp only [List.set_cons_zero, List.set_cons_succ]
      refine callL 60 rfl (by rfl) (fun K hK => wp_callF 6 #[.agg (va .u8 (List.replicate 32 0))] (by go_simp) (lawDVolume_any (List.replicate 32 0) List.length_replicate (Byt.rep _ _ (by omega)) _ (gl.out _ hW)) ?_)
      rintro e w18 ⟨rfl, bx⟩
      replace hF1 := hF1.below bx
      replace hq1 := hq1.below bx hq1.lt
      replace hAX := hAX.below bx
      replace hq2 := hq2.below bx hq2.lt
      replace hAY := hAY.below bx
      replace hq3 := hq3.below bx hq3.lt
      replace hAR := hAR.below bx
      replace hq4 := hq4.below bx hq4.lt
      replace hAS := hAS.below bx
      replace hW := hW.trans (bx.mono (Nat.le_trans hB0 hW.size))
      clear bx
      refine ⟨_, rfl, hK.out _ _ ?_⟩
      clear hK K
      simp only [List.set_cons_zero, List.set_cons_succ]
      refine runL 61 (.bool true) rfl (by rfl) (by go_simp) ?_
      simp only [List.set_cons_zero, List.set_cons_succ]
      refine runL 62 (.bool true) rfl (by rfl) (by go_simp) ?_
      simp only [List.set_cons_zero, List.set_cons_succ]
      refine runL 63 (.agg (va .u8 (1 :: List.replicate 31 0))) rfl (by rfl) (exec_build 36 _ rfl (va .u8 (1 :: List.replicate 31 0)) (by kernel_rfl)) ?_
      simp only [List.set_cons_zero, List.set_cons_succ]
      refine callL 64 rfl (by rfl) (fun K hK => wp_callF 6 #[.agg (va .u8 (1 :: List.replicate 31 0))] (by go_simp) (lawDVolume_any (1 :: List.replicate 31 0) rfl byt_one31 _ (gl.out _ hW)) ?_)
      rintro e w19 ⟨rfl, bx⟩
      replace hF1 := hF1.below bx
      replace hq1 := hq1.below bx hq1.lt
      replace hAX := hAX.below bx
      replace hq2 := hq2.below bx hq2.lt
      replace hAY := hAY.below bx
      replace hq3 := hq3.below bx hq3.lt
      replace hAR := hAR.below bx
      replace hq4 := hq4.below bx hq4.lt
      replace hAS := hAS.below bx
      replace hW := hW.trans (bx.mono (Nat.le_trans hB0 hW.size))
      clear bx
      refine ⟨_, rfl, hK.out _ _ ?_⟩
      clear hK K
      simp only [List.set_cons_zero, List.set_cons_succ]
      refine runL 65 (.bool true) rfl (by rfl) (by go_simp) ?_
      simp only [List.set_cons_zero, List.set_cons_succ]
      refine runL 66 (.bool true) rfl (by rfl) (by go_simp) ?_
      simp only [List.set_cons_zero, List.set_cons_succ]
      refine callL 67 rfl (by rfl) (fun K hK => wp_callF 8 #[] (by go_simp) (lives04_any _ (gl.out _ hW)) ?_)
      rintro e w20 ⟨rfl, bx⟩
      replace hF1 := hF1.below bx
      replace hq1 := hq1.below bx hq1.lt
      replace hAX := hAX.below bx
      replace hq2 := hq2.below bx hq2.lt
      replace hAY := hAY.below bx
      replace hq3 := hq3.below bx hq3.lt
      replace hAR := hAR.below bx
      replace hq4 := hq4.below bx hq4.lt
      replace hAS := hAS.below bx
      replace hW := hW.trans (bx.mono (Nat.le_trans hB0 hW.size))
      clear bx
      refine ⟨_, rfl, hK.out _ _ ?_⟩
      clear hK K
      simp only [List.set_cons_zero, List.set_cons_succ]
      refine runL 68 (.bool true) rfl (by rfl) (by go_simp) ?_
      simp only [List.set_cons_zero, List.set_cons_succ]
      refine runL 0 (.bool true) rfl (by rfl) (by go_simp) ?_
      simp only [List.set_cons_zero]
      refine nilL ?_
      go_wp2_with fail
      go_ret
      exact ⟨rfl, hW⟩
end Go.Proofs.YtcdmbknmmnaocaaDoor
