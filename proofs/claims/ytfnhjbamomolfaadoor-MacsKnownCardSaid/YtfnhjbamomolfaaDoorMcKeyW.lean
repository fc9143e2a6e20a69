/-
  The walk of MacsKey. (Printed by mk03.py.)
-/
import Derived.Test.YtfnhjbamomolfaaDoorMcLive
import Derived.Test.YtfnhjbamomolfaaDoorAppZ
namespace Go.Proofs.YtfnhjbamomolfaaDoor
open Go.RowKit Sh

theorem macof_eq (key m res : List Nat) (hres : hm key m = res) (A : Option Addr) (n c B : Nat) (ms : List (List Nat)) (hms : ms.flatten = m) (A2 : Option Addr) (n2 c2 B2 : Nat) (hk : Byt key) (hnc : n ≤ c) (hn : n < 100000) (hn2 : n2 < 1000) (hlen : m.length < 100000) (w : World) (hg : Glob w)
    (hr : Reads w B 1 A n (nv .u8 key)) (hB : B ≤ w.heap.size) (hp : Parts w B2 A2 n2 ms) (hB2 : B2 ≤ w.heap.size) :
    Calls Tryd.prog 12 #[.slice A n c, .slice A2 n2 c2] w fun e w' => e = .returned (.agg (va .u8 res)) ∧ Below w.heap.size w w' := by
  subst hres; exact macof_to key m A n c B ms hms A2 n2 c2 B2 hk hnc hn hn2 hlen w hg hr hB hp hB2

set_option maxRecDepth 8000 in
set_option maxHeartbeats 4000000 in
theorem lawKey_any (key m : List Nat) (x : Nat) (A : Option Addr) (n c B : Nat) (A2 : Option Addr) (n2 c2 B2 : Nat) (hk : Byt key) (hnc : n ≤ c) (hm0 : Byt m) (hnc2 : n2 ≤ c2) (hx : x < 256) (w : World) (hg : Glob w) (hr : Reads w B 1 A n (nv .u8 key)) (hB : B ≤ w.heap.size) (hr2 : Reads w B2 1 A2 n2 (nv .u8 m)) (hB2 : B2 ≤ w.heap.size) :
    Calls Tryd.prog 6 #[.slice A n c, .slice A2 n2 c2, .int .u8 (x : Int)] w fun e w' => e = .returned (.bool true) ∧ Below w.heap.size w w' := by
  have hln := hr.len
  have hln2 := hr2.len
  obtain ⟨B0, hB0e⟩ : ∃ b, w.heap.size = b := ⟨_, rfl⟩
  rw [hB0e]
  have hW : Below B0 w w := by rw [← hB0e]; exact Below.refl _ _
  have hB0 : B0 ≤ w.heap.size := by omega
  have hBB : B ≤ B0 := by omega
  have hBB2 : B2 ≤ B0 := by omega
  have gl := glob_of hg hB0e
  have rd := reads_of hr hBB
  have rd2 := reads_of hr2 hBB2
  clear hg hr hB hr2 hB2
  have hB0q := Lib.hid hB0e
  clear hB0e
  by_cases h200 : 200 < n
  ·
    have hI : (200 : Int) < (n : Int) := by omega
    go_enter Tryd.func6, Tryd.ntmps6
    go_upto_region 0 with fail
    refine wl_lit ?_
    refine runL 6 (.bool false) rfl (by rfl) (by go_simp) ?_
    simp only [List.set_cons_zero, List.set_cons_succ]
    refine nilL ?_
    go_upto_region 1 with fail
    refine wl_lit ?_
    refine runL 9 (.slice (A) n c) rfl (by rfl) (by go_simp) ?_
    simp only [List.set_cons_zero, List.set_cons_succ]
    refine runL 10 (.int .i64 (n)) rfl (by rfl) (by go_simp) ?_
    simp only [List.set_cons_zero, List.set_cons_succ]
    refine runL 11 (.bool true) rfl (by rfl) (by go_simp) ?_
    simp only [List.set_cons_zero, List.set_cons_succ]
    refine runL 12 (.bool true) rfl (by rfl) (by go_simp) ?_
    simp only [List.set_cons_zero, List.set_cons_succ]
    refine skipL 13 rfl (by kernel_rfl) ?_
    simp only [List.set_cons_zero, List.set_cons_succ]
    refine skipL 14 rfl (by kernel_rfl) ?_
    simp only [List.set_cons_zero, List.set_cons_succ]
    refine skipL 15 rfl (by kernel_rfl) ?_
    simp only [List.set_cons_zero, List.set_cons_succ]
    refine runL 16 (.bool true) rfl (by rfl) (by go_simp) ?_
    simp only [List.set_cons_zero, List.set_cons_succ]
    refine nilL ?_
    go_upto_region 2 with fail
    refine wl_lit ?_
    refine callL 17 rfl (by rfl) (fun K hK => wp_callF 8 #[] (by go_simp) (lives_any _ (gl.out _ hW)) ?_)
    rintro e w1 ⟨rfl, bx⟩
    replace hW := hW.trans (bx.mono (Nat.le_trans hB0 hW.size))
    clear bx
    refine ⟨_, rfl, hK.out _ _ ?_⟩
    clear hK K
    simp only [List.set_cons_zero, List.set_cons_succ]
    refine runL 6 (.bool true) rfl (by rfl) (by go_simp) ?_
    simp only [List.set_cons_zero, List.set_cons_succ]
    refine nilL ?_
    go_wp2_with fail
    go_ret
    exact ⟨rfl, hW⟩
  have hI : ¬ (200 : Int) < (n : Int) := by omega
  by_cases h202 : 200 < n2
  ·
    have hI5 : (200 : Int) < (n2 : Int) := by omega
    go_enter Tryd.func6, Tryd.ntmps6
    go_upto_region 0 with fail
    refine wl_lit ?_
    refine runL 6 (.bool false) rfl (by rfl) (by go_simp) ?_
    simp only [List.set_cons_zero, List.set_cons_succ]
    refine nilL ?_
    go_upto_region 1 with fail
    refine wl_lit ?_
    refine runL 9 (.slice (A) n c) rfl (by rfl) (by go_simp) ?_
    simp only [List.set_cons_zero, List.set_cons_succ]
    refine runL 10 (.int .i64 (n)) rfl (by rfl) (by go_simp) ?_
    simp only [List.set_cons_zero, List.set_cons_succ]
    refine runL 11 (.bool false) rfl (by rfl) (by go_simp) ?_
    simp only [List.set_cons_zero, List.set_cons_succ]
    refine runL 12 (.bool false) rfl (by rfl) (by go_simp) ?_
    simp only [List.set_cons_zero, List.set_cons_succ]
    refine runL 13 (.slice (A2) n2 c2) rfl (by rfl) (by go_simp) ?_
    simp only [List.set_cons_zero, List.set_cons_succ]
    refine runL 14 (.int .i64 (n2)) rfl (by rfl) (by go_simp) ?_
    simp only [List.set_cons_zero, List.set_cons_succ]
    refine runL 15 (.bool true) rfl (by rfl) (by go_simp) ?_
    simp only [List.set_cons_zero, List.set_cons_succ]
    refine runL 16 (.bool true) rfl (by rfl) (by go_simp) ?_
    simp only [List.set_cons_zero, List.set_cons_succ]
    refine nilL ?_
    go_upto_region 2 with fail
    refine wl_lit ?_
    refine callL 17 rfl (by rfl) (fun K hK => wp_callF 8 #[] (by go_simp) (lives_any _ (gl.out _ hW)) ?_)
    rintro e w2 ⟨rfl, bx⟩
    replace hW := hW.trans (bx.mono (Nat.le_trans hB0 hW.size))
    clear bx
    refine ⟨_, rfl, hK.out _ _ ?_⟩
    clear hK K
    simp only [List.set_cons_zero, List.set_cons_succ]
    refine runL 6 (.bool true) rfl (by rfl) (by go_simp) ?_
    simp only [List.set_cons_zero, List.set_cons_succ]
    refine nilL ?_
    go_wp2_with fail
    go_ret
    exact ⟨rfl, hW⟩
  have hI5 : ¬ (200 : Int) < (n2 : Int) := by omega
  obtain ⟨k, hk0⟩ : ∃ k, x % 70 = k := ⟨_, rfl⟩
  have hk70 : k < 70 := by omega
  have hmd1 : (x : Int).tmod 70 = (k : Int) := by rw [Int.tmod_eq_emod_of_nonneg (by omega)]; omega
  have hmd2 : (x : Int) % 70 = (k : Int) := by omega
  have hwk : IntKind.i64.wrap (k : Int) = (k : Int) := IntWalk.i64_in _ (by omega)
  have hwk8 : IntKind.u8.wrap (k : Int) = (k : Int) := by simp [IntKind.wrap, IntKind.bits, IntKind.signed]; omega
  clear hk0
  go_enter Tryd.func6, Tryd.ntmps6
  go_upto_region 0 with fail
  refine wl_lit ?_
  refine runL 6 (.bool false) rfl (by rfl) (by go_simp) ?_
  simp only [List.set_cons_zero, List.set_cons_succ]
  refine nilL ?_
  go_upto_region 1 with fail
  refine wl_lit ?_
  refine runL 9 (.slice (A) n c) rfl (by rfl) (by go_simp) ?_
  simp only [List.set_cons_zero, List.set_cons_succ]
  refine runL 10 (.int .i64 (n)) rfl (by rfl) (by go_simp) ?_
  simp only [List.set_cons_zero, List.set_cons_succ]
  refine runL 11 (.bool false) rfl (by rfl) (by go_simp) ?_
  simp only [List.set_cons_zero, List.set_cons_succ]
  refine runL 12 (.bool false) rfl (by rfl) (by go_simp) ?_
  simp only [List.set_cons_zero, List.set_cons_succ]
  refine runL 13 (.slice (A2) n2 c2) rfl (by rfl) (by go_simp) ?_
  simp only [List.set_cons_zero, List.set_cons_succ]
  refine runL 14 (.int .i64 (n2)) rfl (by rfl) (by go_simp) ?_
  simp only [List.set_cons_zero, List.set_cons_succ]
  refine runL 15 (.bool false) rfl (by rfl) (by go_simp) ?_
  simp only [List.set_cons_zero, List.set_cons_succ]
  refine runL 16 (.bool false) rfl (by rfl) (by go_simp) ?_
  simp only [List.set_cons_zero, List.set_cons_succ]
  refine nilL ?_
  go_upto_region 3 with fail
  refine wl_lit ?_
  refine runWL 18 (.slice (some ⟨w.heap.size, 0, none⟩) 0 0) (w.alloc (.cells (va .u8 ([])) 5)) rfl (by rfl) (exec_bslice 22 0 _ rfl _ (by exact bs_0 _)) ?_
  simp only [List.set_cons_zero, List.set_cons_succ]
  have lw_q1 := Nat.le_trans hB0 hW.size
  have hq1 : Blk (w.alloc (.cells (va .u8 ([])) 5)) w.heap.size 5 (va .u8 ([])) := Blk.new _ _ _
  replace hW := hW.alloc (Nat.le_trans hB0 hW.size) (.cells (va .u8 ([])) 5)
  generalize w.alloc (.cells (va .u8 ([])) 5) = w3 at *
  generalize w.heap.size = q1 at hq1 lw_q1  ⊢
  refine runL 19 (.slice (A) n c) rfl (by rfl) (by go_simp) ?_
  simp only [List.set_cons_zero, List.set_cons_succ]
  have hoq1 : Own w3 B0 (some ⟨q1, 0, none⟩) 0 0 ([]) := hq1.owned (rfl) lw_q1 (by unfold maxLen; omega)
  clear hq1
  obtain ⟨A1, cA1, w4, hap, hA1, hcA1, hgr, hof⟩ := own_append hoq1 (A) n c _ (key) (rd.out _ hW) (Nat.le_trans hB0 hW.size) (key) (by simp) (n) (by omega) (by omega) 22
  refine runWL 20 (.slice A1 (n) cA1) w4 rfl (by rfl) (exec_append _ _ _ _ rfl _ _ _ rfl rfl hap) ?_
  simp only [List.set_cons_zero, List.set_cons_succ]
  replace hW := Own.belowG hW (Nat.le_trans hB0 hW.size) hoq1.from_ hgr
  clear hoq1 hgr hof hap
  refine runL 21 (.int .u8 (x : Int)) rfl (by rfl) (by go_simp) ?_
  simp only [List.set_cons_zero, List.set_cons_succ]
  refine runL 22 (.int .u8 (k : Int)) rfl (by rfl) (by go_simp) ?_
  simp only [List.set_cons_zero, List.set_cons_succ]
  refine runL 23 (.int .i64 (k : Int)) rfl (by rfl) (by go_simp) ?_
  simp only [List.set_cons_zero, List.set_cons_succ]
  obtain ⟨A3, cA3, w5, hap, hA3, hcA3, hgr, hof⟩ := own_append_zeros hA1 k (Nat.le_trans hB0 hW.size) (key ++ List.replicate k 0) rfl (n + k) (by omega) (by omega) 22
  refine runWL 24 (.slice A3 (n + k) cA3) w5 rfl (by rfl) (exec_append _ _ _ _ rfl _ _ _ rfl rfl hap) ?_
  simp only [List.set_cons_zero, List.set_cons_succ]
  replace hW := Own.belowG hW (Nat.le_trans hB0 hW.size) hA1.from_ hgr
  clear hA1 hgr hof hap
  refine runL 7 (.slice (A3) (n + k) cA3) rfl (by rfl) (by go_simp) ?_
  simp only [List.set_cons_zero, List.set_cons_succ]
  refine nilL ?_
  clear hmd1 hmd2 hwk hwk8
  by_cases h64 : n + k ≤ 64
  ·
    have hI64 : (n : Int) + (k : Int) ≤ 64 := by omega
    go_upto_region 4 with fail
    refine wl_lit ?_
    refine runL 25 (.slice (A3) (n + k) cA3) rfl (by rfl) (by go_simp) ?_
    simp only [List.set_cons_zero, List.set_cons_succ]
    refine runL 26 (.int .i64 ((n + k))) rfl (by rfl) (by go_simp) ?_
    simp only [List.set_cons_zero, List.set_cons_succ]
    refine runL 27 (.bool true) rfl (by rfl) (by go_simp) ?_
    simp only [List.set_cons_zero, List.set_cons_succ]
    refine runL 28 (.bool true) rfl (by rfl) (by go_simp) ?_
    simp only [List.set_cons_zero, List.set_cons_succ]
    refine runL 29 (.slice (A3) (n + k) cA3) rfl (by rfl) (by go_simp) ?_
    simp only [List.set_cons_zero, List.set_cons_succ]
    refine runL 30 (.slice (A2) n2 c2) rfl (by rfl) (by go_simp) ?_
    simp only [List.set_cons_zero, List.set_cons_succ]
    refine runWL 31 (.slice (some ⟨w5.heap.size, 0, none⟩) 1 1) (w5.alloc (.cells (#[.slice (A2) n2 c2]) 22)) rfl (by rfl) (exec_bslice 28 1 _ rfl _ (by exact bs_1 (A2) n2 c2 _)) ?_
    simp only [List.set_cons_zero, List.set_cons_succ]
    have nA3_q2 := hA3.new_off
    have lw_q2 := Nat.le_trans hB0 hW.size
    have hq2 : Blk (w5.alloc (.cells (#[.slice (A2) n2 c2]) 22)) w5.heap.size 22 (#[.slice (A2) n2 c2]) := Blk.new _ _ _
    replace hA3 := hA3.alloc (.cells (#[.slice (A2) n2 c2]) 22)
    replace hW := hW.alloc (Nat.le_trans hB0 hW.size) (.cells (#[.slice (A2) n2 c2]) 22)
    generalize w5.alloc (.cells (#[.slice (A2) n2 c2]) 22) = w6 at *
    generalize w5.heap.size = q2 at hq2 lw_q2 nA3_q2 ⊢
    refine callL 32 rfl (by rfl) (fun K hK => wp_callF 12 #[.slice (A3) (n + k) cA3, .slice (some ⟨q2, 0, none⟩) 1 1] (by go_simp) (macof_eq (key ++ List.replicate k 0) (m) (hm key m) (hm_zeros key m k (by omega)) _ (n + k) cA3 _ [m] (by simp) _ 1 1 _ (hk.app (Byt.rep _ _ (by omega))) hA3.cap (by omega) (by omega) (by omega) _ (gl.out _ hW) hA3.reads (Nat.le_refl _) (parts_one (Nat.le_trans hBB2 (Nat.le_trans hB0 hW.size)) hq2 (rd2.out _ hW) hnc2 hm0) (Nat.le_refl _)) ?_)
    rintro e w7 ⟨rfl, bx⟩
    replace hA3 := hA3.below bx
    replace hq2 := hq2.below bx hq2.lt
    replace hW := hW.trans (bx.mono (Nat.le_trans hB0 hW.size))
    clear bx
    refine ⟨_, rfl, hK.out _ _ ?_⟩
    clear hK K
    simp only [List.set_cons_zero, List.set_cons_succ]
    refine runL 33 (.slice (A) n c) rfl (by rfl) (by go_simp) ?_
    simp only [List.set_cons_zero, List.set_cons_succ]
    refine runL 34 (.slice (A2) n2 c2) rfl (by rfl) (by go_simp) ?_
    simp only [List.set_cons_zero, List.set_cons_succ]
    refine runWL 35 (.slice (some ⟨w7.heap.size, 0, none⟩) 1 1) (w7.alloc (.cells (#[.slice (A2) n2 c2]) 22)) rfl (by rfl) (exec_bslice 28 1 _ rfl _ (by exact bs_1 (A2) n2 c2 _)) ?_
    simp only [List.set_cons_zero, List.set_cons_succ]
    have nA3_q3 := hA3.new_off
    have lq2_q3 := hq2.lt
    have lw_q3 := Nat.le_trans hB0 hW.size
    have hq3 : Blk (w7.alloc (.cells (#[.slice (A2) n2 c2]) 22)) w7.heap.size 22 (#[.slice (A2) n2 c2]) := Blk.new _ _ _
    replace hA3 := hA3.alloc (.cells (#[.slice (A2) n2 c2]) 22)
    replace hq2 := hq2.alloc (.cells (#[.slice (A2) n2 c2]) 22)
    replace hW := hW.alloc (Nat.le_trans hB0 hW.size) (.cells (#[.slice (A2) n2 c2]) 22)
    generalize w7.alloc (.cells (#[.slice (A2) n2 c2]) 22) = w8 at *
    generalize w7.heap.size = q3 at hq3 lw_q3 nA3_q3 lq2_q3 ⊢
    refine callL 36 rfl (by rfl) (fun K hK => wp_callF 12 #[.slice (A) n c, .slice (some ⟨q3, 0, none⟩) 1 1] (by go_simp) (macof_eq (key) (m) (hm key m) (rfl) _ n c _ [m] (by simp) _ 1 1 _ hk hnc (by omega) (by omega) (by omega) _ (gl.out _ hW) (rd.out _ hW) (Nat.le_trans hBB (Nat.le_trans hB0 hW.size)) (parts_one (Nat.le_trans hBB2 (Nat.le_trans hB0 hW.size)) hq3 (rd2.out _ hW) hnc2 hm0) (Nat.le_refl _)) ?_)
    rintro e w9 ⟨rfl, bx⟩
    replace hA3 := hA3.below bx
    replace hq2 := hq2.below bx hq2.lt
    replace hq3 := hq3.below bx hq3.lt
    replace hW := hW.trans (bx.mono (Nat.le_trans hB0 hW.size))
    clear bx
    refine ⟨_, rfl, hK.out _ _ ?_⟩
    clear hK K
    simp only [List.set_cons_zero, List.set_cons_succ]
    refine runL 37 (.bool false) rfl (by rfl) (exec_neB 30 32 (by kernel_rfl) (by kernel_rfl) (.tmp 32) (.tmp 36) _ rfl (hm key m) (hm key m) (hm_len _ _) (hm_len _ _) rfl rfl false (by simp)) ?_
    simp only [List.set_cons_zero, List.set_cons_succ]
    refine runL 38 (.bool false) rfl (by rfl) (by go_simp) ?_
    simp only [List.set_cons_zero, List.set_cons_succ]
    refine nilL ?_
    clear hA3
    clear hq2
    clear hq3
    go_upto_region 6 with fail
    refine wl_lit ?_
    refine runL 39 (.slice (A) n c) rfl (by rfl) (by go_simp) ?_
    simp only [List.set_cons_zero, List.set_cons_succ]
    refine callL 40 rfl (by rfl) (fun K hK => wp_callF 9 #[.slice (A) n c] (by go_simp) (block_any key A n c B hk hnc (by omega) _ (gl.out _ hW) (rd.out _ hW) (Nat.le_trans hBB (Nat.le_trans hB0 hW.size))) ?_)
    rintro e w10 ⟨rfl, bx⟩
    replace hW := hW.trans (bx.mono (Nat.le_trans hB0 hW.size))
    clear bx
    refine ⟨_, rfl, hK.out _ _ ?_⟩
    clear hK K
    simp only [List.set_cons_zero, List.set_cons_succ]
    refine runWL 8 (.pointer (some ⟨w10.heap.size, 0, none⟩)) (w10.alloc (.cells (va .u8 (List.replicate 64 0)) 24)) rfl (by rfl) (exec_allocV 24 rfl _ (zv__64_uint8 _)) ?_
    simp only [List.set_cons_zero, List.set_cons_succ]
    have lw_p8 := Nat.le_trans hB0 hW.size
    have hp8 : Blk (w10.alloc (.cells (va .u8 (List.replicate 64 0)) 24)) w10.heap.size 24 (va .u8 (List.replicate 64 0)) := Blk.new _ _ _
    replace hW := hW.alloc (Nat.le_trans hB0 hW.size) (.cells (va .u8 (List.replicate 64 0)) 24)
    generalize w10.alloc (.cells (va .u8 (List.replicate 64 0)) 24) = w11 at *
    generalize w10.heap.size = p8 at hp8 lw_p8  ⊢
    refine runSL (w11.setRow p8 (va .u8 (kb key))) rfl (by rfl) (exec_storeRow 24 (.tmp 8) (.tmp 40) rfl p8 rfl (va .u8 (kb key)) rfl 24 (va .u8 (List.replicate 64 0)) hp8 (sz_eq (sz__64_uint8 _ (List.length_replicate)) (sz__64_uint8 _ (kb_len _))) (sz__64_uint8 _ (kb_len _)) (va_ones .u8 _)) ?_
    replace hp8 := hp8.row (va .u8 (kb key))
    replace hW := below_setRow hW lw_p8 (va .u8 (kb key))
    generalize w11.setRow p8 (va .u8 (kb key)) = w12 at *
    refine nilL ?_
    go_upto_region 7 with fail
    refine wl_lit ?_
    refine runL 41 (.slice (some ⟨p8, 0, none⟩) 64 64) rfl (by rfl) (by go_simp) ?_
    simp only [List.set_cons_zero, List.set_cons_succ]
    refine runL 42 (.slice (A2) n2 c2) rfl (by rfl) (by go_simp) ?_
    simp only [List.set_cons_zero, List.set_cons_succ]
    refine runWL 43 (.slice (some ⟨w12.heap.size, 0, none⟩) 1 1) (w12.alloc (.cells (#[.slice (A2) n2 c2]) 22)) rfl (by rfl) (exec_bslice 28 1 _ rfl _ (by exact bs_1 (A2) n2 c2 _)) ?_
    simp only [List.set_cons_zero, List.set_cons_succ]
    have lp8_q4 := hp8.lt
    have lw_q4 := Nat.le_trans hB0 hW.size
    have hq4 : Blk (w12.alloc (.cells (#[.slice (A2) n2 c2]) 22)) w12.heap.size 22 (#[.slice (A2) n2 c2]) := Blk.new _ _ _
    replace hp8 := hp8.alloc (.cells (#[.slice (A2) n2 c2]) 22)
    replace hW := hW.alloc (Nat.le_trans hB0 hW.size) (.cells (#[.slice (A2) n2 c2]) 22)
    generalize w12.alloc (.cells (#[.slice (A2) n2 c2]) 22) = w13 at *
    generalize w12.heap.size = q4 at hq4 lw_q4 lp8_q4 ⊢
    refine callL 44 rfl (by rfl) (fun K hK => wp_callF 12 #[.slice (some ⟨p8, 0, none⟩) 64 64, .slice (some ⟨q4, 0, none⟩) 1 1] (by go_simp) (macof_eq (kb key) (m) (hm key m) (hm_kb key m) _ 64 64 _ [m] (by simp) _ 1 1 _ (kb_byt _ hk) (Nat.le_refl _) (by decide) (by omega) (by omega) _ (gl.out _ hW) (hp8.readsAll (Nat.lt_succ_self _) (kb_len _)) hp8.lt (parts_one (Nat.le_trans hBB2 (Nat.le_trans hB0 hW.size)) hq4 (rd2.out _ hW) hnc2 hm0) (Nat.le_refl _)) ?_)
    rintro e w14 ⟨rfl, bx⟩
    replace hp8 := hp8.below bx hp8.lt
    replace hq4 := hq4.below bx hq4.lt
    replace hW := hW.trans (bx.mono (Nat.le_trans hB0 hW.size))
    clear bx
    refine ⟨_, rfl, hK.out _ _ ?_⟩
    clear hK K
    simp only [List.set_cons_zero, List.set_cons_succ]
    refine runL 45 (.slice (A) n c) rfl (by rfl) (by go_simp) ?_
    simp only [List.set_cons_zero, List.set_cons_succ]
    refine runL 46 (.slice (A2) n2 c2) rfl (by rfl) (by go_simp) ?_
    simp only [List.set_cons_zero, List.set_cons_succ]
    refine runWL 47 (.slice (some ⟨w14.heap.size, 0, none⟩) 1 1) (w14.alloc (.cells (#[.slice (A2) n2 c2]) 22)) rfl (by rfl) (exec_bslice 28 1 _ rfl _ (by exact bs_1 (A2) n2 c2 _)) ?_
    simp only [List.set_cons_zero, List.set_cons_succ]
    have lp8_q5 := hp8.lt
    have lq4_q5 := hq4.lt
    have lw_q5 := Nat.le_trans hB0 hW.size
    have hq5 : Blk (w14.alloc (.cells (#[.slice (A2) n2 c2]) 22)) w14.heap.size 22 (#[.slice (A2) n2 c2]) := Blk.new _ _ _
    replace hp8 := hp8.alloc (.cells (#[.slice (A2) n2 c2]) 22)
    replace hq4 := hq4.alloc (.cells (#[.slice (A2) n2 c2]) 22)
    replace hW := hW.alloc (Nat.le_trans hB0 hW.size) (.cells (#[.slice (A2) n2 c2]) 22)
    generalize w14.alloc (.cells (#[.slice (A2) n2 c2]) 22) = w15 at *
    generalize w14.heap.size = q5 at hq5 lw_q5 lp8_q5 lq4_q5 ⊢
    refine callL 48 rfl (by rfl) (fun K hK => wp_callF 12 #[.slice (A) n c, .slice (some ⟨q5, 0, none⟩) 1 1] (by go_simp) (macof_eq (key) (m) (hm key m) (rfl) _ n c _ [m] (by simp) _ 1 1 _ hk hnc (by omega) (by omega) (by omega) _ (gl.out _ hW) (rd.out _ hW) (Nat.le_trans hBB (Nat.le_trans hB0 hW.size)) (parts_one (Nat.le_trans hBB2 (Nat.le_trans hB0 hW.size)) hq5 (rd2.out _ hW) hnc2 hm0) (Nat.le_refl _)) ?_)
    rintro e w16 ⟨rfl, bx⟩
    replace hp8 := hp8.below bx hp8.lt
    replace hq4 := hq4.below bx hq4.lt
    replace hq5 := hq5.below bx hq5.lt
    replace hW := hW.trans (bx.mono (Nat.le_trans hB0 hW.size))
    clear bx
    refine ⟨_, rfl, hK.out _ _ ?_⟩
    clear hK K
    simp only [List.set_cons_zero, List.set_cons_succ]
    refine runL 49 (.bool true) rfl (by rfl) (exec_eqB 30 32 (by kernel_rfl) (by kernel_rfl) (.tmp 44) (.tmp 48) _ rfl (hm key m) (hm key m) (hm_len _ _) (hm_len _ _) rfl rfl true (by simp)) ?_
    simp only [List.set_cons_zero, List.set_cons_succ]
    refine runL 50 (.bool true) rfl (by rfl) (by go_simp) ?_
    simp only [List.set_cons_zero, List.set_cons_succ]
    refine callL 51 rfl (by rfl) (fun K hK => wp_callF 8 #[] (by go_simp) (lives_any _ (gl.out _ hW)) ?_)
    rintro e w17 ⟨rfl, bx⟩
    replace hp8 := hp8.below bx hp8.lt
    replace hq4 := hq4.below bx hq4.lt
    replace hq5 := hq5.below bx hq5.lt
    replace hW := hW.trans (bx.mono (Nat.le_trans hB0 hW.size))
    clear bx
    refine ⟨_, rfl, hK.out _ _ ?_⟩
    clear hK K
    simp only [List.set_cons_zero, List.set_cons_succ]
    refine runL 52 (.bool true) rfl (by rfl) (by go_simp) ?_
    simp only [List.set_cons_zero, List.set_cons_succ]
    refine runL 6 (.bool true) rfl (by rfl) (by go_simp) ?_
    simp only [List.set_cons_zero, List.set_cons_succ]
    refine nilL ?_
    go_wp2_with fail
    go_ret
    exact ⟨rfl, hW⟩
  ·
    have hI64 : 64 < (n : Int) + (k : Int) := by omega
    go_upto_region 4 with fail
    refine wl_lit ?_
    refine runL 25 (.slice (A3) (n + k) cA3) rfl (by rfl) (by go_simp) ?_
    simp only [List.set_cons_zero, List.set_cons_succ]
    refine runL 26 (.int .i64 ((n + k))) rfl (by rfl) (by go_simp) ?_
    simp only [List.set_cons_zero, List.set_cons_succ]
    refine runL 27 (.bool false) rfl (by rfl) (by go_simp) ?_
    simp only [List.set_cons_zero, List.set_cons_succ]
    refine runL 28 (.bool false) rfl (by rfl) (by go_simp) ?_
    simp only [List.set_cons_zero, List.set_cons_succ]
    refine skipL 29 rfl (by kernel_rfl) ?_
    simp only [List.set_cons_zero, List.set_cons_succ]
    refine skipL 30 rfl (by kernel_rfl) ?_
    simp only [List.set_cons_zero, List.set_cons_succ]
    refine skipL 31 rfl (by kernel_rfl) ?_
    simp only [List.set_cons_zero, List.set_cons_succ]
    refine skipL 32 rfl (by kernel_rfl) ?_
    simp only [List.set_cons_zero, List.set_cons_succ]
    refine skipL 33 rfl (by kernel_rfl) ?_
    simp only [List.set_cons_zero, List.set_cons_succ]
    refine skipL 34 rfl (by kernel_rfl) ?_
    simp only [List.set_cons_zero, List.set_cons_succ]
    refine skipL 35 rfl (by kernel_rfl) ?_
    simp only [List.set_cons_zero, List.set_cons_succ]
    refine skipL 36 rfl (by kernel_rfl) ?_
    simp only [List.set_cons_zero, List.set_cons_succ]
    refine skipL 37 rfl (by kernel_rfl) ?_
    simp only [List.set_cons_zero, List.set_cons_succ]
    refine runL 38 (.bool false) rfl (by rfl) (by go_simp) ?_
    simp only [List.set_cons_zero, List.set_cons_succ]
    refine nilL ?_
    clear hA3
    go_upto_region 6 with fail
    refine wl_lit ?_
    refine runL 39 (.slice (A) n c) rfl (by rfl) (by go_simp) ?_
    simp only [List.set_cons_zero, List.set_cons_succ]
    refine callL 40 rfl (by rfl) (fun K hK => wp_callF 9 #[.slice (A) n c] (by go_simp) (block_any key A n c B hk hnc (by omega) _ (gl.out _ hW) (rd.out _ hW) (Nat.le_trans hBB (Nat.le_trans hB0 hW.size))) ?_)
    rintro e w18 ⟨rfl, bx⟩
    replace hW := hW.trans (bx.mono (Nat.le_trans hB0 hW.size))
    clear bx
    refine ⟨_, rfl, hK.out _ _ ?_⟩
    clear hK K
    simp only [List.set_cons_zero, List.set_cons_succ]
    refine runWL 8 (.pointer (some ⟨w18.heap.size, 0, none⟩)) (w18.alloc (.cells (va .u8 (List.replicate 64 0)) 24)) rfl (by rfl) (exec_allocV 24 rfl _ (zv__64_uint8 _)) ?_
    simp only [List.set_cons_zero, List.set_cons_succ]
    have lw_p8 := Nat.le_trans hB0 hW.size
    have hp8 : Blk (w18.alloc (.cells (va .u8 (List.replicate 64 0)) 24)) w18.heap.size 24 (va .u8 (List.replicate 64 0)) := Blk.new _ _ _
    replace hW := hW.alloc (Nat.le_trans hB0 hW.size) (.cells (va .u8 (List.replicate 64 0)) 24)
    generalize w18.alloc (.cells (va .u8 (List.replicate 64 0)) 24) = w19 at *
    generalize w18.heap.size = p8 at hp8 lw_p8  ⊢
    refine runSL (w19.setRow p8 (va .u8 (kb key))) rfl (by rfl) (exec_storeRow 24 (.tmp 8) (.tmp 40) rfl p8 rfl (va .u8 (kb key)) rfl 24 (va .u8 (List.replicate 64 0)) hp8 (sz_eq (sz__64_uint8 _ (List.length_replicate)) (sz__64_uint8 _ (kb_len _))) (sz__64_uint8 _ (kb_len _)) (va_ones .u8 _)) ?_
    replace hp8 := hp8.row (va .u8 (kb key))
    replace hW := below_setRow hW lw_p8 (va .u8 (kb key))
    generalize w19.setRow p8 (va .u8 (kb key)) = w20 at *
    refine nilL ?_
    go_upto_region 7 with fail
    refine wl_lit ?_
    refine runL 41 (.slice (some ⟨p8, 0, none⟩) 64 64) rfl (by rfl) (by go_simp) ?_
    simp only [List.set_cons_zero, List.set_cons_succ]
    refine runL 42 (.slice (A2) n2 c2) rfl (by rfl) (by go_simp) ?_
    simp only [List.set_cons_zero, List.set_cons_succ]
    refine runWL 43 (.slice (some ⟨w20.heap.size, 0, none⟩) 1 1) (w20.alloc (.cells (#[.slice (A2) n2 c2]) 22)) rfl (by rfl) (exec_bslice 28 1 _ rfl _ (by exact bs_1 (A2) n2 c2 _)) ?_
    simp only [List.set_cons_zero, List.set_cons_succ]
    have lp8_q2 := hp8.lt
    have lw_q2 := Nat.le_trans hB0 hW.size
    have hq2 : Blk (w20.alloc (.cells (#[.slice (A2) n2 c2]) 22)) w20.heap.size 22 (#[.slice (A2) n2 c2]) := Blk.new _ _ _
    replace hp8 := hp8.alloc (.cells (#[.slice (A2) n2 c2]) 22)
    replace hW := hW.alloc (Nat.le_trans hB0 hW.size) (.cells (#[.slice (A2) n2 c2]) 22)
    generalize w20.alloc (.cells (#[.slice (A2) n2 c2]) 22) = w21 at *
    generalize w20.heap.size = q2 at hq2 lw_q2 lp8_q2 ⊢
    refine callL 44 rfl (by rfl) (fun K hK => wp_callF 12 #[.slice (some ⟨p8, 0, none⟩) 64 64, .slice (some ⟨q2, 0, none⟩) 1 1] (by go_simp) (macof_eq (kb key) (m) (hm key m) (hm_kb key m) _ 64 64 _ [m] (by simp) _ 1 1 _ (kb_byt _ hk) (Nat.le_refl _) (by decide) (by omega) (by omega) _ (gl.out _ hW) (hp8.readsAll (Nat.lt_succ_self _) (kb_len _)) hp8.lt (parts_one (Nat.le_trans hBB2 (Nat.le_trans hB0 hW.size)) hq2 (rd2.out _ hW) hnc2 hm0) (Nat.le_refl _)) ?_)
    rintro e w22 ⟨rfl, bx⟩
    replace hp8 := hp8.below bx hp8.lt
    replace hq2 := hq2.below bx hq2.lt
    replace hW := hW.trans (bx.mono (Nat.le_trans hB0 hW.size))
    clear bx
    refine ⟨_, rfl, hK.out _ _ ?_⟩
    clear hK K
    simp only [List.set_cons_zero, List.set_cons_succ]
    refine runL 45 (.slice (A) n c) rfl (by rfl) (by go_simp) ?_
    simp only [List.set_cons_zero, List.set_cons_succ]
    refine runL 46 (.slice (A2) n2 c2) rfl (by rfl) (by go_simp) ?_
    simp only [List.set_cons_zero, List.set_cons_succ]
    refine runWL 47 (.slice (some ⟨w22.heap.size, 0, none⟩) 1 1) (w22.alloc (.cells (#[.slice (A2) n2 c2]) 22)) rfl (by rfl) (exec_bslice 28 1 _ rfl _ (by exact bs_1 (A2) n2 c2 _)) ?_
    simp only [List.set_cons_zero, List.set_cons_succ]
    have lp8_q3 := hp8.lt
    have lq2_q3 := hq2.lt
    have lw_q3 := Nat.le_trans hB0 hW.size
    have hq3 : Blk (w22.alloc (.cells (#[.slice (A2) n2 c2]) 22)) w22.heap.size 22 (#[.slice (A2) n2 c2]) := Blk.new _ _ _
    replace hp8 := hp8.alloc (.cells (#[.slice (A2) n2 c2]) 22)
    replace hq2 := hq2.alloc (.cells (#[.slice (A2) n2 c2]) 22)
    replace hW := hW.alloc (Nat.le_trans hB0 hW.size) (.cells (#[.slice (A2) n2 c2]) 22)
    generalize w22.alloc (.cells (#[.slice (A2) n2 c2]) 22) = w23 at *
    generalize w22.heap.size = q3 at hq3 lw_q3 lp8_q3 lq2_q3 ⊢
    refine callL 48 rfl (by rfl) (fun K hK => wp_callF 12 #[.slice (A) n c, .slice (some ⟨q3, 0, none⟩) 1 1] (by go_simp) (macof_eq (key) (m) (hm key m) (rfl) _ n c _ [m] (by simp) _ 1 1 _ hk hnc (by omega) (by omega) (by omega) _ (gl.out _ hW) (rd.out _ hW) (Nat.le_trans hBB (Nat.le_trans hB0 hW.size)) (parts_one (Nat.le_trans hBB2 (Nat.le_trans hB0 hW.size)) hq3 (rd2.out _ hW) hnc2 hm0) (Nat.le_refl _)) ?_)
    rintro e w24 ⟨rfl, bx⟩
    replace hp8 := hp8.below bx hp8.lt
    replace hq2 := hq2.below bx hq2.lt
    replace hq3 := hq3.below bx hq3.lt
    replace hW := hW.trans (bx.mono (Nat.le_trans hB0 hW.size))
    clear bx
    refine ⟨_, rfl, hK.out _ _ ?_⟩
    clear hK K
    simp only [List.set_cons_zero, List.set_cons_succ]
    refine runL 49 (.bool true) rfl (by rfl) (exec_eqB 30 32 (by kernel_rfl) (by kernel_rfl) (.tmp 44) (.tmp 48) _ rfl (hm key m) (hm key m) (hm_len _ _) (hm_len _ _) rfl rfl true (by simp)) ?_
    simp only [List.set_cons_zero, List.set_cons_succ]
    refine runL 50 (.bool true) rfl (by rfl) (by go_simp) ?_
    simp only [List.set_cons_zero, List.set_cons_succ]
    refine callL 51 rfl (by rfl) (fun K hK => wp_callF 8 #[] (by go_simp) (lives_any _ (gl.out _ hW)) ?_)
    rintro e w25 ⟨rfl, bx⟩
    replace hp8 := hp8.below bx hp8.lt
    replace hq2 := hq2.below bx hq2.lt
    replace hq3 := hq3.below bx hq3.lt
    replace hW := hW.trans (bx.mono (Nat.le_trans hB0 hW.size))
    clear bx
    refine ⟨_, rfl, hK.out _ _ ?_⟩
    clear hK K
    simp only [List.set_cons_zero, List.set_cons_succ]
    refine runL 52 (.bool true) rfl (by rfl) (by go_simp) ?_
    simp only [List.set_cons_zero, List.set_cons_succ]
    refine runL 6 (.bool true) rfl (by rfl) (by go_simp) ?_
    simp only [List.set_cons_zero, List.set_cons_succ]
    refine nilL ?_
    go_wp2_with fail
    go_ret
    exact ⟨rfl, hW⟩
end Go.Proofs.YtfnhjbamomolfaaDoor
