/-
  The walk of MacsOf. (Printed by mk03.py.)
-/
import Derived.Test.YtfnhjbamomolfaaDoorMcLive
namespace Go.Proofs.YtfnhjbamomolfaaDoor
open Go.RowKit Sh

set_option maxRecDepth 8000 in
set_option maxHeartbeats 4000000 in
theorem lawOf_any (key : List Nat) (A : Option Addr) (n c B : Nat) (ms : List (List Nat)) (A2 : Option Addr) (n2 c2 B2 : Nat) (hk : Byt key) (hnc : n ≤ c) (w : World) (hg : Glob w) (hr : Reads w B 1 A n (nv .u8 key)) (hB : B ≤ w.heap.size) (hp : Parts w B2 A2 n2 ms) (hB2 : B2 ≤ w.heap.size) :
    Calls Tryd.prog 4 #[.slice A n c, .slice A2 n2 c2] w fun e w' => e = .returned (.bool true) ∧ Below w.heap.size w w' := by
  obtain ⟨B0, hB0e⟩ : ∃ b, w.heap.size = b := ⟨_, rfl⟩
  rw [hB0e]
  have hW : Below B0 w w := by rw [← hB0e]; exact Below.refl _ _
  have hB0 : B0 ≤ w.heap.size := by omega
  have hBB : B ≤ B0 := by omega
  have hBB2 : B2 ≤ B0 := by omega
  have hpn := hp.1
  have gl := glob_of hg hB0e
  have rd := reads_of hr hBB
  have pd : Hid (∀ W, Below B0 w W → Parts W B2 A2 n2 ms) := Lib.hid fun W h => hp.below (h.mono hBB2)
  clear hg hr hB hp hB2
  have hB0q := Lib.hid hB0e
  clear hB0e
  by_cases h200 : 200 < n
  ·
    have hI : (200 : Int) < (n : Int) := by omega
    go_enter Tryd.func4, Tryd.ntmps4
    go_upto_region 0 with fail
    refine wl_lit ?_
    refine runL 4 (.bool false) rfl (by rfl) (by go_simp) ?_
    simp only [List.set_cons_zero, List.set_cons_succ]
    refine nilL ?_
    go_upto_region 1 with fail
    refine wl_lit ?_
    refine runL 8 (.slice (A) n c) rfl (by rfl) (by go_simp) ?_
    simp only [List.set_cons_zero, List.set_cons_succ]
    refine runL 9 (.int .i64 (n)) rfl (by rfl) (by go_simp) ?_
    simp only [List.set_cons_zero, List.set_cons_succ]
    refine runL 10 (.bool true) rfl (by rfl) (by go_simp) ?_
    simp only [List.set_cons_zero, List.set_cons_succ]
    refine runL 11 (.bool true) rfl (by rfl) (by go_simp) ?_
    simp only [List.set_cons_zero, List.set_cons_succ]
    refine skipL 12 rfl (by kernel_rfl) ?_
    simp only [List.set_cons_zero, List.set_cons_succ]
    refine skipL 13 rfl (by kernel_rfl) ?_
    simp only [List.set_cons_zero, List.set_cons_succ]
    refine skipL 14 rfl (by kernel_rfl) ?_
    simp only [List.set_cons_zero, List.set_cons_succ]
    refine runL 15 (.bool true) rfl (by rfl) (by go_simp) ?_
    simp only [List.set_cons_zero, List.set_cons_succ]
    refine nilL ?_
    go_upto_region 2 with fail
    refine wl_lit ?_
    refine callL 16 rfl (by rfl) (fun K hK => wp_callF 8 #[] (by go_simp) (lives_any _ (gl.out _ hW)) ?_)
    rintro e w1 ⟨rfl, bx⟩
    replace hW := hW.trans (bx.mono (Nat.le_trans hB0 hW.size))
    clear bx
    refine ⟨_, rfl, hK.out _ _ ?_⟩
    clear hK K
    simp only [List.set_cons_zero, List.set_cons_succ]
    refine runL 4 (.bool true) rfl (by rfl) (by go_simp) ?_
    simp only [List.set_cons_zero, List.set_cons_succ]
    refine nilL ?_
    go_wp2_with fail
    go_ret
    exact ⟨rfl, hW⟩
  have hI : ¬ (200 : Int) < (n : Int) := by omega
  by_cases h5 : 5 < n2
  ·
    have hI5 : (5 : Int) < (n2 : Int) := by omega
    go_enter Tryd.func4, Tryd.ntmps4
    go_upto_region 0 with fail
    refine wl_lit ?_
    refine runL 4 (.bool false) rfl (by rfl) (by go_simp) ?_
    simp only [List.set_cons_zero, List.set_cons_succ]
    refine nilL ?_
    go_upto_region 1 with fail
    refine wl_lit ?_
    refine runL 8 (.slice (A) n c) rfl (by rfl) (by go_simp) ?_
    simp only [List.set_cons_zero, List.set_cons_succ]
    refine runL 9 (.int .i64 (n)) rfl (by rfl) (by go_simp) ?_
    simp only [List.set_cons_zero, List.set_cons_succ]
    refine runL 10 (.bool false) rfl (by rfl) (by go_simp) ?_
    simp only [List.set_cons_zero, List.set_cons_succ]
    refine runL 11 (.bool false) rfl (by rfl) (by go_simp) ?_
    simp only [List.set_cons_zero, List.set_cons_succ]
    refine runL 12 (.slice (A2) n2 c2) rfl (by rfl) (by go_simp) ?_
    simp only [List.set_cons_zero, List.set_cons_succ]
    refine runL 13 (.int .i64 (n2)) rfl (by rfl) (by go_simp) ?_
    simp only [List.set_cons_zero, List.set_cons_succ]
    refine runL 14 (.bool true) rfl (by rfl) (by go_simp) ?_
    simp only [List.set_cons_zero, List.set_cons_succ]
    refine runL 15 (.bool true) rfl (by rfl) (by go_simp) ?_
    simp only [List.set_cons_zero, List.set_cons_succ]
    refine nilL ?_
    go_upto_region 2 with fail
    refine wl_lit ?_
    refine callL 16 rfl (by rfl) (fun K hK => wp_callF 8 #[] (by go_simp) (lives_any _ (gl.out _ hW)) ?_)
    rintro e w2 ⟨rfl, bx⟩
    replace hW := hW.trans (bx.mono (Nat.le_trans hB0 hW.size))
    clear bx
    refine ⟨_, rfl, hK.out _ _ ?_⟩
    clear hK K
    simp only [List.set_cons_zero, List.set_cons_succ]
    refine runL 4 (.bool true) rfl (by rfl) (by go_simp) ?_
    simp only [List.set_cons_zero, List.set_cons_succ]
    refine nilL ?_
    go_wp2_with fail
    go_ret
    exact ⟨rfl, hW⟩
  have hI5 : ¬ (5 : Int) < (n2 : Int) := by omega
  go_enter Tryd.func4, Tryd.ntmps4
  go_upto_region 0 with fail
  refine wl_lit ?_
  refine runL 4 (.bool false) rfl (by rfl) (by go_simp) ?_
  simp only [List.set_cons_zero, List.set_cons_succ]
  refine nilL ?_
  go_upto_region 1 with fail
  refine wl_lit ?_
  refine runL 8 (.slice (A) n c) rfl (by rfl) (by go_simp) ?_
  simp only [List.set_cons_zero, List.set_cons_succ]
  refine runL 9 (.int .i64 (n)) rfl (by rfl) (by go_simp) ?_
  simp only [List.set_cons_zero, List.set_cons_succ]
  refine runL 10 (.bool false) rfl (by rfl) (by go_simp) ?_
  simp only [List.set_cons_zero, List.set_cons_succ]
  refine runL 11 (.bool false) rfl (by rfl) (by go_simp) ?_
  simp only [List.set_cons_zero, List.set_cons_succ]
  refine runL 12 (.slice (A2) n2 c2) rfl (by rfl) (by go_simp) ?_
  simp only [List.set_cons_zero, List.set_cons_succ]
  refine runL 13 (.int .i64 (n2)) rfl (by rfl) (by go_simp) ?_
  simp only [List.set_cons_zero, List.set_cons_succ]
  refine runL 14 (.bool false) rfl (by rfl) (by go_simp) ?_
  simp only [List.set_cons_zero, List.set_cons_succ]
  refine runL 15 (.bool false) rfl (by rfl) (by go_simp) ?_
  simp only [List.set_cons_zero, List.set_cons_succ]
  refine nilL ?_
  go_upto_region 3 with fail
  refine wl_lit ?_
  refine runL 5 (.slice none 0 0) rfl (by rfl) (by go_simp) ?_
  simp only [List.set_cons_zero, List.set_cons_succ]
  refine nilL ?_
  have hO0 : Own w B0 none 0 0 [] := Own.nil _ _
  go_upto_region 4 with fail
  refine wl_lit ?_
  refine runL 6 (.int .i64 0) rfl (by rfl) (by go_simp) ?_
  simp only [List.set_cons_zero, List.set_cons_succ]
  refine nilL ?_
  go_wp2
  go_loopw [5, 6] (fun v s wr => ∃ (k N : Nat) (AO : Option Addr) (cO : Nat), k ≤ n2 ∧ N ≤ 100 * k ∧ s = .int .i64 (k : Int) ∧ v = .slice AO N cO ∧ Own wr B0 AO N cO (ms.take k).flatten ∧ Below B0 w wr) (fun _ s _ => n2 - (intOf s).toNat)
  case atStart => exact ⟨0, 0, none, 0, by omega, by omega, rfl, rfl, by simpa using hO0, hW⟩
  case round =>
    clear hO0 hW
    obtain ⟨k, N, AO, cO, hk2, hN, rfl, rfl, hAO, hW⟩ := hrel
    by_cases hlt : k < n2
    ·
      have hltI : (k : Int) < (n2 : Int) := by omega
      obtain ⟨ad, Ai, ni, ci, rfl, hadB, hc0, hnc2, hr0, hby⟩ := (pd.out _ hW).2 k hlt
      have hst := Lib.hid (flat_take_succ ms k (by omega))
      have hrq := Lib.hid hr0
      clear hr0
      by_cases h100 : 100 < ni
      ·
        have hI1 : (100 : Int) < (ni : Int) := by omega
        go_upto_region 7 with fail
        refine wl_lit ?_
        refine runL 23 (.slice (some ad) n2 c2) rfl (by rfl) (by go_simp) ?_
        simp only [List.set_cons_zero, List.set_cons_succ]
        refine runL 24 (.int .i64 (k : Int)) rfl (by rfl) (by go_simp) ?_
        simp only [List.set_cons_zero, List.set_cons_succ]
        refine runL 25 (.pointer (some (ad.add k))) rfl (by rfl) (by go_simp) ?_
        simp only [List.set_cons_zero, List.set_cons_succ]
        refine runL 26 (.slice (Ai) ni ci) rfl (by rfl) (by go_simp) ?_
        simp only [List.set_cons_zero, List.set_cons_succ]
        refine runL 27 (.int .i64 (ni)) rfl (by rfl) (by go_simp) ?_
        simp only [List.set_cons_zero, List.set_cons_succ]
        refine runL 28 (.bool true) rfl (by rfl) (by go_simp) ?_
        simp only [List.set_cons_zero, List.set_cons_succ]
        refine nilL ?_
        clear hc0
        go_upto_region 8 with fail
        refine wl_lit ?_
        refine callL 29 rfl (by rfl) (fun K hK => wp_callF 8 #[] (by go_simp) (lives_any _ (gl.out _ hW)) ?_)
        rintro e w3 ⟨rfl, bx⟩
        replace hAO := hAO.below bx
        replace hW := hW.trans (bx.mono (Nat.le_trans hB0 hW.size))
        clear bx
        refine ⟨_, rfl, hK.out _ _ ?_⟩
        clear hK K
        simp only [List.set_cons_zero, List.set_cons_succ]
        refine runL 4 (.bool true) rfl (by rfl) (by go_simp) ?_
        simp only [List.set_cons_zero, List.set_cons_succ]
        refine nilL ?_
        go_wp2_with fail
        go_ret
        exact ⟨rfl, hW⟩
      ·
        have hI1 : ¬ (100 : Int) < (ni : Int) := by omega
        go_upto_region 7 with fail
        refine wl_lit ?_
        refine runL 23 (.slice (some ad) n2 c2) rfl (by rfl) (by go_simp) ?_
        simp only [List.set_cons_zero, List.set_cons_succ]
        refine runL 24 (.int .i64 (k : Int)) rfl (by rfl) (by go_simp) ?_
        simp only [List.set_cons_zero, List.set_cons_succ]
        refine runL 25 (.pointer (some (ad.add k))) rfl (by rfl) (by go_simp) ?_
        simp only [List.set_cons_zero, List.set_cons_succ]
        refine runL 26 (.slice (Ai) ni ci) rfl (by rfl) (by go_simp) ?_
        simp only [List.set_cons_zero, List.set_cons_succ]
        refine runL 27 (.int .i64 (ni)) rfl (by rfl) (by go_simp) ?_
        simp only [List.set_cons_zero, List.set_cons_succ]
        refine runL 28 (.bool false) rfl (by rfl) (by go_simp) ?_
        simp only [List.set_cons_zero, List.set_cons_succ]
        refine nilL ?_
        go_upto_region 9 with fail
        refine wl_lit ?_
        refine runL 30 (.slice (AO) N cO) rfl (by rfl) (by go_simp) ?_
        simp only [List.set_cons_zero, List.set_cons_succ]
        refine runL 31 (.slice (some ad) n2 c2) rfl (by rfl) (by go_simp) ?_
        simp only [List.set_cons_zero, List.set_cons_succ]
        refine runL 32 (.int .i64 (k : Int)) rfl (by rfl) (by go_simp) ?_
        simp only [List.set_cons_zero, List.set_cons_succ]
        refine runL 33 (.pointer (some (ad.add k))) rfl (by rfl) (by go_simp) ?_
        simp only [List.set_cons_zero, List.set_cons_succ]
        refine runL 34 (.slice (Ai) ni ci) rfl (by rfl) (by go_simp) ?_
        simp only [List.set_cons_zero, List.set_cons_succ]
        obtain ⟨AP, cAP, w4, hap, hAP, hcAP, hgr, hof⟩ := own_append hAO (Ai) ni ci _ (ms.getD k []) hrq.out (Nat.le_trans hB0 hW.size) ((ms.take (k + 1)).flatten) hst.out.symm (N + ni) (by omega) (by omega) 22
        refine runWL 35 (.slice AP (N + ni) cAP) w4 rfl (by rfl) (exec_append _ _ _ _ rfl _ _ _ rfl rfl hap) ?_
        simp only [List.set_cons_zero, List.set_cons_succ]
        replace hW := Own.belowG hW (Nat.le_trans hB0 hW.size) hAO.from_ hgr
        clear hAO hgr hof hap
        refine runL 5 (.slice (AP) (N + ni) cAP) rfl (by rfl) (by go_simp) ?_
        simp only [List.set_cons_zero, List.set_cons_succ]
        refine nilL ?_
        clear hc0
        go_wp2
        go_roundw
        case rel => exact ⟨k + 1, N + ni, AP, cAP, by omega, by omega, by go_num, rfl, hAP, hW⟩
        case measure => simp [intOf]; omega
    ·
      obtain rfl : n2 = k := by omega
      have hfl : (ms.take n2).flatten = ms.flatten := by rw [List.take_of_length_le (by omega)]
      rw [hfl] at hAO
      have hflen := hAO.len
      have hbm : Byt ms.flatten := fun x hx => by
        obtain ⟨l, hl, hxl⟩ := List.mem_flatten.1 hx
        obtain ⟨j, hj, rfl⟩ := List.getElem_of_mem hl
        obtain ⟨_, _, _, _, _, _, _, _, _, hb⟩ := (pd.out _ hW).2 j (by omega)
        exact hb x (by simpa [List.getD_eq_getElem?_getD, hj] using hxl)
      clear hfl
      go_upto_region 10 with fail
      refine wl_lit ?_
      refine runL 36 (.slice (A) n c) rfl (by rfl) (by go_simp) ?_
      simp only [List.set_cons_zero, List.set_cons_succ]
      refine runL 37 (.slice (AO) N cO) rfl (by rfl) (by go_simp) ?_
      simp only [List.set_cons_zero, List.set_cons_succ]
      refine callL 38 rfl (by rfl) (fun K hK => wp_callF 11 #[.slice (A) n c, .slice (AO) N cO] (by go_simp) (rhm_any key ms.flatten A n c B AO N cO _ hk (by omega) hbm (by omega) _ (rd.out _ hW) (Nat.le_trans hBB (Nat.le_trans hB0 hW.size)) hAO.reads (Nat.le_refl _)) ?_)
      rintro e w5 ⟨rfl, bx⟩
      replace hAO := hAO.below bx
      replace hW := hW.trans (bx.mono (Nat.le_trans hB0 hW.size))
      clear bx
      refine ⟨_, rfl, hK.out _ _ ?_⟩
      clear hK K
      simp only [List.set_cons_zero, List.set_cons_succ]
      refine runWL 7 (.pointer (some ⟨w5.heap.size, 0, none⟩)) (w5.alloc (.cells (va .u8 (List.replicate 32 0)) 30)) rfl (by rfl) (exec_allocV 30 rfl _ (zv_api_Digest _)) ?_
      simp only [List.set_cons_zero, List.set_cons_succ]
      have nAO_p7 := hAO.new_off
      have lw_p7 := Nat.le_trans hB0 hW.size
      have hp7 : Blk (w5.alloc (.cells (va .u8 (List.replicate 32 0)) 30)) w5.heap.size 30 (va .u8 (List.replicate 32 0)) := Blk.new _ _ _
      replace hAO := hAO.alloc (.cells (va .u8 (List.replicate 32 0)) 30)
      replace hW := hW.alloc (Nat.le_trans hB0 hW.size) (.cells (va .u8 (List.replicate 32 0)) 30)
      generalize w5.alloc (.cells (va .u8 (List.replicate 32 0)) 30) = w6 at *
      generalize w5.heap.size = p7 at hp7 lw_p7 nAO_p7 ⊢
      refine runSL (w6.setRow p7 (va .u8 (hm (key) (ms.flatten)))) rfl (by rfl) (exec_storeRow 30 (.tmp 7) (.tmp 38) rfl p7 rfl (va .u8 (hm (key) (ms.flatten))) rfl 30 (va .u8 (List.replicate 32 0)) hp7 (sz_eq (sz_api_Digest _ (List.length_replicate)) (sz_api_Digest _ (hm_len _ _))) (sz_api_Digest _ (hm_len _ _)) (va_ones .u8 _)) ?_
      replace hAO := hAO.rowFar nAO_p7 (va .u8 (hm (key) (ms.flatten)))
      replace hp7 := hp7.row (va .u8 (hm (key) (ms.flatten)))
      replace hW := below_setRow hW lw_p7 (va .u8 (hm (key) (ms.flatten)))
      generalize w6.setRow p7 (va .u8 (hm (key) (ms.flatten))) = w7 at *
      refine nilL ?_
      go_upto_region 11 with fail
      refine wp_region_held_drew (S := fun wr => Own wr B0 (AO) N cO (ms.flatten) ∧ Blk wr p7 30 (va .u8 (hm (key) (ms.flatten))) ∧ Below B0 w wr) (by kernel_rfl) ⟨hAO.drew_, hp7.drew, below_drewN hW 1⟩ (fun hH => ?_)
      clear hAO hp7 hW
      obtain ⟨hAO, hp7, hW⟩ := hH
      generalize w7.drew = w8 at *
      refine takeH 16 0 39 (.slice (A) n c) rfl rfl (by kernel_rfl) (by kernel_rfl) (by kernel_rfl) (fun _ _ _ h => h) (Or.inl ⟨by rfl, fun w _ => by go_simp⟩) ⟨hAO, hp7, hW⟩ ?_
      simp only [List.set_cons_zero, List.set_cons_succ]
      refine takeH 15 1 40 (.slice (A2) n2 c2) rfl rfl (by kernel_rfl) (by kernel_rfl) (by kernel_rfl) (fun _ _ _ h => h) (Or.inl ⟨by rfl, fun w _ => by go_simp⟩) ⟨hAO, hp7, hW⟩ ?_
      simp only [List.set_cons_zero, List.set_cons_succ]
      refine takeH 14 3 42 (.agg (va .u8 (hm (key) (ms.flatten)))) rfl rfl (by kernel_rfl) (by kernel_rfl) (by kernel_rfl) (fun _ _ _ h => h) (Or.inl ⟨by rfl, fun _ h => exec_row 30 (.tmp 7) rfl p7 rfl 30 (va .u8 (hm (key) (ms.flatten))) _ h.2.1 (by exact Tryd.underlying30) rfl (sz_api_Digest _ (hm_len _ _))⟩) ⟨hAO, hp7, hW⟩ ?_
      simp only [List.set_cons_zero, List.set_cons_succ]
      refine wpAnyH_ready (by kernel_rfl) (by simp) (readyCons 13 2 41 rfl rfl (by rfl) (fun K hK => wp_callF 12 #[.slice (A) n c, .slice (A2) n2 c2] (by go_simp) (macof_any key A n c B ms A2 n2 c2 B2 hk hnc (by omega) (by omega) (by omega) _ (gl.out _ hW) (rd.out _ hW) (Nat.le_trans hBB (Nat.le_trans hB0 hW.size)) (pd.out _ hW) (Nat.le_trans hBB2 (Nat.le_trans hB0 hW.size))) ?_) AllReadyH.nil)
      rintro e w9 ⟨rfl, bx⟩
      replace hAO := hAO.below bx
      replace hp7 := hp7.below bx hp7.lt
      replace hW := hW.trans (bx.mono (Nat.le_trans hB0 hW.size))
      clear bx
      refine ⟨_, rfl, hK.out _ _ ⟨hAO, hp7, hW⟩ (fun _ => ?_)⟩
      clear hK K
      simp only [List.set_cons_zero, List.set_cons_succ]
      refine takeH 12 4 43 (.bool true) rfl rfl (by kernel_rfl) (by kernel_rfl) (by kernel_rfl) (fun _ _ _ h => h) (Or.inl ⟨by rfl, fun _ _ => exec_eqB 30 32 (by kernel_rfl) (by kernel_rfl) (.tmp 41) (.tmp 42) _ rfl (hm (key) (ms.flatten)) (hm (key) (ms.flatten)) (hm_len _ _) (hm_len _ _) rfl rfl true (by simp)⟩) ⟨hAO, hp7, hW⟩ ?_
      simp only [List.set_cons_zero, List.set_cons_succ]
      refine takeH 11 5 44 (.bool true) rfl rfl (by kernel_rfl) (by kernel_rfl) (by kernel_rfl) (fun _ _ _ h => h) (Or.inl ⟨by rfl, fun w _ => by go_simp⟩) ⟨hAO, hp7, hW⟩ ?_
      simp only [List.set_cons_zero, List.set_cons_succ]
      refine takeH 10 6 45 (.slice (A) n c) rfl rfl (by kernel_rfl) (by kernel_rfl) (by kernel_rfl) (fun _ _ _ h => h) (Or.inl ⟨by rfl, fun w _ => by go_simp⟩) ⟨hAO, hp7, hW⟩ ?_
      simp only [List.set_cons_zero, List.set_cons_succ]
      refine takeH 9 7 46 (.slice (AO) N cO) rfl rfl (by kernel_rfl) (by kernel_rfl) (by kernel_rfl) (fun _ _ _ h => h) (Or.inl ⟨by rfl, fun w _ => by go_simp⟩) ⟨hAO, hp7, hW⟩ ?_
      simp only [List.set_cons_zero, List.set_cons_succ]
      refine takeH 8 10 49 (.agg (va .u8 (hm (key) (ms.flatten)))) rfl rfl (by kernel_rfl) (by kernel_rfl) (by kernel_rfl) (fun _ _ _ h => h) (Or.inl ⟨by rfl, fun _ h => exec_row 30 (.tmp 7) rfl p7 rfl 30 (va .u8 (hm (key) (ms.flatten))) _ h.2.1 (by exact Tryd.underlying30) rfl (sz_api_Digest _ (hm_len _ _))⟩) ⟨hAO, hp7, hW⟩ ?_
      simp only [List.set_cons_zero, List.set_cons_succ]
      refine wpAnyH_ready (by kernel_rfl) (by simp) (readyRun 7 8 47 (.slice (some ⟨w9.heap.size, 0, none⟩) 1 1) (w9.alloc (.cells (#[.slice (AO) N cO]) 22)) rfl rfl (by rfl) (exec_bslice 28 1 _ rfl _ (by exact bs_1 (AO) N cO _)) ⟨hAO.alloc _, hp7.alloc _, hW.alloc (Nat.le_trans hB0 hW.size) _⟩ (fun _ => ?_) AllReadyH.nil)
      simp only [List.set_cons_zero, List.set_cons_succ]
      have nAO_q1 := hAO.new_off
      have lp7_q1 := hp7.lt
      have lw_q1 := Nat.le_trans hB0 hW.size
      have hq1 : Blk (w9.alloc (.cells (#[.slice (AO) N cO]) 22)) w9.heap.size 22 (#[.slice (AO) N cO]) := Blk.new _ _ _
      replace hAO := hAO.alloc (.cells (#[.slice (AO) N cO]) 22)
      replace hp7 := hp7.alloc (.cells (#[.slice (AO) N cO]) 22)
      replace hW := hW.alloc (Nat.le_trans hB0 hW.size) (.cells (#[.slice (AO) N cO]) 22)
      generalize w9.alloc (.cells (#[.slice (AO) N cO]) 22) = w10 at *
      generalize w9.heap.size = q1 at hq1 lw_q1 nAO_q1 lp7_q1 ⊢
      refine wpAnyH_ready (by kernel_rfl) (by simp) (readyCons 6 9 48 rfl rfl (by rfl) (fun K hK => wp_callF 12 #[.slice (A) n c, .slice (some ⟨q1, 0, none⟩) 1 1] (by go_simp) (macof_to (key) (ms.flatten) _ n c _ [ms.flatten] (by simp) _ 1 1 _ hk hnc (by omega) (by omega) (by omega) _ (gl.out _ hW) (rd.out _ hW) (Nat.le_trans hBB (Nat.le_trans hB0 hW.size)) (parts_one (Nat.le_refl _) hq1 hAO.reads hAO.cap hbm) (Nat.le_refl _)) ?_) AllReadyH.nil)
      rintro e w11 ⟨rfl, bx⟩
      replace hAO := hAO.below bx
      replace hp7 := hp7.below bx hp7.lt
      replace hq1 := hq1.below bx hq1.lt
      replace hW := hW.trans (bx.mono (Nat.le_trans hB0 hW.size))
      clear bx
      refine ⟨_, rfl, hK.out _ _ ⟨hAO, hp7, hW⟩ (fun _ => ?_)⟩
      clear hK K
      simp only [List.set_cons_zero, List.set_cons_succ]
      refine takeH 5 11 50 (.bool true) rfl rfl (by kernel_rfl) (by kernel_rfl) (by kernel_rfl) (fun _ _ _ h => h) (Or.inl ⟨by rfl, fun _ _ => exec_eqB 30 32 (by kernel_rfl) (by kernel_rfl) (.tmp 48) (.tmp 49) _ rfl (hm (key) (ms.flatten)) (hm (key) (ms.flatten)) (hm_len _ _) (hm_len _ _) rfl rfl true (by simp)⟩) ⟨hAO, hp7, hW⟩ ?_
      simp only [List.set_cons_zero, List.set_cons_succ]
      refine takeH 4 12 51 (.bool true) rfl rfl (by kernel_rfl) (by kernel_rfl) (by kernel_rfl) (fun _ _ _ h => h) (Or.inl ⟨by rfl, fun w _ => by go_simp⟩) ⟨hAO, hp7, hW⟩ ?_
      simp only [List.set_cons_zero, List.set_cons_succ]
      refine takeH 3 13 52 (.bool true) rfl rfl (by kernel_rfl) (by kernel_rfl) (by kernel_rfl) (fun _ _ _ h => h) (Or.inl ⟨by rfl, fun w _ => by go_simp⟩) ⟨hAO, hp7, hW⟩ ?_
      simp only [List.set_cons_zero, List.set_cons_succ]
      refine wpAnyH_ready (by kernel_rfl) (by simp) (readyCons 2 14 53 rfl rfl (by rfl) (fun K hK => wp_callF 8 #[] (by go_simp) (lives_any _ (gl.out _ hW)) ?_) AllReadyH.nil)
      rintro e w12 ⟨rfl, bx⟩
      replace hAO := hAO.below bx
      replace hp7 := hp7.below bx hp7.lt
      replace hq1 := hq1.below bx hq1.lt
      replace hW := hW.trans (bx.mono (Nat.le_trans hB0 hW.size))
      clear bx
      refine ⟨_, rfl, hK.out _ _ ⟨hAO, hp7, hW⟩ (fun _ => ?_)⟩
      clear hK K
      simp only [List.set_cons_zero, List.set_cons_succ]
      refine takeH 1 15 54 (.bool true) rfl rfl (by kernel_rfl) (by kernel_rfl) (by kernel_rfl) (fun _ _ _ h => h) (Or.inl ⟨by rfl, fun w _ => by go_simp⟩) ⟨hAO, hp7, hW⟩ ?_
      simp only [List.set_cons_zero, List.set_cons_succ]
      refine takeH 0 16 4 (.bool true) rfl rfl (by kernel_rfl) (by kernel_rfl) (by kernel_rfl) (fun _ _ _ h => h) (Or.inl ⟨by rfl, fun w _ => by go_simp⟩) ⟨hAO, hp7, hW⟩ ?_
      simp only [List.set_cons_zero, List.set_cons_succ]
      refine wpAnyH_done (by kernel_rfl) ?_ _
      go_wp2_with fail
      go_ret
      exact ⟨rfl, hW⟩
end Go.Proofs.YtfnhjbamomolfaaDoor
