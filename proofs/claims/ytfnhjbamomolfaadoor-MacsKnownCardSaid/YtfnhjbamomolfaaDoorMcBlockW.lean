/-
  The walk of MacsBlock. (Printed by mk03.py.)
-/
import Derived.Test.YtfnhjbamomolfaaDoorMcLive
namespace Go.Proofs.YtfnhjbamomolfaaDoor
open Go.RowKit Sh

set_option maxRecDepth 8000 in
set_option maxHeartbeats 4000000 in
theorem lawBlock_any (key : List Nat) (A : Option Addr) (n c B : Nat) (hk : Byt key) (hnc : n ≤ c) (w : World) (hg : Glob w) (hr : Reads w B 1 A n (nv .u8 key)) (hB : B ≤ w.heap.size) :
    Calls Tryd.prog 3 #[.slice A n c] w fun e w' => e = .returned (.bool true) ∧ Below w.heap.size w w' := by
  obtain ⟨B0, hB0e⟩ : ∃ b, w.heap.size = b := ⟨_, rfl⟩
  rw [hB0e]
  have hW : Below B0 w w := by rw [← hB0e]; exact Below.refl _ _
  have hB0 : B0 ≤ w.heap.size := by omega
  have hBB : B ≤ B0 := by omega
  have gl := glob_of hg hB0e
  have rd := reads_of hr hBB
  clear hg hr hB
  have hB0q := Lib.hid hB0e
  clear hB0e
  by_cases h200 : 200 < n
  ·
    have hI : (200 : Int) < (n : Int) := by omega
    go_enter Tryd.func3, Tryd.ntmps3
    go_upto_region 0 with fail
    refine wl_lit ?_
    refine runL 2 (.bool false) rfl (by rfl) (by go_simp) ?_
    simp only [List.set_cons_zero, List.set_cons_succ]
    refine nilL ?_
    go_upto_region 1 with fail
    refine wl_lit ?_
    refine runL 5 (.slice (A) n c) rfl (by rfl) (by go_simp) ?_
    simp only [List.set_cons_zero, List.set_cons_succ]
    refine runL 6 (.int .i64 (n)) rfl (by rfl) (by go_simp) ?_
    simp only [List.set_cons_zero, List.set_cons_succ]
    refine runL 7 (.bool true) rfl (by rfl) (by go_simp) ?_
    simp only [List.set_cons_zero, List.set_cons_succ]
    refine nilL ?_
    go_upto_region 2 with fail
    refine wl_lit ?_
    refine callL 8 rfl (by rfl) (fun K hK => wp_callF 8 #[] (by go_simp) (lives_any _ (gl.out _ hW)) ?_)
    rintro e w1 ⟨rfl, bx⟩
    replace hW := hW.trans (bx.mono (Nat.le_trans hB0 hW.size))
    clear bx
    refine ⟨_, rfl, hK.out _ _ ?_⟩
    clear hK K
    simp only [List.set_cons_zero, List.set_cons_succ]
    refine runL 2 (.bool true) rfl (by rfl) (by go_simp) ?_
    simp only [List.set_cons_zero, List.set_cons_succ]
    refine nilL ?_
    go_wp2_with fail
    go_ret
    exact ⟨rfl, hW⟩
  ·
    have hI : ¬ (200 : Int) < (n : Int) := by omega
    go_enter Tryd.func3, Tryd.ntmps3
    go_upto_region 0 with fail
    refine wl_lit ?_
    refine runL 2 (.bool false) rfl (by rfl) (by go_simp) ?_
    simp only [List.set_cons_zero, List.set_cons_succ]
    refine nilL ?_
    go_upto_region 1 with fail
    refine wl_lit ?_
    refine runL 5 (.slice (A) n c) rfl (by rfl) (by go_simp) ?_
    simp only [List.set_cons_zero, List.set_cons_succ]
    refine runL 6 (.int .i64 (n)) rfl (by rfl) (by go_simp) ?_
    simp only [List.set_cons_zero, List.set_cons_succ]
    refine runL 7 (.bool false) rfl (by rfl) (by go_simp) ?_
    simp only [List.set_cons_zero, List.set_cons_succ]
    refine nilL ?_
    go_upto_region 3 with fail
    refine wl_lit ?_
    refine runL 9 (.slice (A) n c) rfl (by rfl) (by go_simp) ?_
    simp only [List.set_cons_zero, List.set_cons_succ]
    refine runL 10 (.string (bst (key))) rfl (by rfl) (exec_conv 22 9 (.tmp 9) rfl (.slice (A) n c) (.string (bst (key))) rfl (Reads.string (rd.out _ hW) _ _ Tryd.underlying22 Tryd.underlying9)) ?_
    simp only [List.set_cons_zero, List.set_cons_succ]
    refine runL 3 (.string (bst (key))) rfl (by rfl) (by go_simp) ?_
    simp only [List.set_cons_zero, List.set_cons_succ]
    refine nilL ?_
    go_upto_region 4 with fail
    refine wl_lit ?_
    refine runL 11 (.slice (A) n c) rfl (by rfl) (by go_simp) ?_
    simp only [List.set_cons_zero, List.set_cons_succ]
    refine callL 12 rfl (by rfl) (fun K hK => wp_callF 9 #[.slice (A) n c] (by go_simp) (block_any key A n c B hk hnc (by omega) _ (gl.out _ hW) (rd.out _ hW) (Nat.le_trans hBB (Nat.le_trans hB0 hW.size))) ?_)
    rintro e w2 ⟨rfl, bx⟩
    replace hW := hW.trans (bx.mono (Nat.le_trans hB0 hW.size))
    clear bx
    refine ⟨_, rfl, hK.out _ _ ?_⟩
    clear hK K
    simp only [List.set_cons_zero, List.set_cons_succ]
    refine runWL 4 (.pointer (some ⟨w2.heap.size, 0, none⟩)) (w2.alloc (.cells (va .u8 (List.replicate 64 0)) 24)) rfl (by rfl) (exec_allocV 24 rfl _ (zv__64_uint8 _)) ?_
    simp only [List.set_cons_zero, List.set_cons_succ]
    have lw_p4 := Nat.le_trans hB0 hW.size
    have hp4 : Blk (w2.alloc (.cells (va .u8 (List.replicate 64 0)) 24)) w2.heap.size 24 (va .u8 (List.replicate 64 0)) := Blk.new _ _ _
    replace hW := hW.alloc (Nat.le_trans hB0 hW.size) (.cells (va .u8 (List.replicate 64 0)) 24)
    generalize w2.alloc (.cells (va .u8 (List.replicate 64 0)) 24) = w3 at *
    generalize w2.heap.size = p4 at hp4 lw_p4  ⊢
    refine runSL (w3.setRow p4 (va .u8 (kb key))) rfl (by rfl) (exec_storeRow 24 (.tmp 4) (.tmp 12) rfl p4 rfl (va .u8 (kb key)) rfl 24 (va .u8 (List.replicate 64 0)) hp4 (sz_eq (sz__64_uint8 _ (List.length_replicate)) (sz__64_uint8 _ (kb_len _))) (sz__64_uint8 _ (kb_len _)) (va_ones .u8 _)) ?_
    replace hp4 := hp4.row (va .u8 (kb key))
    replace hW := below_setRow hW lw_p4 (va .u8 (kb key))
    generalize w3.setRow p4 (va .u8 (kb key)) = w4 at *
    refine nilL ?_
    go_upto_region 5 with fail
    refine wp_region_held_drew (S := fun wr => Blk wr p4 24 (va .u8 (kb key)) ∧ Below B0 w wr) (by kernel_rfl) ⟨hp4.drew, below_drewN hW 1⟩ (fun hH => ?_)
    clear hp4 hW
    obtain ⟨hp4, hW⟩ := hH
    generalize w4.drew = w5 at *
    refine takeH 15 0 13 (.slice (some ⟨p4, 0, none⟩) 64 64) rfl rfl (by kernel_rfl) (by kernel_rfl) (by kernel_rfl) (fun _ _ _ h => h) (Or.inl ⟨by rfl, fun w _ => by go_simp⟩) ⟨hp4, hW⟩ ?_
    simp only [List.set_cons_zero, List.set_cons_succ]
    refine takeH 14 1 14 (.string (bst (kb key))) rfl rfl (by kernel_rfl) (by kernel_rfl) (by kernel_rfl) (fun _ _ _ h => h) (Or.inl ⟨by rfl, fun _ h => exec_conv 22 9 (.tmp 13) rfl (.slice (some ⟨p4, 0, none⟩) 64 64) (.string (bst (kb key))) rfl (Reads.string (h.1.readsAll (Nat.lt_succ_self _) (kb_len _)) _ _ Tryd.underlying22 Tryd.underlying9)⟩) ⟨hp4, hW⟩ ?_
    simp only [List.set_cons_zero, List.set_cons_succ]
    refine takeH 13 2 15 (.slice (A) n c) rfl rfl (by kernel_rfl) (by kernel_rfl) (by kernel_rfl) (fun _ _ _ h => h) (Or.inl ⟨by rfl, fun w _ => by go_simp⟩) ⟨hp4, hW⟩ ?_
    simp only [List.set_cons_zero, List.set_cons_succ]
    refine wpAnyH_ready (by kernel_rfl) (by simp) (readyCons 12 3 16 rfl rfl (by rfl) (fun K hK => wp_callF 10 #[.slice (A) n c] (by go_simp) (rblock_any key A n c B hk (by omega) _ (rd.out _ hW) (Nat.le_trans hBB (Nat.le_trans hB0 hW.size))) ?_) AllReadyH.nil)
    rintro e w6 ⟨g5, c5, rfl, hg5, hc5, hgg, bx⟩
    have lp4_g5 : p4 < g5 := Nat.lt_of_lt_of_le hp4.lt hgg
    have lw_g5 : B0 ≤ g5 := Nat.le_trans (Nat.le_trans hB0 hW.size) hgg
    replace hp4 := hp4.below bx hp4.lt
    replace hW := hW.trans (bx.mono (Nat.le_trans hB0 hW.size))
    clear hgg
    clear bx
    refine ⟨_, rfl, hK.out _ _ ⟨hp4, hW⟩ (fun _ => ?_)⟩
    clear hK K
    simp only [List.set_cons_zero, List.set_cons_succ]
    refine wpAnyH_ready (by kernel_rfl) (by simp) (readyRun 11 4 17 (.string (bst (kb key))) w6 rfl rfl (by rfl) (exec_conv 22 9 (.tmp 16) rfl (.slice (some ⟨g5, 0, none⟩) 64 c5) (.string (bst (kb key))) rfl (Reads.string (hg5.reads (kb_len _)) _ _ Tryd.underlying22 Tryd.underlying9)) ⟨hp4, hW⟩ (fun _ => ?_) AllReadyH.nil)
    simp only [List.set_cons_zero, List.set_cons_succ]
    refine takeH 10 5 18 (.bool true) rfl rfl (by kernel_rfl) (by kernel_rfl) (by kernel_rfl) (fun _ _ _ h => h) (Or.inl ⟨by rfl, fun w _ => by go_simp⟩) ⟨hp4, hW⟩ ?_
    simp only [List.set_cons_zero, List.set_cons_succ]
    refine takeH 9 6 19 (.bool true) rfl rfl (by kernel_rfl) (by kernel_rfl) (by kernel_rfl) (fun _ _ _ h => h) (Or.inl ⟨by rfl, fun w _ => by go_simp⟩) ⟨hp4, hW⟩ ?_
    simp only [List.set_cons_zero, List.set_cons_succ]
    refine takeH 8 7 20 (.slice (A) n c) rfl rfl (by kernel_rfl) (by kernel_rfl) (by kernel_rfl) (fun _ _ _ h => h) (Or.inl ⟨by rfl, fun w _ => by go_simp⟩) ⟨hp4, hW⟩ ?_
    simp only [List.set_cons_zero, List.set_cons_succ]
    refine takeH 7 8 21 (.string (bst (key))) rfl rfl (by kernel_rfl) (by kernel_rfl) (by kernel_rfl) (fun _ _ _ h => h) (Or.inl ⟨by rfl, fun _ h => exec_conv 22 9 (.tmp 20) rfl (.slice (A) n c) (.string (bst (key))) rfl (Reads.string (rd.out _ h.2) _ _ Tryd.underlying22 Tryd.underlying9)⟩) ⟨hp4, hW⟩ ?_
    simp only [List.set_cons_zero, List.set_cons_succ]
    refine takeH 6 9 22 (.string (bst (key))) rfl rfl (by kernel_rfl) (by kernel_rfl) (by kernel_rfl) (fun _ _ _ h => h) (Or.inl ⟨by rfl, fun w _ => by go_simp⟩) ⟨hp4, hW⟩ ?_
    simp only [List.set_cons_zero, List.set_cons_succ]
    refine takeH 5 10 23 (.bool true) rfl rfl (by kernel_rfl) (by kernel_rfl) (by kernel_rfl) (fun _ _ _ h => h) (Or.inl ⟨by rfl, fun w _ => by go_simp⟩) ⟨hp4, hW⟩ ?_
    simp only [List.set_cons_zero, List.set_cons_succ]
    refine takeH 4 11 24 (.bool true) rfl rfl (by kernel_rfl) (by kernel_rfl) (by kernel_rfl) (fun _ _ _ h => h) (Or.inl ⟨by rfl, fun w _ => by go_simp⟩) ⟨hp4, hW⟩ ?_
    simp only [List.set_cons_zero, List.set_cons_succ]
    refine takeH 3 12 25 (.bool true) rfl rfl (by kernel_rfl) (by kernel_rfl) (by kernel_rfl) (fun _ _ _ h => h) (Or.inl ⟨by rfl, fun w _ => by go_simp⟩) ⟨hp4, hW⟩ ?_
    simp only [List.set_cons_zero, List.set_cons_succ]
    refine wpAnyH_ready (by kernel_rfl) (by simp) (readyCons 2 13 26 rfl rfl (by rfl) (fun K hK => wp_callF 8 #[] (by go_simp) (lives_any _ (gl.out _ hW)) ?_) AllReadyH.nil)
    rintro e w7 ⟨rfl, bx⟩
    replace hp4 := hp4.below bx hp4.lt
    replace hg5 := hg5.below bx hg5.lt
    replace hW := hW.trans (bx.mono (Nat.le_trans hB0 hW.size))
    clear bx
    refine ⟨_, rfl, hK.out _ _ ⟨hp4, hW⟩ (fun _ => ?_)⟩
    clear hK K
    simp only [List.set_cons_zero, List.set_cons_succ]
    refine takeH 1 14 27 (.bool true) rfl rfl (by kernel_rfl) (by kernel_rfl) (by kernel_rfl) (fun _ _ _ h => h) (Or.inl ⟨by rfl, fun w _ => by go_simp⟩) ⟨hp4, hW⟩ ?_
    simp only [List.set_cons_zero, List.set_cons_succ]
    refine takeH 0 15 2 (.bool true) rfl rfl (by kernel_rfl) (by kernel_rfl) (by kernel_rfl) (fun _ _ _ h => h) (Or.inl ⟨by rfl, fun w _ => by go_simp⟩) ⟨hp4, hW⟩ ?_
    simp only [List.set_cons_zero, List.set_cons_succ]
    refine wpAnyH_done (by kernel_rfl) ?_ _
    go_wp2_with fail
    go_ret
    exact ⟨rfl, hW⟩
end Go.Proofs.YtfnhjbamomolfaaDoor
