/-
  The walks of streams.counterBlock, Block. (Printed by mk07.py.)
-/
import Derived.Test.YtpcdckhabaoieaaStmV
import Derived.Test.YtpcdckhabaoieaaJoin
import Derived.Test.YtpcdckhabaoieaaCLwEnc
namespace Go.Proofs.Ytpcdckhabaoieaa
open Go.RowKit Sh

/-- the counter block -/
def cbl (s c k : Nat) : List Nat := beB s 4 ++ (beB c 8 ++ beB k 4)
theorem cbl_len (s c k : Nat) : (cbl s c k).length = 16 := by simp [cbl, beB_len]
theorem cbl_byt (s c k : Nat) : Byt (cbl s c k) := (beB_byt _ _).app ((beB_byt _ _).app (beB_byt _ _))
/-- a block of the key stream -/
def sbl (key : List Nat) (s c k : Nat) : List Nat := Ci.enc (Ci.exL key) (cbl s c k)
theorem sbl_len (key : List Nat) (s c k : Nat) : (sbl key s c k).length = 16 := enc_len _ _

set_option maxRecDepth 8000 in
set_option maxHeartbeats 2000000 in
theorem counter_any (s c k : Nat) (hs : s < 4294967296) (hk : k < 4294967296) (w : World) :
    Calls Try.prog 20 #[.agg (noV s c), .int .u32 (k : Int)] w fun e w' => e = .returned (.agg (va .u8 (cbl s c k))) ∧ Below w.heap.size w w' := by
  obtain ⟨B0, hB0e⟩ : ∃ b, w.heap.size = b := ⟨_, rfl⟩
  rw [hB0e]
  have hW : Below B0 w w := by rw [← hB0e]; exact Below.refl _ _
  have hB0 : B0 ≤ w.heap.size := by omega
  have hB0q := Lib.hid hB0e
  clear hB0e
  go_enter Try.func20, Try.ntmps20
  go_upto_region 0 with fail
  refine wl_lit ?_
  refine runWL 2 (.pointer (some ⟨w.heap.size, 0, none⟩)) (w.alloc (.cells (noV s c) 26)) rfl (by rfl) (exec_box 26 (.tmp 0) rfl (.agg (noV s c)) rfl) ?_
  simp only [List.set_cons_zero, List.set_cons_succ]
  have lw_p2 := Nat.le_trans hB0 hW.size
  have hp2 : Blk (w.alloc (.cells (noV s c) 26)) w.heap.size 26 (noV s c) := Blk.new _ _ _
  replace hW := hW.alloc (Nat.le_trans hB0 hW.size) (.cells (noV s c) 26)
  generalize w.alloc (.cells (noV s c) 26) = w1 at *
  generalize w.heap.size = p2 at hp2 lw_p2  ⊢
  refine runWL 4 (.pointer (some ⟨w1.heap.size, 0, none⟩)) (w1.alloc (.cells (va .u8 (List.replicate 16 0)) 22)) rfl (by rfl) (exec_allocV 22 rfl _ (zv__16_uint8 _)) ?_
  simp only [List.set_cons_zero, List.set_cons_succ]
  have lp2_p4 := hp2.lt
  have lw_p4 := Nat.le_trans hB0 hW.size
  have hp4 : Blk (w1.alloc (.cells (va .u8 (List.replicate 16 0)) 22)) w1.heap.size 22 (va .u8 (List.replicate 16 0)) := Blk.new _ _ _
  replace hp2 := hp2.alloc (.cells (va .u8 (List.replicate 16 0)) 22)
  replace hW := hW.alloc (Nat.le_trans hB0 hW.size) (.cells (va .u8 (List.replicate 16 0)) 22)
  generalize w1.alloc (.cells (va .u8 (List.replicate 16 0)) 22) = w2 at *
  generalize w1.heap.size = p4 at hp4 lw_p4 lp2_p4 ⊢
  refine nilL ?_
  go_upto_region 1 with fail
  replace hp4 := hp4.drew
  refine wp_region_held_drew (S := fun wr => Blk wr p2 26 (noV s c) ∧ Below B0 w wr) (by kernel_rfl) ⟨hp2.drew, below_drewN hW 1⟩ (fun hH => ?_)
  clear hp2 hW
  obtain ⟨hp2, hW⟩ := hH
  generalize w2.drew = w3 at *
  refine takeH 11 0 5 (.slice (some ⟨p4, 0, none⟩) 16 16) rfl rfl (by kernel_rfl) (by kernel_rfl) (by kernel_rfl) (fun _ _ _ h => h) (Or.inl ⟨by rfl, fun w _ => by go_simp⟩) ⟨hp2, hW⟩ ?_
  simp only [List.set_cons_zero, List.set_cons_succ]
  refine takeH 10 1 6 (.pointer (some ⟨p2, 0, none⟩)) rfl rfl (by kernel_rfl) (by kernel_rfl) (by kernel_rfl) (fun _ _ _ h => h) (Or.inl ⟨by rfl, fun w _ => by go_simp⟩) ⟨hp2, hW⟩ ?_
  simp only [List.set_cons_zero, List.set_cons_succ]
  refine takeH 9 2 7 (.int .u32 (((s : Nat) : Int))) rfl rfl (by kernel_rfl) (by kernel_rfl) (by kernel_rfl) (fun _ _ _ h => h) (Or.inl ⟨by rfl, fun _ h => exec_cell 23 (.tmp 6) rfl p2 0 rfl (.int .u32 (((s : Nat) : Int))) _ Try.underlying23 rfl (h.1.cellIs 0 rfl)⟩) ⟨hp2, hW⟩ ?_
  simp only [List.set_cons_zero, List.set_cons_succ]
  refine takeH 8 4 9 (.pointer (some ⟨p2, 1, none⟩)) rfl rfl (by kernel_rfl) (by kernel_rfl) (by kernel_rfl) (fun _ _ _ h => h) (Or.inl ⟨by rfl, fun w _ => by go_simp⟩) ⟨hp2, hW⟩ ?_
  simp only [List.set_cons_zero, List.set_cons_succ]
  refine takeH 7 5 10 (.int .u64 (((c : Nat) : Int))) rfl rfl (by kernel_rfl) (by kernel_rfl) (by kernel_rfl) (fun _ _ _ h => h) (Or.inl ⟨by rfl, fun _ h => exec_cell 24 (.tmp 9) rfl p2 1 rfl (.int .u64 (((c : Nat) : Int))) _ Try.underlying24 rfl (h.1.cellIs 1 rfl)⟩) ⟨hp2, hW⟩ ?_
  simp only [List.set_cons_zero, List.set_cons_succ]
  refine takeH 6 7 12 (.int .u32 (k : Int)) rfl rfl (by kernel_rfl) (by kernel_rfl) (by kernel_rfl) (fun _ _ _ h => h) (Or.inl ⟨by rfl, fun w _ => by go_simp⟩) ⟨hp2, hW⟩ ?_
  simp only [List.set_cons_zero, List.set_cons_succ]
  refine wpAnyH_ready (by kernel_rfl) (by simp) (readyCons 5 3 8 rfl rfl (by rfl) (fun K hK => wp_callF 34 #[.int .u32 (((s : Nat) : Int))] (by go_simp) (put32_to s (beB s 4) rfl hs _) ?_) AllReadyH.nil)
  rintro e w4 ⟨g1, rfl, hg1, hgg, bx⟩
  have lp2_g1 : p2 < g1 := Nat.lt_of_lt_of_le hp2.lt hgg
  have lp4_g1 : p4 < g1 := Nat.lt_of_lt_of_le hp4.lt hgg
  have lw_g1 : B0 ≤ g1 := Nat.le_trans (Nat.le_trans hB0 hW.size) hgg
  replace hp2 := hp2.below bx hp2.lt
  replace hp4 := hp4.below bx hp4.lt
  replace hW := hW.trans (bx.mono (Nat.le_trans hB0 hW.size))
  clear hgg
  clear bx
  refine ⟨_, rfl, hK.out _ _ ⟨hp2, hW⟩ (fun _ => ?_)⟩
  clear hK K
  simp only [List.set_cons_zero, List.set_cons_succ]
  refine wpAnyH_ready (by kernel_rfl) (by simp) (readyCons 4 6 11 rfl rfl (by rfl) (fun K hK => wp_callF 35 #[.int .u64 (((c : Nat) : Int))] (by go_simp) (put64_to c (beB c 8) rfl _) ?_) AllReadyH.nil)
  rintro e w5 ⟨g2, rfl, hg2, hgg, bx⟩
  have lp2_g2 : p2 < g2 := Nat.lt_of_lt_of_le hp2.lt hgg
  have lp4_g2 : p4 < g2 := Nat.lt_of_lt_of_le hp4.lt hgg
  have lg1_g2 : g1 < g2 := Nat.lt_of_lt_of_le hg1.lt hgg
  have lw_g2 : B0 ≤ g2 := Nat.le_trans (Nat.le_trans hB0 hW.size) hgg
  replace hp2 := hp2.below bx hp2.lt
  replace hp4 := hp4.below bx hp4.lt
  replace hg1 := hg1.below bx hg1.lt
  replace hW := hW.trans (bx.mono (Nat.le_trans hB0 hW.size))
  clear hgg
  clear bx
  refine ⟨_, rfl, hK.out _ _ ⟨hp2, hW⟩ (fun _ => ?_)⟩
  clear hK K
  simp only [List.set_cons_zero, List.set_cons_succ]
  refine wpAnyH_ready (by kernel_rfl) (by simp) (readyCons 3 8 13 rfl rfl (by rfl) (fun K hK => wp_callF 34 #[.int .u32 (k : Int)] (by go_simp) (put32_to k (beB k 4) rfl hk _) ?_) AllReadyH.nil)
  rintro e w6 ⟨g3, rfl, hg3, hgg, bx⟩
  have lp2_g3 : p2 < g3 := Nat.lt_of_lt_of_le hp2.lt hgg
  have lp4_g3 : p4 < g3 := Nat.lt_of_lt_of_le hp4.lt hgg
  have lg1_g3 : g1 < g3 := Nat.lt_of_lt_of_le hg1.lt hgg
  have lg2_g3 : g2 < g3 := Nat.lt_of_lt_of_le hg2.lt hgg
  have lw_g3 : B0 ≤ g3 := Nat.le_trans (Nat.le_trans hB0 hW.size) hgg
  replace hp2 := hp2.below bx hp2.lt
  replace hp4 := hp4.below bx hp4.lt
  replace hg1 := hg1.below bx hg1.lt
  replace hg2 := hg2.below bx hg2.lt
  replace hW := hW.trans (bx.mono (Nat.le_trans hB0 hW.size))
  clear hgg
  clear bx
  refine ⟨_, rfl, hK.out _ _ ⟨hp2, hW⟩ (fun _ => ?_)⟩
  clear hK K
  simp only [List.set_cons_zero, List.set_cons_succ]
  refine wpAnyH_ready (by kernel_rfl) (by simp) (readyRun 2 9 14 (.slice (some ⟨w6.heap.size, 0, none⟩) 3 3) (w6.alloc (.cells (#[.slice (some ⟨g1, 0, none⟩) 4 4, .slice (some ⟨g2, 0, none⟩) 8 8, .slice (some ⟨g3, 0, none⟩) 4 4]) 39)) rfl rfl (by rfl) (exec_bslice 81 3 _ rfl _ (by exact bs_3 (some ⟨g1, 0, none⟩) 4 4 (some ⟨g2, 0, none⟩) 8 8 (some ⟨g3, 0, none⟩) 4 4 _)) ⟨hp2.alloc _, hW.alloc (Nat.le_trans hB0 hW.size) _⟩ (fun _ => ?_) AllReadyH.nil)
  simp only [List.set_cons_zero, List.set_cons_succ]
  have lp2_q1 := hp2.lt
  have lp4_q1 := hp4.lt
  have lg1_q1 := hg1.lt
  have lg2_q1 := hg2.lt
  have lg3_q1 := hg3.lt
  have lw_q1 := Nat.le_trans hB0 hW.size
  have hq1 : Blk (w6.alloc (.cells (#[.slice (some ⟨g1, 0, none⟩) 4 4, .slice (some ⟨g2, 0, none⟩) 8 8, .slice (some ⟨g3, 0, none⟩) 4 4]) 39)) w6.heap.size 39 (#[.slice (some ⟨g1, 0, none⟩) 4 4, .slice (some ⟨g2, 0, none⟩) 8 8, .slice (some ⟨g3, 0, none⟩) 4 4]) := Blk.new _ _ _
  replace hp2 := hp2.alloc (.cells (#[.slice (some ⟨g1, 0, none⟩) 4 4, .slice (some ⟨g2, 0, none⟩) 8 8, .slice (some ⟨g3, 0, none⟩) 4 4]) 39)
  replace hp4 := hp4.alloc (.cells (#[.slice (some ⟨g1, 0, none⟩) 4 4, .slice (some ⟨g2, 0, none⟩) 8 8, .slice (some ⟨g3, 0, none⟩) 4 4]) 39)
  replace hg1 := hg1.alloc (.cells (#[.slice (some ⟨g1, 0, none⟩) 4 4, .slice (some ⟨g2, 0, none⟩) 8 8, .slice (some ⟨g3, 0, none⟩) 4 4]) 39)
  replace hg2 := hg2.alloc (.cells (#[.slice (some ⟨g1, 0, none⟩) 4 4, .slice (some ⟨g2, 0, none⟩) 8 8, .slice (some ⟨g3, 0, none⟩) 4 4]) 39)
  replace hg3 := hg3.alloc (.cells (#[.slice (some ⟨g1, 0, none⟩) 4 4, .slice (some ⟨g2, 0, none⟩) 8 8, .slice (some ⟨g3, 0, none⟩) 4 4]) 39)
  replace hW := hW.alloc (Nat.le_trans hB0 hW.size) (.cells (#[.slice (some ⟨g1, 0, none⟩) 4 4, .slice (some ⟨g2, 0, none⟩) 8 8, .slice (some ⟨g3, 0, none⟩) 4 4]) 39)
  generalize w6.alloc (.cells (#[.slice (some ⟨g1, 0, none⟩) 4 4, .slice (some ⟨g2, 0, none⟩) 8 8, .slice (some ⟨g3, 0, none⟩) 4 4]) 39) = w7 at *
  generalize w6.heap.size = q1 at hq1 lw_q1 lp2_q1 lp4_q1 lg1_q1 lg2_q1 lg3_q1 ⊢
  refine wpAnyH_ready (by kernel_rfl) (by simp) (readyCons 1 10 15 rfl rfl (by rfl) (fun K hK => wp_callF 33 #[.slice (some ⟨q1, 0, none⟩) 3 3] (by go_simp) (join_to [beB s 4, beB c 8, beB k 4] (cbl s c k) 3 3 _ 16 _ _ (parts_three hg1.lt hg2.lt hg3.lt hq1 (hg1.readsAll (Nat.lt_succ_self _) (beB_len _ _)) (Nat.le_refl _) (beB_byt _ _) (hg2.readsAll (Nat.lt_succ_self _) (beB_len _ _)) (Nat.le_refl _) (beB_byt _ _) (hg3.readsAll (Nat.lt_succ_self _) (beB_len _ _)) (Nat.le_refl _) (beB_byt _ _)) (by simp [cbl]) (by omega) (Nat.le_refl _) (cbl_len _ _ _) (by omega)) ?_) AllReadyH.nil)
  rintro e w8 ⟨g4, rfl, hg4, hgg, bx⟩
  have lp2_g4 : p2 < g4 := Nat.lt_of_lt_of_le hp2.lt hgg
  have lp4_g4 : p4 < g4 := Nat.lt_of_lt_of_le hp4.lt hgg
  have lg1_g4 : g1 < g4 := Nat.lt_of_lt_of_le hg1.lt hgg
  have lg2_g4 : g2 < g4 := Nat.lt_of_lt_of_le hg2.lt hgg
  have lg3_g4 : g3 < g4 := Nat.lt_of_lt_of_le hg3.lt hgg
  have lq1_g4 : q1 < g4 := Nat.lt_of_lt_of_le hq1.lt hgg
  have lw_g4 : B0 ≤ g4 := Nat.le_trans (Nat.le_trans hB0 hW.size) hgg
  replace hp2 := hp2.below bx hp2.lt
  replace hp4 := hp4.below bx hp4.lt
  replace hg1 := hg1.below bx hg1.lt
  replace hg2 := hg2.below bx hg2.lt
  replace hg3 := hg3.below bx hg3.lt
  replace hq1 := hq1.below bx hq1.lt
  replace hW := hW.trans (bx.mono (Nat.le_trans hB0 hW.size))
  clear hgg
  clear bx
  refine ⟨_, rfl, hK.out _ _ ⟨hp2, hW⟩ (fun _ => ?_)⟩
  clear hK K
  simp only [List.set_cons_zero, List.set_cons_succ]
  refine wpAnyH_ready (by kernel_rfl) (by simp) (readyRun 0 11 16 (.int .i64 16) (w8.setRow p4 (va .u8 (cbl s c k))) rfl rfl (by rfl) (exec_copy _ _ _ _ rfl _ _ _ rfl rfl (copy_row _ _ _ Try.underlying39 p4 0 16 16 22 (List.replicate 16 0) hp4 (some ⟨g4, 0, none⟩) 16 16 _ (cbl s c k) (hg4.readsAll (Nat.lt_succ_self _) (cbl_len _ _ _)) (by omega) (by simp) (cbl s c k) (by simp [-List.reduceReplicate, cbl_len]))) ⟨hp2.rowFar (show p4 ≠ p2 from (by omega)) _, below_setRow hW lw_p4 _⟩ (fun _ => ?_) AllReadyH.nil)
  simp only [List.set_cons_zero, List.set_cons_succ]
  replace hp2 := hp2.rowFar (show p4 ≠ p2 from (by omega)) (va .u8 (cbl s c k))
  replace hg1 := hg1.rowFar (show p4 ≠ g1 from (by omega)) (va .u8 (cbl s c k))
  replace hg2 := hg2.rowFar (show p4 ≠ g2 from (by omega)) (va .u8 (cbl s c k))
  replace hg3 := hg3.rowFar (show p4 ≠ g3 from (by omega)) (va .u8 (cbl s c k))
  replace hq1 := hq1.rowFar (show p4 ≠ q1 from (by omega)) (va .u8 (cbl s c k))
  replace hg4 := hg4.rowFar (show p4 ≠ g4 from (by omega)) (va .u8 (cbl s c k))
  replace hp4 := hp4.row (va .u8 (cbl s c k))
  replace hW := below_setRow hW lw_p4 (va .u8 (cbl s c k))
  generalize w8.setRow p4 (va .u8 (cbl s c k)) = w9 at *
  refine wpAnyH_done (by kernel_rfl) ?_ _
  go_upto_region 2 with fail
  refine wl_lit ?_
  refine runL 17 (.agg (va .u8 (cbl s c k))) rfl (by rfl) (exec_row 22 (.tmp 4) rfl p4 rfl 22 (va .u8 (cbl s c k)) _ hp4 (by exact Try.underlying22) rfl (sz__16_uint8 _ (cbl_len _ _ _))) ?_
  simp only [List.set_cons_zero, List.set_cons_succ]
  refine runSL (w9.setRow p4 (va .u8 (cbl s c k))) rfl (by rfl) (exec_storeRow 22 (.tmp 4) (.tmp 17) rfl p4 rfl (va .u8 (cbl s c k)) rfl 22 (va .u8 (cbl s c k)) hp4 (sz_eq (sz__16_uint8 _ (cbl_len _ _ _)) (sz__16_uint8 _ (cbl_len _ _ _))) (sz__16_uint8 _ (cbl_len _ _ _)) (va_ones .u8 _)) ?_
  replace hp2 := hp2.rowFar (show p4 ≠ p2 from (by omega)) (va .u8 (cbl s c k))
  replace hg1 := hg1.rowFar (show p4 ≠ g1 from (by omega)) (va .u8 (cbl s c k))
  replace hg2 := hg2.rowFar (show p4 ≠ g2 from (by omega)) (va .u8 (cbl s c k))
  replace hg3 := hg3.rowFar (show p4 ≠ g3 from (by omega)) (va .u8 (cbl s c k))
  replace hq1 := hq1.rowFar (show p4 ≠ q1 from (by omega)) (va .u8 (cbl s c k))
  replace hg4 := hg4.rowFar (show p4 ≠ g4 from (by omega)) (va .u8 (cbl s c k))
  replace hp4 := hp4.row (va .u8 (cbl s c k))
  replace hW := below_setRow hW lw_p4 (va .u8 (cbl s c k))
  generalize w9.setRow p4 (va .u8 (cbl s c k)) = w10 at *
  refine nilL ?_
  go_wp2_with fail
  exact bodyPost_ret (results_cell_row rfl _ _ p4 22 (va .u8 (cbl s c k)) (0, 0) _ rfl hp4 (by exact Try.underlying22) rfl (sz__16_uint8 _ (cbl_len _ _ _))) rfl ⟨rfl, hW⟩

set_option maxRecDepth 8000 in
set_option maxHeartbeats 2000000 in
theorem sblock_any (key : List Nat) (s c k : Nat) (hkl : key.length = 16) (hkb : Byt key) (hs : s < 4294967296) (hk : k < 4294967296) (w : World) :
    Calls Try.prog 9 #[.agg (va .u8 key), .agg (noV s c), .int .u32 (k : Int)] w fun e w' => e = .returned (.agg (va .u8 (sbl key s c k))) ∧ Below w.heap.size w w' := by
  obtain ⟨B0, hB0e⟩ : ∃ b, w.heap.size = b := ⟨_, rfl⟩
  rw [hB0e]
  have hW : Below B0 w w := by rw [← hB0e]; exact Below.refl _ _
  have hB0 : B0 ≤ w.heap.size := by omega
  have hB0q := Lib.hid hB0e
  clear hB0e
  go_enter Try.func9, Try.ntmps9
  go_upto_region 0 with fail
  refine wl_lit ?_
  refine runWL 3 (.pointer (some ⟨w.heap.size, 0, none⟩)) (w.alloc (.cells (va .u8 (key)) 22)) rfl (by rfl) (exec_box 22 (.tmp 0) rfl (.agg (va .u8 (key))) rfl) ?_
  simp only [List.set_cons_zero, List.set_cons_succ]
  have lw_p3 := Nat.le_trans hB0 hW.size
  have hp3 : Blk (w.alloc (.cells (va .u8 (key)) 22)) w.heap.size 22 (va .u8 (key)) := Blk.new _ _ _
  replace hW := hW.alloc (Nat.le_trans hB0 hW.size) (.cells (va .u8 (key)) 22)
  generalize w.alloc (.cells (va .u8 (key)) 22) = w1 at *
  generalize w.heap.size = p3 at hp3 lw_p3  ⊢
  refine runWL 4 (.pointer (some ⟨w1.heap.size, 0, none⟩)) (w1.alloc (.cells (noV s c) 26)) rfl (by rfl) (exec_box 26 (.tmp 1) rfl (.agg (noV s c)) rfl) ?_
  simp only [List.set_cons_zero, List.set_cons_succ]
  have lp3_p4 := hp3.lt
  have lw_p4 := Nat.le_trans hB0 hW.size
  have hp4 : Blk (w1.alloc (.cells (noV s c) 26)) w1.heap.size 26 (noV s c) := Blk.new _ _ _
  replace hp3 := hp3.alloc (.cells (noV s c) 26)
  replace hW := hW.alloc (Nat.le_trans hB0 hW.size) (.cells (noV s c) 26)
  generalize w1.alloc (.cells (noV s c) 26) = w2 at *
  generalize w1.heap.size = p4 at hp4 lw_p4 lp3_p4 ⊢
  refine runWL 6 (.pointer (some ⟨w2.heap.size, 0, none⟩)) (w2.alloc (.cells (va .u8 (List.replicate 16 0)) 22)) rfl (by rfl) (exec_allocV 22 rfl _ (zv__16_uint8 _)) ?_
  simp only [List.set_cons_zero, List.set_cons_succ]
  have lp3_p6 := hp3.lt
  have lp4_p6 := hp4.lt
  have lw_p6 := Nat.le_trans hB0 hW.size
  have hp6 : Blk (w2.alloc (.cells (va .u8 (List.replicate 16 0)) 22)) w2.heap.size 22 (va .u8 (List.replicate 16 0)) := Blk.new _ _ _
  replace hp3 := hp3.alloc (.cells (va .u8 (List.replicate 16 0)) 22)
  replace hp4 := hp4.alloc (.cells (va .u8 (List.replicate 16 0)) 22)
  replace hW := hW.alloc (Nat.le_trans hB0 hW.size) (.cells (va .u8 (List.replicate 16 0)) 22)
  generalize w2.alloc (.cells (va .u8 (List.replicate 16 0)) 22) = w3 at *
  generalize w2.heap.size = p6 at hp6 lw_p6 lp3_p6 lp4_p6 ⊢
  refine nilL ?_
  go_upto_region 1 with fail
  replace hp6 := hp6.drew
  refine wp_region_held_drew (S := fun wr => Blk wr p3 22 (va .u8 (key)) ∧ Blk wr p4 26 (noV s c) ∧ Below B0 w wr) (by kernel_rfl) ⟨hp3.drew, hp4.drew, below_drewN hW 1⟩ (fun hH => ?_)
  clear hp3 hp4 hW
  obtain ⟨hp3, hp4, hW⟩ := hH
  generalize w3.drew = w4 at *
  refine takeH 6 0 7 (.agg (va .u8 (key))) rfl rfl (by kernel_rfl) (by kernel_rfl) (by kernel_rfl) (fun _ _ _ h => h) (Or.inl ⟨by rfl, fun _ h => exec_row 22 (.tmp 3) rfl p3 rfl 22 (va .u8 (key)) _ h.1 (by exact Try.underlying22) rfl (sz__16_uint8 _ (hkl))⟩) ⟨hp3, hp4, hW⟩ ?_
  simp only [List.set_cons_zero, List.set_cons_succ]
  refine takeH 5 2 9 (.agg (noV s c)) rfl rfl (by kernel_rfl) (by kernel_rfl) (by kernel_rfl) (fun _ _ _ h => h) (Or.inl ⟨by rfl, fun _ h => exec_row 26 (.tmp 4) rfl p4 rfl 26 (noV s c) _ h.2.1 (by exact Try.underlying26) rfl (noV_sz _ _)⟩) ⟨hp3, hp4, hW⟩ ?_
  simp only [List.set_cons_zero, List.set_cons_succ]
  refine takeH 4 3 10 (.int .u32 (k : Int)) rfl rfl (by kernel_rfl) (by kernel_rfl) (by kernel_rfl) (fun _ _ _ h => h) (Or.inl ⟨by rfl, fun w _ => by go_simp⟩) ⟨hp3, hp4, hW⟩ ?_
  simp only [List.set_cons_zero, List.set_cons_succ]
  refine wpAnyH_ready (by kernel_rfl) (by simp) (readyCons 3 1 8 rfl rfl (by rfl) (fun K hK => wp_callF 18 #[.agg (va .u8 (key))] (by go_simp) (expand_any key hkl hkb _) ?_) AllReadyH.nil)
  rintro e w5 ⟨rfl, bx⟩
  replace hp3 := hp3.below bx hp3.lt
  replace hp4 := hp4.below bx hp4.lt
  replace hp6 := hp6.below bx hp6.lt
  replace hW := hW.trans (bx.mono (Nat.le_trans hB0 hW.size))
  clear bx
  refine ⟨_, rfl, hK.out _ _ ⟨hp3, hp4, hW⟩ (fun _ => ?_)⟩
  clear hK K
  simp only [List.set_cons_zero, List.set_cons_succ]
  refine wpAnyH_ready (by kernel_rfl) (by simp) (readyCons 2 4 11 rfl rfl (by rfl) (fun K hK => wp_callF 20 #[.agg (noV s c), .int .u32 (k : Int)] (by go_simp) (counter_any s c k hs hk _) ?_) AllReadyH.nil)
  rintro e w6 ⟨rfl, bx⟩
  replace hp3 := hp3.below bx hp3.lt
  replace hp4 := hp4.below bx hp4.lt
  replace hp6 := hp6.below bx hp6.lt
  replace hW := hW.trans (bx.mono (Nat.le_trans hB0 hW.size))
  clear bx
  refine ⟨_, rfl, hK.out _ _ ⟨hp3, hp4, hW⟩ (fun _ => ?_)⟩
  clear hK K
  simp only [List.set_cons_zero, List.set_cons_succ]
  refine wpAnyH_ready (by kernel_rfl) (by simp) (readyCons 1 5 12 rfl rfl (by rfl) (fun K hK => wp_callF 19 #[.agg (va .u8 (Ci.exL key)), .agg (va .u8 (cbl s c k))] (by go_simp) (encrypt_any (Ci.exL key) (cbl s c k) (Ci.exL_len key) (cbl_len _ _ _) (Ci.exL_byt hkb) (cbl_byt _ _ _) _) ?_) AllReadyH.nil)
  rintro e w7 ⟨rfl, bx⟩
  replace hp3 := hp3.below bx hp3.lt
  replace hp4 := hp4.below bx hp4.lt
  replace hp6 := hp6.below bx hp6.lt
  replace hW := hW.trans (bx.mono (Nat.le_trans hB0 hW.size))
  clear bx
  refine ⟨_, rfl, hK.out _ _ ⟨hp3, hp4, hW⟩ (fun _ => ?_)⟩
  clear hK K
  simp only [List.set_cons_zero, List.set_cons_succ]
  refine wpAnyH_ready (by kernel_rfl) (by simp) (readyRunS 0 6 (w7.setRow p6 (va .u8 (sbl key s c k))) rfl rfl (by rfl) (exec_storeRow 22 (.tmp 6) (.tmp 12) rfl p6 rfl (va .u8 (sbl key s c k)) rfl 22 (va .u8 (List.replicate 16 0)) hp6 (sz_eq (sz__16_uint8 _ (List.length_replicate)) (sz__16_uint8 _ (sbl_len _ _ _ _))) (sz__16_uint8 _ (sbl_len _ _ _ _)) (va_ones .u8 _)) ⟨hp3.rowFar (show p6 ≠ p3 from (by omega)) _, hp4.rowFar (show p6 ≠ p4 from (by omega)) _, below_setRow hW lw_p6 _⟩ (fun _ => ?_) AllReadyH.nil)
  replace hp3 := hp3.rowFar (show p6 ≠ p3 from (by omega)) (va .u8 (sbl key s c k))
  replace hp4 := hp4.rowFar (show p6 ≠ p4 from (by omega)) (va .u8 (sbl key s c k))
  replace hp6 := hp6.row (va .u8 (sbl key s c k))
  replace hW := below_setRow hW lw_p6 (va .u8 (sbl key s c k))
  generalize w7.setRow p6 (va .u8 (sbl key s c k)) = w8 at *
  refine wpAnyH_done (by kernel_rfl) ?_ _
  go_wp2_with fail
  exact bodyPost_ret (results_cell_row rfl _ _ p6 22 (va .u8 (sbl key s c k)) (0, 0) _ rfl hp6 (by exact Try.underlying22) rfl (sz__16_uint8 _ (sbl_len _ _ _ _))) rfl ⟨rfl, hW⟩
end Go.Proofs.Ytpcdckhabaoieaa
