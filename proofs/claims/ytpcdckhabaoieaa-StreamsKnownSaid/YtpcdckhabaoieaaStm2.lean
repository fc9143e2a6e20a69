/-
  The walk of caissonref07.Block. (Printed by mk07.py.)
-/
import Derived.Test.YtpcdckhabaoieaaStm1
import Derived.Test.YtpcdckhabaoieaaRef1
namespace Go.Proofs.Ytpcdckhabaoieaa
open Go.RowKit Sh

theorem rput32_to (v : Nat) (hv : v < 4294967296) (w : World) :
    Calls Try.prog 21 #[.int .u32 (v : Int)] w fun e w' => ∃ g, e = .returned (.slice (some ⟨g, 0, none⟩) 4 4) ∧ Blk w' g 5 (va .u8 (beB v 4)) ∧ w.heap.size ≤ g ∧ Below w.heap.size w w' := by
  refine (rput32_any v hv w).mono ?_
  rintro e w' ⟨r, rfl, g, rfl, h1, h2, h3⟩
  exact ⟨g, by rw [beB_len], h1, h2, h3⟩
theorem rput64_to (v : Nat) (hv : v < 18446744073709551616) (w : World) :
    Calls Try.prog 22 #[.int .u64 (v : Int)] w fun e w' => ∃ g, e = .returned (.slice (some ⟨g, 0, none⟩) 8 8) ∧ Blk w' g 5 (va .u8 (beB v 8)) ∧ w.heap.size ≤ g ∧ Below w.heap.size w w' := by
  refine (rput64_any v hv w).mono ?_
  rintro e w' ⟨r, rfl, g, rfl, h1, h2, h3⟩
  exact ⟨g, by rw [beB_len], h1, h2, h3⟩
/-- the first i bytes of l, zeros behind -/
def cpl (l : List Nat) (n i : Nat) : List Nat := (List.range n).map fun j => if j < i then l.getD j 0 else 0
theorem cpl_len (l : List Nat) (n i : Nat) : (cpl l n i).length = n := by simp [cpl]
theorem cpl_zero (l : List Nat) (n : Nat) : cpl l n 0 = List.replicate n 0 := by
  apply ext_getD (by simp [cpl])
  intro j hj
  rw [cpl_len] at hj
  rw [cpl, getD_map_range _ _ _ hj, if_neg (by omega), List.getD_eq_getElem?_getD, List.getElem?_replicate, if_pos hj]; rfl
theorem cpl_all (l : List Nat) (n : Nat) (h : l.length = n) : cpl l n n = l := by
  apply ext_getD (by rw [cpl_len, h])
  intro j hj
  rw [cpl_len] at hj
  rw [cpl, getD_map_range _ _ _ hj, if_pos hj]
theorem cpl_step (l : List Nat) (n i : Nat) (hi : i < n) : (cpl l n i).set i (l.getD i 0) = cpl l n (i + 1) := by
  apply ext_getD (by rw [List.length_set, cpl_len, cpl_len])
  intro j hj
  rw [List.length_set, cpl_len] at hj
  by_cases e : i = j
  · subst e
    rw [getD_set_eq (by rw [cpl_len]; exact hi), cpl, getD_map_range _ _ _ hj, if_pos (by omega)]
  · rw [Sh.getD_set_ne e, cpl, getD_map_range _ _ _ hj, cpl, getD_map_range _ _ _ hj]
    by_cases h : j < i
    · rw [if_pos h, if_pos (by omega)]
    · rw [if_neg h, if_neg (by omega)]

set_option maxRecDepth 8000 in
set_option maxHeartbeats 2000000 in
theorem rsblock_any (key : List Nat) (s c k : Nat) (hkl : key.length = 16) (hkb : Byt key) (hs : s < 4294967296) (hc : c < 18446744073709551616) (hk : k < 4294967296) (w : World) :
    Calls Try.prog 10 #[.agg (va .u8 key), .agg (noV s c), .int .u32 (k : Int)] w fun e w' => e = .returned (.agg (va .u8 (sbl key s c k))) ∧ Below w.heap.size w w' := by
  obtain ⟨B0, hB0e⟩ : ∃ b, w.heap.size = b := ⟨_, rfl⟩
  rw [hB0e]
  have hW : Below B0 w w := by rw [← hB0e]; exact Below.refl _ _
  have hB0 : B0 ≤ w.heap.size := by omega
  have hB0q := Lib.hid hB0e
  clear hB0e
  go_enter Try.func10, Try.ntmps10
  go_upto_region 0 with fail
  refine wl_lit ?_
  refine runWL 3 (.pointer (some ⟨w.heap.size, 0, none⟩)) (w.alloc (.cells (va .u8 (key)) 22)) rfl (by rfl) (exec_box 22 (.tmp 0) rfl (.agg (va .u8 (key))) rfl) ?_
  simp only [List.set_cons_zero, List.set_cons_succ]
  have lw_p3 := Nat.le_trans hB0 hW.size
  have hp3 : Blk (w.alloc (.cells (va .u8 (key)) 22)) w.heap.size 22 (va .u8 (key)) := Blk.new _ _ _
  replace hW := hW.alloc (Nat.le_trans hB0 hW.size) (.cells (va .u8 (key)) 22)
  generalize w.alloc (.cells (va .u8 (key)) 22) = w1 at *
  generalize w.heap.size = p3 at hp3 lw_p3  ⊢
  refine runWL 4 (.pointer (some ⟨w1.heap.size, 0, none⟩)) (w1.alloc (.cells (noV s c) 26)) rfl (by rfl) (exec_box 26 (.tmp 1) rfl (.agg (noV s c)) rfl) ?_
  simp only [List.set_cons_zero, List.set_cons_succ]
  have lp3_p4 := hp3.lt
  have lw_p4 := Nat.le_trans hB0 hW.size
  have hp4 : Blk (w1.alloc (.cells (noV s c) 26)) w1.heap.size 26 (noV s c) := Blk.new _ _ _
  replace hp3 := hp3.alloc (.cells (noV s c) 26)
  replace hW := hW.alloc (Nat.le_trans hB0 hW.size) (.cells (noV s c) 26)
  generalize w1.alloc (.cells (noV s c) 26) = w2 at *
  generalize w1.heap.size = p4 at hp4 lw_p4 lp3_p4 ⊢
  refine runWL 6 (.pointer (some ⟨w2.heap.size, 0, none⟩)) (w2.alloc (.cells (va .u8 (List.replicate 16 0)) 22)) rfl (by rfl) (exec_allocV 22 rfl _ (zv__16_uint8 _)) ?_
  simp only [List.set_cons_zero, List.set_cons_succ]
  have lp3_p6 := hp3.lt
  have lp4_p6 := hp4.lt
  have lw_p6 := Nat.le_trans hB0 hW.size
  have hp6 : Blk (w2.alloc (.cells (va .u8 (List.replicate 16 0)) 22)) w2.heap.size 22 (va .u8 (List.replicate 16 0)) := Blk.new _ _ _
  replace hp3 := hp3.alloc (.cells (va .u8 (List.replicate 16 0)) 22)
  replace hp4 := hp4.alloc (.cells (va .u8 (List.replicate 16 0)) 22)
  replace hW := hW.alloc (Nat.le_trans hB0 hW.size) (.cells (va .u8 (List.replicate 16 0)) 22)
  generalize w2.alloc (.cells (va .u8 (List.replicate 16 0)) 22) = w3 at *
  generalize w2.heap.size = p6 at hp6 lw_p6 lp3_p6 lp4_p6 ⊢
  refine nilL ?_
  go_upto_region 1 with fail
  refine wp_region_held_drew (S := fun wr => Blk wr p3 22 (va .u8 (key)) ∧ Blk wr p4 26 (noV s c) ∧ Blk wr p6 22 (va .u8 (List.replicate 16 0)) ∧ Below B0 w wr) (by kernel_rfl) ⟨hp3.drew, hp4.drew, hp6.drew, below_drewN hW 1⟩ (fun hH => ?_)
  clear hp3 hp4 hp6 hW
  obtain ⟨hp3, hp4, hp6, hW⟩ := hH
  generalize w3.drew = w4 at *
  refine takeH 10 0 10 (.pointer (some ⟨p4, 0, none⟩)) rfl rfl (by kernel_rfl) (by kernel_rfl) (by kernel_rfl) (fun _ _ _ h => h) (Or.inl ⟨by rfl, fun w _ => by go_simp⟩) ⟨hp3, hp4, hp6, hW⟩ ?_
  simp only [List.set_cons_zero, List.set_cons_succ]
  refine takeH 9 1 11 (.int .u32 (((s : Nat) : Int))) rfl rfl (by kernel_rfl) (by kernel_rfl) (by kernel_rfl) (fun _ _ _ h => h) (Or.inl ⟨by rfl, fun _ h => exec_cell 23 (.tmp 10) rfl p4 0 rfl (.int .u32 (((s : Nat) : Int))) _ Try.underlying23 rfl (h.2.1.cellIs 0 rfl)⟩) ⟨hp3, hp4, hp6, hW⟩ ?_
  simp only [List.set_cons_zero, List.set_cons_succ]
  refine takeH 8 3 13 (.pointer (some ⟨p4, 1, none⟩)) rfl rfl (by kernel_rfl) (by kernel_rfl) (by kernel_rfl) (fun _ _ _ h => h) (Or.inl ⟨by rfl, fun w _ => by go_simp⟩) ⟨hp3, hp4, hp6, hW⟩ ?_
  simp only [List.set_cons_zero, List.set_cons_succ]
  refine takeH 7 4 14 (.int .u64 (((c : Nat) : Int))) rfl rfl (by kernel_rfl) (by kernel_rfl) (by kernel_rfl) (fun _ _ _ h => h) (Or.inl ⟨by rfl, fun _ h => exec_cell 24 (.tmp 13) rfl p4 1 rfl (.int .u64 (((c : Nat) : Int))) _ Try.underlying24 rfl (h.2.1.cellIs 1 rfl)⟩) ⟨hp3, hp4, hp6, hW⟩ ?_
  simp only [List.set_cons_zero, List.set_cons_succ]
  refine takeH 6 7 17 (.int .u32 (k : Int)) rfl rfl (by kernel_rfl) (by kernel_rfl) (by kernel_rfl) (fun _ _ _ h => h) (Or.inl ⟨by rfl, fun w _ => by go_simp⟩) ⟨hp3, hp4, hp6, hW⟩ ?_
  simp only [List.set_cons_zero, List.set_cons_succ]
  refine wpAnyH_ready (by kernel_rfl) (by simp) (readyCons 5 2 12 rfl rfl (by rfl) (fun K hK => wp_callF 21 #[.int .u32 (((s : Nat) : Int))] (by go_simp) (rput32_to s hs _) ?_) AllReadyH.nil)
  rintro e w5 ⟨g1, rfl, hg1, hgg, bx⟩
  have lp3_g1 : p3 < g1 := Nat.lt_of_lt_of_le hp3.lt hgg
  have lp4_g1 : p4 < g1 := Nat.lt_of_lt_of_le hp4.lt hgg
  have lp6_g1 : p6 < g1 := Nat.lt_of_lt_of_le hp6.lt hgg
  have lw_g1 : B0 ≤ g1 := Nat.le_trans (Nat.le_trans hB0 hW.size) hgg
  replace hp3 := hp3.below bx hp3.lt
  replace hp4 := hp4.below bx hp4.lt
  replace hp6 := hp6.below bx hp6.lt
  replace hW := hW.trans (bx.mono (Nat.le_trans hB0 hW.size))
  clear hgg
  clear bx
  refine ⟨_, rfl, hK.out _ _ ⟨hp3, hp4, hp6, hW⟩ (fun _ => ?_)⟩
  clear hK K
  simp only [List.set_cons_zero, List.set_cons_succ]
  refine wpAnyH_ready (by kernel_rfl) (by simp) (readyCons 4 5 15 rfl rfl (by rfl) (fun K hK => wp_callF 22 #[.int .u64 (((c : Nat) : Int))] (by go_simp) (rput64_to c hc _) ?_) AllReadyH.nil)
  rintro e w6 ⟨g2, rfl, hg2, hgg, bx⟩
  have lp3_g2 : p3 < g2 := Nat.lt_of_lt_of_le hp3.lt hgg
  have lp4_g2 : p4 < g2 := Nat.lt_of_lt_of_le hp4.lt hgg
  have lp6_g2 : p6 < g2 := Nat.lt_of_lt_of_le hp6.lt hgg
  have lg1_g2 : g1 < g2 := Nat.lt_of_lt_of_le hg1.lt hgg
  have lw_g2 : B0 ≤ g2 := Nat.le_trans (Nat.le_trans hB0 hW.size) hgg
  replace hp3 := hp3.below bx hp3.lt
  replace hp4 := hp4.below bx hp4.lt
  replace hp6 := hp6.below bx hp6.lt
  replace hg1 := hg1.below bx hg1.lt
  replace hW := hW.trans (bx.mono (Nat.le_trans hB0 hW.size))
  clear hgg
  clear bx
  refine ⟨_, rfl, hK.out _ _ ⟨hp3, hp4, hp6, hW⟩ (fun _ => ?_)⟩
  clear hK K
  simp only [List.set_cons_zero, List.set_cons_succ]
  have hog1 : Own w6 B0 (some ⟨g1, 0, none⟩) 4 4 (beB s 4) := hg1.owned (beB_len _ _) lw_g1 (by unfold maxLen; omega)
  have nog1_p3 : Off (some ⟨g1, 0, none⟩) p3 := fun a ha => by cases ha; simp; omega
  have nog1_p4 : Off (some ⟨g1, 0, none⟩) p4 := fun a ha => by cases ha; simp; omega
  have nog1_p6 : Off (some ⟨g1, 0, none⟩) p6 := fun a ha => by cases ha; simp; omega
  have nog1_g2 : Off (some ⟨g1, 0, none⟩) g2 := fun a ha => by cases ha; simp; omega
  clear hg1
  obtain ⟨A1, cA1, w7, hap, hA1, hcA1, hgr, hof⟩ := own_append hog1 (some ⟨g2, 0, none⟩) 8 8 _ (beB c 8) (hg2.readsAll (Nat.lt_succ_self _) (beB_len _ _)) (Nat.le_trans hB0 hW.size) (beB s 4 ++ beB c 8) rfl (12) (by omega) (by omega) 39
  refine wpAnyH_ready (by kernel_rfl) (by simp) (readyRun 3 6 16 (.slice A1 12 cA1) w7 rfl rfl (by rfl) (exec_append _ _ _ _ rfl _ _ _ rfl rfl hap) ⟨hp3.grown hgr (nog1_p3.ob _ _), hp4.grown hgr (nog1_p4.ob _ _), hp6.grown hgr (nog1_p6.ob _ _), Own.belowG hW (Nat.le_trans hB0 hW.size) hog1.from_ hgr⟩ (fun _ => ?_) AllReadyH.nil)
  simp only [List.set_cons_zero, List.set_cons_succ]
  have nA1_p3 := hof p3 nog1_p3 hp3.lt
  replace hp3 := hp3.grown hgr (nog1_p3.ob _ _)
  have nA1_p4 := hof p4 nog1_p4 hp4.lt
  replace hp4 := hp4.grown hgr (nog1_p4.ob _ _)
  have nA1_p6 := hof p6 nog1_p6 hp6.lt
  replace hp6 := hp6.grown hgr (nog1_p6.ob _ _)
  have nA1_g2 := hof g2 nog1_g2 hg2.lt
  replace hg2 := hg2.grown hgr (nog1_g2.ob _ _)
  replace hW := Own.belowG hW (Nat.le_trans hB0 hW.size) hog1.from_ hgr
  clear hog1 hgr hof hap
  refine wpAnyH_ready (by kernel_rfl) (by simp) (readyCons 2 8 18 rfl rfl (by rfl) (fun K hK => wp_callF 21 #[.int .u32 (k : Int)] (by go_simp) (rput32_to k hk _) ?_) AllReadyH.nil)
  rintro e w8 ⟨g3, rfl, hg3, hgg, bx⟩
  have lp3_g3 : p3 < g3 := Nat.lt_of_lt_of_le hp3.lt hgg
  have lp4_g3 : p4 < g3 := Nat.lt_of_lt_of_le hp4.lt hgg
  have lp6_g3 : p6 < g3 := Nat.lt_of_lt_of_le hp6.lt hgg
  have lg2_g3 : g2 < g3 := Nat.lt_of_lt_of_le hg2.lt hgg
  have nA1_g3 := hA1.off_ge hgg
  have lw_g3 : B0 ≤ g3 := Nat.le_trans (Nat.le_trans hB0 hW.size) hgg
  replace hp3 := hp3.below bx hp3.lt
  replace hp4 := hp4.below bx hp4.lt
  replace hp6 := hp6.below bx hp6.lt
  replace hg2 := hg2.below bx hg2.lt
  replace hA1 := hA1.below bx
  replace hW := hW.trans (bx.mono (Nat.le_trans hB0 hW.size))
  clear hgg
  clear bx
  refine ⟨_, rfl, hK.out _ _ ⟨hp3, hp4, hp6, hW⟩ (fun _ => ?_)⟩
  clear hK K
  simp only [List.set_cons_zero, List.set_cons_succ]
  obtain ⟨A2, cA2, w9, hap, hA2, hcA2, hgr, hof⟩ := own_append hA1 (some ⟨g3, 0, none⟩) 4 4 _ (beB k 4) (hg3.readsAll (Nat.lt_succ_self _) (beB_len _ _)) (Nat.le_trans hB0 hW.size) (cbl s c k) (by simp [cbl]) (16) (by omega) (by omega) 39
  refine wpAnyH_ready (by kernel_rfl) (by simp) (readyRun 1 9 19 (.slice A2 16 cA2) w9 rfl rfl (by rfl) (exec_append _ _ _ _ rfl _ _ _ rfl rfl hap) ⟨hp3.grown hgr (nA1_p3.ob _ _), hp4.grown hgr (nA1_p4.ob _ _), hp6.grown hgr (nA1_p6.ob _ _), Own.belowG hW (Nat.le_trans hB0 hW.size) hA1.from_ hgr⟩ (fun _ => ?_) AllReadyH.nil)
  simp only [List.set_cons_zero, List.set_cons_succ]
  have nA2_p3 := hof p3 nA1_p3 hp3.lt
  replace hp3 := hp3.grown hgr (nA1_p3.ob _ _)
  have nA2_p4 := hof p4 nA1_p4 hp4.lt
  replace hp4 := hp4.grown hgr (nA1_p4.ob _ _)
  have nA2_p6 := hof p6 nA1_p6 hp6.lt
  replace hp6 := hp6.grown hgr (nA1_p6.ob _ _)
  have nA2_g2 := hof g2 nA1_g2 hg2.lt
  replace hg2 := hg2.grown hgr (nA1_g2.ob _ _)
  have nA2_g3 := hof g3 nA1_g3 hg3.lt
  replace hg3 := hg3.grown hgr (nA1_g3.ob _ _)
  replace hW := Own.belowG hW (Nat.le_trans hB0 hW.size) hA1.from_ hgr
  clear hA1 hgr hof hap
  refine takeH 0 10 7 (.slice (A2) 16 cA2) rfl rfl (by kernel_rfl) (by kernel_rfl) (by kernel_rfl) (fun _ _ _ h => h) (Or.inl ⟨by rfl, fun w _ => by go_simp⟩) ⟨hp3, hp4, hp6, hW⟩ ?_
  simp only [List.set_cons_zero, List.set_cons_succ]
  refine wpAnyH_done (by kernel_rfl) ?_ _
  clear hg2
  clear hg3
  go_upto_region 2 with fail
  refine wl_lit ?_
  refine runWL 8 (.pointer (some ⟨w9.heap.size, 0, none⟩)) (w9.alloc (.cells (va .u8 (List.replicate 16 0)) 22)) rfl (by rfl) (exec_allocV 22 rfl _ (zv__16_uint8 _)) ?_
  simp only [List.set_cons_zero, List.set_cons_succ]
  have lp3_p8 := hp3.lt
  have lp4_p8 := hp4.lt
  have lp6_p8 := hp6.lt
  have nA2_p8 := hA2.new_off
  have lw_p8 := Nat.le_trans hB0 hW.size
  have hp8 : Blk (w9.alloc (.cells (va .u8 (List.replicate 16 0)) 22)) w9.heap.size 22 (va .u8 (List.replicate 16 0)) := Blk.new _ _ _
  replace hp3 := hp3.alloc (.cells (va .u8 (List.replicate 16 0)) 22)
  replace hp4 := hp4.alloc (.cells (va .u8 (List.replicate 16 0)) 22)
  replace hp6 := hp6.alloc (.cells (va .u8 (List.replicate 16 0)) 22)
  replace hA2 := hA2.alloc (.cells (va .u8 (List.replicate 16 0)) 22)
  replace hW := hW.alloc (Nat.le_trans hB0 hW.size) (.cells (va .u8 (List.replicate 16 0)) 22)
  generalize w9.alloc (.cells (va .u8 (List.replicate 16 0)) 22) = w10 at *
  generalize w9.heap.size = p8 at hp8 lw_p8 lp3_p8 lp4_p8 lp6_p8 nA2_p8 ⊢
  refine nilL ?_
  have hcl := cbl_len s c k
  rcases hA2.form with ⟨_, h0, _⟩ | ⟨ga, rfl, hga, hgl⟩
  · omega
  have hby := hA2.byB
  have hcap := hA2.cap
  have lga_p8 : ga ≠ p8 := fun e => nA2_p8 _ rfl e
  rw [← cpl_zero (cbl s c k)] at hp8
  go_wp2
  go_loopw [9] (fun t wr => ∃ i : Nat, i ≤ 16 ∧ t = .int .i64 (i : Int) ∧ Blk wr p3 22 (va .u8 key) ∧ Blk wr p6 22 (va .u8 (List.replicate 16 0)) ∧ Blk wr p8 22 (va .u8 (cpl (cbl s c k) 16 i)) ∧ ByB wr ga (cbl s c k) ∧ Below B0 w wr) (fun t _ => 16 - (intOf t).toNat)
  case atStart => exact ⟨0, by omega, rfl, hp3, hp6, hp8, hby, hW⟩
  case round =>
    clear hp3 hp4 hp6 hp8 hA2 hby hW
    obtain ⟨i, hi, rfl, hp3, hp6, hp8, hga2, hW⟩ := hrel
    by_cases hlt : i < 16
    ·
      have hga := hga2
      clear hga2
      have hltI : (i : Int) < 16 := by omega
      obtain ⟨x, hx⟩ : ∃ x, (cbl s c k).getD i 0 = x := ⟨_, rfl⟩
      have hst := cpl_step (cbl s c k) 16 i hlt
      rw [hx] at hst
      have hxq := Lib.hid hx
      have hstq := Lib.hid hst
      clear hx hst
      go_upto_region 6 with fail
      refine wl_lit ?_
      refine runL 24 (.int .i64 (i : Int)) rfl (by rfl) (by go_simp) ?_
      simp only [List.set_cons_zero, List.set_cons_succ]
      refine runL 25 (.slice (some ⟨ga, 0, none⟩) 16 cA2) rfl (by rfl) (by go_simp) ?_
      simp only [List.set_cons_zero, List.set_cons_succ]
      refine runL 26 (.int .i64 (i : Int)) rfl (by rfl) (by go_simp) ?_
      simp only [List.set_cons_zero, List.set_cons_succ]
      refine runL 27 (.pointer (some ⟨ga, i, none⟩)) rfl (by rfl) (by go_simp) ?_
      simp only [List.set_cons_zero, List.set_cons_succ]
      refine runL 28 (.int .u8 ((x : Nat) : Int)) rfl (by rfl) (exec_cell 5 (.tmp 27) rfl ga i rfl (.int .u8 ((x : Nat) : Int)) _ Try.underlying5 rfl (by rw [← hxq.out]; exact hga.num (by rw [cbl_len]; exact hlt))) ?_
      simp only [List.set_cons_zero, List.set_cons_succ]
      refine runL 29 (.pointer (some ⟨p8, i, none⟩)) rfl (by rfl) (by go_simp) ?_
      simp only [List.set_cons_zero, List.set_cons_succ]
      refine runSL (wr.setCell ⟨p8, i, none⟩ (.int .u8 ((x : Nat) : Int))) rfl (by rfl) (exec_storeCell 5 (.tmp 29) (.tmp 28) rfl p8 i rfl (.int .u8 ((x : Nat) : Int)) rfl rfl rfl 22 (va .u8 (cpl (cbl s c k) 16 i)) hp8 (by rw [va_size, (cpl_len _ _ _)]; exact hlt) (by kernel_rfl)) ?_
      replace hp3 := hp3.far (p := ⟨p8, i, none⟩) (show p3 ≠ p8 from (by omega)) (.int .u8 ((x : Nat) : Int))
      replace hp6 := hp6.far (p := ⟨p8, i, none⟩) (show p6 ≠ p8 from (by omega)) (.int .u8 ((x : Nat) : Int))
      replace hga := hga.far (p := ⟨p8, i, none⟩) (show ga ≠ p8 from (by omega)) (.int .u8 ((x : Nat) : Int))
      replace hp8 : Blk (wr.setCell ⟨p8, i, none⟩ (.int .u8 ((x : Nat) : Int))) p8 22 (va .u8 (cpl (cbl s c k) 16 (i + 1))) := by rw [← hstq.out]; exact hp8.setNum i (x)
      replace hW := hW.setCell (p := ⟨p8, i, none⟩) lw_p8 (.int .u8 ((x : Nat) : Int))
      generalize wr.setCell ⟨p8, i, none⟩ (.int .u8 ((x : Nat) : Int)) = w11 at *
      refine nilL ?_
      go_wp2
      go_roundw
      case rel => exact ⟨i + 1, by omega, by go_num, hp3, hp6, hp8, hga, hW⟩
      case measure => simp [intOf]; omega
    ·
      obtain rfl : i = 16 := by omega
      rw [cpl_all _ _ hcl] at hp8
      go_upto_region 7 with fail
      refine wl_lit ?_
      refine runL 30 (.agg (va .u8 (key))) rfl (by rfl) (exec_row 22 (.tmp 3) rfl p3 rfl 22 (va .u8 (key)) _ hp3 (by exact Try.underlying22) rfl (sz__16_uint8 _ (hkl))) ?_
      simp only [List.set_cons_zero, List.set_cons_succ]
      refine runL 31 (.agg (va .u8 (cbl s c k))) rfl (by rfl) (exec_row 22 (.tmp 8) rfl p8 rfl 22 (va .u8 (cbl s c k)) _ hp8 (by exact Try.underlying22) rfl (sz__16_uint8 _ (cbl_len _ _ _))) ?_
      simp only [List.set_cons_zero, List.set_cons_succ]
      refine callL 32 rfl (by rfl) (fun K hK => wp_callF 23 #[.agg (va .u8 (key)), .agg (va .u8 (cbl s c k))] (by go_simp) (rencrypt_any key (cbl s c k) hkl (cbl_len _ _ _) hkb (cbl_byt _ _ _) _) ?_)
      rintro e w12 ⟨rfl, bx⟩
      replace hp3 := hp3.below bx hp3.lt
      replace hp6 := hp6.below bx hp6.lt
      replace hp8 := hp8.below bx hp8.lt
      replace hW := hW.trans (bx.mono (Nat.le_trans hB0 hW.size))
      clear bx
      refine ⟨_, rfl, hK.out _ _ ?_⟩
      clear hK K
      simp only [List.set_cons_zero, List.set_cons_succ]
      refine runSL (w12.setRow p6 (va .u8 (sbl key s c k))) rfl (by rfl) (exec_storeRow 22 (.tmp 6) (.tmp 32) rfl p6 rfl (va .u8 (sbl key s c k)) rfl 22 (va .u8 (List.replicate 16 0)) hp6 (sz_eq (sz__16_uint8 _ (List.length_replicate)) (sz__16_uint8 _ (sbl_len _ _ _ _))) (sz__16_uint8 _ (sbl_len _ _ _ _)) (va_ones .u8 _)) ?_
      replace hp3 := hp3.rowFar (show p6 ≠ p3 from (by omega)) (va .u8 (sbl key s c k))
      replace hp8 := hp8.rowFar (show p6 ≠ p8 from (by omega)) (va .u8 (sbl key s c k))
      replace hp6 := hp6.row (va .u8 (sbl key s c k))
      replace hW := below_setRow hW lw_p6 (va .u8 (sbl key s c k))
      generalize w12.setRow p6 (va .u8 (sbl key s c k)) = w13 at *
      refine nilL ?_
      go_wp2_with fail
      exact bodyPost_ret (results_cell_row rfl _ _ p6 22 (va .u8 (sbl key s c k)) (0, 0) _ rfl hp6 (by exact Try.underlying22) rfl (sz__16_uint8 _ (sbl_len _ _ _ _))) rfl ⟨rfl, hW⟩
end Go.Proofs.Ytpcdckhabaoieaa
