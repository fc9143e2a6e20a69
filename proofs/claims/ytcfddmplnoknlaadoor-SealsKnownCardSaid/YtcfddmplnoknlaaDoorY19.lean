/-
  The walk of caissonref07.Block. (Printed by mk07.py.)
-/
import Derived.Test.YtcfddmplnoknlaaDoorY18
namespace Go.Proofs.YtcfddmplnoknlaaDoor
set_option maxRecDepth 16384
open Go.RowKit Sh

theorem rput32_toS (v : Nat) (hv : v < 4294967296) (w : World) :
  Calls Tryd.prog 27 #[.int .u32 (v : Int)] w fun e w' => ∃ g, e = .returned (.slice (some ⟨g, 0, none⟩) 4 4) ∧ Blk w' g 5 (va .u8 (beB v 4)) ∧ w.heap.size ≤ g ∧ Below w.heap.size w w' := by
 refine (rput32_any v hv w).mono ?_
 rintro e w' ⟨r, rfl, g, rfl, h1, h2, h3⟩
 exact ⟨g, by rw [beB_len], h1, h2, h3⟩
theorem rput64_toS (v : Nat) (hv : v < 18446744073709551616) (w : World) :
  Calls Tryd.prog 48 #[.int .u64 (v : Int)] w fun e w' => ∃ g, e = .returned (.slice (some ⟨g, 0, none⟩) 8 8) ∧ Blk w' g 5 (va .u8 (beB v 8)) ∧ w.heap.size ≤ g ∧ Below w.heap.size w w' := by
 refine (rput64_any v hv w).mono ?_
 rintro e w' ⟨r, rfl, g, rfl, h1, h2, h3⟩
 exact ⟨g, by rw [beB_len], h1, h2, h3⟩
def cpl (l : List Nat) (n i : Nat) : List Nat := (List.range n).map fun j => if j < i then l.getD j 0 else 0
theorem cpl_len (l : List Nat) (n i : Nat) : (cpl l n i).length = n := by simp [cpl]
theorem cpl_zero (l : List Nat) (n : Nat) : cpl l n 0 = List.replicate n 0 := by
 apply ext_getD (by simp [cpl])
 intro j hj
 rw [cpl_len] at hj
 rw [cpl, getD_map_range _ _ _ hj, if_neg (by omega), List.getD_eq_getElem?_getD, List.getElem?_replicate, if_pos hj]; rfl
theorem cpl_all (l : List Nat) (n : Nat) (h : l.length = n) : cpl l n n = l := by
 apply ext_getD (by rw [cpl_len, h])
 intro j hj
 rw [cpl_len] at hj
 rw [cpl, getD_map_range _ _ _ hj, if_pos hj]
theorem cpl_step (l : List Nat) (n i : Nat) (hi : i < n) : (cpl l n i).set i (l.getD i 0) = cpl l n (i + 1) := by
  apply ext_getD (by rw [List.length_set, cpl_len, cpl_len])
  intro j hj
  rw [List.length_set, cpl_len] at hj
  by_cases e : i = j
  · subst e
    rw [getD_set_eq (by rw [cpl_len]; exact hi), cpl, getD_map_range _ _ _ hj, if_pos (by omega)]
  · rw [Sh.getD_set_ne e, cpl, getD_map_range _ _ _ hj, cpl, getD_map_range _ _ _ hj]
    by_cases h : j < i
    · rw [if_pos h, if_pos (by omega)]
    · rw [if_neg h, if_neg (by omega)]

set_option maxRecDepth 8000 in
set_option maxHeartbeats 2000000 in
theorem rsblock_any (key : List Nat) (s c k : Nat) (hkl : key.length = 16) (hkb : Byt key) (hs : s < 4294967296) (hc : c < 18446744073709551616) (hk : k < 4294967296) (w : World) :
    Calls Tryd.prog 72 #[.agg (va .u8 key), .agg (noV s c), .int .u32 (k : Int)] w fun e w' => e = .returned (.agg (va .u8 (sbl key s c k))) ∧ Below w.heap.size w w' := by
  obtain ⟨B0, hB0e, hW, hB0⟩ := stB w
  rw [hB0e]
  have hB0q := Lib.hid hB0e
  clear hB0e
  go_enter Tryd.func72, Tryd.ntmps72
  go_upto_region 0 with fail
  refine wl_lit ?_
  refine runWL 3 (.pointer (some ⟨w.heap.size, 0, none⟩)) (w.alloc (.cells (va .u8 key) 22)) rfl (by rfl) (exec_box 22 (.tmp 0) rfl (.agg (va .u8 key)) rfl) ?_
  simp only [Ls]
  have lw_p3 := Nat.le_trans hB0 hW.size
  have hp3 := Blk.new w 22 (va .u8 key)
  replace hW := alB hW hB0 (.cells (va .u8 key) 22)
  generalize w.alloc (.cells (va .u8 key) 22) = w1 at *
  generalize w.heap.size = p3 at hp3 lw_p3  ⊢
  refine runWL 4 (.pointer (some ⟨w1.heap.size, 0, none⟩)) (w1.alloc (.cells (noV s c) 30)) rfl (by rfl) (exec_box 30 (.tmp 1) rfl (.agg (noV s c)) rfl) ?_
  simp only [Ls]
  have lp3_p4 := hp3.lt
  have lw_p4 := Nat.le_trans hB0 hW.size
  have hp4 := Blk.new w1 30 (noV s c)
  have bx := bAl w1 (.cells (noV s c) 30)
  replace hp3 := blB hp3 bx
  replace hW := trB hW hB0 bx
  clear bx
  generalize w1.alloc (.cells (noV s c) 30) = w2 at *
  generalize w1.heap.size = p4 at hp4 lw_p4 lp3_p4 ⊢
  refine runWL 6 (.pointer (some ⟨w2.heap.size, 0, none⟩)) (w2.alloc (.cells (va .u8 (List.replicate 16 0)) 22)) rfl (by rfl) (exec_allocV 22 rfl _ (zv__16_uint8 _)) ?_
  simp only [Ls]
  have lp3_p6 := hp3.lt
  have lp4_p6 := hp4.lt
  have lw_p6 := Nat.le_trans hB0 hW.size
  have hp6 := Blk.new w2 22 (va .u8 (List.replicate 16 0))
  have bx := bAl w2 (.cells (va .u8 (List.replicate 16 0)) 22)
  replace hp3 := blB hp3 bx
  replace hp4 := blB hp4 bx
  replace hW := trB hW hB0 bx
  clear bx
  generalize w2.alloc (.cells (va .u8 (List.replicate 16 0)) 22) = w3 at *
  generalize w2.heap.size = p6 at hp6 lw_p6 lp3_p6 lp4_p6 ⊢
  refine nilL ?_
  go_upto_region 1 with fail
  refine wp_region_held_drew (S := fun wr => Blk wr p3 22 (va .u8 key) ∧ Blk wr p4 30 (noV s c) ∧ Blk wr p6 22 (va .u8 (List.replicate 16 0)) ∧ Below B0 w wr) (by kernel_rfl) ⟨hp3.drew, hp4.drew, hp6.drew, below_drewN hW 1⟩ (fun hH => ?_)
  clear hp3 hp4 hp6 hW
  obtain ⟨hp3, hp4, hp6, hW⟩ := hH
  generalize w3.drew = w4 at *
  refine takeH 10 0 10 (.pointer (some ⟨p4, 0, none⟩)) rfl rfl (by kernel_rfl) (by kernel_rfl) (by kernel_rfl) (fun _ _ _ h => h) (Or.inl ⟨by rfl, fun w _ => by go_simp⟩) ⟨hp3, hp4, hp6, hW⟩ ?_
  simp only [Ls]
  refine takeH 9 1 11 (.int .u32 (((s : Nat) : Int))) rfl rfl (by kernel_rfl) (by kernel_rfl) (by kernel_rfl) (fun _ _ _ h => h) (Or.inl ⟨by rfl, fun _ h => exec_cell 27 (.tmp 10) rfl p4 0 rfl (.int .u32 (((s : Nat) : Int))) _ Tryd.underlying27 rfl (h.2.1.cellIs 0 rfl)⟩) ⟨hp3, hp4, hp6, hW⟩ ?_
  simp only [Ls]
  refine takeH 8 3 13 (.pointer (some ⟨p4, 1, none⟩)) rfl rfl (by kernel_rfl) (by kernel_rfl) (by kernel_rfl) (fun _ _ _ h => h) (Or.inl ⟨by rfl, fun w _ => by go_simp⟩) ⟨hp3, hp4, hp6, hW⟩ ?_
  simp only [Ls]
  refine takeH 7 4 14 (.int .u64 (((c : Nat) : Int))) rfl rfl (by kernel_rfl) (by kernel_rfl) (by kernel_rfl) (fun _ _ _ h => h) (Or.inl ⟨by rfl, fun _ h => exec_cell 28 (.tmp 13) rfl p4 1 rfl (.int .u64 (((c : Nat) : Int))) _ Tryd.underlying28 rfl (h.2.1.cellIs 1 rfl)⟩) ⟨hp3, hp4, hp6, hW⟩ ?_
  simp only [Ls]
  refine takeH 6 7 17 (.int .u32 (k : Int)) rfl rfl (by kernel_rfl) (by kernel_rfl) (by kernel_rfl) (fun _ _ _ h => h) (Or.inl ⟨by rfl, fun w _ => by go_simp⟩) ⟨hp3, hp4, hp6, hW⟩ ?_
  simp only [Ls]
  refine wpAnyH_ready (by kernel_rfl) (by simp) (readyCons 5 2 12 rfl rfl (by rfl) (fun K hK => wp_callF 27 #[.int .u32 (((s : Nat) : Int))] (by go_simp) (rput32_toS s hs _) ?_) AllReadyH.nil)
  rintro e w5 ⟨g1, rfl, hg1, hgg, bx⟩
  have lp3_g1 : p3 < g1 := Nat.lt_of_lt_of_le hp3.lt hgg
  have lp4_g1 : p4 < g1 := Nat.lt_of_lt_of_le hp4.lt hgg
  have lp6_g1 : p6 < g1 := Nat.lt_of_lt_of_le hp6.lt hgg
  have lw_g1 : B0 ≤ g1 := Nat.le_trans (Nat.le_trans hB0 hW.size) hgg
  replace hp3 := blB hp3 bx
  replace hp4 := blB hp4 bx
  replace hp6 := blB hp6 bx
  replace hW := trB hW hB0 bx
  clear hgg
  clear bx
  refine ⟨_, rfl, hK.out _ _ ⟨hp3, hp4, hp6, hW⟩ (fun _ => ?_)⟩
  clear hK K
  simp only [Ls]
  refine wpAnyH_ready (by kernel_rfl) (by simp) (readyCons 4 5 15 rfl rfl (by rfl) (fun K hK => wp_callF 48 #[.int .u64 (((c : Nat) : Int))] (by go_simp) (rput64_toS c hc _) ?_) AllReadyH.nil)
  rintro e w6 ⟨g2, rfl, hg2, hgg, bx⟩
  have lp3_g2 : p3 < g2 := Nat.lt_of_lt_of_le hp3.lt hgg
  have lp4_g2 : p4 < g2 := Nat.lt_of_lt_of_le hp4.lt hgg
  have lp6_g2 : p6 < g2 := Nat.lt_of_lt_of_le hp6.lt hgg
  have lg1_g2 : g1 < g2 := Nat.lt_of_lt_of_le hg1.lt hgg
  have lw_g2 : B0 ≤ g2 := Nat.le_trans (Nat.le_trans hB0 hW.size) hgg
  replace hp3 := blB hp3 bx
  replace hp4 := blB hp4 bx
  replace hp6 := blB hp6 bx
  replace hg1 := hg1.below bx hg1.lt
  replace hW := trB hW hB0 bx
  clear hgg
  clear bx
  refine ⟨_, rfl, hK.out _ _ ⟨hp3, hp4, hp6, hW⟩ (fun _ => ?_)⟩
  clear hK K
  simp only [Ls]
  have hog1 : Own w6 B0 (some ⟨g1, 0, none⟩) 4 4 (beB s 4) := hg1.owned (beB_len _ _) lw_g1 (by unfold maxLen; omega)
  have nog1_p3 : Off (some ⟨g1, 0, none⟩) p3 := fun a ha => by cases ha; simp; omega
  have nog1_p4 : Off (some ⟨g1, 0, none⟩) p4 := fun a ha => by cases ha; simp; omega
  have nog1_p6 : Off (some ⟨g1, 0, none⟩) p6 := fun a ha => by cases ha; simp; omega
  have nog1_g2 : Off (some ⟨g1, 0, none⟩) g2 := fun a ha => by cases ha; simp; omega
  clear hg1
  obtain ⟨A1, cA1, w7, hap, hA1, hcA1, hgr, hof⟩ := own_append hog1 (some ⟨g2, 0, none⟩) 8 8 _ (beB c 8) (hg2.readsAll (Nat.lt_succ_self _) (beB_len _ _)) (Nat.le_trans hB0 hW.size) (beB s 4 ++ beB c 8) rfl 12 (by omega) (by omega) 34
  refine wpAnyH_ready (by kernel_rfl) (by simp) (readyRun 3 6 16 (.slice A1 12 cA1) w7 rfl rfl (by rfl) (exec_append _ _ _ _ rfl _ _ _ rfl rfl hap) ⟨hp3.grown hgr (nog1_p3.ob _ _), hp4.grown hgr (nog1_p4.ob _ _), hp6.grown hgr (nog1_p6.ob _ _), Own.belowG hW (Nat.le_trans hB0 hW.size) hog1.from_ hgr⟩ (fun _ => ?_) AllReadyH.nil)
  simp only [Ls]
  have nA1_p3 := hof p3 nog1_p3 hp3.lt
  replace hp3 := hp3.grown hgr (nog1_p3.ob _ _)
  have nA1_p4 := hof p4 nog1_p4 hp4.lt
  replace hp4 := hp4.grown hgr (nog1_p4.ob _ _)
  have nA1_p6 := hof p6 nog1_p6 hp6.lt
  replace hp6 := hp6.grown hgr (nog1_p6.ob _ _)
  have nA1_g2 := hof g2 nog1_g2 hg2.lt
  replace hg2 := hg2.grown hgr (nog1_g2.ob _ _)
  replace hW := Own.belowG hW (Nat.le_trans hB0 hW.size) hog1.from_ hgr
  clear hog1 hgr hof hap
  refine wpAnyH_ready (by kernel_rfl) (by simp) (readyCons 2 8 18 rfl rfl (by rfl) (fun K hK => wp_callF 27 #[.int .u32 (k : Int)] (by go_simp) (rput32_toS k hk _) ?_) AllReadyH.nil)
  rintro e w8 ⟨g3, rfl, hg3, hgg, bx⟩
  have lp3_g3 : p3 < g3 := Nat.lt_of_lt_of_le hp3.lt hgg
  have lp4_g3 : p4 < g3 := Nat.lt_of_lt_of_le hp4.lt hgg
  have lp6_g3 : p6 < g3 := Nat.lt_of_lt_of_le hp6.lt hgg
  have lg2_g3 : g2 < g3 := Nat.lt_of_lt_of_le hg2.lt hgg
  have nA1_g3 := hA1.off_ge hgg
  have lw_g3 : B0 ≤ g3 := Nat.le_trans (Nat.le_trans hB0 hW.size) hgg
  replace hp3 := blB hp3 bx
  replace hp4 := blB hp4 bx
  replace hp6 := blB hp6 bx
  replace hg2 := hg2.below bx hg2.lt
  replace hA1 := hA1.below bx
  replace hW := trB hW hB0 bx
  clear hgg
  clear bx
  refine ⟨_, rfl, hK.out _ _ ⟨hp3, hp4, hp6, hW⟩ (fun _ => ?_)⟩
  clear hK K
  simp only [Ls]
  obtain ⟨A2, cA2, w9, hap, hA2, hcA2, hgr, hof⟩ := own_append hA1 (some ⟨g3, 0, none⟩) 4 4 _ (beB k 4) (hg3.readsAll (Nat.lt_succ_self _) (beB_len _ _)) (Nat.le_trans hB0 hW.size) (cbl s c k) (by simp [cbl]) 16 (by omega) (by omega) 34
  refine wpAnyH_ready (by kernel_rfl) (by simp) (readyRun 1 9 19 (.slice A2 16 cA2) w9 rfl rfl (by rfl) (exec_append _ _ _ _ rfl _ _ _ rfl rfl hap) ⟨hp3.grown hgr (nA1_p3.ob _ _), hp4.grown hgr (nA1_p4.ob _ _), hp6.grown hgr (nA1_p6.ob _ _), Own.belowG hW (Nat.le_trans hB0 hW.size) hA1.from_ hgr⟩ (fun _ => ?_) AllReadyH.nil)
  simp only [Ls]
  have nA2_p3 := hof p3 nA1_p3 hp3.lt
  replace hp3 := hp3.grown hgr (nA1_p3.ob _ _)
  have nA2_p4 := hof p4 nA1_p4 hp4.lt
  replace hp4 := hp4.grown hgr (nA1_p4.ob _ _)
  have nA2_p6 := hof p6 nA1_p6 hp6.lt
  replace hp6 := hp6.grown hgr (nA1_p6.ob _ _)
  have nA2_g2 := hof g2 nA1_g2 hg2.lt
  replace hg2 := hg2.grown hgr (nA1_g2.ob _ _)
  have nA2_g3 := hof g3 nA1_g3 hg3.lt
  replace hg3 := hg3.grown hgr (nA1_g3.ob _ _)
  replace hW := Own.belowG hW (Nat.le_trans hB0 hW.size) hA1.from_ hgr
  clear hA1 hgr hof hap
  refine takeH 0 10 7 (.slice A2 16 cA2) rfl rfl (by kernel_rfl) (by kernel_rfl) (by kernel_rfl) (fun _ _ _ h => h) (Or.inl ⟨by rfl, fun w _ => by go_simp⟩) ⟨hp3, hp4, hp6, hW⟩ ?_
  simp only [Ls]
  refine wpAnyH_done (by kernel_rfl) ?_ _
  clear hg2
  clear hg3
  go_upto_region 2 with fail
  refine wl_lit ?_
  refine runWL 8 (.pointer (some ⟨w9.heap.size, 0, none⟩)) (w9.alloc (.cells (va .u8 (List.replicate 16 0)) 22)) rfl (by rfl) (exec_allocV 22 rfl _ (zv__16_uint8 _)) ?_
  simp only [Ls]
  have lp3_p8 := hp3.lt
  have lp4_p8 := hp4.lt
  have lp6_p8 := hp6.lt
  have nA2_p8 := hA2.new_off
  have lw_p8 := Nat.le_trans hB0 hW.size
  have hp8 := Blk.new w9 22 (va .u8 (List.replicate 16 0))
  have bx := bAl w9 (.cells (va .u8 (List.replicate 16 0)) 22)
  replace hp3 := blB hp3 bx
  replace hp4 := blB hp4 bx
  replace hp6 := blB hp6 bx
  clear bx
  replace hA2 := hA2.alloc (.cells (va .u8 (List.replicate 16 0)) 22)
  replace hW := alB hW hB0 (.cells (va .u8 (List.replicate 16 0)) 22)
  generalize w9.alloc (.cells (va .u8 (List.replicate 16 0)) 22) = w10 at *
  generalize w9.heap.size = p8 at hp8 lw_p8 lp3_p8 lp4_p8 lp6_p8 nA2_p8 ⊢
  refine nilL ?_
  have hcl := cbl_len s c k
  rcases hA2.form with ⟨_, h0, _⟩ | ⟨ga, rfl, hga, hgl⟩
  · omega
  have hby := hA2.byB
  have hcap := hA2.cap
  have lga_p8 : ga ≠ p8 := fun e => nA2_p8 _ rfl e
  rw [← cpl_zero (cbl s c k)] at hp8
  go_wp2
  go_loopw [9] (fun t wr => ∃ i : Nat, i ≤ 16 ∧ t = .int .i64 (i : Int) ∧ Blk wr p3 22 (va .u8 key) ∧ Blk wr p6 22 (va .u8 (List.replicate 16 0)) ∧ Blk wr p8 22 (va .u8 (cpl (cbl s c k) 16 i)) ∧ ByB wr ga (cbl s c k) ∧ Below B0 w wr) (fun t _ => 16 - (intOf t).toNat)
  case atStart => exact ⟨0, by omega, rfl, hp3, hp6, hp8, hby, hW⟩
  case round =>
    clear hp3 hp4 hp6 hp8 hA2 hby hW
    obtain ⟨i, hi, rfl, hp3, hp6, hp8, hga2, hW⟩ := hrel
    by_cases hlt : i < 16
    ·
      have hga := hga2
      clear hga2
      have hltI : (i : Int) < 16 := by omega
      obtain ⟨x, hx⟩ : ∃ x, (cbl s c k).getD i 0 = x := ⟨_, rfl⟩
      have hst := cpl_step (cbl s c k) 16 i hlt
      rw [hx] at hst
      have hxq := Lib.hid hx
      have hstq := Lib.hid hst
      clear hx hst
      go_upto_region 6 with fail
      refine wl_lit ?_
      refine runL 24 (.int .i64 (i : Int)) rfl (by rfl) (by go_simp) ?_
      refine runL 25 (.slice (some ⟨ga, 0, none⟩) 16 cA2) rfl (by rfl) (by go_simp) ?_
      refine runL 26 (.int .i64 (i : Int)) rfl (by rfl) (by go_simp) ?_
      refine runL 27 (.pointer (some ⟨ga, i, none⟩)) rfl (by rfl) (by go_simp) ?_
      refine runL 28 (.int .u8 ((x : Nat) : Int)) rfl (by rfl) (exec_cell 5 (.tmp 27) rfl ga i rfl (.int .u8 ((x : Nat) : Int)) _ Tryd.underlying5 rfl (by rw [← hxq.out]; exact hga.num (by rw [cbl_len]; exact hlt))) ?_
      refine runL 29 (.pointer (some ⟨p8, i, none⟩)) rfl (by rfl) (by go_simp) ?_
      simp only [Ls]
      refine runSL (wr.setCell ⟨p8, i, none⟩ (.int .u8 ((x : Nat) : Int))) rfl (by rfl) (exec_storeCell 5 (.tmp 29) (.tmp 28) rfl p8 i rfl (.int .u8 ((x : Nat) : Int)) rfl rfl rfl 22 (va .u8 (cpl (cbl s c k) 16 i)) hp8 (by rw [va_size, (cpl_len _ _ _)]; exact hlt) (by kernel_rfl)) ?_
      replace hp3 := hp3.far (p := ⟨p8, i, none⟩) (show p3 ≠ p8 from (by omega)) (.int .u8 ((x : Nat) : Int))
      replace hp6 := hp6.far (p := ⟨p8, i, none⟩) (show p6 ≠ p8 from (by omega)) (.int .u8 ((x : Nat) : Int))
      replace hga := hga.far (p := ⟨p8, i, none⟩) (show ga ≠ p8 from (by omega)) (.int .u8 ((x : Nat) : Int))
      replace hp8 : Blk (wr.setCell ⟨p8, i, none⟩ (.int .u8 ((x : Nat) : Int))) p8 22 (va .u8 (cpl (cbl s c k) 16 (i + 1))) := by rw [← hstq.out]; exact hp8.setNum i (x)
      replace hW := hW.setCell (p := ⟨p8, i, none⟩) lw_p8 (.int .u8 ((x : Nat) : Int))
      generalize wr.setCell ⟨p8, i, none⟩ (.int .u8 ((x : Nat) : Int)) = w11 at *
      refine nilL ?_
      go_wp2
      go_roundw
      case rel => exact ⟨i + 1, by omega, by go_num, hp3, hp6, hp8, hga, hW⟩
      case measure => simp [intOf]; omega
    ·
      obtain rfl : i = 16 := by omega
      rw [cpl_all _ _ hcl] at hp8
      go_upto_region 7 with fail
      refine wl_lit ?_
      refine runL 30 (.agg (va .u8 key)) rfl (by rfl) (exec_row 22 (.tmp 3) rfl p3 rfl 22 (va .u8 key) _ hp3 (by exact Tryd.underlying22) rfl (sz__16_uint8 _ hkl)) ?_
      refine runL 31 (.agg (va .u8 (cbl s c k))) rfl (by rfl) (exec_row 22 (.tmp 8) rfl p8 rfl 22 (va .u8 (cbl s c k)) _ hp8 (by exact Tryd.underlying22) rfl (sz__16_uint8 _ (cbl_len _ _ _))) ?_
      simp only [Ls]
      refine callL 32 rfl (by rfl) (fun K hK => wp_callF 82 #[.agg (va .u8 key), .agg (va .u8 (cbl s c k))] (by go_simp) (rencrypt_any key (cbl s c k) hkl (cbl_len _ _ _) hkb (cbl_byt _ _ _) _) ?_)
      rintro e w12 ⟨rfl, bx⟩
      replace hp3 := blB hp3 bx
      replace hp6 := blB hp6 bx
      replace hp8 := blB hp8 bx
      replace hW := trB hW hB0 bx
      clear bx
      refine ⟨_, rfl, hK.out _ _ ?_⟩
      clear hK K
      simp only [Ls]
      refine runSL (w12.setRow p6 (va .u8 (sbl key s c k))) rfl (by rfl) (exec_storeRow 22 (.tmp 6) (.tmp 32) rfl p6 rfl (va .u8 (sbl key s c k)) rfl 22 (va .u8 (List.replicate 16 0)) hp6 (sz_eq (sz__16_uint8 _ (List.length_replicate)) (sz__16_uint8 _ (sbl_len _ _ _ _))) (sz__16_uint8 _ (sbl_len _ _ _ _)) (va_ones .u8 _)) ?_
      replace hp3 := hp3.rowFar (show p6 ≠ p3 from (by omega)) (va .u8 (sbl key s c k))
      replace hp8 := hp8.rowFar (show p6 ≠ p8 from (by omega)) (va .u8 (sbl key s c k))
      replace hp6 := hp6.row (va .u8 (sbl key s c k))
      replace hW := below_setRow hW lw_p6 (va .u8 (sbl key s c k))
      generalize w12.setRow p6 (va .u8 (sbl key s c k)) = w13 at *
      refine nilL ?_
      go_wp2_with fail
      exact bodyPost_ret (results_cell_row rfl _ _ p6 22 (va .u8 (sbl key s c k)) (0, 0) _ rfl hp6 (by exact Tryd.underlying22) rfl (sz__16_uint8 _ (sbl_len _ _ _ _))) rfl ⟨rfl, hW⟩
end Go.Proofs.YtcfddmplnoknlaaDoor
namespace Go.Proofs.YtcfddmplnoknlaaDoor
set_option maxRecDepth 16384
open Go.RowKit Sh
theorem exec_cellA {P : Program} {w : World} {op : Oper} {a : Act} (ty : TypeId) (x : Operand) (ho : op.op = .load ty x) (ad : Addr) (hx : a.eval x = .pointer (some ad)) (v : Value) (d : TypeDesc)
  (hu : P.underlying ty = some d) (hd : (match d with | .struct _ | .array _ _ => true | _ => false) = false) (hc : w.cell? ad = some v) : (execOp a.eval op).run P w = .ok (.value v) w := by
 unfold execOp
 simp only [ho, hx, Instr.loadAt, Instr.sureAddr, Sem.run_bind, Sem.run_pure, Result.andThen_ok, run_loadVar_cell ty ad v d hu hd hc]
theorem kxor_get {key : List Nat} {s c f : Nat} {d : List Nat} {i : Nat} (hi : i < d.length) : (kxor key s c f d).getD i 0 = xb key s c f d i := by
 simp [kxor, List.getD_eq_getElem?_getD, hi]
theorem kxor_take {key : List Nat} {s c f : Nat} {d : List Nat} {i : Nat} (hi : i < d.length) : (kxor key s c f d).take i ++ [xb key s c f d i] = (kxor key s c f d).take (i + 1) := by
 rw [← kxor_get hi, List.take_add_one, List.getD_eq_getElem?_getD, List.getElem?_eq_getElem (by rw [kxor_len]; exact hi)]
 rfl

set_option maxRecDepth 8000 in
set_option maxHeartbeats 4000000 in
theorem rxor_any (key : List Nat) (s c f n : Nat) (d : List Nat) (hkl : key.length = 16) (hkb : Byt key) (hs : s < 4294967296) (hc : c < 18446744073709551616) (hdl : d.length = n) (hdb : Byt d) (hlim : f + n ≤ 2000000) (A : Option Addr) (cc B : Nat) (w : World) (hr : Reads w B 1 A n (nv .u8 d)) (hBw : B ≤ w.heap.size) :
    Calls Tryd.prog 55 #[.agg (va .u8 key), .agg (noV s c), .int .i64 (f : Int), .slice A n cc] w fun e' w' => ∃ A2 c2, e' = .returned (.slice A2 n c2) ∧ Own w' w.heap.size A2 n c2 (kxor key s c f d) ∧ Below w.heap.size w w' := by
  obtain ⟨B0, hB0e, hW, hB0⟩ := stB w
  rw [hB0e]
  have rd := reads_ofS hr (by omega : B ≤ B0)
  clear hr hBw
  have hB0q := Lib.hid hB0e
  clear hB0e
  go_enter Tryd.func55, Tryd.ntmps55
  go_upto_region 0 with fail
  refine wl_lit ?_
  refine runWL 4 (.pointer (some ⟨w.heap.size, 0, none⟩)) (w.alloc (.cells (va .u8 key) 22)) rfl (by rfl) (exec_box 22 (.tmp 0) rfl (.agg (va .u8 key)) rfl) ?_
  simp only [Ls]
  have lw_p4 := Nat.le_trans hB0 hW.size
  have hp4 := Blk.new w 22 (va .u8 key)
  replace hW := alB hW hB0 (.cells (va .u8 key) 22)
  generalize w.alloc (.cells (va .u8 key) 22) = w1 at *
  generalize w.heap.size = p4 at hp4 lw_p4  ⊢
  refine runWL 5 (.pointer (some ⟨w1.heap.size, 0, none⟩)) (w1.alloc (.cells (noV s c) 30)) rfl (by rfl) (exec_box 30 (.tmp 1) rfl (.agg (noV s c)) rfl) ?_
  simp only [Ls]
  have lp4_p5 := hp4.lt
  have lw_p5 := Nat.le_trans hB0 hW.size
  have hp5 := Blk.new w1 30 (noV s c)
  have bx := bAl w1 (.cells (noV s c) 30)
  replace hp4 := blB hp4 bx
  replace hW := trB hW hB0 bx
  clear bx
  generalize w1.alloc (.cells (noV s c) 30) = w2 at *
  generalize w1.heap.size = p5 at hp5 lw_p5 lp4_p5 ⊢
  refine runL 8 (.slice none 0 0) rfl (by rfl) (by go_simp) ?_
  simp only [Ls]
  refine nilL ?_
  go_upto_region 1 with fail
  refine wl_lit ?_
  refine runL 9 (.slice none 0 0) rfl (by rfl) (by go_simp) ?_
  simp only [Ls]
  refine nilL ?_
  have hO0 : Own w2 B0 none 0 0 [] := Own.nil _ _
  have nO0_p4 : Off none p4 := Off.nil _
  have nO0_p5 : Off none p5 := Off.nil _
  go_upto_region 2 with fail
  refine wl_lit ?_
  refine runWL 10 (.pointer (some ⟨w2.heap.size, 0, none⟩)) (w2.alloc (.cells (va .u8 (List.replicate 16 0)) 22)) rfl (by rfl) (exec_allocV 22 rfl _ (zv__16_uint8 _)) ?_
  simp only [Ls]
  have lp4_p10 := hp4.lt
  have lp5_p10 := hp5.lt
  have nO0_p10 := hO0.new_off
  have lw_p10 := Nat.le_trans hB0 hW.size
  have hp10 := Blk.new w2 22 (va .u8 (List.replicate 16 0))
  have bx := bAl w2 (.cells (va .u8 (List.replicate 16 0)) 22)
  replace hp4 := blB hp4 bx
  replace hp5 := blB hp5 bx
  clear bx
  replace hO0 := hO0.alloc (.cells (va .u8 (List.replicate 16 0)) 22)
  replace hW := alB hW hB0 (.cells (va .u8 (List.replicate 16 0)) 22)
  generalize w2.alloc (.cells (va .u8 (List.replicate 16 0)) 22) = w3 at *
  generalize w2.heap.size = p10 at hp10 lw_p10 lp4_p10 lp5_p10 nO0_p10 ⊢
  refine nilL ?_
  go_upto_region 3 with fail
  refine wl_lit ?_
  refine runL 11 (.int .i64 0) rfl (by rfl) (by go_simp) ?_
  simp only [Ls]
  refine nilL ?_
  go_wp2
  go_loopw [9, 11] (fun v u wr => ∃ (k : Nat) (AI : Option Addr) (cI : Nat) (L : List Nat), k ≤ n ∧ u = .int .i64 (k : Int) ∧ v = .slice AI k cI ∧ Own wr B0 AI k cI ((kxor key s c f d).take k) ∧ Blk wr p4 22 (va .u8 key) ∧ Blk wr p5 30 (noV s c) ∧ L.length = 16 ∧ Byt L ∧ (k = 0 ∨ L = sbl key s c ((f + k - 1) / 16)) ∧ Blk wr p10 22 (va .u8 L) ∧ Off AI p4 ∧ Off AI p5 ∧ Off AI p10 ∧ Below B0 w wr) (fun _ u _ => n - (intOf u).toNat)
  case atStart => exact ⟨0, none, 0, List.replicate 16 0, by omega, rfl, rfl, hO0, hp4, hp5, List.length_replicate, Byt.rep _ _ (by omega), .inl rfl, hp10, Off.nil _, Off.nil _, Off.nil _, hW⟩
  case round =>
    clear hO0 hp4 hp5 hp10 hW nO0_p4 nO0_p5 nO0_p10
    obtain ⟨k, AI, cI, L, hk, rfl, rfl, hAI, hp4, hp5, hLl, hLb, hLe, hp10, nAI_p4, nAI_p5, nAI_p10, hW⟩ := hrel
    by_cases hlt : k < n
    ·
      have hltI : (k : Int) < (n : Int) := by omega
      obtain ⟨ad, hAd, _, hc1⟩ := (rd.out _ hW).num hlt
      have hcx : Hid (∀ W, Below B0 w W → W.cell? (ad.add k) = some (.int .u8 ((d.getD k 0 : Nat) : Int))) := Lib.hid fun W hb => by
        obtain ⟨ad2, h2, _, h3⟩ := (rd.out _ hb).num hlt
        rw [hAd] at h2
        cases h2
        exact h3
      subst hAd
      clear hc1
      have hx := hdb.get k
      have hy := (sbl_byt key s c ((f + k) / 16) hkb).get ((f + k) % 16)
      have hst := kxor_take (key := key) (s := s) (c := c) (f := f) (d := d) (i := k) (by omega)
      unfold xb at hst
      have hsl := sbl_len key s c ((f + k) / 16)
      have hsb := sbl_byt key s c ((f + k) / 16) hkb
      obtain ⟨e, he⟩ : ∃ e, f + k = e := ⟨_, rfl⟩
      have hwa : IntKind.i64.wrap ((f : Int) + (k : Int)) = (e : Int) := by rw [IntWalk.i64_in _ (by omega)]; omega
      obtain ⟨r, hre⟩ : ∃ r, e % 16 = r := ⟨_, rfl⟩
      obtain ⟨q, hqe⟩ : ∃ q, e / 16 = q := ⟨_, rfl⟩
      have hq16 : Int.tmod (e : Int) 16 = (r : Int) := by rw [Int.tmod_eq_emod_of_nonneg (by omega)]; omega
      have hd16 : Int.tdiv (e : Int) 16 = (q : Int) := by rw [Int.tdiv_eq_ediv_of_nonneg (by omega)]; omega
      have hq16e : (e : Int) % 16 = (r : Int) := by omega
      have hd16e : (e : Int) / 16 = (q : Int) := by omega
      have hwr : IntKind.u32.wrap (q : Int) = (q : Int) := by simp [IntKind.wrap, IntKind.bits, IntKind.signed]; omega
      have hwq : IntKind.i64.wrap (q : Int) = (q : Int) := IntWalk.i64_in _ (by omega)
      have hwm : IntKind.i64.wrap (r : Int) = (r : Int) := IntWalk.i64_in _ (by omega)
      have hr16 : r < 16 := by omega
      have hqb : q < 4294967296 := by omega
      have hrI : (r : Int) < 16 := by omega
      obtain ⟨x, hxe⟩ : ∃ x, d.getD k 0 = x := ⟨_, rfl⟩
      rw [he, hre] at hy
      rw [he, hre, hqe] at hst
      rw [he, hqe] at hsl hsb
      rw [hqe] at hy
      obtain ⟨y, hye⟩ : ∃ y, (sbl key s c q).getD r 0 = y := ⟨_, rfl⟩
      rw [hye] at hst hy
      rw [hxe] at hst hx hcx
      have hx1 : bits BinOp.xor IntKind.u8 (x : Int) (y : Int) = ((x ^^^ y : Nat) : Int) := u8_xor_nat x y hx hy
      have hstq := Lib.hid hst
      have hyq := Lib.hid hye
      have hxq := Lib.hid hxe
      have hLq := Lib.hid hLe
      have hLbq := Lib.hid hLb
      have hLlq := Lib.hid hLl
      have hrq := Lib.hid hre
      have hqq := Lib.hid hqe
      have heq := Lib.hid he
      clear he hre hqe hst hye hxe hLe hLb hLl
      by_cases hk0 : k = 0
      ·
        have hkq : Hid ((k : Int) = 0) := Lib.hid (by omega)
        clear hk0
        go_upto_region 6 with fail
        refine wl_lit ?_
        refine runL 19 (.int .i64 (f : Int)) rfl (by rfl) (by go_simp) ?_
        refine runL 20 (.int .i64 (k : Int)) rfl (by rfl) (by go_simp) ?_
        refine runL 21 (.int .i64 (e : Int)) rfl (by rfl) (by go_simp) ?_
        refine runL 12 (.int .i64 (e : Int)) rfl (by rfl) (by go_simp) ?_
        simp only [Ls]
        refine nilL ?_
        go_upto_region 7 with fail
        refine wl_lit ?_
        refine runL 22 (.int .i64 (k : Int)) rfl (by rfl) (by go_simp) ?_
        refine runL 23 (.bool true) rfl (by rfl) (by have hkI := hkq.out; go_simp) ?_
        refine runL 24 (.bool true) rfl (by rfl) (by go_simp) ?_
        simp only [Ls]
        refine skipL 25 rfl (by kernel_rfl) ?_
        simp only [Ls]
        refine skipL 26 rfl (by kernel_rfl) ?_
        simp only [Ls]
        refine skipL 27 rfl (by kernel_rfl) ?_
        refine runL 28 (.bool true) rfl (by rfl) (by go_simp) ?_
        simp only [Ls]
        refine nilL ?_
        go_upto_region 8 with fail
        refine wl_lit ?_
        refine runL 29 (.agg (va .u8 key)) rfl (by rfl) (exec_row 22 (.tmp 4) rfl p4 rfl 22 (va .u8 key) _ hp4 (by exact Tryd.underlying22) rfl (sz__16_uint8 _ hkl)) ?_
        refine runL 30 (.agg (noV s c)) rfl (by rfl) (exec_row 30 (.tmp 5) rfl p5 rfl 30 (noV s c) _ hp5 (by exact Tryd.underlying30) rfl (noV_sz _ _)) ?_
        refine runL 31 (.int .i64 (e : Int)) rfl (by rfl) (by go_simp) ?_
        refine runL 32 (.int .i64 (q : Int)) rfl (by rfl) (by go_simp) ?_
        refine runL 33 (.int .u32 (q : Int)) rfl (by rfl) (by go_simp) ?_
        simp only [Ls]
        refine callL 34 rfl (by rfl) (fun K hK => wp_callF 72 #[.agg (va .u8 key), .agg (noV s c), .int .u32 (q : Int)] (by go_simp) (rsblock_any key s c q hkl hkb hs hc hqb _) ?_)
        rintro e w4 ⟨rfl, bx⟩
        replace hp4 := blB hp4 bx
        replace hp5 := blB hp5 bx
        replace hp10 := blB hp10 bx
        replace hAI := hAI.below bx
        replace hW := trB hW hB0 bx
        clear bx
        refine ⟨_, rfl, hK.out _ _ ?_⟩
        clear hK K
        simp only [Ls]
        refine runSL (w4.setRow p10 (va .u8 (sbl key s c q))) rfl (by rfl) (exec_storeRow 22 (.tmp 10) (.tmp 34) rfl p10 rfl (va .u8 (sbl key s c q)) rfl 22 (va .u8 L) hp10 (sz_eq (sz__16_uint8 _ (hLlq.out)) (sz__16_uint8 _ hsl)) (sz__16_uint8 _ hsl) (va_ones .u8 _)) ?_
        replace hp4 := hp4.rowFar (show p10 ≠ p4 from (by omega)) (va .u8 (sbl key s c q))
        replace hp5 := hp5.rowFar (show p10 ≠ p5 from (by omega)) (va .u8 (sbl key s c q))
        replace hAI := hAI.rowFar nAI_p10 (va .u8 (sbl key s c q))
        replace hp10 := hp10.row (va .u8 (sbl key s c q))
        replace hW := below_setRow hW lw_p10 (va .u8 (sbl key s c q))
        generalize w4.setRow p10 (va .u8 (sbl key s c q)) = w5 at *
        refine nilL ?_
        go_upto_region 9 with fail
        replace hAI := hAI.drew_
        refine wp_region_held_drew (S := fun wr => Blk wr p4 22 (va .u8 key) ∧ Blk wr p5 30 (noV s c) ∧ Blk wr p10 22 (va .u8 (sbl key s c q)) ∧ Below B0 w wr) (by kernel_rfl) ⟨hp4.drew, hp5.drew, hp10.drew, below_drewN hW 1⟩ (fun hH => ?_)
        clear hp4 hp5 hp10 hW
        obtain ⟨hp4, hp5, hp10, hW⟩ := hH
        generalize w5.drew = w6 at *
        refine takeH 12 0 35 (.slice AI k cI) rfl rfl (by kernel_rfl) (by kernel_rfl) (by kernel_rfl) (fun _ _ _ h => h) (Or.inl ⟨by rfl, fun w _ => by go_simp⟩) ⟨hp4, hp5, hp10, hW⟩ ?_
        simp only [Ls]
        refine takeH 11 1 36 (.slice (some ad) n cc) rfl rfl (by kernel_rfl) (by kernel_rfl) (by kernel_rfl) (fun _ _ _ h => h) (Or.inl ⟨by rfl, fun w _ => by go_simp⟩) ⟨hp4, hp5, hp10, hW⟩ ?_
        simp only [Ls]
        refine takeH 10 2 37 (.int .i64 (k : Int)) rfl rfl (by kernel_rfl) (by kernel_rfl) (by kernel_rfl) (fun _ _ _ h => h) (Or.inl ⟨by rfl, fun w _ => by go_simp⟩) ⟨hp4, hp5, hp10, hW⟩ ?_
        simp only [Ls]
        refine takeH 9 3 38 (.pointer (some (ad.add k))) rfl rfl (by kernel_rfl) (by kernel_rfl) (by kernel_rfl) (fun _ _ _ h => h) (Or.inl ⟨by rfl, fun w _ => by go_simp⟩) ⟨hp4, hp5, hp10, hW⟩ ?_
        simp only [Ls]
        refine takeH 8 4 39 (.int .u8 ((x : Nat) : Int)) rfl rfl (by kernel_rfl) (by kernel_rfl) (by kernel_rfl) (fun _ _ _ h => h) (Or.inl ⟨by rfl, fun _ h => exec_cellA 5 (.tmp 38) rfl (ad.add k) rfl (.int .u8 ((x : Nat) : Int)) _ Tryd.underlying5 rfl (hcx.out _ h.2.2.2)⟩) ⟨hp4, hp5, hp10, hW⟩ ?_
        simp only [Ls]
        refine takeH 7 5 40 (.int .i64 (e : Int)) rfl rfl (by kernel_rfl) (by kernel_rfl) (by kernel_rfl) (fun _ _ _ h => h) (Or.inl ⟨by rfl, fun w _ => by go_simp⟩) ⟨hp4, hp5, hp10, hW⟩ ?_
        simp only [Ls]
        refine takeH 6 6 41 (.int .i64 (r : Int)) rfl rfl (by kernel_rfl) (by kernel_rfl) (by kernel_rfl) (fun _ _ _ h => h) (Or.inl ⟨by rfl, fun w _ => by go_simp⟩) ⟨hp4, hp5, hp10, hW⟩ ?_
        simp only [Ls]
        refine takeH 5 7 42 (.pointer (some ⟨p10, r, none⟩)) rfl rfl (by kernel_rfl) (by kernel_rfl) (by kernel_rfl) (fun _ _ _ h => h) (Or.inl ⟨by rfl, fun w _ => by go_simp⟩) ⟨hp4, hp5, hp10, hW⟩ ?_
        simp only [Ls]
        refine takeH 4 8 43 (.int .u8 ((y : Nat) : Int)) rfl rfl (by kernel_rfl) (by kernel_rfl) (by kernel_rfl) (fun _ _ _ h => h) (Or.inl ⟨by rfl, fun _ h => exec_cell 5 (.tmp 42) rfl p10 r rfl (.int .u8 ((y : Nat) : Int)) _ Tryd.underlying5 rfl (by rw [← hyq.out]; exact h.2.2.1.num (by rw [hsl]; exact hr16))⟩) ⟨hp4, hp5, hp10, hW⟩ ?_
        simp only [Ls]
        refine takeH 3 9 44 (.int .u8 ((x ^^^ y : Nat) : Int)) rfl rfl (by kernel_rfl) (by kernel_rfl) (by kernel_rfl) (fun _ _ _ h => h) (Or.inl ⟨by rfl, fun w _ => by go_simp⟩) ⟨hp4, hp5, hp10, hW⟩ ?_
        simp only [Ls]
        refine wpAnyH_ready (by kernel_rfl) (by simp) (readyRun 2 10 45 (.slice (some ⟨w6.heap.size, 0, none⟩) 1 1) (w6.alloc (.cells (va .u8 ([(x ^^^ y)])) 5)) rfl rfl (by rfl) (exec_bslice 34 1 _ rfl _ (by exact bs_b1 (x ^^^ y) _)) ⟨hp4.alloc _, hp5.alloc _, hp10.alloc _, hW.alloc (Nat.le_trans hB0 hW.size) _⟩ (fun _ => ?_) AllReadyH.nil)
        simp only [Ls]
        have lp4_q1 := hp4.lt
        have lp5_q1 := hp5.lt
        have lp10_q1 := hp10.lt
        have nAI_q1 := hAI.new_off
        have lw_q1 := Nat.le_trans hB0 hW.size
        have hq1 : Blk (w6.alloc (.cells (va .u8 ([(x ^^^ y)])) 5)) w6.heap.size 5 (va .u8 ([(x ^^^ y)])) := Blk.new _ _ _
        have bx := bAl w6 (.cells (va .u8 ([(x ^^^ y)])) 5)
        replace hp4 := blB hp4 bx
        replace hp5 := blB hp5 bx
        replace hp10 := blB hp10 bx
        clear bx
        replace hAI := hAI.alloc (.cells (va .u8 ([(x ^^^ y)])) 5)
        replace hW := alB hW hB0 (.cells (va .u8 ([(x ^^^ y)])) 5)
        generalize w6.alloc (.cells (va .u8 ([(x ^^^ y)])) 5) = w7 at *
        generalize w6.heap.size = q1 at hq1 lw_q1 lp4_q1 lp5_q1 lp10_q1 nAI_q1 ⊢
        obtain ⟨AJ, cAJ, w8, hap, hAJ, hcAJ, hgr, hof⟩ := own_append hAI (some ⟨q1, 0, none⟩) 1 1 _ ([(x ^^^ y)]) (hq1.readsAll (Nat.lt_succ_self _) rfl) (Nat.le_trans hB0 hW.size) ((kxor key s c f d).take (k + 1)) hstq.out (k + 1) (by omega) (by omega) 34
        refine wpAnyH_ready (by kernel_rfl) (by simp) (readyRun 1 11 46 (.slice AJ (k + 1) cAJ) w8 rfl rfl (by rfl) (exec_append _ _ _ _ rfl _ _ _ rfl rfl hap) ⟨hp4.grown hgr (nAI_p4.ob _ _), hp5.grown hgr (nAI_p5.ob _ _), hp10.grown hgr (nAI_p10.ob _ _), Own.belowG hW (Nat.le_trans hB0 hW.size) hAI.from_ hgr⟩ (fun _ => ?_) AllReadyH.nil)
        simp only [Ls]
        have nAJ_p4 := hof p4 nAI_p4 hp4.lt
        replace hp4 := hp4.grown hgr (nAI_p4.ob _ _)
        have nAJ_p5 := hof p5 nAI_p5 hp5.lt
        replace hp5 := hp5.grown hgr (nAI_p5.ob _ _)
        have nAJ_p10 := hof p10 nAI_p10 hp10.lt
        replace hp10 := hp10.grown hgr (nAI_p10.ob _ _)
        have nAJ_q1 := hof q1 nAI_q1 hq1.lt
        replace hq1 := hq1.grown hgr (nAI_q1.ob _ _)
        replace hW := Own.belowG hW (Nat.le_trans hB0 hW.size) hAI.from_ hgr
        clear hAI hgr hof hap
        refine takeH 0 12 9 (.slice AJ (k + 1) cAJ) rfl rfl (by kernel_rfl) (by kernel_rfl) (by kernel_rfl) (fun _ _ _ h => h) (Or.inl ⟨by rfl, fun w _ => by go_simp⟩) ⟨hp4, hp5, hp10, hW⟩ ?_
        simp only [Ls]
        refine wpAnyH_done (by kernel_rfl) ?_ _
        go_wp2
        go_roundw
        case rel => exact ⟨k + 1, AJ, cAJ, sbl key s c q, by omega, by go_num, rfl, hAJ, hp4, hp5, hsl, hsb, .inr (by rw [show f + (k + 1) - 1 = f + k by omega, heq.out, hqq.out]), hp10, nAJ_p4, nAJ_p5, nAJ_p10, hW⟩
        case measure => simp [intOf]; omega
      ·
        have hkI : ¬ (k : Int) = 0 := by omega
        have hk0q := Lib.hid hk0
        by_cases hr0 : r = 0
        ·
          have hrq0 : Hid ((r : Int) = 0) := Lib.hid (by omega)
          clear hr0
          go_upto_region 6 with fail
          refine wl_lit ?_
          refine runL 19 (.int .i64 (f : Int)) rfl (by rfl) (by go_simp) ?_
          refine runL 20 (.int .i64 (k : Int)) rfl (by rfl) (by go_simp) ?_
          refine runL 21 (.int .i64 (e : Int)) rfl (by rfl) (by go_simp) ?_
          refine runL 12 (.int .i64 (e : Int)) rfl (by rfl) (by go_simp) ?_
          simp only [Ls]
          refine nilL ?_
          go_upto_region 7 with fail
          refine wl_lit ?_
          refine runL 22 (.int .i64 (k : Int)) rfl (by rfl) (by go_simp) ?_
          refine runL 23 (.bool false) rfl (by rfl) (by go_simp) ?_
          refine runL 24 (.bool false) rfl (by rfl) (by go_simp) ?_
          refine runL 25 (.int .i64 (e : Int)) rfl (by rfl) (by go_simp) ?_
          refine runL 26 (.int .i64 (r : Int)) rfl (by rfl) (by go_simp) ?_
          refine runL 27 (.bool true) rfl (by rfl) (by have hrI0 := hrq0.out; go_simp) ?_
          refine runL 28 (.bool true) rfl (by rfl) (by go_simp) ?_
          simp only [Ls]
          refine nilL ?_
          go_upto_region 8 with fail
          refine wl_lit ?_
          refine runL 29 (.agg (va .u8 key)) rfl (by rfl) (exec_row 22 (.tmp 4) rfl p4 rfl 22 (va .u8 key) _ hp4 (by exact Tryd.underlying22) rfl (sz__16_uint8 _ hkl)) ?_
          refine runL 30 (.agg (noV s c)) rfl (by rfl) (exec_row 30 (.tmp 5) rfl p5 rfl 30 (noV s c) _ hp5 (by exact Tryd.underlying30) rfl (noV_sz _ _)) ?_
          refine runL 31 (.int .i64 (e : Int)) rfl (by rfl) (by go_simp) ?_
          refine runL 32 (.int .i64 (q : Int)) rfl (by rfl) (by go_simp) ?_
          refine runL 33 (.int .u32 (q : Int)) rfl (by rfl) (by go_simp) ?_
          simp only [Ls]
          refine callL 34 rfl (by rfl) (fun K hK => wp_callF 72 #[.agg (va .u8 key), .agg (noV s c), .int .u32 (q : Int)] (by go_simp) (rsblock_any key s c q hkl hkb hs hc hqb _) ?_)
          rintro e w9 ⟨rfl, bx⟩
          replace hp4 := blB hp4 bx
          replace hp5 := blB hp5 bx
          replace hp10 := blB hp10 bx
          replace hAI := hAI.below bx
          replace hW := trB hW hB0 bx
          clear bx
          refine ⟨_, rfl, hK.out _ _ ?_⟩
          clear hK K
          simp only [Ls]
          refine runSL (w9.setRow p10 (va .u8 (sbl key s c q))) rfl (by rfl) (exec_storeRow 22 (.tmp 10) (.tmp 34) rfl p10 rfl (va .u8 (sbl key s c q)) rfl 22 (va .u8 L) hp10 (sz_eq (sz__16_uint8 _ (hLlq.out)) (sz__16_uint8 _ hsl)) (sz__16_uint8 _ hsl) (va_ones .u8 _)) ?_
          replace hp4 := hp4.rowFar (show p10 ≠ p4 from (by omega)) (va .u8 (sbl key s c q))
          replace hp5 := hp5.rowFar (show p10 ≠ p5 from (by omega)) (va .u8 (sbl key s c q))
          replace hAI := hAI.rowFar nAI_p10 (va .u8 (sbl key s c q))
          replace hp10 := hp10.row (va .u8 (sbl key s c q))
          replace hW := below_setRow hW lw_p10 (va .u8 (sbl key s c q))
          generalize w9.setRow p10 (va .u8 (sbl key s c q)) = w10 at *
          refine nilL ?_
          go_upto_region 9 with fail
          replace hAI := hAI.drew_
          refine wp_region_held_drew (S := fun wr => Blk wr p4 22 (va .u8 key) ∧ Blk wr p5 30 (noV s c) ∧ Blk wr p10 22 (va .u8 (sbl key s c q)) ∧ Below B0 w wr) (by kernel_rfl) ⟨hp4.drew, hp5.drew, hp10.drew, below_drewN hW 1⟩ (fun hH => ?_)
          clear hp4 hp5 hp10 hW
          obtain ⟨hp4, hp5, hp10, hW⟩ := hH
          generalize w10.drew = w11 at *
          refine takeH 12 0 35 (.slice AI k cI) rfl rfl (by kernel_rfl) (by kernel_rfl) (by kernel_rfl) (fun _ _ _ h => h) (Or.inl ⟨by rfl, fun w _ => by go_simp⟩) ⟨hp4, hp5, hp10, hW⟩ ?_
          simp only [Ls]
          refine takeH 11 1 36 (.slice (some ad) n cc) rfl rfl (by kernel_rfl) (by kernel_rfl) (by kernel_rfl) (fun _ _ _ h => h) (Or.inl ⟨by rfl, fun w _ => by go_simp⟩) ⟨hp4, hp5, hp10, hW⟩ ?_
          simp only [Ls]
          refine takeH 10 2 37 (.int .i64 (k : Int)) rfl rfl (by kernel_rfl) (by kernel_rfl) (by kernel_rfl) (fun _ _ _ h => h) (Or.inl ⟨by rfl, fun w _ => by go_simp⟩) ⟨hp4, hp5, hp10, hW⟩ ?_
          simp only [Ls]
          refine takeH 9 3 38 (.pointer (some (ad.add k))) rfl rfl (by kernel_rfl) (by kernel_rfl) (by kernel_rfl) (fun _ _ _ h => h) (Or.inl ⟨by rfl, fun w _ => by go_simp⟩) ⟨hp4, hp5, hp10, hW⟩ ?_
          simp only [Ls]
          refine takeH 8 4 39 (.int .u8 ((x : Nat) : Int)) rfl rfl (by kernel_rfl) (by kernel_rfl) (by kernel_rfl) (fun _ _ _ h => h) (Or.inl ⟨by rfl, fun _ h => exec_cellA 5 (.tmp 38) rfl (ad.add k) rfl (.int .u8 ((x : Nat) : Int)) _ Tryd.underlying5 rfl (hcx.out _ h.2.2.2)⟩) ⟨hp4, hp5, hp10, hW⟩ ?_
          simp only [Ls]
          refine takeH 7 5 40 (.int .i64 (e : Int)) rfl rfl (by kernel_rfl) (by kernel_rfl) (by kernel_rfl) (fun _ _ _ h => h) (Or.inl ⟨by rfl, fun w _ => by go_simp⟩) ⟨hp4, hp5, hp10, hW⟩ ?_
          simp only [Ls]
          refine takeH 6 6 41 (.int .i64 (r : Int)) rfl rfl (by kernel_rfl) (by kernel_rfl) (by kernel_rfl) (fun _ _ _ h => h) (Or.inl ⟨by rfl, fun w _ => by go_simp⟩) ⟨hp4, hp5, hp10, hW⟩ ?_
          simp only [Ls]
          refine takeH 5 7 42 (.pointer (some ⟨p10, r, none⟩)) rfl rfl (by kernel_rfl) (by kernel_rfl) (by kernel_rfl) (fun _ _ _ h => h) (Or.inl ⟨by rfl, fun w _ => by go_simp⟩) ⟨hp4, hp5, hp10, hW⟩ ?_
          simp only [Ls]
          refine takeH 4 8 43 (.int .u8 ((y : Nat) : Int)) rfl rfl (by kernel_rfl) (by kernel_rfl) (by kernel_rfl) (fun _ _ _ h => h) (Or.inl ⟨by rfl, fun _ h => exec_cell 5 (.tmp 42) rfl p10 r rfl (.int .u8 ((y : Nat) : Int)) _ Tryd.underlying5 rfl (by rw [← hyq.out]; exact h.2.2.1.num (by rw [hsl]; exact hr16))⟩) ⟨hp4, hp5, hp10, hW⟩ ?_
          simp only [Ls]
          refine takeH 3 9 44 (.int .u8 ((x ^^^ y : Nat) : Int)) rfl rfl (by kernel_rfl) (by kernel_rfl) (by kernel_rfl) (fun _ _ _ h => h) (Or.inl ⟨by rfl, fun w _ => by go_simp⟩) ⟨hp4, hp5, hp10, hW⟩ ?_
          simp only [Ls]
          refine wpAnyH_ready (by kernel_rfl) (by simp) (readyRun 2 10 45 (.slice (some ⟨w11.heap.size, 0, none⟩) 1 1) (w11.alloc (.cells (va .u8 ([(x ^^^ y)])) 5)) rfl rfl (by rfl) (exec_bslice 34 1 _ rfl _ (by exact bs_b1 (x ^^^ y) _)) ⟨hp4.alloc _, hp5.alloc _, hp10.alloc _, hW.alloc (Nat.le_trans hB0 hW.size) _⟩ (fun _ => ?_) AllReadyH.nil)
          simp only [Ls]
          have lp4_q2 := hp4.lt
          have lp5_q2 := hp5.lt
          have lp10_q2 := hp10.lt
          have nAI_q2 := hAI.new_off
          have lw_q2 := Nat.le_trans hB0 hW.size
          have hq2 : Blk (w11.alloc (.cells (va .u8 ([(x ^^^ y)])) 5)) w11.heap.size 5 (va .u8 ([(x ^^^ y)])) := Blk.new _ _ _
          have bx := bAl w11 (.cells (va .u8 ([(x ^^^ y)])) 5)
          replace hp4 := blB hp4 bx
          replace hp5 := blB hp5 bx
          replace hp10 := blB hp10 bx
          clear bx
          replace hAI := hAI.alloc (.cells (va .u8 ([(x ^^^ y)])) 5)
          replace hW := alB hW hB0 (.cells (va .u8 ([(x ^^^ y)])) 5)
          generalize w11.alloc (.cells (va .u8 ([(x ^^^ y)])) 5) = w12 at *
          generalize w11.heap.size = q2 at hq2 lw_q2 lp4_q2 lp5_q2 lp10_q2 nAI_q2 ⊢
          obtain ⟨AJ, cAJ, w13, hap, hAJ, hcAJ, hgr, hof⟩ := own_append hAI (some ⟨q2, 0, none⟩) 1 1 _ ([(x ^^^ y)]) (hq2.readsAll (Nat.lt_succ_self _) rfl) (Nat.le_trans hB0 hW.size) ((kxor key s c f d).take (k + 1)) hstq.out (k + 1) (by omega) (by omega) 34
          refine wpAnyH_ready (by kernel_rfl) (by simp) (readyRun 1 11 46 (.slice AJ (k + 1) cAJ) w13 rfl rfl (by rfl) (exec_append _ _ _ _ rfl _ _ _ rfl rfl hap) ⟨hp4.grown hgr (nAI_p4.ob _ _), hp5.grown hgr (nAI_p5.ob _ _), hp10.grown hgr (nAI_p10.ob _ _), Own.belowG hW (Nat.le_trans hB0 hW.size) hAI.from_ hgr⟩ (fun _ => ?_) AllReadyH.nil)
          simp only [Ls]
          have nAJ_p4 := hof p4 nAI_p4 hp4.lt
          replace hp4 := hp4.grown hgr (nAI_p4.ob _ _)
          have nAJ_p5 := hof p5 nAI_p5 hp5.lt
          replace hp5 := hp5.grown hgr (nAI_p5.ob _ _)
          have nAJ_p10 := hof p10 nAI_p10 hp10.lt
          replace hp10 := hp10.grown hgr (nAI_p10.ob _ _)
          have nAJ_q2 := hof q2 nAI_q2 hq2.lt
          replace hq2 := hq2.grown hgr (nAI_q2.ob _ _)
          replace hW := Own.belowG hW (Nat.le_trans hB0 hW.size) hAI.from_ hgr
          clear hAI hgr hof hap
          refine takeH 0 12 9 (.slice AJ (k + 1) cAJ) rfl rfl (by kernel_rfl) (by kernel_rfl) (by kernel_rfl) (fun _ _ _ h => h) (Or.inl ⟨by rfl, fun w _ => by go_simp⟩) ⟨hp4, hp5, hp10, hW⟩ ?_
          simp only [Ls]
          refine wpAnyH_done (by kernel_rfl) ?_ _
          go_wp2
          go_roundw
          case rel => exact ⟨k + 1, AJ, cAJ, sbl key s c q, by omega, by go_num, rfl, hAJ, hp4, hp5, hsl, hsb, .inr (by rw [show f + (k + 1) - 1 = f + k by omega, heq.out, hqq.out]), hp10, nAJ_p4, nAJ_p5, nAJ_p10, hW⟩
          case measure => simp [intOf]; omega
        ·
          have hrI0 : ¬ (r : Int) = 0 := by omega
          have hLs : L = sbl key s c q := by
            rcases hLq.out with h | h
            · exact absurd h hk0q.out
            · rw [h, show (f + k - 1) / 16 = q by have h1 := hrq.out; have h2 := hqq.out; have h3 := heq.out; have h4 := hk0q.out; omega]
          subst hLs
          go_upto_region 6 with fail
          refine wl_lit ?_
          refine runL 19 (.int .i64 (f : Int)) rfl (by rfl) (by go_simp) ?_
          refine runL 20 (.int .i64 (k : Int)) rfl (by rfl) (by go_simp) ?_
          refine runL 21 (.int .i64 (e : Int)) rfl (by rfl) (by go_simp) ?_
          refine runL 12 (.int .i64 (e : Int)) rfl (by rfl) (by go_simp) ?_
          simp only [Ls]
          refine nilL ?_
          go_upto_region 7 with fail
          refine wl_lit ?_
          refine runL 22 (.int .i64 (k : Int)) rfl (by rfl) (by go_simp) ?_
          refine runL 23 (.bool false) rfl (by rfl) (by go_simp) ?_
          refine runL 24 (.bool false) rfl (by rfl) (by go_simp) ?_
          refine runL 25 (.int .i64 (e : Int)) rfl (by rfl) (by go_simp) ?_
          refine runL 26 (.int .i64 (r : Int)) rfl (by rfl) (by go_simp) ?_
          refine runL 27 (.bool false) rfl (by rfl) (by go_simp) ?_
          refine runL 28 (.bool false) rfl (by rfl) (by go_simp) ?_
          simp only [Ls]
          refine nilL ?_
          go_upto_region 9 with fail
          replace hAI := hAI.drew_
          refine wp_region_held_drew (S := fun wr => Blk wr p4 22 (va .u8 key) ∧ Blk wr p5 30 (noV s c) ∧ Blk wr p10 22 (va .u8 (sbl key s c q)) ∧ Below B0 w wr) (by kernel_rfl) ⟨hp4.drew, hp5.drew, hp10.drew, below_drewN hW 1⟩ (fun hH => ?_)
          clear hp4 hp5 hp10 hW
          obtain ⟨hp4, hp5, hp10, hW⟩ := hH
          generalize wr.drew = w14 at *
          refine takeH 12 0 35 (.slice AI k cI) rfl rfl (by kernel_rfl) (by kernel_rfl) (by kernel_rfl) (fun _ _ _ h => h) (Or.inl ⟨by rfl, fun w _ => by go_simp⟩) ⟨hp4, hp5, hp10, hW⟩ ?_
          simp only [Ls]
          refine takeH 11 1 36 (.slice (some ad) n cc) rfl rfl (by kernel_rfl) (by kernel_rfl) (by kernel_rfl) (fun _ _ _ h => h) (Or.inl ⟨by rfl, fun w _ => by go_simp⟩) ⟨hp4, hp5, hp10, hW⟩ ?_
          simp only [Ls]
          refine takeH 10 2 37 (.int .i64 (k : Int)) rfl rfl (by kernel_rfl) (by kernel_rfl) (by kernel_rfl) (fun _ _ _ h => h) (Or.inl ⟨by rfl, fun w _ => by go_simp⟩) ⟨hp4, hp5, hp10, hW⟩ ?_
          simp only [Ls]
          refine takeH 9 3 38 (.pointer (some (ad.add k))) rfl rfl (by kernel_rfl) (by kernel_rfl) (by kernel_rfl) (fun _ _ _ h => h) (Or.inl ⟨by rfl, fun w _ => by go_simp⟩) ⟨hp4, hp5, hp10, hW⟩ ?_
          simp only [Ls]
          refine takeH 8 4 39 (.int .u8 ((x : Nat) : Int)) rfl rfl (by kernel_rfl) (by kernel_rfl) (by kernel_rfl) (fun _ _ _ h => h) (Or.inl ⟨by rfl, fun _ h => exec_cellA 5 (.tmp 38) rfl (ad.add k) rfl (.int .u8 ((x : Nat) : Int)) _ Tryd.underlying5 rfl (hcx.out _ h.2.2.2)⟩) ⟨hp4, hp5, hp10, hW⟩ ?_
          simp only [Ls]
          refine takeH 7 5 40 (.int .i64 (e : Int)) rfl rfl (by kernel_rfl) (by kernel_rfl) (by kernel_rfl) (fun _ _ _ h => h) (Or.inl ⟨by rfl, fun w _ => by go_simp⟩) ⟨hp4, hp5, hp10, hW⟩ ?_
          simp only [Ls]
          refine takeH 6 6 41 (.int .i64 (r : Int)) rfl rfl (by kernel_rfl) (by kernel_rfl) (by kernel_rfl) (fun _ _ _ h => h) (Or.inl ⟨by rfl, fun w _ => by go_simp⟩) ⟨hp4, hp5, hp10, hW⟩ ?_
          simp only [Ls]
          refine takeH 5 7 42 (.pointer (some ⟨p10, r, none⟩)) rfl rfl (by kernel_rfl) (by kernel_rfl) (by kernel_rfl) (fun _ _ _ h => h) (Or.inl ⟨by rfl, fun w _ => by go_simp⟩) ⟨hp4, hp5, hp10, hW⟩ ?_
          simp only [Ls]
          refine takeH 4 8 43 (.int .u8 ((y : Nat) : Int)) rfl rfl (by kernel_rfl) (by kernel_rfl) (by kernel_rfl) (fun _ _ _ h => h) (Or.inl ⟨by rfl, fun _ h => exec_cell 5 (.tmp 42) rfl p10 r rfl (.int .u8 ((y : Nat) : Int)) _ Tryd.underlying5 rfl (by rw [← hyq.out]; exact h.2.2.1.num (by rw [hsl]; exact hr16))⟩) ⟨hp4, hp5, hp10, hW⟩ ?_
          simp only [Ls]
          refine takeH 3 9 44 (.int .u8 ((x ^^^ y : Nat) : Int)) rfl rfl (by kernel_rfl) (by kernel_rfl) (by kernel_rfl) (fun _ _ _ h => h) (Or.inl ⟨by rfl, fun w _ => by go_simp⟩) ⟨hp4, hp5, hp10, hW⟩ ?_
          simp only [Ls]
          refine wpAnyH_ready (by kernel_rfl) (by simp) (readyRun 2 10 45 (.slice (some ⟨w14.heap.size, 0, none⟩) 1 1) (w14.alloc (.cells (va .u8 ([(x ^^^ y)])) 5)) rfl rfl (by rfl) (exec_bslice 34 1 _ rfl _ (by exact bs_b1 (x ^^^ y) _)) ⟨hp4.alloc _, hp5.alloc _, hp10.alloc _, hW.alloc (Nat.le_trans hB0 hW.size) _⟩ (fun _ => ?_) AllReadyH.nil)
          simp only [Ls]
          have lp4_q3 := hp4.lt
          have lp5_q3 := hp5.lt
          have lp10_q3 := hp10.lt
          have nAI_q3 := hAI.new_off
          have lw_q3 := Nat.le_trans hB0 hW.size
          have hq3 : Blk (w14.alloc (.cells (va .u8 ([(x ^^^ y)])) 5)) w14.heap.size 5 (va .u8 ([(x ^^^ y)])) := Blk.new _ _ _
          have bx := bAl w14 (.cells (va .u8 ([(x ^^^ y)])) 5)
          replace hp4 := blB hp4 bx
          replace hp5 := blB hp5 bx
          replace hp10 := blB hp10 bx
          clear bx
          replace hAI := hAI.alloc (.cells (va .u8 ([(x ^^^ y)])) 5)
          replace hW := alB hW hB0 (.cells (va .u8 ([(x ^^^ y)])) 5)
          generalize w14.alloc (.cells (va .u8 ([(x ^^^ y)])) 5) = w15 at *
          generalize w14.heap.size = q3 at hq3 lw_q3 lp4_q3 lp5_q3 lp10_q3 nAI_q3 ⊢
          obtain ⟨AJ, cAJ, w16, hap, hAJ, hcAJ, hgr, hof⟩ := own_append hAI (some ⟨q3, 0, none⟩) 1 1 _ ([(x ^^^ y)]) (hq3.readsAll (Nat.lt_succ_self _) rfl) (Nat.le_trans hB0 hW.size) ((kxor key s c f d).take (k + 1)) hstq.out (k + 1) (by omega) (by omega) 34
          refine wpAnyH_ready (by kernel_rfl) (by simp) (readyRun 1 11 46 (.slice AJ (k + 1) cAJ) w16 rfl rfl (by rfl) (exec_append _ _ _ _ rfl _ _ _ rfl rfl hap) ⟨hp4.grown hgr (nAI_p4.ob _ _), hp5.grown hgr (nAI_p5.ob _ _), hp10.grown hgr (nAI_p10.ob _ _), Own.belowG hW (Nat.le_trans hB0 hW.size) hAI.from_ hgr⟩ (fun _ => ?_) AllReadyH.nil)
          simp only [Ls]
          have nAJ_p4 := hof p4 nAI_p4 hp4.lt
          replace hp4 := hp4.grown hgr (nAI_p4.ob _ _)
          have nAJ_p5 := hof p5 nAI_p5 hp5.lt
          replace hp5 := hp5.grown hgr (nAI_p5.ob _ _)
          have nAJ_p10 := hof p10 nAI_p10 hp10.lt
          replace hp10 := hp10.grown hgr (nAI_p10.ob _ _)
          have nAJ_q3 := hof q3 nAI_q3 hq3.lt
          replace hq3 := hq3.grown hgr (nAI_q3.ob _ _)
          replace hW := Own.belowG hW (Nat.le_trans hB0 hW.size) hAI.from_ hgr
          clear hAI hgr hof hap
          refine takeH 0 12 9 (.slice AJ (k + 1) cAJ) rfl rfl (by kernel_rfl) (by kernel_rfl) (by kernel_rfl) (fun _ _ _ h => h) (Or.inl ⟨by rfl, fun w _ => by go_simp⟩) ⟨hp4, hp5, hp10, hW⟩ ?_
          simp only [Ls]
          refine wpAnyH_done (by kernel_rfl) ?_ _
          go_wp2
          go_roundw
          case rel => exact ⟨k + 1, AJ, cAJ, sbl key s c q, by omega, by go_num, rfl, hAJ, hp4, hp5, hsl, hsb, .inr (by rw [show f + (k + 1) - 1 = f + k by omega, heq.out, hqq.out]), hp10, nAJ_p4, nAJ_p5, nAJ_p10, hW⟩
          case measure => simp [intOf]; omega
    ·
      obtain rfl : n = k := by omega
      rw [List.take_of_length_le (by rw [kxor_len]; omega)] at hAI
      clear hp4 hp5 hp10
      go_upto_region 10 with fail
      refine wl_lit ?_
      refine runL 47 (.slice AI n cI) rfl (by rfl) (by go_simp) ?_
      refine runL 8 (.slice AI n cI) rfl (by rfl) (by go_simp) ?_
      simp only [Ls]
      refine nilL ?_
      go_wp2_with fail
      go_ret
      exact ⟨_, _, rfl, hAI, hW⟩
end Go.Proofs.YtcfddmplnoknlaaDoor
