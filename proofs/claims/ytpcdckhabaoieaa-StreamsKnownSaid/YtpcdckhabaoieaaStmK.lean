/-
  The walk of caissonlaw07.StreamsKnown. (Printed by mkxor07f.py.)
-/
import Derived.Test.YtpcdckhabaoieaaStmX
namespace Go.Proofs.Ytpcdckhabaoieaa
open Go.RowKit Sh
def kK : List Nat := 1 :: 2 :: 3 :: List.replicate 13 0
def cM : Nat := 18446744073709551615
theorem byt_kK : Byt kK := fun x hx => by
  have h : kK.all (· < 256) = true := by decide
  rw [List.all_eq_true] at h; simpa using h x hx
theorem kV_one (key : List Nat) (s c : Nat) : ∀ v ∈ (kV key s c).toList, v.oneCell' = true := by
  intro v hv
  rw [kV_list, List.mem_append] at hv
  rcases hv with hv | hv
  · exact va_ones .u8 key v hv
  · exact noV_one s c v hv
theorem zv_K (w : World) : (zeroValue 28).run Try.prog w = .ok (.agg (kV (List.replicate 16 0) 0 0)) w := by kernel_rfl
/-- the numbers below i, zeros behind, 40 in all -/
def dat (i : Nat) : List Nat := (List.range 40).map fun j => if j < i then j else 0
theorem dat_len (i : Nat) : (dat i).length = 40 := by simp [dat]
theorem dat_zero : dat 0 = List.replicate 40 0 := by decide
theorem dat_byt (i : Nat) : Byt (dat i) := by
  intro x hx
  simp only [dat, List.mem_map, List.mem_range] at hx
  obtain ⟨j, hj, rfl⟩ := hx
  split <;> omega
theorem dat_step (i : Nat) (hi : i < 40) : (dat i).set i i = dat (i + 1) := by
  apply ext_getD (by rw [List.length_set, dat_len, dat_len])
  intro j hj
  rw [List.length_set, dat_len] at hj
  by_cases e : i = j
  · subst e
    rw [List.getD_eq_getElem?_getD, List.getElem?_set_self (by rw [dat_len]; exact hi), dat, getD_map_range _ _ _ hj, if_pos (by omega)]; rfl
  · rw [List.getD_eq_getElem?_getD, List.getElem?_set_ne e, ← List.getD_eq_getElem?_getD, dat, dat, getD_map_range _ _ _ hj, getD_map_range _ _ _ hj]
    by_cases h : j < i
    · rw [if_pos h, if_pos (by omega)]
    · rw [if_neg h, if_neg (by omega)]

set_option maxRecDepth 8000 in
set_option maxHeartbeats 4000000 in
theorem lawSKnown_any (w : World) :
    Calls Try.prog 8 #[] w fun e w' => e = .returned (.bool true) ∧ Below w.heap.size w w' := by
  obtain ⟨B0, hB0e⟩ : ∃ b, w.heap.size = b := ⟨_, rfl⟩
  rw [hB0e]
  have hW : Below B0 w w := by rw [← hB0e]; exact Below.refl _ _
  have hB0 : B0 ≤ w.heap.size := by omega
  have hB0q := Lib.hid hB0e
  clear hB0e
  go_enter Try.func8, Try.ntmps8
  go_upto_region 0 with fail
  refine wl_lit ?_
  refine runL 0 (.bool false) rfl (by rfl) (by go_simp) ?_
  simp only [List.set_cons_zero]
  refine nilL ?_
  go_upto_region 1 with fail
  refine wl_lit ?_
  refine runL 10 (.agg (va .u8 (kK))) rfl (by rfl) (exec_build 22 _ rfl (va .u8 (kK)) (by kernel_rfl)) ?_
  simp only [List.set_cons_zero, List.set_cons_succ]
  refine runL 11 (.agg (noV 7 cM)) rfl (by rfl) (exec_build 26 _ rfl (noV 7 cM) (by kernel_rfl)) ?_
  simp only [List.set_cons_zero, List.set_cons_succ]
  refine runL 12 (.agg (kV kK 7 cM)) rfl (by rfl) (exec_build 28 _ rfl (kV kK 7 cM) (by kernel_rfl)) ?_
  simp only [List.set_cons_zero, List.set_cons_succ]
  refine runWL 1 (.pointer (some ⟨w.heap.size, 0, none⟩)) (w.alloc (.cells (kV (List.replicate 16 0) 0 0) 28)) rfl (by rfl) (exec_allocV 28 rfl _ (zv_K _)) ?_
  simp only [List.set_cons_zero, List.set_cons_succ]
  have lw_p1 := Nat.le_trans hB0 hW.size
  have hp1 : Blk (w.alloc (.cells (kV (List.replicate 16 0) 0 0) 28)) w.heap.size 28 (kV (List.replicate 16 0) 0 0) := Blk.new _ _ _
  replace hW := hW.alloc (Nat.le_trans hB0 hW.size) (.cells (kV (List.replicate 16 0) 0 0) 28)
  generalize w.alloc (.cells (kV (List.replicate 16 0) 0 0) 28) = w1 at *
  generalize w.heap.size = p1 at hp1 lw_p1  ⊢
  refine runSL (w1.setRow p1 (kV kK 7 cM)) rfl (by rfl) (exec_storeRow 28 (.tmp 1) (.tmp 12) rfl p1 rfl (kV kK 7 cM) rfl 28 (kV (List.replicate 16 0) 0 0) hp1 (sz_eq (kV_sz _ _ _ List.length_replicate) (kV_sz _ _ _ rfl)) (kV_sz _ _ _ rfl) (kV_one _ _ _)) ?_
  replace hp1 := hp1.row (kV kK 7 cM)
  replace hW := below_setRow hW lw_p1 (kV kK 7 cM)
  generalize w1.setRow p1 (kV kK 7 cM) = w2 at *
  refine nilL ?_
  go_upto_region 2 with fail
  refine wl_lit ?_
  refine runWL 13 (.slice (some ⟨w2.heap.size, 0, none⟩) 40 40) (w2.alloc (.cells (va .u8 (List.replicate 40 0)) 5)) rfl (by rfl) (exec_makeB _ _ rfl 40 (by omega) rfl rfl) ?_
  simp only [List.set_cons_zero, List.set_cons_succ]
  have lp1_q1 := hp1.lt
  have lw_q1 := Nat.le_trans hB0 hW.size
  have hq1 : Blk (w2.alloc (.cells (va .u8 (List.replicate 40 0)) 5)) w2.heap.size 5 (va .u8 (List.replicate 40 0)) := Blk.new _ _ _
  replace hp1 := hp1.alloc (.cells (va .u8 (List.replicate 40 0)) 5)
  replace hW := hW.alloc (Nat.le_trans hB0 hW.size) (.cells (va .u8 (List.replicate 40 0)) 5)
  generalize w2.alloc (.cells (va .u8 (List.replicate 40 0)) 5) = w3 at *
  generalize w2.heap.size = q1 at hq1 lw_q1 lp1_q1 ⊢
  refine runL 2 (.slice (some ⟨q1, 0, none⟩) 40 40) rfl (by rfl) (by go_simp) ?_
  simp only [List.set_cons_zero, List.set_cons_succ]
  refine nilL ?_
  rw [← dat_zero] at hq1
  go_upto_region 3 with fail
  refine wl_lit ?_
  refine runL 3 (.int .i64 0) rfl (by rfl) (by go_simp) ?_
  simp only [List.set_cons_zero, List.set_cons_succ]
  refine nilL ?_
  go_wp2
  go_loopw [3] (fun u wr => ∃ i : Nat, i ≤ 40 ∧ u = .int .i64 (i : Int) ∧ Blk wr p1 28 (kV kK 7 cM) ∧ Blk wr q1 5 (va .u8 (dat i)) ∧ Below B0 w wr) (fun u _ => 40 - (intOf u).toNat)
  case atStart => exact ⟨0, by omega, rfl, hp1, hq1, hW⟩
  case round =>
    clear hp1 hq1 hW
    obtain ⟨i, hi, rfl, hp1, hq1, hW⟩ := hrel
    by_cases hlt : i < 40
    ·
      have hltI : (i : Int) < 40 := by omega
      have hleI : (i : Int) ≤ 40 := by omega
      obtain ⟨mm, hmm⟩ : ∃ m, 40 - i = m := ⟨_, rfl⟩
      have hmI : (40 : Int) - (i : Int) = (mm : Int) := by omega
      have hmE : i + mm = 40 := by omega
      have hw8 : IntKind.u8.wrap (i : Int) = (i : Int) := by simp [IntKind.wrap, IntKind.bits, IntKind.signed]; omega
      have hw16 : IntKind.u16.wrap (i : Int) = (i : Int) := by simp [IntKind.wrap, IntKind.bits, IntKind.signed]; omega
      have hwi : IntKind.i64.wrap (i : Int) = (i : Int) := IntWalk.i64_in _ (by omega)
      have hwm : IntKind.i64.wrap (mm : Int) = (mm : Int) := IntWalk.i64_in _ (by omega)
      have hw1 : IntKind.i64.wrap ((i : Int) + 1) = ((i + 1 : Nat) : Int) := by rw [IntWalk.i64_in _ (by omega)]; omega
      have hst := Lib.hid (dat_step i hlt)
      have hdl := dat_len (i + 1)
      have hni : ¬ 40 = i := by omega
      go_upto_region 6 with fail
      refine wl_lit ?_
      refine runL 18 (.slice (some ⟨q1, 0, none⟩) 40 40) rfl (by rfl) (by go_simp) ?_
      simp only [List.set_cons_zero, List.set_cons_succ]
      refine runL 19 (.int .i64 (i : Int)) rfl (by rfl) (by go_simp) ?_
      simp only [List.set_cons_zero, List.set_cons_succ]
      refine runL 20 (.int .i64 (i : Int)) rfl (by rfl) (by go_simp) ?_
      simp only [List.set_cons_zero, List.set_cons_succ]
      refine runL 21 (.int .u8 ((i : Nat) : Int)) rfl (by rfl) (by go_simp) ?_
      simp only [List.set_cons_zero, List.set_cons_succ]
      refine runL 22 (.pointer (some ⟨q1, i, none⟩)) rfl (by rfl) (by go_simp) ?_
      simp only [List.set_cons_zero, List.set_cons_succ]
      refine runSL (wr.setCell ⟨q1, i, none⟩ (.int .u8 ((i : Nat) : Int))) rfl (by rfl) (exec_storeCell 5 (.tmp 22) (.tmp 21) rfl q1 i rfl (.int .u8 ((i : Nat) : Int)) rfl rfl rfl 5 (va .u8 (dat i)) hq1 (by rw [va_size, (dat_len _)]; exact (by exact hlt)) (by kernel_rfl)) ?_
      replace hp1 := hp1.far (p := ⟨q1, i, none⟩) (show p1 ≠ q1 from (by omega)) (.int .u8 ((i : Nat) : Int))
      replace hq1 : Blk (wr.setCell ⟨q1, i, none⟩ (.int .u8 ((i : Nat) : Int))) q1 5 (va .u8 (dat (i + 1))) := by rw [← hst.out]; exact hq1.setNum i (i)
      replace hW := hW.setCell (p := ⟨q1, i, none⟩) lw_q1 (.int .u8 ((i : Nat) : Int))
      generalize wr.setCell ⟨q1, i, none⟩ (.int .u8 ((i : Nat) : Int)) = w4 at *
      refine nilL ?_
      go_upto_region 7 with fail
      refine wp_region_held_drew (S := fun wr => Blk wr p1 28 (kV kK 7 cM) ∧ Blk wr q1 5 (va .u8 (dat (i + 1))) ∧ Below B0 w wr) (by kernel_rfl) ⟨hp1.drew, hq1.drew, below_drewN hW 1⟩ (fun hH => ?_)
      clear hp1 hq1 hW
      obtain ⟨hp1, hq1, hW⟩ := hH
      generalize w4.drew = w5 at *
      refine takeH 29 0 23 (.agg (kV kK 7 cM)) rfl rfl (by kernel_rfl) (by kernel_rfl) (by kernel_rfl) (fun _ _ _ h => h) (Or.inl ⟨by rfl, fun _ h => exec_row 28 (.tmp 1) rfl p1 rfl 28 (kV kK 7 cM) _ h.1 (by exact Try.underlying28) rfl (kV_sz _ _ _ rfl)⟩) ⟨hp1, hq1, hW⟩ ?_
      simp only [List.set_cons_zero, List.set_cons_succ]
      refine takeH 28 1 24 (.int .i64 (i : Int)) rfl rfl (by kernel_rfl) (by kernel_rfl) (by kernel_rfl) (fun _ _ _ h => h) (Or.inl ⟨by rfl, fun w _ => by go_simp⟩) ⟨hp1, hq1, hW⟩ ?_
      simp only [List.set_cons_zero, List.set_cons_succ]
      refine takeH 27 2 25 (.slice (some ⟨q1, 0, none⟩) 40 40) rfl rfl (by kernel_rfl) (by kernel_rfl) (by kernel_rfl) (fun _ _ _ h => h) (Or.inl ⟨by rfl, fun w _ => by go_simp⟩) ⟨hp1, hq1, hW⟩ ?_
      simp only [List.set_cons_zero, List.set_cons_succ]
      refine takeH 26 3 26 (.int .i64 (i : Int)) rfl rfl (by kernel_rfl) (by kernel_rfl) (by kernel_rfl) (fun _ _ _ h => h) (Or.inl ⟨by rfl, fun w _ => by go_simp⟩) ⟨hp1, hq1, hW⟩ ?_
      simp only [List.set_cons_zero, List.set_cons_succ]
      refine takeH 25 4 27 (.slice (some ⟨q1, 0, none⟩) i 40) rfl rfl (by kernel_rfl) (by kernel_rfl) (by kernel_rfl) (fun _ _ _ h => h) (Or.inl ⟨by rfl, fun w _ => by go_simp⟩) ⟨hp1, hq1, hW⟩ ?_
      simp only [List.set_cons_zero, List.set_cons_succ]
      refine wpAnyH_ready (by kernel_rfl) (by simp) (readyCons 24 5 28 rfl rfl (by rfl) (fun K hK => wp_callF 6 #[.agg (kV kK 7 cM), .int .i64 (i : Int), .slice (some ⟨q1, 0, none⟩) i 40] (by go_simp) (lawSXor_any kK 7 cM (i : Int) i 40 _ rfl byt_kK (by decide) (by decide) (by omega) (((dat_byt _).drop _).take _) _ _ _ (hq1.reads (Nat.lt_succ_self _) 0 i (by omega)) hq1.lt) ?_) AllReadyH.nil)
      rintro e w6 ⟨rfl, bx⟩
      replace hp1 := hp1.below bx hp1.lt
      replace hq1 := hq1.below bx hq1.lt
      replace hW := hW.trans (bx.mono (Nat.le_trans hB0 hW.size))
      clear bx
      refine ⟨_, rfl, hK.out _ _ ⟨hp1, hq1, hW⟩ (fun _ => ?_)⟩
      clear hK K
      simp only [List.set_cons_zero, List.set_cons_succ]
      refine takeH 23 6 29 (.bool false) rfl rfl (by kernel_rfl) (by kernel_rfl) (by kernel_rfl) (fun _ _ _ h => h) (Or.inl ⟨by rfl, fun w _ => by go_simp⟩) ⟨hp1, hq1, hW⟩ ?_
      simp only [List.set_cons_zero, List.set_cons_succ]
      refine takeH 22 7 30 (.bool false) rfl rfl (by kernel_rfl) (by kernel_rfl) (by kernel_rfl) (fun _ _ _ h => h) (Or.inl ⟨by rfl, fun w _ => by go_simp⟩) ⟨hp1, hq1, hW⟩ ?_
      simp only [List.set_cons_zero, List.set_cons_succ]
      refine takeH 21 8 31 (.agg (kV kK 7 cM)) rfl rfl (by kernel_rfl) (by kernel_rfl) (by kernel_rfl) (fun _ _ _ h => h) (Or.inl ⟨by rfl, fun _ h => exec_row 28 (.tmp 1) rfl p1 rfl 28 (kV kK 7 cM) _ h.1 (by exact Try.underlying28) rfl (kV_sz _ _ _ rfl)⟩) ⟨hp1, hq1, hW⟩ ?_
      simp only [List.set_cons_zero, List.set_cons_succ]
      refine takeH 20 9 32 (.int .i64 (i : Int)) rfl rfl (by kernel_rfl) (by kernel_rfl) (by kernel_rfl) (fun _ _ _ h => h) (Or.inl ⟨by rfl, fun w _ => by go_simp⟩) ⟨hp1, hq1, hW⟩ ?_
      simp only [List.set_cons_zero, List.set_cons_succ]
      refine takeH 19 10 33 (.int .u16 (i : Int)) rfl rfl (by kernel_rfl) (by kernel_rfl) (by kernel_rfl) (fun _ _ _ h => h) (Or.inl ⟨by rfl, fun w _ => by go_simp⟩) ⟨hp1, hq1, hW⟩ ?_
      simp only [List.set_cons_zero, List.set_cons_succ]
      refine takeH 18 11 34 (.slice (some ⟨q1, 0, none⟩) 40 40) rfl rfl (by kernel_rfl) (by kernel_rfl) (by kernel_rfl) (fun _ _ _ h => h) (Or.inl ⟨by rfl, fun w _ => by go_simp⟩) ⟨hp1, hq1, hW⟩ ?_
      simp only [List.set_cons_zero, List.set_cons_succ]
      refine takeH 17 12 35 (.int .i64 (i : Int)) rfl rfl (by kernel_rfl) (by kernel_rfl) (by kernel_rfl) (fun _ _ _ h => h) (Or.inl ⟨by rfl, fun w _ => by go_simp⟩) ⟨hp1, hq1, hW⟩ ?_
      simp only [List.set_cons_zero, List.set_cons_succ]
      refine takeH 16 13 36 (.slice (some ⟨q1, 0, none⟩) i 40) rfl rfl (by kernel_rfl) (by kernel_rfl) (by kernel_rfl) (fun _ _ _ h => h) (Or.inl ⟨by rfl, fun w _ => by go_simp⟩) ⟨hp1, hq1, hW⟩ ?_
      simp only [List.set_cons_zero, List.set_cons_succ]
      refine takeH 15 14 37 (.slice (some ⟨q1, 0, none⟩) 40 40) rfl rfl (by kernel_rfl) (by kernel_rfl) (by kernel_rfl) (fun _ _ _ h => h) (Or.inl ⟨by rfl, fun w _ => by go_simp⟩) ⟨hp1, hq1, hW⟩ ?_
      simp only [List.set_cons_zero, List.set_cons_succ]
      refine takeH 14 15 38 (.int .i64 (i : Int)) rfl rfl (by kernel_rfl) (by kernel_rfl) (by kernel_rfl) (fun _ _ _ h => h) (Or.inl ⟨by rfl, fun w _ => by go_simp⟩) ⟨hp1, hq1, hW⟩ ?_
      simp only [List.set_cons_zero, List.set_cons_succ]
      refine takeH 13 16 39 (.slice (some ⟨q1, i, none⟩) mm mm) rfl rfl (by kernel_rfl) (by kernel_rfl) (by kernel_rfl) (fun _ _ _ h => h) (Or.inl ⟨by rfl, fun w _ => by go_simp⟩) ⟨hp1, hq1, hW⟩ ?_
      simp only [List.set_cons_zero, List.set_cons_succ]
      refine takeH 12 17 40 (.agg (#[.slice (some ⟨q1, 0, none⟩) i 40, .slice (some ⟨q1, i, none⟩) mm mm])) rfl rfl (by kernel_rfl) (by kernel_rfl) (by kernel_rfl) (fun _ _ _ h => h) (Or.inl ⟨by rfl, fun _ _ => exec_build 47 _ rfl (#[.slice (some ⟨q1, 0, none⟩) i 40, .slice (some ⟨q1, i, none⟩) mm mm]) (by kernel_rfl)⟩) ⟨hp1, hq1, hW⟩ ?_
      simp only [List.set_cons_zero, List.set_cons_succ]
      refine wpAnyH_ready (by kernel_rfl) (by simp) (readyCons 11 18 41 rfl rfl (by rfl) (fun K hK => wp_callF 7 #[.agg (kV kK 7 cM), .int .u16 (i : Int), .agg (#[.slice (some ⟨q1, 0, none⟩) i 40, .slice (some ⟨q1, i, none⟩) mm mm])] (by go_simp) (lawSParts_any kK 7 cM i rfl byt_kK (by decide) (by omega) _ i 40 _ _ (((dat_byt _).drop _).take _) _ mm mm _ _ (((dat_byt _).drop _).take _) _ (hq1.reads (Nat.lt_succ_self _) 0 i (by omega)) hq1.lt (hq1.reads (Nat.lt_succ_self _) i mm (by omega)) hq1.lt) ?_) AllReadyH.nil)
      rintro e w7 ⟨rfl, bx⟩
      replace hp1 := hp1.below bx hp1.lt
      replace hq1 := hq1.below bx hq1.lt
      replace hW := hW.trans (bx.mono (Nat.le_trans hB0 hW.size))
      clear bx
      refine ⟨_, rfl, hK.out _ _ ⟨hp1, hq1, hW⟩ (fun _ => ?_)⟩
      clear hK K
      simp only [List.set_cons_zero, List.set_cons_succ]
      refine takeH 10 19 42 (.bool false) rfl rfl (by kernel_rfl) (by kernel_rfl) (by kernel_rfl) (fun _ _ _ h => h) (Or.inl ⟨by rfl, fun w _ => by go_simp⟩) ⟨hp1, hq1, hW⟩ ?_
      simp only [List.set_cons_zero, List.set_cons_succ]
      refine takeH 9 20 43 (.bool false) rfl rfl (by kernel_rfl) (by kernel_rfl) (by kernel_rfl) (fun _ _ _ h => h) (Or.inl ⟨by rfl, fun w _ => by go_simp⟩) ⟨hp1, hq1, hW⟩ ?_
      simp only [List.set_cons_zero, List.set_cons_succ]
      refine takeH 8 21 44 (.bool false) rfl rfl (by kernel_rfl) (by kernel_rfl) (by kernel_rfl) (fun _ _ _ h => h) (Or.inl ⟨by rfl, fun w _ => by go_simp⟩) ⟨hp1, hq1, hW⟩ ?_
      simp only [List.set_cons_zero, List.set_cons_succ]
      refine takeH 7 22 45 (.pointer (some ⟨p1, 16, none⟩)) rfl rfl (by kernel_rfl) (by kernel_rfl) (by kernel_rfl) (fun _ _ _ h => h) (Or.inl ⟨by rfl, fun w _ => by go_simp⟩) ⟨hp1, hq1, hW⟩ ?_
      simp only [List.set_cons_zero, List.set_cons_succ]
      refine takeH 6 23 46 (.agg (noV 7 cM)) rfl rfl (by kernel_rfl) (by kernel_rfl) (by kernel_rfl) (fun _ _ _ h => h) (Or.inl ⟨by rfl, fun _ h => exec_mid 26 (.tmp 45) rfl p1 16 rfl (noV 7 cM).toList _ (kV_no h.1 rfl) (by exact Try.underlying26) rfl (by kernel_rfl)⟩) ⟨hp1, hq1, hW⟩ ?_
      simp only [List.set_cons_zero, List.set_cons_succ]
      refine takeH 5 24 47 (.int .i64 (i : Int)) rfl rfl (by kernel_rfl) (by kernel_rfl) (by kernel_rfl) (fun _ _ _ h => h) (Or.inl ⟨by rfl, fun w _ => by go_simp⟩) ⟨hp1, hq1, hW⟩ ?_
      simp only [List.set_cons_zero, List.set_cons_succ]
      refine takeH 4 25 48 (.int .i64 (i : Int)) rfl rfl (by kernel_rfl) (by kernel_rfl) (by kernel_rfl) (fun _ _ _ h => h) (Or.inl ⟨by rfl, fun w _ => by go_simp⟩) ⟨hp1, hq1, hW⟩ ?_
      simp only [List.set_cons_zero, List.set_cons_succ]
      refine takeH 3 26 49 (.int .i64 (mm : Int)) rfl rfl (by kernel_rfl) (by kernel_rfl) (by kernel_rfl) (fun _ _ _ h => h) (Or.inl ⟨by rfl, fun w _ => by go_simp⟩) ⟨hp1, hq1, hW⟩ ?_
      simp only [List.set_cons_zero, List.set_cons_succ]
      refine wpAnyH_ready (by kernel_rfl) (by simp) (readyCons 2 27 50 rfl rfl (by rfl) (fun K hK => wp_callF 4 #[.agg (noV 7 cM), .int .i64 (i : Int), .int .i64 (mm : Int)] (by go_simp) (lawSUsed_any 7 cM (i : Int) (mm : Int) (by omega) (by omega) _) ?_) AllReadyH.nil)
      rintro e w8 ⟨rfl, bx⟩
      replace hp1 := hp1.below bx hp1.lt
      replace hq1 := hq1.below bx hq1.lt
      replace hW := hW.trans (bx.mono (Nat.le_trans hB0 hW.size))
      clear bx
      refine ⟨_, rfl, hK.out _ _ ⟨hp1, hq1, hW⟩ (fun _ => ?_)⟩
      clear hK K
      simp only [List.set_cons_zero, List.set_cons_succ]
      refine takeH 1 28 51 (.bool false) rfl rfl (by kernel_rfl) (by kernel_rfl) (by kernel_rfl) (fun _ _ _ h => h) (Or.inl ⟨by rfl, fun w _ => by go_simp⟩) ⟨hp1, hq1, hW⟩ ?_
      simp only [List.set_cons_zero, List.set_cons_succ]
      refine takeH 0 29 52 (.bool false) rfl rfl (by kernel_rfl) (by kernel_rfl) (by kernel_rfl) (fun _ _ _ h => h) (Or.inl ⟨by rfl, fun w _ => by go_simp⟩) ⟨hp1, hq1, hW⟩ ?_
      simp only [List.set_cons_zero, List.set_cons_succ]
      refine wpAnyH_done (by kernel_rfl) ?_ _
      go_wp2
      go_roundw
      case rel => exact ⟨i + 1, by omega, by go_num, hp1, hq1, hW⟩
      case measure => simp [intOf]; omega
    ·
      have hi40 : i = 40 := by omega
      have hltI : ¬ (i : Int) < 40 := by omega
      rw [hi40] at hq1
      clear hi40 hlt
      obtain ⟨r, hrr⟩ : ∃ r, kxor kK 7 cM 1048536 (dat 40) = r := ⟨_, rfl⟩
      have hqr := Lib.hid hrr
      clear hrr
      go_upto_region 9 with fail
      refine wl_lit ?_
      refine runL 54 (.pointer (some ⟨p1, 0, none⟩)) rfl (by rfl) (by go_simp) ?_
      simp only [List.set_cons_zero, List.set_cons_succ]
      refine runL 55 (.agg (va .u8 (kK))) rfl (by rfl) (exec_mid 22 (.tmp 54) rfl p1 0 rfl (nv .u8 kK) _ (kV_key hp1 rfl) Try.underlying22 rfl (sz16L _ rfl)) ?_
      simp only [List.set_cons_zero, List.set_cons_succ]
      refine runL 56 (.pointer (some ⟨p1, 16, none⟩)) rfl (by rfl) (by go_simp) ?_
      simp only [List.set_cons_zero, List.set_cons_succ]
      refine runL 57 (.agg (noV 7 cM)) rfl (by rfl) (exec_mid 26 (.tmp 56) rfl p1 16 rfl (noV 7 cM).toList _ (kV_no hp1 rfl) (by exact Try.underlying26) rfl (by kernel_rfl)) ?_
      simp only [List.set_cons_zero, List.set_cons_succ]
      refine runL 58 (.slice (some ⟨q1, 0, none⟩) 40 40) rfl (by rfl) (by go_simp) ?_
      simp only [List.set_cons_zero, List.set_cons_succ]
      refine callL 59 rfl (by rfl) (fun K hK => wp_callF 15 #[.agg (va .u8 (kK)), .agg (noV 7 cM), .int .i64 1048536, .slice (some ⟨q1, 0, none⟩) 40 40] (by go_simp) (xor_any7 kK 7 cM 1048536 40 (dat 40) r hqr.out rfl byt_kK (by decide) (dat_len _) (dat_byt _) (by decide) _ 40 _ _ (hq1.readsAll (Nat.lt_succ_self _) (dat_len _)) hq1.lt) ?_)
      rintro e w9 ⟨AX, rfl, hAX, bx⟩
      replace hAX := hAX.mono (Nat.le_trans hB0 hW.size)
      replace hp1 := hp1.below bx hp1.lt
      replace hq1 := hq1.below bx hq1.lt
      replace hW := hW.trans (bx.mono (Nat.le_trans hB0 hW.size))
      clear bx
      refine ⟨_, rfl, hK.out _ _ ?_⟩
      clear hK K
      simp only [List.set_cons_zero, List.set_cons_succ]
      refine runL 53 (.tuple #[.slice (AX) 40 40, .int .i64 0]) rfl (by rfl) (by go_simp) ?_
      simp only [List.set_cons_zero, List.set_cons_succ]
      refine runL 60 (.slice (AX) 40 40) rfl (by rfl) (by go_simp) ?_
      simp only [List.set_cons_zero, List.set_cons_succ]
      refine runL 61 (.int .i64 0) rfl (by rfl) (by go_simp) ?_
      simp only [List.set_cons_zero, List.set_cons_succ]
      refine runL 4 (.slice (AX) 40 40) rfl (by rfl) (by go_simp) ?_
      simp only [List.set_cons_zero, List.set_cons_succ]
      refine runL 5 (.int .i64 0) rfl (by rfl) (by go_simp) ?_
      simp only [List.set_cons_zero, List.set_cons_succ]
      refine nilL ?_
      go_upto_region 10 with fail
      refine wl_lit ?_
      refine runL 63 (.pointer (some ⟨p1, 0, none⟩)) rfl (by rfl) (by go_simp) ?_
      simp only [List.set_cons_zero, List.set_cons_succ]
      refine runL 64 (.agg (va .u8 (kK))) rfl (by rfl) (exec_mid 22 (.tmp 63) rfl p1 0 rfl (nv .u8 kK) _ (kV_key hp1 rfl) Try.underlying22 rfl (sz16L _ rfl)) ?_
      simp only [List.set_cons_zero, List.set_cons_succ]
      refine runL 65 (.pointer (some ⟨p1, 16, none⟩)) rfl (by rfl) (by go_simp) ?_
      simp only [List.set_cons_zero, List.set_cons_succ]
      refine runL 66 (.agg (noV 7 cM)) rfl (by rfl) (exec_mid 26 (.tmp 65) rfl p1 16 rfl (noV 7 cM).toList _ (kV_no hp1 rfl) (by exact Try.underlying26) rfl (by kernel_rfl)) ?_
      simp only [List.set_cons_zero, List.set_cons_succ]
      refine callL 67 rfl (by rfl) (fun K hK => wp_callF 15 #[.agg (va .u8 (kK)), .agg (noV 7 cM), .int .i64 1048576, .slice none 0 0] (by go_simp) (xor_none kK 7 cM 1048576 0 0 0 rfl (by decide) (.inr rfl) (by decide) (by decide) none _) ?_)
      rintro e w10 ⟨rfl, bx⟩
      replace hp1 := hp1.below bx hp1.lt
      replace hq1 := hq1.below bx hq1.lt
      replace hAX := hAX.below bx
      replace hW := hW.trans (bx.mono (Nat.le_trans hB0 hW.size))
      clear bx
      refine ⟨_, rfl, hK.out _ _ ?_⟩
      clear hK K
      simp only [List.set_cons_zero, List.set_cons_succ]
      refine runL 62 (.tuple #[.slice none 0 0, .int .i64 0]) rfl (by rfl) (by go_simp) ?_
      simp only [List.set_cons_zero, List.set_cons_succ]
      refine runL 68 (.slice none 0 0) rfl (by rfl) (by go_simp) ?_
      simp only [List.set_cons_zero, List.set_cons_succ]
      refine runL 69 (.int .i64 0) rfl (by rfl) (by go_simp) ?_
      simp only [List.set_cons_zero, List.set_cons_succ]
      refine runL 6 (.slice none 0 0) rfl (by rfl) (by go_simp) ?_
      simp only [List.set_cons_zero, List.set_cons_succ]
      refine runL 7 (.int .i64 0) rfl (by rfl) (by go_simp) ?_
      simp only [List.set_cons_zero, List.set_cons_succ]
      refine nilL ?_
      go_upto_region 11 with fail
      refine wl_lit ?_
      refine runL 71 (.pointer (some ⟨p1, 0, none⟩)) rfl (by rfl) (by go_simp) ?_
      simp only [List.set_cons_zero, List.set_cons_succ]
      refine runL 72 (.agg (va .u8 (kK))) rfl (by rfl) (exec_mid 22 (.tmp 71) rfl p1 0 rfl (nv .u8 kK) _ (kV_key hp1 rfl) Try.underlying22 rfl (sz16L _ rfl)) ?_
      simp only [List.set_cons_zero, List.set_cons_succ]
      refine runL 73 (.pointer (some ⟨p1, 16, none⟩)) rfl (by rfl) (by go_simp) ?_
      simp only [List.set_cons_zero, List.set_cons_succ]
      refine runL 74 (.agg (noV 7 cM)) rfl (by rfl) (exec_mid 26 (.tmp 73) rfl p1 16 rfl (noV 7 cM).toList _ (kV_no hp1 rfl) (by exact Try.underlying26) rfl (by kernel_rfl)) ?_
      simp only [List.set_cons_zero, List.set_cons_succ]
      refine callL 75 rfl (by rfl) (fun K hK => wp_callF 15 #[.agg (va .u8 (kK)), .agg (noV 7 cM), .int .i64 1048577, .slice none 0 0] (by go_simp) (xor_none kK 7 cM 1048577 3 0 0 rfl (by decide) (.inl (by decide)) (by decide) (by decide) none _) ?_)
      rintro e w11 ⟨rfl, bx⟩
      replace hp1 := hp1.below bx hp1.lt
      replace hq1 := hq1.below bx hq1.lt
      replace hAX := hAX.below bx
      replace hW := hW.trans (bx.mono (Nat.le_trans hB0 hW.size))
      clear bx
      refine ⟨_, rfl, hK.out _ _ ?_⟩
      clear hK K
      simp only [List.set_cons_zero, List.set_cons_succ]
      refine runL 70 (.tuple #[.slice none 0 0, .int .i64 3]) rfl (by rfl) (by go_simp) ?_
      simp only [List.set_cons_zero, List.set_cons_succ]
      refine runL 76 (.slice none 0 0) rfl (by rfl) (by go_simp) ?_
      simp only [List.set_cons_zero, List.set_cons_succ]
      refine runL 77 (.int .i64 3) rfl (by rfl) (by go_simp) ?_
      simp only [List.set_cons_zero, List.set_cons_succ]
      refine runL 8 (.slice none 0 0) rfl (by rfl) (by go_simp) ?_
      simp only [List.set_cons_zero, List.set_cons_succ]
      refine runL 9 (.int .i64 3) rfl (by rfl) (by go_simp) ?_
      simp only [List.set_cons_zero, List.set_cons_succ]
      refine nilL ?_
      go_upto_region 12 with fail
      refine wl_lit ?_
      refine runL 78 (.slice (AX) 40 40) rfl (by rfl) (by go_simp) ?_
      simp only [List.set_cons_zero, List.set_cons_succ]
      refine runL 79 (.int .i64 0) rfl (by rfl) (by go_simp) ?_
      simp only [List.set_cons_zero, List.set_cons_succ]
      refine runL 80 (.pointer (some ⟨p1, 0, none⟩)) rfl (by rfl) (by go_simp) ?_
      simp only [List.set_cons_zero, List.set_cons_succ]
      refine runL 81 (.agg (va .u8 (kK))) rfl (by rfl) (exec_mid 22 (.tmp 80) rfl p1 0 rfl (nv .u8 kK) _ (kV_key hp1 rfl) Try.underlying22 rfl (sz16L _ rfl)) ?_
      simp only [List.set_cons_zero, List.set_cons_succ]
      refine runL 82 (.pointer (some ⟨p1, 16, none⟩)) rfl (by rfl) (by go_simp) ?_
      simp only [List.set_cons_zero, List.set_cons_succ]
      refine runL 83 (.agg (noV 7 cM)) rfl (by rfl) (exec_mid 26 (.tmp 82) rfl p1 16 rfl (noV 7 cM).toList _ (kV_no hp1 rfl) (by exact Try.underlying26) rfl (by kernel_rfl)) ?_
      simp only [List.set_cons_zero, List.set_cons_succ]
      refine runL 84 (.slice (some ⟨q1, 0, none⟩) 40 40) rfl (by rfl) (by go_simp) ?_
      simp only [List.set_cons_zero, List.set_cons_succ]
      refine callL 85 rfl (by rfl) (fun K hK => wp_callF 17 #[.agg (va .u8 (kK)), .agg (noV 7 cM), .int .i64 1048536, .slice (some ⟨q1, 0, none⟩) 40 40] (by go_simp) (rxor_any kK 7 cM 1048536 40 (dat 40) rfl byt_kK (by decide) (by decide) (dat_len _) (dat_byt _) (by decide) _ 40 _ _ (hq1.readsAll (Nat.lt_succ_self _) (dat_len _)) hq1.lt) ?_)
      rintro e w12 ⟨AR, cR, rfl, hAR, bx⟩
      replace hAR := hAR.mono (Nat.le_trans hB0 hW.size)
      replace hp1 := hp1.below bx hp1.lt
      replace hq1 := hq1.below bx hq1.lt
      replace hAX := hAX.below bx
      replace hW := hW.trans (bx.mono (Nat.le_trans hB0 hW.size))
      clear bx
      rw [hqr.out] at hAR
      refine ⟨_, rfl, hK.out _ _ ?_⟩
      clear hK K
      simp only [List.set_cons_zero, List.set_cons_succ]
      refine callL 86 rfl (by rfl) (fun K hK => wp_callF 16 #[.slice (AX) 40 40, .int .i64 0, .slice (AR) 40 cR, .int .i64 0] (by go_simp) (same07_any r AX 40 _ AR cR _ 0 _ hAX.reads (Nat.le_refl _) hAR.reads (Nat.le_refl _)) ?_)
      rintro e w13 ⟨rfl, bx⟩
      replace hp1 := hp1.below bx hp1.lt
      replace hq1 := hq1.below bx hq1.lt
      replace hAX := hAX.below bx
      replace hAR := hAR.below bx
      replace hW := hW.trans (bx.mono (Nat.le_trans hB0 hW.size))
      clear bx
      refine ⟨_, rfl, hK.out _ _ ?_⟩
      clear hK K
      simp only [List.set_cons_zero, List.set_cons_succ]
      refine runL 87 (.bool true) rfl (by rfl) (by go_simp) ?_
      simp only [List.set_cons_zero, List.set_cons_succ]
      refine runL 88 (.slice none 0 0) rfl (by rfl) (by go_simp) ?_
      simp only [List.set_cons_zero, List.set_cons_succ]
      refine runL 89 (.int .i64 0) rfl (by rfl) (by go_simp) ?_
      simp only [List.set_cons_zero, List.set_cons_succ]
      refine callL 90 rfl (by rfl) (fun K hK => wp_callF 16 #[.slice none 0 0, .int .i64 0, .slice none 0 0, .int .i64 0] (by go_simp) (same07_any [] none 0 0 none 0 0 0 _ Reads.none_ (Nat.zero_le _) Reads.none_ (Nat.zero_le _)) ?_)
      rintro e w14 ⟨rfl, bx⟩
      replace hp1 := hp1.below bx hp1.lt
      replace hq1 := hq1.below bx hq1.lt
      replace hAX := hAX.below bx
      replace hAR := hAR.below bx
      replace hW := hW.trans (bx.mono (Nat.le_trans hB0 hW.size))
      clear bx
      refine ⟨_, rfl, hK.out _ _ ?_⟩
      clear hK K
      simp only [List.set_cons_zero, List.set_cons_succ]
      refine runL 91 (.bool true) rfl (by rfl) (by go_simp) ?_
      simp only [List.set_cons_zero, List.set_cons_succ]
      refine runL 92 (.bool true) rfl (by rfl) (by go_simp) ?_
      simp only [List.set_cons_zero, List.set_cons_succ]
      refine runL 93 (.slice none 0 0) rfl (by rfl) (by go_simp) ?_
      simp only [List.set_cons_zero, List.set_cons_succ]
      refine runL 94 (.int .i64 3) rfl (by rfl) (by go_simp) ?_
      simp only [List.set_cons_zero, List.set_cons_succ]
      refine callL 95 rfl (by rfl) (fun K hK => wp_callF 16 #[.slice none 0 0, .int .i64 3, .slice none 0 0, .int .i64 3] (by go_simp) (same07_any [] none 0 0 none 0 0 3 _ Reads.none_ (Nat.zero_le _) Reads.none_ (Nat.zero_le _)) ?_)
      rintro e w15 ⟨rfl, bx⟩
      replace hp1 := hp1.below bx hp1.lt
      replace hq1 := hq1.below bx hq1.lt
      replace hAX := hAX.below bx
      replace hAR := hAR.below bx
      replace hW := hW.trans (bx.mono (Nat.le_trans hB0 hW.size))
      clear bx
      refine ⟨_, rfl, hK.out _ _ ?_⟩
      clear hK K
      simp only [List.set_cons_zero, List.set_cons_succ]
      refine runL 96 (.bool true) rfl (by rfl) (by go_simp) ?_
      simp only [List.set_cons_zero, List.set_cons_succ]
      refine runL 97 (.bool true) rfl (by rfl) (by go_simp) ?_
      simp only [List.set_cons_zero, List.set_cons_succ]
      refine runL 98 (.agg (kV kK 7 cM)) rfl (by rfl) (exec_row 28 (.tmp 1) rfl p1 rfl 28 (kV kK 7 cM) _ hp1 (by exact Try.underlying28) rfl (kV_sz _ _ _ rfl)) ?_
      simp only [List.set_cons_zero, List.set_cons_succ]
      refine runL 99 (.slice (some ⟨q1, 0, none⟩) 40 40) rfl (by rfl) (by go_simp) ?_
      simp only [List.set_cons_zero, List.set_cons_succ]
      refine callL 100 rfl (by rfl) (fun K hK => wp_callF 6 #[.agg (kV kK 7 cM), .int .i64 1048537, .slice (some ⟨q1, 0, none⟩) 40 40] (by go_simp) (lawSXor_any kK 7 cM 1048537 40 40 (dat 40) rfl byt_kK (by decide) (by decide) (by decide) (dat_byt _) _ _ _ (hq1.readsAll (Nat.lt_succ_self _) (dat_len _)) hq1.lt) ?_)
      rintro e w16 ⟨rfl, bx⟩
      replace hp1 := hp1.below bx hp1.lt
      replace hq1 := hq1.below bx hq1.lt
      replace hAX := hAX.below bx
      replace hAR := hAR.below bx
      replace hW := hW.trans (bx.mono (Nat.le_trans hB0 hW.size))
      clear bx
      refine ⟨_, rfl, hK.out _ _ ?_⟩
      clear hK K
      simp only [List.set_cons_zero, List.set_cons_succ]
      refine runL 101 (.bool true) rfl (by rfl) (by go_simp) ?_
      simp only [List.set_cons_zero, List.set_cons_succ]
      refine runL 102 (.bool true) rfl (by rfl) (by go_simp) ?_
      simp only [List.set_cons_zero, List.set_cons_succ]
      refine runL 103 (.pointer (some ⟨p1, 16, none⟩)) rfl (by rfl) (by go_simp) ?_
      simp only [List.set_cons_zero, List.set_cons_succ]
      refine runL 104 (.agg (noV 7 cM)) rfl (by rfl) (exec_mid 26 (.tmp 103) rfl p1 16 rfl (noV 7 cM).toList _ (kV_no hp1 rfl) (by exact Try.underlying26) rfl (by kernel_rfl)) ?_
      simp only [List.set_cons_zero, List.set_cons_succ]
      refine callL 105 rfl (by rfl) (fun K hK => wp_callF 4 #[.agg (noV 7 cM), .int .i64 1048576, .int .i64 0] (by go_simp) (lawSUsed_any 7 cM 1048576 0 (by decide) (by decide) _) ?_)
      rintro e w17 ⟨rfl, bx⟩
      replace hp1 := hp1.below bx hp1.lt
      replace hq1 := hq1.below bx hq1.lt
      replace hAX := hAX.below bx
      replace hAR := hAR.below bx
      replace hW := hW.trans (bx.mono (Nat.le_trans hB0 hW.size))
      clear bx
      refine ⟨_, rfl, hK.out _ _ ?_⟩
      clear hK K
      simp only [List.set_cons_zero, List.set_cons_succ]
      refine runL 106 (.bool true) rfl (by rfl) (by go_simp) ?_
      simp only [List.set_cons_zero, List.set_cons_succ]
      refine runL 107 (.bool true) rfl (by rfl) (by go_simp) ?_
      simp only [List.set_cons_zero, List.set_cons_succ]
      refine runL 108 (.pointer (some ⟨p1, 16, none⟩)) rfl (by rfl) (by go_simp) ?_
      simp only [List.set_cons_zero, List.set_cons_succ]
      refine runL 109 (.agg (noV 7 cM)) rfl (by rfl) (exec_mid 26 (.tmp 108) rfl p1 16 rfl (noV 7 cM).toList _ (kV_no hp1 rfl) (by exact Try.underlying26) rfl (by kernel_rfl)) ?_
      simp only [List.set_cons_zero, List.set_cons_succ]
      refine callL 110 rfl (by rfl) (fun K hK => wp_callF 4 #[.agg (noV 7 cM), .int .i64 0, .int .i64 1048576] (by go_simp) (lawSUsed_any 7 cM 0 1048576 (by decide) (by decide) _) ?_)
      rintro e w18 ⟨rfl, bx⟩
      replace hp1 := hp1.below bx hp1.lt
      replace hq1 := hq1.below bx hq1.lt
      replace hAX := hAX.below bx
      replace hAR := hAR.below bx
      replace hW := hW.trans (bx.mono (Nat.le_trans hB0 hW.size))
      clear bx
      refine ⟨_, rfl, hK.out _ _ ?_⟩
      clear hK K
      simp only [List.set_cons_zero, List.set_cons_succ]
      refine runL 111 (.bool true) rfl (by rfl) (by go_simp) ?_
      simp only [List.set_cons_zero, List.set_cons_succ]
      refine runL 112 (.bool true) rfl (by rfl) (by go_simp) ?_
      simp only [List.set_cons_zero, List.set_cons_succ]
      refine callL 113 rfl (by rfl) (fun K hK => wp_callF 11 #[] (by go_simp) (lives_any7 _) ?_)
      rintro e w19 ⟨rfl, bx⟩
      replace hp1 := hp1.below bx hp1.lt
      replace hq1 := hq1.below bx hq1.lt
      replace hAX := hAX.below bx
      replace hAR := hAR.below bx
      replace hW := hW.trans (bx.mono (Nat.le_trans hB0 hW.size))
      clear bx
      refine ⟨_, rfl, hK.out _ _ ?_⟩
      clear hK K
      simp only [List.set_cons_zero, List.set_cons_succ]
      refine runL 114 (.bool true) rfl (by rfl) (by go_simp) ?_
      simp only [List.set_cons_zero, List.set_cons_succ]
      refine runL 0 (.bool true) rfl (by rfl) (by go_simp) ?_
      simp only [List.set_cons_zero]
      refine nilL ?_
      go_wp2_with fail
      go_ret
      exact ⟨rfl, hW⟩
end Go.Proofs.Ytpcdckhabaoieaa
