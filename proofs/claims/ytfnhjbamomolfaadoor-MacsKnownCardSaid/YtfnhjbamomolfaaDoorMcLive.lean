/-
  The walks of caissonlaw03: many, lives. (Printed by mk03.py.)
-/
import Derived.Test.YtfnhjbamomolfaaDoorRmac
import Derived.Test.YtfnhjbamomolfaaDoorMac3
import Derived.Test.YtfnhjbamomolfaaDoorMcIs
namespace Go.Proofs.YtfnhjbamomolfaaDoor
open Go.RowKit Sh

theorem w32_of (l : List Nat) (h : l.all (· < 4294967296) = true) : W32 l := by
  intro i
  rw [List.all_eq_true] at h
  rcases Nat.lt_or_ge i l.length with h0 | h0
  · have := h (l[i]) (List.getElem_mem h0)
    simp [List.getD_eq_getElem?_getD, h0]
    simpa using this
  · simp [List.getD_eq_getElem?_getD, List.getElem?_eq_none h0]
def kJefe : List Nat := [74, 101, 102, 101]
theorem bs_kJefe (W : World) : (Instr.buildSlice 22 4 #[(0, .int .u8 74), (1, .int .u8 101), (2, .int .u8 102), (3, .int .u8 101)]).run Tryd.prog W = .ok (.slice (some ⟨W.heap.size, 0, none⟩) 4 4) (W.alloc (.cells (va .u8 kJefe) 5)) := by
  obtain ⟨ie, hie, h0, h1, h2⟩ := info_parts byte_info
  refine run_buildSlice W _ 5 4 _ (va .u8 kJefe) ie _ Tryd.underlying22 hie h0 (by rw [h1]; decide) (by rw [h1]; decide) ?_
  rw [h1]; kernel_rfl
theorem byt_kJefe : Byt kJefe := fun x hx => by
  have h : kJefe.all (· < 256) = true := by decide
  rw [List.all_eq_true] at h; simpa using h x hx
def mWhat : List Nat := [119, 104, 97, 116, 32, 100, 111, 32, 121, 97, 32, 119, 97, 110, 116, 32, 102, 111, 114, 32, 110, 111, 116, 104, 105, 110, 103, 63]
theorem bs_mWhat (W : World) : (Instr.buildSlice 22 28 #[(0, .int .u8 119), (1, .int .u8 104), (2, .int .u8 97), (3, .int .u8 116), (4, .int .u8 32), (5, .int .u8 100), (6, .int .u8 111), (7, .int .u8 32), (8, .int .u8 121), (9, .int .u8 97), (10, .int .u8 32), (11, .int .u8 119), (12, .int .u8 97), (13, .int .u8 110), (14, .int .u8 116), (15, .int .u8 32), (16, .int .u8 102), (17, .int .u8 111), (18, .int .u8 114), (19, .int .u8 32), (20, .int .u8 110), (21, .int .u8 111), (22, .int .u8 116), (23, .int .u8 104), (24, .int .u8 105), (25, .int .u8 110), (26, .int .u8 103), (27, .int .u8 63)]).run Tryd.prog W = .ok (.slice (some ⟨W.heap.size, 0, none⟩) 28 28) (W.alloc (.cells (va .u8 mWhat) 5)) := by
  obtain ⟨ie, hie, h0, h1, h2⟩ := info_parts byte_info
  refine run_buildSlice W _ 5 28 _ (va .u8 mWhat) ie _ Tryd.underlying22 hie h0 (by rw [h1]; decide) (by rw [h1]; decide) ?_
  rw [h1]; kernel_rfl
theorem byt_mWhat : Byt mWhat := fun x hx => by
  have h : mWhat.all (· < 256) = true := by decide
  rw [List.all_eq_true] at h; simpa using h x hx
def mHi : List Nat := [72, 105, 32, 84, 104, 101, 114, 101]
theorem bs_mHi (W : World) : (Instr.buildSlice 22 8 #[(0, .int .u8 72), (1, .int .u8 105), (2, .int .u8 32), (3, .int .u8 84), (4, .int .u8 104), (5, .int .u8 101), (6, .int .u8 114), (7, .int .u8 101)]).run Tryd.prog W = .ok (.slice (some ⟨W.heap.size, 0, none⟩) 8 8) (W.alloc (.cells (va .u8 mHi) 5)) := by
  obtain ⟨ie, hie, h0, h1, h2⟩ := info_parts byte_info
  refine run_buildSlice W _ 5 8 _ (va .u8 mHi) ie _ Tryd.underlying22 hie h0 (by rw [h1]; decide) (by rw [h1]; decide) ?_
  rw [h1]; kernel_rfl
theorem byt_mHi : Byt mHi := fun x hx => by
  have h : mHi.all (· < 256) = true := by decide
  rw [List.all_eq_true] at h; simpa using h x hx
def dHi : List Nat := [2956217441, 3638245459, 1554558926, 2936795435, 2283651584, 3380821415, 652818284, 775081975]
theorem tag_dHi : hm (List.replicate 20 11) (mHi) = flat dHi := by decide +kernel
theorem w32_dHi : W32 dHi := w32_of _ (by decide)
def dJefe : List Nat := [1541194054, 3210769742, 1778656294, 144012743, 1509965576, 2636593539, 2649512121, 1693202499]
theorem tag_dJefe : hm (kJefe) (mWhat) = flat dJefe := by decide +kernel
theorem w32_dJefe : W32 dJefe := w32_of _ (by decide)

theorem ne_Jefe : decide (hm kJefe (mWhat.take 15) = hm kJefe mWhat) = false := by decide +kernel
/-- the bytes that are laid by many -/
def manyl (x n i : Nat) : List Nat := List.replicate i x ++ List.replicate (n - i) 0
theorem manyl_len (x n i : Nat) (hi : i ≤ n) : (manyl x n i).length = n := by simp [manyl]; omega
theorem manyl_step (x n i : Nat) (hi : i < n) : (manyl x n i).set i x = manyl x n (i + 1) := by
  unfold manyl
  rw [List.set_append_right _ _ (by simp), List.length_replicate, Nat.sub_self, show n - i = (n - (i + 1)) + 1 by omega, List.replicate_succ, List.set_cons_zero, List.replicate_succ', List.append_assoc]
  rfl

set_option maxRecDepth 8000 in
set_option maxHeartbeats 1000000 in
theorem many_any (n x : Nat) (hn : n < 1000000) (w : World) :
    Calls Tryd.prog 14 #[.int .i64 (n : Int), .int .u8 (x : Int)] w fun e w' => ∃ g, e = .returned (.slice (some ⟨g, 0, none⟩) n n) ∧ Blk w' g 5 (va .u8 (List.replicate n x)) ∧ w.heap.size ≤ g ∧ Below w.heap.size w w' := by
  obtain ⟨B0, hB0e⟩ : ∃ b, w.heap.size = b := ⟨_, rfl⟩
  rw [hB0e]
  have hW : Below B0 w w := by rw [← hB0e]; exact Below.refl _ _
  have hB0 : B0 ≤ w.heap.size := by omega
  have hB0q := Lib.hid hB0e
  clear hB0e
  go_enter Tryd.func14, Tryd.ntmps14
  go_upto_region 0 with fail
  refine wl_lit ?_
  refine runL 4 (.slice none 0 0) rfl (by rfl) (by go_simp) ?_
  simp only [List.set_cons_zero, List.set_cons_succ]
  refine nilL ?_
  go_upto_region 1 with fail
  refine wl_lit ?_
  refine runL 7 (.int .i64 (n : Int)) rfl (by rfl) (by go_simp) ?_
  simp only [List.set_cons_zero, List.set_cons_succ]
  refine runWL 8 (.slice (some ⟨w.heap.size, 0, none⟩) n n) (w.alloc (.cells (va .u8 (List.replicate n 0)) 5)) rfl (by rfl) (exec_makeB _ _ rfl n (by omega) rfl rfl) ?_
  simp only [List.set_cons_zero, List.set_cons_succ]
  have lw_q1 := Nat.le_trans hB0 hW.size
  have hq1 : Blk (w.alloc (.cells (va .u8 (List.replicate n 0)) 5)) w.heap.size 5 (va .u8 (List.replicate n 0)) := Blk.new _ _ _
  replace hW := hW.alloc (Nat.le_trans hB0 hW.size) (.cells (va .u8 (List.replicate n 0)) 5)
  generalize w.alloc (.cells (va .u8 (List.replicate n 0)) 5) = w1 at *
  generalize w.heap.size = q1 at hq1 lw_q1  ⊢
  refine runL 5 (.slice (some ⟨q1, 0, none⟩) n n) rfl (by rfl) (by go_simp) ?_
  simp only [List.set_cons_zero, List.set_cons_succ]
  refine nilL ?_
  go_upto_region 2 with fail
  refine wl_lit ?_
  refine runL 6 (.int .i64 0) rfl (by rfl) (by go_simp) ?_
  simp only [List.set_cons_zero, List.set_cons_succ]
  refine nilL ?_
  have hz : List.replicate n 0 = manyl x n 0 := by simp [manyl]
  rw [hz] at hq1
  clear hz
  go_wp2
  go_loopw [6] (fun s wr => ∃ i : Nat, i ≤ n ∧ s = .int .i64 (i : Int) ∧ Blk wr q1 5 (va .u8 (manyl x n i)) ∧ Below B0 w wr) (fun s _ => n - (intOf s).toNat)
  case atStart => exact ⟨0, by omega, rfl, hq1, hW⟩
  case round =>
    clear hq1 hW
    obtain ⟨i, hi, rfl, hq1, hW⟩ := hrel
    by_cases hlt : i < n
    ·
      have hltI : (i : Int) < (n : Int) := by omega
      go_upto_region 5 with fail
      refine wl_lit ?_
      refine runL 14 (.slice (some ⟨q1, 0, none⟩) n n) rfl (by rfl) (by go_simp) ?_
      simp only [List.set_cons_zero, List.set_cons_succ]
      refine runL 15 (.int .i64 (i : Int)) rfl (by rfl) (by go_simp) ?_
      simp only [List.set_cons_zero, List.set_cons_succ]
      refine runL 16 (.int .u8 (x : Int)) rfl (by rfl) (by go_simp) ?_
      simp only [List.set_cons_zero, List.set_cons_succ]
      refine runL 17 (.pointer (some ⟨q1, i, none⟩)) rfl (by rfl) (by go_simp) ?_
      simp only [List.set_cons_zero, List.set_cons_succ]
      refine runSL (wr.setCell ⟨q1, i, none⟩ (.int .u8 ((x : Nat) : Int))) rfl (by rfl) (exec_storeCell 5 (.tmp 17) (.tmp 16) rfl q1 i rfl (.int .u8 ((x : Nat) : Int)) rfl rfl rfl 5 (va .u8 (manyl x n i)) hq1 (by rw [va_size, ((manyl_len x n i hi))]; exact hlt) (by kernel_rfl)) ?_
      replace hq1 : Blk (wr.setCell ⟨q1, i, none⟩ (.int .u8 ((x : Nat) : Int))) q1 5 (va .u8 (manyl x n (i + 1))) := by rw [← manyl_step x n i hlt]; exact hq1.setNum i (x)
      replace hW := hW.setCell (p := ⟨q1, i, none⟩) lw_q1 (.int .u8 ((x : Nat) : Int))
      generalize wr.setCell ⟨q1, i, none⟩ (.int .u8 ((x : Nat) : Int)) = w2 at *
      refine nilL ?_
      go_wp2
      go_roundw
      case rel => exact ⟨i + 1, by omega, by go_num, hq1, hW⟩
      case measure => simp [intOf]; omega
    ·
      obtain rfl : n = i := by omega
      have hz : manyl x n n = List.replicate n x := by simp [manyl]
      rw [hz] at hq1
      clear hz
      go_upto_region 6 with fail
      refine wl_lit ?_
      refine runL 18 (.slice (some ⟨q1, 0, none⟩) n n) rfl (by rfl) (by go_simp) ?_
      simp only [List.set_cons_zero, List.set_cons_succ]
      refine runL 4 (.slice (some ⟨q1, 0, none⟩) n n) rfl (by rfl) (by go_simp) ?_
      simp only [List.set_cons_zero, List.set_cons_succ]
      refine nilL ?_
      go_wp2_with fail
      go_ret
      exact ⟨_, rfl, hq1, lw_q1, hW⟩

theorem macof_to (key m : List Nat) (A : Option Addr) (n c B : Nat) (ms : List (List Nat)) (hms : ms.flatten = m) (A2 : Option Addr) (n2 c2 B2 : Nat) (hk : Byt key) (hnc : n ≤ c) (hn : n < 100000) (hn2 : n2 < 1000) (hlen : m.length < 100000) (w : World) (hg : Glob w)
    (hr : Reads w B 1 A n (nv .u8 key)) (hB : B ≤ w.heap.size) (hp : Parts w B2 A2 n2 ms) (hB2 : B2 ≤ w.heap.size) :
    Calls Tryd.prog 12 #[.slice A n c, .slice A2 n2 c2] w fun e w' => e = .returned (.agg (va .u8 (hm key m))) ∧ Below w.heap.size w w' := by
  subst hms; exact macof_any key A n c B ms A2 n2 c2 B2 hk hnc hn hn2 hlen w hg hr hB hp hB2
theorem is_to (l h : List Nat) (e : l = flat h) (hl : h.length = 8) (hw : W32 h) (w : World) :
    Calls Tryd.prog 15 #[.agg (va .u8 l), .agg (va .u32 h)] w fun e w' => e = .returned (.bool true) ∧ Below w.heap.size w w' := by
  subst e; exact is_any h hl hw w
theorem verify_to (b : Bool) (key m tag : List Nat) (A : Option Addr) (n c B : Nat) (A2 : Option Addr) (n2 c2 B2 : Nat) (hb : decide (hm key m = tag) = b) (hk : Byt key) (hnc : n ≤ c) (hn : n < 100000) (hm0 : Byt m) (hnc2 : n2 ≤ c2) (hn2 : n2 < 100000) (ht : Byt tag) (htl : tag.length = 32) (w : World) (hg : Glob w)
    (hr : Reads w B 1 A n (nv .u8 key)) (hB : B ≤ w.heap.size) (hr2 : Reads w B2 1 A2 n2 (nv .u8 m)) (hB2 : B2 ≤ w.heap.size) :
    Calls Tryd.prog 13 #[.slice A n c, .slice A2 n2 c2, .agg (va .u8 tag)] w fun e w' => e = .returned (.bool b) ∧ Below w.heap.size w w' := by
  subst hb; exact verify_any key m tag A n c B A2 n2 c2 B2 hk hnc hn hm0 hnc2 hn2 ht htl w hg hr hB hr2 hB2

set_option maxRecDepth 8000 in
set_option maxHeartbeats 4000000 in
theorem lives_any (w : World) (hg : Glob w) :
    Calls Tryd.prog 8 #[] w fun e w' => e = .returned (.bool true) ∧ Below w.heap.size w w' := by
  obtain ⟨B0, hB0e⟩ : ∃ b, w.heap.size = b := ⟨_, rfl⟩
  rw [hB0e]
  have hW : Below B0 w w := by rw [← hB0e]; exact Below.refl _ _
  have hB0 : B0 ≤ w.heap.size := by omega
  have gl := glob_of hg hB0e
  clear hg
  have hB0q := Lib.hid hB0e
  clear hB0e
  go_enter Tryd.func8, Tryd.ntmps8
  go_upto_region 0 with fail
  refine wl_lit ?_
  refine runL 0 (.bool false) rfl (by rfl) (by go_simp) ?_
  simp only [List.set_cons_zero]
  refine nilL ?_
  go_upto_region 1 with fail
  refine wl_lit ?_
  refine runWL 4 (.slice (some ⟨w.heap.size, 0, none⟩) 4 4) (w.alloc (.cells (va .u8 (kJefe)) 5)) rfl (by rfl) (exec_bslice 22 4 _ rfl _ (by exact bs_kJefe _)) ?_
  simp only [List.set_cons_zero, List.set_cons_succ]
  have lw_q1 := Nat.le_trans hB0 hW.size
  have hq1 : Blk (w.alloc (.cells (va .u8 (kJefe)) 5)) w.heap.size 5 (va .u8 (kJefe)) := Blk.new _ _ _
  replace hW := hW.alloc (Nat.le_trans hB0 hW.size) (.cells (va .u8 (kJefe)) 5)
  generalize w.alloc (.cells (va .u8 (kJefe)) 5) = w1 at *
  generalize w.heap.size = q1 at hq1 lw_q1  ⊢
  refine runWL 5 (.slice (some ⟨q1, 0, none⟩) 4 4) (w1.freeze ⟨q1, 4, none⟩ 1) rfl (by rfl) (exec_convW 22 22 (.tmp 4) rfl (.slice (some ⟨q1, 0, none⟩) 4 4) (.slice (some ⟨q1, 0, none⟩) 4 4) rfl (conv_blk (n := 4) (c := 4) hq1 (rfl))) ?_
  simp only [List.set_cons_zero, List.set_cons_succ]
  replace hq1 := hq1.byB.freeze ⟨q1, 4, none⟩ 1
  replace hW := Lib.below_freeze (p := ⟨q1, 4, none⟩) hW lw_q1 1
  generalize w1.freeze ⟨q1, 4, none⟩ 1 = w2 at *
  refine runWL 6 (.slice (some ⟨w2.heap.size, 0, none⟩) 28 28) (w2.alloc (.cells (va .u8 (mWhat)) 5)) rfl (by rfl) (exec_bslice 22 28 _ rfl _ (by exact bs_mWhat _)) ?_
  simp only [List.set_cons_zero, List.set_cons_succ]
  have lq1_q2 := hq1.lt
  have lw_q2 := Nat.le_trans hB0 hW.size
  have hq2 : Blk (w2.alloc (.cells (va .u8 (mWhat)) 5)) w2.heap.size 5 (va .u8 (mWhat)) := Blk.new _ _ _
  replace hq1 := hq1.alloc (.cells (va .u8 (mWhat)) 5)
  replace hW := hW.alloc (Nat.le_trans hB0 hW.size) (.cells (va .u8 (mWhat)) 5)
  generalize w2.alloc (.cells (va .u8 (mWhat)) 5) = w3 at *
  generalize w2.heap.size = q2 at hq2 lw_q2 lq1_q2 ⊢
  refine runWL 7 (.slice (some ⟨q2, 0, none⟩) 28 28) (w3.freeze ⟨q2, 28, none⟩ 1) rfl (by rfl) (exec_convW 22 22 (.tmp 6) rfl (.slice (some ⟨q2, 0, none⟩) 28 28) (.slice (some ⟨q2, 0, none⟩) 28 28) rfl (conv_blk (n := 28) (c := 28) hq2 (rfl))) ?_
  simp only [List.set_cons_zero, List.set_cons_succ]
  replace hq1 := hq1.freeze ⟨q2, 28, none⟩ 1
  replace hq2 := hq2.byB.freeze ⟨q2, 28, none⟩ 1
  replace hW := Lib.below_freeze (p := ⟨q2, 28, none⟩) hW lw_q2 1
  generalize w3.freeze ⟨q2, 28, none⟩ 1 = w4 at *
  refine runL 1 (.slice (some ⟨q1, 0, none⟩) 4 4) rfl (by rfl) (by go_simp) ?_
  simp only [List.set_cons_zero, List.set_cons_succ]
  refine runL 2 (.slice (some ⟨q2, 0, none⟩) 28 28) rfl (by rfl) (by go_simp) ?_
  simp only [List.set_cons_zero, List.set_cons_succ]
  refine nilL ?_
  go_upto_region 2 with fail
  refine wl_lit ?_
  refine runL 8 (.slice (some ⟨q1, 0, none⟩) 4 4) rfl (by rfl) (by go_simp) ?_
  simp only [List.set_cons_zero, List.set_cons_succ]
  refine runL 9 (.slice (some ⟨q2, 0, none⟩) 28 28) rfl (by rfl) (by go_simp) ?_
  simp only [List.set_cons_zero, List.set_cons_succ]
  refine runWL 10 (.slice (some ⟨w4.heap.size, 0, none⟩) 1 1) (w4.alloc (.cells (#[.slice (some ⟨q2, 0, none⟩) 28 28]) 22)) rfl (by rfl) (exec_bslice 28 1 _ rfl _ (by exact bs_1 (some ⟨q2, 0, none⟩) 28 28 _)) ?_
  simp only [List.set_cons_zero, List.set_cons_succ]
  have lq1_q3 := hq1.lt
  have lq2_q3 := hq2.lt
  have lw_q3 := Nat.le_trans hB0 hW.size
  have hq3 : Blk (w4.alloc (.cells (#[.slice (some ⟨q2, 0, none⟩) 28 28]) 22)) w4.heap.size 22 (#[.slice (some ⟨q2, 0, none⟩) 28 28]) := Blk.new _ _ _
  replace hq1 := hq1.alloc (.cells (#[.slice (some ⟨q2, 0, none⟩) 28 28]) 22)
  replace hq2 := hq2.alloc (.cells (#[.slice (some ⟨q2, 0, none⟩) 28 28]) 22)
  replace hW := hW.alloc (Nat.le_trans hB0 hW.size) (.cells (#[.slice (some ⟨q2, 0, none⟩) 28 28]) 22)
  generalize w4.alloc (.cells (#[.slice (some ⟨q2, 0, none⟩) 28 28]) 22) = w5 at *
  generalize w4.heap.size = q3 at hq3 lw_q3 lq1_q3 lq2_q3 ⊢
  refine callL 11 rfl (by rfl) (fun K hK => wp_callF 12 #[.slice (some ⟨q1, 0, none⟩) 4 4, .slice (some ⟨q3, 0, none⟩) 1 1] (by go_simp) (macof_to (kJefe) (mWhat) _ 4 4 _ [mWhat] (by simp) _ 1 1 _ byt_kJefe (Nat.le_refl _) (by decide) (by omega) (by decide) _ (gl.out _ hW) (hq1.reads (rfl)) hq1.lt (parts_one hq2.lt hq3 (hq2.reads (rfl)) (Nat.le_refl _) byt_mWhat) (Nat.le_refl _)) ?_)
  rintro e w6 ⟨rfl, bx⟩
  replace hq1 := hq1.below bx hq1.lt
  replace hq2 := hq2.below bx hq2.lt
  replace hq3 := hq3.below bx hq3.lt
  replace hW := hW.trans (bx.mono (Nat.le_trans hB0 hW.size))
  clear bx
  refine ⟨_, rfl, hK.out _ _ ?_⟩
  clear hK K
  simp only [List.set_cons_zero, List.set_cons_succ]
  refine runWL 3 (.pointer (some ⟨w6.heap.size, 0, none⟩)) (w6.alloc (.cells (va .u8 (List.replicate 32 0)) 30)) rfl (by rfl) (exec_allocV 30 rfl _ (zv_api_Digest _)) ?_
  simp only [List.set_cons_zero, List.set_cons_succ]
  have lq1_p3 := hq1.lt
  have lq2_p3 := hq2.lt
  have lq3_p3 := hq3.lt
  have lw_p3 := Nat.le_trans hB0 hW.size
  have hp3 : Blk (w6.alloc (.cells (va .u8 (List.replicate 32 0)) 30)) w6.heap.size 30 (va .u8 (List.replicate 32 0)) := Blk.new _ _ _
  replace hq1 := hq1.alloc (.cells (va .u8 (List.replicate 32 0)) 30)
  replace hq2 := hq2.alloc (.cells (va .u8 (List.replicate 32 0)) 30)
  replace hq3 := hq3.alloc (.cells (va .u8 (List.replicate 32 0)) 30)
  replace hW := hW.alloc (Nat.le_trans hB0 hW.size) (.cells (va .u8 (List.replicate 32 0)) 30)
  generalize w6.alloc (.cells (va .u8 (List.replicate 32 0)) 30) = w7 at *
  generalize w6.heap.size = p3 at hp3 lw_p3 lq1_p3 lq2_p3 lq3_p3 ⊢
  refine runSL (w7.setRow p3 (va .u8 (hm (kJefe) (mWhat)))) rfl (by rfl) (exec_storeRow 30 (.tmp 3) (.tmp 11) rfl p3 rfl (va .u8 (hm (kJefe) (mWhat))) rfl 30 (va .u8 (List.replicate 32 0)) hp3 (sz_eq (sz_api_Digest _ (List.length_replicate)) (sz_api_Digest _ (hm_len _ _))) (sz_api_Digest _ (hm_len _ _)) (va_ones .u8 _)) ?_
  replace hq1 := hq1.rowFar (show p3 ≠ q1 from (by omega)) (va .u8 (hm (kJefe) (mWhat)))
  replace hq2 := hq2.rowFar (show p3 ≠ q2 from (by omega)) (va .u8 (hm (kJefe) (mWhat)))
  replace hq3 := hq3.rowFar (show p3 ≠ q3 from (by omega)) (va .u8 (hm (kJefe) (mWhat)))
  replace hp3 := hp3.row (va .u8 (hm (kJefe) (mWhat)))
  replace hW := below_setRow hW lw_p3 (va .u8 (hm (kJefe) (mWhat)))
  generalize w7.setRow p3 (va .u8 (hm (kJefe) (mWhat))) = w8 at *
  refine nilL ?_
  clear hq3
  go_upto_region 3 with fail
  refine wl_lit ?_
  refine callL 12 rfl (by rfl) (fun K hK => wp_callF 14 #[.int .i64 20, .int .u8 11] (by go_simp) (many_any 20 11 (by omega) _) ?_)
  rintro e w9 ⟨g1, rfl, hg1, hgg, bx⟩
  have lq1_g1 : q1 < g1 := Nat.lt_of_lt_of_le hq1.lt hgg
  have lq2_g1 : q2 < g1 := Nat.lt_of_lt_of_le hq2.lt hgg
  have lp3_g1 : p3 < g1 := Nat.lt_of_lt_of_le hp3.lt hgg
  have lw_g1 : B0 ≤ g1 := Nat.le_trans (Nat.le_trans hB0 hW.size) hgg
  replace hq1 := hq1.below bx hq1.lt
  replace hq2 := hq2.below bx hq2.lt
  replace hp3 := hp3.below bx hp3.lt
  replace hW := hW.trans (bx.mono (Nat.le_trans hB0 hW.size))
  clear hgg
  clear bx
  refine ⟨_, rfl, hK.out _ _ ?_⟩
  clear hK K
  simp only [List.set_cons_zero, List.set_cons_succ]
  refine runWL 13 (.slice (some ⟨w9.heap.size, 0, none⟩) 8 8) (w9.alloc (.cells (va .u8 (mHi)) 5)) rfl (by rfl) (exec_bslice 22 8 _ rfl _ (by exact bs_mHi _)) ?_
  simp only [List.set_cons_zero, List.set_cons_succ]
  have lq1_q4 := hq1.lt
  have lq2_q4 := hq2.lt
  have lp3_q4 := hp3.lt
  have lg1_q4 := hg1.lt
  have lw_q4 := Nat.le_trans hB0 hW.size
  have hq4 : Blk (w9.alloc (.cells (va .u8 (mHi)) 5)) w9.heap.size 5 (va .u8 (mHi)) := Blk.new _ _ _
  replace hq1 := hq1.alloc (.cells (va .u8 (mHi)) 5)
  replace hq2 := hq2.alloc (.cells (va .u8 (mHi)) 5)
  replace hp3 := hp3.alloc (.cells (va .u8 (mHi)) 5)
  replace hg1 := hg1.alloc (.cells (va .u8 (mHi)) 5)
  replace hW := hW.alloc (Nat.le_trans hB0 hW.size) (.cells (va .u8 (mHi)) 5)
  generalize w9.alloc (.cells (va .u8 (mHi)) 5) = w10 at *
  generalize w9.heap.size = q4 at hq4 lw_q4 lq1_q4 lq2_q4 lp3_q4 lg1_q4 ⊢
  refine runWL 14 (.slice (some ⟨q4, 0, none⟩) 8 8) (w10.freeze ⟨q4, 8, none⟩ 1) rfl (by rfl) (exec_convW 22 22 (.tmp 13) rfl (.slice (some ⟨q4, 0, none⟩) 8 8) (.slice (some ⟨q4, 0, none⟩) 8 8) rfl (conv_blk (n := 8) (c := 8) hq4 (rfl))) ?_
  simp only [List.set_cons_zero, List.set_cons_succ]
  replace hq1 := hq1.freeze ⟨q4, 8, none⟩ 1
  replace hq2 := hq2.freeze ⟨q4, 8, none⟩ 1
  replace hp3 := hp3.freeze_ ⟨q4, 8, none⟩ 1 (show q4 ≠ p3 by omega)
  replace hg1 := hg1.freeze_ ⟨q4, 8, none⟩ 1 (show q4 ≠ g1 by omega)
  replace hq4 := hq4.byB.freeze ⟨q4, 8, none⟩ 1
  replace hW := Lib.below_freeze (p := ⟨q4, 8, none⟩) hW lw_q4 1
  generalize w10.freeze ⟨q4, 8, none⟩ 1 = w11 at *
  refine runWL 15 (.slice (some ⟨w11.heap.size, 0, none⟩) 1 1) (w11.alloc (.cells (#[.slice (some ⟨q4, 0, none⟩) 8 8]) 22)) rfl (by rfl) (exec_bslice 28 1 _ rfl _ (by exact bs_1 (some ⟨q4, 0, none⟩) 8 8 _)) ?_
  simp only [List.set_cons_zero, List.set_cons_succ]
  have lq1_q5 := hq1.lt
  have lq2_q5 := hq2.lt
  have lp3_q5 := hp3.lt
  have lg1_q5 := hg1.lt
  have lq4_q5 := hq4.lt
  have lw_q5 := Nat.le_trans hB0 hW.size
  have hq5 : Blk (w11.alloc (.cells (#[.slice (some ⟨q4, 0, none⟩) 8 8]) 22)) w11.heap.size 22 (#[.slice (some ⟨q4, 0, none⟩) 8 8]) := Blk.new _ _ _
  replace hq1 := hq1.alloc (.cells (#[.slice (some ⟨q4, 0, none⟩) 8 8]) 22)
  replace hq2 := hq2.alloc (.cells (#[.slice (some ⟨q4, 0, none⟩) 8 8]) 22)
  replace hp3 := hp3.alloc (.cells (#[.slice (some ⟨q4, 0, none⟩) 8 8]) 22)
  replace hg1 := hg1.alloc (.cells (#[.slice (some ⟨q4, 0, none⟩) 8 8]) 22)
  replace hq4 := hq4.alloc (.cells (#[.slice (some ⟨q4, 0, none⟩) 8 8]) 22)
  replace hW := hW.alloc (Nat.le_trans hB0 hW.size) (.cells (#[.slice (some ⟨q4, 0, none⟩) 8 8]) 22)
  generalize w11.alloc (.cells (#[.slice (some ⟨q4, 0, none⟩) 8 8]) 22) = w12 at *
  generalize w11.heap.size = q5 at hq5 lw_q5 lq1_q5 lq2_q5 lp3_q5 lg1_q5 lq4_q5 ⊢
  refine callL 16 rfl (by rfl) (fun K hK => wp_callF 12 #[.slice (some ⟨g1, 0, none⟩) 20 20, .slice (some ⟨q5, 0, none⟩) 1 1] (by go_simp) (macof_to (List.replicate 20 11) (mHi) _ 20 20 _ [mHi] (by simp) _ 1 1 _ (Byt.rep _ _ (by omega)) (Nat.le_refl _) (by decide) (by omega) (by decide) _ (gl.out _ hW) (hg1.readsAll (Nat.lt_succ_self _) (List.length_replicate)) hg1.lt (parts_one hq4.lt hq5 (hq4.reads (rfl)) (Nat.le_refl _) byt_mHi) (Nat.le_refl _)) ?_)
  rintro e w13 ⟨rfl, bx⟩
  replace hq1 := hq1.below bx hq1.lt
  replace hq2 := hq2.below bx hq2.lt
  replace hp3 := hp3.below bx hp3.lt
  replace hg1 := hg1.below bx hg1.lt
  replace hq4 := hq4.below bx hq4.lt
  replace hq5 := hq5.below bx hq5.lt
  replace hW := hW.trans (bx.mono (Nat.le_trans hB0 hW.size))
  clear bx
  refine ⟨_, rfl, hK.out _ _ ?_⟩
  clear hK K
  simp only [List.set_cons_zero, List.set_cons_succ]
  refine runL 17 (.agg (va .u32 (dHi))) rfl (by rfl) (exec_build 42 _ rfl (va .u32 dHi) (by kernel_rfl)) ?_
  simp only [List.set_cons_zero, List.set_cons_succ]
  refine callL 18 rfl (by rfl) (fun K hK => wp_callF 15 #[.agg (va .u8 (hm (List.replicate 20 11) (mHi))), .agg (va .u32 (dHi))] (by go_simp) (is_to (hm (List.replicate 20 11) (mHi)) dHi tag_dHi rfl w32_dHi _) ?_)
  rintro e w14 ⟨rfl, bx⟩
  replace hq1 := hq1.below bx hq1.lt
  replace hq2 := hq2.below bx hq2.lt
  replace hp3 := hp3.below bx hp3.lt
  replace hg1 := hg1.below bx hg1.lt
  replace hq4 := hq4.below bx hq4.lt
  replace hq5 := hq5.below bx hq5.lt
  replace hW := hW.trans (bx.mono (Nat.le_trans hB0 hW.size))
  clear bx
  refine ⟨_, rfl, hK.out _ _ ?_⟩
  clear hK K
  simp only [List.set_cons_zero, List.set_cons_succ]
  refine runL 19 (.bool false) rfl (by rfl) (by go_simp) ?_
  simp only [List.set_cons_zero, List.set_cons_succ]
  refine nilL ?_
  clear hg1
  clear hq4
  clear hq5
  go_upto_region 5 with fail
  refine wp_region_held_drew (S := fun wr => ByB wr q1 (kJefe) ∧ ByB wr q2 (mWhat) ∧ Blk wr p3 30 (va .u8 (hm (kJefe) (mWhat))) ∧ Below B0 w wr) (by kernel_rfl) ⟨hq1.drew_, hq2.drew_, hp3.drew, below_drewN hW 1⟩ (fun hH => ?_)
  clear hq1 hq2 hp3 hW
  obtain ⟨hq1, hq2, hp3, hW⟩ := hH
  generalize w14.drew = w15 at *
  refine takeH 17 0 20 (.agg (va .u8 (hm (kJefe) (mWhat)))) rfl rfl (by kernel_rfl) (by kernel_rfl) (by kernel_rfl) (fun _ _ _ h => h) (Or.inl ⟨by rfl, fun _ h => exec_row 30 (.tmp 3) rfl p3 rfl 30 (va .u8 (hm (kJefe) (mWhat))) _ h.2.2.1 (by exact Tryd.underlying30) rfl (sz_api_Digest _ (hm_len _ _))⟩) ⟨hq1, hq2, hp3, hW⟩ ?_
  simp only [List.set_cons_zero, List.set_cons_succ]
  refine takeH 16 1 21 (.agg (va .u32 (dJefe))) rfl rfl (by kernel_rfl) (by kernel_rfl) (by kernel_rfl) (fun _ _ _ h => h) (Or.inl ⟨by rfl, fun _ _ => exec_build 42 _ rfl (va .u32 dJefe) (by kernel_rfl)⟩) ⟨hq1, hq2, hp3, hW⟩ ?_
  simp only [List.set_cons_zero, List.set_cons_succ]
  refine wpAnyH_ready (by kernel_rfl) (by simp) (readyCons 15 2 22 rfl rfl (by rfl) (fun K hK => wp_callF 15 #[.agg (va .u8 (hm (kJefe) (mWhat))), .agg (va .u32 (dJefe))] (by go_simp) (is_to (hm (kJefe) (mWhat)) dJefe tag_dJefe rfl w32_dJefe _) ?_) AllReadyH.nil)
  rintro e w16 ⟨rfl, bx⟩
  replace hq1 := hq1.below bx hq1.lt
  replace hq2 := hq2.below bx hq2.lt
  replace hp3 := hp3.below bx hp3.lt
  replace hW := hW.trans (bx.mono (Nat.le_trans hB0 hW.size))
  clear bx
  refine ⟨_, rfl, hK.out _ _ ⟨hq1, hq2, hp3, hW⟩ (fun _ => ?_)⟩
  clear hK K
  simp only [List.set_cons_zero, List.set_cons_succ]
  refine takeH 14 3 23 (.bool true) rfl rfl (by kernel_rfl) (by kernel_rfl) (by kernel_rfl) (fun _ _ _ h => h) (Or.inl ⟨by rfl, fun w _ => by go_simp⟩) ⟨hq1, hq2, hp3, hW⟩ ?_
  simp only [List.set_cons_zero, List.set_cons_succ]
  refine takeH 13 4 24 (.slice (some ⟨q1, 0, none⟩) 4 4) rfl rfl (by kernel_rfl) (by kernel_rfl) (by kernel_rfl) (fun _ _ _ h => h) (Or.inl ⟨by rfl, fun w _ => by go_simp⟩) ⟨hq1, hq2, hp3, hW⟩ ?_
  simp only [List.set_cons_zero, List.set_cons_succ]
  refine takeH 12 5 25 (.slice (some ⟨q2, 0, none⟩) 28 28) rfl rfl (by kernel_rfl) (by kernel_rfl) (by kernel_rfl) (fun _ _ _ h => h) (Or.inl ⟨by rfl, fun w _ => by go_simp⟩) ⟨hq1, hq2, hp3, hW⟩ ?_
  simp only [List.set_cons_zero, List.set_cons_succ]
  refine takeH 11 6 26 (.agg (va .u8 (hm (kJefe) (mWhat)))) rfl rfl (by kernel_rfl) (by kernel_rfl) (by kernel_rfl) (fun _ _ _ h => h) (Or.inl ⟨by rfl, fun _ h => exec_row 30 (.tmp 3) rfl p3 rfl 30 (va .u8 (hm (kJefe) (mWhat))) _ h.2.2.1 (by exact Tryd.underlying30) rfl (sz_api_Digest _ (hm_len _ _))⟩) ⟨hq1, hq2, hp3, hW⟩ ?_
  simp only [List.set_cons_zero, List.set_cons_succ]
  refine wpAnyH_ready (by kernel_rfl) (by simp) (readyCons 10 7 27 rfl rfl (by rfl) (fun K hK => wp_callF 13 #[.slice (some ⟨q1, 0, none⟩) 4 4, .slice (some ⟨q2, 0, none⟩) 28 28, .agg (va .u8 (hm (kJefe) (mWhat)))] (by go_simp) (verify_to true (kJefe) (mWhat) (hm (kJefe) (mWhat)) _ 4 4 _ _ 28 28 _ (by simp) byt_kJefe (Nat.le_refl _) (by decide) byt_mWhat (Nat.le_refl _) (by decide) (hm_byt _ _) (hm_len _ _) _ (gl.out _ hW) (hq1.reads (rfl)) hq1.lt (hq2.reads (rfl)) hq2.lt) ?_) AllReadyH.nil)
  rintro e w17 ⟨rfl, bx⟩
  replace hq1 := hq1.below bx hq1.lt
  replace hq2 := hq2.below bx hq2.lt
  replace hp3 := hp3.below bx hp3.lt
  replace hW := hW.trans (bx.mono (Nat.le_trans hB0 hW.size))
  clear bx
  refine ⟨_, rfl, hK.out _ _ ⟨hq1, hq2, hp3, hW⟩ (fun _ => ?_)⟩
  clear hK K
  simp only [List.set_cons_zero, List.set_cons_succ]
  refine takeH 9 8 28 (.bool true) rfl rfl (by kernel_rfl) (by kernel_rfl) (by kernel_rfl) (fun _ _ _ h => h) (Or.inl ⟨by rfl, fun w _ => by go_simp⟩) ⟨hq1, hq2, hp3, hW⟩ ?_
  simp only [List.set_cons_zero, List.set_cons_succ]
  refine takeH 8 9 29 (.bool true) rfl rfl (by kernel_rfl) (by kernel_rfl) (by kernel_rfl) (fun _ _ _ h => h) (Or.inl ⟨by rfl, fun w _ => by go_simp⟩) ⟨hq1, hq2, hp3, hW⟩ ?_
  simp only [List.set_cons_zero, List.set_cons_succ]
  refine takeH 7 10 30 (.slice (some ⟨q1, 0, none⟩) 4 4) rfl rfl (by kernel_rfl) (by kernel_rfl) (by kernel_rfl) (fun _ _ _ h => h) (Or.inl ⟨by rfl, fun w _ => by go_simp⟩) ⟨hq1, hq2, hp3, hW⟩ ?_
  simp only [List.set_cons_zero, List.set_cons_succ]
  refine takeH 6 11 31 (.slice (some ⟨q2, 0, none⟩) 28 28) rfl rfl (by kernel_rfl) (by kernel_rfl) (by kernel_rfl) (fun _ _ _ h => h) (Or.inl ⟨by rfl, fun w _ => by go_simp⟩) ⟨hq1, hq2, hp3, hW⟩ ?_
  simp only [List.set_cons_zero, List.set_cons_succ]
  refine takeH 5 12 32 (.slice (some ⟨q2, 0, none⟩) 15 28) rfl rfl (by kernel_rfl) (by kernel_rfl) (by kernel_rfl) (fun _ _ _ h => h) (Or.inl ⟨by rfl, fun w _ => by go_simp⟩) ⟨hq1, hq2, hp3, hW⟩ ?_
  simp only [List.set_cons_zero, List.set_cons_succ]
  refine takeH 4 13 33 (.agg (va .u8 (hm (kJefe) (mWhat)))) rfl rfl (by kernel_rfl) (by kernel_rfl) (by kernel_rfl) (fun _ _ _ h => h) (Or.inl ⟨by rfl, fun _ h => exec_row 30 (.tmp 3) rfl p3 rfl 30 (va .u8 (hm (kJefe) (mWhat))) _ h.2.2.1 (by exact Tryd.underlying30) rfl (sz_api_Digest _ (hm_len _ _))⟩) ⟨hq1, hq2, hp3, hW⟩ ?_
  simp only [List.set_cons_zero, List.set_cons_succ]
  refine wpAnyH_ready (by kernel_rfl) (by simp) (readyCons 3 14 34 rfl rfl (by rfl) (fun K hK => wp_callF 13 #[.slice (some ⟨q1, 0, none⟩) 4 4, .slice (some ⟨q2, 0, none⟩) 15 28, .agg (va .u8 (hm (kJefe) (mWhat)))] (by go_simp) (verify_to false (kJefe) (mWhat.take 15) (hm (kJefe) (mWhat)) _ 4 4 _ _ 15 28 _ (ne_Jefe) byt_kJefe (Nat.le_refl _) (by decide) (byt_mWhat.take 15) (by decide) (by decide) (hm_byt _ _) (hm_len _ _) _ (gl.out _ hW) (hq1.reads (rfl)) hq1.lt (hq2.readsPre 15 (by decide)) hq2.lt) ?_) AllReadyH.nil)
  rintro e w18 ⟨rfl, bx⟩
  replace hq1 := hq1.below bx hq1.lt
  replace hq2 := hq2.below bx hq2.lt
  replace hp3 := hp3.below bx hp3.lt
  replace hW := hW.trans (bx.mono (Nat.le_trans hB0 hW.size))
  clear bx
  refine ⟨_, rfl, hK.out _ _ ⟨hq1, hq2, hp3, hW⟩ (fun _ => ?_)⟩
  clear hK K
  simp only [List.set_cons_zero, List.set_cons_succ]
  refine takeH 2 15 35 (.bool true) rfl rfl (by kernel_rfl) (by kernel_rfl) (by kernel_rfl) (fun _ _ _ h => h) (Or.inl ⟨by rfl, fun w _ => by go_simp⟩) ⟨hq1, hq2, hp3, hW⟩ ?_
  simp only [List.set_cons_zero, List.set_cons_succ]
  refine takeH 1 16 36 (.bool true) rfl rfl (by kernel_rfl) (by kernel_rfl) (by kernel_rfl) (fun _ _ _ h => h) (Or.inl ⟨by rfl, fun w _ => by go_simp⟩) ⟨hq1, hq2, hp3, hW⟩ ?_
  simp only [List.set_cons_zero, List.set_cons_succ]
  refine takeH 0 17 0 (.bool true) rfl rfl (by kernel_rfl) (by kernel_rfl) (by kernel_rfl) (fun _ _ _ h => h) (Or.inl ⟨by rfl, fun w _ => by go_simp⟩) ⟨hq1, hq2, hp3, hW⟩ ?_
  simp only [List.set_cons_zero]
  refine wpAnyH_done (by kernel_rfl) ?_ _
  go_wp2_with fail
  go_ret
  exact ⟨rfl, hW⟩
end Go.Proofs.YtfnhjbamomolfaaDoor
