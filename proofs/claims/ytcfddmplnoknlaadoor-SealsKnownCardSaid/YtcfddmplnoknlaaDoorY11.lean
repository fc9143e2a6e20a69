/-
  The walks of macs.Block, padded. (Printed by mk03.py.)
-/
import Derived.Test.YtcfddmplnoknlaaDoorY10
namespace Go.Proofs.YtcfddmplnoknlaaDoor
set_option maxRecDepth 16384
open Go.RowKit Sh
theorem sz__64_uint8 (l : List Nat) (h : l.length = 64) : (Tryd.prog.info? 92).map (·.size) = some (va .u8 l).size := by rw [va_size, h]; kernel_rfl
theorem zv__64_uint8 (w : World) : (zeroValue 92).run Tryd.prog w = .ok (.agg (va .u8 (List.replicate 64 0))) w := by kernel_rfl
theorem sz_api_Digest (l : List Nat) (h : l.length = 32) : (Tryd.prog.info? 45).map (·.size) = some (va .u8 l).size := by rw [va_size, h]; kernel_rfl
theorem zv_api_Digest (w : World) : (zeroValue 45).run Tryd.prog w = .ok (.agg (va .u8 (List.replicate 32 0))) w := by kernel_rfl

theorem glob_of {w : World} {B0 : Nat} (hg : Glob w) (e : w.heap.size = B0) : Hid (∀ W, Below B0 w W → Glob W) := Lib.hid fun W h => hg.below (by rw [e]; exact h)
theorem reads_of {w : World} {B B0 n : Nat} {A : Option Addr} {k : IntKind} {l : List Nat} (h : Reads w B 1 A n (nv k l)) (hB : B ≤ B0) : Hid (∀ W, Below B0 w W → Reads W B 1 A n (nv k l)) := Lib.hid fun _W hb => h.below (hb.mono hB)
theorem ofp (ms : List (List Nat)) (m : List Nat) (hm : ms.flatten = m) (n c : Nat) (A : Option Addr) (w : World) (hg : Glob w) (hp : Parts w w.heap.size A n ms) (hn : n < 1000) (hlen : m.length < 1000000) :
  Calls Tryd.prog 54 #[.slice A n c] w fun e w' => e = .returned (.agg (va .u8 (sha m))) ∧ Below w.heap.size w w' := by
 subst hm; exact of_any ms n c _ A w hg hp (by omega) (Nat.le_refl _) (by omega)

set_option maxRecDepth 8000 in
set_option maxHeartbeats 1000000 in
theorem block_any (key : List Nat) (A : Option Addr) (n c B : Nat) (hk : Byt key) (hnc : n ≤ c) (hn : n < 100000) (w : World) (hg : Glob w) (hr : Reads w B 1 A n (nv .u8 key)) (hB : B ≤ w.heap.size) :
  Calls Tryd.prog 70 #[.slice A n c] w fun e w' => e = .returned (.agg (va .u8 (kb key))) ∧ Below w.heap.size w w' := by
 have hln := hr.len
 obtain ⟨B0, hB0e, hW, hB0⟩ := stB w
 rw [hB0e]
 have hBB : B ≤ B0 := by omega
 have gl := glob_of hg hB0e
 have rd := reads_of hr hBB
 clear hg hr hB
 have hB0q := Lib.hid hB0e
 clear hB0e
 by_cases h64 : 64 < n
 ·
  have h64I : (64 : Int) < (n : Int) := by omega
  have hkc : kc key = sha key := by unfold kc; rw [if_pos (by omega)]
  go_enter Tryd.func70, Tryd.ntmps70
  go_upto_region 0 with fail
  refine wl_lit ?_
  refine runWL 2 (.pointer (some ⟨w.heap.size, 0, none⟩)) (w.alloc (.cells (va .u8 (List.replicate 64 0)) 92)) rfl (by rfl) (exec_allocV 92 rfl _ (zv__64_uint8 _)) ?_
  simp only [Ls]
  have lw_p2 := Nat.le_trans hB0 hW.size
  have hp2 := Blk.new w 92 (va .u8 (List.replicate 64 0))
  replace hW := alB hW hB0 (.cells (va .u8 (List.replicate 64 0)) 92)
  generalize w.alloc (.cells (va .u8 (List.replicate 64 0)) 92) = w1 at *
  generalize w.heap.size = p2 at hp2 lw_p2  ⊢
  refine nilL ?_
  go_upto_region 1 with fail
  refine wl_lit ?_
  refine runL 4 (.slice A n c) rfl (by rfl) (by go_simp) ?_
  refine runL 5 (.int .i64 n) rfl (by rfl) (by go_simp) ?_
  refine runL 6 (.bool true) rfl (by rfl) (by go_simp) ?_
  simp only [Ls]
  refine nilL ?_
  go_upto_region 2 with fail
  refine wl_lit ?_
  refine runL 7 (.slice A n c) rfl (by rfl) (by go_simp) ?_
  simp only [Ls]
  refine runWL 8 (.slice (some ⟨w1.heap.size, 0, none⟩) 1 1) (w1.alloc (.cells (#[.slice A n c]) 34)) rfl (by rfl) (exec_bslice 90 1 _ rfl _ (by exact bs_1 A n c _)) ?_
  simp only [Ls]
  have lp2_q1 := hp2.lt
  have lw_q1 := Nat.le_trans hB0 hW.size
  have hq1 : Blk (w1.alloc (.cells (#[.slice A n c]) 34)) w1.heap.size 34 (#[.slice A n c]) := Blk.new _ _ _
  have bx := bAl w1 (.cells (#[.slice A n c]) 34)
  replace hp2 := blB hp2 bx
  replace hW := trB hW hB0 bx
  clear bx
  generalize w1.alloc (.cells (#[.slice A n c]) 34) = w2 at *
  generalize w1.heap.size = q1 at hq1 lw_q1 lp2_q1 ⊢
  refine callL 9 rfl (by rfl) (fun K hK => wp_callF 54 #[.slice (some ⟨q1, 0, none⟩) 1 1] (by go_simp) (ofp [key] key (by simp) 1 1 _ _ (gl.out _ hW) (parts_one (Nat.le_trans hBB (Nat.le_trans hB0 hW.size)) hq1 (rd.out _ hW) hnc hk) (by omega) (by omega)) ?_)
  rintro e w3 ⟨rfl, bx⟩
  replace hp2 := blB hp2 bx
  replace hq1 := blB hq1 bx
  replace hW := trB hW hB0 bx
  clear bx
  refine ⟨_, rfl, hK.out _ _ ?_⟩
  clear hK K
  simp only [Ls]
  refine runWL 3 (.pointer (some ⟨w3.heap.size, 0, none⟩)) (w3.alloc (.cells (va .u8 (List.replicate 32 0)) 45)) rfl (by rfl) (exec_allocV 45 rfl _ (zv_api_Digest _)) ?_
  simp only [Ls]
  have lp2_p3 := hp2.lt
  have lq1_p3 := hq1.lt
  have lw_p3 := Nat.le_trans hB0 hW.size
  have hp3 := Blk.new w3 45 (va .u8 (List.replicate 32 0))
  replace hp2 := hp2.alloc (.cells (va .u8 (List.replicate 32 0)) 45)
  replace hq1 := hq1.alloc (.cells (va .u8 (List.replicate 32 0)) 45)
  replace hW := alB hW hB0 (.cells (va .u8 (List.replicate 32 0)) 45)
  generalize w3.alloc (.cells (va .u8 (List.replicate 32 0)) 45) = w4 at *
  generalize w3.heap.size = p3 at hp3 lw_p3 lp2_p3 lq1_p3 ⊢
  refine runSL (w4.setRow p3 (va .u8 (sha key))) rfl (by rfl) (exec_storeRow 45 (.tmp 3) (.tmp 9) rfl p3 rfl (va .u8 (sha key)) rfl 45 (va .u8 (List.replicate 32 0)) hp3 (sz_eq (sz_api_Digest _ (List.length_replicate)) (sz_api_Digest _ (sha_len' _))) (sz_api_Digest _ (sha_len' _)) (va_ones .u8 _)) ?_
  replace hp2 := hp2.rowFar (show p3 ≠ p2 from (by omega)) (va .u8 (sha key))
  replace hq1 := hq1.rowFar (show p3 ≠ q1 from (by omega)) (va .u8 (sha key))
  replace hp3 := hp3.row (va .u8 (sha key))
  replace hW := below_setRow hW lw_p3 (va .u8 (sha key))
  generalize w4.setRow p3 (va .u8 (sha key)) = w5 at *
  refine nilL ?_
  go_upto_region 3 with fail
  refine wl_lit ?_
  refine runL 10 (.slice (some ⟨p3, 0, none⟩) 32 32) rfl (by rfl) (by go_simp) ?_
  simp only [Ls]
  refine runL 0 (.slice (some ⟨p3, 0, none⟩) 32 32) rfl (by rfl) (by go_simp) ?_
  simp only [ls0]
  refine nilL ?_
  go_upto_region 4 with fail
  refine wl_lit ?_
  refine runL 11 (.slice (some ⟨p2, 0, none⟩) 64 64) rfl (by rfl) (by go_simp) ?_
  refine runL 12 (.slice (some ⟨p3, 0, none⟩) 32 32) rfl (by rfl) (by go_simp) ?_
  simp only [Ls]
  refine runWL 13 (.int .i64 32) (w5.setRow p2 (va .u8 (kb key))) rfl (by rfl) (exec_copy _ _ _ _ rfl _ _ _ rfl rfl (copy_row _ _ _ Tryd.underlying34 p2 0 64 64 92 (List.replicate 64 0) hp2 (some ⟨p3, 0, none⟩) 32 32 _ (sha key) (hp3.readsAll (Nat.lt_succ_self _) (sha_len' _)) (by omega) (by simp) (kb key) (by simp [-List.reduceReplicate, kb, hkc, sha_len']))) ?_
  simp only [Ls]
  replace hq1 := hq1.rowFar (show p2 ≠ q1 from (by omega)) (va .u8 (kb key))
  replace hp3 := hp3.rowFar (show p2 ≠ p3 from (by omega)) (va .u8 (kb key))
  replace hp2 := hp2.row (va .u8 (kb key))
  replace hW := below_setRow hW lw_p2 (va .u8 (kb key))
  generalize w5.setRow p2 (va .u8 (kb key)) = w6 at *
  refine nilL ?_
  go_upto_region 5 with fail
  refine wl_lit ?_
  refine runL 14 (.agg (va .u8 (kb key))) rfl (by rfl) (exec_row 92 (.tmp 2) rfl p2 rfl 92 (va .u8 (kb key)) _ hp2 (by exact Tryd.underlying92) rfl (sz__64_uint8 _ (kb_len _))) ?_
  simp only [Ls]
  refine runSL (w6.setRow p2 (va .u8 (kb key))) rfl (by rfl) (exec_storeRow 92 (.tmp 2) (.tmp 14) rfl p2 rfl (va .u8 (kb key)) rfl 92 (va .u8 (kb key)) hp2 (sz_eq (sz__64_uint8 _ (kb_len _)) (sz__64_uint8 _ (kb_len _))) (sz__64_uint8 _ (kb_len _)) (va_ones .u8 _)) ?_
  replace hq1 := hq1.rowFar (show p2 ≠ q1 from (by omega)) (va .u8 (kb key))
  replace hp3 := hp3.rowFar (show p2 ≠ p3 from (by omega)) (va .u8 (kb key))
  replace hp2 := hp2.row (va .u8 (kb key))
  replace hW := below_setRow hW lw_p2 (va .u8 (kb key))
  generalize w6.setRow p2 (va .u8 (kb key)) = w7 at *
  refine nilL ?_
  go_wp2_with fail
  exact bodyPost_ret (results_cell_row rfl _ _ p2 92 (va .u8 (kb key)) (0, 0) _ rfl hp2 (by exact Tryd.underlying92) rfl (sz__64_uint8 _ (kb_len _))) rfl ⟨rfl, hW⟩
 ·
  have h64I : ¬ (64 : Int) < (n : Int) := by omega
  have hkc : kc key = key := by unfold kc; rw [if_neg (by omega)]
  go_enter Tryd.func70, Tryd.ntmps70
  go_upto_region 0 with fail
  refine wl_lit ?_
  refine runWL 2 (.pointer (some ⟨w.heap.size, 0, none⟩)) (w.alloc (.cells (va .u8 (List.replicate 64 0)) 92)) rfl (by rfl) (exec_allocV 92 rfl _ (zv__64_uint8 _)) ?_
  simp only [Ls]
  have lw_p2 := Nat.le_trans hB0 hW.size
  have hp2 := Blk.new w 92 (va .u8 (List.replicate 64 0))
  replace hW := alB hW hB0 (.cells (va .u8 (List.replicate 64 0)) 92)
  generalize w.alloc (.cells (va .u8 (List.replicate 64 0)) 92) = w8 at *
  generalize w.heap.size = p2 at hp2 lw_p2  ⊢
  refine nilL ?_
  go_upto_region 1 with fail
  refine wl_lit ?_
  refine runL 4 (.slice A n c) rfl (by rfl) (by go_simp) ?_
  refine runL 5 (.int .i64 n) rfl (by rfl) (by go_simp) ?_
  refine runL 6 (.bool false) rfl (by rfl) (by go_simp) ?_
  simp only [Ls]
  refine nilL ?_
  go_upto_region 4 with fail
  refine wl_lit ?_
  refine runL 11 (.slice (some ⟨p2, 0, none⟩) 64 64) rfl (by rfl) (by go_simp) ?_
  refine runL 12 (.slice A n c) rfl (by rfl) (by go_simp) ?_
  simp only [Ls]
  refine runWL 13 (.int .i64 n) (w8.setRow p2 (va .u8 (kb key))) rfl (by rfl) (exec_copy _ _ _ _ rfl _ _ _ rfl rfl (copy_row _ _ _ Tryd.underlying34 p2 0 64 64 92 (List.replicate 64 0) hp2 A n c _ key (rd.out _ hW) (by omega) (by simp; omega) (kb key) (by simp [-List.reduceReplicate, kb, hkc, hln]))) ?_
  simp only [Ls]
  replace hp2 := hp2.row (va .u8 (kb key))
  replace hW := below_setRow hW lw_p2 (va .u8 (kb key))
  generalize w8.setRow p2 (va .u8 (kb key)) = w9 at *
  refine nilL ?_
  go_upto_region 5 with fail
  refine wl_lit ?_
  refine runL 14 (.agg (va .u8 (kb key))) rfl (by rfl) (exec_row 92 (.tmp 2) rfl p2 rfl 92 (va .u8 (kb key)) _ hp2 (by exact Tryd.underlying92) rfl (sz__64_uint8 _ (kb_len _))) ?_
  simp only [Ls]
  refine runSL (w9.setRow p2 (va .u8 (kb key))) rfl (by rfl) (exec_storeRow 92 (.tmp 2) (.tmp 14) rfl p2 rfl (va .u8 (kb key)) rfl 92 (va .u8 (kb key)) hp2 (sz_eq (sz__64_uint8 _ (kb_len _)) (sz__64_uint8 _ (kb_len _))) (sz__64_uint8 _ (kb_len _)) (va_ones .u8 _)) ?_
  replace hp2 := hp2.row (va .u8 (kb key))
  replace hW := below_setRow hW lw_p2 (va .u8 (kb key))
  generalize w9.setRow p2 (va .u8 (kb key)) = w10 at *
  refine nilL ?_
  go_wp2_with fail
  exact bodyPost_ret (results_cell_row rfl _ _ p2 92 (va .u8 (kb key)) (0, 0) _ rfl hp2 (by exact Tryd.underlying92) rfl (sz__64_uint8 _ (kb_len _))) rfl ⟨rfl, hW⟩

def padl (c i : Nat) : List Nat := (List.range 64).map fun j => if j < i then c else 0
theorem padl_len (c i : Nat) : (padl c i).length = 64 := by simp [padl]
theorem padl_zero (c : Nat) : padl c 0 = List.replicate 64 0 := by
 apply ext_getD (by simp [padl])
 intro j hj
 rw [padl_len] at hj
 rw [padl, getD_map_range _ _ _ hj, if_neg (by omega), List.getD_eq_getElem?_getD, List.getElem?_replicate, if_pos hj]; rfl
theorem padl_all (c : Nat) : padl c 64 = List.replicate 64 c := by
 apply ext_getD (by rw [padl_len, List.length_replicate])
 intro j hj
 rw [padl_len] at hj
 rw [padl, getD_map_range _ _ _ hj, if_pos (by omega), List.getD_eq_getElem?_getD, List.getElem?_replicate, if_pos hj]; rfl
theorem padl_step (c i : Nat) (hi : i < 64) : (padl c i).set i c = padl c (i + 1) := by
  apply ext_getD (by rw [List.length_set, padl_len, padl_len])
  intro j hj
  rw [List.length_set, padl_len] at hj
  by_cases e : i = j
  · subst e
    rw [getD_set_eq (by rw [padl_len]; exact hi), padl, getD_map_range _ _ _ hj, if_pos (by omega)]
  · rw [Sh.getD_set_ne e, padl, getD_map_range _ _ _ hj, padl, getD_map_range _ _ _ hj]
    by_cases h : j < i
    · rw [if_pos h, if_pos (by omega)]
    · rw [if_neg h, if_neg (by omega)]

set_option maxRecDepth 8000 in
set_option maxHeartbeats 1000000 in
theorem padded_any (key : List Nat) (A : Option Addr) (n c x B : Nat) (hx : x < 256) (hk : Byt key) (hnc : n ≤ c) (hn : n < 100000) (w : World) (hg : Glob w) (hr : Reads w B 1 A n (nv .u8 key)) (hB : B ≤ w.heap.size) :
    Calls Tryd.prog 52 #[.slice A n c, .int .u8 (x : Int)] w fun e w' => ∃ g, e = .returned (.slice (some ⟨g, 0, none⟩) 64 64) ∧ Blk w' g 5 (va .u8 (kx key x)) ∧ w.heap.size ≤ g ∧ Below w.heap.size w w' := by
  obtain ⟨B0, hB0e, hW, hB0⟩ := stB w
  rw [hB0e]
  have hBB : B ≤ B0 := by omega
  have gl := glob_of hg hB0e
  have rd := reads_of hr hBB
  clear hg hr hB
  have hB0q := Lib.hid hB0e
  clear hB0e
  go_enter Tryd.func52, Tryd.ntmps52
  go_upto_region 0 with fail
  refine wl_lit ?_
  refine runL 4 (.slice none 0 0) rfl (by rfl) (by go_simp) ?_
  simp only [Ls]
  refine nilL ?_
  go_upto_region 1 with fail
  refine wl_lit ?_
  refine runL 10 (.slice A n c) rfl (by rfl) (by go_simp) ?_
  simp only [Ls]
  refine callL 11 rfl (by rfl) (fun K hK => wp_callF 70 #[.slice A n c] (by go_simp) (block_any key A n c B hk hnc hn _ (gl.out _ hW) (rd.out _ hW) (Nat.le_trans hBB (Nat.le_trans hB0 hW.size))) ?_)
  rintro e w1 ⟨rfl, bx⟩
  replace hW := trB hW hB0 bx
  clear bx
  refine ⟨_, rfl, hK.out _ _ ?_⟩
  clear hK K
  simp only [Ls]
  refine runWL 5 (.pointer (some ⟨w1.heap.size, 0, none⟩)) (w1.alloc (.cells (va .u8 (List.replicate 64 0)) 92)) rfl (by rfl) (exec_allocV 92 rfl _ (zv__64_uint8 _)) ?_
  simp only [Ls]
  have lw_p5 := Nat.le_trans hB0 hW.size
  have hp5 := Blk.new w1 92 (va .u8 (List.replicate 64 0))
  replace hW := alB hW hB0 (.cells (va .u8 (List.replicate 64 0)) 92)
  generalize w1.alloc (.cells (va .u8 (List.replicate 64 0)) 92) = w2 at *
  generalize w1.heap.size = p5 at hp5 lw_p5  ⊢
  refine runSL (w2.setRow p5 (va .u8 (kb key))) rfl (by rfl) (exec_storeRow 92 (.tmp 5) (.tmp 11) rfl p5 rfl (va .u8 (kb key)) rfl 92 (va .u8 (List.replicate 64 0)) hp5 (sz_eq (sz__64_uint8 _ (List.length_replicate)) (sz__64_uint8 _ (kb_len _))) (sz__64_uint8 _ (kb_len _)) (va_ones .u8 _)) ?_
  replace hp5 := hp5.row (va .u8 (kb key))
  replace hW := below_setRow hW lw_p5 (va .u8 (kb key))
  generalize w2.setRow p5 (va .u8 (kb key)) = w3 at *
  refine nilL ?_
  go_upto_region 2 with fail
  refine wl_lit ?_
  refine runWL 12 (.slice (some ⟨w3.heap.size, 0, none⟩) 64 64) (w3.alloc (.cells (va .u8 (List.replicate 64 0)) 5)) rfl (by rfl) (exec_makeB _ _ rfl 64 (by omega) rfl rfl) ?_
  simp only [Ls]
  have lp5_q1 := hp5.lt
  have lw_q1 := Nat.le_trans hB0 hW.size
  have hq1 : Blk (w3.alloc (.cells (va .u8 (List.replicate 64 0)) 5)) w3.heap.size 5 (va .u8 (List.replicate 64 0)) := Blk.new _ _ _
  have bx := bAl w3 (.cells (va .u8 (List.replicate 64 0)) 5)
  replace hp5 := blB hp5 bx
  replace hW := trB hW hB0 bx
  clear bx
  generalize w3.alloc (.cells (va .u8 (List.replicate 64 0)) 5) = w4 at *
  generalize w3.heap.size = q1 at hq1 lw_q1 lp5_q1 ⊢
  refine runL 6 (.slice (some ⟨q1, 0, none⟩) 64 64) rfl (by rfl) (by go_simp) ?_
  simp only [Ls]
  refine nilL ?_
  rw [← padl_zero x] at hq1
  go_wp2
  go_loopw [15] (fun s wr => ∃ i : Nat, i ≤ 64 ∧ s = .int .i64 (i : Int) ∧ Blk wr p5 92 (va .u8 (kb key)) ∧ Blk wr q1 5 (va .u8 (padl x i)) ∧ Below B0 w wr) (fun s _ => 64 - (intOf s).toNat)
  case atStart => exact ⟨0, by omega, rfl, hp5, hq1, hW⟩
  case round =>
    clear hp5 hq1 hW
    obtain ⟨i, hi, rfl, hp5, hq1, hW⟩ := hrel
    by_cases hlt : i < 64
    · have hltI : (i : Int) < 64 := by omega
      have hc := hq1.num (i := i) (by rw [padl_len]; exact hlt)
      have hf := hq1.frozen i
      have h1 := Lib.hid (hp5.far (p := ⟨q1, i, none⟩) (show p5 ≠ q1 by omega) (.int .u8 (x : Int)))
      have h2 := Lib.hid (hq1.setNum i x)
      have h3 := Lib.hid (hW.setCell (p := ⟨q1, i, none⟩) lw_q1 (.int .u8 (x : Int)))
      have h4 := Lib.hid (padl_step x i hlt)
      clear hp5 hq1 hW
      go_wp2
      go_roundw
      case rel => exact ⟨i + 1, by omega, by go_num, h1.out, by rw [← h4.out]; exact h2.out, h3.out⟩
      case measure => simp [intOf]; omega
    · obtain rfl : i = 64 := by omega
      rw [padl_all] at hq1
      clear hlt hi
      go_upto_region 8 with fail
      refine wl_lit ?_
      refine runL 24 (.slice (some ⟨p5, 0, none⟩) 64 64) rfl (by rfl) (by go_simp) ?_
      refine runL 25 (.slice (some ⟨q1, 0, none⟩) 64 64) rfl (by rfl) (by go_simp) ?_
      simp only [Ls]
      refine callL 26 rfl (by rfl) (fun K hK => wp_callF 71 #[.slice (some ⟨p5, 0, none⟩) 64 64, .slice (some ⟨q1, 0, none⟩) 64 64] (by go_simp) (xor_any (kb key) (List.replicate 64 x) _ _ 64 64 64 _ (kb_byt _ hk) (Byt.rep _ _ hx) (by omega) _ (hp5.readsAll hp5.lt (kb_len _)) (hq1.readsAll hq1.lt List.length_replicate) (Nat.le_refl _)) ?_)
      rintro e w5 ⟨g, rfl, hg, hgg, bx⟩
      have lp5_g : p5 < g := Nat.lt_of_lt_of_le hp5.lt hgg
      have lq1_g : q1 < g := Nat.lt_of_lt_of_le hq1.lt hgg
      have lw_g : B0 ≤ g := Nat.le_trans (Nat.le_trans hB0 hW.size) hgg
      replace hp5 := blB hp5 bx
      replace hq1 := blB hq1 bx
      replace hW := trB hW hB0 bx
      clear hgg
      clear bx
      refine ⟨_, rfl, hK.out _ _ ?_⟩
      clear hK K
      refine runL 23 (.tuple #[.slice (some ⟨g, 0, none⟩) 64 64, .int .i64 0]) rfl (by rfl) (by go_simp) ?_
      refine runL 27 (.slice (some ⟨g, 0, none⟩) 64 64) rfl (by rfl) (by go_simp) ?_
      refine runL 28 (.int .i64 0) rfl (by rfl) (by go_simp) ?_
      refine runL 8 (.slice (some ⟨g, 0, none⟩) 64 64) rfl (by rfl) (by go_simp) ?_
      refine runL 9 (.int .i64 0) rfl (by rfl) (by go_simp) ?_
      simp only [Ls]
      refine nilL ?_
      go_upto_region 9 with fail
      refine wl_lit ?_
      refine runL 29 (.slice (some ⟨g, 0, none⟩) 64 64) rfl (by rfl) (by go_simp) ?_
      refine runL 4 (.slice (some ⟨g, 0, none⟩) 64 64) rfl (by rfl) (by go_simp) ?_
      simp only [Ls]
      refine nilL ?_
      go_wp2_with fail
      go_ret
      exact ⟨_, rfl, hg, lw_g, hW⟩
end Go.Proofs.YtcfddmplnoknlaaDoor
namespace Go.Proofs.YtcfddmplnoknlaaDoor
set_option maxRecDepth 16384
open Go.RowKit Sh

theorem szS (b : Bool) (h r : List Nat) (n : Nat) (hl : h.length = 8) (hr : r.length = 64) : (Tryd.prog.info? 94).map (·.size) = some (stL b h r n).size := by rw [stL_size _ _ _ _ hl hr]; kernel_rfl
theorem write_to (l h r m L : List Nat) (A : Option Addr) (n c B N0 N : Nat) (hl0 : l.length = N0) (hL : l ++ m = L) (hN : L.length = N) (hok : StOk l h r) (hm : Byt m) (hnc : n ≤ c) (hlen : N < 4611686018427387904) (w : World) (hg : Glob w)
  (hr : Reads w B 1 A n (nv .u8 m)) (hB : B ≤ w.heap.size) :
  Calls Tryd.prog 51 #[.agg (stL true h r N0), .slice A n c] w fun e w' =>
   ∃ h' r', e = .returned (.agg (stL true h' r' N)) ∧ StOk L h' r' ∧ Below w.heap.size w w' := by
 subst hl0 hL hN
 exact write_any l h r m A n c B hok hm hnc (by rw [List.length_append, hr.len] at hlen; exact hlen) w hg hr hB
theorem sum_to (l h r : List Nat) (N : Nat) (hN : l.length = N) (hok : StOk l h r) (hlen : N < 1000000) (w : World) (hg : Glob w) :
  Calls Tryd.prog 53 #[.agg (stL true h r N)] w fun e w' => e = .returned (.agg (va .u8 (sha l))) ∧ Below w.heap.size w w' := by
 subst hN; exact sum_any l h r hok (by omega) w hg

set_option maxRecDepth 8000 in
set_option maxHeartbeats 2000000 in
theorem macof_any (key : List Nat) (A : Option Addr) (n c B : Nat) (ms : List (List Nat)) (A2 : Option Addr) (n2 c2 B2 : Nat) (hk : Byt key) (hnc : n ≤ c) (hn : n < 100000) (hn2 : n2 < 1000) (hlen : ms.flatten.length < 100000) (w : World) (hg : Glob w)
  (hr : Reads w B 1 A n (nv .u8 key)) (hB : B ≤ w.heap.size) (hp : Parts w B2 A2 n2 ms) (hB2 : B2 ≤ w.heap.size) :
  Calls Tryd.prog 31 #[.slice A n c, .slice A2 n2 c2] w fun e w' => e = .returned (.agg (va .u8 (hm key ms.flatten))) ∧ Below w.heap.size w w' := by
 obtain ⟨B0, hB0e, hW, hB0⟩ := stB w
 rw [hB0e]
 have hBB : B ≤ B0 := by omega
 have hBB2 : B2 ≤ B0 := by omega
 have hpn := hp.1
 have gl := glob_of hg hB0e
 have rd := reads_of hr hBB
 have pd : Hid (∀ W, Below B0 w W → Parts W B2 A2 n2 ms) := Lib.hid fun W h => hp.below (h.mono hBB2)
 have hlq := Lib.hid hlen
 clear hg hr hB hp hB2 hlen
 have hB0q := Lib.hid hB0e
 clear hB0e
 go_enter Tryd.func31, Tryd.ntmps31
 go_upto_region 0 with fail
 refine wl_lit ?_
 refine runWL 4 (.pointer (some ⟨w.heap.size, 0, none⟩)) (w.alloc (.cells (va .u8 (List.replicate 32 0)) 45)) rfl (by rfl) (exec_allocV 45 rfl _ (zv_api_Digest _)) ?_
 simp only [Ls]
 have lw_p4 := Nat.le_trans hB0 hW.size
 have hp4 := Blk.new w 45 (va .u8 (List.replicate 32 0))
 replace hW := alB hW hB0 (.cells (va .u8 (List.replicate 32 0)) 45)
 generalize w.alloc (.cells (va .u8 (List.replicate 32 0)) 45) = w1 at *
 generalize w.heap.size = p4 at hp4 lw_p4  ⊢
 refine nilL ?_
 go_upto_region 1 with fail
 refine wl_lit ?_
 refine callL 9 rfl (by rfl) (fun K hK => wp_callF 50 #[] (by go_simp) (new_any _ (gl.out _ hW)) ?_)
 rintro e w2 ⟨rfl, bx⟩
 replace hp4 := blB hp4 bx
 replace hW := trB hW hB0 bx
 clear bx
 refine ⟨_, rfl, hK.out _ _ ?_⟩
 clear hK K
 refine runL 10 (.slice A n c) rfl (by rfl) (by go_simp) ?_
 simp only [Ls]
 refine callL 11 rfl (by rfl) (fun K hK => wp_callF 52 #[.slice A n c, .int .u8 54] (by go_simp) (padded_any key A n c 54 B (by omega) hk hnc hn _ (gl.out _ hW) (rd.out _ hW) (Nat.le_trans hBB (Nat.le_trans hB0 hW.size))) ?_)
 rintro e w3 ⟨g1, rfl, hg1, hgg, bx⟩
 have lp4_g1 : p4 < g1 := Nat.lt_of_lt_of_le hp4.lt hgg
 have lw_g1 : B0 ≤ g1 := Nat.le_trans (Nat.le_trans hB0 hW.size) hgg
 replace hp4 := blB hp4 bx
 replace hW := trB hW hB0 bx
 clear hgg
 clear bx
 refine ⟨_, rfl, hK.out _ _ ?_⟩
 clear hK K
 simp only [Ls]
 refine callL 12 rfl (by rfl) (fun K hK => wp_callF 51 #[.agg (stL true hL z64 0), .slice (some ⟨g1, 0, none⟩) 64 64] (by go_simp) (write_to [] hL z64 (kx key 54) (kx key 54) _ 64 64 _ 0 64 rfl rfl (kx_len _ _) stOk_nil (kx_byt _ _ hk (by omega)) (Nat.le_refl _) (by omega) _ (gl.out _ hW) (hg1.readsAll hg1.lt (kx_len _ _)) (Nat.le_refl _)) ?_)
 rintro e w4 ⟨h1, r1, rfl, ok1, bx⟩
 replace hp4 := blB hp4 bx
 replace hg1 := blB hg1 bx
 replace hW := trB hW hB0 bx
 clear bx
 refine ⟨_, rfl, hK.out _ _ ?_⟩
 clear hK K
 simp only [Ls]
 refine runWL 5 (.pointer (some ⟨w4.heap.size, 0, none⟩)) (w4.alloc (.cells sEmpty 94)) rfl (by rfl) (exec_allocV 94 rfl _ (zvS _)) ?_
 simp only [Ls]
 have lp4_p5 := hp4.lt
 have lg1_p5 := hg1.lt
 have lw_p5 := Nat.le_trans hB0 hW.size
 have hp5 := Blk.new w4 94 (sEmpty)
 replace hp4 := hp4.alloc (.cells sEmpty 94)
 replace hg1 := hg1.alloc (.cells sEmpty 94)
 replace hW := alB hW hB0 (.cells sEmpty 94)
 generalize w4.alloc (.cells sEmpty 94) = w5 at *
 generalize w4.heap.size = p5 at hp5 lw_p5 lp4_p5 lg1_p5 ⊢
 refine runSL (w5.setRow p5 (stL true h1 r1 64)) rfl (by rfl) (exec_storeRow 94 (.tmp 5) (.tmp 12) rfl p5 rfl (stL true h1 r1 64) rfl 94 sEmpty hp5 (sz_eq (szS _ _ _ _ rfl z64_len) (szS _ _ _ _ ok1.hl ok1.len)) (szS _ _ _ _ ok1.hl ok1.len) (stL_one _ _ _ _)) ?_
 replace hp4 := hp4.rowFar (show p5 ≠ p4 from (by omega)) (stL true h1 r1 64)
 replace hg1 := hg1.rowFar (show p5 ≠ g1 from (by omega)) (stL true h1 r1 64)
 replace hp5 := hp5.row (stL true h1 r1 64)
 replace hW := below_setRow hW lw_p5 (stL true h1 r1 64)
 generalize w5.setRow p5 (stL true h1 r1 64) = w6 at *
 refine nilL ?_
 clear hg1
 go_wp2
 go_loopw [15] (fun s wr => ∃ (k N : Nat) (h r : List Nat), k ≤ n2 ∧ s = .int .i64 (k : Int) ∧ (kx key 54 ++ (ms.take k).flatten).length = N ∧ StOk (kx key 54 ++ (ms.take k).flatten) h r ∧ Blk wr p4 45 (va .u8 (List.replicate 32 0)) ∧ Blk wr p5 94 (stL true h r N) ∧ Below B0 w wr) (fun s _ => n2 - (intOf s).toNat)
 case atStart => exact ⟨0, 64, h1, r1, by omega, rfl, by simp [kx_len], by simpa using ok1, hp4, hp5, hW⟩
 case round =>
  clear hp4 hp5 hW ok1
  obtain ⟨k, N, h, r, hk2, rfl, hN, ok, hp4, hp5, hW⟩ := hrel
  have hNq := Lib.hid hN
  have okq := Lib.hid ok
  have hstl := flat_take_len ms k
  have hN2 : N < 100064 := by rw [List.length_append, kx_len] at hN; have := hlq.out; omega
  clear hN ok hstl
  by_cases hlt : k < n2
  ·
   have hltI : (k : Int) < (n2 : Int) := by omega
   obtain ⟨ad, Ai, ni, ci, rfl, hadB, hc0, hnc2, hr0, hby⟩ := (pd.out _ hW).2 k hlt
   have hrq := Lib.hid hr0
   have hst := Lib.hid (flat_take_succ ms k (by omega))
   have hm2 := flat_take_len ms (k + 1)
   rw [hst.out, List.length_append, hr0.len] at hm2
   have hlen2 : N + ni < 200000 := by have h9 := hNq.out; rw [List.length_append, kx_len] at h9; have := hlq.out; omega
   have hL : (kx key 54 ++ (ms.take (k + 1)).flatten).length = N + ni := by have h9 := hNq.out; rw [hst.out, ← List.append_assoc, List.length_append, h9, hr0.len]
   have hLq := Lib.hid hL
   clear hr0 hm2 hL
   go_upto_region 5 with fail
   clear hc0
   refine wl_lit ?_
   refine runL 19 (.agg (stL true h r N)) rfl (by rfl) (exec_row 94 (.tmp 5) rfl p5 rfl 94 (stL true h r N) _ hp5 (by exact Tryd.underlying94) rfl (szS _ _ _ _ okq.out.hl okq.out.len)) ?_
   refine runL 20 (.slice Ai ni ci) rfl (by rfl) (by go_simp) ?_
   simp only [Ls]
   refine callL 21 rfl (by rfl) (fun K hK => wp_callF 51 #[.agg (stL true h r N), .slice Ai ni ci] (by go_simp) (write_to (kx key 54 ++ (ms.take k).flatten) h r (ms.getD k []) (kx key 54 ++ (ms.take (k + 1)).flatten) Ai ni ci B2 N (N + ni) hNq.out (by rw [hst.out, List.append_assoc]) hLq.out okq.out hby hnc2 (by omega) _ (gl.out _ hW) hrq.out (Nat.le_trans hBB2 (Nat.le_trans hB0 hW.size))) ?_)
   rintro e w7 ⟨h2, r2, rfl, ok2, bx⟩
   replace hp4 := blB hp4 bx
   replace hp5 := blB hp5 bx
   replace hW := trB hW hB0 bx
   clear bx
   refine ⟨_, rfl, hK.out _ _ ?_⟩
   clear hK K
   simp only [Ls]
   refine runSL (w7.setRow p5 (stL true h2 r2 (N + ni))) rfl (by rfl) (exec_storeRow 94 (.tmp 5) (.tmp 21) rfl p5 rfl (stL true h2 r2 (N + ni)) rfl 94 (stL true h r N) hp5 (sz_eq (szS _ _ _ _ okq.out.hl okq.out.len) (szS _ _ _ _ ok2.hl ok2.len)) (szS _ _ _ _ ok2.hl ok2.len) (stL_one _ _ _ _)) ?_
   replace hp4 := hp4.rowFar (show p5 ≠ p4 from (by omega)) (stL true h2 r2 (N + ni))
   replace hp5 := hp5.row (stL true h2 r2 (N + ni))
   replace hW := below_setRow hW lw_p5 (stL true h2 r2 (N + ni))
   generalize w7.setRow p5 (stL true h2 r2 (N + ni)) = w8 at *
   refine nilL ?_
   go_wp2
   go_roundw
   case rel => exact ⟨k + 1, N + ni, h2, r2, by omega, by go_num, hLq.out, ok2, hp4, hp5, hW⟩
   case measure => simp [intOf]; omega
  ·
   obtain rfl : n2 = k := by omega
   have hfl : (ms.take n2).flatten = ms.flatten := by rw [List.take_of_length_le (by omega)]
   have hflq := Lib.hid hfl
   clear hfl
   go_upto_region 7 with fail
   refine wl_lit ?_
   refine runL 23 (.agg (stL true h r N)) rfl (by rfl) (exec_row 94 (.tmp 5) rfl p5 rfl 94 (stL true h r N) _ hp5 (by exact Tryd.underlying94) rfl (szS _ _ _ _ okq.out.hl okq.out.len)) ?_
   simp only [Ls]
   refine callL 24 rfl (by rfl) (fun K hK => wp_callF 53 #[.agg (stL true h r N)] (by go_simp) (sum_to (kx key 54 ++ (ms.take n2).flatten) h r N hNq.out okq.out (by omega) _ (gl.out _ hW)) ?_)
   rintro e w9 ⟨rfl, bx⟩
   replace hp4 := blB hp4 bx
   replace hp5 := blB hp5 bx
   replace hW := trB hW hB0 bx
   clear bx
   refine ⟨_, rfl, hK.out _ _ ?_⟩
   clear hK K
   simp only [Ls]
   refine runWL 8 (.pointer (some ⟨w9.heap.size, 0, none⟩)) (w9.alloc (.cells (va .u8 (List.replicate 32 0)) 45)) rfl (by rfl) (exec_allocV 45 rfl _ (zv_api_Digest _)) ?_
   simp only [Ls]
   have lp4_p8 := hp4.lt
   have lp5_p8 := hp5.lt
   have lw_p8 := Nat.le_trans hB0 hW.size
   have hp8 := Blk.new w9 45 (va .u8 (List.replicate 32 0))
   have bx := bAl w9 (.cells (va .u8 (List.replicate 32 0)) 45)
   replace hp4 := blB hp4 bx
   replace hp5 := blB hp5 bx
   replace hW := trB hW hB0 bx
   clear bx
   generalize w9.alloc (.cells (va .u8 (List.replicate 32 0)) 45) = w10 at *
   generalize w9.heap.size = p8 at hp8 lw_p8 lp4_p8 lp5_p8 ⊢
   refine runSL (w10.setRow p8 (va .u8 (sha (kx key 54 ++ (ms.take n2).flatten)))) rfl (by rfl) (exec_storeRow 45 (.tmp 8) (.tmp 24) rfl p8 rfl (va .u8 (sha (kx key 54 ++ (ms.take n2).flatten))) rfl 45 (va .u8 (List.replicate 32 0)) hp8 (sz_eq (sz_api_Digest _ (List.length_replicate)) (sz_api_Digest _ (sha_len' _))) (sz_api_Digest _ (sha_len' _)) (va_ones .u8 _)) ?_
   replace hp4 := hp4.rowFar (show p8 ≠ p4 from (by omega)) (va .u8 (sha (kx key 54 ++ (ms.take n2).flatten)))
   replace hp5 := hp5.rowFar (show p8 ≠ p5 from (by omega)) (va .u8 (sha (kx key 54 ++ (ms.take n2).flatten)))
   replace hp8 := hp8.row (va .u8 (sha (kx key 54 ++ (ms.take n2).flatten)))
   replace hW := below_setRow hW lw_p8 (va .u8 (sha (kx key 54 ++ (ms.take n2).flatten)))
   generalize w10.setRow p8 (va .u8 (sha (kx key 54 ++ (ms.take n2).flatten))) = w11 at *
   refine nilL ?_
   go_upto_region 8 with fail
   replace hp4 := hp4.drew
   refine wp_region_held_drew (S := fun wr => Blk wr p5 94 (stL true h r N) ∧ Blk wr p8 45 (va .u8 (sha (kx key 54 ++ (ms.take n2).flatten))) ∧ Below B0 w wr) (by kernel_rfl) ⟨hp5.drew, hp8.drew, below_drewN hW 1⟩ (fun hH => ?_)
   clear hp5 hp8 hW
   obtain ⟨hp5, hp8, hW⟩ := hH
   generalize w11.drew = w12 at *
   refine takeH 5 0 25 (.slice A n c) rfl rfl (by kernel_rfl) (by kernel_rfl) (by kernel_rfl) (fun _ _ _ h => h) (Or.inl ⟨by rfl, fun w _ => by go_simp⟩) ⟨hp5, hp8, hW⟩ ?_
   simp only [Ls]
   refine takeH 4 2 27 (.slice (some ⟨p8, 0, none⟩) 32 32) rfl rfl (by kernel_rfl) (by kernel_rfl) (by kernel_rfl) (fun _ _ _ h => h) (Or.inl ⟨by rfl, fun w _ => by go_simp⟩) ⟨hp5, hp8, hW⟩ ?_
   simp only [Ls]
   refine wpAnyH_ready (by kernel_rfl) (by simp) (readyCons 3 1 26 rfl rfl (by rfl) (fun K hK => wp_callF 52 #[.slice A n c, .int .u8 92] (by go_simp) (padded_any key A n c 92 B (by omega) hk hnc hn _ (gl.out _ hW) (rd.out _ hW) (Nat.le_trans hBB (Nat.le_trans hB0 hW.size))) ?_) AllReadyH.nil)
   rintro e w13 ⟨g2, rfl, hg2, hgg, bx⟩
   have lp4_g2 : p4 < g2 := Nat.lt_of_lt_of_le hp4.lt hgg
   have lp5_g2 : p5 < g2 := Nat.lt_of_lt_of_le hp5.lt hgg
   have lp8_g2 : p8 < g2 := Nat.lt_of_lt_of_le hp8.lt hgg
   have lw_g2 : B0 ≤ g2 := Nat.le_trans (Nat.le_trans hB0 hW.size) hgg
   replace hp4 := blB hp4 bx
   replace hp5 := blB hp5 bx
   replace hp8 := blB hp8 bx
   replace hW := trB hW hB0 bx
   clear hgg
   clear bx
   refine ⟨_, rfl, hK.out _ _ ⟨hp5, hp8, hW⟩ (fun _ => ?_)⟩
   clear hK K
   simp only [Ls]
   refine wpAnyH_ready (by kernel_rfl) (by simp) (readyRun 2 3 28 (.slice (some ⟨w13.heap.size, 0, none⟩) 2 2) (w13.alloc (.cells (#[.slice (some ⟨g2, 0, none⟩) 64 64, .slice (some ⟨p8, 0, none⟩) 32 32]) 34)) rfl rfl (by rfl) (exec_bslice 90 2 _ rfl _ (by exact bs_2 (some ⟨g2, 0, none⟩) 64 64 (some ⟨p8, 0, none⟩) 32 32 _)) ⟨hp5.alloc _, hp8.alloc _, hW.alloc (Nat.le_trans hB0 hW.size) _⟩ (fun _ => ?_) AllReadyH.nil)
   simp only [Ls]
   have lp4_q1 := hp4.lt
   have lp5_q1 := hp5.lt
   have lp8_q1 := hp8.lt
   have lg2_q1 := hg2.lt
   have lw_q1 := Nat.le_trans hB0 hW.size
   have hq1 : Blk (w13.alloc (.cells (#[.slice (some ⟨g2, 0, none⟩) 64 64, .slice (some ⟨p8, 0, none⟩) 32 32]) 34)) w13.heap.size 34 (#[.slice (some ⟨g2, 0, none⟩) 64 64, .slice (some ⟨p8, 0, none⟩) 32 32]) := Blk.new _ _ _
   have bx := bAl w13 (.cells (#[.slice (some ⟨g2, 0, none⟩) 64 64, .slice (some ⟨p8, 0, none⟩) 32 32]) 34)
   replace hp4 := blB hp4 bx
   replace hp5 := blB hp5 bx
   replace hp8 := blB hp8 bx
   clear bx
   replace hg2 := hg2.alloc (.cells (#[.slice (some ⟨g2, 0, none⟩) 64 64, .slice (some ⟨p8, 0, none⟩) 32 32]) 34)
   replace hW := alB hW hB0 (.cells (#[.slice (some ⟨g2, 0, none⟩) 64 64, .slice (some ⟨p8, 0, none⟩) 32 32]) 34)
   generalize w13.alloc (.cells (#[.slice (some ⟨g2, 0, none⟩) 64 64, .slice (some ⟨p8, 0, none⟩) 32 32]) 34) = w14 at *
   generalize w13.heap.size = q1 at hq1 lw_q1 lp4_q1 lp5_q1 lp8_q1 lg2_q1 ⊢
   refine wpAnyH_ready (by kernel_rfl) (by simp) (readyCons 1 4 29 rfl rfl (by rfl) (fun K hK => wp_callF 54 #[.slice (some ⟨q1, 0, none⟩) 2 2] (by go_simp) (ofp [kx key 92, sha (kx key 54 ++ (ms.take n2).flatten)] (kx key 92 ++ sha (kx key 54 ++ (ms.take n2).flatten)) (by simp) 2 2 _ _ (gl.out _ hW) (parts_two hg2.lt hp8.lt hq1 (hg2.readsAll (Nat.lt_succ_self _) (kx_len _ _)) (Nat.le_refl _) (kx_byt _ _ hk (by omega)) (hp8.readsAll (Nat.lt_succ_self _) (sha_len' _)) (Nat.le_refl _) (sha_byt _)) (by omega) (by rw [List.length_append, kx_len, sha_len']; omega)) ?_) AllReadyH.nil)
   rintro e w15 ⟨rfl, bx⟩
   replace hp4 := blB hp4 bx
   replace hp5 := blB hp5 bx
   replace hp8 := blB hp8 bx
   replace hg2 := blB hg2 bx
   replace hq1 := blB hq1 bx
   replace hW := trB hW hB0 bx
   clear bx
   refine ⟨_, rfl, hK.out _ _ ⟨hp5, hp8, hW⟩ (fun _ => ?_)⟩
   clear hK K
   simp only [Ls]
   refine wpAnyH_ready (by kernel_rfl) (by simp) (readyRunS 0 5 (w15.setRow p4 (va .u8 (sha (kx key 92 ++ sha (kx key 54 ++ (ms.take n2).flatten))))) rfl rfl (by rfl) (exec_storeRow 45 (.tmp 4) (.tmp 29) rfl p4 rfl (va .u8 (sha (kx key 92 ++ sha (kx key 54 ++ (ms.take n2).flatten)))) rfl 45 (va .u8 (List.replicate 32 0)) hp4 (sz_eq (sz_api_Digest _ (List.length_replicate)) (sz_api_Digest _ (sha_len' _))) (sz_api_Digest _ (sha_len' _)) (va_ones .u8 _)) ⟨hp5.rowFar (show p4 ≠ p5 from (by omega)) _, hp8.rowFar (show p4 ≠ p8 from (by omega)) _, below_setRow hW lw_p4 _⟩ (fun _ => ?_) AllReadyH.nil)
   replace hp5 := hp5.rowFar (show p4 ≠ p5 from (by omega)) (va .u8 (sha (kx key 92 ++ sha (kx key 54 ++ (ms.take n2).flatten))))
   replace hp8 := hp8.rowFar (show p4 ≠ p8 from (by omega)) (va .u8 (sha (kx key 92 ++ sha (kx key 54 ++ (ms.take n2).flatten))))
   replace hg2 := hg2.rowFar (show p4 ≠ g2 from (by omega)) (va .u8 (sha (kx key 92 ++ sha (kx key 54 ++ (ms.take n2).flatten))))
   replace hq1 := hq1.rowFar (show p4 ≠ q1 from (by omega)) (va .u8 (sha (kx key 92 ++ sha (kx key 54 ++ (ms.take n2).flatten))))
   replace hp4 := hp4.row (va .u8 (sha (kx key 92 ++ sha (kx key 54 ++ (ms.take n2).flatten))))
   replace hW := below_setRow hW lw_p4 (va .u8 (sha (kx key 92 ++ sha (kx key 54 ++ (ms.take n2).flatten))))
   generalize w15.setRow p4 (va .u8 (sha (kx key 92 ++ sha (kx key 54 ++ (ms.take n2).flatten)))) = w16 at *
   refine wpAnyH_done (by kernel_rfl) ?_ _
   go_wp2_with fail
   exact bodyPost_ret (results_cell_row rfl _ _ p4 45 (va .u8 (sha (kx key 92 ++ sha (kx key 54 ++ (ms.take n2).flatten)))) (0, 0) _ rfl hp4 (by exact Tryd.underlying45) rfl (sz_api_Digest _ (sha_len' _))) rfl ⟨by rw [hm, hflq.out], hW⟩
end Go.Proofs.YtcfddmplnoknlaaDoor
namespace Go.Proofs.YtcfddmplnoknlaaDoor
set_option maxRecDepth 16384
open Go.RowKit Sh

theorem rrotr_val (x n : Nat) (hx : x < 4294967296) :
  bits BinOp.or IntKind.u32 ((x : Int) / 2 ^ n) ((x : Int) * 2 ^ (32 - n) % 4294967296) = ((rotr x n : Nat) : Int) := by
 have e1 : ((x : Int) * 2 ^ (32 - n) % 4294967296) = ((x * 2 ^ (32 - n) % 4294967296 : Nat) : Int) := by
  rw [Int.natCast_emod, Int.natCast_mul, Int.natCast_pow]; rfl
 have e2 := shr_nat x n
 rw [e1, e2, u32_or_nat _ _ (Nat.lt_of_le_of_lt (Nat.div_le_self _ _) hx) (Nat.mod_lt _ (by omega))]
 unfold rotr
 rw [Nat.shiftLeft_eq, Nat.shiftRight_eq_div_pow]

set_option maxHeartbeats 400000 in
theorem rrotr_any (x n : Nat) (hx : x < 4294967296) (h1 : 1 ≤ n) (hn : n ≤ 31) (w : World) :
  Calls Tryd.prog 84 #[.int .u32 (x : Int), .int .i64 (n : Int)] w fun e w' => e = .returned (.int .u32 (rotr x n : Nat)) ∧ ∃ j, w' = w.drewN j := by
 have hv := rrotr_val x n hx
 have h32 : (32 - (n : Int)).toNat = 32 - n := by omega
 have hn1 : 0 ≤ (n : Int) := by omega
 have hn2 : (n : Int) ≤ 31 := by omega
 have hn3 : 0 ≤ 32 - (n : Int) := by omega
 have w3 : IntKind.i64.wrap (32 - (n : Int)) = 32 - (n : Int) := IntWalk.i64_in _ (by omega)
 go_enter Tryd.func84, Tryd.ntmps84
 go_wp2
 go_quiet (fail)
 go_wp2
 go_ret
 exact ⟨rfl, _, rfl⟩

theorem rrotr_lit (x : Nat) (n : Int) (m : Nat) (hm : n = (m : Int)) (hx : x < 4294967296) (h1 : 1 ≤ m) (hn : m ≤ 31) (w : World) :
  Calls Tryd.prog 84 #[.int .u32 (x : Int), .int .i64 n] w fun e w' => e = .returned (.int .u32 (rotr x m : Nat)) ∧ ∃ j, w' = w.drewN j := by
 subst hm; exact rrotr_any x m hx h1 hn w
theorem results_two_rows {P : Program} {fn : Func} {p p2 : Tmp} {ty ty2 : TypeId} (h : fn.results = #[.cell p ty, .cell p2 ty2]) (tmps : Array Value) (w : World) (g g2 : Nat) (t t2 : TypeId) (cs cs2 : Array Value) (d d2 : TypeDesc)
  (hp : tmps.getD p undef = .pointer (some ⟨g, 0, none⟩)) (hp2 : tmps.getD p2 undef = .pointer (some ⟨g2, 0, none⟩)) (hg : Blk w g t cs) (hg2 : Blk w g2 t2 cs2)
  (hu : P.underlying ty = some d) (hd : (match d with | .struct _ | .array _ _ => true | _ => false) = true) (hi : (P.info? ty).map (·.size) = some cs.size)
  (hu2 : P.underlying ty2 = some d2) (hd2 : (match d2 with | .struct _ | .array _ _ => true | _ => false) = true) (hi2 : (P.info? ty2).map (·.size) = some cs2.size) :
  (results fn tmps).run P w = .ok (.tuple #[.agg cs, .agg cs2]) w := by
 have hp' : tmps[p]?.getD undef = .pointer (some ⟨g, 0, none⟩) := by simpa using hp
 have hp2' : tmps[p2]?.getD undef = .pointer (some ⟨g2, 0, none⟩) := by simpa using hp2
 simp [results, h, hp', hp2', asAddr, run_loadVar_row w g t ty cs (0, 0) d hg hu hd hi, run_loadVar_row w g2 t2 ty2 cs2 (0, 0) d2 hg2 hu2 hd2 hi2]

theorem zvH (w : World) : (zeroValue 91).run Tryd.prog w = .ok (.agg (va .u32 z8)) w := by kernel_rfl

set_option maxRecDepth 100000 in
set_option maxHeartbeats 400000 in
theorem consts_any (w : World) :
  Calls Tryd.prog 73 #[] w fun e w' => e = .returned (.tuple #[.agg (va .u32 kL), .agg (va .u32 hL)]) ∧ Below w.heap.size w w' := by
 have hzv := zvW
 have hzh := zvH
 have b0 : Blk ((w.alloc (.cells (va .u32 z64) 123)).alloc (.cells (va .u32 z8) 91)) w.heap.size 123 (va .u32 z64) := (Blk.new _ _ _).alloc _
 have b1 : Blk ((w.alloc (.cells (va .u32 z64) 123)).alloc (.cells (va .u32 z8) 91)) (w.heap.size + 1) 91 (va .u32 z8) := by
  have := Blk.new (w.alloc (.cells (va .u32 z64) 123)) 91 (va .u32 z8)
  simpa using this
 have hb0 : Below w.heap.size w ((w.alloc (.cells (va .u32 z64) 123)).alloc (.cells (va .u32 z8) 91)) := ((Below.refl _ _).alloc (Nat.le_refl _) _).alloc (by simp) _
 have hst := run_storeBlk (P := Tryd.prog) b0 .u32 kL (by rw [va_size, z64_len, kL_len])
 have b0' := b0.row (va .u32 kL)
 have b1' := b1.rowFar (g' := w.heap.size) (by omega) (va .u32 kL)
 have hst2 := run_storeBlk (P := Tryd.prog) b1' .u32 hL (by rw [va_size, show z8.length = 8 from List.length_replicate .., hL_len])
 have b0'' := Lib.hid (b0'.rowFar (g' := w.heap.size + 1) (by omega) (va .u32 hL))
 have b1'' := Lib.hid (b1'.row (va .u32 hL))
 have hb2 := Lib.hid (below_setRow (below_setRow hb0 (Nat.le_refl _) (va .u32 kL)) (show w.heap.size ≤ w.heap.size + 1 from by omega) (va .u32 hL))
 have hv1 : (va .u32 kL).size = 64 := by rw [va_size, kL_len]
 have hv2 : (va .u32 hL).size = 8 := by rw [va_size, hL_len]
 have hs1 : (Tryd.prog.info? 123).map (·.size) = some (va .u32 kL).size := by rw [hv1]; kernel_rfl
 have hs2 : (Tryd.prog.info? 91).map (·.size) = some (va .u32 hL).size := by rw [hv2]; kernel_rfl
 have hs1' := Lib.hid hs1
 have hs2' := Lib.hid hs2
 clear b0 b1 hb0 b0' b1' hs1 hs2
 go_enter Tryd.func73, Tryd.ntmps73
 go_wp2_with (first
  | (refine wpList_buildv rfl 123 _ rfl (va .u32 kL) (by kernel_rfl) ?_)
  | (refine wpList_buildv rfl 91 _ rfl (va .u32 hL) (by kernel_rfl) ?_))
 exact bodyPost_ret (results_two_rows rfl _ _ w.heap.size (w.heap.size + 1) 123 91 (va .u32 kL) (va .u32 hL) _ _ rfl rfl b0''.out b1''.out Tryd.underlying123 rfl hs1'.out Tryd.underlying91 rfl hs2'.out) rfl
  ⟨rfl, hb2.out⟩
end Go.Proofs.YtcfddmplnoknlaaDoor
