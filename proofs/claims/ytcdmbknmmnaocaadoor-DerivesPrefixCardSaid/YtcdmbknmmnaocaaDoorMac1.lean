/-
  The walks of macs.Block, padded. (Printed by mk03.py.)
-/
import Derived.Test.YtcdmbknmmnaocaaDoorCopy
import Derived.Test.YtcdmbknmmnaocaaDoorXor
import Derived.Test.YtcdmbknmmnaocaaDoorDig6
import Derived.Test.YtcdmbknmmnaocaaDoorHld
namespace Go.Proofs.YtcdmbknmmnaocaaDoor
open Go.RowKit Sh
theorem sz__64_uint8 (l : List Nat) (h : l.length = 64) : (Tryd.prog.info? 55).map (·.size) = some (va .u8 l).size := by rw [va_size, h]; kernel_rfl
theorem zv__64_uint8 (w : World) : (zeroValue 55).run Tryd.prog w = .ok (.agg (va .u8 (List.replicate 64 0))) w := by kernel_rfl
theorem sz_api_Digest (l : List Nat) (h : l.length = 32) : (Tryd.prog.info? 25).map (·.size) = some (va .u8 l).size := by rw [va_size, h]; kernel_rfl
theorem zv_api_Digest (w : World) : (zeroValue 25).run Tryd.prog w = .ok (.agg (va .u8 (List.replicate 32 0))) w := by kernel_rfl

theorem glob_of {w : World} {B0 : Nat} (hg : Glob w) (e : w.heap.size = B0) : Hid (∀ W, Below B0 w W → Glob W) := Lib.hid fun W h => hg.below (by rw [e]; exact h)
theorem reads_of {w : World} {B B0 n : Nat} {A : Option Addr} {k : IntKind} {l : List Nat} (h : Reads w B 1 A n (nv k l)) (hB : B ≤ B0) : Hid (∀ W, Below B0 w W → Reads W B 1 A n (nv k l)) := Lib.hid fun W hb => h.below (hb.mono hB)
/-- Of of parts whose bytes are m -/
theorem ofp (ms : List (List Nat)) (m : List Nat) (hm : ms.flatten = m) (n c : Nat) (A : Option Addr) (w : World) (hg : Glob w) (hp : Parts w w.heap.size A n ms) (hn : n < 1000) (hlen : m.length < 1000000) :
    Calls Tryd.prog 26 #[.slice A n c] w fun e w' => e = .returned (.agg (va .u8 (sha m))) ∧ Below w.heap.size w w' := by
  subst hm; exact of_any ms n c _ A w hg hp (by omega) (Nat.le_refl _) (by omega)

set_option maxRecDepth 8000 in
set_option maxHeartbeats 1000000 in
theorem block_any (key : List Nat) (A : Option Addr) (n c B : Nat) (hk : Byt key) (hnc : n ≤ c) (hn : n < 100000) (w : World) (hg : Glob w) (hr : Reads w B 1 A n (nv .u8 key)) (hB : B ≤ w.heap.size) :
    Calls Tryd.prog 33 #[.slice A n c] w fun e w' => e = .returned (.agg (va .u8 (kb key))) ∧ Below w.heap.size w w' := by
  have hln := hr.len
  obtain ⟨B0, hB0e⟩ : ∃ b, w.heap.size = b := ⟨_, rfl⟩
  rw [hB0e]
  have hW : Below B0 w w := by rw [← hB0e]; exact Below.refl _ _
  have hB0 : B0 ≤ w.heap.size := by omega
  have hBB : B ≤ B0 := by omega
  have gl := glob_of hg hB0e
  have rd := reads_of hr hBB
  clear hg hr hB
  have hB0q := Lib.hid hB0e
  clear hB0e
  by_cases h64 : 64 < n
  ·
    have h64I : (64 : Int) < (n : Int) := by omega
    have hkc : kc key = sha key := by unfold kc; rw [if_pos (by omega)]
    go_enter Tryd.func33, Tryd.ntmps33
    go_upto_region 0 with fail
    refine wl_lit ?_
    refine runWL 2 (.pointer (some ⟨w.heap.size, 0, none⟩)) (w.alloc (.cells (va .u8 (List.replicate 64 0)) 55)) rfl (by rfl) (exec_allocV 55 rfl _ (zv__64_uint8 _)) ?_
    simp only [List.set_cons_zero, List.set_cons_succ]
    have lw_p2 := Nat.le_trans hB0 hW.size
    have hp2 : Blk (w.alloc (.cells (va .u8 (List.replicate 64 0)) 55)) w.heap.size 55 (va .u8 (List.replicate 64 0)) := Blk.new _ _ _
    replace hW := hW.alloc (Nat.le_trans hB0 hW.size) (.cells (va .u8 (List.replicate 64 0)) 55)
    generalize w.alloc (.cells (va .u8 (List.replicate 64 0)) 55) = w1 at *
    generalize w.heap.size = p2 at hp2 lw_p2  ⊢
    refine nilL ?_
    go_upto_region 1 with fail
    refine wl_lit ?_
    refine runL 4 (.slice (A) n c) rfl (by rfl) (by go_simp) ?_
    simp only [List.set_cons_zero, List.set_cons_succ]
    refine runL 5 (.int .i64 (n)) rfl (by rfl) (by go_simp) ?_
    simp only [List.set_cons_zero, List.set_cons_succ]
    refine runL 6 (.bool true) rfl (by rfl) (by go_simp) ?_
    simp only [List.set_cons_zero, List.set_cons_succ]
    refine nilL ?_
    go_upto_region 2 with fail
    refine wl_lit ?_
    refine runL 7 (.slice (A) n c) rfl (by rfl) (by go_simp) ?_
    simp only [List.set_cons_zero, List.set_cons_succ]
    refine runWL 8 (.slice (some ⟨w1.heap.size, 0, none⟩) 1 1) (w1.alloc (.cells (#[.slice (A) n c]) 22)) rfl (by rfl) (exec_bslice 52 1 _ rfl _ (by exact bs_1 (A) n c _)) ?_
    simp only [List.set_cons_zero, List.set_cons_succ]
    have lp2_q1 := hp2.lt
    have lw_q1 := Nat.le_trans hB0 hW.size
    have hq1 : Blk (w1.alloc (.cells (#[.slice (A) n c]) 22)) w1.heap.size 22 (#[.slice (A) n c]) := Blk.new _ _ _
    replace hp2 := hp2.alloc (.cells (#[.slice (A) n c]) 22)
    replace hW := hW.alloc (Nat.le_trans hB0 hW.size) (.cells (#[.slice (A) n c]) 22)
    generalize w1.alloc (.cells (#[.slice (A) n c]) 22) = w2 at *
    generalize w1.heap.size = q1 at hq1 lw_q1 lp2_q1 ⊢
    refine callL 9 rfl (by rfl) (fun K hK => wp_callF 26 #[.slice (some ⟨q1, 0, none⟩) 1 1] (by go_simp) (ofp [key] key (by simp) 1 1 _ _ (gl.out _ hW) (parts_one (Nat.le_trans hBB (Nat.le_trans hB0 hW.size)) hq1 (rd.out _ hW) hnc hk) (by omega) (by omega)) ?_)
    rintro e w3 ⟨rfl, bx⟩
    replace hp2 := hp2.below bx hp2.lt
    replace hq1 := hq1.below bx hq1.lt
    replace hW := hW.trans (bx.mono (Nat.le_trans hB0 hW.size))
    clear bx
    refine ⟨_, rfl, hK.out _ _ ?_⟩
    clear hK K
    simp only [List.set_cons_zero, List.set_cons_succ]
    refine runWL 3 (.pointer (some ⟨w3.heap.size, 0, none⟩)) (w3.alloc (.cells (va .u8 (List.replicate 32 0)) 25)) rfl (by rfl) (exec_allocV 25 rfl _ (zv_api_Digest _)) ?_
    simp only [List.set_cons_zero, List.set_cons_succ]
    have lp2_p3 := hp2.lt
    have lq1_p3 := hq1.lt
    have lw_p3 := Nat.le_trans hB0 hW.size
    have hp3 : Blk (w3.alloc (.cells (va .u8 (List.replicate 32 0)) 25)) w3.heap.size 25 (va .u8 (List.replicate 32 0)) := Blk.new _ _ _
    replace hp2 := hp2.alloc (.cells (va .u8 (List.replicate 32 0)) 25)
    replace hq1 := hq1.alloc (.cells (va .u8 (List.replicate 32 0)) 25)
    replace hW := hW.alloc (Nat.le_trans hB0 hW.size) (.cells (va .u8 (List.replicate 32 0)) 25)
    generalize w3.alloc (.cells (va .u8 (List.replicate 32 0)) 25) = w4 at *
    generalize w3.heap.size = p3 at hp3 lw_p3 lp2_p3 lq1_p3 ⊢
    refine runSL (w4.setRow p3 (va .u8 (sha key))) rfl (by rfl) (exec_storeRow 25 (.tmp 3) (.tmp 9) rfl p3 rfl (va .u8 (sha key)) rfl 25 (va .u8 (List.replicate 32 0)) hp3 (sz_eq (sz_api_Digest _ (List.length_replicate)) (sz_api_Digest _ (sha_len' _))) (sz_api_Digest _ (sha_len' _)) (va_ones .u8 _)) ?_
    replace hp2 := hp2.rowFar (show p3 ≠ p2 from (by omega)) (va .u8 (sha key))
    replace hq1 := hq1.rowFar (show p3 ≠ q1 from (by omega)) (va .u8 (sha key))
    replace hp3 := hp3.row (va .u8 (sha key))
    replace hW := below_setRow hW lw_p3 (va .u8 (sha key))
    generalize w4.setRow p3 (va .u8 (sha key)) = w5 at *
    refine nilL ?_
    go_upto_region 3 with fail
    refine wl_lit ?_
    refine runL 10 (.slice (some ⟨p3, 0, none⟩) 32 32) rfl (by rfl) (by go_simp) ?_
    simp only [List.set_cons_zero, List.set_cons_succ]
    refine runL 0 (.slice (some ⟨p3, 0, none⟩) 32 32) rfl (by rfl) (by go_simp) ?_
    simp only [List.set_cons_zero]
    refine nilL ?_
    go_upto_region 4 with fail
    refine wl_lit ?_
    refine runL 11 (.slice (some ⟨p2, 0, none⟩) 64 64) rfl (by rfl) (by go_simp) ?_
    simp only [List.set_cons_zero, List.set_cons_succ]
    refine runL 12 (.slice (some ⟨p3, 0, none⟩) 32 32) rfl (by rfl) (by go_simp) ?_
    simp only [List.set_cons_zero, List.set_cons_succ]
    refine runWL 13 (.int .i64 32) (w5.setRow p2 (va .u8 (kb key))) rfl (by rfl) (exec_copy _ _ _ _ rfl _ _ _ rfl rfl (copy_row _ _ _ Tryd.underlying22 p2 0 64 64 55 (List.replicate 64 0) hp2 (some ⟨p3, 0, none⟩) 32 32 _ (sha key) (hp3.readsAll (Nat.lt_succ_self _) (sha_len' _)) (by omega) (by simp) (kb key) (by simp [-List.reduceReplicate, kb, hkc, sha_len']))) ?_
    simp only [List.set_cons_zero, List.set_cons_succ]
    replace hq1 := hq1.rowFar (show p2 ≠ q1 from (by omega)) (va .u8 (kb key))
    replace hp3 := hp3.rowFar (show p2 ≠ p3 from (by omega)) (va .u8 (kb key))
    replace hp2 := hp2.row (va .u8 (kb key))
    replace hW := below_setRow hW lw_p2 (va .u8 (kb key))
    generalize w5.setRow p2 (va .u8 (kb key)) = w6 at *
    refine nilL ?_
    go_upto_region 5 with fail
    refine wl_lit ?_
    refine runL 14 (.agg (va .u8 (kb key))) rfl (by rfl) (exec_row 55 (.tmp 2) rfl p2 rfl 55 (va .u8 (kb key)) _ hp2 (by exact Tryd.underlying55) rfl (sz__64_uint8 _ (kb_len _))) ?_
    simp only [List.set_cons_zero, List.set_cons_succ]
    refine runSL (w6.setRow p2 (va .u8 (kb key))) rfl (by rfl) (exec_storeRow 55 (.tmp 2) (.tmp 14) rfl p2 rfl (va .u8 (kb key)) rfl 55 (va .u8 (kb key)) hp2 (sz_eq (sz__64_uint8 _ (kb_len _)) (sz__64_uint8 _ (kb_len _))) (sz__64_uint8 _ (kb_len _)) (va_ones .u8 _)) ?_
    replace hq1 := hq1.rowFar (show p2 ≠ q1 from (by omega)) (va .u8 (kb key))
    replace hp3 := hp3.rowFar (show p2 ≠ p3 from (by omega)) (va .u8 (kb key))
    replace hp2 := hp2.row (va .u8 (kb key))
    replace hW := below_setRow hW lw_p2 (va .u8 (kb key))
    generalize w6.setRow p2 (va .u8 (kb key)) = w7 at *
    refine nilL ?_
    go_wp2_with fail
    exact bodyPost_ret (results_cell_row rfl _ _ p2 55 (va .u8 (kb key)) (0, 0) _ rfl hp2 (by exact Tryd.underlying55) rfl (sz__64_uint8 _ (kb_len _))) rfl ⟨rfl, hW⟩
  ·
    have h64I : ¬ (64 : Int) < (n : Int) := by omega
    have hkc : kc key = key := by unfold kc; rw [if_neg (by omega)]
    go_enter Tryd.func33, Tryd.ntmps33
    go_upto_region 0 with fail
    refine wl_lit ?_
    refine runWL 2 (.pointer (some ⟨w.heap.size, 0, none⟩)) (w.alloc (.cells (va .u8 (List.replicate 64 0)) 55)) rfl (by rfl) (exec_allocV 55 rfl _ (zv__64_uint8 _)) ?_
    simp only [List.set_cons_zero, List.set_cons_succ]
    have lw_p2 := Nat.le_trans hB0 hW.size
    have hp2 : Blk (w.alloc (.cells (va .u8 (List.replicate 64 0)) 55)) w.heap.size 55 (va .u8 (List.replicate 64 0)) := Blk.new _ _ _
    replace hW := hW.alloc (Nat.le_trans hB0 hW.size) (.cells (va .u8 (List.replicate 64 0)) 55)
    generalize w.alloc (.cells (va .u8 (List.replicate 64 0)) 55) = w8 at *
    generalize w.heap.size = p2 at hp2 lw_p2  ⊢
    refine nilL ?_
    go_upto_region 1 with fail
    refine wl_lit ?_
    refine runL 4 (.slice (A) n c) rfl (by rfl) (by go_simp) ?_
    simp only [List.set_cons_zero, List.set_cons_succ]
    refine runL 5 (.int .i64 (n)) rfl (by rfl) (by go_simp) ?_
    simp only [List.set_cons_zero, List.set_cons_succ]
    refine runL 6 (.bool false) rfl (by rfl) (by go_simp) ?_
    simp only [List.set_cons_zero, List.set_cons_succ]
    refine nilL ?_
    go_upto_region 4 with fail
    refine wl_lit ?_
    refine runL 11 (.slice (some ⟨p2, 0, none⟩) 64 64) rfl (by rfl) (by go_simp) ?_
    simp only [List.set_cons_zero, List.set_cons_succ]
    refine runL 12 (.slice (A) n c) rfl (by rfl) (by go_simp) ?_
    simp only [List.set_cons_zero, List.set_cons_succ]
    refine runWL 13 (.int .i64 (n)) (w8.setRow p2 (va .u8 (kb key))) rfl (by rfl) (exec_copy _ _ _ _ rfl _ _ _ rfl rfl (copy_row _ _ _ Tryd.underlying22 p2 0 64 64 55 (List.replicate 64 0) hp2 (A) n c _ (key) (rd.out _ hW) (by omega) (by simp; omega) (kb key) (by simp [-List.reduceReplicate, kb, hkc, hln]))) ?_
    simp only [List.set_cons_zero, List.set_cons_succ]
    replace hp2 := hp2.row (va .u8 (kb key))
    replace hW := below_setRow hW lw_p2 (va .u8 (kb key))
    generalize w8.setRow p2 (va .u8 (kb key)) = w9 at *
    refine nilL ?_
    go_upto_region 5 with fail
    refine wl_lit ?_
    refine runL 14 (.agg (va .u8 (kb key))) rfl (by rfl) (exec_row 55 (.tmp 2) rfl p2 rfl 55 (va .u8 (kb key)) _ hp2 (by exact Tryd.underlying55) rfl (sz__64_uint8 _ (kb_len _))) ?_
    simp only [List.set_cons_zero, List.set_cons_succ]
    refine runSL (w9.setRow p2 (va .u8 (kb key))) rfl (by rfl) (exec_storeRow 55 (.tmp 2) (.tmp 14) rfl p2 rfl (va .u8 (kb key)) rfl 55 (va .u8 (kb key)) hp2 (sz_eq (sz__64_uint8 _ (kb_len _)) (sz__64_uint8 _ (kb_len _))) (sz__64_uint8 _ (kb_len _)) (va_ones .u8 _)) ?_
    replace hp2 := hp2.row (va .u8 (kb key))
    replace hW := below_setRow hW lw_p2 (va .u8 (kb key))
    generalize w9.setRow p2 (va .u8 (kb key)) = w10 at *
    refine nilL ?_
    go_wp2_with fail
    exact bodyPost_ret (results_cell_row rfl _ _ p2 55 (va .u8 (kb key)) (0, 0) _ rfl hp2 (by exact Tryd.underlying55) rfl (sz__64_uint8 _ (kb_len _))) rfl ⟨rfl, hW⟩

/-- the pad, i bytes of it being laid -/
def padl (c i : Nat) : List Nat := (List.range 64).map fun j => if j < i then c else 0
theorem padl_len (c i : Nat) : (padl c i).length = 64 := by simp [padl]
theorem padl_zero (c : Nat) : padl c 0 = List.replicate 64 0 := by
  apply ext_getD (by simp [padl])
  intro j hj
  rw [padl_len] at hj
  rw [padl, getD_map_range _ _ _ hj, if_neg (by omega), List.getD_eq_getElem?_getD, List.getElem?_replicate, if_pos hj]; rfl
theorem padl_all (c : Nat) : padl c 64 = List.replicate 64 c := by
  apply ext_getD (by rw [padl_len, List.length_replicate])
  intro j hj
  rw [padl_len] at hj
  rw [padl, getD_map_range _ _ _ hj, if_pos (by omega), List.getD_eq_getElem?_getD, List.getElem?_replicate, if_pos hj]; rfl
theorem padl_step (c i : Nat) (hi : i < 64) : (padl c i).set i c = padl c (i + 1) := by
  apply ext_getD (by rw [List.length_set, padl_len, padl_len])
  intro j hj
  rw [List.length_set, padl_len] at hj
  by_cases e : i = j
  · subst e
    rw [getD_set_eq (by rw [padl_len]; exact hi), padl, getD_map_range _ _ _ hj, if_pos (by omega)]
  · rw [Sh.getD_set_ne e, padl, getD_map_range _ _ _ hj, padl, getD_map_range _ _ _ hj]
    by_cases h : j < i
    · rw [if_pos h, if_pos (by omega)]
    · rw [if_neg h, if_neg (by omega)]

set_option maxRecDepth 8000 in
set_option maxHeartbeats 1000000 in
theorem padded_any (key : List Nat) (A : Option Addr) (n c x B : Nat) (hx : x < 256) (hk : Byt key) (hnc : n ≤ c) (hn : n < 100000) (w : World) (hg : Glob w) (hr : Reads w B 1 A n (nv .u8 key)) (hB : B ≤ w.heap.size) :
    Calls Tryd.prog 24 #[.slice A n c, .int .u8 (x : Int)] w fun e w' => ∃ g, e = .returned (.slice (some ⟨g, 0, none⟩) 64 64) ∧ Blk w' g 5 (va .u8 (kx key x)) ∧ w.heap.size ≤ g ∧ Below w.heap.size w w' := by
  obtain ⟨B0, hB0e⟩ : ∃ b, w.heap.size = b := ⟨_, rfl⟩
  rw [hB0e]
  have hW : Below B0 w w := by rw [← hB0e]; exact Below.refl _ _
  have hB0 : B0 ≤ w.heap.size := by omega
  have hBB : B ≤ B0 := by omega
  have gl := glob_of hg hB0e
  have rd := reads_of hr hBB
  clear hg hr hB
  have hB0q := Lib.hid hB0e
  clear hB0e
  go_enter Tryd.func24, Tryd.ntmps24
  go_upto_region 0 with fail
  refine wl_lit ?_
  refine runL 4 (.slice none 0 0) rfl (by rfl) (by go_simp) ?_
  simp only [List.set_cons_zero, List.set_cons_succ]
  refine nilL ?_
  go_upto_region 1 with fail
  refine wl_lit ?_
  refine runL 10 (.slice (A) n c) rfl (by rfl) (by go_simp) ?_
  simp only [List.set_cons_zero, List.set_cons_succ]
  refine callL 11 rfl (by rfl) (fun K hK => wp_callF 33 #[.slice (A) n c] (by go_simp) (block_any key A n c B hk hnc hn _ (gl.out _ hW) (rd.out _ hW) (Nat.le_trans hBB (Nat.le_trans hB0 hW.size))) ?_)
  rintro e w1 ⟨rfl, bx⟩
  replace hW := hW.trans (bx.mono (Nat.le_trans hB0 hW.size))
  clear bx
  refine ⟨_, rfl, hK.out _ _ ?_⟩
  clear hK K
  simp only [List.set_cons_zero, List.set_cons_succ]
  refine runWL 5 (.pointer (some ⟨w1.heap.size, 0, none⟩)) (w1.alloc (.cells (va .u8 (List.replicate 64 0)) 55)) rfl (by rfl) (exec_allocV 55 rfl _ (zv__64_uint8 _)) ?_
  simp only [List.set_cons_zero, List.set_cons_succ]
  have lw_p5 := Nat.le_trans hB0 hW.size
  have hp5 : Blk (w1.alloc (.cells (va .u8 (List.replicate 64 0)) 55)) w1.heap.size 55 (va .u8 (List.replicate 64 0)) := Blk.new _ _ _
  replace hW := hW.alloc (Nat.le_trans hB0 hW.size) (.cells (va .u8 (List.replicate 64 0)) 55)
  generalize w1.alloc (.cells (va .u8 (List.replicate 64 0)) 55) = w2 at *
  generalize w1.heap.size = p5 at hp5 lw_p5  ⊢
  refine runSL (w2.setRow p5 (va .u8 (kb key))) rfl (by rfl) (exec_storeRow 55 (.tmp 5) (.tmp 11) rfl p5 rfl (va .u8 (kb key)) rfl 55 (va .u8 (List.replicate 64 0)) hp5 (sz_eq (sz__64_uint8 _ (List.length_replicate)) (sz__64_uint8 _ (kb_len _))) (sz__64_uint8 _ (kb_len _)) (va_ones .u8 _)) ?_
  replace hp5 := hp5.row (va .u8 (kb key))
  replace hW := below_setRow hW lw_p5 (va .u8 (kb key))
  generalize w2.setRow p5 (va .u8 (kb key)) = w3 at *
  refine nilL ?_
  go_upto_region 2 with fail
  refine wl_lit ?_
  refine runWL 12 (.slice (some ⟨w3.heap.size, 0, none⟩) 64 64) (w3.alloc (.cells (va .u8 (List.replicate 64 0)) 5)) rfl (by rfl) (exec_makeB _ _ rfl 64 (by omega) rfl rfl) ?_
  simp only [List.set_cons_zero, List.set_cons_succ]
  have lp5_q1 := hp5.lt
  have lw_q1 := Nat.le_trans hB0 hW.size
  have hq1 : Blk (w3.alloc (.cells (va .u8 (List.replicate 64 0)) 5)) w3.heap.size 5 (va .u8 (List.replicate 64 0)) := Blk.new _ _ _
  replace hp5 := hp5.alloc (.cells (va .u8 (List.replicate 64 0)) 5)
  replace hW := hW.alloc (Nat.le_trans hB0 hW.size) (.cells (va .u8 (List.replicate 64 0)) 5)
  generalize w3.alloc (.cells (va .u8 (List.replicate 64 0)) 5) = w4 at *
  generalize w3.heap.size = q1 at hq1 lw_q1 lp5_q1 ⊢
  refine runL 6 (.slice (some ⟨q1, 0, none⟩) 64 64) rfl (by rfl) (by go_simp) ?_
  simp only [List.set_cons_zero, List.set_cons_succ]
  refine nilL ?_
  rw [← padl_zero x] at hq1
  go_wp2
  go_loopw [15] (fun s wr => ∃ i : Nat, i ≤ 64 ∧ s = .int .i64 (i : Int) ∧ Blk wr p5 55 (va .u8 (kb key)) ∧ Blk wr q1 5 (va .u8 (padl x i)) ∧ Below B0 w wr) (fun s _ => 64 - (intOf s).toNat)
  case atStart => exact ⟨0, by omega, rfl, hp5, hq1, hW⟩
  case round =>
    clear hp5 hq1 hW
    obtain ⟨i, hi, rfl, hp5, hq1, hW⟩ := hrel
    by_cases hlt : i < 64
    · have hltI : (i : Int) < 64 := by omega
      have hc := hq1.num (i := i) (by rw [padl_len]; exact hlt)
      have hf := hq1.frozen i
      have h1 := Lib.hid (hp5.far (p := ⟨q1, i, none⟩) (show p5 ≠ q1 by omega) (.int .u8 (x : Int)))
      have h2 := Lib.hid (hq1.setNum i x)
      have h3 := Lib.hid (hW.setCell (p := ⟨q1, i, none⟩) lw_q1 (.int .u8 (x : Int)))
      have h4 := Lib.hid (padl_step x i hlt)
      clear hp5 hq1 hW
      go_wp2
      go_roundw
      case rel => exact ⟨i + 1, by omega, by go_num, h1.out, by rw [← h4.out]; exact h2.out, h3.out⟩
      case measure => simp [intOf]; omega
    · obtain rfl : i = 64 := by omega
      rw [padl_all] at hq1
      clear hlt hi
      go_upto_region 8 with fail
      refine wl_lit ?_
      refine runL 24 (.slice (some ⟨p5, 0, none⟩) 64 64) rfl (by rfl) (by go_simp) ?_
      simp only [List.set_cons_zero, List.set_cons_succ]
      refine runL 25 (.slice (some ⟨q1, 0, none⟩) 64 64) rfl (by rfl) (by go_simp) ?_
      simp only [List.set_cons_zero, List.set_cons_succ]
      refine callL 26 rfl (by rfl) (fun K hK => wp_callF 34 #[.slice (some ⟨p5, 0, none⟩) 64 64, .slice (some ⟨q1, 0, none⟩) 64 64] (by go_simp) (xor_any (kb key) (List.replicate 64 x) _ _ 64 64 64 _ (kb_byt _ hk) (Byt.rep _ _ hx) (by omega) _ (hp5.readsAll hp5.lt (kb_len _)) (hq1.readsAll hq1.lt List.length_replicate) (Nat.le_refl _)) ?_)
      rintro e w5 ⟨g, rfl, hg, hgg, bx⟩
      have lp5_g : p5 < g := Nat.lt_of_lt_of_le hp5.lt hgg
      have lq1_g : q1 < g := Nat.lt_of_lt_of_le hq1.lt hgg
      have lw_g : B0 ≤ g := Nat.le_trans (Nat.le_trans hB0 hW.size) hgg
      replace hp5 := hp5.below bx hp5.lt
      replace hq1 := hq1.below bx hq1.lt
      replace hW := hW.trans (bx.mono (Nat.le_trans hB0 hW.size))
      clear hgg
      clear bx
      refine ⟨_, rfl, hK.out _ _ ?_⟩
      clear hK K
      simp only [List.set_cons_zero, List.set_cons_succ]
      refine runL 23 (.tuple #[.slice (some ⟨g, 0, none⟩) 64 64, .int .i64 0]) rfl (by rfl) (by go_simp) ?_
      simp only [List.set_cons_zero, List.set_cons_succ]
      refine runL 27 (.slice (some ⟨g, 0, none⟩) 64 64) rfl (by rfl) (by go_simp) ?_
      simp only [List.set_cons_zero, List.set_cons_succ]
      refine runL 28 (.int .i64 0) rfl (by rfl) (by go_simp) ?_
      simp only [List.set_cons_zero, List.set_cons_succ]
      refine runL 8 (.slice (some ⟨g, 0, none⟩) 64 64) rfl (by rfl) (by go_simp) ?_
      simp only [List.set_cons_zero, List.set_cons_succ]
      refine runL 9 (.int .i64 0) rfl (by rfl) (by go_simp) ?_
      simp only [List.set_cons_zero, List.set_cons_succ]
      refine nilL ?_
      go_upto_region 9 with fail
      refine wl_lit ?_
      refine runL 29 (.slice (some ⟨g, 0, none⟩) 64 64) rfl (by rfl) (by go_simp) ?_
      simp only [List.set_cons_zero, List.set_cons_succ]
      refine runL 4 (.slice (some ⟨g, 0, none⟩) 64 64) rfl (by rfl) (by go_simp) ?_
      simp only [List.set_cons_zero, List.set_cons_succ]
      refine nilL ?_
      go_wp2_with fail
      go_ret
      exact ⟨_, rfl, hg, lw_g, hW⟩
end Go.Proofs.YtcdmbknmmnaocaaDoor
