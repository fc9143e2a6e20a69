/-
  The walk of MacsVerify. (Printed by mk03.py.)
-/
import Derived.Test.YtfnhjbamomolfaaDoorMcLive
namespace Go.Proofs.YtfnhjbamomolfaaDoor
open Go.RowKit Sh

/-- the cells of a Z -/
def zV (tag : List Nat) (bit : Nat) : Array Value := (nv .u8 tag ++ [Value.int .u8 (bit : Int)]).toArray
theorem zV_bit (tag : List Nat) (bit : Nat) (h : tag.length = 32) : (zV tag bit)[32]? = some (.int .u8 ((bit : Nat) : Int)) := by
  simp [zV, nv, h]
theorem zV_range {W : World} {g : Nat} {T : TypeId} {tag : List Nat} {bit : Nat} (hb : Blk W g T (zV tag bit)) (h : tag.length = 32) : W.rangeAt g 0 (nv .u8 tag) := by
  have h1 := hb.range 0 32
  have e : ((zV tag bit).toList.drop 0).take 32 = nv .u8 tag := by
    simp only [zV, List.drop_zero]
    rw [List.take_left' (by rw [nv_len, h])]
  rwa [e] at h1
theorem zV_sz (tag : List Nat) (bit : Nat) (h : tag.length = 32) : (Tryd.prog.info? 35).map (·.size) = some (zV tag bit).size := by
  have e : (zV tag bit).size = 33 := by simp [zV, nv, h]
  have h0 : (Tryd.prog.info? 35).map (·.size) = some 33 := by kernel_rfl
  rw [e, h0]
theorem szL (tag : List Nat) (h : tag.length = 32) : (Tryd.prog.info? 30).map (·.size) = some (nv .u8 tag).length := by rw [nv_len, h]; kernel_rfl
theorem shl_lit (s : Nat) (hs : s < 8) : IntKind.u8.wrap ((2 : Int) ^ s) = ((2 ^ s : Nat) : Int) := by
  have h : s = 0 ∨ s = 1 ∨ s = 2 ∨ s = 3 ∨ s = 4 ∨ s = 5 ∨ s = 6 ∨ s = 7 := by omega
  rcases h with rfl | rfl | rfl | rfl | rfl | rfl | rfl | rfl <;> decide
theorem pow8 (s : Nat) (hs : s < 8) : 2 ^ s < 256 ∧ 0 < 2 ^ s := by
  have h : s = 0 ∨ s = 1 ∨ s = 2 ∨ s = 3 ∨ s = 4 ∨ s = 5 ∨ s = 6 ∨ s = 7 := by omega
  rcases h with rfl | rfl | rfl | rfl | rfl | rfl | rfl | rfl <;> decide
theorem set_ne (l : List Nat) (i p : Nat) (hi : i < l.length) (hp : 0 < p) : l.set i (l.getD i 0 ^^^ p) ≠ l := fun e => by
  have h1 : (l.set i (l.getD i 0 ^^^ p)).getD i 0 = l.getD i 0 := by rw [e]
  rw [getD_set_eq hi] at h1
  have h2 : l.getD i 0 ^^^ (l.getD i 0 ^^^ p) = l.getD i 0 ^^^ l.getD i 0 := by rw [h1]
  rw [← Nat.xor_assoc, Nat.xor_self, Nat.zero_xor] at h2
  omega

set_option maxRecDepth 8000 in
set_option maxHeartbeats 4000000 in
theorem lawVerify_any (key m tag : List Nat) (bit : Nat) (A : Option Addr) (n c B : Nat) (A2 : Option Addr) (n2 c2 B2 : Nat) (hk : Byt key) (hnc : n ≤ c) (hm0 : Byt m) (hnc2 : n2 ≤ c2) (htl : tag.length = 32) (ht : Byt tag) (hbit : bit < 256) (w : World) (hg : Glob w) (hr : Reads w B 1 A n (nv .u8 key)) (hB : B ≤ w.heap.size) (hr2 : Reads w B2 1 A2 n2 (nv .u8 m)) (hB2 : B2 ≤ w.heap.size) :
    Calls Tryd.prog 5 #[.slice A n c, .slice A2 n2 c2, .agg (zV tag bit)] w fun e w' => e = .returned (.bool true) ∧ Below w.heap.size w w' := by
  obtain ⟨B0, hB0e⟩ : ∃ b, w.heap.size = b := ⟨_, rfl⟩
  rw [hB0e]
  have hW : Below B0 w w := by rw [← hB0e]; exact Below.refl _ _
  have hB0 : B0 ≤ w.heap.size := by omega
  have hBB : B ≤ B0 := by omega
  have hBB2 : B2 ≤ B0 := by omega
  have gl := glob_of hg hB0e
  have rd := reads_of hr hBB
  have rd2 := reads_of hr2 hBB2
  clear hg hr hB hr2 hB2
  have hB0q := Lib.hid hB0e
  clear hB0e
  by_cases h200 : 200 < n
  ·
    have hI : (200 : Int) < (n : Int) := by omega
    go_enter Tryd.func5, Tryd.ntmps5
    go_upto_region 0 with fail
    refine wl_lit ?_
    refine runWL 5 (.pointer (some ⟨w.heap.size, 0, none⟩)) (w.alloc (.cells (zV tag bit) 35)) rfl (by rfl) (exec_box 35 (.tmp 2) rfl (.agg (zV tag bit)) rfl) ?_
    simp only [List.set_cons_zero, List.set_cons_succ]
    have lw_p5 := Nat.le_trans hB0 hW.size
    have hp5 : Blk (w.alloc (.cells (zV tag bit) 35)) w.heap.size 35 (zV tag bit) := Blk.new _ _ _
    replace hW := hW.alloc (Nat.le_trans hB0 hW.size) (.cells (zV tag bit) 35)
    generalize w.alloc (.cells (zV tag bit) 35) = w1 at *
    generalize w.heap.size = p5 at hp5 lw_p5  ⊢
    refine runL 6 (.bool false) rfl (by rfl) (by go_simp) ?_
    simp only [List.set_cons_zero, List.set_cons_succ]
    refine nilL ?_
    go_upto_region 1 with fail
    refine wl_lit ?_
    refine runL 9 (.slice (A) n c) rfl (by rfl) (by go_simp) ?_
    simp only [List.set_cons_zero, List.set_cons_succ]
    refine runL 10 (.int .i64 (n)) rfl (by rfl) (by go_simp) ?_
    simp only [List.set_cons_zero, List.set_cons_succ]
    refine runL 11 (.bool true) rfl (by rfl) (by go_simp) ?_
    simp only [List.set_cons_zero, List.set_cons_succ]
    refine runL 12 (.bool true) rfl (by rfl) (by go_simp) ?_
    simp only [List.set_cons_zero, List.set_cons_succ]
    refine skipL 13 rfl (by kernel_rfl) ?_
    simp only [List.set_cons_zero, List.set_cons_succ]
    refine skipL 14 rfl (by kernel_rfl) ?_
    simp only [List.set_cons_zero, List.set_cons_succ]
    refine skipL 15 rfl (by kernel_rfl) ?_
    simp only [List.set_cons_zero, List.set_cons_succ]
    refine runL 16 (.bool true) rfl (by rfl) (by go_simp) ?_
    simp only [List.set_cons_zero, List.set_cons_succ]
    refine nilL ?_
    go_upto_region 2 with fail
    refine wl_lit ?_
    refine callL 17 rfl (by rfl) (fun K hK => wp_callF 8 #[] (by go_simp) (lives_any _ (gl.out _ hW)) ?_)
    rintro e w2 ⟨rfl, bx⟩
    replace hp5 := hp5.below bx hp5.lt
    replace hW := hW.trans (bx.mono (Nat.le_trans hB0 hW.size))
    clear bx
    refine ⟨_, rfl, hK.out _ _ ?_⟩
    clear hK K
    simp only [List.set_cons_zero, List.set_cons_succ]
    refine runL 6 (.bool true) rfl (by rfl) (by go_simp) ?_
    simp only [List.set_cons_zero, List.set_cons_succ]
    refine nilL ?_
    go_wp2_with fail
    go_ret
    exact ⟨rfl, hW⟩
  have hI : ¬ (200 : Int) < (n : Int) := by omega
  by_cases h202 : 200 < n2
  ·
    have hI5 : (200 : Int) < (n2 : Int) := by omega
    go_enter Tryd.func5, Tryd.ntmps5
    go_upto_region 0 with fail
    refine wl_lit ?_
    refine runWL 5 (.pointer (some ⟨w.heap.size, 0, none⟩)) (w.alloc (.cells (zV tag bit) 35)) rfl (by rfl) (exec_box 35 (.tmp 2) rfl (.agg (zV tag bit)) rfl) ?_
    simp only [List.set_cons_zero, List.set_cons_succ]
    have lw_p5 := Nat.le_trans hB0 hW.size
    have hp5 : Blk (w.alloc (.cells (zV tag bit) 35)) w.heap.size 35 (zV tag bit) := Blk.new _ _ _
    replace hW := hW.alloc (Nat.le_trans hB0 hW.size) (.cells (zV tag bit) 35)
    generalize w.alloc (.cells (zV tag bit) 35) = w3 at *
    generalize w.heap.size = p5 at hp5 lw_p5  ⊢
    refine runL 6 (.bool false) rfl (by rfl) (by go_simp) ?_
    simp only [List.set_cons_zero, List.set_cons_succ]
    refine nilL ?_
    go_upto_region 1 with fail
    refine wl_lit ?_
    refine runL 9 (.slice (A) n c) rfl (by rfl) (by go_simp) ?_
    simp only [List.set_cons_zero, List.set_cons_succ]
    refine runL 10 (.int .i64 (n)) rfl (by rfl) (by go_simp) ?_
    simp only [List.set_cons_zero, List.set_cons_succ]
    refine runL 11 (.bool false) rfl (by rfl) (by go_simp) ?_
    simp only [List.set_cons_zero, List.set_cons_succ]
    refine runL 12 (.bool false) rfl (by rfl) (by go_simp) ?_
    simp only [List.set_cons_zero, List.set_cons_succ]
    refine runL 13 (.slice (A2) n2 c2) rfl (by rfl) (by go_simp) ?_
    simp only [List.set_cons_zero, List.set_cons_succ]
    refine runL 14 (.int .i64 (n2)) rfl (by rfl) (by go_simp) ?_
    simp only [List.set_cons_zero, List.set_cons_succ]
    refine runL 15 (.bool true) rfl (by rfl) (by go_simp) ?_
    simp only [List.set_cons_zero, List.set_cons_succ]
    refine runL 16 (.bool true) rfl (by rfl) (by go_simp) ?_
    simp only [List.set_cons_zero, List.set_cons_succ]
    refine nilL ?_
    go_upto_region 2 with fail
    refine wl_lit ?_
    refine callL 17 rfl (by rfl) (fun K hK => wp_callF 8 #[] (by go_simp) (lives_any _ (gl.out _ hW)) ?_)
    rintro e w4 ⟨rfl, bx⟩
    replace hp5 := hp5.below bx hp5.lt
    replace hW := hW.trans (bx.mono (Nat.le_trans hB0 hW.size))
    clear bx
    refine ⟨_, rfl, hK.out _ _ ?_⟩
    clear hK K
    simp only [List.set_cons_zero, List.set_cons_succ]
    refine runL 6 (.bool true) rfl (by rfl) (by go_simp) ?_
    simp only [List.set_cons_zero, List.set_cons_succ]
    refine nilL ?_
    go_wp2_with fail
    go_ret
    exact ⟨rfl, hW⟩
  have hI5 : ¬ (200 : Int) < (n2 : Int) := by omega
  go_enter Tryd.func5, Tryd.ntmps5
  go_upto_region 0 with fail
  refine wl_lit ?_
  refine runWL 5 (.pointer (some ⟨w.heap.size, 0, none⟩)) (w.alloc (.cells (zV tag bit) 35)) rfl (by rfl) (exec_box 35 (.tmp 2) rfl (.agg (zV tag bit)) rfl) ?_
  simp only [List.set_cons_zero, List.set_cons_succ]
  have lw_p5 := Nat.le_trans hB0 hW.size
  have hp5 : Blk (w.alloc (.cells (zV tag bit) 35)) w.heap.size 35 (zV tag bit) := Blk.new _ _ _
  replace hW := hW.alloc (Nat.le_trans hB0 hW.size) (.cells (zV tag bit) 35)
  generalize w.alloc (.cells (zV tag bit) 35) = w5 at *
  generalize w.heap.size = p5 at hp5 lw_p5  ⊢
  refine runL 6 (.bool false) rfl (by rfl) (by go_simp) ?_
  simp only [List.set_cons_zero, List.set_cons_succ]
  refine nilL ?_
  go_upto_region 1 with fail
  refine wl_lit ?_
  refine runL 9 (.slice (A) n c) rfl (by rfl) (by go_simp) ?_
  simp only [List.set_cons_zero, List.set_cons_succ]
  refine runL 10 (.int .i64 (n)) rfl (by rfl) (by go_simp) ?_
  simp only [List.set_cons_zero, List.set_cons_succ]
  refine runL 11 (.bool false) rfl (by rfl) (by go_simp) ?_
  simp only [List.set_cons_zero, List.set_cons_succ]
  refine runL 12 (.bool false) rfl (by rfl) (by go_simp) ?_
  simp only [List.set_cons_zero, List.set_cons_succ]
  refine runL 13 (.slice (A2) n2 c2) rfl (by rfl) (by go_simp) ?_
  simp only [List.set_cons_zero, List.set_cons_succ]
  refine runL 14 (.int .i64 (n2)) rfl (by rfl) (by go_simp) ?_
  simp only [List.set_cons_zero, List.set_cons_succ]
  refine runL 15 (.bool false) rfl (by rfl) (by go_simp) ?_
  simp only [List.set_cons_zero, List.set_cons_succ]
  refine runL 16 (.bool false) rfl (by rfl) (by go_simp) ?_
  simp only [List.set_cons_zero, List.set_cons_succ]
  refine nilL ?_
  go_upto_region 3 with fail
  refine wl_lit ?_
  refine runL 18 (.slice (A) n c) rfl (by rfl) (by go_simp) ?_
  simp only [List.set_cons_zero, List.set_cons_succ]
  refine runL 19 (.slice (A2) n2 c2) rfl (by rfl) (by go_simp) ?_
  simp only [List.set_cons_zero, List.set_cons_succ]
  refine callL 20 rfl (by rfl) (fun K hK => wp_callF 11 #[.slice (A) n c, .slice (A2) n2 c2] (by go_simp) (rhm_any key m A n c B A2 n2 c2 B2 hk (by omega) hm0 (by omega) _ (rd.out _ hW) (Nat.le_trans hBB (Nat.le_trans hB0 hW.size)) (rd2.out _ hW) (Nat.le_trans hBB2 (Nat.le_trans hB0 hW.size))) ?_)
  rintro e w6 ⟨rfl, bx⟩
  replace hp5 := hp5.below bx hp5.lt
  replace hW := hW.trans (bx.mono (Nat.le_trans hB0 hW.size))
  clear bx
  refine ⟨_, rfl, hK.out _ _ ?_⟩
  clear hK K
  simp only [List.set_cons_zero, List.set_cons_succ]
  refine runWL 7 (.pointer (some ⟨w6.heap.size, 0, none⟩)) (w6.alloc (.cells (va .u8 (List.replicate 32 0)) 30)) rfl (by rfl) (exec_allocV 30 rfl _ (zv_api_Digest _)) ?_
  simp only [List.set_cons_zero, List.set_cons_succ]
  have lp5_p7 := hp5.lt
  have lw_p7 := Nat.le_trans hB0 hW.size
  have hp7 : Blk (w6.alloc (.cells (va .u8 (List.replicate 32 0)) 30)) w6.heap.size 30 (va .u8 (List.replicate 32 0)) := Blk.new _ _ _
  replace hp5 := hp5.alloc (.cells (va .u8 (List.replicate 32 0)) 30)
  replace hW := hW.alloc (Nat.le_trans hB0 hW.size) (.cells (va .u8 (List.replicate 32 0)) 30)
  generalize w6.alloc (.cells (va .u8 (List.replicate 32 0)) 30) = w7 at *
  generalize w6.heap.size = p7 at hp7 lw_p7 lp5_p7 ⊢
  refine runSL (w7.setRow p7 (va .u8 (hm key m))) rfl (by rfl) (exec_storeRow 30 (.tmp 7) (.tmp 20) rfl p7 rfl (va .u8 (hm key m)) rfl 30 (va .u8 (List.replicate 32 0)) hp7 (sz_eq (sz_api_Digest _ (List.length_replicate)) (sz_api_Digest _ (hm_len _ _))) (sz_api_Digest _ (hm_len _ _)) (va_ones .u8 _)) ?_
  replace hp5 := hp5.rowFar (show p7 ≠ p5 from (by omega)) (va .u8 (hm key m))
  replace hp7 := hp7.row (va .u8 (hm key m))
  replace hW := below_setRow hW lw_p7 (va .u8 (hm key m))
  generalize w7.setRow p7 (va .u8 (hm key m)) = w8 at *
  refine nilL ?_
  go_upto_region 4 with fail
  refine wl_lit ?_
  refine runL 21 (.agg (va .u8 (hm key m))) rfl (by rfl) (exec_row 30 (.tmp 7) rfl p7 rfl 30 (va .u8 (hm key m)) _ hp7 (by exact Tryd.underlying30) rfl (sz_api_Digest _ (hm_len _ _))) ?_
  simp only [List.set_cons_zero, List.set_cons_succ]
  refine runWL 8 (.pointer (some ⟨w8.heap.size, 0, none⟩)) (w8.alloc (.cells (va .u8 (List.replicate 32 0)) 30)) rfl (by rfl) (exec_allocV 30 rfl _ (zv_api_Digest _)) ?_
  simp only [List.set_cons_zero, List.set_cons_succ]
  have lp5_p8 := hp5.lt
  have lp7_p8 := hp7.lt
  have lw_p8 := Nat.le_trans hB0 hW.size
  have hp8 : Blk (w8.alloc (.cells (va .u8 (List.replicate 32 0)) 30)) w8.heap.size 30 (va .u8 (List.replicate 32 0)) := Blk.new _ _ _
  replace hp5 := hp5.alloc (.cells (va .u8 (List.replicate 32 0)) 30)
  replace hp7 := hp7.alloc (.cells (va .u8 (List.replicate 32 0)) 30)
  replace hW := hW.alloc (Nat.le_trans hB0 hW.size) (.cells (va .u8 (List.replicate 32 0)) 30)
  generalize w8.alloc (.cells (va .u8 (List.replicate 32 0)) 30) = w9 at *
  generalize w8.heap.size = p8 at hp8 lw_p8 lp5_p8 lp7_p8 ⊢
  refine runSL (w9.setRow p8 (va .u8 (hm key m))) rfl (by rfl) (exec_storeRow 30 (.tmp 8) (.tmp 21) rfl p8 rfl (va .u8 (hm key m)) rfl 30 (va .u8 (List.replicate 32 0)) hp8 (sz_eq (sz_api_Digest _ (List.length_replicate)) (sz_api_Digest _ (hm_len _ _))) (sz_api_Digest _ (hm_len _ _)) (va_ones .u8 _)) ?_
  replace hp5 := hp5.rowFar (show p8 ≠ p5 from (by omega)) (va .u8 (hm key m))
  replace hp7 := hp7.rowFar (show p8 ≠ p7 from (by omega)) (va .u8 (hm key m))
  replace hp8 := hp8.row (va .u8 (hm key m))
  replace hW := below_setRow hW lw_p8 (va .u8 (hm key m))
  generalize w9.setRow p8 (va .u8 (hm key m)) = w10 at *
  refine nilL ?_
  obtain ⟨e1, he1⟩ : ∃ e, bit / 8 = e := ⟨_, rfl⟩
  obtain ⟨i0, hi0⟩ : ∃ e, e1 % 32 = e := ⟨_, rfl⟩
  obtain ⟨s0, hs0⟩ : ∃ e, bit % 8 = e := ⟨_, rfl⟩
  obtain ⟨y, hy⟩ : ∃ y, (hm key m).getD i0 0 = y := ⟨_, rfl⟩
  have hs8 : s0 < 8 := by omega
  have hi32 : i0 < 32 := by omega
  have hiI : (i0 : Int) < 32 := by omega
  have hy256 : y < 256 := by rw [← hy]; exact (hm_byt key m).get i0
  have hq1 : (bit : Int).tdiv 8 = (e1 : Int) := by rw [Int.tdiv_eq_ediv_of_nonneg (by omega)]; omega
  have hq2 : (e1 : Int).tmod 32 = (i0 : Int) := by rw [Int.tmod_eq_emod_of_nonneg (by omega)]; omega
  have hq3 : (bit : Int).tmod 8 = (s0 : Int) := by rw [Int.tmod_eq_emod_of_nonneg (by omega)]; omega
  have hq4 : (bit : Int) / 8 = (e1 : Int) := by omega
  have hq5 : (e1 : Int) % 32 = (i0 : Int) := by omega
  have hq6 : (bit : Int) % 8 = (s0 : Int) := by omega
  have hsh := shl_lit s0 hs8
  have hp8 := pow8 s0 hs8
  obtain ⟨P, hP⟩ : ∃ P, 2 ^ s0 = P := ⟨_, rfl⟩
  rw [hP] at hsh hp8
  clear hP
  have hwb1 : IntKind.i64.wrap (bit : Int) = (bit : Int) := IntWalk.i64_in _ (by omega)
  have hwb2 : IntKind.i64.wrap (e1 : Int) = (e1 : Int) := IntWalk.i64_in _ (by omega)
  have hxr : bits BinOp.xor IntKind.u8 (y : Int) (P : Int) = ((y ^^^ P : Nat) : Int) := u8_xor_nat _ _ hy256 hp8.1
  have hset : (hm key m).set i0 (y ^^^ P) = (hm key m).set i0 (y ^^^ P) := rfl
  have hcne : hm key m ≠ (hm key m).set i0 (y ^^^ P) := fun e => set_ne (hm key m) i0 P (by rw [hm_len]; exact hi32) hp8.2 (by rw [hy]; exact e.symm)
  have hcb : Byt ((hm key m).set i0 (y ^^^ P)) := (hm_byt key m).set _ _ (xor256 hy256 hp8.1)
  have hcl : ((hm key m).set i0 (y ^^^ P)).length = 32 := by rw [List.length_set, hm_len]
  have hyq := Lib.hid hy
  have hcneq := Lib.hid hcne
  have hsetq := Lib.hid hset
  have hclq := Lib.hid hcl
  have hp8q := Lib.hid hp8
  clear hy hcne hset hcl hp8 he1 hi0 hs0
  go_upto_region 5 with fail
  replace hp8 := hp8.drew
  refine wp_region_held_drew (S := fun wr => Blk wr p5 35 (zV tag bit) ∧ Blk wr p7 30 (va .u8 (hm key m)) ∧ Below B0 w wr) (by kernel_rfl) ⟨hp5.drew, hp7.drew, below_drewN hW 1⟩ (fun hH => ?_)
  clear hp5 hp7 hW
  obtain ⟨hp5, hp7, hW⟩ := hH
  generalize w10.drew = w11 at *
  refine takeH 13 0 22 (.pointer (some ⟨p5, 32, none⟩)) rfl rfl (by kernel_rfl) (by kernel_rfl) (by kernel_rfl) (fun _ _ _ h => h) (Or.inl ⟨by rfl, fun w _ => by go_simp⟩) ⟨hp5, hp7, hW⟩ ?_
  simp only [List.set_cons_zero, List.set_cons_succ]
  refine takeH 12 1 23 (.int .u8 ((bit : Nat) : Int)) rfl rfl (by kernel_rfl) (by kernel_rfl) (by kernel_rfl) (fun _ _ _ h => h) (Or.inl ⟨by rfl, fun _ h => exec_cell 5 (.tmp 22) rfl p5 32 rfl (.int .u8 ((bit : Nat) : Int)) _ Tryd.underlying5 rfl (h.1.cellIs 32 (zV_bit _ _ htl))⟩) ⟨hp5, hp7, hW⟩ ?_
  simp only [List.set_cons_zero, List.set_cons_succ]
  refine takeH 11 2 24 (.int .i64 (bit : Int)) rfl rfl (by kernel_rfl) (by kernel_rfl) (by kernel_rfl) (fun _ _ _ h => h) (Or.inl ⟨by rfl, fun w _ => by go_simp⟩) ⟨hp5, hp7, hW⟩ ?_
  simp only [List.set_cons_zero, List.set_cons_succ]
  refine takeH 10 3 25 (.int .i64 (e1 : Int)) rfl rfl (by kernel_rfl) (by kernel_rfl) (by kernel_rfl) (fun _ _ _ h => h) (Or.inl ⟨by rfl, fun w _ => by go_simp⟩) ⟨hp5, hp7, hW⟩ ?_
  simp only [List.set_cons_zero, List.set_cons_succ]
  refine takeH 9 4 26 (.int .i64 (i0 : Int)) rfl rfl (by kernel_rfl) (by kernel_rfl) (by kernel_rfl) (fun _ _ _ h => h) (Or.inl ⟨by rfl, fun w _ => by go_simp⟩) ⟨hp5, hp7, hW⟩ ?_
  simp only [List.set_cons_zero, List.set_cons_succ]
  refine takeH 8 5 27 (.pointer (some ⟨p8, i0, none⟩)) rfl rfl (by kernel_rfl) (by kernel_rfl) (by kernel_rfl) (fun _ _ _ h => h) (Or.inl ⟨by rfl, fun w _ => by go_simp⟩) ⟨hp5, hp7, hW⟩ ?_
  simp only [List.set_cons_zero, List.set_cons_succ]
  refine takeH 7 7 29 (.pointer (some ⟨p5, 32, none⟩)) rfl rfl (by kernel_rfl) (by kernel_rfl) (by kernel_rfl) (fun _ _ _ h => h) (Or.inl ⟨by rfl, fun w _ => by go_simp⟩) ⟨hp5, hp7, hW⟩ ?_
  simp only [List.set_cons_zero, List.set_cons_succ]
  refine takeH 6 8 30 (.int .u8 ((bit : Nat) : Int)) rfl rfl (by kernel_rfl) (by kernel_rfl) (by kernel_rfl) (fun _ _ _ h => h) (Or.inl ⟨by rfl, fun _ h => exec_cell 5 (.tmp 29) rfl p5 32 rfl (.int .u8 ((bit : Nat) : Int)) _ Tryd.underlying5 rfl (h.1.cellIs 32 (zV_bit _ _ htl))⟩) ⟨hp5, hp7, hW⟩ ?_
  simp only [List.set_cons_zero, List.set_cons_succ]
  refine takeH 5 9 31 (.int .u8 ((s0 : Nat) : Int)) rfl rfl (by kernel_rfl) (by kernel_rfl) (by kernel_rfl) (fun _ _ _ h => h) (Or.inl ⟨by rfl, fun w _ => by go_simp⟩) ⟨hp5, hp7, hW⟩ ?_
  simp only [List.set_cons_zero, List.set_cons_succ]
  refine takeH 4 10 32 (.int .u8 ((P : Nat) : Int)) rfl rfl (by kernel_rfl) (by kernel_rfl) (by kernel_rfl) (fun _ _ _ h => h) (Or.inl ⟨by rfl, fun w _ => by go_simp⟩) ⟨hp5, hp7, hW⟩ ?_
  simp only [List.set_cons_zero, List.set_cons_succ]
  refine wpAnyH_ready (by kernel_rfl) (by simp) (readyRun 3 6 28 (.int .u8 ((y : Nat) : Int)) w11 rfl rfl (by rfl) (exec_cell 5 (.tmp 27) rfl p8 i0 rfl (.int .u8 ((y : Nat) : Int)) _ Tryd.underlying5 rfl (by rw [← hyq.out]; exact hp8.num (by rw [hm_len]; exact hi32))) ⟨hp5, hp7, hW⟩ (fun _ => ?_) AllReadyH.nil)
  simp only [List.set_cons_zero, List.set_cons_succ]
  refine takeH 2 11 33 (.int .u8 ((y ^^^ P : Nat) : Int)) rfl rfl (by kernel_rfl) (by kernel_rfl) (by kernel_rfl) (fun _ _ _ h => h) (Or.inl ⟨by rfl, fun w _ => by go_simp⟩) ⟨hp5, hp7, hW⟩ ?_
  simp only [List.set_cons_zero, List.set_cons_succ]
  refine takeH 1 12 34 (.pointer (some ⟨p8, i0, none⟩)) rfl rfl (by kernel_rfl) (by kernel_rfl) (by kernel_rfl) (fun _ _ _ h => h) (Or.inl ⟨by rfl, fun w _ => by go_simp⟩) ⟨hp5, hp7, hW⟩ ?_
  simp only [List.set_cons_zero, List.set_cons_succ]
  refine wpAnyH_ready (by kernel_rfl) (by simp) (readyRunS 0 13 (w11.setCell ⟨p8, i0, none⟩ (.int .u8 (((y ^^^ P) : Nat) : Int))) rfl rfl (by rfl) (exec_storeCell 5 (.tmp 34) (.tmp 33) rfl p8 i0 rfl (.int .u8 (((y ^^^ P) : Nat) : Int)) rfl rfl rfl 30 (va .u8 (hm key m)) hp8 (by rw [va_size, (hm_len _ _)]; exact hi32) (by kernel_rfl)) ⟨hp5.far (p := ⟨p8, i0, none⟩) (show p5 ≠ p8 from (by omega)) _, hp7.far (p := ⟨p8, i0, none⟩) (show p7 ≠ p8 from (by omega)) _, hW.setCell (p := ⟨p8, i0, none⟩) lw_p8 _⟩ (fun _ => ?_) AllReadyH.nil)
  replace hp5 := hp5.far (p := ⟨p8, i0, none⟩) (show p5 ≠ p8 from (by omega)) (.int .u8 (((y ^^^ P) : Nat) : Int))
  replace hp7 := hp7.far (p := ⟨p8, i0, none⟩) (show p7 ≠ p8 from (by omega)) (.int .u8 (((y ^^^ P) : Nat) : Int))
  replace hp8 : Blk (w11.setCell ⟨p8, i0, none⟩ (.int .u8 (((y ^^^ P) : Nat) : Int))) p8 30 (va .u8 ((hm key m).set i0 (y ^^^ P))) := by rw [← hsetq.out]; exact hp8.setNum i0 ((y ^^^ P))
  replace hW := hW.setCell (p := ⟨p8, i0, none⟩) lw_p8 (.int .u8 (((y ^^^ P) : Nat) : Int))
  generalize w11.setCell ⟨p8, i0, none⟩ (.int .u8 (((y ^^^ P) : Nat) : Int)) = w12 at *
  refine wpAnyH_done (by kernel_rfl) ?_ _
  clear hwb1 hwb2 hsh hxr hq1 hq2 hq3 hq4 hq5 hq6
  by_cases hE : hm key m = tag
  ·
    have hd1 := Lib.hid (decide_eq_true hE)
    have hd2 : Hid (decide (tag = hm key m) = true) := Lib.hid (decide_eq_true hE.symm)
    clear hE
    go_upto_region 6 with fail
    refine wp_region_held_drew (S := fun wr => Blk wr p5 35 (zV tag bit) ∧ Blk wr p7 30 (va .u8 (hm key m)) ∧ Blk wr p8 30 (va .u8 ((hm key m).set i0 (y ^^^ P))) ∧ Below B0 w wr) (by kernel_rfl) ⟨hp5.drew, hp7.drew, hp8.drew, below_drewN hW 1⟩ (fun hH => ?_)
    clear hp5 hp7 hp8 hW
    obtain ⟨hp5, hp7, hp8, hW⟩ := hH
    generalize w12.drew = w13 at *
    refine takeH 26 0 35 (.slice (A) n c) rfl rfl (by kernel_rfl) (by kernel_rfl) (by kernel_rfl) (fun _ _ _ h => h) (Or.inl ⟨by rfl, fun w _ => by go_simp⟩) ⟨hp5, hp7, hp8, hW⟩ ?_
    simp only [List.set_cons_zero, List.set_cons_succ]
    refine takeH 25 1 36 (.slice (A2) n2 c2) rfl rfl (by kernel_rfl) (by kernel_rfl) (by kernel_rfl) (fun _ _ _ h => h) (Or.inl ⟨by rfl, fun w _ => by go_simp⟩) ⟨hp5, hp7, hp8, hW⟩ ?_
    simp only [List.set_cons_zero, List.set_cons_succ]
    refine takeH 24 2 37 (.agg (va .u8 (hm key m))) rfl rfl (by kernel_rfl) (by kernel_rfl) (by kernel_rfl) (fun _ _ _ h => h) (Or.inl ⟨by rfl, fun _ h => exec_row 30 (.tmp 7) rfl p7 rfl 30 (va .u8 (hm key m)) _ h.2.1 (by exact Tryd.underlying30) rfl (sz_api_Digest _ (hm_len _ _))⟩) ⟨hp5, hp7, hp8, hW⟩ ?_
    simp only [List.set_cons_zero, List.set_cons_succ]
    refine wpAnyH_ready (by kernel_rfl) (by simp) (readyCons 23 3 38 rfl rfl (by rfl) (fun K hK => wp_callF 13 #[.slice (A) n c, .slice (A2) n2 c2, .agg (va .u8 (hm key m))] (by go_simp) (verify_to true (key) (m) (hm key m) _ n c _ _ n2 c2 _ (by simp) hk hnc (by omega) hm0 hnc2 (by omega) (hm_byt _ _) (hm_len _ _) _ (gl.out _ hW) (rd.out _ hW) (Nat.le_trans hBB (Nat.le_trans hB0 hW.size)) (rd2.out _ hW) (Nat.le_trans hBB2 (Nat.le_trans hB0 hW.size))) ?_) AllReadyH.nil)
    rintro e w14 ⟨rfl, bx⟩
    replace hp5 := hp5.below bx hp5.lt
    replace hp7 := hp7.below bx hp7.lt
    replace hp8 := hp8.below bx hp8.lt
    replace hW := hW.trans (bx.mono (Nat.le_trans hB0 hW.size))
    clear bx
    refine ⟨_, rfl, hK.out _ _ ⟨hp5, hp7, hp8, hW⟩ (fun _ => ?_)⟩
    clear hK K
    simp only [List.set_cons_zero, List.set_cons_succ]
    refine takeH 22 4 39 (.bool true) rfl rfl (by kernel_rfl) (by kernel_rfl) (by kernel_rfl) (fun _ _ _ h => h) (Or.inl ⟨by rfl, fun w _ => by go_simp⟩) ⟨hp5, hp7, hp8, hW⟩ ?_
    simp only [List.set_cons_zero, List.set_cons_succ]
    refine takeH 21 5 40 (.slice (A) n c) rfl rfl (by kernel_rfl) (by kernel_rfl) (by kernel_rfl) (fun _ _ _ h => h) (Or.inl ⟨by rfl, fun w _ => by go_simp⟩) ⟨hp5, hp7, hp8, hW⟩ ?_
    simp only [List.set_cons_zero, List.set_cons_succ]
    refine takeH 20 6 41 (.slice (A2) n2 c2) rfl rfl (by kernel_rfl) (by kernel_rfl) (by kernel_rfl) (fun _ _ _ h => h) (Or.inl ⟨by rfl, fun w _ => by go_simp⟩) ⟨hp5, hp7, hp8, hW⟩ ?_
    simp only [List.set_cons_zero, List.set_cons_succ]
    refine takeH 19 7 42 (.agg (va .u8 ((hm key m).set i0 (y ^^^ P)))) rfl rfl (by kernel_rfl) (by kernel_rfl) (by kernel_rfl) (fun _ _ _ h => h) (Or.inl ⟨by rfl, fun _ h => exec_row 30 (.tmp 8) rfl p8 rfl 30 (va .u8 ((hm key m).set i0 (y ^^^ P))) _ h.2.2.1 (by exact Tryd.underlying30) rfl (sz_api_Digest _ (hclq.out))⟩) ⟨hp5, hp7, hp8, hW⟩ ?_
    simp only [List.set_cons_zero, List.set_cons_succ]
    refine wpAnyH_ready (by kernel_rfl) (by simp) (readyCons 18 8 43 rfl rfl (by rfl) (fun K hK => wp_callF 13 #[.slice (A) n c, .slice (A2) n2 c2, .agg (va .u8 ((hm key m).set i0 (y ^^^ P)))] (by go_simp) (verify_to false (key) (m) ((hm key m).set i0 (y ^^^ P)) _ n c _ _ n2 c2 _ (decide_eq_false hcneq.out) hk hnc (by omega) hm0 hnc2 (by omega) hcb (hclq.out) _ (gl.out _ hW) (rd.out _ hW) (Nat.le_trans hBB (Nat.le_trans hB0 hW.size)) (rd2.out _ hW) (Nat.le_trans hBB2 (Nat.le_trans hB0 hW.size))) ?_) AllReadyH.nil)
    rintro e w15 ⟨rfl, bx⟩
    replace hp5 := hp5.below bx hp5.lt
    replace hp7 := hp7.below bx hp7.lt
    replace hp8 := hp8.below bx hp8.lt
    replace hW := hW.trans (bx.mono (Nat.le_trans hB0 hW.size))
    clear bx
    refine ⟨_, rfl, hK.out _ _ ⟨hp5, hp7, hp8, hW⟩ (fun _ => ?_)⟩
    clear hK K
    simp only [List.set_cons_zero, List.set_cons_succ]
    refine takeH 17 9 44 (.bool true) rfl rfl (by kernel_rfl) (by kernel_rfl) (by kernel_rfl) (fun _ _ _ h => h) (Or.inl ⟨by rfl, fun w _ => by go_simp⟩) ⟨hp5, hp7, hp8, hW⟩ ?_
    simp only [List.set_cons_zero, List.set_cons_succ]
    refine takeH 16 10 45 (.bool true) rfl rfl (by kernel_rfl) (by kernel_rfl) (by kernel_rfl) (fun _ _ _ h => h) (Or.inl ⟨by rfl, fun w _ => by go_simp⟩) ⟨hp5, hp7, hp8, hW⟩ ?_
    simp only [List.set_cons_zero, List.set_cons_succ]
    refine takeH 15 11 46 (.bool true) rfl rfl (by kernel_rfl) (by kernel_rfl) (by kernel_rfl) (fun _ _ _ h => h) (Or.inl ⟨by rfl, fun w _ => by go_simp⟩) ⟨hp5, hp7, hp8, hW⟩ ?_
    simp only [List.set_cons_zero, List.set_cons_succ]
    refine takeH 14 12 47 (.slice (A) n c) rfl rfl (by kernel_rfl) (by kernel_rfl) (by kernel_rfl) (fun _ _ _ h => h) (Or.inl ⟨by rfl, fun w _ => by go_simp⟩) ⟨hp5, hp7, hp8, hW⟩ ?_
    simp only [List.set_cons_zero, List.set_cons_succ]
    refine takeH 13 13 48 (.slice (A2) n2 c2) rfl rfl (by kernel_rfl) (by kernel_rfl) (by kernel_rfl) (fun _ _ _ h => h) (Or.inl ⟨by rfl, fun w _ => by go_simp⟩) ⟨hp5, hp7, hp8, hW⟩ ?_
    simp only [List.set_cons_zero, List.set_cons_succ]
    refine takeH 12 14 49 (.pointer (some ⟨p5, 0, none⟩)) rfl rfl (by kernel_rfl) (by kernel_rfl) (by kernel_rfl) (fun _ _ _ h => h) (Or.inl ⟨by rfl, fun w _ => by go_simp⟩) ⟨hp5, hp7, hp8, hW⟩ ?_
    simp only [List.set_cons_zero, List.set_cons_succ]
    refine takeH 11 15 50 (.agg (va .u8 (tag))) rfl rfl (by kernel_rfl) (by kernel_rfl) (by kernel_rfl) (fun _ _ _ h => h) (Or.inl ⟨by rfl, fun _ h => exec_mid 30 (.tmp 49) rfl p5 0 rfl (nv .u8 tag) _ (zV_range h.1 htl) Tryd.underlying30 rfl (szL _ htl)⟩) ⟨hp5, hp7, hp8, hW⟩ ?_
    simp only [List.set_cons_zero, List.set_cons_succ]
    refine takeH 10 17 52 (.pointer (some ⟨p5, 0, none⟩)) rfl rfl (by kernel_rfl) (by kernel_rfl) (by kernel_rfl) (fun _ _ _ h => h) (Or.inl ⟨by rfl, fun w _ => by go_simp⟩) ⟨hp5, hp7, hp8, hW⟩ ?_
    simp only [List.set_cons_zero, List.set_cons_succ]
    refine takeH 9 18 53 (.agg (va .u8 (tag))) rfl rfl (by kernel_rfl) (by kernel_rfl) (by kernel_rfl) (fun _ _ _ h => h) (Or.inl ⟨by rfl, fun _ h => exec_mid 30 (.tmp 52) rfl p5 0 rfl (nv .u8 tag) _ (zV_range h.1 htl) Tryd.underlying30 rfl (szL _ htl)⟩) ⟨hp5, hp7, hp8, hW⟩ ?_
    simp only [List.set_cons_zero, List.set_cons_succ]
    refine takeH 8 19 54 (.agg (va .u8 (hm key m))) rfl rfl (by kernel_rfl) (by kernel_rfl) (by kernel_rfl) (fun _ _ _ h => h) (Or.inl ⟨by rfl, fun _ h => exec_row 30 (.tmp 7) rfl p7 rfl 30 (va .u8 (hm key m)) _ h.2.1 (by exact Tryd.underlying30) rfl (sz_api_Digest _ (hm_len _ _))⟩) ⟨hp5, hp7, hp8, hW⟩ ?_
    simp only [List.set_cons_zero, List.set_cons_succ]
    refine takeH 7 20 55 (.bool true) rfl rfl (by kernel_rfl) (by kernel_rfl) (by kernel_rfl) (fun _ _ _ h => h) (Or.inl ⟨by rfl, fun _ _ => exec_eqB 30 32 (by kernel_rfl) (by kernel_rfl) (.tmp 53) (.tmp 54) _ rfl tag (hm key m) htl (hm_len _ _) rfl rfl true hd2.out⟩) ⟨hp5, hp7, hp8, hW⟩ ?_
    simp only [List.set_cons_zero, List.set_cons_succ]
    refine wpAnyH_ready (by kernel_rfl) (by simp) (readyCons 6 16 51 rfl rfl (by rfl) (fun K hK => wp_callF 13 #[.slice (A) n c, .slice (A2) n2 c2, .agg (va .u8 (tag))] (by go_simp) (verify_to true (key) (m) (tag) _ n c _ _ n2 c2 _ (hd1.out) hk hnc (by omega) hm0 hnc2 (by omega) ht (htl) _ (gl.out _ hW) (rd.out _ hW) (Nat.le_trans hBB (Nat.le_trans hB0 hW.size)) (rd2.out _ hW) (Nat.le_trans hBB2 (Nat.le_trans hB0 hW.size))) ?_) AllReadyH.nil)
    rintro e w16 ⟨rfl, bx⟩
    replace hp5 := hp5.below bx hp5.lt
    replace hp7 := hp7.below bx hp7.lt
    replace hp8 := hp8.below bx hp8.lt
    replace hW := hW.trans (bx.mono (Nat.le_trans hB0 hW.size))
    clear bx
    refine ⟨_, rfl, hK.out _ _ ⟨hp5, hp7, hp8, hW⟩ (fun _ => ?_)⟩
    clear hK K
    simp only [List.set_cons_zero, List.set_cons_succ]
    refine takeH 5 21 56 (.bool true) rfl rfl (by kernel_rfl) (by kernel_rfl) (by kernel_rfl) (fun _ _ _ h => h) (Or.inl ⟨by rfl, fun w _ => by go_simp⟩) ⟨hp5, hp7, hp8, hW⟩ ?_
    simp only [List.set_cons_zero, List.set_cons_succ]
    refine takeH 4 22 57 (.bool true) rfl rfl (by kernel_rfl) (by kernel_rfl) (by kernel_rfl) (fun _ _ _ h => h) (Or.inl ⟨by rfl, fun w _ => by go_simp⟩) ⟨hp5, hp7, hp8, hW⟩ ?_
    simp only [List.set_cons_zero, List.set_cons_succ]
    refine takeH 3 23 58 (.bool true) rfl rfl (by kernel_rfl) (by kernel_rfl) (by kernel_rfl) (fun _ _ _ h => h) (Or.inl ⟨by rfl, fun w _ => by go_simp⟩) ⟨hp5, hp7, hp8, hW⟩ ?_
    simp only [List.set_cons_zero, List.set_cons_succ]
    refine wpAnyH_ready (by kernel_rfl) (by simp) (readyCons 2 24 59 rfl rfl (by rfl) (fun K hK => wp_callF 8 #[] (by go_simp) (lives_any _ (gl.out _ hW)) ?_) AllReadyH.nil)
    rintro e w17 ⟨rfl, bx⟩
    replace hp5 := hp5.below bx hp5.lt
    replace hp7 := hp7.below bx hp7.lt
    replace hp8 := hp8.below bx hp8.lt
    replace hW := hW.trans (bx.mono (Nat.le_trans hB0 hW.size))
    clear bx
    refine ⟨_, rfl, hK.out _ _ ⟨hp5, hp7, hp8, hW⟩ (fun _ => ?_)⟩
    clear hK K
    simp only [List.set_cons_zero, List.set_cons_succ]
    refine takeH 1 25 60 (.bool true) rfl rfl (by kernel_rfl) (by kernel_rfl) (by kernel_rfl) (fun _ _ _ h => h) (Or.inl ⟨by rfl, fun w _ => by go_simp⟩) ⟨hp5, hp7, hp8, hW⟩ ?_
    simp only [List.set_cons_zero, List.set_cons_succ]
    refine takeH 0 26 6 (.bool true) rfl rfl (by kernel_rfl) (by kernel_rfl) (by kernel_rfl) (fun _ _ _ h => h) (Or.inl ⟨by rfl, fun w _ => by go_simp⟩) ⟨hp5, hp7, hp8, hW⟩ ?_
    simp only [List.set_cons_zero, List.set_cons_succ]
    refine wpAnyH_done (by kernel_rfl) ?_ _
    go_wp2_with fail
    go_ret
    exact ⟨rfl, hW⟩
  ·
    have hd1 := Lib.hid (decide_eq_false hE)
    have hd2 : Hid (decide (tag = hm key m) = false) := Lib.hid (decide_eq_false (fun e => hE e.symm))
    clear hE
    go_upto_region 6 with fail
    refine wp_region_held_drew (S := fun wr => Blk wr p5 35 (zV tag bit) ∧ Blk wr p7 30 (va .u8 (hm key m)) ∧ Blk wr p8 30 (va .u8 ((hm key m).set i0 (y ^^^ P))) ∧ Below B0 w wr) (by kernel_rfl) ⟨hp5.drew, hp7.drew, hp8.drew, below_drewN hW 1⟩ (fun hH => ?_)
    clear hp5 hp7 hp8 hW
    obtain ⟨hp5, hp7, hp8, hW⟩ := hH
    generalize w12.drew = w18 at *
    refine takeH 26 0 35 (.slice (A) n c) rfl rfl (by kernel_rfl) (by kernel_rfl) (by kernel_rfl) (fun _ _ _ h => h) (Or.inl ⟨by rfl, fun w _ => by go_simp⟩) ⟨hp5, hp7, hp8, hW⟩ ?_
    simp only [List.set_cons_zero, List.set_cons_succ]
    refine takeH 25 1 36 (.slice (A2) n2 c2) rfl rfl (by kernel_rfl) (by kernel_rfl) (by kernel_rfl) (fun _ _ _ h => h) (Or.inl ⟨by rfl, fun w _ => by go_simp⟩) ⟨hp5, hp7, hp8, hW⟩ ?_
    simp only [List.set_cons_zero, List.set_cons_succ]
    refine takeH 24 2 37 (.agg (va .u8 (hm key m))) rfl rfl (by kernel_rfl) (by kernel_rfl) (by kernel_rfl) (fun _ _ _ h => h) (Or.inl ⟨by rfl, fun _ h => exec_row 30 (.tmp 7) rfl p7 rfl 30 (va .u8 (hm key m)) _ h.2.1 (by exact Tryd.underlying30) rfl (sz_api_Digest _ (hm_len _ _))⟩) ⟨hp5, hp7, hp8, hW⟩ ?_
    simp only [List.set_cons_zero, List.set_cons_succ]
    refine wpAnyH_ready (by kernel_rfl) (by simp) (readyCons 23 3 38 rfl rfl (by rfl) (fun K hK => wp_callF 13 #[.slice (A) n c, .slice (A2) n2 c2, .agg (va .u8 (hm key m))] (by go_simp) (verify_to true (key) (m) (hm key m) _ n c _ _ n2 c2 _ (by simp) hk hnc (by omega) hm0 hnc2 (by omega) (hm_byt _ _) (hm_len _ _) _ (gl.out _ hW) (rd.out _ hW) (Nat.le_trans hBB (Nat.le_trans hB0 hW.size)) (rd2.out _ hW) (Nat.le_trans hBB2 (Nat.le_trans hB0 hW.size))) ?_) AllReadyH.nil)
    rintro e w19 ⟨rfl, bx⟩
    replace hp5 := hp5.below bx hp5.lt
    replace hp7 := hp7.below bx hp7.lt
    replace hp8 := hp8.below bx hp8.lt
    replace hW := hW.trans (bx.mono (Nat.le_trans hB0 hW.size))
    clear bx
    refine ⟨_, rfl, hK.out _ _ ⟨hp5, hp7, hp8, hW⟩ (fun _ => ?_)⟩
    clear hK K
    simp only [List.set_cons_zero, List.set_cons_succ]
    refine takeH 22 4 39 (.bool true) rfl rfl (by kernel_rfl) (by kernel_rfl) (by kernel_rfl) (fun _ _ _ h => h) (Or.inl ⟨by rfl, fun w _ => by go_simp⟩) ⟨hp5, hp7, hp8, hW⟩ ?_
    simp only [List.set_cons_zero, List.set_cons_succ]
    refine takeH 21 5 40 (.slice (A) n c) rfl rfl (by kernel_rfl) (by kernel_rfl) (by kernel_rfl) (fun _ _ _ h => h) (Or.inl ⟨by rfl, fun w _ => by go_simp⟩) ⟨hp5, hp7, hp8, hW⟩ ?_
    simp only [List.set_cons_zero, List.set_cons_succ]
    refine takeH 20 6 41 (.slice (A2) n2 c2) rfl rfl (by kernel_rfl) (by kernel_rfl) (by kernel_rfl) (fun _ _ _ h => h) (Or.inl ⟨by rfl, fun w _ => by go_simp⟩) ⟨hp5, hp7, hp8, hW⟩ ?_
    simp only [List.set_cons_zero, List.set_cons_succ]
    refine takeH 19 7 42 (.agg (va .u8 ((hm key m).set i0 (y ^^^ P)))) rfl rfl (by kernel_rfl) (by kernel_rfl) (by kernel_rfl) (fun _ _ _ h => h) (Or.inl ⟨by rfl, fun _ h => exec_row 30 (.tmp 8) rfl p8 rfl 30 (va .u8 ((hm key m).set i0 (y ^^^ P))) _ h.2.2.1 (by exact Tryd.underlying30) rfl (sz_api_Digest _ (hclq.out))⟩) ⟨hp5, hp7, hp8, hW⟩ ?_
    simp only [List.set_cons_zero, List.set_cons_succ]
    refine wpAnyH_ready (by kernel_rfl) (by simp) (readyCons 18 8 43 rfl rfl (by rfl) (fun K hK => wp_callF 13 #[.slice (A) n c, .slice (A2) n2 c2, .agg (va .u8 ((hm key m).set i0 (y ^^^ P)))] (by go_simp) (verify_to false (key) (m) ((hm key m).set i0 (y ^^^ P)) _ n c _ _ n2 c2 _ (decide_eq_false hcneq.out) hk hnc (by omega) hm0 hnc2 (by omega) hcb (hclq.out) _ (gl.out _ hW) (rd.out _ hW) (Nat.le_trans hBB (Nat.le_trans hB0 hW.size)) (rd2.out _ hW) (Nat.le_trans hBB2 (Nat.le_trans hB0 hW.size))) ?_) AllReadyH.nil)
    rintro e w20 ⟨rfl, bx⟩
    replace hp5 := hp5.below bx hp5.lt
    replace hp7 := hp7.below bx hp7.lt
    replace hp8 := hp8.below bx hp8.lt
    replace hW := hW.trans (bx.mono (Nat.le_trans hB0 hW.size))
    clear bx
    refine ⟨_, rfl, hK.out _ _ ⟨hp5, hp7, hp8, hW⟩ (fun _ => ?_)⟩
    clear hK K
    simp only [List.set_cons_zero, List.set_cons_succ]
    refine takeH 17 9 44 (.bool true) rfl rfl (by kernel_rfl) (by kernel_rfl) (by kernel_rfl) (fun _ _ _ h => h) (Or.inl ⟨by rfl, fun w _ => by go_simp⟩) ⟨hp5, hp7, hp8, hW⟩ ?_
    simp only [List.set_cons_zero, List.set_cons_succ]
    refine takeH 16 10 45 (.bool true) rfl rfl (by kernel_rfl) (by kernel_rfl) (by kernel_rfl) (fun _ _ _ h => h) (Or.inl ⟨by rfl, fun w _ => by go_simp⟩) ⟨hp5, hp7, hp8, hW⟩ ?_
    simp only [List.set_cons_zero, List.set_cons_succ]
    refine takeH 15 11 46 (.bool true) rfl rfl (by kernel_rfl) (by kernel_rfl) (by kernel_rfl) (fun _ _ _ h => h) (Or.inl ⟨by rfl, fun w _ => by go_simp⟩) ⟨hp5, hp7, hp8, hW⟩ ?_
    simp only [List.set_cons_zero, List.set_cons_succ]
    refine takeH 14 12 47 (.slice (A) n c) rfl rfl (by kernel_rfl) (by kernel_rfl) (by kernel_rfl) (fun _ _ _ h => h) (Or.inl ⟨by rfl, fun w _ => by go_simp⟩) ⟨hp5, hp7, hp8, hW⟩ ?_
    simp only [List.set_cons_zero, List.set_cons_succ]
    refine takeH 13 13 48 (.slice (A2) n2 c2) rfl rfl (by kernel_rfl) (by kernel_rfl) (by kernel_rfl) (fun _ _ _ h => h) (Or.inl ⟨by rfl, fun w _ => by go_simp⟩) ⟨hp5, hp7, hp8, hW⟩ ?_
    simp only [List.set_cons_zero, List.set_cons_succ]
    refine takeH 12 14 49 (.pointer (some ⟨p5, 0, none⟩)) rfl rfl (by kernel_rfl) (by kernel_rfl) (by kernel_rfl) (fun _ _ _ h => h) (Or.inl ⟨by rfl, fun w _ => by go_simp⟩) ⟨hp5, hp7, hp8, hW⟩ ?_
    simp only [List.set_cons_zero, List.set_cons_succ]
    refine takeH 11 15 50 (.agg (va .u8 (tag))) rfl rfl (by kernel_rfl) (by kernel_rfl) (by kernel_rfl) (fun _ _ _ h => h) (Or.inl ⟨by rfl, fun _ h => exec_mid 30 (.tmp 49) rfl p5 0 rfl (nv .u8 tag) _ (zV_range h.1 htl) Tryd.underlying30 rfl (szL _ htl)⟩) ⟨hp5, hp7, hp8, hW⟩ ?_
    simp only [List.set_cons_zero, List.set_cons_succ]
    refine takeH 10 17 52 (.pointer (some ⟨p5, 0, none⟩)) rfl rfl (by kernel_rfl) (by kernel_rfl) (by kernel_rfl) (fun _ _ _ h => h) (Or.inl ⟨by rfl, fun w _ => by go_simp⟩) ⟨hp5, hp7, hp8, hW⟩ ?_
    simp only [List.set_cons_zero, List.set_cons_succ]
    refine takeH 9 18 53 (.agg (va .u8 (tag))) rfl rfl (by kernel_rfl) (by kernel_rfl) (by kernel_rfl) (fun _ _ _ h => h) (Or.inl ⟨by rfl, fun _ h => exec_mid 30 (.tmp 52) rfl p5 0 rfl (nv .u8 tag) _ (zV_range h.1 htl) Tryd.underlying30 rfl (szL _ htl)⟩) ⟨hp5, hp7, hp8, hW⟩ ?_
    simp only [List.set_cons_zero, List.set_cons_succ]
    refine takeH 8 19 54 (.agg (va .u8 (hm key m))) rfl rfl (by kernel_rfl) (by kernel_rfl) (by kernel_rfl) (fun _ _ _ h => h) (Or.inl ⟨by rfl, fun _ h => exec_row 30 (.tmp 7) rfl p7 rfl 30 (va .u8 (hm key m)) _ h.2.1 (by exact Tryd.underlying30) rfl (sz_api_Digest _ (hm_len _ _))⟩) ⟨hp5, hp7, hp8, hW⟩ ?_
    simp only [List.set_cons_zero, List.set_cons_succ]
    refine takeH 7 20 55 (.bool false) rfl rfl (by kernel_rfl) (by kernel_rfl) (by kernel_rfl) (fun _ _ _ h => h) (Or.inl ⟨by rfl, fun _ _ => exec_eqB 30 32 (by kernel_rfl) (by kernel_rfl) (.tmp 53) (.tmp 54) _ rfl tag (hm key m) htl (hm_len _ _) rfl rfl false hd2.out⟩) ⟨hp5, hp7, hp8, hW⟩ ?_
    simp only [List.set_cons_zero, List.set_cons_succ]
    refine wpAnyH_ready (by kernel_rfl) (by simp) (readyCons 6 16 51 rfl rfl (by rfl) (fun K hK => wp_callF 13 #[.slice (A) n c, .slice (A2) n2 c2, .agg (va .u8 (tag))] (by go_simp) (verify_to false (key) (m) (tag) _ n c _ _ n2 c2 _ (hd1.out) hk hnc (by omega) hm0 hnc2 (by omega) ht (htl) _ (gl.out _ hW) (rd.out _ hW) (Nat.le_trans hBB (Nat.le_trans hB0 hW.size)) (rd2.out _ hW) (Nat.le_trans hBB2 (Nat.le_trans hB0 hW.size))) ?_) AllReadyH.nil)
    rintro e w21 ⟨rfl, bx⟩
    replace hp5 := hp5.below bx hp5.lt
    replace hp7 := hp7.below bx hp7.lt
    replace hp8 := hp8.below bx hp8.lt
    replace hW := hW.trans (bx.mono (Nat.le_trans hB0 hW.size))
    clear bx
    refine ⟨_, rfl, hK.out _ _ ⟨hp5, hp7, hp8, hW⟩ (fun _ => ?_)⟩
    clear hK K
    simp only [List.set_cons_zero, List.set_cons_succ]
    refine takeH 5 21 56 (.bool true) rfl rfl (by kernel_rfl) (by kernel_rfl) (by kernel_rfl) (fun _ _ _ h => h) (Or.inl ⟨by rfl, fun w _ => by go_simp⟩) ⟨hp5, hp7, hp8, hW⟩ ?_
    simp only [List.set_cons_zero, List.set_cons_succ]
    refine takeH 4 22 57 (.bool true) rfl rfl (by kernel_rfl) (by kernel_rfl) (by kernel_rfl) (fun _ _ _ h => h) (Or.inl ⟨by rfl, fun w _ => by go_simp⟩) ⟨hp5, hp7, hp8, hW⟩ ?_
    simp only [List.set_cons_zero, List.set_cons_succ]
    refine takeH 3 23 58 (.bool true) rfl rfl (by kernel_rfl) (by kernel_rfl) (by kernel_rfl) (fun _ _ _ h => h) (Or.inl ⟨by rfl, fun w _ => by go_simp⟩) ⟨hp5, hp7, hp8, hW⟩ ?_
    simp only [List.set_cons_zero, List.set_cons_succ]
    refine wpAnyH_ready (by kernel_rfl) (by simp) (readyCons 2 24 59 rfl rfl (by rfl) (fun K hK => wp_callF 8 #[] (by go_simp) (lives_any _ (gl.out _ hW)) ?_) AllReadyH.nil)
    rintro e w22 ⟨rfl, bx⟩
    replace hp5 := hp5.below bx hp5.lt
    replace hp7 := hp7.below bx hp7.lt
    replace hp8 := hp8.below bx hp8.lt
    replace hW := hW.trans (bx.mono (Nat.le_trans hB0 hW.size))
    clear bx
    refine ⟨_, rfl, hK.out _ _ ⟨hp5, hp7, hp8, hW⟩ (fun _ => ?_)⟩
    clear hK K
    simp only [List.set_cons_zero, List.set_cons_succ]
    refine takeH 1 25 60 (.bool true) rfl rfl (by kernel_rfl) (by kernel_rfl) (by kernel_rfl) (fun _ _ _ h => h) (Or.inl ⟨by rfl, fun w _ => by go_simp⟩) ⟨hp5, hp7, hp8, hW⟩ ?_
    simp only [List.set_cons_zero, List.set_cons_succ]
    refine takeH 0 26 6 (.bool true) rfl rfl (by kernel_rfl) (by kernel_rfl) (by kernel_rfl) (fun _ _ _ h => h) (Or.inl ⟨by rfl, fun w _ => by go_simp⟩) ⟨hp5, hp7, hp8, hW⟩ ?_
    simp only [List.set_cons_zero, List.set_cons_succ]
    refine wpAnyH_done (by kernel_rfl) ?_ _
    go_wp2_with fail
    go_ret
    exact ⟨rfl, hW⟩
end Go.Proofs.YtfnhjbamomolfaaDoor
