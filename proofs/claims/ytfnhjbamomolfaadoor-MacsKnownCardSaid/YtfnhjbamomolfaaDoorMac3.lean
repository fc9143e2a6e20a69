/-
  The walk of macs.Verify. (Printed by mk03.py.)
-/
import Derived.Test.YtfnhjbamomolfaaDoorMac2
namespace Go.Proofs.YtfnhjbamomolfaaDoor
open Go.RowKit Sh

theorem or_zero (a b : Nat) : a ||| b = 0 ↔ a = 0 ∧ b = 0 := by
  constructor
  · intro h
    have h1 : a ≤ a ||| b := Nat.left_le_or
    have h2 : b ≤ a ||| b := Nat.right_le_or
    omega
  · rintro ⟨rfl, rfl⟩; rfl
theorem xor_zero (a b : Nat) : a ^^^ b = 0 ↔ a = b := by
  constructor
  · intro h
    have : a ^^^ b ^^^ b = 0 ^^^ b := by rw [h]
    simpa [Nat.xor_assoc] using this
  · rintro rfl; simp
theorem or256 {a b : Nat} (ha : a < 256) (hb : b < 256) : a ||| b < 256 := Nat.or_lt_two_pow (n := 8) ha hb

set_option maxRecDepth 8000 in
set_option maxHeartbeats 2000000 in
theorem verify_any (key m tag : List Nat) (A : Option Addr) (n c B : Nat) (A2 : Option Addr) (n2 c2 B2 : Nat) (hk : Byt key) (hnc : n ≤ c) (hn : n < 100000) (hm0 : Byt m) (hnc2 : n2 ≤ c2) (hn2 : n2 < 100000) (ht : Byt tag) (htl : tag.length = 32) (w : World) (hg : Glob w)
    (hr : Reads w B 1 A n (nv .u8 key)) (hB : B ≤ w.heap.size) (hr2 : Reads w B2 1 A2 n2 (nv .u8 m)) (hB2 : B2 ≤ w.heap.size) :
    Calls Tryd.prog 13 #[.slice A n c, .slice A2 n2 c2, .agg (va .u8 tag)] w fun e w' => e = .returned (.bool (decide (hm key m = tag))) ∧ Below w.heap.size w w' := by
  obtain ⟨B0, hB0e⟩ : ∃ b, w.heap.size = b := ⟨_, rfl⟩
  rw [hB0e]
  have hW : Below B0 w w := by rw [← hB0e]; exact Below.refl _ _
  have hB0 : B0 ≤ w.heap.size := by omega
  have hln2 := hr2.len
  have hBB : B ≤ B0 := by omega
  have hBB2 : B2 ≤ B0 := by omega
  have gl := glob_of hg hB0e
  have rd := reads_of hr hBB
  have rd2 := reads_of hr2 hBB2
  clear hg hr hB hr2 hB2
  have hB0q := Lib.hid hB0e
  clear hB0e
  go_enter Tryd.func13, Tryd.ntmps13
  go_upto_region 0 with fail
  refine wl_lit ?_
  refine runWL 5 (.pointer (some ⟨w.heap.size, 0, none⟩)) (w.alloc (.cells (va .u8 (tag)) 30)) rfl (by rfl) (exec_box 30 (.tmp 2) rfl (.agg (va .u8 (tag))) rfl) ?_
  simp only [List.set_cons_zero, List.set_cons_succ]
  have lw_p5 := Nat.le_trans hB0 hW.size
  have hp5 : Blk (w.alloc (.cells (va .u8 (tag)) 30)) w.heap.size 30 (va .u8 (tag)) := Blk.new _ _ _
  replace hW := hW.alloc (Nat.le_trans hB0 hW.size) (.cells (va .u8 (tag)) 30)
  generalize w.alloc (.cells (va .u8 (tag)) 30) = w1 at *
  generalize w.heap.size = p5 at hp5 lw_p5  ⊢
  refine runL 6 (.bool false) rfl (by rfl) (by go_simp) ?_
  simp only [List.set_cons_zero, List.set_cons_succ]
  refine nilL ?_
  go_upto_region 1 with fail
  refine wl_lit ?_
  refine runL 10 (.slice (A) n c) rfl (by rfl) (by go_simp) ?_
  simp only [List.set_cons_zero, List.set_cons_succ]
  refine runL 11 (.slice (A2) n2 c2) rfl (by rfl) (by go_simp) ?_
  simp only [List.set_cons_zero, List.set_cons_succ]
  refine runWL 12 (.slice (some ⟨w1.heap.size, 0, none⟩) 1 1) (w1.alloc (.cells (#[.slice (A2) n2 c2]) 22)) rfl (by rfl) (exec_bslice 28 1 _ rfl _ (by exact bs_1 (A2) n2 c2 _)) ?_
  simp only [List.set_cons_zero, List.set_cons_succ]
  have lp5_q1 := hp5.lt
  have lw_q1 := Nat.le_trans hB0 hW.size
  have hq1 : Blk (w1.alloc (.cells (#[.slice (A2) n2 c2]) 22)) w1.heap.size 22 (#[.slice (A2) n2 c2]) := Blk.new _ _ _
  replace hp5 := hp5.alloc (.cells (#[.slice (A2) n2 c2]) 22)
  replace hW := hW.alloc (Nat.le_trans hB0 hW.size) (.cells (#[.slice (A2) n2 c2]) 22)
  generalize w1.alloc (.cells (#[.slice (A2) n2 c2]) 22) = w2 at *
  generalize w1.heap.size = q1 at hq1 lw_q1 lp5_q1 ⊢
  refine callL 13 rfl (by rfl) (fun K hK => wp_callF 12 #[.slice (A) n c, .slice (some ⟨q1, 0, none⟩) 1 1] (by go_simp) (macof_any key A n c B [m] _ 1 1 _ hk hnc hn (by omega) (by simp [hln2]; omega) _ (gl.out _ hW) (rd.out _ hW) (Nat.le_trans hBB (Nat.le_trans hB0 hW.size)) (parts_one (Nat.le_trans hBB2 (Nat.le_trans hB0 hW.size)) hq1 (rd2.out _ hW) hnc2 hm0) (Nat.le_refl _)) ?_)
  rintro e w3 ⟨rfl, bx⟩
  replace hp5 := hp5.below bx hp5.lt
  replace hq1 := hq1.below bx hq1.lt
  replace hW := hW.trans (bx.mono (Nat.le_trans hB0 hW.size))
  clear bx
  refine ⟨_, rfl, hK.out _ _ ?_⟩
  clear hK K
  simp only [List.set_cons_zero, List.set_cons_succ]
  refine runWL 7 (.pointer (some ⟨w3.heap.size, 0, none⟩)) (w3.alloc (.cells (va .u8 (List.replicate 32 0)) 30)) rfl (by rfl) (exec_allocV 30 rfl _ (zv_api_Digest _)) ?_
  simp only [List.set_cons_zero, List.set_cons_succ]
  have lp5_p7 := hp5.lt
  have lq1_p7 := hq1.lt
  have lw_p7 := Nat.le_trans hB0 hW.size
  have hp7 : Blk (w3.alloc (.cells (va .u8 (List.replicate 32 0)) 30)) w3.heap.size 30 (va .u8 (List.replicate 32 0)) := Blk.new _ _ _
  replace hp5 := hp5.alloc (.cells (va .u8 (List.replicate 32 0)) 30)
  replace hq1 := hq1.alloc (.cells (va .u8 (List.replicate 32 0)) 30)
  replace hW := hW.alloc (Nat.le_trans hB0 hW.size) (.cells (va .u8 (List.replicate 32 0)) 30)
  generalize w3.alloc (.cells (va .u8 (List.replicate 32 0)) 30) = w4 at *
  generalize w3.heap.size = p7 at hp7 lw_p7 lp5_p7 lq1_p7 ⊢
  refine runSL (w4.setRow p7 (va .u8 (hm key [m].flatten))) rfl (by rfl) (exec_storeRow 30 (.tmp 7) (.tmp 13) rfl p7 rfl (va .u8 (hm key [m].flatten)) rfl 30 (va .u8 (List.replicate 32 0)) hp7 (sz_eq (sz_api_Digest _ (List.length_replicate)) (sz_api_Digest _ (hm_len _ _))) (sz_api_Digest _ (hm_len _ _)) (va_ones .u8 _)) ?_
  replace hp5 := hp5.rowFar (show p7 ≠ p5 from (by omega)) (va .u8 (hm key [m].flatten))
  replace hq1 := hq1.rowFar (show p7 ≠ q1 from (by omega)) (va .u8 (hm key [m].flatten))
  replace hp7 := hp7.row (va .u8 (hm key [m].flatten))
  replace hW := below_setRow hW lw_p7 (va .u8 (hm key [m].flatten))
  generalize w4.setRow p7 (va .u8 (hm key [m].flatten)) = w5 at *
  refine nilL ?_
  simp only [List.flatten_cons, List.flatten_nil, List.append_nil] at hp7
  clear hq1
  go_wp2
  go_loopw [8, 14] (fun v s wr => ∃ (i d : Nat), i ≤ 32 ∧ s = .int .i64 (i : Int) ∧ v = .int .u8 (d : Int) ∧ d < 256 ∧ (d = 0 ↔ ∀ j, j < i → (hm key m).getD j 0 = tag.getD j 0) ∧ Blk wr p5 30 (va .u8 tag) ∧ Blk wr p7 30 (va .u8 (hm key m)) ∧ Below B0 w wr) (fun _ s _ => 32 - (intOf s).toNat)
  case atStart => exact ⟨0, 0, by omega, rfl, rfl, by omega, by simp, hp5, hp7, hW⟩
  case round =>
    clear hp5 hp7 hW
    obtain ⟨i, d, hi, rfl, rfl, hd, hdz, hp5, hp7, hW⟩ := hrel
    have hdzq := Lib.hid hdz
    clear hdz
    by_cases hlt : i < 32
    ·
      have hltI : (i : Int) < 32 := by omega
      have hx := (hm_byt key m).get i
      have hy := ht.get i
      obtain ⟨x, hxe⟩ : ∃ x, (hm key m).getD i 0 = x := ⟨_, rfl⟩
      obtain ⟨y, hye⟩ : ∃ y, tag.getD i 0 = y := ⟨_, rfl⟩
      rw [hxe] at hx
      rw [hye] at hy
      have hxq := Lib.hid hxe
      have hyq := Lib.hid hye
      have hxr : bits BinOp.xor IntKind.u8 (x : Int) (y : Int) = ((x ^^^ y : Nat) : Int) := u8_xor_nat x y hx hy
      have hor : bits BinOp.or IntKind.u8 (d : Int) ((x ^^^ y : Nat) : Int) = ((d ||| (x ^^^ y) : Nat) : Int) := u8_or_nat _ _ hd (xor256 hx hy)
      clear hxe hye
      go_upto_region 6 with fail
      refine wp_region_held_drew (S := fun wr => Blk wr p5 30 (va .u8 (tag)) ∧ Blk wr p7 30 (va .u8 (hm key m)) ∧ Below B0 w wr) (by kernel_rfl) ⟨hp5.drew, hp7.drew, below_drewN hW 1⟩ (fun hH => ?_)
      clear hp5 hp7 hW
      obtain ⟨hp5, hp7, hW⟩ := hH
      generalize wr.drew = w6 at *
      refine takeH 9 0 17 (.int .u8 (d : Int)) rfl rfl (by kernel_rfl) (by kernel_rfl) (by kernel_rfl) (fun _ _ _ h => h) (Or.inl ⟨by rfl, fun w _ => by go_simp⟩) ⟨hp5, hp7, hW⟩ ?_
      simp only [List.set_cons_zero, List.set_cons_succ]
      refine takeH 8 1 18 (.int .i64 (i : Int)) rfl rfl (by kernel_rfl) (by kernel_rfl) (by kernel_rfl) (fun _ _ _ h => h) (Or.inl ⟨by rfl, fun w _ => by go_simp⟩) ⟨hp5, hp7, hW⟩ ?_
      simp only [List.set_cons_zero, List.set_cons_succ]
      refine takeH 7 2 19 (.pointer (some ⟨p7, i, none⟩)) rfl rfl (by kernel_rfl) (by kernel_rfl) (by kernel_rfl) (fun _ _ _ h => h) (Or.inl ⟨by rfl, fun w _ => by go_simp⟩) ⟨hp5, hp7, hW⟩ ?_
      simp only [List.set_cons_zero, List.set_cons_succ]
      refine takeH 6 3 20 (.int .u8 ((x : Nat) : Int)) rfl rfl (by kernel_rfl) (by kernel_rfl) (by kernel_rfl) (fun _ _ _ h => h) (Or.inl ⟨by rfl, fun _ h => exec_cell 5 (.tmp 19) rfl p7 i rfl (.int .u8 ((x : Nat) : Int)) _ Tryd.underlying5 rfl (by rw [← hxq.out]; exact h.2.1.num (by rw [hm_len]; exact hlt))⟩) ⟨hp5, hp7, hW⟩ ?_
      simp only [List.set_cons_zero, List.set_cons_succ]
      refine takeH 5 4 21 (.int .i64 (i : Int)) rfl rfl (by kernel_rfl) (by kernel_rfl) (by kernel_rfl) (fun _ _ _ h => h) (Or.inl ⟨by rfl, fun w _ => by go_simp⟩) ⟨hp5, hp7, hW⟩ ?_
      simp only [List.set_cons_zero, List.set_cons_succ]
      refine takeH 4 5 22 (.pointer (some ⟨p5, i, none⟩)) rfl rfl (by kernel_rfl) (by kernel_rfl) (by kernel_rfl) (fun _ _ _ h => h) (Or.inl ⟨by rfl, fun w _ => by go_simp⟩) ⟨hp5, hp7, hW⟩ ?_
      simp only [List.set_cons_zero, List.set_cons_succ]
      refine takeH 3 6 23 (.int .u8 ((y : Nat) : Int)) rfl rfl (by kernel_rfl) (by kernel_rfl) (by kernel_rfl) (fun _ _ _ h => h) (Or.inl ⟨by rfl, fun _ h => exec_cell 5 (.tmp 22) rfl p5 i rfl (.int .u8 ((y : Nat) : Int)) _ Tryd.underlying5 rfl (by rw [← hyq.out]; exact h.1.num (by rw [htl]; exact hlt))⟩) ⟨hp5, hp7, hW⟩ ?_
      simp only [List.set_cons_zero, List.set_cons_succ]
      refine takeH 2 7 24 (.int .u8 (((x ^^^ y : Nat) : Int))) rfl rfl (by kernel_rfl) (by kernel_rfl) (by kernel_rfl) (fun _ _ _ h => h) (Or.inl ⟨by rfl, fun w _ => by go_simp⟩) ⟨hp5, hp7, hW⟩ ?_
      simp only [List.set_cons_zero, List.set_cons_succ]
      refine takeH 1 8 25 (.int .u8 (((d ||| (x ^^^ y) : Nat) : Int))) rfl rfl (by kernel_rfl) (by kernel_rfl) (by kernel_rfl) (fun _ _ _ h => h) (Or.inl ⟨by rfl, fun w _ => by go_simp⟩) ⟨hp5, hp7, hW⟩ ?_
      simp only [List.set_cons_zero, List.set_cons_succ]
      refine takeH 0 9 8 (.int .u8 (((d ||| (x ^^^ y) : Nat) : Int))) rfl rfl (by kernel_rfl) (by kernel_rfl) (by kernel_rfl) (fun _ _ _ h => h) (Or.inl ⟨by rfl, fun w _ => by go_simp⟩) ⟨hp5, hp7, hW⟩ ?_
      simp only [List.set_cons_zero, List.set_cons_succ]
      refine wpAnyH_done (by kernel_rfl) ?_ _
      have hz2 : d ||| (x ^^^ y) = 0 ↔ ∀ j, j < i + 1 → (hm key m).getD j 0 = tag.getD j 0 := by
        rw [or_zero, xor_zero, hdzq.out]
        constructor
        · rintro ⟨h1, h2⟩ j hj
          by_cases e : j = i
          · subst e; rw [hxq.out, hyq.out]; exact h2
          · exact h1 j (by omega)
        · intro h
          exact ⟨fun j hj => h j (by omega), by rw [← hxq.out, ← hyq.out]; exact h i (by omega)⟩
      have hzq := Lib.hid hz2
      have hdd := Lib.hid (or256 hd (xor256 hx hy))
      clear hz2
      go_wp2
      go_roundw
      case rel => exact ⟨i + 1, _, by omega, by go_num, rfl, hdd.out, hzq.out, hp5, hp7, hW⟩
      case measure => simp [intOf]; omega
    ·
      obtain rfl : i = 32 := by omega
      have hdq : d = 0 ↔ hm key m = tag := by
        rw [hdzq.out]
        constructor
        · intro h
          exact ext_getD (by rw [hm_len, htl]) (fun j hj => h j (by rw [hm_len] at hj; exact hj))
        · rintro h j _; rw [h]
      by_cases hE : hm key m = tag
      ·
        obtain rfl := hdq.2 hE
        have hEq := Lib.hid (decide_eq_true hE)
        clear hdq hdzq hE
        go_upto_region 8 with fail
        refine wl_lit ?_
        refine runL 27 (.int .u8 ((0 : Nat) : Int)) rfl (by rfl) (by go_simp) ?_
        simp only [List.set_cons_zero, List.set_cons_succ]
        refine runL 28 (.bool true) rfl (by rfl) (by go_simp) ?_
        simp only [List.set_cons_zero, List.set_cons_succ]
        refine runL 6 (.bool true) rfl (by rfl) (by go_simp) ?_
        simp only [List.set_cons_zero, List.set_cons_succ]
        refine nilL ?_
        go_wp2_with fail
        go_ret
        exact ⟨by rw [hEq.out]; rfl, hW⟩
      ·
        have hdn : ¬ d = 0 := fun h => hE (hdq.1 h)
        have hdI : ¬ (d : Int) = 0 := by omega
        have hEq := Lib.hid (decide_eq_false hE)
        clear hdq hdzq hE
        go_upto_region 8 with fail
        refine wl_lit ?_
        refine runL 27 (.int .u8 (d : Int)) rfl (by rfl) (by go_simp) ?_
        simp only [List.set_cons_zero, List.set_cons_succ]
        refine runL 28 (.bool false) rfl (by rfl) (by go_simp) ?_
        simp only [List.set_cons_zero, List.set_cons_succ]
        refine runL 6 (.bool false) rfl (by rfl) (by go_simp) ?_
        simp only [List.set_cons_zero, List.set_cons_succ]
        refine nilL ?_
        go_wp2_with fail
        go_ret
        exact ⟨by rw [hEq.out]; rfl, hW⟩
end Go.Proofs.YtfnhjbamomolfaaDoor
