/-
  The walks of caissonlaw04.DerivesExtract, DerivesExpand, DerivesPrefix. (Printed by mkdrv04f.py.)
-/
import Derived.Test.YtcdmbknmmnaocaaDoorDrvE
namespace Go.Proofs.YtcdmbknmmnaocaaDoor
open Go.RowKit Sh
theorem Rs.pre {W : World} {B0 n m : Nat} {A : Option Addr} {l r : List Nat} (h : Rs W B0 A n l) (hm : m ≤ n) (e : l.take m = r) : Reads W W.heap.size 1 A m (nv .u8 r) := by
  subst e
  obtain ⟨hl, ⟨rfl, rfl⟩ | ⟨g, rfl, _, hb⟩⟩ := h
  · obtain rfl : m = 0 := by omega
    obtain rfl := List.eq_nil_of_length_eq_zero hl
    exact Reads.none_
  · exact (hb.readsPre m (by omega)).more hb.lt
theorem sz__2_uint8 (l : List Nat) (h : l.length = 2) : (Tryd.prog.info? 34).map (·.size) = some (va .u8 l).size := by rw [va_size, h]; kernel_rfl

set_option maxRecDepth 8000 in
set_option maxHeartbeats 4000000 in
theorem lawDExtract_any (key m : List Nat) (A : Option Addr) (n c B : Nat) (A2 : Option Addr) (n2 c2 B2 : Nat) (hk : Byt key) (hmb : Byt m) (hnc : n ≤ c) (hnc2 : n2 ≤ c2) (w : World) (hg : Glob w) (hr : Reads w B 1 A n (nv .u8 key)) (hB : B ≤ w.heap.size)
    (hr2 : Reads w B2 1 A2 n2 (nv .u8 m)) (hB2 : B2 ≤ w.heap.size) :
    Calls Tryd.prog 3 #[.slice A n c, .slice A2 n2 c2] w fun e w' => e = .returned (.bool true) ∧ Below w.heap.size w w' := by
  obtain ⟨B0, hB0e⟩ : ∃ b, w.heap.size = b := ⟨_, rfl⟩
  rw [hB0e]
  have hW : Below B0 w w := by rw [← hB0e]; exact Below.refl _ _
  have hB0 : B0 ≤ w.heap.size := by omega
  have gl := glob_of hg hB0e
  have hln := hr.len
  have hl2n := hr2.len
  have hBB : B ≤ B0 := by omega
  have hBB2 : B2 ≤ B0 := by omega
  have rd := reads_of hr hBB
  have rd2 := reads_of hr2 hBB2
  clear hr hB hr2 hB2 hg
  have hB0q := Lib.hid hB0e
  clear hB0e
  by_cases h1 : 100 < n
  ·
    have hI : (100 : Int) < (n : Int) := by omega
    go_enter Tryd.func3, Tryd.ntmps3
    go_upto_region 0 with fail
    refine wl_lit ?_
    refine runL 4 (.bool false) rfl (by rfl) (by go_simp) ?_
    simp only [List.set_cons_zero, List.set_cons_succ]
    refine nilL ?_
    go_upto_region 1 with fail
    refine wl_lit ?_
    refine runL 5 (.slice (A) n c) rfl (by rfl) (by go_simp) ?_
    simp only [List.set_cons_zero, List.set_cons_succ]
    refine runL 6 (.int .i64 (n)) rfl (by rfl) (by go_simp) ?_
    simp only [List.set_cons_zero, List.set_cons_succ]
    refine runL 7 (.bool true) rfl (by rfl) (by go_simp) ?_
    simp only [List.set_cons_zero, List.set_cons_succ]
    refine runL 8 (.bool true) rfl (by rfl) (by go_simp) ?_
    simp only [List.set_cons_zero, List.set_cons_succ]
    refine skipL 9 rfl (by kernel_rfl) ?_
    simp only [List.set_cons_zero, List.set_cons_succ]
    refine skipL 10 rfl (by kernel_rfl) ?_
    simp only [List.set_cons_zero, List.set_cons_succ]
    refine skipL 11 rfl (by kernel_rfl) ?_
    simp only [List.set_cons_zero, List.set_cons_succ]
    refine runL 12 (.bool true) rfl (by rfl) (by go_simp) ?_
    simp only [List.set_cons_zero, List.set_cons_succ]
    refine nilL ?_
    go_upto_region 2 with fail
    refine wl_lit ?_
    refine callL 13 rfl (by rfl) (fun K hK => wp_callF 8 #[] (by go_simp) (lives04_any _ (gl.out _ hW)) ?_)
    rintro e w1 ⟨rfl, bx⟩
    replace hW := hW.trans (bx.mono (Nat.le_trans hB0 hW.size))
    clear bx
    refine ⟨_, rfl, hK.out _ _ ?_⟩
    clear hK K
    simp only [List.set_cons_zero, List.set_cons_succ]
    refine runL 4 (.bool true) rfl (by rfl) (by go_simp) ?_
    simp only [List.set_cons_zero, List.set_cons_succ]
    refine nilL ?_
    go_wp2_with fail
    go_ret
    exact ⟨rfl, hW⟩
  have hI : ¬ (100 : Int) < (n : Int) := by omega
  by_cases h2 : 100 < n2
  ·
    have hI2 : (100 : Int) < (n2 : Int) := by omega
    go_enter Tryd.func3, Tryd.ntmps3
    go_upto_region 0 with fail
    refine wl_lit ?_
    refine runL 4 (.bool false) rfl (by rfl) (by go_simp) ?_
    simp only [List.set_cons_zero, List.set_cons_succ]
    refine nilL ?_
    go_upto_region 1 with fail
    refine wl_lit ?_
    refine runL 5 (.slice (A) n c) rfl (by rfl) (by go_simp) ?_
    simp only [List.set_cons_zero, List.set_cons_succ]
    refine runL 6 (.int .i64 (n)) rfl (by rfl) (by go_simp) ?_
    simp only [List.set_cons_zero, List.set_cons_succ]
    refine runL 7 (.bool false) rfl (by rfl) (by go_simp) ?_
    simp only [List.set_cons_zero, List.set_cons_succ]
    refine runL 8 (.bool false) rfl (by rfl) (by go_simp) ?_
    simp only [List.set_cons_zero, List.set_cons_succ]
    refine runL 9 (.slice (A2) n2 c2) rfl (by rfl) (by go_simp) ?_
    simp only [List.set_cons_zero, List.set_cons_succ]
    refine runL 10 (.int .i64 (n2)) rfl (by rfl) (by go_simp) ?_
    simp only [List.set_cons_zero, List.set_cons_succ]
    refine runL 11 (.bool true) rfl (by rfl) (by go_simp) ?_
    simp only [List.set_cons_zero, List.set_cons_succ]
    refine runL 12 (.bool true) rfl (by rfl) (by go_simp) ?_
    simp only [List.set_cons_zero, List.set_cons_succ]
    refine nilL ?_
    go_upto_region 2 with fail
    refine wl_lit ?_
    refine callL 13 rfl (by rfl) (fun K hK => wp_callF 8 #[] (by go_simp) (lives04_any _ (gl.out _ hW)) ?_)
    rintro e w2 ⟨rfl, bx⟩
    replace hW := hW.trans (bx.mono (Nat.le_trans hB0 hW.size))
    clear bx
    refine ⟨_, rfl, hK.out _ _ ?_⟩
    clear hK K
    simp only [List.set_cons_zero, List.set_cons_succ]
    refine runL 4 (.bool true) rfl (by rfl) (by go_simp) ?_
    simp only [List.set_cons_zero, List.set_cons_succ]
    refine nilL ?_
    go_wp2_with fail
    go_ret
    exact ⟨rfl, hW⟩
  have hI2 : ¬ (100 : Int) < (n2 : Int) := by omega
  obtain ⟨t, ht⟩ : ∃ t, hm key m = t := ⟨_, rfl⟩
  obtain ⟨u, hu⟩ : ∃ t, hm [] m = t := ⟨_, rfl⟩
  have htl : t.length = 32 := by rw [← ht]; exact hm_len _ _
  have hul : u.length = 32 := by rw [← hu]; exact hm_len _ _
  have htb : Byt t := by rw [← ht]; exact hm_byt _ _
  have hub : Byt u := by rw [← hu]; exact hm_byt _ _
  have hu2 : hm (List.replicate 32 0) m = u := by
    rw [← hu]
    exact hm_zeros [] m 32 (by decide)
  have htq := Lib.hid ht
  have huq := Lib.hid hu
  have hu2q := Lib.hid hu2
  clear ht hu hu2
  go_enter Tryd.func3, Tryd.ntmps3
  go_upto_region 0 with fail
  refine wl_lit ?_
  refine runL 4 (.bool false) rfl (by rfl) (by go_simp) ?_
  simp only [List.set_cons_zero, List.set_cons_succ]
  refine nilL ?_
  go_upto_region 1 with fail
  refine wl_lit ?_
  refine runL 5 (.slice (A) n c) rfl (by rfl) (by go_simp) ?_
  simp only [List.set_cons_zero, List.set_cons_succ]
  refine runL 6 (.int .i64 (n)) rfl (by rfl) (by go_simp) ?_
  simp only [List.set_cons_zero, List.set_cons_succ]
  refine runL 7 (.bool false) rfl (by rfl) (by go_simp) ?_
  simp only [List.set_cons_zero, List.set_cons_succ]
  refine runL 8 (.bool false) rfl (by rfl) (by go_simp) ?_
  simp only [List.set_cons_zero, List.set_cons_succ]
  refine runL 9 (.slice (A2) n2 c2) rfl (by rfl) (by go_simp) ?_
  simp only [List.set_cons_zero, List.set_cons_succ]
  refine runL 10 (.int .i64 (n2)) rfl (by rfl) (by go_simp) ?_
  simp only [List.set_cons_zero, List.set_cons_succ]
  refine runL 11 (.bool false) rfl (by rfl) (by go_simp) ?_
  simp only [List.set_cons_zero, List.set_cons_succ]
  refine runL 12 (.bool false) rfl (by rfl) (by go_simp) ?_
  simp only [List.set_cons_zero, List.set_cons_succ]
  refine nilL ?_
  go_upto_region 3 with fail
  refine wp_region_held_drew (S := fun wr => Below B0 w wr) (by kernel_rfl) (below_drewN hW 1) (fun hH => ?_)
  clear hW
  have hW := hH
  clear hH
  generalize w.drew = w3 at *
  refine takeH 18 0 14 (.slice (A) n c) rfl rfl (by kernel_rfl) (by kernel_rfl) (by kernel_rfl) (fun _ _ _ h => h) (Or.inl ⟨by rfl, fun w _ => by go_simp⟩) hW ?_
  simp only [List.set_cons_zero, List.set_cons_succ]
  refine takeH 17 1 15 (.slice (A2) n2 c2) rfl rfl (by kernel_rfl) (by kernel_rfl) (by kernel_rfl) (fun _ _ _ h => h) (Or.inl ⟨by rfl, fun w _ => by go_simp⟩) hW ?_
  simp only [List.set_cons_zero, List.set_cons_succ]
  refine takeH 16 3 17 (.slice (A) n c) rfl rfl (by kernel_rfl) (by kernel_rfl) (by kernel_rfl) (fun _ _ _ h => h) (Or.inl ⟨by rfl, fun w _ => by go_simp⟩) hW ?_
  simp only [List.set_cons_zero, List.set_cons_succ]
  refine takeH 15 4 18 (.slice (A2) n2 c2) rfl rfl (by kernel_rfl) (by kernel_rfl) (by kernel_rfl) (fun _ _ _ h => h) (Or.inl ⟨by rfl, fun w _ => by go_simp⟩) hW ?_
  simp only [List.set_cons_zero, List.set_cons_succ]
  refine wpAnyH_ready (by kernel_rfl) (by simp) (readyCons 14 2 16 rfl rfl (by rfl) (fun K hK => wp_callF 9 #[.slice (A) n c, .slice (A2) n2 c2] (by go_simp) (extract_to key m t htq.out A n c _ A2 n2 c2 _ hk hmb hnc (by omega) hnc2 (by omega) _ (gl.out _ hW) (rd.out _ hW) (Nat.le_trans hBB (Nat.le_trans hB0 hW.size)) (rd2.out _ hW) (Nat.le_trans hBB2 (Nat.le_trans hB0 hW.size))) ?_) AllReadyH.nil)
  rintro e w4 ⟨rfl, bx⟩
  replace hW := hW.trans (bx.mono (Nat.le_trans hB0 hW.size))
  clear bx
  refine ⟨_, rfl, hK.out _ _ hW (fun _ => ?_)⟩
  clear hK K
  simp only [List.set_cons_zero, List.set_cons_succ]
  refine wpAnyH_ready (by kernel_rfl) (by simp) (readyCons 13 5 19 rfl rfl (by rfl) (fun K hK => wp_callF 10 #[.slice (A) n c, .slice (A2) n2 c2] (by go_simp) (rhm_any key m A n c _ A2 n2 c2 _ hk (by omega) hmb (by omega) _ (rd.out _ hW) (Nat.le_trans hBB (Nat.le_trans hB0 hW.size)) (rd2.out _ hW) (Nat.le_trans hBB2 (Nat.le_trans hB0 hW.size))) ?_) AllReadyH.nil)
  rintro e w5 ⟨rfl, bx⟩
  rw [htq.out]
  replace hW := hW.trans (bx.mono (Nat.le_trans hB0 hW.size))
  clear bx
  refine ⟨_, rfl, hK.out _ _ hW (fun _ => ?_)⟩
  clear hK K
  simp only [List.set_cons_zero, List.set_cons_succ]
  refine takeH 12 6 20 (.bool true) rfl rfl (by kernel_rfl) (by kernel_rfl) (by kernel_rfl) (fun _ _ _ h => h) (Or.inl ⟨by rfl, fun _ _ => exec_eqB 25 32 (by kernel_rfl) (by kernel_rfl) (.tmp 16) (.tmp 19) _ rfl (t) (t) (htl) (htl) rfl rfl true (by simp)⟩) hW ?_
  simp only [List.set_cons_zero, List.set_cons_succ]
  refine takeH 11 7 21 (.bool true) rfl rfl (by kernel_rfl) (by kernel_rfl) (by kernel_rfl) (fun _ _ _ h => h) (Or.inl ⟨by rfl, fun w _ => by go_simp⟩) hW ?_
  simp only [List.set_cons_zero, List.set_cons_succ]
  refine takeH 10 8 22 (.slice (A2) n2 c2) rfl rfl (by kernel_rfl) (by kernel_rfl) (by kernel_rfl) (fun _ _ _ h => h) (Or.inl ⟨by rfl, fun w _ => by go_simp⟩) hW ?_
  simp only [List.set_cons_zero, List.set_cons_succ]
  refine takeH 9 11 25 (.slice (A2) n2 c2) rfl rfl (by kernel_rfl) (by kernel_rfl) (by kernel_rfl) (fun _ _ _ h => h) (Or.inl ⟨by rfl, fun w _ => by go_simp⟩) hW ?_
  simp only [List.set_cons_zero, List.set_cons_succ]
  refine wpAnyH_ready (by kernel_rfl) (by simp) (readyCons 8 9 23 rfl rfl (by rfl) (fun K hK => wp_callF 9 #[.slice none 0 0, .slice (A2) n2 c2] (by go_simp) (extract_to [] m u huq.out none 0 0 0 A2 n2 c2 _ Byt.nil hmb (Nat.le_refl _) (by decide) hnc2 (by omega) _ (gl.out _ hW) Reads.none_ (Nat.zero_le _) (rd2.out _ hW) (Nat.le_trans hBB2 (Nat.le_trans hB0 hW.size))) ?_) (readyRun 8 10 24 (.slice (some ⟨w5.heap.size, 0, none⟩) 32 32) (w5.alloc (.cells (va .u8 (List.replicate 32 0)) 5)) rfl rfl (by rfl) (exec_makeB _ _ rfl 32 (by omega) rfl rfl) (hW.alloc (Nat.le_trans hB0 hW.size) _) (fun _ => ?_) AllReadyH.nil))
  ·
    rintro e w6 ⟨rfl, bx⟩
    replace hW := hW.trans (bx.mono (Nat.le_trans hB0 hW.size))
    clear bx
    refine ⟨_, rfl, hK.out _ _ hW (fun _ => ?_)⟩
    clear hK K
    simp only [List.set_cons_zero, List.set_cons_succ]
    refine wpAnyH_ready (by kernel_rfl) (by simp) (readyRun 7 10 24 (.slice (some ⟨w6.heap.size, 0, none⟩) 32 32) (w6.alloc (.cells (va .u8 (List.replicate 32 0)) 5)) rfl rfl (by rfl) (exec_makeB _ _ rfl 32 (by omega) rfl rfl) (hW.alloc (Nat.le_trans hB0 hW.size) _) (fun _ => ?_) AllReadyH.nil)
    simp only [List.set_cons_zero, List.set_cons_succ]
    have lw_q2 := Nat.le_trans hB0 hW.size
    have hq2 : Blk (w6.alloc (.cells (va .u8 (List.replicate 32 0)) 5)) w6.heap.size 5 (va .u8 (List.replicate 32 0)) := Blk.new _ _ _
    replace hW := hW.alloc (Nat.le_trans hB0 hW.size) (.cells (va .u8 (List.replicate 32 0)) 5)
    generalize w6.alloc (.cells (va .u8 (List.replicate 32 0)) 5) = w7 at *
    generalize w6.heap.size = q2 at hq2 lw_q2  ⊢
    refine wpAnyH_ready (by kernel_rfl) (by simp) (readyCons 6 12 26 rfl rfl (by rfl) (fun K hK => wp_callF 9 #[.slice (some ⟨q2, 0, none⟩) 32 32, .slice (A2) n2 c2] (by go_simp) (extract_to (List.replicate 32 0) m u hu2q.out _ 32 32 _ A2 n2 c2 _ (Byt.rep _ _ (by omega)) hmb (Nat.le_refl _) (by decide) hnc2 (by omega) _ (gl.out _ hW) (hq2.readsAll (Nat.lt_succ_self _) (List.length_replicate)) hq2.lt (rd2.out _ hW) (Nat.le_trans hBB2 (Nat.le_trans hB0 hW.size))) ?_) AllReadyH.nil)
    rintro e w8 ⟨rfl, bx⟩
    replace hq2 := hq2.below bx hq2.lt
    replace hW := hW.trans (bx.mono (Nat.le_trans hB0 hW.size))
    clear bx
    refine ⟨_, rfl, hK.out _ _ hW (fun _ => ?_)⟩
    clear hK K
    simp only [List.set_cons_zero, List.set_cons_succ]
    refine takeH 5 13 27 (.bool true) rfl rfl (by kernel_rfl) (by kernel_rfl) (by kernel_rfl) (fun _ _ _ h => h) (Or.inl ⟨by rfl, fun _ _ => exec_eqB 25 32 (by kernel_rfl) (by kernel_rfl) (.tmp 23) (.tmp 26) _ rfl (u) (u) (hul) (hul) rfl rfl true (by simp)⟩) hW ?_
    simp only [List.set_cons_zero, List.set_cons_succ]
    refine takeH 4 14 28 (.bool true) rfl rfl (by kernel_rfl) (by kernel_rfl) (by kernel_rfl) (fun _ _ _ h => h) (Or.inl ⟨by rfl, fun w _ => by go_simp⟩) hW ?_
    simp only [List.set_cons_zero, List.set_cons_succ]
    refine takeH 3 15 29 (.bool true) rfl rfl (by kernel_rfl) (by kernel_rfl) (by kernel_rfl) (fun _ _ _ h => h) (Or.inl ⟨by rfl, fun w _ => by go_simp⟩) hW ?_
    simp only [List.set_cons_zero, List.set_cons_succ]
    refine wpAnyH_ready (by kernel_rfl) (by simp) (readyCons 2 16 30 rfl rfl (by rfl) (fun K hK => wp_callF 8 #[] (by go_simp) (lives04_any _ (gl.out _ hW)) ?_) AllReadyH.nil)
    rintro e w9 ⟨rfl, bx⟩
    replace hq2 := hq2.below bx hq2.lt
    replace hW := hW.trans (bx.mono (Nat.le_trans hB0 hW.size))
    clear bx
    refine ⟨_, rfl, hK.out _ _ hW (fun _ => ?_)⟩
    clear hK K
    simp only [List.set_cons_zero, List.set_cons_succ]
    refine takeH 1 17 31 (.bool true) rfl rfl (by kernel_rfl) (by kernel_rfl) (by kernel_rfl) (fun _ _ _ h => h) (Or.inl ⟨by rfl, fun w _ => by go_simp⟩) hW ?_
    simp only [List.set_cons_zero, List.set_cons_succ]
    refine takeH 0 18 4 (.bool true) rfl rfl (by kernel_rfl) (by kernel_rfl) (by kernel_rfl) (fun _ _ _ h => h) (Or.inl ⟨by rfl, fun w _ => by go_simp⟩) hW ?_
    simp only [List.set_cons_zero, List.set_cons_succ]
    refine wpAnyH_done (by kernel_rfl) ?_ _
    go_wp2_with fail
    go_ret
    exact ⟨rfl, hW⟩
  ·
    simp only [List.set_cons_zero, List.set_cons_succ]
    have lw_q1 := Nat.le_trans hB0 hW.size
    have hq1 : Blk (w5.alloc (.cells (va .u8 (List.replicate 32 0)) 5)) w5.heap.size 5 (va .u8 (List.replicate 32 0)) := Blk.new _ _ _
    replace hW := hW.alloc (Nat.le_trans hB0 hW.size) (.cells (va .u8 (List.replicate 32 0)) 5)
    generalize w5.alloc (.cells (va .u8 (List.replicate 32 0)) 5) = w10 at *
    generalize w5.heap.size = q1 at hq1 lw_q1  ⊢
    refine wpAnyH_ready (by kernel_rfl) (by simp) (readyCons 7 9 23 rfl rfl (by rfl) (fun K hK => wp_callF 9 #[.slice none 0 0, .slice (A2) n2 c2] (by go_simp) (extract_to [] m u huq.out none 0 0 0 A2 n2 c2 _ Byt.nil hmb (Nat.le_refl _) (by decide) hnc2 (by omega) _ (gl.out _ hW) Reads.none_ (Nat.zero_le _) (rd2.out _ hW) (Nat.le_trans hBB2 (Nat.le_trans hB0 hW.size))) ?_) AllReadyH.nil)
    rintro e w11 ⟨rfl, bx⟩
    replace hq1 := hq1.below bx hq1.lt
    replace hW := hW.trans (bx.mono (Nat.le_trans hB0 hW.size))
    clear bx
    refine ⟨_, rfl, hK.out _ _ hW (fun _ => ?_)⟩
    clear hK K
    simp only [List.set_cons_zero, List.set_cons_succ]
    refine wpAnyH_ready (by kernel_rfl) (by simp) (readyCons 6 12 26 rfl rfl (by rfl) (fun K hK => wp_callF 9 #[.slice (some ⟨q1, 0, none⟩) 32 32, .slice (A2) n2 c2] (by go_simp) (extract_to (List.replicate 32 0) m u hu2q.out _ 32 32 _ A2 n2 c2 _ (Byt.rep _ _ (by omega)) hmb (Nat.le_refl _) (by decide) hnc2 (by omega) _ (gl.out _ hW) (hq1.readsAll (Nat.lt_succ_self _) (List.length_replicate)) hq1.lt (rd2.out _ hW) (Nat.le_trans hBB2 (Nat.le_trans hB0 hW.size))) ?_) AllReadyH.nil)
    rintro e w12 ⟨rfl, bx⟩
    replace hq1 := hq1.below bx hq1.lt
    replace hW := hW.trans (bx.mono (Nat.le_trans hB0 hW.size))
    clear bx
    refine ⟨_, rfl, hK.out _ _ hW (fun _ => ?_)⟩
    clear hK K
    simp only [List.set_cons_zero, List.set_cons_succ]
    refine takeH 5 13 27 (.bool true) rfl rfl (by kernel_rfl) (by kernel_rfl) (by kernel_rfl) (fun _ _ _ h => h) (Or.inl ⟨by rfl, fun _ _ => exec_eqB 25 32 (by kernel_rfl) (by kernel_rfl) (.tmp 23) (.tmp 26) _ rfl (u) (u) (hul) (hul) rfl rfl true (by simp)⟩) hW ?_
    simp only [List.set_cons_zero, List.set_cons_succ]
    refine takeH 4 14 28 (.bool true) rfl rfl (by kernel_rfl) (by kernel_rfl) (by kernel_rfl) (fun _ _ _ h => h) (Or.inl ⟨by rfl, fun w _ => by go_simp⟩) hW ?_
    simp only [List.set_cons_zero, List.set_cons_succ]
    refine takeH 3 15 29 (.bool true) rfl rfl (by kernel_rfl) (by kernel_rfl) (by kernel_rfl) (fun _ _ _ h => h) (Or.inl ⟨by rfl, fun w _ => by go_simp⟩) hW ?_
    simp only [List.set_cons_zero, List.set_cons_succ]
    refine wpAnyH_ready (by kernel_rfl) (by simp) (readyCons 2 16 30 rfl rfl (by rfl) (fun K hK => wp_callF 8 #[] (by go_simp) (lives04_any _ (gl.out _ hW)) ?_) AllReadyH.nil)
    rintro e w13 ⟨rfl, bx⟩
    replace hq1 := hq1.below bx hq1.lt
    replace hW := hW.trans (bx.mono (Nat.le_trans hB0 hW.size))
    clear bx
    refine ⟨_, rfl, hK.out _ _ hW (fun _ => ?_)⟩
    clear hK K
    simp only [List.set_cons_zero, List.set_cons_succ]
    refine takeH 1 17 31 (.bool true) rfl rfl (by kernel_rfl) (by kernel_rfl) (by kernel_rfl) (fun _ _ _ h => h) (Or.inl ⟨by rfl, fun w _ => by go_simp⟩) hW ?_
    simp only [List.set_cons_zero, List.set_cons_succ]
    refine takeH 0 18 4 (.bool true) rfl rfl (by kernel_rfl) (by kernel_rfl) (by kernel_rfl) (fun _ _ _ h => h) (Or.inl ⟨by rfl, fun w _ => by go_simp⟩) hW ?_
    simp only [List.set_cons_zero, List.set_cons_succ]
    refine wpAnyH_done (by kernel_rfl) ?_ _
    go_wp2_with fail
    go_ret
    exact ⟨rfl, hW⟩

set_option maxRecDepth 8000 in
set_option maxHeartbeats 4000000 in
theorem lawDExpand_any (key info : List Nat) (z : Int) (hz : -9223372036854775808 ≤ z ∧ z ≤ 9223372036854775807) (A : Option Addr) (n c B : Nat) (A2 : Option Addr) (n2 c2 B2 : Nat) (hk : Byt key) (hi : Byt info) (hnc : n ≤ c) (hnc2 : n2 ≤ c2) (w : World) (hg : Glob w)
    (hr : Reads w B 1 A n (nv .u8 key)) (hB : B ≤ w.heap.size) (hr2 : Reads w B2 1 A2 n2 (nv .u8 info)) (hB2 : B2 ≤ w.heap.size) :
    Calls Tryd.prog 4 #[.slice A n c, .slice A2 n2 c2, .int .i64 z] w fun e w' => e = .returned (.bool true) ∧ Below w.heap.size w w' := by
  obtain ⟨B0, hB0e⟩ : ∃ b, w.heap.size = b := ⟨_, rfl⟩
  rw [hB0e]
  have hW : Below B0 w w := by rw [← hB0e]; exact Below.refl _ _
  have hB0 : B0 ≤ w.heap.size := by omega
  have gl := glob_of hg hB0e
  have hln := hr.len
  have hl2n := hr2.len
  have hBB : B ≤ B0 := by omega
  have hBB2 : B2 ≤ B0 := by omega
  have rd := reads_of hr hBB
  have rd2 := reads_of hr2 hBB2
  clear hr hB hr2 hB2 hg
  have hB0q := Lib.hid hB0e
  clear hB0e
  by_cases h1 : 100 < n
  ·
    have hI : (100 : Int) < (n : Int) := by omega
    go_enter Tryd.func4, Tryd.ntmps4
    go_upto_region 0 with fail
    refine wl_lit ?_
    refine runL 6 (.bool false) rfl (by rfl) (by go_simp) ?_
    simp only [List.set_cons_zero, List.set_cons_succ]
    refine nilL ?_
    go_upto_region 1 with fail
    refine wl_lit ?_
    refine runL 9 (.slice (A) n c) rfl (by rfl) (by go_simp) ?_
    simp only [List.set_cons_zero, List.set_cons_succ]
    refine runL 10 (.int .i64 (n)) rfl (by rfl) (by go_simp) ?_
    simp only [List.set_cons_zero, List.set_cons_succ]
    refine runL 11 (.bool true) rfl (by rfl) (by go_simp) ?_
    simp only [List.set_cons_zero, List.set_cons_succ]
    refine runL 12 (.bool true) rfl (by rfl) (by go_simp) ?_
    simp only [List.set_cons_zero, List.set_cons_succ]
    refine skipL 13 rfl (by kernel_rfl) ?_
    simp only [List.set_cons_zero, List.set_cons_succ]
    refine skipL 14 rfl (by kernel_rfl) ?_
    simp only [List.set_cons_zero, List.set_cons_succ]
    refine skipL 15 rfl (by kernel_rfl) ?_
    simp only [List.set_cons_zero, List.set_cons_succ]
    refine runL 16 (.bool true) rfl (by rfl) (by go_simp) ?_
    simp only [List.set_cons_zero, List.set_cons_succ]
    refine runL 17 (.bool true) rfl (by rfl) (by go_simp) ?_
    simp only [List.set_cons_zero, List.set_cons_succ]
    refine skipL 18 rfl (by kernel_rfl) ?_
    simp only [List.set_cons_zero, List.set_cons_succ]
    refine skipL 19 rfl (by kernel_rfl) ?_
    simp only [List.set_cons_zero, List.set_cons_succ]
    refine skipL 20 rfl (by kernel_rfl) ?_
    simp only [List.set_cons_zero, List.set_cons_succ]
    refine skipL 21 rfl (by kernel_rfl) ?_
    simp only [List.set_cons_zero, List.set_cons_succ]
    refine skipL 22 rfl (by kernel_rfl) ?_
    simp only [List.set_cons_zero, List.set_cons_succ]
    refine skipL 23 rfl (by kernel_rfl) ?_
    simp only [List.set_cons_zero, List.set_cons_succ]
    refine runL 24 (.bool true) rfl (by rfl) (by go_simp) ?_
    simp only [List.set_cons_zero, List.set_cons_succ]
    refine nilL ?_
    go_upto_region 2 with fail
    refine wl_lit ?_
    refine callL 25 rfl (by rfl) (fun K hK => wp_callF 8 #[] (by go_simp) (lives04_any _ (gl.out _ hW)) ?_)
    rintro e w1 ⟨rfl, bx⟩
    replace hW := hW.trans (bx.mono (Nat.le_trans hB0 hW.size))
    clear bx
    refine ⟨_, rfl, hK.out _ _ ?_⟩
    clear hK K
    simp only [List.set_cons_zero, List.set_cons_succ]
    refine runL 6 (.bool true) rfl (by rfl) (by go_simp) ?_
    simp only [List.set_cons_zero, List.set_cons_succ]
    refine nilL ?_
    go_wp2_with fail
    go_ret
    exact ⟨rfl, hW⟩
  have hI : ¬ (100 : Int) < (n : Int) := by omega
  by_cases h2 : 100 < n2
  ·
    have hI2 : (100 : Int) < (n2 : Int) := by omega
    go_enter Tryd.func4, Tryd.ntmps4
    go_upto_region 0 with fail
    refine wl_lit ?_
    refine runL 6 (.bool false) rfl (by rfl) (by go_simp) ?_
    simp only [List.set_cons_zero, List.set_cons_succ]
    refine nilL ?_
    go_upto_region 1 with fail
    refine wl_lit ?_
    refine runL 9 (.slice (A) n c) rfl (by rfl) (by go_simp) ?_
    simp only [List.set_cons_zero, List.set_cons_succ]
    refine runL 10 (.int .i64 (n)) rfl (by rfl) (by go_simp) ?_
    simp only [List.set_cons_zero, List.set_cons_succ]
    refine runL 11 (.bool false) rfl (by rfl) (by go_simp) ?_
    simp only [List.set_cons_zero, List.set_cons_succ]
    refine runL 12 (.bool false) rfl (by rfl) (by go_simp) ?_
    simp only [List.set_cons_zero, List.set_cons_succ]
    refine runL 13 (.slice (A2) n2 c2) rfl (by rfl) (by go_simp) ?_
    simp only [List.set_cons_zero, List.set_cons_succ]
    refine runL 14 (.int .i64 (n2)) rfl (by rfl) (by go_simp) ?_
    simp only [List.set_cons_zero, List.set_cons_succ]
    refine runL 15 (.bool true) rfl (by rfl) (by go_simp) ?_
    simp only [List.set_cons_zero, List.set_cons_succ]
    refine runL 16 (.bool true) rfl (by rfl) (by go_simp) ?_
    simp only [List.set_cons_zero, List.set_cons_succ]
    refine runL 17 (.bool true) rfl (by rfl) (by go_simp) ?_
    simp only [List.set_cons_zero, List.set_cons_succ]
    refine skipL 18 rfl (by kernel_rfl) ?_
    simp only [List.set_cons_zero, List.set_cons_succ]
    refine skipL 19 rfl (by kernel_rfl) ?_
    simp only [List.set_cons_zero, List.set_cons_succ]
    refine skipL 20 rfl (by kernel_rfl) ?_
    simp only [List.set_cons_zero, List.set_cons_succ]
    refine skipL 21 rfl (by kernel_rfl) ?_
    simp only [List.set_cons_zero, List.set_cons_succ]
    refine skipL 22 rfl (by kernel_rfl) ?_
    simp only [List.set_cons_zero, List.set_cons_succ]
    refine skipL 23 rfl (by kernel_rfl) ?_
    simp only [List.set_cons_zero, List.set_cons_succ]
    refine runL 24 (.bool true) rfl (by rfl) (by go_simp) ?_
    simp only [List.set_cons_zero, List.set_cons_succ]
    refine nilL ?_
    go_upto_region 2 with fail
    refine wl_lit ?_
    refine callL 25 rfl (by rfl) (fun K hK => wp_callF 8 #[] (by go_simp) (lives04_any _ (gl.out _ hW)) ?_)
    rintro e w2 ⟨rfl, bx⟩
    replace hW := hW.trans (bx.mono (Nat.le_trans hB0 hW.size))
    clear bx
    refine ⟨_, rfl, hK.out _ _ ?_⟩
    clear hK K
    simp only [List.set_cons_zero, List.set_cons_succ]
    refine runL 6 (.bool true) rfl (by rfl) (by go_simp) ?_
    simp only [List.set_cons_zero, List.set_cons_succ]
    refine nilL ?_
    go_wp2_with fail
    go_ret
    exact ⟨rfl, hW⟩
  have hI2 : ¬ (100 : Int) < (n2 : Int) := by omega
  by_cases h3 : z < 0
  ·
    have h4 : ¬ 300 < z := by omega
    go_enter Tryd.func4, Tryd.ntmps4
    go_upto_region 0 with fail
    refine wl_lit ?_
    refine runL 6 (.bool false) rfl (by rfl) (by go_simp) ?_
    simp only [List.set_cons_zero, List.set_cons_succ]
    refine nilL ?_
    go_upto_region 1 with fail
    refine wl_lit ?_
    refine runL 9 (.slice (A) n c) rfl (by rfl) (by go_simp) ?_
    simp only [List.set_cons_zero, List.set_cons_succ]
    refine runL 10 (.int .i64 (n)) rfl (by rfl) (by go_simp) ?_
    simp only [List.set_cons_zero, List.set_cons_succ]
    refine runL 11 (.bool false) rfl (by rfl) (by go_simp) ?_
    simp only [List.set_cons_zero, List.set_cons_succ]
    refine runL 12 (.bool false) rfl (by rfl) (by go_simp) ?_
    simp only [List.set_cons_zero, List.set_cons_succ]
    refine runL 13 (.slice (A2) n2 c2) rfl (by rfl) (by go_simp) ?_
    simp only [List.set_cons_zero, List.set_cons_succ]
    refine runL 14 (.int .i64 (n2)) rfl (by rfl) (by go_simp) ?_
    simp only [List.set_cons_zero, List.set_cons_succ]
    refine runL 15 (.bool false) rfl (by rfl) (by go_simp) ?_
    simp only [List.set_cons_zero, List.set_cons_succ]
    refine runL 16 (.bool false) rfl (by rfl) (by go_simp) ?_
    simp only [List.set_cons_zero, List.set_cons_succ]
    refine runL 17 (.bool false) rfl (by rfl) (by go_simp) ?_
    simp only [List.set_cons_zero, List.set_cons_succ]
    refine runL 18 (.int .i64 (z)) rfl (by rfl) (by go_simp) ?_
    simp only [List.set_cons_zero, List.set_cons_succ]
    refine runL 19 (.bool false) rfl (by rfl) (by go_simp) ?_
    simp only [List.set_cons_zero, List.set_cons_succ]
    refine runL 20 (.bool false) rfl (by rfl) (by go_simp) ?_
    simp only [List.set_cons_zero, List.set_cons_succ]
    refine skipL 21 rfl (by kernel_rfl) ?_
    simp only [List.set_cons_zero, List.set_cons_succ]
    refine skipL 22 rfl (by kernel_rfl) ?_
    simp only [List.set_cons_zero, List.set_cons_succ]
    refine runL 23 (.bool false) rfl (by rfl) (by go_simp) ?_
    simp only [List.set_cons_zero, List.set_cons_succ]
    refine runL 24 (.bool false) rfl (by rfl) (by go_simp) ?_
    simp only [List.set_cons_zero, List.set_cons_succ]
    refine nilL ?_
    go_upto_region 3 with fail
    refine wl_lit ?_
    refine runL 27 (.slice (A) n c) rfl (by rfl) (by go_simp) ?_
    simp only [List.set_cons_zero, List.set_cons_succ]
    refine runL 28 (.slice (A2) n2 c2) rfl (by rfl) (by go_simp) ?_
    simp only [List.set_cons_zero, List.set_cons_succ]
    refine runL 29 (.int .i64 (z)) rfl (by rfl) (by go_simp) ?_
    simp only [List.set_cons_zero, List.set_cons_succ]
    refine callL 30 rfl (by rfl) (fun K hK => wp_callF 11 #[.slice (A) n c, .slice (A2) n2 c2, .int .i64 (z)] (by go_simp) (dexp_none z 1 (.inl ⟨h3, rfl⟩) hz A n c A2 n2 c2 _) ?_)
    rintro e w3 ⟨rfl, bx⟩
    replace hW := hW.trans (bx.mono (Nat.le_trans hB0 hW.size))
    clear bx
    refine ⟨_, rfl, hK.out _ _ ?_⟩
    clear hK K
    simp only [List.set_cons_zero, List.set_cons_succ]
    refine runL 26 (.tuple #[.slice none 0 0, .int .i64 1]) rfl (by rfl) (by go_simp) ?_
    simp only [List.set_cons_zero, List.set_cons_succ]
    refine runL 31 (.slice none 0 0) rfl (by rfl) (by go_simp) ?_
    simp only [List.set_cons_zero, List.set_cons_succ]
    refine runL 32 (.int .i64 1) rfl (by rfl) (by go_simp) ?_
    simp only [List.set_cons_zero, List.set_cons_succ]
    refine runL 7 (.slice none 0 0) rfl (by rfl) (by go_simp) ?_
    simp only [List.set_cons_zero, List.set_cons_succ]
    refine runL 8 (.int .i64 1) rfl (by rfl) (by go_simp) ?_
    simp only [List.set_cons_zero, List.set_cons_succ]
    refine nilL ?_
    go_upto_region 4 with fail
    refine wl_lit ?_
    refine runL 34 (.int .i64 (z)) rfl (by rfl) (by go_simp) ?_
    simp only [List.set_cons_zero, List.set_cons_succ]
    refine runL 35 (.bool true) rfl (by rfl) (by go_simp) ?_
    simp only [List.set_cons_zero, List.set_cons_succ]
    refine runL 33 (.bool true) rfl (by rfl) (by go_simp) ?_
    simp only [List.set_cons_zero, List.set_cons_succ]
    refine nilL ?_
    go_upto_region 5 with fail
    refine wl_lit ?_
    refine runL 36 (.slice none 0 0) rfl (by rfl) (by go_simp) ?_
    simp only [List.set_cons_zero, List.set_cons_succ]
    refine runL 37 (.int .i64 1) rfl (by rfl) (by go_simp) ?_
    simp only [List.set_cons_zero, List.set_cons_succ]
    refine callL 38 rfl (by rfl) (fun K hK => wp_callF 12 #[.slice none 0 0, .int .i64 1, .slice none 0 0, .int .i64 1] (by go_simp) (same04_any [] none 0 0 none 0 0 1 _ Reads.none_ (Nat.zero_le _) Reads.none_ (Nat.zero_le _)) ?_)
    rintro e w4 ⟨rfl, bx⟩
    replace hW := hW.trans (bx.mono (Nat.le_trans hB0 hW.size))
    clear bx
    refine ⟨_, rfl, hK.out _ _ ?_⟩
    clear hK K
    simp only [List.set_cons_zero, List.set_cons_succ]
    refine runL 39 (.bool true) rfl (by rfl) (by go_simp) ?_
    simp only [List.set_cons_zero, List.set_cons_succ]
    refine callL 40 rfl (by rfl) (fun K hK => wp_callF 8 #[] (by go_simp) (lives04_any _ (gl.out _ hW)) ?_)
    rintro e w5 ⟨rfl, bx⟩
    replace hW := hW.trans (bx.mono (Nat.le_trans hB0 hW.size))
    clear bx
    refine ⟨_, rfl, hK.out _ _ ?_⟩
    clear hK K
    simp only [List.set_cons_zero, List.set_cons_succ]
    refine runL 41 (.bool true) rfl (by rfl) (by go_simp) ?_
    simp only [List.set_cons_zero, List.set_cons_succ]
    refine runL 6 (.bool true) rfl (by rfl) (by go_simp) ?_
    simp only [List.set_cons_zero, List.set_cons_succ]
    refine nilL ?_
    go_wp2_with fail
    go_ret
    exact ⟨rfl, hW⟩
  by_cases h4 : 8160 < z
  ·
    have h5 : 300 < z := by omega
    have h6 : ¬ z ≤ 8160 := by omega
    go_enter Tryd.func4, Tryd.ntmps4
    go_upto_region 0 with fail
    refine wl_lit ?_
    refine runL 6 (.bool false) rfl (by rfl) (by go_simp) ?_
    simp only [List.set_cons_zero, List.set_cons_succ]
    refine nilL ?_
    go_upto_region 1 with fail
    refine wl_lit ?_
    refine runL 9 (.slice (A) n c) rfl (by rfl) (by go_simp) ?_
    simp only [List.set_cons_zero, List.set_cons_succ]
    refine runL 10 (.int .i64 (n)) rfl (by rfl) (by go_simp) ?_
    simp only [List.set_cons_zero, List.set_cons_succ]
    refine runL 11 (.bool false) rfl (by rfl) (by go_simp) ?_
    simp only [List.set_cons_zero, List.set_cons_succ]
    refine runL 12 (.bool false) rfl (by rfl) (by go_simp) ?_
    simp only [List.set_cons_zero, List.set_cons_succ]
    refine runL 13 (.slice (A2) n2 c2) rfl (by rfl) (by go_simp) ?_
    simp only [List.set_cons_zero, List.set_cons_succ]
    refine runL 14 (.int .i64 (n2)) rfl (by rfl) (by go_simp) ?_
    simp only [List.set_cons_zero, List.set_cons_succ]
    refine runL 15 (.bool false) rfl (by rfl) (by go_simp) ?_
    simp only [List.set_cons_zero, List.set_cons_succ]
    refine runL 16 (.bool false) rfl (by rfl) (by go_simp) ?_
    simp only [List.set_cons_zero, List.set_cons_succ]
    refine runL 17 (.bool false) rfl (by rfl) (by go_simp) ?_
    simp only [List.set_cons_zero, List.set_cons_succ]
    refine runL 18 (.int .i64 (z)) rfl (by rfl) (by go_simp) ?_
    simp only [List.set_cons_zero, List.set_cons_succ]
    refine runL 19 (.bool true) rfl (by rfl) (by go_simp) ?_
    simp only [List.set_cons_zero, List.set_cons_succ]
    refine runL 20 (.bool true) rfl (by rfl) (by go_simp) ?_
    simp only [List.set_cons_zero, List.set_cons_succ]
    refine runL 21 (.int .i64 (z)) rfl (by rfl) (by go_simp) ?_
    simp only [List.set_cons_zero, List.set_cons_succ]
    refine runL 22 (.bool false) rfl (by rfl) (by go_simp) ?_
    simp only [List.set_cons_zero, List.set_cons_succ]
    refine runL 23 (.bool false) rfl (by rfl) (by go_simp) ?_
    simp only [List.set_cons_zero, List.set_cons_succ]
    refine runL 24 (.bool false) rfl (by rfl) (by go_simp) ?_
    simp only [List.set_cons_zero, List.set_cons_succ]
    refine nilL ?_
    go_upto_region 3 with fail
    refine wl_lit ?_
    refine runL 27 (.slice (A) n c) rfl (by rfl) (by go_simp) ?_
    simp only [List.set_cons_zero, List.set_cons_succ]
    refine runL 28 (.slice (A2) n2 c2) rfl (by rfl) (by go_simp) ?_
    simp only [List.set_cons_zero, List.set_cons_succ]
    refine runL 29 (.int .i64 (z)) rfl (by rfl) (by go_simp) ?_
    simp only [List.set_cons_zero, List.set_cons_succ]
    refine callL 30 rfl (by rfl) (fun K hK => wp_callF 11 #[.slice (A) n c, .slice (A2) n2 c2, .int .i64 (z)] (by go_simp) (dexp_none z 3 (.inr (.inl ⟨h4, rfl⟩)) hz A n c A2 n2 c2 _) ?_)
    rintro e w6 ⟨rfl, bx⟩
    replace hW := hW.trans (bx.mono (Nat.le_trans hB0 hW.size))
    clear bx
    refine ⟨_, rfl, hK.out _ _ ?_⟩
    clear hK K
    simp only [List.set_cons_zero, List.set_cons_succ]
    refine runL 26 (.tuple #[.slice none 0 0, .int .i64 3]) rfl (by rfl) (by go_simp) ?_
    simp only [List.set_cons_zero, List.set_cons_succ]
    refine runL 31 (.slice none 0 0) rfl (by rfl) (by go_simp) ?_
    simp only [List.set_cons_zero, List.set_cons_succ]
    refine runL 32 (.int .i64 3) rfl (by rfl) (by go_simp) ?_
    simp only [List.set_cons_zero, List.set_cons_succ]
    refine runL 7 (.slice none 0 0) rfl (by rfl) (by go_simp) ?_
    simp only [List.set_cons_zero, List.set_cons_succ]
    refine runL 8 (.int .i64 3) rfl (by rfl) (by go_simp) ?_
    simp only [List.set_cons_zero, List.set_cons_succ]
    refine nilL ?_
    go_upto_region 4 with fail
    refine wl_lit ?_
    refine runL 34 (.int .i64 (z)) rfl (by rfl) (by go_simp) ?_
    simp only [List.set_cons_zero, List.set_cons_succ]
    refine runL 35 (.bool false) rfl (by rfl) (by go_simp) ?_
    simp only [List.set_cons_zero, List.set_cons_succ]
    refine runL 33 (.bool false) rfl (by rfl) (by go_simp) ?_
    simp only [List.set_cons_zero, List.set_cons_succ]
    refine nilL ?_
    go_upto_region 6 with fail
    refine wl_lit ?_
    refine runL 43 (.int .i64 (z)) rfl (by rfl) (by go_simp) ?_
    simp only [List.set_cons_zero, List.set_cons_succ]
    refine runL 44 (.bool true) rfl (by rfl) (by go_simp) ?_
    simp only [List.set_cons_zero, List.set_cons_succ]
    refine runL 42 (.bool true) rfl (by rfl) (by go_simp) ?_
    simp only [List.set_cons_zero, List.set_cons_succ]
    refine nilL ?_
    go_upto_region 7 with fail
    refine wl_lit ?_
    refine runL 45 (.slice none 0 0) rfl (by rfl) (by go_simp) ?_
    simp only [List.set_cons_zero, List.set_cons_succ]
    refine runL 46 (.int .i64 3) rfl (by rfl) (by go_simp) ?_
    simp only [List.set_cons_zero, List.set_cons_succ]
    refine callL 47 rfl (by rfl) (fun K hK => wp_callF 12 #[.slice none 0 0, .int .i64 3, .slice none 0 0, .int .i64 3] (by go_simp) (same04_any [] none 0 0 none 0 0 3 _ Reads.none_ (Nat.zero_le _) Reads.none_ (Nat.zero_le _)) ?_)
    rintro e w7 ⟨rfl, bx⟩
    replace hW := hW.trans (bx.mono (Nat.le_trans hB0 hW.size))
    clear bx
    refine ⟨_, rfl, hK.out _ _ ?_⟩
    clear hK K
    simp only [List.set_cons_zero, List.set_cons_succ]
    refine runL 48 (.bool true) rfl (by rfl) (by go_simp) ?_
    simp only [List.set_cons_zero, List.set_cons_succ]
    refine callL 49 rfl (by rfl) (fun K hK => wp_callF 8 #[] (by go_simp) (lives04_any _ (gl.out _ hW)) ?_)
    rintro e w8 ⟨rfl, bx⟩
    replace hW := hW.trans (bx.mono (Nat.le_trans hB0 hW.size))
    clear bx
    refine ⟨_, rfl, hK.out _ _ ?_⟩
    clear hK K
    simp only [List.set_cons_zero, List.set_cons_succ]
    refine runL 50 (.bool true) rfl (by rfl) (by go_simp) ?_
    simp only [List.set_cons_zero, List.set_cons_succ]
    refine runL 6 (.bool true) rfl (by rfl) (by go_simp) ?_
    simp only [List.set_cons_zero, List.set_cons_succ]
    refine nilL ?_
    go_wp2_with fail
    go_ret
    exact ⟨rfl, hW⟩
  by_cases h5 : 300 < z
  ·
    have h6 : z ≤ 8160 := by omega
    go_enter Tryd.func4, Tryd.ntmps4
    go_upto_region 0 with fail
    refine wl_lit ?_
    refine runL 6 (.bool false) rfl (by rfl) (by go_simp) ?_
    simp only [List.set_cons_zero, List.set_cons_succ]
    refine nilL ?_
    go_upto_region 1 with fail
    refine wl_lit ?_
    refine runL 9 (.slice (A) n c) rfl (by rfl) (by go_simp) ?_
    simp only [List.set_cons_zero, List.set_cons_succ]
    refine runL 10 (.int .i64 (n)) rfl (by rfl) (by go_simp) ?_
    simp only [List.set_cons_zero, List.set_cons_succ]
    refine runL 11 (.bool false) rfl (by rfl) (by go_simp) ?_
    simp only [List.set_cons_zero, List.set_cons_succ]
    refine runL 12 (.bool false) rfl (by rfl) (by go_simp) ?_
    simp only [List.set_cons_zero, List.set_cons_succ]
    refine runL 13 (.slice (A2) n2 c2) rfl (by rfl) (by go_simp) ?_
    simp only [List.set_cons_zero, List.set_cons_succ]
    refine runL 14 (.int .i64 (n2)) rfl (by rfl) (by go_simp) ?_
    simp only [List.set_cons_zero, List.set_cons_succ]
    refine runL 15 (.bool false) rfl (by rfl) (by go_simp) ?_
    simp only [List.set_cons_zero, List.set_cons_succ]
    refine runL 16 (.bool false) rfl (by rfl) (by go_simp) ?_
    simp only [List.set_cons_zero, List.set_cons_succ]
    refine runL 17 (.bool false) rfl (by rfl) (by go_simp) ?_
    simp only [List.set_cons_zero, List.set_cons_succ]
    refine runL 18 (.int .i64 (z)) rfl (by rfl) (by go_simp) ?_
    simp only [List.set_cons_zero, List.set_cons_succ]
    refine runL 19 (.bool true) rfl (by rfl) (by go_simp) ?_
    simp only [List.set_cons_zero, List.set_cons_succ]
    refine runL 20 (.bool true) rfl (by rfl) (by go_simp) ?_
    simp only [List.set_cons_zero, List.set_cons_succ]
    refine runL 21 (.int .i64 (z)) rfl (by rfl) (by go_simp) ?_
    simp only [List.set_cons_zero, List.set_cons_succ]
    refine runL 22 (.bool true) rfl (by rfl) (by go_simp) ?_
    simp only [List.set_cons_zero, List.set_cons_succ]
    refine runL 23 (.bool true) rfl (by rfl) (by go_simp) ?_
    simp only [List.set_cons_zero, List.set_cons_succ]
    refine runL 24 (.bool true) rfl (by rfl) (by go_simp) ?_
    simp only [List.set_cons_zero, List.set_cons_succ]
    refine nilL ?_
    go_upto_region 2 with fail
    refine wl_lit ?_
    refine callL 25 rfl (by rfl) (fun K hK => wp_callF 8 #[] (by go_simp) (lives04_any _ (gl.out _ hW)) ?_)
    rintro e w9 ⟨rfl, bx⟩
    replace hW := hW.trans (bx.mono (Nat.le_trans hB0 hW.size))
    clear bx
    refine ⟨_, rfl, hK.out _ _ ?_⟩
    clear hK K
    simp only [List.set_cons_zero, List.set_cons_succ]
    refine runL 6 (.bool true) rfl (by rfl) (by go_simp) ?_
    simp only [List.set_cons_zero, List.set_cons_succ]
    refine nilL ?_
    go_wp2_with fail
    go_ret
    exact ⟨rfl, hW⟩
  obtain ⟨Z, rfl⟩ : ∃ Z : Nat, z = (Z : Int) := ⟨z.toNat, by omega⟩
  obtain ⟨r, hrr⟩ : ∃ r, ex key info Z = r := ⟨_, rfl⟩
  have hrl : r.length = Z := by rw [← hrr]; exact ex_len _ _ _ (by omega)
  have hrb : Byt r := by rw [← hrr]; exact ex_byt _ _ _
  have hrq := Lib.hid hrr
  clear hrr
  go_enter Tryd.func4, Tryd.ntmps4
  go_upto_region 0 with fail
  refine wl_lit ?_
  refine runL 6 (.bool false) rfl (by rfl) (by go_simp) ?_
  simp only [List.set_cons_zero, List.set_cons_succ]
  refine nilL ?_
  go_upto_region 1 with fail
  refine wl_lit ?_
  refine runL 9 (.slice (A) n c) rfl (by rfl) (by go_simp) ?_
  simp only [List.set_cons_zero, List.set_cons_succ]
  refine runL 10 (.int .i64 (n)) rfl (by rfl) (by go_simp) ?_
  simp only [List.set_cons_zero, List.set_cons_succ]
  refine runL 11 (.bool false) rfl (by rfl) (by go_simp) ?_
  simp only [List.set_cons_zero, List.set_cons_succ]
  refine runL 12 (.bool false) rfl (by rfl) (by go_simp) ?_
  simp only [List.set_cons_zero, List.set_cons_succ]
  refine runL 13 (.slice (A2) n2 c2) rfl (by rfl) (by go_simp) ?_
  simp only [List.set_cons_zero, List.set_cons_succ]
  refine runL 14 (.int .i64 (n2)) rfl (by rfl) (by go_simp) ?_
  simp only [List.set_cons_zero, List.set_cons_succ]
  refine runL 15 (.bool false) rfl (by rfl) (by go_simp) ?_
  simp only [List.set_cons_zero, List.set_cons_succ]
  refine runL 16 (.bool false) rfl (by rfl) (by go_simp) ?_
  simp only [List.set_cons_zero, List.set_cons_succ]
  refine runL 17 (.bool false) rfl (by rfl) (by go_simp) ?_
  simp only [List.set_cons_zero, List.set_cons_succ]
  refine runL 18 (.int .i64 (Z : Int)) rfl (by rfl) (by go_simp) ?_
  simp only [List.set_cons_zero, List.set_cons_succ]
  refine runL 19 (.bool false) rfl (by rfl) (by go_simp) ?_
  simp only [List.set_cons_zero, List.set_cons_succ]
  refine runL 20 (.bool false) rfl (by rfl) (by go_simp) ?_
  simp only [List.set_cons_zero, List.set_cons_succ]
  refine skipL 21 rfl (by kernel_rfl) ?_
  simp only [List.set_cons_zero, List.set_cons_succ]
  refine skipL 22 rfl (by kernel_rfl) ?_
  simp only [List.set_cons_zero, List.set_cons_succ]
  refine runL 23 (.bool false) rfl (by rfl) (by go_simp) ?_
  simp only [List.set_cons_zero, List.set_cons_succ]
  refine runL 24 (.bool false) rfl (by rfl) (by go_simp) ?_
  simp only [List.set_cons_zero, List.set_cons_succ]
  refine nilL ?_
  go_upto_region 3 with fail
  refine wl_lit ?_
  refine runL 27 (.slice (A) n c) rfl (by rfl) (by go_simp) ?_
  simp only [List.set_cons_zero, List.set_cons_succ]
  refine runL 28 (.slice (A2) n2 c2) rfl (by rfl) (by go_simp) ?_
  simp only [List.set_cons_zero, List.set_cons_succ]
  refine runL 29 (.int .i64 (Z : Int)) rfl (by rfl) (by go_simp) ?_
  simp only [List.set_cons_zero, List.set_cons_succ]
  refine callL 30 rfl (by rfl) (fun K hK => wp_callF 11 #[.slice (A) n c, .slice (A2) n2 c2, .int .i64 (Z : Int)] (by go_simp) (dexp_to key info Z r hrq.out (by omega) A n c _ A2 n2 c2 _ hk hi hnc (by omega) hnc2 (by omega) _ (gl.out _ hW) (rd.out _ hW) (Nat.le_trans hBB (Nat.le_trans hB0 hW.size)) (rd2.out _ hW) (Nat.le_trans hBB2 (Nat.le_trans hB0 hW.size))) ?_)
  rintro e w10 ⟨AX, rfl, hAX, bx⟩
  replace hAX := hAX.mono (Nat.le_trans hB0 hW.size)
  replace hW := hW.trans (bx.mono (Nat.le_trans hB0 hW.size))
  clear bx
  refine ⟨_, rfl, hK.out _ _ ?_⟩
  clear hK K
  simp only [List.set_cons_zero, List.set_cons_succ]
  refine runL 26 (.tuple #[.slice (AX) Z Z, .int .i64 0]) rfl (by rfl) (by go_simp) ?_
  simp only [List.set_cons_zero, List.set_cons_succ]
  refine runL 31 (.slice (AX) Z Z) rfl (by rfl) (by go_simp) ?_
  simp only [List.set_cons_zero, List.set_cons_succ]
  refine runL 32 (.int .i64 0) rfl (by rfl) (by go_simp) ?_
  simp only [List.set_cons_zero, List.set_cons_succ]
  refine runL 7 (.slice (AX) Z Z) rfl (by rfl) (by go_simp) ?_
  simp only [List.set_cons_zero, List.set_cons_succ]
  refine runL 8 (.int .i64 0) rfl (by rfl) (by go_simp) ?_
  simp only [List.set_cons_zero, List.set_cons_succ]
  refine nilL ?_
  go_upto_region 4 with fail
  refine wl_lit ?_
  refine runL 34 (.int .i64 (Z : Int)) rfl (by rfl) (by go_simp) ?_
  simp only [List.set_cons_zero, List.set_cons_succ]
  refine runL 35 (.bool false) rfl (by rfl) (by go_simp) ?_
  simp only [List.set_cons_zero, List.set_cons_succ]
  refine runL 33 (.bool false) rfl (by rfl) (by go_simp) ?_
  simp only [List.set_cons_zero, List.set_cons_succ]
  refine nilL ?_
  go_upto_region 6 with fail
  refine wl_lit ?_
  refine runL 43 (.int .i64 (Z : Int)) rfl (by rfl) (by go_simp) ?_
  simp only [List.set_cons_zero, List.set_cons_succ]
  refine runL 44 (.bool false) rfl (by rfl) (by go_simp) ?_
  simp only [List.set_cons_zero, List.set_cons_succ]
  refine runL 42 (.bool false) rfl (by rfl) (by go_simp) ?_
  simp only [List.set_cons_zero, List.set_cons_succ]
  refine nilL ?_
  go_upto_region 8 with fail
  refine wl_lit ?_
  refine runL 51 (.slice (AX) Z Z) rfl (by rfl) (by go_simp) ?_
  simp only [List.set_cons_zero, List.set_cons_succ]
  refine runL 52 (.int .i64 0) rfl (by rfl) (by go_simp) ?_
  simp only [List.set_cons_zero, List.set_cons_succ]
  refine runL 53 (.slice (A) n c) rfl (by rfl) (by go_simp) ?_
  simp only [List.set_cons_zero, List.set_cons_succ]
  refine runL 54 (.slice (A2) n2 c2) rfl (by rfl) (by go_simp) ?_
  simp only [List.set_cons_zero, List.set_cons_succ]
  refine runL 55 (.int .i64 (Z : Int)) rfl (by rfl) (by go_simp) ?_
  simp only [List.set_cons_zero, List.set_cons_succ]
  refine callL 56 rfl (by rfl) (fun K hK => wp_callF 13 #[.slice (A) n c, .slice (A2) n2 c2, .int .i64 (Z : Int)] (by go_simp) (rexp_any key info Z (by omega) A n c _ A2 n2 c2 _ hk hi hnc (by omega) hnc2 (by omega) _ (rd.out _ hW) (Nat.le_trans hBB (Nat.le_trans hB0 hW.size)) (rd2.out _ hW) (Nat.le_trans hBB2 (Nat.le_trans hB0 hW.size))) ?_)
  rintro e w11 ⟨AR, cR, rfl, hAR, bx⟩
  replace hAR := hAR.mono (Nat.le_trans hB0 hW.size)
  replace hAX := hAX.below bx
  replace hW := hW.trans (bx.mono (Nat.le_trans hB0 hW.size))
  clear bx
  rw [hrq.out] at hAR
  refine ⟨_, rfl, hK.out _ _ ?_⟩
  clear hK K
  simp only [List.set_cons_zero, List.set_cons_succ]
  refine callL 57 rfl (by rfl) (fun K hK => wp_callF 12 #[.slice (AX) Z Z, .int .i64 0, .slice (AR) Z cR, .int .i64 0] (by go_simp) (same04_any r AX Z _ AR cR _ 0 _ hAX.reads (Nat.le_refl _) hAR.reads (Nat.le_refl _)) ?_)
  rintro e w12 ⟨rfl, bx⟩
  replace hAX := hAX.below bx
  replace hAR := hAR.below bx
  replace hW := hW.trans (bx.mono (Nat.le_trans hB0 hW.size))
  clear bx
  refine ⟨_, rfl, hK.out _ _ ?_⟩
  clear hK K
  simp only [List.set_cons_zero, List.set_cons_succ]
  refine runL 58 (.bool true) rfl (by rfl) (by go_simp) ?_
  simp only [List.set_cons_zero, List.set_cons_succ]
  refine callL 59 rfl (by rfl) (fun K hK => wp_callF 8 #[] (by go_simp) (lives04_any _ (gl.out _ hW)) ?_)
  rintro e w13 ⟨rfl, bx⟩
  replace hAX := hAX.below bx
  replace hAR := hAR.below bx
  replace hW := hW.trans (bx.mono (Nat.le_trans hB0 hW.size))
  clear bx
  refine ⟨_, rfl, hK.out _ _ ?_⟩
  clear hK K
  simp only [List.set_cons_zero, List.set_cons_succ]
  refine runL 60 (.bool true) rfl (by rfl) (by go_simp) ?_
  simp only [List.set_cons_zero, List.set_cons_succ]
  refine runL 6 (.bool true) rfl (by rfl) (by go_simp) ?_
  simp only [List.set_cons_zero, List.set_cons_succ]
  refine nilL ?_
  go_wp2_with fail
  go_ret
  exact ⟨rfl, hW⟩

set_option maxRecDepth 8000 in
set_option maxHeartbeats 4000000 in
theorem lawDPrefix_any (key info : List Nat) (a b : Nat) (ha : a < 256) (hb : b < 256) (A : Option Addr) (n c B : Nat) (A2 : Option Addr) (n2 c2 B2 : Nat) (hk : Byt key) (hi : Byt info) (hnc : n ≤ c) (hnc2 : n2 ≤ c2) (w : World) (hg : Glob w)
    (hr : Reads w B 1 A n (nv .u8 key)) (hB : B ≤ w.heap.size) (hr2 : Reads w B2 1 A2 n2 (nv .u8 info)) (hB2 : B2 ≤ w.heap.size) :
    Calls Tryd.prog 5 #[.slice A n c, .slice A2 n2 c2, .agg (va .u8 [a, b])] w fun e w' => e = .returned (.bool true) ∧ Below w.heap.size w w' := by
  obtain ⟨B0, hB0e⟩ : ∃ b, w.heap.size = b := ⟨_, rfl⟩
  rw [hB0e]
  have hW : Below B0 w w := by rw [← hB0e]; exact Below.refl _ _
  have hB0 : B0 ≤ w.heap.size := by omega
  have gl := glob_of hg hB0e
  have hln := hr.len
  have hl2n := hr2.len
  have hBB : B ≤ B0 := by omega
  have hBB2 : B2 ≤ B0 := by omega
  have rd := reads_of hr hBB
  have rd2 := reads_of hr2 hBB2
  clear hr hB hr2 hB2 hg
  have hB0q := Lib.hid hB0e
  clear hB0e
  by_cases h1 : 100 < n
  ·
    have hI : (100 : Int) < (n : Int) := by omega
    go_enter Tryd.func5, Tryd.ntmps5
    go_upto_region 0 with fail
    refine wl_lit ?_
    refine runWL 5 (.pointer (some ⟨w.heap.size, 0, none⟩)) (w.alloc (.cells (va .u8 ([a, b])) 34)) rfl (by rfl) (exec_box 34 (.tmp 2) rfl (.agg (va .u8 ([a, b]))) rfl) ?_
    simp only [List.set_cons_zero, List.set_cons_succ]
    have lw_p5 := Nat.le_trans hB0 hW.size
    have hp5 : Blk (w.alloc (.cells (va .u8 ([a, b])) 34)) w.heap.size 34 (va .u8 ([a, b])) := Blk.new _ _ _
    replace hW := hW.alloc (Nat.le_trans hB0 hW.size) (.cells (va .u8 ([a, b])) 34)
    generalize w.alloc (.cells (va .u8 ([a, b])) 34) = w1 at *
    generalize w.heap.size = p5 at hp5 lw_p5  ⊢
    refine runL 6 (.bool false) rfl (by rfl) (by go_simp) ?_
    simp only [List.set_cons_zero, List.set_cons_succ]
    refine nilL ?_
    go_upto_region 1 with fail
    refine wl_lit ?_
    refine runL 13 (.slice (A) n c) rfl (by rfl) (by go_simp) ?_
    simp only [List.set_cons_zero, List.set_cons_succ]
    refine runL 14 (.int .i64 (n)) rfl (by rfl) (by go_simp) ?_
    simp only [List.set_cons_zero, List.set_cons_succ]
    refine runL 15 (.bool true) rfl (by rfl) (by go_simp) ?_
    simp only [List.set_cons_zero, List.set_cons_succ]
    refine runL 16 (.bool true) rfl (by rfl) (by go_simp) ?_
    simp only [List.set_cons_zero, List.set_cons_succ]
    refine skipL 17 rfl (by kernel_rfl) ?_
    simp only [List.set_cons_zero, List.set_cons_succ]
    refine skipL 18 rfl (by kernel_rfl) ?_
    simp only [List.set_cons_zero, List.set_cons_succ]
    refine skipL 19 rfl (by kernel_rfl) ?_
    simp only [List.set_cons_zero, List.set_cons_succ]
    refine runL 20 (.bool true) rfl (by rfl) (by go_simp) ?_
    simp only [List.set_cons_zero, List.set_cons_succ]
    refine nilL ?_
    go_upto_region 2 with fail
    refine wl_lit ?_
    refine callL 21 rfl (by rfl) (fun K hK => wp_callF 8 #[] (by go_simp) (lives04_any _ (gl.out _ hW)) ?_)
    rintro e w2 ⟨rfl, bx⟩
    replace hp5 := hp5.below bx hp5.lt
    replace hW := hW.trans (bx.mono (Nat.le_trans hB0 hW.size))
    clear bx
    refine ⟨_, rfl, hK.out _ _ ?_⟩
    clear hK K
    simp only [List.set_cons_zero, List.set_cons_succ]
    refine runL 6 (.bool true) rfl (by rfl) (by go_simp) ?_
    simp only [List.set_cons_zero, List.set_cons_succ]
    refine nilL ?_
    go_wp2_with fail
    go_ret
    exact ⟨rfl, hW⟩
  have hI : ¬ (100 : Int) < (n : Int) := by omega
  by_cases h2 : 100 < n2
  ·
    have hI2 : (100 : Int) < (n2 : Int) := by omega
    go_enter Tryd.func5, Tryd.ntmps5
    go_upto_region 0 with fail
    refine wl_lit ?_
    refine runWL 5 (.pointer (some ⟨w.heap.size, 0, none⟩)) (w.alloc (.cells (va .u8 ([a, b])) 34)) rfl (by rfl) (exec_box 34 (.tmp 2) rfl (.agg (va .u8 ([a, b]))) rfl) ?_
    simp only [List.set_cons_zero, List.set_cons_succ]
    have lw_p5 := Nat.le_trans hB0 hW.size
    have hp5 : Blk (w.alloc (.cells (va .u8 ([a, b])) 34)) w.heap.size 34 (va .u8 ([a, b])) := Blk.new _ _ _
    replace hW := hW.alloc (Nat.le_trans hB0 hW.size) (.cells (va .u8 ([a, b])) 34)
    generalize w.alloc (.cells (va .u8 ([a, b])) 34) = w3 at *
    generalize w.heap.size = p5 at hp5 lw_p5  ⊢
    refine runL 6 (.bool false) rfl (by rfl) (by go_simp) ?_
    simp only [List.set_cons_zero, List.set_cons_succ]
    refine nilL ?_
    go_upto_region 1 with fail
    refine wl_lit ?_
    refine runL 13 (.slice (A) n c) rfl (by rfl) (by go_simp) ?_
    simp only [List.set_cons_zero, List.set_cons_succ]
    refine runL 14 (.int .i64 (n)) rfl (by rfl) (by go_simp) ?_
    simp only [List.set_cons_zero, List.set_cons_succ]
    refine runL 15 (.bool false) rfl (by rfl) (by go_simp) ?_
    simp only [List.set_cons_zero, List.set_cons_succ]
    refine runL 16 (.bool false) rfl (by rfl) (by go_simp) ?_
    simp only [List.set_cons_zero, List.set_cons_succ]
    refine runL 17 (.slice (A2) n2 c2) rfl (by rfl) (by go_simp) ?_
    simp only [List.set_cons_zero, List.set_cons_succ]
    refine runL 18 (.int .i64 (n2)) rfl (by rfl) (by go_simp) ?_
    simp only [List.set_cons_zero, List.set_cons_succ]
    refine runL 19 (.bool true) rfl (by rfl) (by go_simp) ?_
    simp only [List.set_cons_zero, List.set_cons_succ]
    refine runL 20 (.bool true) rfl (by rfl) (by go_simp) ?_
    simp only [List.set_cons_zero, List.set_cons_succ]
    refine nilL ?_
    go_upto_region 2 with fail
    refine wl_lit ?_
    refine callL 21 rfl (by rfl) (fun K hK => wp_callF 8 #[] (by go_simp) (lives04_any _ (gl.out _ hW)) ?_)
    rintro e w4 ⟨rfl, bx⟩
    replace hp5 := hp5.below bx hp5.lt
    replace hW := hW.trans (bx.mono (Nat.le_trans hB0 hW.size))
    clear bx
    refine ⟨_, rfl, hK.out _ _ ?_⟩
    clear hK K
    simp only [List.set_cons_zero, List.set_cons_succ]
    refine runL 6 (.bool true) rfl (by rfl) (by go_simp) ?_
    simp only [List.set_cons_zero, List.set_cons_succ]
    refine nilL ?_
    go_wp2_with fail
    go_ret
    exact ⟨rfl, hW⟩
  have hI2 : ¬ (100 : Int) < (n2 : Int) := by omega
  obtain ⟨x, y, hxy, hx256, hy256, hmin, hmax⟩ : ∃ x y : Nat, x ≤ y ∧ x < 256 ∧ y < 256 ∧ (if b < a then (b : Int) else (a : Int)) = (x : Int) ∧ (if a < b then (b : Int) else (a : Int)) = (y : Int) := by
    by_cases h : a ≤ b
    · refine ⟨a, b, h, ha, hb, by rw [if_neg (by omega)], ?_⟩
      by_cases h' : a = b
      · rw [if_neg (by omega)]; omega
      · rw [if_pos (by omega)]
    · exact ⟨b, a, by omega, hb, ha, by rw [if_pos (by omega)], by rw [if_neg (by omega)]⟩
  obtain ⟨r, hrr⟩ : ∃ r, ex key info x = r := ⟨_, rfl⟩
  obtain ⟨s, hss⟩ : ∃ r, ex key info y = r := ⟨_, rfl⟩
  have hrl : r.length = x := by rw [← hrr]; exact ex_len _ _ _ (by omega)
  have hsl : s.length = y := by rw [← hss]; exact ex_len _ _ _ (by omega)
  have hsr : s.take x = r := by rw [← hss, ← hrr]; exact ex_ex _ _ _ _ hxy
  have hrq := Lib.hid hrr
  have hsq := Lib.hid hss
  have hsrq := Lib.hid hsr
  have hwx : IntKind.i64.wrap (x : Int) = (x : Int) := IntWalk.i64_in _ (by omega)
  have hwy : IntKind.i64.wrap (y : Int) = (y : Int) := IntWalk.i64_in _ (by omega)
  have hxyI : (x : Int) ≤ (y : Int) := by omega
  clear hrr hss hsr
  go_enter Tryd.func5, Tryd.ntmps5
  go_upto_region 0 with fail
  refine wl_lit ?_
  refine runWL 5 (.pointer (some ⟨w.heap.size, 0, none⟩)) (w.alloc (.cells (va .u8 ([a, b])) 34)) rfl (by rfl) (exec_box 34 (.tmp 2) rfl (.agg (va .u8 ([a, b]))) rfl) ?_
  simp only [List.set_cons_zero, List.set_cons_succ]
  have lw_p5 := Nat.le_trans hB0 hW.size
  have hp5 : Blk (w.alloc (.cells (va .u8 ([a, b])) 34)) w.heap.size 34 (va .u8 ([a, b])) := Blk.new _ _ _
  replace hW := hW.alloc (Nat.le_trans hB0 hW.size) (.cells (va .u8 ([a, b])) 34)
  generalize w.alloc (.cells (va .u8 ([a, b])) 34) = w5 at *
  generalize w.heap.size = p5 at hp5 lw_p5  ⊢
  refine runL 6 (.bool false) rfl (by rfl) (by go_simp) ?_
  simp only [List.set_cons_zero, List.set_cons_succ]
  refine nilL ?_
  go_upto_region 1 with fail
  refine wl_lit ?_
  refine runL 13 (.slice (A) n c) rfl (by rfl) (by go_simp) ?_
  simp only [List.set_cons_zero, List.set_cons_succ]
  refine runL 14 (.int .i64 (n)) rfl (by rfl) (by go_simp) ?_
  simp only [List.set_cons_zero, List.set_cons_succ]
  refine runL 15 (.bool false) rfl (by rfl) (by go_simp) ?_
  simp only [List.set_cons_zero, List.set_cons_succ]
  refine runL 16 (.bool false) rfl (by rfl) (by go_simp) ?_
  simp only [List.set_cons_zero, List.set_cons_succ]
  refine runL 17 (.slice (A2) n2 c2) rfl (by rfl) (by go_simp) ?_
  simp only [List.set_cons_zero, List.set_cons_succ]
  refine runL 18 (.int .i64 (n2)) rfl (by rfl) (by go_simp) ?_
  simp only [List.set_cons_zero, List.set_cons_succ]
  refine runL 19 (.bool false) rfl (by rfl) (by go_simp) ?_
  simp only [List.set_cons_zero, List.set_cons_succ]
  refine runL 20 (.bool false) rfl (by rfl) (by go_simp) ?_
  simp only [List.set_cons_zero, List.set_cons_succ]
  refine nilL ?_
  go_upto_region 3 with fail
  refine wp_region_held_drew (S := fun wr => Blk wr p5 34 (va .u8 ([a, b])) ∧ Below B0 w wr) (by kernel_rfl) ⟨hp5.drew, below_drewN hW 1⟩ (fun hH => ?_)
  clear hp5 hW
  obtain ⟨hp5, hW⟩ := hH
  generalize w5.drew = w6 at *
  refine takeH 13 0 22 (.pointer (some ⟨p5, 0, none⟩)) rfl rfl (by kernel_rfl) (by kernel_rfl) (by kernel_rfl) (fun _ _ _ h => h) (Or.inl ⟨by rfl, fun w _ => by go_simp⟩) ⟨hp5, hW⟩ ?_
  simp only [List.set_cons_zero, List.set_cons_succ]
  refine takeH 12 1 23 (.int .u8 (a : Int)) rfl rfl (by kernel_rfl) (by kernel_rfl) (by kernel_rfl) (fun _ _ _ h => h) (Or.inl ⟨by rfl, fun _ h => exec_cell 5 (.tmp 22) rfl p5 0 rfl (.int .u8 (a : Int)) _ Tryd.underlying5 rfl (by exact h.1.num (by simp))⟩) ⟨hp5, hW⟩ ?_
  simp only [List.set_cons_zero, List.set_cons_succ]
  refine takeH 11 2 24 (.pointer (some ⟨p5, 1, none⟩)) rfl rfl (by kernel_rfl) (by kernel_rfl) (by kernel_rfl) (fun _ _ _ h => h) (Or.inl ⟨by rfl, fun w _ => by go_simp⟩) ⟨hp5, hW⟩ ?_
  simp only [List.set_cons_zero, List.set_cons_succ]
  refine takeH 10 3 25 (.int .u8 (b : Int)) rfl rfl (by kernel_rfl) (by kernel_rfl) (by kernel_rfl) (fun _ _ _ h => h) (Or.inl ⟨by rfl, fun _ h => exec_cell 5 (.tmp 24) rfl p5 1 rfl (.int .u8 (b : Int)) _ Tryd.underlying5 rfl (by exact h.1.num (by simp))⟩) ⟨hp5, hW⟩ ?_
  simp only [List.set_cons_zero, List.set_cons_succ]
  refine takeH 9 4 26 (.int .u8 (x : Int)) rfl rfl (by kernel_rfl) (by kernel_rfl) (by kernel_rfl) (fun _ _ _ h => h) (Or.inl ⟨by rfl, fun w _ => by go_simp⟩) ⟨hp5, hW⟩ ?_
  simp only [List.set_cons_zero, List.set_cons_succ]
  refine takeH 8 5 27 (.int .i64 (x : Int)) rfl rfl (by kernel_rfl) (by kernel_rfl) (by kernel_rfl) (fun _ _ _ h => h) (Or.inl ⟨by rfl, fun w _ => by go_simp⟩) ⟨hp5, hW⟩ ?_
  simp only [List.set_cons_zero, List.set_cons_succ]
  refine takeH 7 6 28 (.pointer (some ⟨p5, 0, none⟩)) rfl rfl (by kernel_rfl) (by kernel_rfl) (by kernel_rfl) (fun _ _ _ h => h) (Or.inl ⟨by rfl, fun w _ => by go_simp⟩) ⟨hp5, hW⟩ ?_
  simp only [List.set_cons_zero, List.set_cons_succ]
  refine takeH 6 7 29 (.int .u8 (a : Int)) rfl rfl (by kernel_rfl) (by kernel_rfl) (by kernel_rfl) (fun _ _ _ h => h) (Or.inl ⟨by rfl, fun _ h => exec_cell 5 (.tmp 28) rfl p5 0 rfl (.int .u8 (a : Int)) _ Tryd.underlying5 rfl (by exact h.1.num (by simp))⟩) ⟨hp5, hW⟩ ?_
  simp only [List.set_cons_zero, List.set_cons_succ]
  refine takeH 5 8 30 (.pointer (some ⟨p5, 1, none⟩)) rfl rfl (by kernel_rfl) (by kernel_rfl) (by kernel_rfl) (fun _ _ _ h => h) (Or.inl ⟨by rfl, fun w _ => by go_simp⟩) ⟨hp5, hW⟩ ?_
  simp only [List.set_cons_zero, List.set_cons_succ]
  refine takeH 4 9 31 (.int .u8 (b : Int)) rfl rfl (by kernel_rfl) (by kernel_rfl) (by kernel_rfl) (fun _ _ _ h => h) (Or.inl ⟨by rfl, fun _ h => exec_cell 5 (.tmp 30) rfl p5 1 rfl (.int .u8 (b : Int)) _ Tryd.underlying5 rfl (by exact h.1.num (by simp))⟩) ⟨hp5, hW⟩ ?_
  simp only [List.set_cons_zero, List.set_cons_succ]
  refine takeH 3 10 32 (.int .u8 (y : Int)) rfl rfl (by kernel_rfl) (by kernel_rfl) (by kernel_rfl) (fun _ _ _ h => h) (Or.inl ⟨by rfl, fun w _ => by go_simp⟩) ⟨hp5, hW⟩ ?_
  simp only [List.set_cons_zero, List.set_cons_succ]
  refine takeH 2 11 33 (.int .i64 (y : Int)) rfl rfl (by kernel_rfl) (by kernel_rfl) (by kernel_rfl) (fun _ _ _ h => h) (Or.inl ⟨by rfl, fun w _ => by go_simp⟩) ⟨hp5, hW⟩ ?_
  simp only [List.set_cons_zero, List.set_cons_succ]
  refine takeH 1 12 7 (.int .i64 (x : Int)) rfl rfl (by kernel_rfl) (by kernel_rfl) (by kernel_rfl) (fun _ _ _ h => h) (Or.inl ⟨by rfl, fun w _ => by go_simp⟩) ⟨hp5, hW⟩ ?_
  simp only [List.set_cons_zero, List.set_cons_succ]
  refine takeH 0 13 8 (.int .i64 (y : Int)) rfl rfl (by kernel_rfl) (by kernel_rfl) (by kernel_rfl) (fun _ _ _ h => h) (Or.inl ⟨by rfl, fun w _ => by go_simp⟩) ⟨hp5, hW⟩ ?_
  simp only [List.set_cons_zero, List.set_cons_succ]
  refine wpAnyH_done (by kernel_rfl) ?_ _
  go_upto_region 4 with fail
  refine wl_lit ?_
  refine runL 35 (.slice (A) n c) rfl (by rfl) (by go_simp) ?_
  simp only [List.set_cons_zero, List.set_cons_succ]
  refine runL 36 (.slice (A2) n2 c2) rfl (by rfl) (by go_simp) ?_
  simp only [List.set_cons_zero, List.set_cons_succ]
  refine runL 37 (.int .i64 (x : Int)) rfl (by rfl) (by go_simp) ?_
  simp only [List.set_cons_zero, List.set_cons_succ]
  refine callL 38 rfl (by rfl) (fun K hK => wp_callF 11 #[.slice (A) n c, .slice (A2) n2 c2, .int .i64 (x : Int)] (by go_simp) (dexp_to key info x r hrq.out (by omega) A n c _ A2 n2 c2 _ hk hi hnc (by omega) hnc2 (by omega) _ (gl.out _ hW) (rd.out _ hW) (Nat.le_trans hBB (Nat.le_trans hB0 hW.size)) (rd2.out _ hW) (Nat.le_trans hBB2 (Nat.le_trans hB0 hW.size))) ?_)
  rintro e w7 ⟨AX, rfl, hAX, bx⟩
  replace hAX := hAX.mono (Nat.le_trans hB0 hW.size)
  replace hp5 := hp5.below bx hp5.lt
  replace hW := hW.trans (bx.mono (Nat.le_trans hB0 hW.size))
  clear bx
  refine ⟨_, rfl, hK.out _ _ ?_⟩
  clear hK K
  simp only [List.set_cons_zero, List.set_cons_succ]
  refine runL 34 (.tuple #[.slice (AX) x x, .int .i64 0]) rfl (by rfl) (by go_simp) ?_
  simp only [List.set_cons_zero, List.set_cons_succ]
  refine runL 39 (.slice (AX) x x) rfl (by rfl) (by go_simp) ?_
  simp only [List.set_cons_zero, List.set_cons_succ]
  refine runL 40 (.int .i64 0) rfl (by rfl) (by go_simp) ?_
  simp only [List.set_cons_zero, List.set_cons_succ]
  refine runL 9 (.slice (AX) x x) rfl (by rfl) (by go_simp) ?_
  simp only [List.set_cons_zero, List.set_cons_succ]
  refine runL 10 (.int .i64 0) rfl (by rfl) (by go_simp) ?_
  simp only [List.set_cons_zero, List.set_cons_succ]
  refine nilL ?_
  go_upto_region 5 with fail
  refine wl_lit ?_
  refine runL 42 (.slice (A) n c) rfl (by rfl) (by go_simp) ?_
  simp only [List.set_cons_zero, List.set_cons_succ]
  refine runL 43 (.slice (A2) n2 c2) rfl (by rfl) (by go_simp) ?_
  simp only [List.set_cons_zero, List.set_cons_succ]
  refine runL 44 (.int .i64 (y : Int)) rfl (by rfl) (by go_simp) ?_
  simp only [List.set_cons_zero, List.set_cons_succ]
  refine callL 45 rfl (by rfl) (fun K hK => wp_callF 11 #[.slice (A) n c, .slice (A2) n2 c2, .int .i64 (y : Int)] (by go_simp) (dexp_to key info y s hsq.out (by omega) A n c _ A2 n2 c2 _ hk hi hnc (by omega) hnc2 (by omega) _ (gl.out _ hW) (rd.out _ hW) (Nat.le_trans hBB (Nat.le_trans hB0 hW.size)) (rd2.out _ hW) (Nat.le_trans hBB2 (Nat.le_trans hB0 hW.size))) ?_)
  rintro e w8 ⟨AY, rfl, hAY, bx⟩
  replace hAY := hAY.mono (Nat.le_trans hB0 hW.size)
  replace hp5 := hp5.below bx hp5.lt
  replace hAX := hAX.below bx
  replace hW := hW.trans (bx.mono (Nat.le_trans hB0 hW.size))
  clear bx
  refine ⟨_, rfl, hK.out _ _ ?_⟩
  clear hK K
  simp only [List.set_cons_zero, List.set_cons_succ]
  refine runL 41 (.tuple #[.slice (AY) y y, .int .i64 0]) rfl (by rfl) (by go_simp) ?_
  simp only [List.set_cons_zero, List.set_cons_succ]
  refine runL 46 (.slice (AY) y y) rfl (by rfl) (by go_simp) ?_
  simp only [List.set_cons_zero, List.set_cons_succ]
  refine runL 47 (.int .i64 0) rfl (by rfl) (by go_simp) ?_
  simp only [List.set_cons_zero, List.set_cons_succ]
  refine runL 11 (.slice (AY) y y) rfl (by rfl) (by go_simp) ?_
  simp only [List.set_cons_zero, List.set_cons_succ]
  refine runL 12 (.int .i64 0) rfl (by rfl) (by go_simp) ?_
  simp only [List.set_cons_zero, List.set_cons_succ]
  refine nilL ?_
  go_upto_region 6 with fail
  refine wp_region_held_drew (S := fun wr => Blk wr p5 34 (va .u8 ([a, b])) ∧ Rs wr B0 AX x r ∧ Rs wr B0 AY y s ∧ Below B0 w wr) (by kernel_rfl) ⟨hp5.drew, hAX.drew_, hAY.drew_, below_drewN hW 1⟩ (fun hH => ?_)
  clear hp5 hAX hAY hW
  obtain ⟨hp5, hAX, hAY, hW⟩ := hH
  generalize w8.drew = w9 at *
  refine takeH 30 0 48 (.int .i64 0) rfl rfl (by kernel_rfl) (by kernel_rfl) (by kernel_rfl) (fun _ _ _ h => h) (Or.inl ⟨by rfl, fun w _ => by go_simp⟩) ⟨hp5, hAX, hAY, hW⟩ ?_
  simp only [List.set_cons_zero, List.set_cons_succ]
  refine takeH 29 1 49 (.bool true) rfl rfl (by kernel_rfl) (by kernel_rfl) (by kernel_rfl) (fun _ _ _ h => h) (Or.inl ⟨by rfl, fun w _ => by go_simp⟩) ⟨hp5, hAX, hAY, hW⟩ ?_
  simp only [List.set_cons_zero, List.set_cons_succ]
  refine takeH 28 2 50 (.bool true) rfl rfl (by kernel_rfl) (by kernel_rfl) (by kernel_rfl) (fun _ _ _ h => h) (Or.inl ⟨by rfl, fun w _ => by go_simp⟩) ⟨hp5, hAX, hAY, hW⟩ ?_
  simp only [List.set_cons_zero, List.set_cons_succ]
  refine takeH 27 3 51 (.int .i64 0) rfl rfl (by kernel_rfl) (by kernel_rfl) (by kernel_rfl) (fun _ _ _ h => h) (Or.inl ⟨by rfl, fun w _ => by go_simp⟩) ⟨hp5, hAX, hAY, hW⟩ ?_
  simp only [List.set_cons_zero, List.set_cons_succ]
  refine takeH 26 4 52 (.bool true) rfl rfl (by kernel_rfl) (by kernel_rfl) (by kernel_rfl) (fun _ _ _ h => h) (Or.inl ⟨by rfl, fun w _ => by go_simp⟩) ⟨hp5, hAX, hAY, hW⟩ ?_
  simp only [List.set_cons_zero, List.set_cons_succ]
  refine takeH 25 5 53 (.bool true) rfl rfl (by kernel_rfl) (by kernel_rfl) (by kernel_rfl) (fun _ _ _ h => h) (Or.inl ⟨by rfl, fun w _ => by go_simp⟩) ⟨hp5, hAX, hAY, hW⟩ ?_
  simp only [List.set_cons_zero, List.set_cons_succ]
  refine takeH 24 6 54 (.bool true) rfl rfl (by kernel_rfl) (by kernel_rfl) (by kernel_rfl) (fun _ _ _ h => h) (Or.inl ⟨by rfl, fun w _ => by go_simp⟩) ⟨hp5, hAX, hAY, hW⟩ ?_
  simp only [List.set_cons_zero, List.set_cons_succ]
  refine takeH 23 7 55 (.slice (AX) x x) rfl rfl (by kernel_rfl) (by kernel_rfl) (by kernel_rfl) (fun _ _ _ h => h) (Or.inl ⟨by rfl, fun w _ => by go_simp⟩) ⟨hp5, hAX, hAY, hW⟩ ?_
  simp only [List.set_cons_zero, List.set_cons_succ]
  refine takeH 22 8 56 (.int .i64 (x)) rfl rfl (by kernel_rfl) (by kernel_rfl) (by kernel_rfl) (fun _ _ _ h => h) (Or.inl ⟨by rfl, fun w _ => by go_simp⟩) ⟨hp5, hAX, hAY, hW⟩ ?_
  simp only [List.set_cons_zero, List.set_cons_succ]
  refine takeH 21 9 57 (.int .i64 (x : Int)) rfl rfl (by kernel_rfl) (by kernel_rfl) (by kernel_rfl) (fun _ _ _ h => h) (Or.inl ⟨by rfl, fun w _ => by go_simp⟩) ⟨hp5, hAX, hAY, hW⟩ ?_
  simp only [List.set_cons_zero, List.set_cons_succ]
  refine takeH 20 10 58 (.bool true) rfl rfl (by kernel_rfl) (by kernel_rfl) (by kernel_rfl) (fun _ _ _ h => h) (Or.inl ⟨by rfl, fun w _ => by go_simp⟩) ⟨hp5, hAX, hAY, hW⟩ ?_
  simp only [List.set_cons_zero, List.set_cons_succ]
  refine takeH 19 11 59 (.bool true) rfl rfl (by kernel_rfl) (by kernel_rfl) (by kernel_rfl) (fun _ _ _ h => h) (Or.inl ⟨by rfl, fun w _ => by go_simp⟩) ⟨hp5, hAX, hAY, hW⟩ ?_
  simp only [List.set_cons_zero, List.set_cons_succ]
  refine takeH 18 12 60 (.bool true) rfl rfl (by kernel_rfl) (by kernel_rfl) (by kernel_rfl) (fun _ _ _ h => h) (Or.inl ⟨by rfl, fun w _ => by go_simp⟩) ⟨hp5, hAX, hAY, hW⟩ ?_
  simp only [List.set_cons_zero, List.set_cons_succ]
  refine takeH 17 13 61 (.slice (AY) y y) rfl rfl (by kernel_rfl) (by kernel_rfl) (by kernel_rfl) (fun _ _ _ h => h) (Or.inl ⟨by rfl, fun w _ => by go_simp⟩) ⟨hp5, hAX, hAY, hW⟩ ?_
  simp only [List.set_cons_zero, List.set_cons_succ]
  refine takeH 16 14 62 (.int .i64 (y)) rfl rfl (by kernel_rfl) (by kernel_rfl) (by kernel_rfl) (fun _ _ _ h => h) (Or.inl ⟨by rfl, fun w _ => by go_simp⟩) ⟨hp5, hAX, hAY, hW⟩ ?_
  simp only [List.set_cons_zero, List.set_cons_succ]
  refine takeH 15 15 63 (.int .i64 (y : Int)) rfl rfl (by kernel_rfl) (by kernel_rfl) (by kernel_rfl) (fun _ _ _ h => h) (Or.inl ⟨by rfl, fun w _ => by go_simp⟩) ⟨hp5, hAX, hAY, hW⟩ ?_
  simp only [List.set_cons_zero, List.set_cons_succ]
  refine takeH 14 16 64 (.bool true) rfl rfl (by kernel_rfl) (by kernel_rfl) (by kernel_rfl) (fun _ _ _ h => h) (Or.inl ⟨by rfl, fun w _ => by go_simp⟩) ⟨hp5, hAX, hAY, hW⟩ ?_
  simp only [List.set_cons_zero, List.set_cons_succ]
  refine takeH 13 17 65 (.bool true) rfl rfl (by kernel_rfl) (by kernel_rfl) (by kernel_rfl) (fun _ _ _ h => h) (Or.inl ⟨by rfl, fun w _ => by go_simp⟩) ⟨hp5, hAX, hAY, hW⟩ ?_
  simp only [List.set_cons_zero, List.set_cons_succ]
  refine takeH 12 18 66 (.bool true) rfl rfl (by kernel_rfl) (by kernel_rfl) (by kernel_rfl) (fun _ _ _ h => h) (Or.inl ⟨by rfl, fun w _ => by go_simp⟩) ⟨hp5, hAX, hAY, hW⟩ ?_
  simp only [List.set_cons_zero, List.set_cons_succ]
  refine takeH 11 19 67 (.slice (AY) y y) rfl rfl (by kernel_rfl) (by kernel_rfl) (by kernel_rfl) (fun _ _ _ h => h) (Or.inl ⟨by rfl, fun w _ => by go_simp⟩) ⟨hp5, hAX, hAY, hW⟩ ?_
  simp only [List.set_cons_zero, List.set_cons_succ]
  refine takeH 10 20 68 (.int .i64 (x : Int)) rfl rfl (by kernel_rfl) (by kernel_rfl) (by kernel_rfl) (fun _ _ _ h => h) (Or.inl ⟨by rfl, fun w _ => by go_simp⟩) ⟨hp5, hAX, hAY, hW⟩ ?_
  simp only [List.set_cons_zero, List.set_cons_succ]
  refine takeH 9 21 69 (.slice (AY) x y) rfl rfl (by kernel_rfl) (by kernel_rfl) (by kernel_rfl) (fun _ _ _ h => h) (Or.inl ⟨by rfl, fun w _ => by go_simp⟩) ⟨hp5, hAX, hAY, hW⟩ ?_
  simp only [List.set_cons_zero, List.set_cons_succ]
  refine takeH 8 22 70 (.string (bst (r))) rfl rfl (by kernel_rfl) (by kernel_rfl) (by kernel_rfl) (fun _ _ _ h => h) (Or.inl ⟨by rfl, fun _ h => exec_conv 22 9 (.tmp 69) rfl (.slice (AY) x y) (.string (bst (r))) rfl (Reads.string (Rs.pre h.2.2.1 hxy hsrq.out) _ _ Tryd.underlying22 Tryd.underlying9)⟩) ⟨hp5, hAX, hAY, hW⟩ ?_
  simp only [List.set_cons_zero, List.set_cons_succ]
  refine takeH 7 23 71 (.slice (AX) x x) rfl rfl (by kernel_rfl) (by kernel_rfl) (by kernel_rfl) (fun _ _ _ h => h) (Or.inl ⟨by rfl, fun w _ => by go_simp⟩) ⟨hp5, hAX, hAY, hW⟩ ?_
  simp only [List.set_cons_zero, List.set_cons_succ]
  refine takeH 6 24 72 (.string (bst (r))) rfl rfl (by kernel_rfl) (by kernel_rfl) (by kernel_rfl) (fun _ _ _ h => h) (Or.inl ⟨by rfl, fun _ h => exec_conv 22 9 (.tmp 71) rfl (.slice (AX) x x) (.string (bst (r))) rfl (Reads.string h.2.1.reads _ _ Tryd.underlying22 Tryd.underlying9)⟩) ⟨hp5, hAX, hAY, hW⟩ ?_
  simp only [List.set_cons_zero, List.set_cons_succ]
  refine takeH 5 25 73 (.bool true) rfl rfl (by kernel_rfl) (by kernel_rfl) (by kernel_rfl) (fun _ _ _ h => h) (Or.inl ⟨by rfl, fun w _ => by go_simp⟩) ⟨hp5, hAX, hAY, hW⟩ ?_
  simp only [List.set_cons_zero, List.set_cons_succ]
  refine takeH 4 26 74 (.bool true) rfl rfl (by kernel_rfl) (by kernel_rfl) (by kernel_rfl) (fun _ _ _ h => h) (Or.inl ⟨by rfl, fun w _ => by go_simp⟩) ⟨hp5, hAX, hAY, hW⟩ ?_
  simp only [List.set_cons_zero, List.set_cons_succ]
  refine takeH 3 27 75 (.bool true) rfl rfl (by kernel_rfl) (by kernel_rfl) (by kernel_rfl) (fun _ _ _ h => h) (Or.inl ⟨by rfl, fun w _ => by go_simp⟩) ⟨hp5, hAX, hAY, hW⟩ ?_
  simp only [List.set_cons_zero, List.set_cons_succ]
  refine wpAnyH_ready (by kernel_rfl) (by simp) (readyCons 2 28 76 rfl rfl (by rfl) (fun K hK => wp_callF 8 #[] (by go_simp) (lives04_any _ (gl.out _ hW)) ?_) AllReadyH.nil)
  rintro e w10 ⟨rfl, bx⟩
  replace hp5 := hp5.below bx hp5.lt
  replace hAX := hAX.below bx
  replace hAY := hAY.below bx
  replace hW := hW.trans (bx.mono (Nat.le_trans hB0 hW.size))
  clear bx
  refine ⟨_, rfl, hK.out _ _ ⟨hp5, hAX, hAY, hW⟩ (fun _ => ?_)⟩
  clear hK K
  simp only [List.set_cons_zero, List.set_cons_succ]
  refine takeH 1 29 77 (.bool true) rfl rfl (by kernel_rfl) (by kernel_rfl) (by kernel_rfl) (fun _ _ _ h => h) (Or.inl ⟨by rfl, fun w _ => by go_simp⟩) ⟨hp5, hAX, hAY, hW⟩ ?_
  simp only [List.set_cons_zero, List.set_cons_succ]
  refine takeH 0 30 6 (.bool true) rfl rfl (by kernel_rfl) (by kernel_rfl) (by kernel_rfl) (fun _ _ _ h => h) (Or.inl ⟨by rfl, fun w _ => by go_simp⟩) ⟨hp5, hAX, hAY, hW⟩ ?_
  simp only [List.set_cons_zero, List.set_cons_succ]
  refine wpAnyH_done (by kernel_rfl) ?_ _
  go_wp2_with fail
  go_ret
  exact ⟨rfl, hW⟩
end Go.Proofs.YtcdmbknmmnaocaaDoor
