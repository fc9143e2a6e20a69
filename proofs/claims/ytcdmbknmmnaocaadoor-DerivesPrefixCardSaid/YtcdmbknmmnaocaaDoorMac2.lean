/-
  The walks of macs.Of, Verify. (Printed by mk03.py.)
-/
import Derived.Test.YtcdmbknmmnaocaaDoorMac1
namespace Go.Proofs.YtcdmbknmmnaocaaDoor
open Go.RowKit Sh

theorem szS (b : Bool) (h r : List Nat) (n : Nat) (hl : h.length = 8) (hr : r.length = 64) : (Tryd.prog.info? 58).map (·.size) = some (stL b h r n).size := by rw [stL_size _ _ _ _ hl hr]; kernel_rfl
theorem write_to (l h r m L : List Nat) (A : Option Addr) (n c B N0 N : Nat) (hl0 : l.length = N0) (hL : l ++ m = L) (hN : L.length = N) (hok : StOk l h r) (hm : Byt m) (hnc : n ≤ c) (hlen : N < 4611686018427387904) (w : World) (hg : Glob w)
    (hr : Reads w B 1 A n (nv .u8 m)) (hB : B ≤ w.heap.size) :
    Calls Tryd.prog 23 #[.agg (stL true h r N0), .slice A n c] w fun e w' =>
      ∃ h' r', e = .returned (.agg (stL true h' r' N)) ∧ StOk L h' r' ∧ Below w.heap.size w w' := by
  subst hl0 hL hN
  exact write_any l h r m A n c B hok hm hnc (by rw [List.length_append, hr.len] at hlen; exact hlen) w hg hr hB
theorem sum_to (l h r : List Nat) (N : Nat) (hN : l.length = N) (hok : StOk l h r) (hlen : N < 1000000) (w : World) (hg : Glob w) :
    Calls Tryd.prog 25 #[.agg (stL true h r N)] w fun e w' => e = .returned (.agg (va .u8 (sha l))) ∧ Below w.heap.size w w' := by
  subst hN; exact sum_any l h r hok (by omega) w hg

set_option maxRecDepth 8000 in
set_option maxHeartbeats 2000000 in
theorem macof_any (key : List Nat) (A : Option Addr) (n c B : Nat) (ms : List (List Nat)) (A2 : Option Addr) (n2 c2 B2 : Nat) (hk : Byt key) (hnc : n ≤ c) (hn : n < 100000) (hn2 : n2 < 1000) (hlen : ms.flatten.length < 100000) (w : World) (hg : Glob w)
    (hr : Reads w B 1 A n (nv .u8 key)) (hB : B ≤ w.heap.size) (hp : Parts w B2 A2 n2 ms) (hB2 : B2 ≤ w.heap.size) :
    Calls Tryd.prog 17 #[.slice A n c, .slice A2 n2 c2] w fun e w' => e = .returned (.agg (va .u8 (hm key ms.flatten))) ∧ Below w.heap.size w w' := by
  obtain ⟨B0, hB0e⟩ : ∃ b, w.heap.size = b := ⟨_, rfl⟩
  rw [hB0e]
  have hW : Below B0 w w := by rw [← hB0e]; exact Below.refl _ _
  have hB0 : B0 ≤ w.heap.size := by omega
  have hBB : B ≤ B0 := by omega
  have hBB2 : B2 ≤ B0 := by omega
  have hpn := hp.1
  have gl := glob_of hg hB0e
  have rd := reads_of hr hBB
  have pd : Hid (∀ W, Below B0 w W → Parts W B2 A2 n2 ms) := Lib.hid fun W h => hp.below (h.mono hBB2)
  have hlq := Lib.hid hlen
  clear hg hr hB hp hB2 hlen
  have hB0q := Lib.hid hB0e
  clear hB0e
  go_enter Tryd.func17, Tryd.ntmps17
  go_upto_region 0 with fail
  refine wl_lit ?_
  refine runWL 4 (.pointer (some ⟨w.heap.size, 0, none⟩)) (w.alloc (.cells (va .u8 (List.replicate 32 0)) 25)) rfl (by rfl) (exec_allocV 25 rfl _ (zv_api_Digest _)) ?_
  simp only [List.set_cons_zero, List.set_cons_succ]
  have lw_p4 := Nat.le_trans hB0 hW.size
  have hp4 : Blk (w.alloc (.cells (va .u8 (List.replicate 32 0)) 25)) w.heap.size 25 (va .u8 (List.replicate 32 0)) := Blk.new _ _ _
  replace hW := hW.alloc (Nat.le_trans hB0 hW.size) (.cells (va .u8 (List.replicate 32 0)) 25)
  generalize w.alloc (.cells (va .u8 (List.replicate 32 0)) 25) = w1 at *
  generalize w.heap.size = p4 at hp4 lw_p4  ⊢
  refine nilL ?_
  go_upto_region 1 with fail
  refine wl_lit ?_
  refine callL 9 rfl (by rfl) (fun K hK => wp_callF 22 #[] (by go_simp) (new_any _ (gl.out _ hW)) ?_)
  rintro e w2 ⟨rfl, bx⟩
  replace hp4 := hp4.below bx hp4.lt
  replace hW := hW.trans (bx.mono (Nat.le_trans hB0 hW.size))
  clear bx
  refine ⟨_, rfl, hK.out _ _ ?_⟩
  clear hK K
  simp only [List.set_cons_zero, List.set_cons_succ]
  refine runL 10 (.slice (A) n c) rfl (by rfl) (by go_simp) ?_
  simp only [List.set_cons_zero, List.set_cons_succ]
  refine callL 11 rfl (by rfl) (fun K hK => wp_callF 24 #[.slice (A) n c, .int .u8 54] (by go_simp) (padded_any key A n c 54 B (by omega) hk hnc hn _ (gl.out _ hW) (rd.out _ hW) (Nat.le_trans hBB (Nat.le_trans hB0 hW.size))) ?_)
  rintro e w3 ⟨g1, rfl, hg1, hgg, bx⟩
  have lp4_g1 : p4 < g1 := Nat.lt_of_lt_of_le hp4.lt hgg
  have lw_g1 : B0 ≤ g1 := Nat.le_trans (Nat.le_trans hB0 hW.size) hgg
  replace hp4 := hp4.below bx hp4.lt
  replace hW := hW.trans (bx.mono (Nat.le_trans hB0 hW.size))
  clear hgg
  clear bx
  refine ⟨_, rfl, hK.out _ _ ?_⟩
  clear hK K
  simp only [List.set_cons_zero, List.set_cons_succ]
  refine callL 12 rfl (by rfl) (fun K hK => wp_callF 23 #[.agg (stL true hL z64 0), .slice (some ⟨g1, 0, none⟩) 64 64] (by go_simp) (write_to [] hL z64 (kx key 54) (kx key 54) _ 64 64 _ 0 64 rfl rfl (kx_len _ _) stOk_nil (kx_byt _ _ hk (by omega)) (Nat.le_refl _) (by omega) _ (gl.out _ hW) (hg1.readsAll hg1.lt (kx_len _ _)) (Nat.le_refl _)) ?_)
  rintro e w4 ⟨h1, r1, rfl, ok1, bx⟩
  replace hp4 := hp4.below bx hp4.lt
  replace hg1 := hg1.below bx hg1.lt
  replace hW := hW.trans (bx.mono (Nat.le_trans hB0 hW.size))
  clear bx
  refine ⟨_, rfl, hK.out _ _ ?_⟩
  clear hK K
  simp only [List.set_cons_zero, List.set_cons_succ]
  refine runWL 5 (.pointer (some ⟨w4.heap.size, 0, none⟩)) (w4.alloc (.cells (sEmpty) 58)) rfl (by rfl) (exec_allocV 58 rfl _ (zvS _)) ?_
  simp only [List.set_cons_zero, List.set_cons_succ]
  have lp4_p5 := hp4.lt
  have lg1_p5 := hg1.lt
  have lw_p5 := Nat.le_trans hB0 hW.size
  have hp5 : Blk (w4.alloc (.cells (sEmpty) 58)) w4.heap.size 58 (sEmpty) := Blk.new _ _ _
  replace hp4 := hp4.alloc (.cells (sEmpty) 58)
  replace hg1 := hg1.alloc (.cells (sEmpty) 58)
  replace hW := hW.alloc (Nat.le_trans hB0 hW.size) (.cells (sEmpty) 58)
  generalize w4.alloc (.cells (sEmpty) 58) = w5 at *
  generalize w4.heap.size = p5 at hp5 lw_p5 lp4_p5 lg1_p5 ⊢
  refine runSL (w5.setRow p5 (stL true h1 r1 64)) rfl (by rfl) (exec_storeRow 58 (.tmp 5) (.tmp 12) rfl p5 rfl (stL true h1 r1 64) rfl 58 (sEmpty) hp5 (sz_eq (szS _ _ _ _ rfl z64_len) (szS _ _ _ _ ok1.hl ok1.len)) (szS _ _ _ _ ok1.hl ok1.len) (stL_one _ _ _ _)) ?_
  replace hp4 := hp4.rowFar (show p5 ≠ p4 from (by omega)) (stL true h1 r1 64)
  replace hg1 := hg1.rowFar (show p5 ≠ g1 from (by omega)) (stL true h1 r1 64)
  replace hp5 := hp5.row (stL true h1 r1 64)
  replace hW := below_setRow hW lw_p5 (stL true h1 r1 64)
  generalize w5.setRow p5 (stL true h1 r1 64) = w6 at *
  refine nilL ?_
  clear hg1
  go_wp2
  go_loopw [15] (fun s wr => ∃ (k N : Nat) (h r : List Nat), k ≤ n2 ∧ s = .int .i64 (k : Int) ∧ (kx key 54 ++ (ms.take k).flatten).length = N ∧ StOk (kx key 54 ++ (ms.take k).flatten) h r ∧ Blk wr p4 25 (va .u8 (List.replicate 32 0)) ∧ Blk wr p5 58 (stL true h r N) ∧ Below B0 w wr) (fun s _ => n2 - (intOf s).toNat)
  case atStart => exact ⟨0, 64, h1, r1, by omega, rfl, by simp [kx_len], by simpa using ok1, hp4, hp5, hW⟩
  case round =>
    clear hp4 hp5 hW ok1
    obtain ⟨k, N, h, r, hk2, rfl, hN, ok, hp4, hp5, hW⟩ := hrel
    have hNq := Lib.hid hN
    have okq := Lib.hid ok
    have hstl := flat_take_len ms k
    have hN2 : N < 100064 := by rw [List.length_append, kx_len] at hN; have := hlq.out; omega
    clear hN ok hstl
    by_cases hlt : k < n2
    ·
      have hltI : (k : Int) < (n2 : Int) := by omega
      obtain ⟨ad, Ai, ni, ci, rfl, hadB, hc0, hnc2, hr0, hby⟩ := (pd.out _ hW).2 k hlt
      have hrq := Lib.hid hr0
      have hst := Lib.hid (flat_take_succ ms k (by omega))
      have hm2 := flat_take_len ms (k + 1)
      rw [hst.out, List.length_append, hr0.len] at hm2
      have hlen2 : N + ni < 200000 := by have h9 := hNq.out; rw [List.length_append, kx_len] at h9; have := hlq.out; omega
      have hL : (kx key 54 ++ (ms.take (k + 1)).flatten).length = N + ni := by have h9 := hNq.out; rw [hst.out, ← List.append_assoc, List.length_append, h9, hr0.len]
      have hLq := Lib.hid hL
      clear hr0 hm2 hL
      go_upto_region 5 with fail
      clear hc0
      refine wl_lit ?_
      refine runL 19 (.agg (stL true h r N)) rfl (by rfl) (exec_row 58 (.tmp 5) rfl p5 rfl 58 (stL true h r N) _ hp5 (by exact Tryd.underlying58) rfl (szS _ _ _ _ okq.out.hl okq.out.len)) ?_
      simp only [List.set_cons_zero, List.set_cons_succ]
      refine runL 20 (.slice (Ai) ni ci) rfl (by rfl) (by go_simp) ?_
      simp only [List.set_cons_zero, List.set_cons_succ]
      refine callL 21 rfl (by rfl) (fun K hK => wp_callF 23 #[.agg (stL true h r N), .slice (Ai) ni ci] (by go_simp) (write_to (kx key 54 ++ (ms.take k).flatten) h r (ms.getD k []) (kx key 54 ++ (ms.take (k + 1)).flatten) Ai ni ci B2 N (N + ni) hNq.out (by rw [hst.out, List.append_assoc]) hLq.out okq.out hby hnc2 (by omega) _ (gl.out _ hW) hrq.out (Nat.le_trans hBB2 (Nat.le_trans hB0 hW.size))) ?_)
      rintro e w7 ⟨h2, r2, rfl, ok2, bx⟩
      replace hp4 := hp4.below bx hp4.lt
      replace hp5 := hp5.below bx hp5.lt
      replace hW := hW.trans (bx.mono (Nat.le_trans hB0 hW.size))
      clear bx
      refine ⟨_, rfl, hK.out _ _ ?_⟩
      clear hK K
      simp only [List.set_cons_zero, List.set_cons_succ]
      refine runSL (w7.setRow p5 (stL true h2 r2 (N + ni))) rfl (by rfl) (exec_storeRow 58 (.tmp 5) (.tmp 21) rfl p5 rfl (stL true h2 r2 (N + ni)) rfl 58 (stL true h r N) hp5 (sz_eq (szS _ _ _ _ okq.out.hl okq.out.len) (szS _ _ _ _ ok2.hl ok2.len)) (szS _ _ _ _ ok2.hl ok2.len) (stL_one _ _ _ _)) ?_
      replace hp4 := hp4.rowFar (show p5 ≠ p4 from (by omega)) (stL true h2 r2 (N + ni))
      replace hp5 := hp5.row (stL true h2 r2 (N + ni))
      replace hW := below_setRow hW lw_p5 (stL true h2 r2 (N + ni))
      generalize w7.setRow p5 (stL true h2 r2 (N + ni)) = w8 at *
      refine nilL ?_
      go_wp2
      go_roundw
      case rel => exact ⟨k + 1, N + ni, h2, r2, by omega, by go_num, hLq.out, ok2, hp4, hp5, hW⟩
      case measure => simp [intOf]; omega
    ·
      obtain rfl : n2 = k := by omega
      have hfl : (ms.take n2).flatten = ms.flatten := by rw [List.take_of_length_le (by omega)]
      have hflq := Lib.hid hfl
      clear hfl
      go_upto_region 7 with fail
      refine wl_lit ?_
      refine runL 23 (.agg (stL true h r N)) rfl (by rfl) (exec_row 58 (.tmp 5) rfl p5 rfl 58 (stL true h r N) _ hp5 (by exact Tryd.underlying58) rfl (szS _ _ _ _ okq.out.hl okq.out.len)) ?_
      simp only [List.set_cons_zero, List.set_cons_succ]
      refine callL 24 rfl (by rfl) (fun K hK => wp_callF 25 #[.agg (stL true h r N)] (by go_simp) (sum_to (kx key 54 ++ (ms.take n2).flatten) h r N hNq.out okq.out (by omega) _ (gl.out _ hW)) ?_)
      rintro e w9 ⟨rfl, bx⟩
      replace hp4 := hp4.below bx hp4.lt
      replace hp5 := hp5.below bx hp5.lt
      replace hW := hW.trans (bx.mono (Nat.le_trans hB0 hW.size))
      clear bx
      refine ⟨_, rfl, hK.out _ _ ?_⟩
      clear hK K
      simp only [List.set_cons_zero, List.set_cons_succ]
      refine runWL 8 (.pointer (some ⟨w9.heap.size, 0, none⟩)) (w9.alloc (.cells (va .u8 (List.replicate 32 0)) 25)) rfl (by rfl) (exec_allocV 25 rfl _ (zv_api_Digest _)) ?_
      simp only [List.set_cons_zero, List.set_cons_succ]
      have lp4_p8 := hp4.lt
      have lp5_p8 := hp5.lt
      have lw_p8 := Nat.le_trans hB0 hW.size
      have hp8 : Blk (w9.alloc (.cells (va .u8 (List.replicate 32 0)) 25)) w9.heap.size 25 (va .u8 (List.replicate 32 0)) := Blk.new _ _ _
      replace hp4 := hp4.alloc (.cells (va .u8 (List.replicate 32 0)) 25)
      replace hp5 := hp5.alloc (.cells (va .u8 (List.replicate 32 0)) 25)
      replace hW := hW.alloc (Nat.le_trans hB0 hW.size) (.cells (va .u8 (List.replicate 32 0)) 25)
      generalize w9.alloc (.cells (va .u8 (List.replicate 32 0)) 25) = w10 at *
      generalize w9.heap.size = p8 at hp8 lw_p8 lp4_p8 lp5_p8 ⊢
      refine runSL (w10.setRow p8 (va .u8 (sha (kx key 54 ++ (ms.take n2).flatten)))) rfl (by rfl) (exec_storeRow 25 (.tmp 8) (.tmp 24) rfl p8 rfl (va .u8 (sha (kx key 54 ++ (ms.take n2).flatten))) rfl 25 (va .u8 (List.replicate 32 0)) hp8 (sz_eq (sz_api_Digest _ (List.length_replicate)) (sz_api_Digest _ (sha_len' _))) (sz_api_Digest _ (sha_len' _)) (va_ones .u8 _)) ?_
      replace hp4 := hp4.rowFar (show p8 ≠ p4 from (by omega)) (va .u8 (sha (kx key 54 ++ (ms.take n2).flatten)))
      replace hp5 := hp5.rowFar (show p8 ≠ p5 from (by omega)) (va .u8 (sha (kx key 54 ++ (ms.take n2).flatten)))
      replace hp8 := hp8.row (va .u8 (sha (kx key 54 ++ (ms.take n2).flatten)))
      replace hW := below_setRow hW lw_p8 (va .u8 (sha (kx key 54 ++ (ms.take n2).flatten)))
      generalize w10.setRow p8 (va .u8 (sha (kx key 54 ++ (ms.take n2).flatten))) = w11 at *
      refine nilL ?_
      go_upto_region 8 with fail
      replace hp4 := hp4.drew
      refine wp_region_held_drew (S := fun wr => Blk wr p5 58 (stL true h r N) ∧ Blk wr p8 25 (va .u8 (sha (kx key 54 ++ (ms.take n2).flatten))) ∧ Below B0 w wr) (by kernel_rfl) ⟨hp5.drew, hp8.drew, below_drewN hW 1⟩ (fun hH => ?_)
      clear hp5 hp8 hW
      obtain ⟨hp5, hp8, hW⟩ := hH
      generalize w11.drew = w12 at *
      refine takeH 5 0 25 (.slice (A) n c) rfl rfl (by kernel_rfl) (by kernel_rfl) (by kernel_rfl) (fun _ _ _ h => h) (Or.inl ⟨by rfl, fun w _ => by go_simp⟩) ⟨hp5, hp8, hW⟩ ?_
      simp only [List.set_cons_zero, List.set_cons_succ]
      refine takeH 4 2 27 (.slice (some ⟨p8, 0, none⟩) 32 32) rfl rfl (by kernel_rfl) (by kernel_rfl) (by kernel_rfl) (fun _ _ _ h => h) (Or.inl ⟨by rfl, fun w _ => by go_simp⟩) ⟨hp5, hp8, hW⟩ ?_
      simp only [List.set_cons_zero, List.set_cons_succ]
      refine wpAnyH_ready (by kernel_rfl) (by simp) (readyCons 3 1 26 rfl rfl (by rfl) (fun K hK => wp_callF 24 #[.slice (A) n c, .int .u8 92] (by go_simp) (padded_any key A n c 92 B (by omega) hk hnc hn _ (gl.out _ hW) (rd.out _ hW) (Nat.le_trans hBB (Nat.le_trans hB0 hW.size))) ?_) AllReadyH.nil)
      rintro e w13 ⟨g2, rfl, hg2, hgg, bx⟩
      have lp4_g2 : p4 < g2 := Nat.lt_of_lt_of_le hp4.lt hgg
      have lp5_g2 : p5 < g2 := Nat.lt_of_lt_of_le hp5.lt hgg
      have lp8_g2 : p8 < g2 := Nat.lt_of_lt_of_le hp8.lt hgg
      have lw_g2 : B0 ≤ g2 := Nat.le_trans (Nat.le_trans hB0 hW.size) hgg
      replace hp4 := hp4.below bx hp4.lt
      replace hp5 := hp5.below bx hp5.lt
      replace hp8 := hp8.below bx hp8.lt
      replace hW := hW.trans (bx.mono (Nat.le_trans hB0 hW.size))
      clear hgg
      clear bx
      refine ⟨_, rfl, hK.out _ _ ⟨hp5, hp8, hW⟩ (fun _ => ?_)⟩
      clear hK K
      simp only [List.set_cons_zero, List.set_cons_succ]
      refine wpAnyH_ready (by kernel_rfl) (by simp) (readyRun 2 3 28 (.slice (some ⟨w13.heap.size, 0, none⟩) 2 2) (w13.alloc (.cells (#[.slice (some ⟨g2, 0, none⟩) 64 64, .slice (some ⟨p8, 0, none⟩) 32 32]) 22)) rfl rfl (by rfl) (exec_bslice 52 2 _ rfl _ (by exact bs_2 (some ⟨g2, 0, none⟩) 64 64 (some ⟨p8, 0, none⟩) 32 32 _)) ⟨hp5.alloc _, hp8.alloc _, hW.alloc (Nat.le_trans hB0 hW.size) _⟩ (fun _ => ?_) AllReadyH.nil)
      simp only [List.set_cons_zero, List.set_cons_succ]
      have lp4_q1 := hp4.lt
      have lp5_q1 := hp5.lt
      have lp8_q1 := hp8.lt
      have lg2_q1 := hg2.lt
      have lw_q1 := Nat.le_trans hB0 hW.size
      have hq1 : Blk (w13.alloc (.cells (#[.slice (some ⟨g2, 0, none⟩) 64 64, .slice (some ⟨p8, 0, none⟩) 32 32]) 22)) w13.heap.size 22 (#[.slice (some ⟨g2, 0, none⟩) 64 64, .slice (some ⟨p8, 0, none⟩) 32 32]) := Blk.new _ _ _
      replace hp4 := hp4.alloc (.cells (#[.slice (some ⟨g2, 0, none⟩) 64 64, .slice (some ⟨p8, 0, none⟩) 32 32]) 22)
      replace hp5 := hp5.alloc (.cells (#[.slice (some ⟨g2, 0, none⟩) 64 64, .slice (some ⟨p8, 0, none⟩) 32 32]) 22)
      replace hp8 := hp8.alloc (.cells (#[.slice (some ⟨g2, 0, none⟩) 64 64, .slice (some ⟨p8, 0, none⟩) 32 32]) 22)
      replace hg2 := hg2.alloc (.cells (#[.slice (some ⟨g2, 0, none⟩) 64 64, .slice (some ⟨p8, 0, none⟩) 32 32]) 22)
      replace hW := hW.alloc (Nat.le_trans hB0 hW.size) (.cells (#[.slice (some ⟨g2, 0, none⟩) 64 64, .slice (some ⟨p8, 0, none⟩) 32 32]) 22)
      generalize w13.alloc (.cells (#[.slice (some ⟨g2, 0, none⟩) 64 64, .slice (some ⟨p8, 0, none⟩) 32 32]) 22) = w14 at *
      generalize w13.heap.size = q1 at hq1 lw_q1 lp4_q1 lp5_q1 lp8_q1 lg2_q1 ⊢
      refine wpAnyH_ready (by kernel_rfl) (by simp) (readyCons 1 4 29 rfl rfl (by rfl) (fun K hK => wp_callF 26 #[.slice (some ⟨q1, 0, none⟩) 2 2] (by go_simp) (ofp [kx key 92, sha (kx key 54 ++ (ms.take n2).flatten)] (kx key 92 ++ sha (kx key 54 ++ (ms.take n2).flatten)) (by simp) 2 2 _ _ (gl.out _ hW) (parts_two hg2.lt hp8.lt hq1 (hg2.readsAll (Nat.lt_succ_self _) (kx_len _ _)) (Nat.le_refl _) (kx_byt _ _ hk (by omega)) (hp8.readsAll (Nat.lt_succ_self _) (sha_len' _)) (Nat.le_refl _) (sha_byt _)) (by omega) (by rw [List.length_append, kx_len, sha_len']; omega)) ?_) AllReadyH.nil)
      rintro e w15 ⟨rfl, bx⟩
      replace hp4 := hp4.below bx hp4.lt
      replace hp5 := hp5.below bx hp5.lt
      replace hp8 := hp8.below bx hp8.lt
      replace hg2 := hg2.below bx hg2.lt
      replace hq1 := hq1.below bx hq1.lt
      replace hW := hW.trans (bx.mono (Nat.le_trans hB0 hW.size))
      clear bx
      refine ⟨_, rfl, hK.out _ _ ⟨hp5, hp8, hW⟩ (fun _ => ?_)⟩
      clear hK K
      simp only [List.set_cons_zero, List.set_cons_succ]
      refine wpAnyH_ready (by kernel_rfl) (by simp) (readyRunS 0 5 (w15.setRow p4 (va .u8 (sha (kx key 92 ++ sha (kx key 54 ++ (ms.take n2).flatten))))) rfl rfl (by rfl) (exec_storeRow 25 (.tmp 4) (.tmp 29) rfl p4 rfl (va .u8 (sha (kx key 92 ++ sha (kx key 54 ++ (ms.take n2).flatten)))) rfl 25 (va .u8 (List.replicate 32 0)) hp4 (sz_eq (sz_api_Digest _ (List.length_replicate)) (sz_api_Digest _ (sha_len' _))) (sz_api_Digest _ (sha_len' _)) (va_ones .u8 _)) ⟨hp5.rowFar (show p4 ≠ p5 from (by omega)) _, hp8.rowFar (show p4 ≠ p8 from (by omega)) _, below_setRow hW lw_p4 _⟩ (fun _ => ?_) AllReadyH.nil)
      replace hp5 := hp5.rowFar (show p4 ≠ p5 from (by omega)) (va .u8 (sha (kx key 92 ++ sha (kx key 54 ++ (ms.take n2).flatten))))
      replace hp8 := hp8.rowFar (show p4 ≠ p8 from (by omega)) (va .u8 (sha (kx key 92 ++ sha (kx key 54 ++ (ms.take n2).flatten))))
      replace hg2 := hg2.rowFar (show p4 ≠ g2 from (by omega)) (va .u8 (sha (kx key 92 ++ sha (kx key 54 ++ (ms.take n2).flatten))))
      replace hq1 := hq1.rowFar (show p4 ≠ q1 from (by omega)) (va .u8 (sha (kx key 92 ++ sha (kx key 54 ++ (ms.take n2).flatten))))
      replace hp4 := hp4.row (va .u8 (sha (kx key 92 ++ sha (kx key 54 ++ (ms.take n2).flatten))))
      replace hW := below_setRow hW lw_p4 (va .u8 (sha (kx key 92 ++ sha (kx key 54 ++ (ms.take n2).flatten))))
      generalize w15.setRow p4 (va .u8 (sha (kx key 92 ++ sha (kx key 54 ++ (ms.take n2).flatten)))) = w16 at *
      refine wpAnyH_done (by kernel_rfl) ?_ _
      go_wp2_with fail
      exact bodyPost_ret (results_cell_row rfl _ _ p4 25 (va .u8 (sha (kx key 92 ++ sha (kx key 54 ++ (ms.take n2).flatten)))) (0, 0) _ rfl hp4 (by exact Tryd.underlying25) rfl (sz_api_Digest _ (sha_len' _))) rfl ⟨by rw [hm, hflq.out], hW⟩
end Go.Proofs.YtcdmbknmmnaocaaDoor
