/-
  The walk of caissonref02.Sum. (Printed by mk03.py.)
-/
import Derived.Test.YtcdmbknmmnaocaaDoorOwn
import Derived.Test.YtcdmbknmmnaocaaDoorRef3
import Derived.Test.YtcdmbknmmnaocaaDoorMac1
namespace Go.Proofs.YtcdmbknmmnaocaaDoor
open Go.RowKit Sh
theorem sz__8_uint32 (l : List Nat) (h : l.length = 8) : (Tryd.prog.info? 54).map (·.size) = some (va .u32 l).size := by rw [va_size, h]; kernel_rfl
theorem zv__8_uint32 (w : World) : (zeroValue 54).run Tryd.prog w = .ok (.agg (va .u32 (List.replicate 8 0))) w := by kernel_rfl
theorem sz__64_uint32 (l : List Nat) (h : l.length = 64) : (Tryd.prog.info? 65).map (·.size) = some (va .u32 l).size := by rw [va_size, h]; kernel_rfl
theorem zv__64_uint32 (w : World) : (zeroValue 65).run Tryd.prog w = .ok (.agg (va .u32 (List.replicate 64 0))) w := by kernel_rfl
/-- the first m bytes of the digest, zeros behind -/
def outb (h : List Nat) (m : Nat) : List Nat := (List.range 32).map fun j => if j < m then (flat h).getD j 0 else 0
theorem outb_len (h : List Nat) (m : Nat) : (outb h m).length = 32 := by simp [outb]
theorem outb_zero (h : List Nat) : outb h 0 = List.replicate 32 0 := by
  apply ext_getD (by simp [outb])
  intro j hj
  rw [outb_len] at hj
  rw [outb, getD_map_range _ _ _ hj, if_neg (by omega), List.getD_eq_getElem?_getD, List.getElem?_replicate, if_pos hj]; rfl
theorem outb_all (h : List Nat) : outb h 32 = flat h := by
  apply ext_getD (by rw [outb_len, flat_len])
  intro j hj
  rw [outb_len] at hj
  rw [outb, getD_map_range _ _ _ hj, if_pos hj]
theorem outb_step (h : List Nat) (m : Nat) (hm : m < 32) : (outb h m).set m ((flat h).getD m 0) = outb h (m + 1) := by
  apply ext_getD (by rw [List.length_set, outb_len, outb_len])
  intro j hj
  rw [List.length_set, outb_len] at hj
  by_cases e : m = j
  · subst e
    rw [getD_set_eq (by rw [outb_len]; exact hm), outb, getD_map_range _ _ _ hj, if_pos (by omega)]
  · rw [Sh.getD_set_ne e, outb, getD_map_range _ _ _ hj, outb, getD_map_range _ _ _ hj]
    by_cases h : j < m
    · rw [if_pos h, if_pos (by omega)]
    · rw [if_neg h, if_neg (by omega)]
theorem flat_at (h : List Nat) (i k : Nat) (hi : i < 8) (hk : k < 4) : (flat h).getD (4 * i + k) 0 = (beB (h.getD i 0) 4).getD k 0 := by
  rw [flat, getD_map_range _ _ _ (by omega), beB, getD_map_range _ _ _ hk, show (4 * i + k) / 4 = i from by omega, show (4 * i + k) % 4 = k from by omega]
theorem pad_len (l : List Nat) : (pad l).length = l.length + 1 + zeros l.length + 8 := by simp [pad, beB_len]; omega
theorem pad_mod (l : List Nat) : (pad l).length % 64 = 0 := by rw [pad_len]; unfold zeros; omega
theorem byt_one' (x : Nat) (hx : x < 256) : Byt [x] := fun y hy => by simp at hy; omega
theorem padk_byt (l : List Nat) (k : Nat) (h : Byt l) : Byt (padk l k) := (h.app (byt_one' 128 (by omega))).app (Byt.rep _ _ (by omega))
theorem rput32_to (v : Nat) (hv : v < 4294967296) (w : World) :
    Calls Tryd.prog 30 #[.int .u32 (v : Int)] w fun e w' => ∃ g, e = .returned (.slice (some ⟨g, 0, none⟩) 4 4) ∧ Blk w' g 5 (va .u8 (beB v 4)) ∧ w.heap.size ≤ g ∧ Below w.heap.size w w' := by
  refine (rput32_any v hv w).mono ?_
  rintro e w' ⟨r, rfl, g, rfl, h1, h2, h3⟩
  exact ⟨g, by rw [beB_len], h1, h2, h3⟩
theorem rput64_to (v : Nat) (hv : v < 18446744073709551616) (w : World) :
    Calls Tryd.prog 27 #[.int .u64 (v : Int)] w fun e w' => ∃ g, e = .returned (.slice (some ⟨g, 0, none⟩) 8 8) ∧ Blk w' g 5 (va .u8 (beB v 8)) ∧ w.heap.size ≤ g ∧ Below w.heap.size w w' := by
  refine (rput64_any v hv w).mono ?_
  rintro e w' ⟨r, rfl, g, rfl, h1, h2, h3⟩
  exact ⟨g, by rw [beB_len], h1, h2, h3⟩
theorem pad_byt (l : List Nat) (h : Byt l) : Byt (pad l) := (padk_byt l _ h).app (beB_byt _ _)

set_option maxRecDepth 8000 in
set_option maxHeartbeats 4000000 in
theorem rsum_any (l : List Nat) (A : Option Addr) (n c B : Nat) (hl : Byt l) (hn : n < 1000000) (w : World) (hr : Reads w B 1 A n (nv .u8 l)) (hB : B ≤ w.heap.size) :
    Calls Tryd.prog 19 #[.slice A n c] w fun e w' => e = .returned (.agg (va .u8 (sha l))) ∧ Below w.heap.size w w' := by
  have hln := hr.len
  obtain ⟨B0, hB0e⟩ : ∃ b, w.heap.size = b := ⟨_, rfl⟩
  rw [hB0e]
  have hW : Below B0 w w := by rw [← hB0e]; exact Below.refl _ _
  have hB0 : B0 ≤ w.heap.size := by omega
  have hBB : B ≤ B0 := by omega
  have rd := reads_of hr hBB
  clear hr hB
  have hB0q := Lib.hid hB0e
  clear hB0e
  go_enter Tryd.func19, Tryd.ntmps19
  go_upto_region 0 with fail
  refine wl_lit ?_
  refine runWL 2 (.pointer (some ⟨w.heap.size, 0, none⟩)) (w.alloc (.cells (va .u8 (List.replicate 32 0)) 25)) rfl (by rfl) (exec_allocV 25 rfl _ (zv_api_Digest _)) ?_
  simp only [List.set_cons_zero, List.set_cons_succ]
  have lw_p2 := Nat.le_trans hB0 hW.size
  have hp2 : Blk (w.alloc (.cells (va .u8 (List.replicate 32 0)) 25)) w.heap.size 25 (va .u8 (List.replicate 32 0)) := Blk.new _ _ _
  replace hW := hW.alloc (Nat.le_trans hB0 hW.size) (.cells (va .u8 (List.replicate 32 0)) 25)
  generalize w.alloc (.cells (va .u8 (List.replicate 32 0)) 25) = w1 at *
  generalize w.heap.size = p2 at hp2 lw_p2  ⊢
  refine nilL ?_
  go_upto_region 1 with fail
  refine wl_lit ?_
  refine runWL 11 (.slice (some ⟨w1.heap.size, 0, none⟩) 0 0) (w1.alloc (.cells (va .u8 ([])) 5)) rfl (by rfl) (exec_bslice 22 0 _ rfl _ (by exact bs_0 _)) ?_
  simp only [List.set_cons_zero, List.set_cons_succ]
  have lp2_q1 := hp2.lt
  have lw_q1 := Nat.le_trans hB0 hW.size
  have hq1 : Blk (w1.alloc (.cells (va .u8 ([])) 5)) w1.heap.size 5 (va .u8 ([])) := Blk.new _ _ _
  replace hp2 := hp2.alloc (.cells (va .u8 ([])) 5)
  replace hW := hW.alloc (Nat.le_trans hB0 hW.size) (.cells (va .u8 ([])) 5)
  generalize w1.alloc (.cells (va .u8 ([])) 5) = w2 at *
  generalize w1.heap.size = q1 at hq1 lw_q1 lp2_q1 ⊢
  refine runL 12 (.slice (A) n c) rfl (by rfl) (by go_simp) ?_
  simp only [List.set_cons_zero, List.set_cons_succ]
  have hoq1 : Own w2 B0 (some ⟨q1, 0, none⟩) 0 0 ([]) := hq1.owned (rfl) lw_q1 (by unfold maxLen; omega)
  have noq1_p2 : Off (some ⟨q1, 0, none⟩) p2 := fun a ha => by cases ha; simp; omega
  clear hq1
  obtain ⟨A1, cA1, w3, hap, hA1, hcA1, hgr, hof⟩ := own_append hoq1 (A) n c _ (l) (rd.out _ hW) (Nat.le_trans hB0 hW.size) (l) (by simp) (n) (by omega) (by omega) 22
  refine runWL 13 (.slice A1 (n) cA1) w3 rfl (by rfl) (exec_append _ _ _ _ rfl _ _ _ rfl rfl hap) ?_
  simp only [List.set_cons_zero, List.set_cons_succ]
  have nA1_p2 := hof p2 noq1_p2 hp2.lt
  replace hp2 := hp2.grown hgr (noq1_p2.ob _ _)
  replace hW := Own.belowG hW (Nat.le_trans hB0 hW.size) hoq1.from_ hgr
  clear hoq1 hgr hof hap
  refine runWL 14 (.slice (some ⟨w3.heap.size, 0, none⟩) 1 1) (w3.alloc (.cells (va .u8 [128]) 5)) rfl (by rfl) (exec_bslice 22 1 _ rfl _ (by exact bs_b1 128 _)) ?_
  simp only [List.set_cons_zero, List.set_cons_succ]
  have lp2_q2 := hp2.lt
  have nA1_q2 := hA1.new_off
  have lw_q2 := Nat.le_trans hB0 hW.size
  have hq2 : Blk (w3.alloc (.cells (va .u8 [128]) 5)) w3.heap.size 5 (va .u8 [128]) := Blk.new _ _ _
  replace hp2 := hp2.alloc (.cells (va .u8 [128]) 5)
  replace hA1 := hA1.alloc (.cells (va .u8 [128]) 5)
  replace hW := hW.alloc (Nat.le_trans hB0 hW.size) (.cells (va .u8 [128]) 5)
  generalize w3.alloc (.cells (va .u8 [128]) 5) = w4 at *
  generalize w3.heap.size = q2 at hq2 lw_q2 lp2_q2 nA1_q2 ⊢
  obtain ⟨A2, cA2, w5, hap, hA2, hcA2, hgr, hof⟩ := own_append hA1 (some ⟨q2, 0, none⟩) 1 1 _ ([128]) (hq2.readsAll (Nat.lt_succ_self _) (rfl)) (Nat.le_trans hB0 hW.size) (l ++ [128]) rfl (n + 1) (by omega) (by omega) 22
  refine runWL 15 (.slice A2 (n + 1) cA2) w5 rfl (by rfl) (exec_append _ _ _ _ rfl _ _ _ rfl rfl hap) ?_
  simp only [List.set_cons_zero, List.set_cons_succ]
  have nA2_p2 := hof p2 nA1_p2 hp2.lt
  replace hp2 := hp2.grown hgr (nA1_p2.ob _ _)
  have nA2_q2 := hof q2 nA1_q2 hq2.lt
  replace hq2 := hq2.grown hgr (nA1_q2.ob _ _)
  replace hW := Own.belowG hW (Nat.le_trans hB0 hW.size) hA1.from_ hgr
  clear hA1 hgr hof hap
  refine runL 3 (.slice (A2) (n + 1) cA2) rfl (by rfl) (by go_simp) ?_
  simp only [List.set_cons_zero, List.set_cons_succ]
  refine nilL ?_
  clear hq2
  have hzs := zeros_lt n
  have hstop := zeros_stop n
  rw [← padk_zero] at hA2
  go_wp2
  go_loopw [3] (fun v wr => ∃ (k N : Nat) (A : Option Addr) (c : Nat), v = .slice A N c ∧ N = n + 1 + k ∧ k ≤ zeros n ∧ Own wr B0 A N c (padk l k) ∧ Off A p2 ∧ Blk wr p2 25 (va .u8 (List.replicate 32 0)) ∧ Below B0 w wr) (fun v _ => zeros n + n + 2 - slen v)
  case atStart => exact ⟨0, n + 1, A2, cA2, rfl, rfl, by omega, hA2, nA2_p2, hp2, hW⟩
  case round =>
    clear hA2 nA2_p2 hp2 hW hcA2 hcA1 lp2_q2 lp2_q1
    obtain ⟨k, N, A3, cA3, rfl, hN, hk, hA3, nA3_p2, hp2, hW⟩ := hrel
    have hst := hstop k hk
    by_cases hlt : k < zeros n
    ·
      have hne : ¬ N % 64 = 56 := by omega
      have hneI : ¬ (N : Int) % 64 = 56 := by omega
      have htm : (N : Int).tmod 64 = (N : Int) % 64 := Int.tmod_eq_emod_of_nonneg (by omega)
      clear hst
      go_upto_region 3 with fail
      refine wl_lit ?_
      refine runL 20 (.slice (A3) N cA3) rfl (by rfl) (by go_simp) ?_
      simp only [List.set_cons_zero, List.set_cons_succ]
      refine runWL 21 (.slice (some ⟨wr.heap.size, 0, none⟩) 1 1) (wr.alloc (.cells (va .u8 [0]) 5)) rfl (by rfl) (exec_bslice 22 1 _ rfl _ (by exact bs_b1 0 _)) ?_
      simp only [List.set_cons_zero, List.set_cons_succ]
      have lp2_q3 := hp2.lt
      have nA3_q3 := hA3.new_off
      have lw_q3 := Nat.le_trans hB0 hW.size
      have hq3 : Blk (wr.alloc (.cells (va .u8 [0]) 5)) wr.heap.size 5 (va .u8 [0]) := Blk.new _ _ _
      replace hp2 := hp2.alloc (.cells (va .u8 [0]) 5)
      replace hA3 := hA3.alloc (.cells (va .u8 [0]) 5)
      replace hW := hW.alloc (Nat.le_trans hB0 hW.size) (.cells (va .u8 [0]) 5)
      generalize wr.alloc (.cells (va .u8 [0]) 5) = w6 at *
      generalize wr.heap.size = q3 at hq3 lw_q3 lp2_q3 nA3_q3 ⊢
      obtain ⟨A4, cA4, w7, hap, hA4, hcA4, hgr, hof⟩ := own_append hA3 (some ⟨q3, 0, none⟩) 1 1 _ ([0]) (hq3.readsAll (Nat.lt_succ_self _) (rfl)) (Nat.le_trans hB0 hW.size) (padk l (k + 1)) (padk_succ _ _) (N + 1) (by omega) (by omega) 22
      refine runWL 22 (.slice A4 (N + 1) cA4) w7 rfl (by rfl) (exec_append _ _ _ _ rfl _ _ _ rfl rfl hap) ?_
      simp only [List.set_cons_zero, List.set_cons_succ]
      have nA4_p2 := hof p2 nA3_p2 hp2.lt
      replace hp2 := hp2.grown hgr (nA3_p2.ob _ _)
      have nA4_q3 := hof q3 nA3_q3 hq3.lt
      replace hq3 := hq3.grown hgr (nA3_q3.ob _ _)
      replace hW := Own.belowG hW (Nat.le_trans hB0 hW.size) hA3.from_ hgr
      clear hA3 hgr hof hap
      refine runL 3 (.slice (A4) (N + 1) cA4) rfl (by rfl) (by go_simp) ?_
      simp only [List.set_cons_zero, List.set_cons_succ]
      refine nilL ?_
      go_wp2
      go_roundw
      case rel => exact ⟨k + 1, N + 1, A4, cA4, rfl, by omega, by omega, hA4, nA4_p2, hp2, hW⟩
      case measure => simp [slen]; omega
    ·
      obtain rfl : k = zeros n := by omega
      have heq : N % 64 = 56 := by omega
      have heqI : (N : Int) % 64 = 56 := by omega
      have htm : (N : Int).tmod 64 = (N : Int) % 64 := Int.tmod_eq_emod_of_nonneg (by omega)
      have w64a : IntKind.u64.wrap (n : Int) = (n : Int) := IntWalk.u64_in _ (by omega)
      have w64b : IntKind.u64.wrap (8 * (n : Int)) = ((8 * n : Nat) : Int) := (IntWalk.u64_in _ (by omega)).trans (by omega)
      clear hlt hst hk
      have hpl := pad_len l
      rw [hln] at hpl
      have hpm := pad_mod l
      obtain ⟨b, hb⟩ : ∃ b, (pad l).length = 64 * b := ⟨(pad l).length / 64, by omega⟩
      have hsha : sha l = flat (hs (pad l) b) := by unfold sha; rw [hb, show 64 * b / 64 = b by omega]
      have hshaq := Lib.hid hsha
      clear hsha hpm
      go_upto_region 4 with fail
      refine wl_lit ?_
      refine runL 23 (.slice (A3) N cA3) rfl (by rfl) (by go_simp) ?_
      simp only [List.set_cons_zero, List.set_cons_succ]
      refine runL 24 (.slice (A) n c) rfl (by rfl) (by go_simp) ?_
      simp only [List.set_cons_zero, List.set_cons_succ]
      refine runL 25 (.int .i64 (n)) rfl (by rfl) (by go_simp) ?_
      simp only [List.set_cons_zero, List.set_cons_succ]
      refine runL 26 (.int .u64 (n : Int)) rfl (by rfl) (by go_simp) ?_
      simp only [List.set_cons_zero, List.set_cons_succ]
      refine runL 27 (.int .u64 ((8 * n : Nat) : Int)) rfl (by rfl) (by go_simp) ?_
      simp only [List.set_cons_zero, List.set_cons_succ]
      refine callL 28 rfl (by rfl) (fun K hK => wp_callF 27 #[.int .u64 ((8 * n : Nat) : Int)] (by go_simp) (rput64_to (8 * n) (by omega) _) ?_)
      rintro e w8 ⟨g, rfl, hg, hgg, bx⟩
      have lp2_g : p2 < g := Nat.lt_of_lt_of_le hp2.lt hgg
      have nA3_g := hA3.off_ge hgg
      have lw_g : B0 ≤ g := Nat.le_trans (Nat.le_trans hB0 hW.size) hgg
      replace hp2 := hp2.below bx hp2.lt
      replace hA3 := hA3.below bx
      replace hW := hW.trans (bx.mono (Nat.le_trans hB0 hW.size))
      clear hgg
      clear bx
      refine ⟨_, rfl, hK.out _ _ ?_⟩
      clear hK K
      simp only [List.set_cons_zero, List.set_cons_succ]
      obtain ⟨A5, cA5, w9, hap, hA5, hcA5, hgr, hof⟩ := own_append hA3 (some ⟨g, 0, none⟩) 8 8 _ (beB (8 * n) 8) (hg.readsAll (Nat.lt_succ_self _) (beB_len _ _)) (Nat.le_trans hB0 hW.size) (pad l) (by rw [pad_padk, hln]) (64 * b) (by omega) (by omega) 22
      refine runWL 29 (.slice A5 (64 * b) cA5) w9 rfl (by rfl) (exec_append _ _ _ _ rfl _ _ _ rfl rfl hap) ?_
      simp only [List.set_cons_zero, List.set_cons_succ]
      have nA5_p2 := hof p2 nA3_p2 hp2.lt
      replace hp2 := hp2.grown hgr (nA3_p2.ob _ _)
      have nA5_g := hof g nA3_g hg.lt
      replace hg := hg.grown hgr (nA3_g.ob _ _)
      replace hW := Own.belowG hW (Nat.le_trans hB0 hW.size) hA3.from_ hgr
      clear hA3 hgr hof hap
      refine runL 3 (.slice (A5) (64 * b) cA5) rfl (by rfl) (by go_simp) ?_
      simp only [List.set_cons_zero, List.set_cons_succ]
      refine nilL ?_
      clear hg
      go_upto_region 5 with fail
      refine wl_lit ?_
      refine callL 31 rfl (by rfl) (fun K hK => wp_callF 28 #[] (by go_simp) (consts_any _) ?_)
      rintro e w10 ⟨rfl, bx⟩
      replace hp2 := hp2.below bx hp2.lt
      replace hA5 := hA5.below bx
      replace hW := hW.trans (bx.mono (Nat.le_trans hB0 hW.size))
      clear bx
      refine ⟨_, rfl, hK.out _ _ ?_⟩
      clear hK K
      simp only [List.set_cons_zero, List.set_cons_succ]
      refine runL 30 (.tuple #[.agg (va .u32 (kL)), .agg (va .u32 (hL))]) rfl (by rfl) (by go_simp) ?_
      simp only [List.set_cons_zero, List.set_cons_succ]
      refine runL 32 (.agg (va .u32 (kL))) rfl (by rfl) (by go_simp) ?_
      simp only [List.set_cons_zero, List.set_cons_succ]
      refine runL 33 (.agg (va .u32 (hL))) rfl (by rfl) (by go_simp) ?_
      simp only [List.set_cons_zero, List.set_cons_succ]
      refine runWL 4 (.pointer (some ⟨w10.heap.size, 0, none⟩)) (w10.alloc (.cells (va .u32 (List.replicate 64 0)) 65)) rfl (by rfl) (exec_allocV 65 rfl _ (zv__64_uint32 _)) ?_
      simp only [List.set_cons_zero, List.set_cons_succ]
      have lp2_p4 := hp2.lt
      have nA5_p4 := hA5.new_off
      have lw_p4 := Nat.le_trans hB0 hW.size
      have hp4 : Blk (w10.alloc (.cells (va .u32 (List.replicate 64 0)) 65)) w10.heap.size 65 (va .u32 (List.replicate 64 0)) := Blk.new _ _ _
      replace hp2 := hp2.alloc (.cells (va .u32 (List.replicate 64 0)) 65)
      replace hA5 := hA5.alloc (.cells (va .u32 (List.replicate 64 0)) 65)
      replace hW := hW.alloc (Nat.le_trans hB0 hW.size) (.cells (va .u32 (List.replicate 64 0)) 65)
      generalize w10.alloc (.cells (va .u32 (List.replicate 64 0)) 65) = w11 at *
      generalize w10.heap.size = p4 at hp4 lw_p4 lp2_p4 nA5_p4 ⊢
      refine runWL 5 (.pointer (some ⟨w11.heap.size, 0, none⟩)) (w11.alloc (.cells (va .u32 (List.replicate 8 0)) 54)) rfl (by rfl) (exec_allocV 54 rfl _ (zv__8_uint32 _)) ?_
      simp only [List.set_cons_zero, List.set_cons_succ]
      have lp2_p5 := hp2.lt
      have nA5_p5 := hA5.new_off
      have lp4_p5 := hp4.lt
      have lw_p5 := Nat.le_trans hB0 hW.size
      have hp5 : Blk (w11.alloc (.cells (va .u32 (List.replicate 8 0)) 54)) w11.heap.size 54 (va .u32 (List.replicate 8 0)) := Blk.new _ _ _
      replace hp2 := hp2.alloc (.cells (va .u32 (List.replicate 8 0)) 54)
      replace hA5 := hA5.alloc (.cells (va .u32 (List.replicate 8 0)) 54)
      replace hp4 := hp4.alloc (.cells (va .u32 (List.replicate 8 0)) 54)
      replace hW := hW.alloc (Nat.le_trans hB0 hW.size) (.cells (va .u32 (List.replicate 8 0)) 54)
      generalize w11.alloc (.cells (va .u32 (List.replicate 8 0)) 54) = w12 at *
      generalize w11.heap.size = p5 at hp5 lw_p5 lp2_p5 nA5_p5 lp4_p5 ⊢
      refine runSL (w12.setRow p4 (va .u32 (kL))) rfl (by rfl) (exec_storeRow 65 (.tmp 4) (.tmp 32) rfl p4 rfl (va .u32 (kL)) rfl 65 (va .u32 (List.replicate 64 0)) hp4 (sz_eq (sz__64_uint32 _ (List.length_replicate)) (sz__64_uint32 _ (kL_len))) (sz__64_uint32 _ (kL_len)) (va_ones .u32 _)) ?_
      replace hp2 := hp2.rowFar (show p4 ≠ p2 from (by omega)) (va .u32 (kL))
      replace hA5 := hA5.rowFar nA5_p4 (va .u32 (kL))
      replace hp5 := hp5.rowFar (show p4 ≠ p5 from (by omega)) (va .u32 (kL))
      replace hp4 := hp4.row (va .u32 (kL))
      replace hW := below_setRow hW lw_p4 (va .u32 (kL))
      generalize w12.setRow p4 (va .u32 (kL)) = w13 at *
      refine runSL (w13.setRow p5 (va .u32 (hL))) rfl (by rfl) (exec_storeRow 54 (.tmp 5) (.tmp 33) rfl p5 rfl (va .u32 (hL)) rfl 54 (va .u32 (List.replicate 8 0)) hp5 (sz_eq (sz__8_uint32 _ (List.length_replicate)) (sz__8_uint32 _ (hL_len))) (sz__8_uint32 _ (hL_len)) (va_ones .u32 _)) ?_
      replace hp2 := hp2.rowFar (show p5 ≠ p2 from (by omega)) (va .u32 (hL))
      replace hA5 := hA5.rowFar nA5_p5 (va .u32 (hL))
      replace hp4 := hp4.rowFar (show p5 ≠ p4 from (by omega)) (va .u32 (hL))
      replace hp5 := hp5.row (va .u32 (hL))
      replace hW := below_setRow hW lw_p5 (va .u32 (hL))
      generalize w13.setRow p5 (va .u32 (hL)) = w14 at *
      refine nilL ?_
      clear hp4
      go_upto_region 6 with fail
      refine wl_lit ?_
      refine runL 6 (.int .i64 0) rfl (by rfl) (by go_simp) ?_
      simp only [List.set_cons_zero, List.set_cons_succ]
      refine nilL ?_
      have hb1 : 0 < b := by omega
      rcases hA5.form with ⟨_, h0, _⟩ | ⟨ga, rfl, hga, hgl⟩
      · omega
      have hcap := hA5.cap
      have nga_p5 := nA5_p5
      go_wp2
      go_loopw [6] (fun s wr => ∃ (j : Nat), j ≤ b ∧ s = .int .i64 ((64 * j : Nat) : Int) ∧ Own wr B0 (some ⟨ga, 0, none⟩) (64 * b) cA5 (pad l) ∧ Blk wr p5 54 (va .u32 (hs (pad l) j)) ∧ Blk wr p2 25 (va .u8 (List.replicate 32 0)) ∧ Below B0 w wr) (fun s _ => 64 * b - (intOf s).toNat)
      case atStart => exact ⟨0, by omega, rfl, hA5, hp5, hp2, hW⟩
      case round =>
        clear hA5 hp5 hp2 hW
        obtain ⟨j, hj, rfl, hA5, hp5, hp2, hW⟩ := hrel
        obtain ⟨oo, hoo⟩ : ∃ oo, 64 * j = oo := ⟨_, rfl⟩
        rw [hoo]
        have hooq := Lib.hid hoo
        by_cases hlt : j < b
        ·
          have hltI : (oo : Int) < ((64 * b : Nat) : Int) := by omega
          have ho0 : 0 ≤ (oo : Int) := by omega
          have hob : oo + 64 ≤ 64 * b := by omega
          have ho1 : (oo : Int) ≤ (oo : Int) + 64 := by omega
          have ho2 : (oo : Int) + 64 ≤ (cA5 : Int) := by omega
          have ho3 : ¬ cA5 = oo := by omega
          have ho4 : ((oo : Int) + 64).toNat = oo + 64 := by omega
          have ho5 : oo + 64 - oo = 64 := by omega
          have ho6 : IntKind.i64.wrap ((oo : Int) + 64) = (oo : Int) + 64 := IntWalk.i64_in _ (by omega)
          have hrd := Lib.hid (hA5.readsAt oo 64 (by omega))
          clear hoo
          go_upto_region 9 with fail
          replace hp5 := hp5.drew
          refine wp_region_held_drew (S := fun wr => Blk wr p2 25 (va .u8 (List.replicate 32 0)) ∧ Own wr B0 (some ⟨ga, 0, none⟩) (64 * b) cA5 (pad l) ∧ Below B0 w wr) (by kernel_rfl) ⟨hp2.drew, hA5.drew_, below_drewN hW 1⟩ (fun hH => ?_)
          clear hp2 hA5 hW
          obtain ⟨hp2, hA5, hW⟩ := hH
          generalize wr.drew = w15 at *
          refine takeH 7 1 41 (.slice (some ⟨ga, 0, none⟩) (64 * b) cA5) rfl rfl (by kernel_rfl) (by kernel_rfl) (by kernel_rfl) (fun _ _ _ h => h) (Or.inl ⟨by rfl, fun w _ => by go_simp⟩) ⟨hp2, hA5, hW⟩ ?_
          simp only [List.set_cons_zero, List.set_cons_succ]
          refine takeH 6 2 42 (.int .i64 (oo : Int)) rfl rfl (by kernel_rfl) (by kernel_rfl) (by kernel_rfl) (fun _ _ _ h => h) (Or.inl ⟨by rfl, fun w _ => by go_simp⟩) ⟨hp2, hA5, hW⟩ ?_
          simp only [List.set_cons_zero, List.set_cons_succ]
          refine takeH 5 3 43 (.int .i64 (oo : Int)) rfl rfl (by kernel_rfl) (by kernel_rfl) (by kernel_rfl) (fun _ _ _ h => h) (Or.inl ⟨by rfl, fun w _ => by go_simp⟩) ⟨hp2, hA5, hW⟩ ?_
          simp only [List.set_cons_zero, List.set_cons_succ]
          refine takeH 4 4 44 (.int .i64 ((oo : Int) + 64)) rfl rfl (by kernel_rfl) (by kernel_rfl) (by kernel_rfl) (fun _ _ _ h => h) (Or.inl ⟨by rfl, fun w _ => by go_simp⟩) ⟨hp2, hA5, hW⟩ ?_
          simp only [List.set_cons_zero, List.set_cons_succ]
          refine takeH 3 5 45 (.slice (some ⟨ga, oo, none⟩) 64 (cA5 - oo)) rfl rfl (by kernel_rfl) (by kernel_rfl) (by kernel_rfl) (fun _ _ _ h => h) (Or.inl ⟨by rfl, fun w _ => by go_simp⟩) ⟨hp2, hA5, hW⟩ ?_
          simp only [List.set_cons_zero, List.set_cons_succ]
          refine wpAnyH_ready (by kernel_rfl) (by simp) (readyRun 2 0 40 (.agg (va .u32 (hs (pad l) j))) w15 rfl rfl (by rfl) (exec_row 54 (.tmp 5) rfl p5 rfl 54 (va .u32 (hs (pad l) j)) _ hp5 (by exact Tryd.underlying54) rfl (sz__8_uint32 _ (hs_len _ _))) ⟨hp2, hA5, hW⟩ (fun _ => ?_) AllReadyH.nil)
          simp only [List.set_cons_zero, List.set_cons_succ]
          refine wpAnyH_ready (by kernel_rfl) (by simp) (readyCons 1 6 46 rfl rfl (by rfl) (fun K hK => wp_callF 29 #[.agg (va .u32 (hs (pad l) j)), .slice (some ⟨ga, oo, none⟩) 64 (cA5 - oo)] (by go_simp) (rcompress_any (hs (pad l) j) (((pad l).drop oo).take 64) ga oo (cA5 - oo) _ (hs_len _ _) (hs_lt _ _) (((pad_byt _ hl).drop _).take _) (by omega) _ (hA5.readsAt oo 64 (by omega)) (Nat.le_refl _)) ?_) AllReadyH.nil)
          rintro e w16 ⟨rfl, bx⟩
          replace hp2 := hp2.below bx hp2.lt
          replace hp5 := hp5.below bx hp5.lt
          replace hA5 := hA5.below bx
          replace hW := hW.trans (bx.mono (Nat.le_trans hB0 hW.size))
          clear bx
          refine ⟨_, rfl, hK.out _ _ ⟨hp2, hA5, hW⟩ (fun _ => ?_)⟩
          clear hK K
          simp only [List.set_cons_zero, List.set_cons_succ]
          refine wpAnyH_ready (by kernel_rfl) (by simp) (readyRunS 0 7 (w16.setRow p5 (va .u32 (comp (hs (pad l) j) (((pad l).drop oo).take 64)))) rfl rfl (by rfl) (exec_storeRow 54 (.tmp 5) (.tmp 46) rfl p5 rfl (va .u32 (comp (hs (pad l) j) (((pad l).drop oo).take 64))) rfl 54 (va .u32 (hs (pad l) j)) hp5 (sz_eq (sz__8_uint32 _ (hs_len _ _)) (sz__8_uint32 _ (comp_len _ _))) (sz__8_uint32 _ (comp_len _ _)) (va_ones .u32 _)) ⟨hp2.rowFar (show p5 ≠ p2 from (by omega)) _, hA5.rowFar nA5_p5 _, below_setRow hW lw_p5 _⟩ (fun _ => ?_) AllReadyH.nil)
          replace hp2 := hp2.rowFar (show p5 ≠ p2 from (by omega)) (va .u32 (comp (hs (pad l) j) (((pad l).drop oo).take 64)))
          replace hA5 := hA5.rowFar nA5_p5 (va .u32 (comp (hs (pad l) j) (((pad l).drop oo).take 64)))
          replace hp5 := hp5.row (va .u32 (comp (hs (pad l) j) (((pad l).drop oo).take 64)))
          replace hW := below_setRow hW lw_p5 (va .u32 (comp (hs (pad l) j) (((pad l).drop oo).take 64)))
          generalize w16.setRow p5 (va .u32 (comp (hs (pad l) j) (((pad l).drop oo).take 64))) = w17 at *
          refine wpAnyH_done (by kernel_rfl) ?_ _
          go_wp2
          have hstep : comp (hs (pad l) j) (((pad l).drop oo).take 64) = hs (pad l) (j + 1) := by rw [← hooq.out]; rfl
          rw [hstep] at hp5
          have hwr : IntKind.i64.wrap ((oo : Int) + 64) = ((64 * (j + 1) : Nat) : Int) := by rw [ho6]; have := hooq.out; omega
          go_roundw
          case rel => exact ⟨j + 1, by omega, by go_num, hA5, hp5, hp2, hW⟩
          case measure => simp [intOf]; omega
        ·
          obtain rfl : j = b := by omega
          have hltI : ¬ (oo : Int) < ((64 * j : Nat) : Int) := by omega
          have hH8 := hs_len (pad l) j
          have hHw := hs_lt (pad l) j
          generalize hs (pad l) j = H at *
          clear hA5 hga hcap
          go_upto_region 10 with fail
          refine wl_lit ?_
          refine runWL 7 (.pointer (some ⟨wr.heap.size, 0, none⟩)) (wr.alloc (.cells (va .u8 (List.replicate 32 0)) 25)) rfl (by rfl) (exec_allocV 25 rfl _ (zv_api_Digest _)) ?_
          simp only [List.set_cons_zero, List.set_cons_succ]
          have lp2_p7 := hp2.lt
          have lp5_p7 := hp5.lt
          have lw_p7 := Nat.le_trans hB0 hW.size
          have hp7 : Blk (wr.alloc (.cells (va .u8 (List.replicate 32 0)) 25)) wr.heap.size 25 (va .u8 (List.replicate 32 0)) := Blk.new _ _ _
          replace hp2 := hp2.alloc (.cells (va .u8 (List.replicate 32 0)) 25)
          replace hp5 := hp5.alloc (.cells (va .u8 (List.replicate 32 0)) 25)
          replace hW := hW.alloc (Nat.le_trans hB0 hW.size) (.cells (va .u8 (List.replicate 32 0)) 25)
          generalize wr.alloc (.cells (va .u8 (List.replicate 32 0)) 25) = w18 at *
          generalize wr.heap.size = p7 at hp7 lw_p7 lp2_p7 lp5_p7 ⊢
          refine nilL ?_
          rw [← outb_zero H] at hp7
          go_wp2
          go_loopw [8, 9, 10] (fun s x t wr => ∃ i : Nat, i ≤ 8 ∧ s = .int .i64 (i : Int) ∧ Blk wr p7 25 (va .u8 (outb H (4 * i))) ∧ Blk wr p5 54 (va .u32 H) ∧ Blk wr p2 25 (va .u8 (List.replicate 32 0)) ∧ Below B0 w wr) (fun s _ _ _ => 8 - (intOf s).toNat)
          case atStart => exact ⟨0, by omega, rfl, hp7, hp5, hp2, hW⟩
          case round =>
            clear hp7 hp5 hp2 hW
            obtain ⟨i, hi, rfl, hp7, hp5, hp2, hW⟩ := hrel
            by_cases hlt : i < 8
            ·
              have hltI : (i : Int) < 8 := by omega
              have hv := hHw i
              obtain ⟨v, hve⟩ : ∃ v, H.getD i 0 = v := ⟨_, rfl⟩
              rw [hve] at hv
              have hvq := Lib.hid hve
              clear hve
              go_upto_region 14 with fail
              refine wl_lit ?_
              refine runL 51 (.int .i64 (i : Int)) rfl (by rfl) (by go_simp) ?_
              simp only [List.set_cons_zero, List.set_cons_succ]
              refine runL 52 (.pointer (some ⟨p5, i, none⟩)) rfl (by rfl) (by go_simp) ?_
              simp only [List.set_cons_zero, List.set_cons_succ]
              refine runL 53 (.int .u32 ((v : Nat) : Int)) rfl (by rfl) (exec_cell 53 (.tmp 52) rfl p5 i rfl (.int .u32 ((v : Nat) : Int)) _ Tryd.underlying53 rfl (by rw [← hvq.out]; exact hp5.num (by rw [hH8]; exact hlt))) ?_
              simp only [List.set_cons_zero, List.set_cons_succ]
              refine callL 54 rfl (by rfl) (fun K hK => wp_callF 30 #[.int .u32 ((v : Nat) : Int)] (by go_simp) (rput32_to v hv _) ?_)
              rintro e w19 ⟨g, rfl, hg, hgg, bx⟩
              have lp2_g : p2 < g := Nat.lt_of_lt_of_le hp2.lt hgg
              have lp5_g : p5 < g := Nat.lt_of_lt_of_le hp5.lt hgg
              have lp7_g : p7 < g := Nat.lt_of_lt_of_le hp7.lt hgg
              have lw_g : B0 ≤ g := Nat.le_trans (Nat.le_trans hB0 hW.size) hgg
              replace hp2 := hp2.below bx hp2.lt
              replace hp5 := hp5.below bx hp5.lt
              replace hp7 := hp7.below bx hp7.lt
              replace hW := hW.trans (bx.mono (Nat.le_trans hB0 hW.size))
              clear hgg
              clear bx
              refine ⟨_, rfl, hK.out _ _ ?_⟩
              clear hK K
              simp only [List.set_cons_zero, List.set_cons_succ]
              refine runL 9 (.slice (some ⟨g, 0, none⟩) 4 4) rfl (by rfl) (by go_simp) ?_
              simp only [List.set_cons_zero, List.set_cons_succ]
              refine nilL ?_
              go_wp2
              go_loopw [10] (fun t wr => ∃ k : Nat, k ≤ 4 ∧ t = .int .i64 (k : Int) ∧ Blk wr g 5 (va .u8 (beB v 4)) ∧ Blk wr p7 25 (va .u8 (outb H (4 * i + k))) ∧ Blk wr p5 54 (va .u32 H) ∧ Blk wr p2 25 (va .u8 (List.replicate 32 0)) ∧ Below B0 w wr) (fun t _ => 4 - (intOf t).toNat)
              case atStart => exact ⟨0, by omega, rfl, hg, hp7, hp5, hp2, hW⟩
              case round =>
                rename_i wq _ _
                clear hg hp7 hp5 hp2 hW
                obtain ⟨k, hk, rfl, hg, hp7, hp5, hp2, hW⟩ := hrel
                by_cases hlt4 : k < 4
                ·
                  have hltK : (k : Int) < 4 := by omega
                  have hq0 : 4 * i + k < 32 := by omega
                  have hst := outb_step H (4 * i + k) hq0
                  rw [flat_at H i k hlt hlt4, hvq.out] at hst
                  obtain ⟨q, hq⟩ : ∃ q, 4 * i + k = q := ⟨_, rfl⟩
                  rw [hq] at hst hp7 hq0
                  have hqI : (q : Int) < 32 := by omega
                  have hq1 : 4 * (i : Int) + (k : Int) = (q : Int) := by omega
                  have ha1 : IntKind.i64.wrap (4 * (i : Int)) = 4 * (i : Int) := IntWalk.i64_in _ (by omega)
                  have ha2 : IntKind.i64.wrap (q : Int) = (q : Int) := IntWalk.i64_in _ (by omega)
                  obtain ⟨x, hx⟩ : ∃ x, (beB v 4).getD k 0 = x := ⟨_, rfl⟩
                  rw [hx] at hst
                  have hxq := Lib.hid hx
                  have hstq := Lib.hid hst
                  have hqq := Lib.hid hq
                  clear hx hst hq
                  go_upto_region 18 with fail
                  refine wl_lit ?_
                  refine runL 59 (.int .i64 (i : Int)) rfl (by rfl) (by go_simp) ?_
                  simp only [List.set_cons_zero, List.set_cons_succ]
                  refine runL 60 (.int .i64 (4 * (i : Int))) rfl (by rfl) (by go_simp) ?_
                  simp only [List.set_cons_zero, List.set_cons_succ]
                  refine runL 61 (.int .i64 (k : Int)) rfl (by rfl) (by go_simp) ?_
                  simp only [List.set_cons_zero, List.set_cons_succ]
                  refine runL 62 (.int .i64 (q : Int)) rfl (by rfl) (by go_simp) ?_
                  simp only [List.set_cons_zero, List.set_cons_succ]
                  refine runL 63 (.slice (some ⟨g, 0, none⟩) 4 4) rfl (by rfl) (by go_simp) ?_
                  simp only [List.set_cons_zero, List.set_cons_succ]
                  refine runL 64 (.int .i64 (k : Int)) rfl (by rfl) (by go_simp) ?_
                  simp only [List.set_cons_zero, List.set_cons_succ]
                  refine runL 65 (.pointer (some ⟨g, k, none⟩)) rfl (by rfl) (by go_simp) ?_
                  simp only [List.set_cons_zero, List.set_cons_succ]
                  refine runL 66 (.int .u8 ((x : Nat) : Int)) rfl (by rfl) (exec_cell 5 (.tmp 65) rfl g k rfl (.int .u8 ((x : Nat) : Int)) _ Tryd.underlying5 rfl (by rw [← hxq.out]; exact hg.num (by rw [beB_len]; exact hlt4))) ?_
                  simp only [List.set_cons_zero, List.set_cons_succ]
                  refine runL 67 (.pointer (some ⟨p7, q, none⟩)) rfl (by rfl) (by go_simp) ?_
                  simp only [List.set_cons_zero, List.set_cons_succ]
                  refine runSL (wr.setCell ⟨p7, q, none⟩ (.int .u8 ((x : Nat) : Int))) rfl (by rfl) (exec_storeCell 5 (.tmp 67) (.tmp 66) rfl p7 q rfl (.int .u8 ((x : Nat) : Int)) rfl rfl rfl 25 (va .u8 (outb H q)) hp7 (by rw [va_size, (outb_len _ _)]; exact hq0) (by kernel_rfl)) ?_
                  replace hp2 := hp2.far (p := ⟨p7, q, none⟩) (show p2 ≠ p7 from (by omega)) (.int .u8 ((x : Nat) : Int))
                  replace hp5 := hp5.far (p := ⟨p7, q, none⟩) (show p5 ≠ p7 from (by omega)) (.int .u8 ((x : Nat) : Int))
                  replace hg := hg.far (p := ⟨p7, q, none⟩) (show g ≠ p7 from (by omega)) (.int .u8 ((x : Nat) : Int))
                  replace hp7 : Blk (wr.setCell ⟨p7, q, none⟩ (.int .u8 ((x : Nat) : Int))) p7 25 (va .u8 (outb H (q + 1))) := by rw [← hstq.out]; exact hp7.setNum q (x)
                  replace hW := hW.setCell (p := ⟨p7, q, none⟩) lw_p7 (.int .u8 ((x : Nat) : Int))
                  generalize wr.setCell ⟨p7, q, none⟩ (.int .u8 ((x : Nat) : Int)) = w20 at *
                  refine nilL ?_
                  go_wp2
                  go_roundw
                  case rel => exact ⟨k + 1, by omega, by go_num, hg, by rw [show 4 * i + (k + 1) = q + 1 by have := hqq.out; omega]; exact hp7, hp5, hp2, hW⟩
                  case measure => simp [intOf]; omega
                ·
                  obtain rfl : k = 4 := by omega
                  go_wp2
                  go_roundw
                  case rel => exact ⟨i + 1, by omega, by go_num, by rw [show 4 * (i + 1) = 4 * i + 4 by omega]; exact hp7, hp5, hp2, hW⟩
                  case measure => simp [intOf]; omega
            ·
              obtain rfl : i = 8 := by omega
              rw [show 4 * 8 = 32 by omega, outb_all] at hp7
              go_upto_region 19 with fail
              refine wl_lit ?_
              refine runL 68 (.agg (va .u8 (flat H))) rfl (by rfl) (exec_row 25 (.tmp 7) rfl p7 rfl 25 (va .u8 (flat H)) _ hp7 (by exact Tryd.underlying25) rfl (sz_api_Digest _ (flat_len _))) ?_
              simp only [List.set_cons_zero, List.set_cons_succ]
              refine runSL (wr.setRow p2 (va .u8 (flat H))) rfl (by rfl) (exec_storeRow 25 (.tmp 2) (.tmp 68) rfl p2 rfl (va .u8 (flat H)) rfl 25 (va .u8 (List.replicate 32 0)) hp2 (sz_eq (sz_api_Digest _ (List.length_replicate)) (sz_api_Digest _ (flat_len _))) (sz_api_Digest _ (flat_len _)) (va_ones .u8 _)) ?_
              replace hp5 := hp5.rowFar (show p2 ≠ p5 from (by omega)) (va .u8 (flat H))
              replace hp7 := hp7.rowFar (show p2 ≠ p7 from (by omega)) (va .u8 (flat H))
              replace hp2 := hp2.row (va .u8 (flat H))
              replace hW := below_setRow hW lw_p2 (va .u8 (flat H))
              generalize wr.setRow p2 (va .u8 (flat H)) = w21 at *
              refine nilL ?_
              go_wp2_with fail
              exact bodyPost_ret (results_cell_row rfl _ _ p2 25 (va .u8 (flat H)) (0, 0) _ rfl hp2 (by exact Tryd.underlying25) rfl (sz_api_Digest _ (flat_len _))) rfl ⟨by rw [hshaq.out], hW⟩
end Go.Proofs.YtcdmbknmmnaocaaDoor
