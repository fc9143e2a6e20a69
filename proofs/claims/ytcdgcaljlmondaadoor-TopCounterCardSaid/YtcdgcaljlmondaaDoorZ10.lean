/-
  The walks of Initial and Of.
-/
import Derived.Test.YtcdgcaljlmondaaDoorZ9
import Derived.Deep.RegionHeld3
import Derived.Deep.DeepCutAuto
namespace Go.Proofs.YtcdgcaljlmondaaDoor
set_option maxRecDepth 16384
open Go.RowKit Sh

/-- the blocks of Of -/
structure OfSt (G S : Nat) (l h r : List Nat) (w wr : World) : Prop where
 d : Blk wr G 23 (va .u8 z32)
 s : Blk wr S 92 (stL true h r l.length)
 ok : StOk l h r
 bel : Below G w wr

set_option maxRecDepth 100000 in
set_option maxHeartbeats 1600000 in
theorem of_any (ms : List (List Nat)) (n c B : Nat) (A : Option Addr) (w : World) (hg : Glob w) (hp : Parts w B A n ms) (hn : n < 4611686018427387904) (hB : B ≤ w.heap.size) (hlen : ms.flatten.length < 1152921504606846976) :
    Calls Tryd.prog 6 #[.slice A n c] w fun e w' => e = .returned (.agg (va .u8 (sha ms.flatten))) ∧ Below w.heap.size w w' := by
  have hzv := zvD
  have hzs := zvS
  have hpn := hp.1
  have hp' := Lib.hid hp
  have hB' := Lib.hid hB
  have hlen' := Lib.hid hlen
  clear hp hB hlen
  go_enter Tryd.func6, Tryd.ntmps6
  go_wp2_with fail
  have hgn := hg.alloc (Obj.cells (va .u8 z32) 23)
  refine (new_any _ hgn).mono ?_
  rintro e w1 ⟨rfl, b1⟩
  have hst := run_storeNewA (P := Tryd.prog) w1 92 sEmpty (stL true hL z64 0) (by rw [sEmpty_size, stL_size _ _ _ _ hL_len z64_len]) (stL_one _ _ _ _)
  have hvs : (stL true hL z64 0).size = 74 := stL_size _ _ _ _ hL_len z64_len
  have hbel1 : Below w.heap.size w w1 := ((Below.refl _ _).alloc (Nat.le_refl _) _).trans (b1.mono (by simp))
  have hm0 : OfSt w.heap.size w1.heap.size [] hL z64 w (w1.alloc (.cells (stL true hL z64 0) 92)) :=
    ⟨((Blk.new w _ _).below b1 (by simp)).alloc _, Blk.new _ _ _, stOk_nil, hbel1.alloc hbel1.size _⟩
  have hm1 := Lib.hid hm0
  have hGS : w.heap.size < w1.heap.size := by have := b1.size; simp at this; omega
  have hG1 : 1 < w.heap.size := by have h1 := hg.lk; have h2 := hg.lh; omega
  clear hm0 hbel1 b1 hgn
  go_wp2
  clear hst hvs
  generalize (w1.alloc (.cells (stL true hL z64 0) 92)) = w2 at *
  generalize hSS : w1.heap.size = S at *
  go_loopw [9] (fun s wr => ∃ (k : Nat) (h r : List Nat), k ≤ n ∧ s = .int .i64 (k : Int) ∧ OfSt w.heap.size S (ms.take k).flatten h r w wr) (fun s _ => n - (intOf s).toNat)
  case atStart => exact ⟨0, hL, z64, by omega, rfl, hm1.out⟩
  case round =>
    obtain ⟨k, h, r, hk, rfl, hmem⟩ := hrel
    clear hm1
    obtain ⟨l, hl⟩ : ∃ l, (ms.take k).flatten = l := ⟨_, rfl⟩
    rw [hl] at hmem
    have hmem' := Lib.hid hmem
    have hsz0 : (Tryd.prog.info? 92).map (·.size) = some (stL true h r l.length).size := by rw [stL_size _ _ _ _ hmem.ok.hl hmem.ok.len]; kernel_rfl
    have hsz := Lib.hid hsz0
    have hgw := hg.below hmem.bel
    clear hsz0 hmem
    by_cases hlt : k < n
    · have hlt' : (k : Int) < (n : Int) := by omega
      obtain ⟨ad, Ai, ni, ci, rfl, hadB, hc0, hnc, hr0, hby⟩ := hp'.out.2 k hlt
      have hb2 := hmem'.out.bel.mono hB'.out
      have hc : wr.cell? (ad.add k) = some (.slice Ai ni ci) := (hb2.cell (p := ad.add k) (by rw [add_blk]; exact hadB)).trans hc0
      have hrr := hr0.below hb2
      have hmn := hrr.len
      have hstep := flat_take_succ ms k (by omega)
      have hl2 := flat_take_len ms (k + 1)
      rw [hl] at hstep
      rw [hstep, List.length_append, hmn] at hl2
      have hlw : l.length + ni < 4611686018427387904 := by have := hlen'.out; omega
      have hBw : B ≤ wr.heap.size := Nat.le_trans hB'.out hmem'.out.bel.size
      have hl3 := Lib.hid hl
      have hst2 := Lib.hid hstep
      have hlw' := Lib.hid hlw
      have hBw' := Lib.hid hBw
      have hmn' := Lib.hid hmn
      clear hc0 hr0 hb2 hl2 hl hstep hlw hBw hmn
      go_wp2_with (first
        | (refine wpList_load_row rfl 92 (.tmp 3) rfl S rfl 92 (stL true h r l.length) (0, 0) _ hmem'.out.s Tryd.underlying92 rfl hsz.out ?_)
        | (go_at_call 31; fail))
      refine (write_any l h r (ms.getD k []) Ai ni ci B hmem'.out.ok hby hnc hlw'.out _ hgw hrr hBw'.out).mono ?_
      rintro e w3 ⟨h2, r2, rfl, ok3, b3⟩
      obtain ⟨n3, hn3⟩ : ∃ n3, (l ++ ms.getD k []).length = n3 := ⟨_, rfl⟩
      rw [hn3]
      have hS3 := hmem'.out.s.below b3 hmem'.out.s.lt
      have hD3 := hmem'.out.d.below b3 hmem'.out.d.lt
      have hB3 := hmem'.out.bel.trans (b3.mono hmem'.out.bel.size)
      have hvs : (stL true h2 r2 n3).size = 74 := stL_size _ _ _ _ ok3.hl ok3.len
      have hst := run_storeBlkA4 (P := Tryd.prog) hS3 (stL true h2 r2 n3) (by rw [hvs, stL_size _ _ _ _ hmem'.out.ok.hl hmem'.out.ok.len]) (stL_one _ _ _ _)
      have hm2 : OfSt w.heap.size S (ms.take (k + 1)).flatten h2 r2 w (w3.setRow S (stL true h2 r2 n3)) := by
        rw [hst2.out]
        exact ⟨hD3.rowFar (by omega) _, by rw [hn3]; exact hS3.row _, ok3, below_setRow hB3 (by omega) _⟩
      have hm3 := Lib.hid hm2
      clear hm2 hS3 hD3 hB3 ok3 b3 hn3
      go_wp2
      go_roundw
      case rel => exact ⟨k + 1, h2, r2, by omega, by go_num, hm3.out⟩
      case measure => simp [intOf]; omega
    · obtain rfl : n = k := by omega
      have hfull : l = ms.flatten := by rw [← hl, List.take_of_length_le (by omega)]
      have hf' := Lib.hid hfull
      clear hfull hl
      go_wp2_with (first
        | (refine wpList_load_row rfl 92 (.tmp 3) rfl S rfl 92 (stL true h r l.length) (0, 0) _ hmem'.out.s Tryd.underlying92 rfl hsz.out ?_)
        | (go_at_call 32; fail))
      refine (sum_any l h r hmem'.out.ok (by rw [hf'.out]; exact hlen'.out) _ hgw).mono ?_
      rintro e w3 ⟨rfl, b3⟩
      have hD3 := hmem'.out.d.below b3 hmem'.out.d.lt
      have hB3 := hmem'.out.bel.trans (b3.mono hmem'.out.bel.size)
      have hvs : (va .u8 (sha l)).size = 32 := by rw [va_size, sha_len]
      have hst := run_storeBlk (P := Tryd.prog) hD3 .u8 (sha l) (by rw [va_size, sha_len, z32_len])
      have hsz2 : (Tryd.prog.info? 23).map (·.size) = some (va .u8 (sha l)).size := by rw [hvs]; kernel_rfl
      have hsz3 := Lib.hid hsz2
      clear hsz2
      go_wp2
      exact bodyPost_ret (results_cell_row rfl _ _ w.heap.size 23 (va .u8 (sha l)) (0, 0) _ rfl (hD3.row _) Tryd.underlying23 rfl hsz3.out) rfl
        ⟨by rw [hf'.out], below_setRow hB3 (Nat.le_refl _) _⟩



end Go.Proofs.YtcdgcaljlmondaaDoor
/-
  The walks of macs.Block, padded. (Printed by mk03.py.)
-/
namespace Go.Proofs.YtcdgcaljlmondaaDoor
set_option maxRecDepth 16384
open Go.RowKit Sh
theorem sz__64_uint8 (l : List Nat) (h : l.length = 64) : (Tryd.prog.info? 90).map (·.size) = some (va .u8 l).size := by rw [va_size, h]; kernel_rfl
theorem zv__64_uint8 (w : World) : (zeroValue 90).run Tryd.prog w = .ok (.agg (va .u8 (List.replicate 64 0))) w := by kernel_rfl
theorem sz_api_Digest (l : List Nat) (h : l.length = 32) : (Tryd.prog.info? 23).map (·.size) = some (va .u8 l).size := by rw [va_size, h]; kernel_rfl
theorem zv_api_Digest (w : World) : (zeroValue 23).run Tryd.prog w = .ok (.agg (va .u8 (List.replicate 32 0))) w := by kernel_rfl

theorem glob_of {w : World} {B0 : Nat} (hg : Glob w) (e : w.heap.size = B0) : Hid (∀ W, Below B0 w W → Glob W) := Lib.hid fun W h => hg.below (by rw [e]; exact h)
theorem reads_of {w : World} {B B0 n : Nat} {A : Option Addr} {k : IntKind} {l : List Nat} (h : Reads w B 1 A n (nv k l)) (hB : B ≤ B0) : Hid (∀ W, Below B0 w W → Reads W B 1 A n (nv k l)) := Lib.hid fun _W hb => h.below (hb.mono hB)
/-- Of of parts whose bytes are m -/
theorem ofp (ms : List (List Nat)) (m : List Nat) (hm : ms.flatten = m) (n c : Nat) (A : Option Addr) (w : World) (hg : Glob w) (hp : Parts w w.heap.size A n ms) (hn : n < 1000) (hlen : m.length < 1000000) :
  Calls Tryd.prog 6 #[.slice A n c] w fun e w' => e = .returned (.agg (va .u8 (sha m))) ∧ Below w.heap.size w w' := by
 subst hm; exact of_any ms n c _ A w hg hp (by omega) (Nat.le_refl _) (by omega)

set_option maxRecDepth 8000 in
set_option maxHeartbeats 1000000 in
theorem block_any (key : List Nat) (A : Option Addr) (n c B : Nat) (hk : Byt key) (hnc : n ≤ c) (hn : n < 100000) (w : World) (hg : Glob w) (hr : Reads w B 1 A n (nv .u8 key)) (hB : B ≤ w.heap.size) :
  Calls Tryd.prog 82 #[.slice A n c] w fun e w' => e = .returned (.agg (va .u8 (kb key))) ∧ Below w.heap.size w w' := by
 have hln := hr.len
 obtain ⟨B0, hB0e⟩ : ∃ b, w.heap.size = b := ⟨_, rfl⟩
 rw [hB0e]
 have hW : Below B0 w w := by rw [← hB0e]; exact Below.refl _ _
 have hB0 : B0 ≤ w.heap.size := by omega
 have hBB : B ≤ B0 := by omega
 have gl := glob_of hg hB0e
 have rd := reads_of hr hBB
 clear hg hr hB
 have hB0q := Lib.hid hB0e
 clear hB0e
 by_cases h64 : 64 < n
 ·
  have h64I : (64 : Int) < (n : Int) := by omega
  have hkc : kc key = sha key := by unfold kc; rw [if_pos (by omega)]
  go_enter Tryd.func82, Tryd.ntmps82
  go_upto_region 0 with fail
  refine wl_lit ?_
  refine runWL 2 (.pointer (some ⟨w.heap.size, 0, none⟩)) (w.alloc (.cells (va .u8 (List.replicate 64 0)) 90)) rfl (by rfl) (exec_allocV 90 rfl _ (zv__64_uint8 _)) ?_
  simp only [ls0, ls1]
  have lw_p2 := Nat.le_trans hB0 hW.size
  have hp2 : Blk (w.alloc (.cells (va .u8 (List.replicate 64 0)) 90)) w.heap.size 90 (va .u8 (List.replicate 64 0)) := Blk.new _ _ _
  replace hW := hW.alloc (Nat.le_trans hB0 hW.size) (.cells (va .u8 (List.replicate 64 0)) 90)
  generalize w.alloc (.cells (va .u8 (List.replicate 64 0)) 90) = w1 at *
  generalize w.heap.size = p2 at hp2 lw_p2  ⊢
  refine nilL ?_
  go_upto_region 1 with fail
  refine wl_lit ?_
  refine runL 4 (.slice (A) n c) rfl (by rfl) (by go_simp) ?_
  simp only [ls0, ls1]
  refine runL 5 (.int .i64 (n)) rfl (by rfl) (by go_simp) ?_
  simp only [ls0, ls1]
  refine runL 6 (.bool true) rfl (by rfl) (by go_simp) ?_
  simp only [ls0, ls1]
  refine nilL ?_
  go_upto_region 2 with fail
  refine wl_lit ?_
  refine runL 7 (.slice (A) n c) rfl (by rfl) (by go_simp) ?_
  simp only [ls0, ls1]
  refine runWL 8 (.slice (some ⟨w1.heap.size, 0, none⟩) 1 1) (w1.alloc (.cells (#[.slice (A) n c]) 27)) rfl (by rfl) (exec_bslice 88 1 _ rfl _ (by exact bs_1 (A) n c _)) ?_
  simp only [ls0, ls1]
  have lp2_q1 := hp2.lt
  have lw_q1 := Nat.le_trans hB0 hW.size
  have hq1 : Blk (w1.alloc (.cells (#[.slice (A) n c]) 27)) w1.heap.size 27 (#[.slice (A) n c]) := Blk.new _ _ _
  replace hp2 := hp2.alloc (.cells (#[.slice (A) n c]) 27)
  replace hW := hW.alloc (Nat.le_trans hB0 hW.size) (.cells (#[.slice (A) n c]) 27)
  generalize w1.alloc (.cells (#[.slice (A) n c]) 27) = w2 at *
  generalize w1.heap.size = q1 at hq1 lw_q1 lp2_q1 ⊢
  refine callL 9 rfl (by rfl) (fun K hK => wp_callF 6 #[.slice (some ⟨q1, 0, none⟩) 1 1] (by go_simp) (ofp [key] key (by simp) 1 1 _ _ (gl.out _ hW) (parts_one (Nat.le_trans hBB (Nat.le_trans hB0 hW.size)) hq1 (rd.out _ hW) hnc hk) (by omega) (by omega)) ?_)
  rintro e w3 ⟨rfl, bx⟩
  replace hp2 := hp2.below bx hp2.lt
  replace hq1 := hq1.below bx hq1.lt
  replace hW := hW.trans (bx.mono (Nat.le_trans hB0 hW.size))
  clear bx
  refine ⟨_, rfl, hK.out _ _ ?_⟩
  clear hK K
  simp only [ls0, ls1]
  refine runWL 3 (.pointer (some ⟨w3.heap.size, 0, none⟩)) (w3.alloc (.cells (va .u8 (List.replicate 32 0)) 23)) rfl (by rfl) (exec_allocV 23 rfl _ (zv_api_Digest _)) ?_
  simp only [ls0, ls1]
  have lp2_p3 := hp2.lt
  have lq1_p3 := hq1.lt
  have lw_p3 := Nat.le_trans hB0 hW.size
  have hp3 : Blk (w3.alloc (.cells (va .u8 (List.replicate 32 0)) 23)) w3.heap.size 23 (va .u8 (List.replicate 32 0)) := Blk.new _ _ _
  replace hp2 := hp2.alloc (.cells (va .u8 (List.replicate 32 0)) 23)
  replace hq1 := hq1.alloc (.cells (va .u8 (List.replicate 32 0)) 23)
  replace hW := hW.alloc (Nat.le_trans hB0 hW.size) (.cells (va .u8 (List.replicate 32 0)) 23)
  generalize w3.alloc (.cells (va .u8 (List.replicate 32 0)) 23) = w4 at *
  generalize w3.heap.size = p3 at hp3 lw_p3 lp2_p3 lq1_p3 ⊢
  refine runSL (w4.setRow p3 (va .u8 (sha key))) rfl (by rfl) (exec_storeRow 23 (.tmp 3) (.tmp 9) rfl p3 rfl (va .u8 (sha key)) rfl 23 (va .u8 (List.replicate 32 0)) hp3 (sz_eq (sz_api_Digest _ (List.length_replicate)) (sz_api_Digest _ (sha_len' _))) (sz_api_Digest _ (sha_len' _)) (va_ones .u8 _)) ?_
  replace hp2 := hp2.rowFar (show p3 ≠ p2 from (by omega)) (va .u8 (sha key))
  replace hq1 := hq1.rowFar (show p3 ≠ q1 from (by omega)) (va .u8 (sha key))
  replace hp3 := hp3.row (va .u8 (sha key))
  replace hW := below_setRow hW lw_p3 (va .u8 (sha key))
  generalize w4.setRow p3 (va .u8 (sha key)) = w5 at *
  refine nilL ?_
  go_upto_region 3 with fail
  refine wl_lit ?_
  refine runL 10 (.slice (some ⟨p3, 0, none⟩) 32 32) rfl (by rfl) (by go_simp) ?_
  simp only [ls0, ls1]
  refine runL 0 (.slice (some ⟨p3, 0, none⟩) 32 32) rfl (by rfl) (by go_simp) ?_
  simp only [ls0]
  refine nilL ?_
  go_upto_region 4 with fail
  refine wl_lit ?_
  refine runL 11 (.slice (some ⟨p2, 0, none⟩) 64 64) rfl (by rfl) (by go_simp) ?_
  simp only [ls0, ls1]
  refine runL 12 (.slice (some ⟨p3, 0, none⟩) 32 32) rfl (by rfl) (by go_simp) ?_
  simp only [ls0, ls1]
  refine runWL 13 (.int .i64 32) (w5.setRow p2 (va .u8 (kb key))) rfl (by rfl) (exec_copy _ _ _ _ rfl _ _ _ rfl rfl (copy_row _ _ _ Tryd.underlying27 p2 0 64 64 90 (List.replicate 64 0) hp2 (some ⟨p3, 0, none⟩) 32 32 _ (sha key) (hp3.readsAll (Nat.lt_succ_self _) (sha_len' _)) (by omega) (by simp) (kb key) (by simp [-List.reduceReplicate, kb, hkc, sha_len']))) ?_
  simp only [ls0, ls1]
  replace hq1 := hq1.rowFar (show p2 ≠ q1 from (by omega)) (va .u8 (kb key))
  replace hp3 := hp3.rowFar (show p2 ≠ p3 from (by omega)) (va .u8 (kb key))
  replace hp2 := hp2.row (va .u8 (kb key))
  replace hW := below_setRow hW lw_p2 (va .u8 (kb key))
  generalize w5.setRow p2 (va .u8 (kb key)) = w6 at *
  refine nilL ?_
  go_upto_region 5 with fail
  refine wl_lit ?_
  refine runL 14 (.agg (va .u8 (kb key))) rfl (by rfl) (exec_row 90 (.tmp 2) rfl p2 rfl 90 (va .u8 (kb key)) _ hp2 (by exact Tryd.underlying90) rfl (sz__64_uint8 _ (kb_len _))) ?_
  simp only [ls0, ls1]
  refine runSL (w6.setRow p2 (va .u8 (kb key))) rfl (by rfl) (exec_storeRow 90 (.tmp 2) (.tmp 14) rfl p2 rfl (va .u8 (kb key)) rfl 90 (va .u8 (kb key)) hp2 (sz_eq (sz__64_uint8 _ (kb_len _)) (sz__64_uint8 _ (kb_len _))) (sz__64_uint8 _ (kb_len _)) (va_ones .u8 _)) ?_
  replace hq1 := hq1.rowFar (show p2 ≠ q1 from (by omega)) (va .u8 (kb key))
  replace hp3 := hp3.rowFar (show p2 ≠ p3 from (by omega)) (va .u8 (kb key))
  replace hp2 := hp2.row (va .u8 (kb key))
  replace hW := below_setRow hW lw_p2 (va .u8 (kb key))
  generalize w6.setRow p2 (va .u8 (kb key)) = w7 at *
  refine nilL ?_
  go_wp2_with fail
  exact bodyPost_ret (results_cell_row rfl _ _ p2 90 (va .u8 (kb key)) (0, 0) _ rfl hp2 (by exact Tryd.underlying90) rfl (sz__64_uint8 _ (kb_len _))) rfl ⟨rfl, hW⟩
 ·
  have h64I : ¬ (64 : Int) < (n : Int) := by omega
  have hkc : kc key = key := by unfold kc; rw [if_neg (by omega)]
  go_enter Tryd.func82, Tryd.ntmps82
  go_upto_region 0 with fail
  refine wl_lit ?_
  refine runWL 2 (.pointer (some ⟨w.heap.size, 0, none⟩)) (w.alloc (.cells (va .u8 (List.replicate 64 0)) 90)) rfl (by rfl) (exec_allocV 90 rfl _ (zv__64_uint8 _)) ?_
  simp only [ls0, ls1]
  have lw_p2 := Nat.le_trans hB0 hW.size
  have hp2 : Blk (w.alloc (.cells (va .u8 (List.replicate 64 0)) 90)) w.heap.size 90 (va .u8 (List.replicate 64 0)) := Blk.new _ _ _
  replace hW := hW.alloc (Nat.le_trans hB0 hW.size) (.cells (va .u8 (List.replicate 64 0)) 90)
  generalize w.alloc (.cells (va .u8 (List.replicate 64 0)) 90) = w8 at *
  generalize w.heap.size = p2 at hp2 lw_p2  ⊢
  refine nilL ?_
  go_upto_region 1 with fail
  refine wl_lit ?_
  refine runL 4 (.slice (A) n c) rfl (by rfl) (by go_simp) ?_
  simp only [ls0, ls1]
  refine runL 5 (.int .i64 (n)) rfl (by rfl) (by go_simp) ?_
  simp only [ls0, ls1]
  refine runL 6 (.bool false) rfl (by rfl) (by go_simp) ?_
  simp only [ls0, ls1]
  refine nilL ?_
  go_upto_region 4 with fail
  refine wl_lit ?_
  refine runL 11 (.slice (some ⟨p2, 0, none⟩) 64 64) rfl (by rfl) (by go_simp) ?_
  simp only [ls0, ls1]
  refine runL 12 (.slice (A) n c) rfl (by rfl) (by go_simp) ?_
  simp only [ls0, ls1]
  refine runWL 13 (.int .i64 (n)) (w8.setRow p2 (va .u8 (kb key))) rfl (by rfl) (exec_copy _ _ _ _ rfl _ _ _ rfl rfl (copy_row _ _ _ Tryd.underlying27 p2 0 64 64 90 (List.replicate 64 0) hp2 (A) n c _ (key) (rd.out _ hW) (by omega) (by simp; omega) (kb key) (by simp [-List.reduceReplicate, kb, hkc, hln]))) ?_
  simp only [ls0, ls1]
  replace hp2 := hp2.row (va .u8 (kb key))
  replace hW := below_setRow hW lw_p2 (va .u8 (kb key))
  generalize w8.setRow p2 (va .u8 (kb key)) = w9 at *
  refine nilL ?_
  go_upto_region 5 with fail
  refine wl_lit ?_
  refine runL 14 (.agg (va .u8 (kb key))) rfl (by rfl) (exec_row 90 (.tmp 2) rfl p2 rfl 90 (va .u8 (kb key)) _ hp2 (by exact Tryd.underlying90) rfl (sz__64_uint8 _ (kb_len _))) ?_
  simp only [ls0, ls1]
  refine runSL (w9.setRow p2 (va .u8 (kb key))) rfl (by rfl) (exec_storeRow 90 (.tmp 2) (.tmp 14) rfl p2 rfl (va .u8 (kb key)) rfl 90 (va .u8 (kb key)) hp2 (sz_eq (sz__64_uint8 _ (kb_len _)) (sz__64_uint8 _ (kb_len _))) (sz__64_uint8 _ (kb_len _)) (va_ones .u8 _)) ?_
  replace hp2 := hp2.row (va .u8 (kb key))
  replace hW := below_setRow hW lw_p2 (va .u8 (kb key))
  generalize w9.setRow p2 (va .u8 (kb key)) = w10 at *
  refine nilL ?_
  go_wp2_with fail
  exact bodyPost_ret (results_cell_row rfl _ _ p2 90 (va .u8 (kb key)) (0, 0) _ rfl hp2 (by exact Tryd.underlying90) rfl (sz__64_uint8 _ (kb_len _))) rfl ⟨rfl, hW⟩

/-- the pad, i bytes of it being laid -/
def padl (c i : Nat) : List Nat := (List.range 64).map fun j => if j < i then c else 0
theorem padl_len (c i : Nat) : (padl c i).length = 64 := by simp [padl]
theorem padl_zero (c : Nat) : padl c 0 = List.replicate 64 0 := by
 apply ext_getD (by simp [padl])
 intro j hj
 rw [padl_len] at hj
 rw [padl, getD_map_range _ _ _ hj, if_neg (by omega), List.getD_eq_getElem?_getD, List.getElem?_replicate, if_pos hj]; rfl
theorem padl_all (c : Nat) : padl c 64 = List.replicate 64 c := by
 apply ext_getD (by rw [padl_len, List.length_replicate])
 intro j hj
 rw [padl_len] at hj
 rw [padl, getD_map_range _ _ _ hj, if_pos (by omega), List.getD_eq_getElem?_getD, List.getElem?_replicate, if_pos hj]; rfl
theorem padl_step (c i : Nat) (hi : i < 64) : (padl c i).set i c = padl c (i + 1) := by
  apply ext_getD (by rw [List.length_set, padl_len, padl_len])
  intro j hj
  rw [List.length_set, padl_len] at hj
  by_cases e : i = j
  · subst e
    rw [getD_set_eq (by rw [padl_len]; exact hi), padl, getD_map_range _ _ _ hj, if_pos (by omega)]
  · rw [Sh.getD_set_ne e, padl, getD_map_range _ _ _ hj, padl, getD_map_range _ _ _ hj]
    by_cases h : j < i
    · rw [if_pos h, if_pos (by omega)]
    · rw [if_neg h, if_neg (by omega)]

set_option maxRecDepth 8000 in
set_option maxHeartbeats 1000000 in
theorem padded_any (key : List Nat) (A : Option Addr) (n c x B : Nat) (hx : x < 256) (hk : Byt key) (hnc : n ≤ c) (hn : n < 100000) (w : World) (hg : Glob w) (hr : Reads w B 1 A n (nv .u8 key)) (hB : B ≤ w.heap.size) :
    Calls Tryd.prog 74 #[.slice A n c, .int .u8 (x : Int)] w fun e w' => ∃ g, e = .returned (.slice (some ⟨g, 0, none⟩) 64 64) ∧ Blk w' g 5 (va .u8 (kx key x)) ∧ w.heap.size ≤ g ∧ Below w.heap.size w w' := by
  obtain ⟨B0, hB0e⟩ : ∃ b, w.heap.size = b := ⟨_, rfl⟩
  rw [hB0e]
  have hW : Below B0 w w := by rw [← hB0e]; exact Below.refl _ _
  have hB0 : B0 ≤ w.heap.size := by omega
  have hBB : B ≤ B0 := by omega
  have gl := glob_of hg hB0e
  have rd := reads_of hr hBB
  clear hg hr hB
  have hB0q := Lib.hid hB0e
  clear hB0e
  go_enter Tryd.func74, Tryd.ntmps74
  go_upto_region 0 with fail
  refine wl_lit ?_
  refine runL 4 (.slice none 0 0) rfl (by rfl) (by go_simp) ?_
  simp only [ls0, ls1]
  refine nilL ?_
  go_upto_region 1 with fail
  refine wl_lit ?_
  refine runL 10 (.slice (A) n c) rfl (by rfl) (by go_simp) ?_
  simp only [ls0, ls1]
  refine callL 11 rfl (by rfl) (fun K hK => wp_callF 82 #[.slice (A) n c] (by go_simp) (block_any key A n c B hk hnc hn _ (gl.out _ hW) (rd.out _ hW) (Nat.le_trans hBB (Nat.le_trans hB0 hW.size))) ?_)
  rintro e w1 ⟨rfl, bx⟩
  replace hW := hW.trans (bx.mono (Nat.le_trans hB0 hW.size))
  clear bx
  refine ⟨_, rfl, hK.out _ _ ?_⟩
  clear hK K
  simp only [ls0, ls1]
  refine runWL 5 (.pointer (some ⟨w1.heap.size, 0, none⟩)) (w1.alloc (.cells (va .u8 (List.replicate 64 0)) 90)) rfl (by rfl) (exec_allocV 90 rfl _ (zv__64_uint8 _)) ?_
  simp only [ls0, ls1]
  have lw_p5 := Nat.le_trans hB0 hW.size
  have hp5 : Blk (w1.alloc (.cells (va .u8 (List.replicate 64 0)) 90)) w1.heap.size 90 (va .u8 (List.replicate 64 0)) := Blk.new _ _ _
  replace hW := hW.alloc (Nat.le_trans hB0 hW.size) (.cells (va .u8 (List.replicate 64 0)) 90)
  generalize w1.alloc (.cells (va .u8 (List.replicate 64 0)) 90) = w2 at *
  generalize w1.heap.size = p5 at hp5 lw_p5  ⊢
  refine runSL (w2.setRow p5 (va .u8 (kb key))) rfl (by rfl) (exec_storeRow 90 (.tmp 5) (.tmp 11) rfl p5 rfl (va .u8 (kb key)) rfl 90 (va .u8 (List.replicate 64 0)) hp5 (sz_eq (sz__64_uint8 _ (List.length_replicate)) (sz__64_uint8 _ (kb_len _))) (sz__64_uint8 _ (kb_len _)) (va_ones .u8 _)) ?_
  replace hp5 := hp5.row (va .u8 (kb key))
  replace hW := below_setRow hW lw_p5 (va .u8 (kb key))
  generalize w2.setRow p5 (va .u8 (kb key)) = w3 at *
  refine nilL ?_
  go_upto_region 2 with fail
  refine wl_lit ?_
  refine runWL 12 (.slice (some ⟨w3.heap.size, 0, none⟩) 64 64) (w3.alloc (.cells (va .u8 (List.replicate 64 0)) 5)) rfl (by rfl) (exec_makeB _ _ rfl 64 (by omega) rfl rfl) ?_
  simp only [ls0, ls1]
  have lp5_q1 := hp5.lt
  have lw_q1 := Nat.le_trans hB0 hW.size
  have hq1 : Blk (w3.alloc (.cells (va .u8 (List.replicate 64 0)) 5)) w3.heap.size 5 (va .u8 (List.replicate 64 0)) := Blk.new _ _ _
  replace hp5 := hp5.alloc (.cells (va .u8 (List.replicate 64 0)) 5)
  replace hW := hW.alloc (Nat.le_trans hB0 hW.size) (.cells (va .u8 (List.replicate 64 0)) 5)
  generalize w3.alloc (.cells (va .u8 (List.replicate 64 0)) 5) = w4 at *
  generalize w3.heap.size = q1 at hq1 lw_q1 lp5_q1 ⊢
  refine runL 6 (.slice (some ⟨q1, 0, none⟩) 64 64) rfl (by rfl) (by go_simp) ?_
  simp only [ls0, ls1]
  refine nilL ?_
  rw [← padl_zero x] at hq1
  go_wp2
  go_loopw [15] (fun s wr => ∃ i : Nat, i ≤ 64 ∧ s = .int .i64 (i : Int) ∧ Blk wr p5 90 (va .u8 (kb key)) ∧ Blk wr q1 5 (va .u8 (padl x i)) ∧ Below B0 w wr) (fun s _ => 64 - (intOf s).toNat)
  case atStart => exact ⟨0, by omega, rfl, hp5, hq1, hW⟩
  case round =>
    clear hp5 hq1 hW
    obtain ⟨i, hi, rfl, hp5, hq1, hW⟩ := hrel
    by_cases hlt : i < 64
    · have hltI : (i : Int) < 64 := by omega
      have hc := hq1.num (i := i) (by rw [padl_len]; exact hlt)
      have hf := hq1.frozen i
      have h1 := Lib.hid (hp5.far (p := ⟨q1, i, none⟩) (show p5 ≠ q1 by omega) (.int .u8 (x : Int)))
      have h2 := Lib.hid (hq1.setNum i x)
      have h3 := Lib.hid (hW.setCell (p := ⟨q1, i, none⟩) lw_q1 (.int .u8 (x : Int)))
      have h4 := Lib.hid (padl_step x i hlt)
      clear hp5 hq1 hW
      go_wp2
      go_roundw
      case rel => exact ⟨i + 1, by omega, by go_num, h1.out, by rw [← h4.out]; exact h2.out, h3.out⟩
      case measure => simp [intOf]; omega
    · obtain rfl : i = 64 := by omega
      rw [padl_all] at hq1
      clear hlt hi
      go_upto_region 8 with fail
      refine wl_lit ?_
      refine runL 24 (.slice (some ⟨p5, 0, none⟩) 64 64) rfl (by rfl) (by go_simp) ?_
      simp only [ls0, ls1]
      refine runL 25 (.slice (some ⟨q1, 0, none⟩) 64 64) rfl (by rfl) (by go_simp) ?_
      simp only [ls0, ls1]
      refine callL 26 rfl (by rfl) (fun K hK => wp_callF 17 #[.slice (some ⟨p5, 0, none⟩) 64 64, .slice (some ⟨q1, 0, none⟩) 64 64] (by go_simp) (xor_any (kb key) (List.replicate 64 x) _ _ 64 64 64 _ (kb_byt _ hk) (Byt.rep _ _ hx) (by omega) _ (hp5.readsAll hp5.lt (kb_len _)) (hq1.readsAll hq1.lt List.length_replicate) (Nat.le_refl _)) ?_)
      rintro e w5 ⟨g, rfl, hg, hgg, bx⟩
      have lp5_g : p5 < g := Nat.lt_of_lt_of_le hp5.lt hgg
      have lq1_g : q1 < g := Nat.lt_of_lt_of_le hq1.lt hgg
      have lw_g : B0 ≤ g := Nat.le_trans (Nat.le_trans hB0 hW.size) hgg
      replace hp5 := hp5.below bx hp5.lt
      replace hq1 := hq1.below bx hq1.lt
      replace hW := hW.trans (bx.mono (Nat.le_trans hB0 hW.size))
      clear hgg
      clear bx
      refine ⟨_, rfl, hK.out _ _ ?_⟩
      clear hK K
      simp only [ls0, ls1]
      refine runL 23 (.tuple #[.slice (some ⟨g, 0, none⟩) 64 64, .int .i64 0]) rfl (by rfl) (by go_simp) ?_
      simp only [ls0, ls1]
      refine runL 27 (.slice (some ⟨g, 0, none⟩) 64 64) rfl (by rfl) (by go_simp) ?_
      simp only [ls0, ls1]
      refine runL 28 (.int .i64 0) rfl (by rfl) (by go_simp) ?_
      simp only [ls0, ls1]
      refine runL 8 (.slice (some ⟨g, 0, none⟩) 64 64) rfl (by rfl) (by go_simp) ?_
      simp only [ls0, ls1]
      refine runL 9 (.int .i64 0) rfl (by rfl) (by go_simp) ?_
      simp only [ls0, ls1]
      refine nilL ?_
      go_upto_region 9 with fail
      refine wl_lit ?_
      refine runL 29 (.slice (some ⟨g, 0, none⟩) 64 64) rfl (by rfl) (by go_simp) ?_
      simp only [ls0, ls1]
      refine runL 4 (.slice (some ⟨g, 0, none⟩) 64 64) rfl (by rfl) (by go_simp) ?_
      simp only [ls0, ls1]
      refine nilL ?_
      go_wp2_with fail
      go_ret
      exact ⟨_, rfl, hg, lw_g, hW⟩
end Go.Proofs.YtcdgcaljlmondaaDoor
/-
  The walks of macs.Of, Verify. (Printed by mk03.py.)
-/
namespace Go.Proofs.YtcdgcaljlmondaaDoor
set_option maxRecDepth 16384
open Go.RowKit Sh

theorem szS (b : Bool) (h r : List Nat) (n : Nat) (hl : h.length = 8) (hr : r.length = 64) : (Tryd.prog.info? 92).map (·.size) = some (stL b h r n).size := by rw [stL_size _ _ _ _ hl hr]; kernel_rfl
theorem write_to (l h r m L : List Nat) (A : Option Addr) (n c B N0 N : Nat) (hl0 : l.length = N0) (hL : l ++ m = L) (hN : L.length = N) (hok : StOk l h r) (hm : Byt m) (hnc : n ≤ c) (hlen : N < 4611686018427387904) (w : World) (hg : Glob w)
  (hr : Reads w B 1 A n (nv .u8 m)) (hB : B ≤ w.heap.size) :
  Calls Tryd.prog 31 #[.agg (stL true h r N0), .slice A n c] w fun e w' =>
   ∃ h' r', e = .returned (.agg (stL true h' r' N)) ∧ StOk L h' r' ∧ Below w.heap.size w w' := by
 subst hl0 hL hN
 exact write_any l h r m A n c B hok hm hnc (by rw [List.length_append, hr.len] at hlen; exact hlen) w hg hr hB
theorem sum_to (l h r : List Nat) (N : Nat) (hN : l.length = N) (hok : StOk l h r) (hlen : N < 1000000) (w : World) (hg : Glob w) :
  Calls Tryd.prog 32 #[.agg (stL true h r N)] w fun e w' => e = .returned (.agg (va .u8 (sha l))) ∧ Below w.heap.size w w' := by
 subst hN; exact sum_any l h r hok (by omega) w hg

set_option maxRecDepth 8000 in
set_option maxHeartbeats 2000000 in
theorem macof_any (key : List Nat) (A : Option Addr) (n c B : Nat) (ms : List (List Nat)) (A2 : Option Addr) (n2 c2 B2 : Nat) (hk : Byt key) (hnc : n ≤ c) (hn : n < 100000) (hn2 : n2 < 1000) (hlen : ms.flatten.length < 100000) (w : World) (hg : Glob w)
  (hr : Reads w B 1 A n (nv .u8 key)) (hB : B ≤ w.heap.size) (hp : Parts w B2 A2 n2 ms) (hB2 : B2 ≤ w.heap.size) :
  Calls Tryd.prog 56 #[.slice A n c, .slice A2 n2 c2] w fun e w' => e = .returned (.agg (va .u8 (hm key ms.flatten))) ∧ Below w.heap.size w w' := by
 obtain ⟨B0, hB0e⟩ : ∃ b, w.heap.size = b := ⟨_, rfl⟩
 rw [hB0e]
 have hW : Below B0 w w := by rw [← hB0e]; exact Below.refl _ _
 have hB0 : B0 ≤ w.heap.size := by omega
 have hBB : B ≤ B0 := by omega
 have hBB2 : B2 ≤ B0 := by omega
 have hpn := hp.1
 have gl := glob_of hg hB0e
 have rd := reads_of hr hBB
 have pd : Hid (∀ W, Below B0 w W → Parts W B2 A2 n2 ms) := Lib.hid fun W h => hp.below (h.mono hBB2)
 have hlq := Lib.hid hlen
 clear hg hr hB hp hB2 hlen
 have hB0q := Lib.hid hB0e
 clear hB0e
 go_enter Tryd.func56, Tryd.ntmps56
 go_upto_region 0 with fail
 refine wl_lit ?_
 refine runWL 4 (.pointer (some ⟨w.heap.size, 0, none⟩)) (w.alloc (.cells (va .u8 (List.replicate 32 0)) 23)) rfl (by rfl) (exec_allocV 23 rfl _ (zv_api_Digest _)) ?_
 simp only [ls0, ls1]
 have lw_p4 := Nat.le_trans hB0 hW.size
 have hp4 : Blk (w.alloc (.cells (va .u8 (List.replicate 32 0)) 23)) w.heap.size 23 (va .u8 (List.replicate 32 0)) := Blk.new _ _ _
 replace hW := hW.alloc (Nat.le_trans hB0 hW.size) (.cells (va .u8 (List.replicate 32 0)) 23)
 generalize w.alloc (.cells (va .u8 (List.replicate 32 0)) 23) = w1 at *
 generalize w.heap.size = p4 at hp4 lw_p4  ⊢
 refine nilL ?_
 go_upto_region 1 with fail
 refine wl_lit ?_
 refine callL 9 rfl (by rfl) (fun K hK => wp_callF 30 #[] (by go_simp) (new_any _ (gl.out _ hW)) ?_)
 rintro e w2 ⟨rfl, bx⟩
 replace hp4 := hp4.below bx hp4.lt
 replace hW := hW.trans (bx.mono (Nat.le_trans hB0 hW.size))
 clear bx
 refine ⟨_, rfl, hK.out _ _ ?_⟩
 clear hK K
 simp only [ls0, ls1]
 refine runL 10 (.slice (A) n c) rfl (by rfl) (by go_simp) ?_
 simp only [ls0, ls1]
 refine callL 11 rfl (by rfl) (fun K hK => wp_callF 74 #[.slice (A) n c, .int .u8 54] (by go_simp) (padded_any key A n c 54 B (by omega) hk hnc hn _ (gl.out _ hW) (rd.out _ hW) (Nat.le_trans hBB (Nat.le_trans hB0 hW.size))) ?_)
 rintro e w3 ⟨g1, rfl, hg1, hgg, bx⟩
 have lp4_g1 : p4 < g1 := Nat.lt_of_lt_of_le hp4.lt hgg
 have lw_g1 : B0 ≤ g1 := Nat.le_trans (Nat.le_trans hB0 hW.size) hgg
 replace hp4 := hp4.below bx hp4.lt
 replace hW := hW.trans (bx.mono (Nat.le_trans hB0 hW.size))
 clear hgg
 clear bx
 refine ⟨_, rfl, hK.out _ _ ?_⟩
 clear hK K
 simp only [ls0, ls1]
 refine callL 12 rfl (by rfl) (fun K hK => wp_callF 31 #[.agg (stL true hL z64 0), .slice (some ⟨g1, 0, none⟩) 64 64] (by go_simp) (write_to [] hL z64 (kx key 54) (kx key 54) _ 64 64 _ 0 64 rfl rfl (kx_len _ _) stOk_nil (kx_byt _ _ hk (by omega)) (Nat.le_refl _) (by omega) _ (gl.out _ hW) (hg1.readsAll hg1.lt (kx_len _ _)) (Nat.le_refl _)) ?_)
 rintro e w4 ⟨h1, r1, rfl, ok1, bx⟩
 replace hp4 := hp4.below bx hp4.lt
 replace hg1 := hg1.below bx hg1.lt
 replace hW := hW.trans (bx.mono (Nat.le_trans hB0 hW.size))
 clear bx
 refine ⟨_, rfl, hK.out _ _ ?_⟩
 clear hK K
 simp only [ls0, ls1]
 refine runWL 5 (.pointer (some ⟨w4.heap.size, 0, none⟩)) (w4.alloc (.cells (sEmpty) 92)) rfl (by rfl) (exec_allocV 92 rfl _ (zvS _)) ?_
 simp only [ls0, ls1]
 have lp4_p5 := hp4.lt
 have lg1_p5 := hg1.lt
 have lw_p5 := Nat.le_trans hB0 hW.size
 have hp5 : Blk (w4.alloc (.cells (sEmpty) 92)) w4.heap.size 92 (sEmpty) := Blk.new _ _ _
 replace hp4 := hp4.alloc (.cells (sEmpty) 92)
 replace hg1 := hg1.alloc (.cells (sEmpty) 92)
 replace hW := hW.alloc (Nat.le_trans hB0 hW.size) (.cells (sEmpty) 92)
 generalize w4.alloc (.cells (sEmpty) 92) = w5 at *
 generalize w4.heap.size = p5 at hp5 lw_p5 lp4_p5 lg1_p5 ⊢
 refine runSL (w5.setRow p5 (stL true h1 r1 64)) rfl (by rfl) (exec_storeRow 92 (.tmp 5) (.tmp 12) rfl p5 rfl (stL true h1 r1 64) rfl 92 (sEmpty) hp5 (sz_eq (szS _ _ _ _ rfl z64_len) (szS _ _ _ _ ok1.hl ok1.len)) (szS _ _ _ _ ok1.hl ok1.len) (stL_one _ _ _ _)) ?_
 replace hp4 := hp4.rowFar (show p5 ≠ p4 from (by omega)) (stL true h1 r1 64)
 replace hg1 := hg1.rowFar (show p5 ≠ g1 from (by omega)) (stL true h1 r1 64)
 replace hp5 := hp5.row (stL true h1 r1 64)
 replace hW := below_setRow hW lw_p5 (stL true h1 r1 64)
 generalize w5.setRow p5 (stL true h1 r1 64) = w6 at *
 refine nilL ?_
 clear hg1
 go_wp2
 go_loopw [15] (fun s wr => ∃ (k N : Nat) (h r : List Nat), k ≤ n2 ∧ s = .int .i64 (k : Int) ∧ (kx key 54 ++ (ms.take k).flatten).length = N ∧ StOk (kx key 54 ++ (ms.take k).flatten) h r ∧ Blk wr p4 23 (va .u8 (List.replicate 32 0)) ∧ Blk wr p5 92 (stL true h r N) ∧ Below B0 w wr) (fun s _ => n2 - (intOf s).toNat)
 case atStart => exact ⟨0, 64, h1, r1, by omega, rfl, by simp [kx_len], by simpa using ok1, hp4, hp5, hW⟩
 case round =>
  clear hp4 hp5 hW ok1
  obtain ⟨k, N, h, r, hk2, rfl, hN, ok, hp4, hp5, hW⟩ := hrel
  have hNq := Lib.hid hN
  have okq := Lib.hid ok
  have hstl := flat_take_len ms k
  have hN2 : N < 100064 := by rw [List.length_append, kx_len] at hN; have := hlq.out; omega
  clear hN ok hstl
  by_cases hlt : k < n2
  ·
   have hltI : (k : Int) < (n2 : Int) := by omega
   obtain ⟨ad, Ai, ni, ci, rfl, hadB, hc0, hnc2, hr0, hby⟩ := (pd.out _ hW).2 k hlt
   have hrq := Lib.hid hr0
   have hst := Lib.hid (flat_take_succ ms k (by omega))
   have hm2 := flat_take_len ms (k + 1)
   rw [hst.out, List.length_append, hr0.len] at hm2
   have hlen2 : N + ni < 200000 := by have h9 := hNq.out; rw [List.length_append, kx_len] at h9; have := hlq.out; omega
   have hL : (kx key 54 ++ (ms.take (k + 1)).flatten).length = N + ni := by have h9 := hNq.out; rw [hst.out, ← List.append_assoc, List.length_append, h9, hr0.len]
   have hLq := Lib.hid hL
   clear hr0 hm2 hL
   go_upto_region 5 with fail
   clear hc0
   refine wl_lit ?_
   refine runL 19 (.agg (stL true h r N)) rfl (by rfl) (exec_row 92 (.tmp 5) rfl p5 rfl 92 (stL true h r N) _ hp5 (by exact Tryd.underlying92) rfl (szS _ _ _ _ okq.out.hl okq.out.len)) ?_
   simp only [ls0, ls1]
   refine runL 20 (.slice (Ai) ni ci) rfl (by rfl) (by go_simp) ?_
   simp only [ls0, ls1]
   refine callL 21 rfl (by rfl) (fun K hK => wp_callF 31 #[.agg (stL true h r N), .slice (Ai) ni ci] (by go_simp) (write_to (kx key 54 ++ (ms.take k).flatten) h r (ms.getD k []) (kx key 54 ++ (ms.take (k + 1)).flatten) Ai ni ci B2 N (N + ni) hNq.out (by rw [hst.out, List.append_assoc]) hLq.out okq.out hby hnc2 (by omega) _ (gl.out _ hW) hrq.out (Nat.le_trans hBB2 (Nat.le_trans hB0 hW.size))) ?_)
   rintro e w7 ⟨h2, r2, rfl, ok2, bx⟩
   replace hp4 := hp4.below bx hp4.lt
   replace hp5 := hp5.below bx hp5.lt
   replace hW := hW.trans (bx.mono (Nat.le_trans hB0 hW.size))
   clear bx
   refine ⟨_, rfl, hK.out _ _ ?_⟩
   clear hK K
   simp only [ls0, ls1]
   refine runSL (w7.setRow p5 (stL true h2 r2 (N + ni))) rfl (by rfl) (exec_storeRow 92 (.tmp 5) (.tmp 21) rfl p5 rfl (stL true h2 r2 (N + ni)) rfl 92 (stL true h r N) hp5 (sz_eq (szS _ _ _ _ okq.out.hl okq.out.len) (szS _ _ _ _ ok2.hl ok2.len)) (szS _ _ _ _ ok2.hl ok2.len) (stL_one _ _ _ _)) ?_
   replace hp4 := hp4.rowFar (show p5 ≠ p4 from (by omega)) (stL true h2 r2 (N + ni))
   replace hp5 := hp5.row (stL true h2 r2 (N + ni))
   replace hW := below_setRow hW lw_p5 (stL true h2 r2 (N + ni))
   generalize w7.setRow p5 (stL true h2 r2 (N + ni)) = w8 at *
   refine nilL ?_
   go_wp2
   go_roundw
   case rel => exact ⟨k + 1, N + ni, h2, r2, by omega, by go_num, hLq.out, ok2, hp4, hp5, hW⟩
   case measure => simp [intOf]; omega
  ·
   obtain rfl : n2 = k := by omega
   have hfl : (ms.take n2).flatten = ms.flatten := by rw [List.take_of_length_le (by omega)]
   have hflq := Lib.hid hfl
   clear hfl
   go_upto_region 7 with fail
   refine wl_lit ?_
   refine runL 23 (.agg (stL true h r N)) rfl (by rfl) (exec_row 92 (.tmp 5) rfl p5 rfl 92 (stL true h r N) _ hp5 (by exact Tryd.underlying92) rfl (szS _ _ _ _ okq.out.hl okq.out.len)) ?_
   simp only [ls0, ls1]
   refine callL 24 rfl (by rfl) (fun K hK => wp_callF 32 #[.agg (stL true h r N)] (by go_simp) (sum_to (kx key 54 ++ (ms.take n2).flatten) h r N hNq.out okq.out (by omega) _ (gl.out _ hW)) ?_)
   rintro e w9 ⟨rfl, bx⟩
   replace hp4 := hp4.below bx hp4.lt
   replace hp5 := hp5.below bx hp5.lt
   replace hW := hW.trans (bx.mono (Nat.le_trans hB0 hW.size))
   clear bx
   refine ⟨_, rfl, hK.out _ _ ?_⟩
   clear hK K
   simp only [ls0, ls1]
   refine runWL 8 (.pointer (some ⟨w9.heap.size, 0, none⟩)) (w9.alloc (.cells (va .u8 (List.replicate 32 0)) 23)) rfl (by rfl) (exec_allocV 23 rfl _ (zv_api_Digest _)) ?_
   simp only [ls0, ls1]
   have lp4_p8 := hp4.lt
   have lp5_p8 := hp5.lt
   have lw_p8 := Nat.le_trans hB0 hW.size
   have hp8 : Blk (w9.alloc (.cells (va .u8 (List.replicate 32 0)) 23)) w9.heap.size 23 (va .u8 (List.replicate 32 0)) := Blk.new _ _ _
   replace hp4 := hp4.alloc (.cells (va .u8 (List.replicate 32 0)) 23)
   replace hp5 := hp5.alloc (.cells (va .u8 (List.replicate 32 0)) 23)
   replace hW := hW.alloc (Nat.le_trans hB0 hW.size) (.cells (va .u8 (List.replicate 32 0)) 23)
   generalize w9.alloc (.cells (va .u8 (List.replicate 32 0)) 23) = w10 at *
   generalize w9.heap.size = p8 at hp8 lw_p8 lp4_p8 lp5_p8 ⊢
   refine runSL (w10.setRow p8 (va .u8 (sha (kx key 54 ++ (ms.take n2).flatten)))) rfl (by rfl) (exec_storeRow 23 (.tmp 8) (.tmp 24) rfl p8 rfl (va .u8 (sha (kx key 54 ++ (ms.take n2).flatten))) rfl 23 (va .u8 (List.replicate 32 0)) hp8 (sz_eq (sz_api_Digest _ (List.length_replicate)) (sz_api_Digest _ (sha_len' _))) (sz_api_Digest _ (sha_len' _)) (va_ones .u8 _)) ?_
   replace hp4 := hp4.rowFar (show p8 ≠ p4 from (by omega)) (va .u8 (sha (kx key 54 ++ (ms.take n2).flatten)))
   replace hp5 := hp5.rowFar (show p8 ≠ p5 from (by omega)) (va .u8 (sha (kx key 54 ++ (ms.take n2).flatten)))
   replace hp8 := hp8.row (va .u8 (sha (kx key 54 ++ (ms.take n2).flatten)))
   replace hW := below_setRow hW lw_p8 (va .u8 (sha (kx key 54 ++ (ms.take n2).flatten)))
   generalize w10.setRow p8 (va .u8 (sha (kx key 54 ++ (ms.take n2).flatten))) = w11 at *
   refine nilL ?_
   go_upto_region 8 with fail
   replace hp4 := hp4.drew
   refine wp_region_held_drew (S := fun wr => Blk wr p5 92 (stL true h r N) ∧ Blk wr p8 23 (va .u8 (sha (kx key 54 ++ (ms.take n2).flatten))) ∧ Below B0 w wr) (by kernel_rfl) ⟨hp5.drew, hp8.drew, below_drewN hW 1⟩ (fun hH => ?_)
   clear hp5 hp8 hW
   obtain ⟨hp5, hp8, hW⟩ := hH
   generalize w11.drew = w12 at *
   refine takeH 5 0 25 (.slice (A) n c) rfl rfl (by kernel_rfl) (by kernel_rfl) (by kernel_rfl) (fun _ _ _ h => h) (Or.inl ⟨by rfl, fun w _ => by go_simp⟩) ⟨hp5, hp8, hW⟩ ?_
   simp only [ls0, ls1]
   refine takeH 4 2 27 (.slice (some ⟨p8, 0, none⟩) 32 32) rfl rfl (by kernel_rfl) (by kernel_rfl) (by kernel_rfl) (fun _ _ _ h => h) (Or.inl ⟨by rfl, fun w _ => by go_simp⟩) ⟨hp5, hp8, hW⟩ ?_
   simp only [ls0, ls1]
   refine wpAnyH_ready (by kernel_rfl) (by simp) (readyCons 3 1 26 rfl rfl (by rfl) (fun K hK => wp_callF 74 #[.slice (A) n c, .int .u8 92] (by go_simp) (padded_any key A n c 92 B (by omega) hk hnc hn _ (gl.out _ hW) (rd.out _ hW) (Nat.le_trans hBB (Nat.le_trans hB0 hW.size))) ?_) AllReadyH.nil)
   rintro e w13 ⟨g2, rfl, hg2, hgg, bx⟩
   have lp4_g2 : p4 < g2 := Nat.lt_of_lt_of_le hp4.lt hgg
   have lp5_g2 : p5 < g2 := Nat.lt_of_lt_of_le hp5.lt hgg
   have lp8_g2 : p8 < g2 := Nat.lt_of_lt_of_le hp8.lt hgg
   have lw_g2 : B0 ≤ g2 := Nat.le_trans (Nat.le_trans hB0 hW.size) hgg
   replace hp4 := hp4.below bx hp4.lt
   replace hp5 := hp5.below bx hp5.lt
   replace hp8 := hp8.below bx hp8.lt
   replace hW := hW.trans (bx.mono (Nat.le_trans hB0 hW.size))
   clear hgg
   clear bx
   refine ⟨_, rfl, hK.out _ _ ⟨hp5, hp8, hW⟩ (fun _ => ?_)⟩
   clear hK K
   simp only [ls0, ls1]
   refine wpAnyH_ready (by kernel_rfl) (by simp) (readyRun 2 3 28 (.slice (some ⟨w13.heap.size, 0, none⟩) 2 2) (w13.alloc (.cells (#[.slice (some ⟨g2, 0, none⟩) 64 64, .slice (some ⟨p8, 0, none⟩) 32 32]) 27)) rfl rfl (by rfl) (exec_bslice 88 2 _ rfl _ (by exact bs_2 (some ⟨g2, 0, none⟩) 64 64 (some ⟨p8, 0, none⟩) 32 32 _)) ⟨hp5.alloc _, hp8.alloc _, hW.alloc (Nat.le_trans hB0 hW.size) _⟩ (fun _ => ?_) AllReadyH.nil)
   simp only [ls0, ls1]
   have lp4_q1 := hp4.lt
   have lp5_q1 := hp5.lt
   have lp8_q1 := hp8.lt
   have lg2_q1 := hg2.lt
   have lw_q1 := Nat.le_trans hB0 hW.size
   have hq1 : Blk (w13.alloc (.cells (#[.slice (some ⟨g2, 0, none⟩) 64 64, .slice (some ⟨p8, 0, none⟩) 32 32]) 27)) w13.heap.size 27 (#[.slice (some ⟨g2, 0, none⟩) 64 64, .slice (some ⟨p8, 0, none⟩) 32 32]) := Blk.new _ _ _
   replace hp4 := hp4.alloc (.cells (#[.slice (some ⟨g2, 0, none⟩) 64 64, .slice (some ⟨p8, 0, none⟩) 32 32]) 27)
   replace hp5 := hp5.alloc (.cells (#[.slice (some ⟨g2, 0, none⟩) 64 64, .slice (some ⟨p8, 0, none⟩) 32 32]) 27)
   replace hp8 := hp8.alloc (.cells (#[.slice (some ⟨g2, 0, none⟩) 64 64, .slice (some ⟨p8, 0, none⟩) 32 32]) 27)
   replace hg2 := hg2.alloc (.cells (#[.slice (some ⟨g2, 0, none⟩) 64 64, .slice (some ⟨p8, 0, none⟩) 32 32]) 27)
   replace hW := hW.alloc (Nat.le_trans hB0 hW.size) (.cells (#[.slice (some ⟨g2, 0, none⟩) 64 64, .slice (some ⟨p8, 0, none⟩) 32 32]) 27)
   generalize w13.alloc (.cells (#[.slice (some ⟨g2, 0, none⟩) 64 64, .slice (some ⟨p8, 0, none⟩) 32 32]) 27) = w14 at *
   generalize w13.heap.size = q1 at hq1 lw_q1 lp4_q1 lp5_q1 lp8_q1 lg2_q1 ⊢
   refine wpAnyH_ready (by kernel_rfl) (by simp) (readyCons 1 4 29 rfl rfl (by rfl) (fun K hK => wp_callF 6 #[.slice (some ⟨q1, 0, none⟩) 2 2] (by go_simp) (ofp [kx key 92, sha (kx key 54 ++ (ms.take n2).flatten)] (kx key 92 ++ sha (kx key 54 ++ (ms.take n2).flatten)) (by simp) 2 2 _ _ (gl.out _ hW) (parts_two hg2.lt hp8.lt hq1 (hg2.readsAll (Nat.lt_succ_self _) (kx_len _ _)) (Nat.le_refl _) (kx_byt _ _ hk (by omega)) (hp8.readsAll (Nat.lt_succ_self _) (sha_len' _)) (Nat.le_refl _) (sha_byt _)) (by omega) (by rw [List.length_append, kx_len, sha_len']; omega)) ?_) AllReadyH.nil)
   rintro e w15 ⟨rfl, bx⟩
   replace hp4 := hp4.below bx hp4.lt
   replace hp5 := hp5.below bx hp5.lt
   replace hp8 := hp8.below bx hp8.lt
   replace hg2 := hg2.below bx hg2.lt
   replace hq1 := hq1.below bx hq1.lt
   replace hW := hW.trans (bx.mono (Nat.le_trans hB0 hW.size))
   clear bx
   refine ⟨_, rfl, hK.out _ _ ⟨hp5, hp8, hW⟩ (fun _ => ?_)⟩
   clear hK K
   simp only [ls0, ls1]
   refine wpAnyH_ready (by kernel_rfl) (by simp) (readyRunS 0 5 (w15.setRow p4 (va .u8 (sha (kx key 92 ++ sha (kx key 54 ++ (ms.take n2).flatten))))) rfl rfl (by rfl) (exec_storeRow 23 (.tmp 4) (.tmp 29) rfl p4 rfl (va .u8 (sha (kx key 92 ++ sha (kx key 54 ++ (ms.take n2).flatten)))) rfl 23 (va .u8 (List.replicate 32 0)) hp4 (sz_eq (sz_api_Digest _ (List.length_replicate)) (sz_api_Digest _ (sha_len' _))) (sz_api_Digest _ (sha_len' _)) (va_ones .u8 _)) ⟨hp5.rowFar (show p4 ≠ p5 from (by omega)) _, hp8.rowFar (show p4 ≠ p8 from (by omega)) _, below_setRow hW lw_p4 _⟩ (fun _ => ?_) AllReadyH.nil)
   replace hp5 := hp5.rowFar (show p4 ≠ p5 from (by omega)) (va .u8 (sha (kx key 92 ++ sha (kx key 54 ++ (ms.take n2).flatten))))
   replace hp8 := hp8.rowFar (show p4 ≠ p8 from (by omega)) (va .u8 (sha (kx key 92 ++ sha (kx key 54 ++ (ms.take n2).flatten))))
   replace hg2 := hg2.rowFar (show p4 ≠ g2 from (by omega)) (va .u8 (sha (kx key 92 ++ sha (kx key 54 ++ (ms.take n2).flatten))))
   replace hq1 := hq1.rowFar (show p4 ≠ q1 from (by omega)) (va .u8 (sha (kx key 92 ++ sha (kx key 54 ++ (ms.take n2).flatten))))
   replace hp4 := hp4.row (va .u8 (sha (kx key 92 ++ sha (kx key 54 ++ (ms.take n2).flatten))))
   replace hW := below_setRow hW lw_p4 (va .u8 (sha (kx key 92 ++ sha (kx key 54 ++ (ms.take n2).flatten))))
   generalize w15.setRow p4 (va .u8 (sha (kx key 92 ++ sha (kx key 54 ++ (ms.take n2).flatten)))) = w16 at *
   refine wpAnyH_done (by kernel_rfl) ?_ _
   go_wp2_with fail
   exact bodyPost_ret (results_cell_row rfl _ _ p4 23 (va .u8 (sha (kx key 92 ++ sha (kx key 54 ++ (ms.take n2).flatten)))) (0, 0) _ rfl hp4 (by exact Tryd.underlying23) rfl (sz_api_Digest _ (sha_len' _))) rfl ⟨by rw [hm, hflq.out], hW⟩
end Go.Proofs.YtcdgcaljlmondaaDoor
/-
  The walk of caissonref02.Sum. (Printed by mk03.py.)
-/
namespace Go.Proofs.YtcdgcaljlmondaaDoor
set_option maxRecDepth 16384
open Go.RowKit Sh
theorem byt_one' (x : Nat) (hx : x < 256) : Byt [x] := fun y hy => by simp at hy; omega
end Go.Proofs.YtcdgcaljlmondaaDoor
/-
  The plain law of derived keys; the walks of derives.parts and of its iterator. (Printed by mkdrv04.py.)
-/
namespace Go.Proofs.YtcdgcaljlmondaaDoor
set_option maxRecDepth 16384
open Go.RowKit Sh
section
variable {P : Program} {n : Nat}
/-- a region in order outside of rounds: its head in the plain calculus, the rest in the fenced one -/
theorem listIn_pre {ops : Array Oper} {Q : Exit → Act → World → Prop} (l2 : List Oper) : ∀ (l1 : List Oper) (a : Act) (w : World),
    wpList P ops (Exit.then (fun a w => wpListIn Fence.wide n P ops Q l2 a w) (fun _ _ _ => False)) l1 a w → wpListIn Fence.wide n P ops Q (l1 ++ l2) a w
  | [], _, _, h => h
  | o :: l, a, w, h => by
    unfold wpList at h
    rw [List.cons_append]
    unfold wpListIn
    by_cases hw : Region.wanted o (yielded ops a.tmps) = true
    · rw [if_pos hw] at h ⊢
      rcases h with h | h
      · exact opIn_of_op (fun a w hh => listIn_pre l2 l a w hh) (fun _ _ _ hh => hh.elim) (fun ⟨a, w, hh⟩ => hh.elim) h
      · obtain ⟨a, w, hh⟩ := h.2
        exact hh.elim
    · rw [if_neg hw] at h ⊢
      exact ⟨fun _ _ => trivial, listIn_pre l2 l _ w h⟩
theorem wl_split (k : Nat) {id : Nat} {l : List Oper} {Q : Exit → Act → World → Prop} {a : Act} {w : World} (h : WL P l.toArray (Exit.then (fun a w => wpListIn Fence.wide n P l.toArray Q (l.drop k) a w) (fun _ _ _ => False)) (l.take k) a w) :
  (Code.region id l.toArray false).wp P Q a w :=
 (wpIn_wide (n := n)).1 (wpIn_region_lit (by
  have := listIn_pre (l.drop k) (l.take k) a w h.out
  rwa [List.take_append_drop] at this))
theorem listIn_all {ops : Array Oper} {Q : Exit → Act → World → Prop} (l : List Oper) (a : Act) (w : World) (h : WL P ops (Exit.then (fun a w => Q .normal a w) (fun _ _ _ => False)) l a w) : wpListIn Fence.wide n P ops Q l a w := by
 have := listIn_pre (n := n) (P := P) (ops := ops) (Q := Q) [] l a w h.out
 rwa [List.append_nil] at this
end
/-- the k-th part, the 0th is empty -/
def tk (key info : List Nat) : Nat → List Nat
 | 0 => []
 | k + 1 => hm key (tk key info k ++ (info ++ [k + 1]))
theorem tk_byt (key info : List Nat) (k : Nat) : Byt (tk key info k) := by
 cases k with
 | zero => exact Byt.nil
 | succ k => exact hm_byt _ _
theorem tk_len (key info : List Nat) (k : Nat) : (tk key info (k + 1)).length = 32 := hm_len _ _
theorem tk_le (key info : List Nat) (k : Nat) : (tk key info k).length ≤ 32 := by
 cases k with
 | zero => simp [tk]
 | succ k => rw [tk_len]; exact Nat.le_refl _
/-- the slice reads the bytes l; its block, if it has one, is a digest's from lo on -/
def LastIs (W : World) (lo : Nat) (A : Option Addr) (n : Nat) (l : List Nat) : Prop :=
 (A = none ∧ n = 0 ∧ l = []) ∨ ∃ g, A = some ⟨g, 0, none⟩ ∧ lo ≤ g ∧ n = 32 ∧ l.length = 32 ∧ Blk W g 23 (va .u8 l)
theorem LastIs.reads {W : World} {lo n : Nat} {A : Option Addr} {l : List Nat} (h : LastIs W lo A n l) : Reads W W.heap.size 1 A n (nv .u8 l) := by
  rcases h with ⟨rfl, rfl, rfl⟩ | ⟨g, rfl, _, rfl, hl, hb⟩
  · exact Reads.none_
  · exact hb.readsAll hb.lt hl
theorem LastIs.le {W : World} {lo n : Nat} {A : Option Addr} {l : List Nat} (h : LastIs W lo A n l) : n ≤ 32 := by
 rcases h with ⟨rfl, rfl, rfl⟩ | ⟨g, rfl, _, rfl, hl, hb⟩ <;> omega
theorem Blk.heldD {lo g : Nat} {A B : World} {T : TypeId} {cs : Array Value} (h : Blk A g T cs) (hh : Holds lo A B) (hg : lo ≤ g) : Blk B g T cs := hh.cells _ _ hg h rfl
theorem macof_to (key : List Nat) (A : Option Addr) (n c B : Nat) (ms : List (List Nat)) (t : List Nat) (ht : hm key ms.flatten = t) (A2 : Option Addr) (n2 c2 B2 : Nat) (hk : Byt key) (hnc : n ≤ c) (hn : n < 100000) (hn2 : n2 < 1000) (hlen : ms.flatten.length < 100000) (w : World) (hg : Glob w)
  (hr : Reads w B 1 A n (nv .u8 key)) (hB : B ≤ w.heap.size) (hp : Parts w B2 A2 n2 ms) (hB2 : B2 ≤ w.heap.size) :
  Calls Tryd.prog 56 #[.slice A n c, .slice A2 n2 c2] w fun e w' => e = .returned (.agg (va .u8 t)) ∧ Below w.heap.size w w' := by
 subst ht; exact macof_any key A n c B ms A2 n2 c2 B2 hk hnc hn hn2 hlen w hg hr hB hp hB2

set_option maxRecDepth 8000 in
set_option maxHeartbeats 4000000 in
theorem parts_ends (key info : List Nat) (A : Option Addr) (n c B : Nat) (A2 : Option Addr) (n2 c2 B2 : Nat) (hk : Byt key) (hi : Byt info) (hnc : n ≤ c) (hn : n < 1000) (hnc2 : n2 ≤ c2) (hn2 : n2 < 1000) (v : World) (B00 : Nat)
    (rv : Hid (∀ W, Below B00 v W → Reads W B 1 A n (nv .u8 key))) (rv2 : Hid (∀ W, Below B00 v W → Reads W B2 1 A2 n2 (nv .u8 info))) (gv : Hid (∀ W, Below B00 v W → Glob W)) (hB : B ≤ B00) (hB2 : B2 ≤ B00) (hBv : B00 ≤ v.heap.size)
    (p1 p2 lo : Nat) (w0 : World) (hp1 : Blk w0 p1 27 #[.slice A n c]) (hp2 : Blk w0 p2 27 #[.slice A2 n2 c2]) (hl1 : lo ≤ p1) (hl2 : lo ≤ p2) :
    EndlessG Tryd.prog 81 #[.pointer (some ⟨p1, 0, none⟩), .pointer (some ⟨p2, 0, none⟩)] (fun k => .agg (va .u8 (tk key info (k + 1)))) lo 255 (fun W => Below B00 v W) w0 := by
  intro m l N J Jx hNM hJb hG hY w hH0 h0
  have hl2n := (rv2.out v (Below.refl _ _)).len
  replace hp1 := hp1.heldD hH0 hl1
  replace hp2 := hp2.heldD hH0 hl2
  have hlw : lo ≤ w.heap.size := Nat.le_trans hl1 (Nat.le_of_lt hp1.lt)
  have hYq := Lib.hid hY
  have hJbq := Lib.hid hJb
  have hGq := Lib.hid hG
  clear hY hJb hG hH0
  refine callsIn_of_wp Tryd.func81 rfl trivial ?_
  refine (wpIn_wide (n := m)).2 ?_
  simp only [Tryd.ntmps81, List.size_toArray, List.length_cons, List.length_nil, Nat.reduceAdd, Nat.reduceSub, Array.replicate_succ, Array.replicate_zero, List.push_toArray, List.append_toArray, List.nil_append, List.cons_append]
  go_upto_region 0 with fail
  refine wl_lit ?_
  refine runL 4 (.slice none 0 0) rfl (by rfl) (by go_simp) ?_
  simp only [ls0, ls1]
  refine nilL ?_
  go_upto_region 1 with fail
  refine wl_lit ?_
  refine runL 5 (.int .i64 1) rfl (by rfl) (by go_simp) ?_
  simp only [ls0, ls1]
  refine nilL ?_
  go_wp2
  go_loopw [4, 5] (fun x y wr => ∃ (k : Nat) (Al : Option Addr) (nl : Nat), J k wr ∧ k ≤ 255 ∧ y = .int .i64 ((k + 1 : Nat) : Int) ∧ x = .slice Al nl nl ∧ LastIs wr lo Al nl (tk key info k) ∧ Blk wr p1 27 #[.slice A n c] ∧ Blk wr p2 27 #[.slice A2 n2 c2]) (fun _ y _ => 256 - (intOf y).toNat)
  case atStart => exact ⟨0, none, 0, h0, by omega, rfl, rfl, .inl ⟨rfl, rfl, rfl⟩, hp1, hp2⟩
  case round =>
    clear hp1 hp2 h0 hlw
    obtain ⟨k, Al, nl, hj, -, rfl, rfl, hla, hp1, hp2⟩ := hrel
    obtain ⟨hkN, -⟩ := hYq.out k _ hj
    have hbel := hGq.out k _ hj
    have hlw : lo ≤ wr.heap.size := Nat.le_trans hl1 (Nat.le_of_lt hp1.lt)
    generalize wr = w at *
    obtain ⟨i, hik⟩ : ∃ i, k + 1 = i := ⟨_, rfl⟩
    have hi256 : i < 256 := by omega
    have hiI : (i : Int) < 256 := by omega
    have hw8 : IntKind.u8.wrap (i : Int) = (i : Int) := by simp [IntKind.wrap, IntKind.bits, IntKind.signed]; omega
    have hwi : IntKind.i64.wrap ((i : Int) + 1) = ((i + 1 : Nat) : Int) := by rw [IntWalk.i64_in _ (by omega)]; omega
    obtain ⟨t, ht⟩ : ∃ t, tk key info i = t := ⟨_, rfl⟩
    have htl : t.length = 32 := by rw [← ht, ← hik]; exact tk_len _ _ _
    have htb : Byt t := by rw [← ht]; exact tk_byt _ _ _
    have hne : hm key ([tk key info k, info, [i]].flatten) = t := by rw [← ht, ← hik, tk]; simp
    obtain ⟨la, hlae⟩ : ∃ x, tk key info k = x := ⟨_, rfl⟩
    have hlb : Byt la := by rw [← hlae]; exact tk_byt _ _ _
    have hll : la.length ≤ 32 := by rw [← hlae]; exact tk_le _ _ _
    rw [hlae] at hne hla
    have hneq := Lib.hid hne
    have htq := Lib.hid ht
    have hkq := Lib.hid hik
    obtain ⟨B0, hB0e⟩ : ∃ b, w.heap.size = b := ⟨_, rfl⟩
    have hW : Below B0 w w := by rw [← hB0e]; exact Below.refl _ _
    have hB0 : B0 ≤ w.heap.size := by omega
    have hBB0 : B00 ≤ B0 := by rw [← hB0e]; exact Nat.le_trans hBv hbel.size
    have hBB : B ≤ B0 := Nat.le_trans hB hBB0
    have hBB2 : B2 ≤ B0 := Nat.le_trans hB2 hBB0
    have rd := reads_of (rv.out _ hbel) hBB
    have rd2 := reads_of (rv2.out _ hbel) hBB2
    have gl := glob_of (gv.out _ hbel) hB0e
    have rl := reads_of (B0 := B0) hla.reads (by omega)
    have hnl := hla.le
    have hlaB : w.heap.size ≤ B0 := by omega
    rw [hB0e] at rl hlw
    have hB0q := Lib.hid hB0e
    rw [hik]
    clear hB0e hne ht hik hlae hla hbel
    go_upto_region 4 with fail
    refine wl_lit ?_
    refine runL 11 (.slice (A) n c) rfl (by rfl) (exec_cell 27 (.tmp 1) rfl p1 0 rfl (.slice (A) n c) _ Tryd.underlying27 rfl (hp1.cellIs 0 rfl)) ?_
    simp only [ls0, ls1]
    refine runL 12 (.slice (Al) nl nl) rfl (by rfl) (by go_simp) ?_
    simp only [ls0, ls1]
    refine runL 13 (.slice (A2) n2 c2) rfl (by rfl) (exec_cell 27 (.tmp 2) rfl p2 0 rfl (.slice (A2) n2 c2) _ Tryd.underlying27 rfl (hp2.cellIs 0 rfl)) ?_
    simp only [ls0, ls1]
    refine runL 14 (.int .i64 (i : Int)) rfl (by rfl) (by go_simp) ?_
    simp only [ls0, ls1]
    refine runL 15 (.int .u8 ((i : Nat) : Int)) rfl (by rfl) (by go_simp) ?_
    simp only [ls0, ls1]
    refine runWL 16 (.slice (some ⟨w.heap.size, 0, none⟩) 1 1) (w.alloc (.cells (va .u8 ([i])) 5)) rfl (by rfl) (exec_bslice 27 1 _ rfl _ (by exact bs_b1 i _)) ?_
    simp only [ls0, ls1]
    have lp1_q1 := hp1.lt
    have lp2_q1 := hp2.lt
    have lw_q1 := Nat.le_trans hB0 hW.size
    have hq1 : Blk (w.alloc (.cells (va .u8 ([i])) 5)) w.heap.size 5 (va .u8 ([i])) := Blk.new _ _ _
    replace hp1 := hp1.alloc (.cells (va .u8 ([i])) 5)
    replace hp2 := hp2.alloc (.cells (va .u8 ([i])) 5)
    replace hW := hW.alloc (Nat.le_trans hB0 hW.size) (.cells (va .u8 ([i])) 5)
    generalize w.alloc (.cells (va .u8 ([i])) 5) = w1 at *
    generalize w.heap.size = q1 at hq1 lw_q1 lp1_q1 lp2_q1 ⊢
    refine runWL 17 (.slice (some ⟨w1.heap.size, 0, none⟩) 3 3) (w1.alloc (.cells (#[.slice (Al) nl nl, .slice (A2) n2 c2, .slice (some ⟨q1, 0, none⟩) 1 1]) 27)) rfl (by rfl) (exec_bslice 88 3 _ rfl _ (by exact bs_3 (Al) nl nl (A2) n2 c2 (some ⟨q1, 0, none⟩) 1 1 _)) ?_
    simp only [ls0, ls1]
    have lp1_q2 := hp1.lt
    have lp2_q2 := hp2.lt
    have lq1_q2 := hq1.lt
    have lw_q2 := Nat.le_trans hB0 hW.size
    have hq2 : Blk (w1.alloc (.cells (#[.slice (Al) nl nl, .slice (A2) n2 c2, .slice (some ⟨q1, 0, none⟩) 1 1]) 27)) w1.heap.size 27 (#[.slice (Al) nl nl, .slice (A2) n2 c2, .slice (some ⟨q1, 0, none⟩) 1 1]) := Blk.new _ _ _
    replace hp1 := hp1.alloc (.cells (#[.slice (Al) nl nl, .slice (A2) n2 c2, .slice (some ⟨q1, 0, none⟩) 1 1]) 27)
    replace hp2 := hp2.alloc (.cells (#[.slice (Al) nl nl, .slice (A2) n2 c2, .slice (some ⟨q1, 0, none⟩) 1 1]) 27)
    replace hq1 := hq1.alloc (.cells (#[.slice (Al) nl nl, .slice (A2) n2 c2, .slice (some ⟨q1, 0, none⟩) 1 1]) 27)
    replace hW := hW.alloc (Nat.le_trans hB0 hW.size) (.cells (#[.slice (Al) nl nl, .slice (A2) n2 c2, .slice (some ⟨q1, 0, none⟩) 1 1]) 27)
    generalize w1.alloc (.cells (#[.slice (Al) nl nl, .slice (A2) n2 c2, .slice (some ⟨q1, 0, none⟩) 1 1]) 27) = w2 at *
    generalize w1.heap.size = q2 at hq2 lw_q2 lp1_q2 lp2_q2 lq1_q2 ⊢
    refine callL 18 rfl (by rfl) (fun K hK => wp_callF 56 #[.slice (A) n c, .slice (some ⟨q2, 0, none⟩) 3 3] (by go_simp) (macof_to key A n c _ [la, info, [i]] t hneq.out _ 3 3 _ hk hnc (by omega) (by omega) (by simp; omega) _ (gl.out _ hW) (rd.out _ hW) (Nat.le_trans hBB (Nat.le_trans hB0 hW.size)) (parts_three (Nat.le_trans (Nat.le_refl B0) (Nat.le_trans hB0 hW.size)) (Nat.le_trans hBB2 (Nat.le_trans hB0 hW.size)) hq1.lt hq2 (rl.out _ hW) (Nat.le_refl _) hlb (rd2.out _ hW) hnc2 hi (hq1.readsAll (Nat.lt_succ_self _) (rfl)) (Nat.le_refl _) (byt_one' _ (by omega))) (Nat.le_refl _)) ?_)
    rintro e w3 ⟨rfl, bx⟩
    replace hp1 := hp1.below bx hp1.lt
    replace hp2 := hp2.below bx hp2.lt
    replace hq1 := hq1.below bx hq1.lt
    replace hq2 := hq2.below bx hq2.lt
    replace hW := hW.trans (bx.mono (Nat.le_trans hB0 hW.size))
    clear bx
    refine ⟨_, rfl, hK.out _ _ ?_⟩
    clear hK K
    simp only [ls0, ls1]
    refine runWL 6 (.pointer (some ⟨w3.heap.size, 0, none⟩)) (w3.alloc (.cells (va .u8 (List.replicate 32 0)) 23)) rfl (by rfl) (exec_allocV 23 rfl _ (zv_api_Digest _)) ?_
    simp only [ls0, ls1]
    have lp1_p6 := hp1.lt
    have lp2_p6 := hp2.lt
    have lq1_p6 := hq1.lt
    have lq2_p6 := hq2.lt
    have lw_p6 := Nat.le_trans hB0 hW.size
    have hp6 : Blk (w3.alloc (.cells (va .u8 (List.replicate 32 0)) 23)) w3.heap.size 23 (va .u8 (List.replicate 32 0)) := Blk.new _ _ _
    replace hp1 := hp1.alloc (.cells (va .u8 (List.replicate 32 0)) 23)
    replace hp2 := hp2.alloc (.cells (va .u8 (List.replicate 32 0)) 23)
    replace hq1 := hq1.alloc (.cells (va .u8 (List.replicate 32 0)) 23)
    replace hq2 := hq2.alloc (.cells (va .u8 (List.replicate 32 0)) 23)
    replace hW := hW.alloc (Nat.le_trans hB0 hW.size) (.cells (va .u8 (List.replicate 32 0)) 23)
    generalize w3.alloc (.cells (va .u8 (List.replicate 32 0)) 23) = w4 at *
    generalize w3.heap.size = p6 at hp6 lw_p6 lp1_p6 lp2_p6 lq1_p6 lq2_p6 ⊢
    refine runSL (w4.setRow p6 (va .u8 (t))) rfl (by rfl) (exec_storeRow 23 (.tmp 6) (.tmp 18) rfl p6 rfl (va .u8 (t)) rfl 23 (va .u8 (List.replicate 32 0)) hp6 (sz_eq (sz_api_Digest _ (List.length_replicate)) (sz_api_Digest _ (htl))) (sz_api_Digest _ (htl)) (va_ones .u8 _)) ?_
    replace hp1 := hp1.rowFar (show p6 ≠ p1 from (by omega)) (va .u8 (t))
    replace hp2 := hp2.rowFar (show p6 ≠ p2 from (by omega)) (va .u8 (t))
    replace hq1 := hq1.rowFar (show p6 ≠ q1 from (by omega)) (va .u8 (t))
    replace hq2 := hq2.rowFar (show p6 ≠ q2 from (by omega)) (va .u8 (t))
    replace hp6 := hp6.row (va .u8 (t))
    replace hW := below_setRow hW lw_p6 (va .u8 (t))
    generalize w4.setRow p6 (va .u8 (t)) = w5 at *
    refine nilL ?_
    have hl6 : lo ≤ p6 := Nat.le_trans hlw lw_p6
    have hj6 := hJbq.out k _ _ hj (by rw [hB0q.out]; exact hW)
    obtain ⟨-, fn, tmps, assign, body, hy, hR⟩ := hYq.out k _ hj6
    simp only [hkq.out, htq.out] at hy
    clear hj hj6
    go_upto_region 5 with fail
    refine wl_split (n := m) 2 ?_
    simp only [List.take_succ_cons, List.take_zero]
    refine runL 19 (.func (.yield l) #[] #[]) rfl (by rfl) (by go_simp) ?_
    simp only [ls0, ls1]
    refine runL 20 (.agg (va .u8 (t))) rfl (by rfl) (exec_row 23 (.tmp 6) rfl p6 rfl 23 (va .u8 (t)) _ hp6 (by exact Tryd.underlying23) rfl (sz_api_Digest _ (htl))) ?_
    simp only [ls0, ls1]
    refine nilL ?_
    simp only [Exit.then, List.drop_succ_cons, List.drop_zero]
    unfold wpListIn
    rw [if_pos (by rfl)]
    refine ⟨fun _ _ => trivial, ?_⟩
    go_simp
    refine ⟨by simp [Fence.wide], hR.mono ?_⟩
    clear hR hy
    rintro e w9 (⟨rfl, hj, hh⟩ | ⟨rfl, hx⟩)
    · replace hp1 := hp1.heldD hh hl1
      replace hp2 := hp2.heldD hh hl2
      replace hp6 := hp6.heldD hh hl6
      have hjq := Lib.hid hj
      clear hj
      refine listIn_all _ _ _ ?_
      refine runL 22 (.bool false) rfl (by rfl) (by go_simp) ?_
      simp only [ls0, ls1]
      refine nilL ?_
      simp only [Exit.then]
      go_upto_region 6 with fail
      refine wl_lit ?_
      refine runL 23 (.slice (some ⟨p6, 0, none⟩) 32 32) rfl (by rfl) (by go_simp) ?_
      simp only [ls0, ls1]
      refine runL 4 (.slice (some ⟨p6, 0, none⟩) 32 32) rfl (by rfl) (by go_simp) ?_
      simp only [ls0, ls1]
      refine nilL ?_
      go_wp2
      go_roundw
      case rel => exact ⟨k + 1, some ⟨p6, 0, none⟩, 32, hjq.out, by omega, (by rw [hkq.out]; simp), rfl, .inr ⟨p6, rfl, hl6, rfl, (by rw [hkq.out, htq.out]; exact htl), (by rw [hkq.out, htq.out]; exact hp6)⟩, hp1, hp2⟩
      case measure => simp [intOf]; omega
    · refine listIn_all _ _ _ ?_
      refine runL 22 (.bool true) rfl (by rfl) (by go_simp) ?_
      simp only [ls0, ls1]
      refine nilL ?_
      simp only [Exit.then]
      go_wp2
    
      refine bodyPost_ret (results_none rfl _ _ _) rfl ?_
      exact ⟨⟨_, rfl⟩, hx⟩
end Go.Proofs.YtcdgcaljlmondaaDoor
