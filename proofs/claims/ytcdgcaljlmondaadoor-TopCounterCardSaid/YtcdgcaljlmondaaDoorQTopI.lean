/-
  The walk of caissontop.TopCounter. (Printed by mktop4.py.)
-/
import Derived.Test.YtcdgcaljlmondaaDoorZ19
namespace Go.Proofs.YtcdgcaljlmondaaDoor
set_option maxRecDepth 16384
open Go.RowKit Sh
/-- the first k blocks of the key stream -/
def strm (key : List Nat) (s c : Nat) : Nat → List Nat
 | 0 => []
 | k + 1 => strm key s c k ++ sbl key s c k
theorem strm_len (key : List Nat) (s c : Nat) : ∀ k, (strm key s c k).length = 16 * k
 | 0 => rfl
 | k + 1 => by rw [strm, List.length_append, strm_len key s c k, sbl_len]; omega
theorem strm_byt {key : List Nat} (h : Byt key) (s c : Nat) : ∀ k, Byt (strm key s c k)
 | 0 => Byt.nil
 | k + 1 => (strm_byt h s c k).app (sbl_byt key s c k h)
theorem strm_get (key : List Nat) (s c : Nat) : ∀ k i, i < 16 * k → (strm key s c k).getD i 0 = (sbl key s c (i / 16)).getD (i % 16) 0
  | 0, i, h => by omega
  | k + 1, i, h => by
    rw [strm, List.getD_eq_getElem?_getD]
    by_cases hi : i < 16 * k
    · rw [List.getElem?_append_left (by rw [strm_len]; exact hi), ← List.getD_eq_getElem?_getD]
      exact strm_get key s c k i hi
    · rw [List.getElem?_append_right (by rw [strm_len]; omega), strm_len, ← List.getD_eq_getElem?_getD, show i / 16 = k by omega, show i % 16 = i - 16 * k by omega]
theorem kxor_strm (key : List Nat) (s c n : Nat) (d : List Nat) (hd : d.length = n) (hn : n ≤ 64) : kxor key s c 0 d = xorB d ((strm key s c 4).take n) := by
 apply ext_getD (by rw [kxor_len, xorB_len])
 intro i hi
 rw [kxor_len] at hi
 have ht : ((strm key s c 4).take n).getD i 0 = (strm key s c 4).getD i 0 := by
  rw [List.getD_eq_getElem?_getD, List.getD_eq_getElem?_getD, List.getElem?_take_of_lt (by omega)]
 rw [kxor, getD_map_range _ _ _ hi, xb, xorB, xorl, getD_map_range _ _ _ hi, if_pos hi, ht, strm_get key s c 4 i (by omega), Nat.zero_add]
theorem xor_anyT (key : List Nat) (s c n : Nat) (d r : List Nat) (hrr : kxor key s c 0 d = r) (hkl : key.length = 16) (hkb : Byt key) (hs : s < 4294967296) (hdl : d.length = n) (hdb : Byt d) (hlim : n ≤ 64) (A : Option Addr) (cc B : Nat) (w : World) (hr : Reads w B 1 A n (nv .u8 d)) (hBw : B ≤ w.heap.size) :
    Calls Tryd.prog 16 #[.agg (va .u8 key), .agg (noV s c), .int .i64 0, .slice A n cc] w fun e' w' => ∃ A2, e' = .returned (.tuple #[.slice A2 n n, .int .i64 0]) ∧ Own w' w.heap.size A2 n n r ∧ Below w.heap.size w w' := by
  subst hrr
  by_cases hn : 0 < n
  · refine (xor_ok key s c 0 n d hkl hkb hs hdl hdb hn (by omega) A cc B w hr hBw).mono ?_
    rintro e w' ⟨g, rfl, hg, hgg, bx⟩
    exact ⟨_, rfl, hg.owned (kxor_len.trans hdl) hgg (by unfold maxLen; omega), bx⟩
  · obtain rfl : n = 0 := by omega
    obtain rfl : d = [] := List.eq_nil_of_length_eq_zero hdl
    refine (xor_none key s c 0 0 0 cc hkl (by unfold chkS; rw [if_neg (by omega), if_neg (by omega)]) (.inr rfl) (by omega) (by omega) A w).mono ?_
    rintro e w' ⟨rfl, bx⟩
    exact ⟨_, rfl, Own.nil _ _, bx⟩
theorem xor_toT (l m r : List Nat) (hr0 : xorB l m = r) (A A2 : Option Addr) (n c c2 B B2 : Nat) (hl : Byt l) (hm : Byt m) (hn : n ≤ 64) (w : World) (hr : Reads w B 1 A n (nv .u8 l)) (hr2 : Reads w B2 1 A2 n (nv .u8 m)) (hB : B ≤ w.heap.size) (hB2 : B2 ≤ w.heap.size) :
  Calls Tryd.prog 17 #[.slice A n c, .slice A2 n c2] w fun e w' => ∃ g, e = .returned (.tuple #[.slice (some ⟨g, 0, none⟩) n n, .int .i64 0]) ∧ Blk w' g 5 (va .u8 r) ∧ w.heap.size ≤ g ∧ Below w.heap.size w w' := by
 subst hr0; exact xor_any l m A A2 n c c2 w.heap.size hl hm (by omega) w (hr.more hB) (hr2.more hB2) (Nat.le_refl _)
theorem dec_to (key b : List Nat) (s c k : Nat) (_hkl : key.length = 16) (hkb : Byt key) (hb : sbl key s c k = b) (w : World) :
  Calls Tryd.prog 13 #[.agg (va .u8 (Ci.exL key)), .agg (va .u8 b)] w fun e w' => e = .returned (.agg (va .u8 (cbl s c k))) ∧ Below w.heap.size w w' := by
 subst hb
 have h := decrypt_any (Ci.exL key) (sbl key s c k) (Ci.exL_len key) (sbl_len _ _ _ _) (Ci.exL_byt hkb) (sbl_byt key s c k hkb) w
 rwa [sbl, Ci.dec_enc (Ci.exL key) (cbl s c k) (Ci.exL_len key) (cbl_len _ _ _) (Ci.exL_byt hkb) (cbl_byt _ _ _)] at h
theorem Own.preT {w : World} {B0 n c m : Nat} {A : Option Addr} {l : List Nat} (h : Own w B0 A n c l) (hm : m ≤ n) : Reads w w.heap.size 1 A m (nv .u8 (l.take m)) := by
  have h1 := h.reads
  refine ⟨by rw [nv_len, List.length_take, h.len]; omega, fun hp => ?_⟩
  obtain ⟨ad, rfl, hb, hc⟩ := h1.2 (by omega)
  refine ⟨ad, rfl, hb, fun j v hv => hc j v ?_⟩
  rw [← nv_take, List.getElem?_take] at hv
  split at hv
  · exact hv
  · cases hv

theorem sblock_toT (key : List Nat) (s c k : Nat) (E : List Nat) (hE : sbl key s c k = E) (hkl : key.length = 16) (hkb : Byt key) (hs : s < 4294967296) (hk : k < 4294967296) (w : World) :
  Calls Tryd.prog 12 #[.agg (va .u8 key), .agg (noV s c), .int .u32 (k : Int)] w fun e w' => e = .returned (.agg (va .u8 E)) ∧ Below w.heap.size w w' := by
 subst hE; exact sblock_any key s c k hkl hkb hs hk w

set_option maxRecDepth 8000 in
set_option maxHeartbeats 4000000 in
theorem topCounter_any (key : List Nat) (s c : Nat) (hkl : key.length = 16) (hkb : Byt key) (hs : s < 4294967296) (A : Option Addr) (n cc B : Nat) (d : List Nat) (hdb : Byt d) (_hnc : n ≤ cc) (w : World) (hg : Glob w)
  (hr : Reads w B 1 A n (nv .u8 d)) (hB : B ≤ w.heap.size) :
  Calls Tryd.prog 4 #[.agg (va .u8 key), .agg (noV s c), .slice A n cc] w fun e' w' => e' = .returned (.bool true) ∧ Below w.heap.size w w' := by
 obtain ⟨B0, hB0e⟩ : ∃ b, w.heap.size = b := ⟨_, rfl⟩
 rw [hB0e]
 have hW : Below B0 w w := by rw [← hB0e]; exact Below.refl _ _
 have hB0 : B0 ≤ w.heap.size := by omega
 have gl := glob_of hg hB0e
 clear hg
 have hBB : B ≤ B0 := by omega
 have rd := reads_of hr hBB
 have hdl := hr.len
 clear hr
 have hB0q := Lib.hid hB0e
 clear hB0e
 by_cases h1 : 64 < n
 ·
  have h1I : (64 : Int) < (n : Int) := by omega
  go_enter Tryd.func4, Tryd.ntmps4
  go_upto_region 0 with fail
  refine wl_lit ?_
  refine runWL 3 (.pointer (some ⟨w.heap.size, 0, none⟩)) (w.alloc (.cells (va .u8 (key)) 37)) rfl (by rfl) (exec_box 37 (.tmp 0) rfl (.agg (va .u8 (key))) rfl) ?_
  simp only [ls0, ls1]
  have lw_p3 := Nat.le_trans hB0 hW.size
  have hp3 : Blk (w.alloc (.cells (va .u8 (key)) 37)) w.heap.size 37 (va .u8 (key)) := Blk.new _ _ _
  replace hW := hW.alloc (Nat.le_trans hB0 hW.size) (.cells (va .u8 (key)) 37)
  generalize w.alloc (.cells (va .u8 (key)) 37) = w1 at *
  generalize w.heap.size = p3 at hp3 lw_p3  ⊢
  refine runWL 4 (.pointer (some ⟨w1.heap.size, 0, none⟩)) (w1.alloc (.cells (noV s c) 40)) rfl (by rfl) (exec_box 40 (.tmp 1) rfl (.agg (noV s c)) rfl) ?_
  simp only [ls0, ls1]
  have lp3_p4 := hp3.lt
  have lw_p4 := Nat.le_trans hB0 hW.size
  have hp4 : Blk (w1.alloc (.cells (noV s c) 40)) w1.heap.size 40 (noV s c) := Blk.new _ _ _
  replace hp3 := hp3.alloc (.cells (noV s c) 40)
  replace hW := hW.alloc (Nat.le_trans hB0 hW.size) (.cells (noV s c) 40)
  generalize w1.alloc (.cells (noV s c) 40) = w2 at *
  generalize w1.heap.size = p4 at hp4 lw_p4 lp3_p4 ⊢
  refine runL 6 (.bool false) rfl (by rfl) (by go_simp) ?_
  simp only [ls0, ls1]
  refine nilL ?_
  go_upto_region 1 with fail
  refine wl_lit ?_
  refine runL 16 (.slice (A) n cc) rfl (by rfl) (by go_simp) ?_
  simp only [ls0, ls1]
  refine runL 17 (.int .i64 (n)) rfl (by rfl) (by go_simp) ?_
  simp only [ls0, ls1]
  refine runL 18 (.bool true) rfl (by rfl) (by go_simp) ?_
  simp only [ls0, ls1]
  refine nilL ?_
  go_upto_region 2 with fail
  refine wl_lit ?_
  refine callL 19 rfl (by rfl) (fun K hK => wp_callF 5 #[] (by go_simp) (live11_any _ (gl.out _ hW)) ?_)
  rintro e w3 ⟨rfl, bx⟩
  replace hp3 := hp3.below bx hp3.lt
  replace hp4 := hp4.below bx hp4.lt
  replace hW := hW.trans (bx.mono (Nat.le_trans hB0 hW.size))
  clear bx
  refine ⟨_, rfl, hK.out _ _ ?_⟩
  clear hK K
  simp only [ls0, ls1]
  refine runL 6 (.bool true) rfl (by rfl) (by go_simp) ?_
  simp only [ls0, ls1]
  refine nilL ?_
  go_wp2_with fail
  go_ret
  exact ⟨rfl, hW⟩
 have h1I : ¬ (64 : Int) < (n : Int) := by omega
 have hn64 : n ≤ 64 := by omega
 go_enter Tryd.func4, Tryd.ntmps4
 go_upto_region 0 with fail
 refine wl_lit ?_
 refine runWL 3 (.pointer (some ⟨w.heap.size, 0, none⟩)) (w.alloc (.cells (va .u8 (key)) 37)) rfl (by rfl) (exec_box 37 (.tmp 0) rfl (.agg (va .u8 (key))) rfl) ?_
 simp only [ls0, ls1]
 have lw_p3 := Nat.le_trans hB0 hW.size
 have hp3 : Blk (w.alloc (.cells (va .u8 (key)) 37)) w.heap.size 37 (va .u8 (key)) := Blk.new _ _ _
 replace hW := hW.alloc (Nat.le_trans hB0 hW.size) (.cells (va .u8 (key)) 37)
 generalize w.alloc (.cells (va .u8 (key)) 37) = w1 at *
 generalize w.heap.size = p3 at hp3 lw_p3  ⊢
 refine runWL 4 (.pointer (some ⟨w1.heap.size, 0, none⟩)) (w1.alloc (.cells (noV s c) 40)) rfl (by rfl) (exec_box 40 (.tmp 1) rfl (.agg (noV s c)) rfl) ?_
 simp only [ls0, ls1]
 have lp3_p4 := hp3.lt
 have lw_p4 := Nat.le_trans hB0 hW.size
 have hp4 : Blk (w1.alloc (.cells (noV s c) 40)) w1.heap.size 40 (noV s c) := Blk.new _ _ _
 replace hp3 := hp3.alloc (.cells (noV s c) 40)
 replace hW := hW.alloc (Nat.le_trans hB0 hW.size) (.cells (noV s c) 40)
 generalize w1.alloc (.cells (noV s c) 40) = w2 at *
 generalize w1.heap.size = p4 at hp4 lw_p4 lp3_p4 ⊢
 refine runL 6 (.bool false) rfl (by rfl) (by go_simp) ?_
 simp only [ls0, ls1]
 refine nilL ?_
 go_upto_region 1 with fail
 refine wl_lit ?_
 refine runL 16 (.slice (A) n cc) rfl (by rfl) (by go_simp) ?_
 simp only [ls0, ls1]
 refine runL 17 (.int .i64 (n)) rfl (by rfl) (by go_simp) ?_
 simp only [ls0, ls1]
 refine runL 18 (.bool false) rfl (by rfl) (by go_simp) ?_
 simp only [ls0, ls1]
 refine nilL ?_
 go_upto_region 3 with fail
 refine wl_lit ?_
 refine runL 20 (.agg (va .u8 (key))) rfl (by rfl) (exec_row 37 (.tmp 3) rfl p3 rfl 37 (va .u8 (key)) _ hp3 (by exact Tryd.underlying37) rfl (sz__16_uint8 _ (hkl))) ?_
 simp only [ls0, ls1]
 refine callL 21 rfl (by rfl) (fun K hK => wp_callF 11 #[.agg (va .u8 (key))] (by go_simp) (expand_any key hkl hkb _) ?_)
 rintro e w3 ⟨rfl, bx⟩
 replace hp3 := hp3.below bx hp3.lt
 replace hp4 := hp4.below bx hp4.lt
 replace hW := hW.trans (bx.mono (Nat.le_trans hB0 hW.size))
 clear bx
 refine ⟨_, rfl, hK.out _ _ ?_⟩
 clear hK K
 simp only [ls0, ls1]
 refine runWL 7 (.pointer (some ⟨w3.heap.size, 0, none⟩)) (w3.alloc (.cells (va .u8 (List.replicate 176 0)) 42)) rfl (by rfl) (exec_allocV 42 rfl _ (zv_sched _)) ?_
 simp only [ls0, ls1]
 have lp3_p7 := hp3.lt
 have lp4_p7 := hp4.lt
 have lw_p7 := Nat.le_trans hB0 hW.size
 have hp7 : Blk (w3.alloc (.cells (va .u8 (List.replicate 176 0)) 42)) w3.heap.size 42 (va .u8 (List.replicate 176 0)) := Blk.new _ _ _
 replace hp3 := hp3.alloc (.cells (va .u8 (List.replicate 176 0)) 42)
 replace hp4 := hp4.alloc (.cells (va .u8 (List.replicate 176 0)) 42)
 replace hW := hW.alloc (Nat.le_trans hB0 hW.size) (.cells (va .u8 (List.replicate 176 0)) 42)
 generalize w3.alloc (.cells (va .u8 (List.replicate 176 0)) 42) = w4 at *
 generalize w3.heap.size = p7 at hp7 lw_p7 lp3_p7 lp4_p7 ⊢
 refine runSL (w4.setRow p7 (va .u8 (Ci.exL key))) rfl (by rfl) (exec_storeRow 42 (.tmp 7) (.tmp 21) rfl p7 rfl (va .u8 (Ci.exL key)) rfl 42 (va .u8 (List.replicate 176 0)) hp7 (sz_eq (sz_sched _ (List.length_replicate)) (sz_sched _ ((Ci.exL_len key)))) (sz_sched _ ((Ci.exL_len key))) (va_ones .u8 _)) ?_
 replace hp3 := hp3.rowFar (show p7 ≠ p3 from (by omega)) (va .u8 (Ci.exL key))
 replace hp4 := hp4.rowFar (show p7 ≠ p4 from (by omega)) (va .u8 (Ci.exL key))
 replace hp7 := hp7.row (va .u8 (Ci.exL key))
 replace hW := below_setRow hW lw_p7 (va .u8 (Ci.exL key))
 generalize w4.setRow p7 (va .u8 (Ci.exL key)) = w5 at *
 refine nilL ?_
 go_upto_region 4 with fail
 refine wl_lit ?_
 refine runL 8 (.slice none 0 0) rfl (by rfl) (by go_simp) ?_
 simp only [ls0, ls1]
 refine nilL ?_
 have hO0 : Own w5 B0 none 0 0 [] := Own.nil _ _
 have nO0_p3 : Off none p3 := Off.nil _
 have nO0_p4 : Off none p4 := Off.nil _
 have nO0_p7 : Off none p7 := Off.nil _
 go_upto_region 5 with fail
 refine wl_lit ?_
 refine runL 9 (.int .i64 0) rfl (by rfl) (by go_simp) ?_
 simp only [ls0, ls1]
 refine nilL ?_
 go_wp2
 go_loopw [8, 9] (fun v u wr => ∃ (k : Nat) (AI : Option Addr) (cI : Nat), k ≤ 4 ∧ u = .int .i64 (k : Int) ∧ v = .slice AI (16 * k) cI ∧ Blk wr p3 37 (va .u8 key) ∧ Blk wr p4 40 (noV s c) ∧ Blk wr p7 42 (va .u8 (Ci.exL key)) ∧ Own wr B0 AI (16 * k) cI (strm key s c k) ∧ Off AI p3 ∧ Off AI p4 ∧ Off AI p7 ∧ Below B0 w wr) (fun _ u _ => 4 - (intOf u).toNat)
 case atStart => exact ⟨0, none, 0, by omega, rfl, rfl, hp3, hp4, hp7, hO0, Off.nil _, Off.nil _, Off.nil _, hW⟩
 case round =>
  clear hp3 hp4 hp7 hO0 hW
  obtain ⟨k, AI, cI, hk, rfl, rfl, hp3, hp4, hp7, hAI, nAI_p3, nAI_p4, nAI_p7, hW⟩ := hrel
  by_cases hlt : k < 4
  ·
   have hltI : (k : Int) < 4 := by omega
   have hk32 : k < 4294967296 := by omega
   have hwk : IntKind.u32.wrap (k : Int) = (k : Int) := by simp [IntKind.wrap, IntKind.bits, IntKind.signed]; omega
   have hwi : IntKind.i64.wrap ((k : Int) + 1) = ((k + 1 : Nat) : Int) := by rw [IntWalk.i64_in _ (by omega)]; omega
   obtain ⟨b, hb⟩ : ∃ b, sbl key s c k = b := ⟨_, rfl⟩
   have hbl : b.length = 16 := by rw [← hb]; exact sbl_len _ _ _ _
   have hbb : Byt b := by rw [← hb]; exact sbl_byt key s c k hkb
   have hst : strm key s c k ++ b = strm key s c (k + 1) := by rw [strm, hb]
   have hbq := Lib.hid hb
   have hstq := Lib.hid hst
   clear hb hst
   go_upto_region 8 with fail
   refine wl_lit ?_
   refine runL 26 (.agg (va .u8 (key))) rfl (by rfl) (exec_row 37 (.tmp 3) rfl p3 rfl 37 (va .u8 (key)) _ hp3 (by exact Tryd.underlying37) rfl (sz__16_uint8 _ (hkl))) ?_
   simp only [ls0, ls1]
   refine runL 27 (.agg (noV s c)) rfl (by rfl) (exec_row 40 (.tmp 4) rfl p4 rfl 40 (noV s c) _ hp4 (by exact Tryd.underlying40) rfl (noV_sz _ _)) ?_
   simp only [ls0, ls1]
   refine runL 28 (.int .i64 (k : Int)) rfl (by rfl) (by go_simp) ?_
   simp only [ls0, ls1]
   refine runL 29 (.int .u32 (k : Int)) rfl (by rfl) (by go_simp) ?_
   simp only [ls0, ls1]
   refine callL 30 rfl (by rfl) (fun K hK => wp_callF 12 #[.agg (va .u8 (key)), .agg (noV s c), .int .u32 (k : Int)] (by go_simp) (sblock_toT key s c k b hbq.out hkl hkb hs hk32 _) ?_)
   rintro e w6 ⟨rfl, bx⟩
   replace hp3 := hp3.below bx hp3.lt
   replace hp4 := hp4.below bx hp4.lt
   replace hp7 := hp7.below bx hp7.lt
   replace hAI := hAI.below bx
   replace hW := hW.trans (bx.mono (Nat.le_trans hB0 hW.size))
   clear bx
   refine ⟨_, rfl, hK.out _ _ ?_⟩
   clear hK K
   simp only [ls0, ls1]
   refine runWL 10 (.pointer (some ⟨w6.heap.size, 0, none⟩)) (w6.alloc (.cells (va .u8 (List.replicate 16 0)) 37)) rfl (by rfl) (exec_allocV 37 rfl _ (zv__16_uint8 _)) ?_
   simp only [ls0, ls1]
   have lp3_p10 := hp3.lt
   have lp4_p10 := hp4.lt
   have lp7_p10 := hp7.lt
   have nAI_p10 := hAI.new_off
   have lw_p10 := Nat.le_trans hB0 hW.size
   have hp10 : Blk (w6.alloc (.cells (va .u8 (List.replicate 16 0)) 37)) w6.heap.size 37 (va .u8 (List.replicate 16 0)) := Blk.new _ _ _
   replace hp3 := hp3.alloc (.cells (va .u8 (List.replicate 16 0)) 37)
   replace hp4 := hp4.alloc (.cells (va .u8 (List.replicate 16 0)) 37)
   replace hp7 := hp7.alloc (.cells (va .u8 (List.replicate 16 0)) 37)
   replace hAI := hAI.alloc (.cells (va .u8 (List.replicate 16 0)) 37)
   replace hW := hW.alloc (Nat.le_trans hB0 hW.size) (.cells (va .u8 (List.replicate 16 0)) 37)
   generalize w6.alloc (.cells (va .u8 (List.replicate 16 0)) 37) = w7 at *
   generalize w6.heap.size = p10 at hp10 lw_p10 lp3_p10 lp4_p10 lp7_p10 nAI_p10 ⊢
   refine runSL (w7.setRow p10 (va .u8 (b))) rfl (by rfl) (exec_storeRow 37 (.tmp 10) (.tmp 30) rfl p10 rfl (va .u8 (b)) rfl 37 (va .u8 (List.replicate 16 0)) hp10 (sz_eq (sz__16_uint8 _ (List.length_replicate)) (sz__16_uint8 _ (hbl))) (sz__16_uint8 _ (hbl)) (va_ones .u8 _)) ?_
   replace hp3 := hp3.rowFar (show p10 ≠ p3 from (by omega)) (va .u8 (b))
   replace hp4 := hp4.rowFar (show p10 ≠ p4 from (by omega)) (va .u8 (b))
   replace hp7 := hp7.rowFar (show p10 ≠ p7 from (by omega)) (va .u8 (b))
   replace hAI := hAI.rowFar nAI_p10 (va .u8 (b))
   replace hp10 := hp10.row (va .u8 (b))
   replace hW := below_setRow hW lw_p10 (va .u8 (b))
   generalize w7.setRow p10 (va .u8 (b)) = w8 at *
   refine nilL ?_
   go_upto_region 9 with fail
   refine wl_lit ?_
   refine runL 31 (.agg (va .u8 (Ci.exL key))) rfl (by rfl) (exec_row 42 (.tmp 7) rfl p7 rfl 42 (va .u8 (Ci.exL key)) _ hp7 (by exact Tryd.underlying42) rfl (sz_sched _ ((Ci.exL_len key)))) ?_
   simp only [ls0, ls1]
   refine runL 32 (.agg (va .u8 (b))) rfl (by rfl) (exec_row 37 (.tmp 10) rfl p10 rfl 37 (va .u8 (b)) _ hp10 (by exact Tryd.underlying37) rfl (sz__16_uint8 _ (hbl))) ?_
   simp only [ls0, ls1]
   refine callL 33 rfl (by rfl) (fun K hK => wp_callF 13 #[.agg (va .u8 (Ci.exL key)), .agg (va .u8 (b))] (by go_simp) (dec_to key b s c k hkl hkb hbq.out _) ?_)
   rintro e w9 ⟨rfl, bx⟩
   replace hp3 := hp3.below bx hp3.lt
   replace hp4 := hp4.below bx hp4.lt
   replace hp7 := hp7.below bx hp7.lt
   replace hAI := hAI.below bx
   replace hp10 := hp10.below bx hp10.lt
   replace hW := hW.trans (bx.mono (Nat.le_trans hB0 hW.size))
   clear bx
   refine ⟨_, rfl, hK.out _ _ ?_⟩
   clear hK K
   simp only [ls0, ls1]
   refine runWL 11 (.pointer (some ⟨w9.heap.size, 0, none⟩)) (w9.alloc (.cells (va .u8 (List.replicate 16 0)) 37)) rfl (by rfl) (exec_allocV 37 rfl _ (zv__16_uint8 _)) ?_
   simp only [ls0, ls1]
   have lp3_p11 := hp3.lt
   have lp4_p11 := hp4.lt
   have lp7_p11 := hp7.lt
   have nAI_p11 := hAI.new_off
   have lp10_p11 := hp10.lt
   have lw_p11 := Nat.le_trans hB0 hW.size
   have hp11 : Blk (w9.alloc (.cells (va .u8 (List.replicate 16 0)) 37)) w9.heap.size 37 (va .u8 (List.replicate 16 0)) := Blk.new _ _ _
   replace hp3 := hp3.alloc (.cells (va .u8 (List.replicate 16 0)) 37)
   replace hp4 := hp4.alloc (.cells (va .u8 (List.replicate 16 0)) 37)
   replace hp7 := hp7.alloc (.cells (va .u8 (List.replicate 16 0)) 37)
   replace hAI := hAI.alloc (.cells (va .u8 (List.replicate 16 0)) 37)
   replace hp10 := hp10.alloc (.cells (va .u8 (List.replicate 16 0)) 37)
   replace hW := hW.alloc (Nat.le_trans hB0 hW.size) (.cells (va .u8 (List.replicate 16 0)) 37)
   generalize w9.alloc (.cells (va .u8 (List.replicate 16 0)) 37) = w10 at *
   generalize w9.heap.size = p11 at hp11 lw_p11 lp3_p11 lp4_p11 lp7_p11 nAI_p11 lp10_p11 ⊢
   refine runSL (w10.setRow p11 (va .u8 (cbl s c k))) rfl (by rfl) (exec_storeRow 37 (.tmp 11) (.tmp 33) rfl p11 rfl (va .u8 (cbl s c k)) rfl 37 (va .u8 (List.replicate 16 0)) hp11 (sz_eq (sz__16_uint8 _ (List.length_replicate)) (sz__16_uint8 _ ((cbl_len _ _ _)))) (sz__16_uint8 _ ((cbl_len _ _ _))) (va_ones .u8 _)) ?_
   replace hp3 := hp3.rowFar (show p11 ≠ p3 from (by omega)) (va .u8 (cbl s c k))
   replace hp4 := hp4.rowFar (show p11 ≠ p4 from (by omega)) (va .u8 (cbl s c k))
   replace hp7 := hp7.rowFar (show p11 ≠ p7 from (by omega)) (va .u8 (cbl s c k))
   replace hAI := hAI.rowFar nAI_p11 (va .u8 (cbl s c k))
   replace hp10 := hp10.rowFar (show p11 ≠ p10 from (by omega)) (va .u8 (cbl s c k))
   replace hp11 := hp11.row (va .u8 (cbl s c k))
   replace hW := below_setRow hW lw_p11 (va .u8 (cbl s c k))
   generalize w10.setRow p11 (va .u8 (cbl s c k)) = w11 at *
   refine nilL ?_
   go_upto_region 10 with fail
   replace hAI := hAI.drew_
   refine wp_region_held_drew (S := fun wr => Blk wr p3 37 (va .u8 (key)) ∧ Blk wr p4 40 (noV s c) ∧ Blk wr p7 42 (va .u8 (Ci.exL key)) ∧ Blk wr p10 37 (va .u8 (b)) ∧ Blk wr p11 37 (va .u8 (cbl s c k)) ∧ Below B0 w wr) (by kernel_rfl) ⟨hp3.drew, hp4.drew, hp7.drew, hp10.drew, hp11.drew, below_drewN hW 1⟩ (fun hH => ?_)
   clear hp3 hp4 hp7 hp10 hp11 hW
   obtain ⟨hp3, hp4, hp7, hp10, hp11, hW⟩ := hH
   generalize w11.drew = w12 at *
   refine takeH 10 0 34 (.slice (some ⟨p11, 0, none⟩) 16 16) rfl rfl (by kernel_rfl) (by kernel_rfl) (by kernel_rfl) (fun _ _ _ h => h) (Or.inl ⟨by rfl, fun w _ => by go_simp⟩) ⟨hp3, hp4, hp7, hp10, hp11, hW⟩ ?_
   simp only [ls0, ls1]
   refine takeH 9 1 35 (.string (bst (cbl s c k))) rfl rfl (by kernel_rfl) (by kernel_rfl) (by kernel_rfl) (fun _ _ _ h => h) (Or.inl ⟨by rfl, fun _ h => exec_conv 27 9 (.tmp 34) rfl (.slice (some ⟨p11, 0, none⟩) 16 16) (.string (bst (cbl s c k))) rfl (Reads.string (h.2.2.2.2.1.readsAll (Nat.lt_succ_self _) ((cbl_len _ _ _))) _ _ Tryd.underlying27 Tryd.underlying9)⟩) ⟨hp3, hp4, hp7, hp10, hp11, hW⟩ ?_
   simp only [ls0, ls1]
   refine takeH 8 2 36 (.agg (noV s c)) rfl rfl (by kernel_rfl) (by kernel_rfl) (by kernel_rfl) (fun _ _ _ h => h) (Or.inl ⟨by rfl, fun _ h => exec_row 40 (.tmp 4) rfl p4 rfl 40 (noV s c) _ h.2.1 (by exact Tryd.underlying40) rfl (noV_sz _ _)⟩) ⟨hp3, hp4, hp7, hp10, hp11, hW⟩ ?_
   simp only [ls0, ls1]
   refine takeH 7 4 38 (.int .i64 (k : Int)) rfl rfl (by kernel_rfl) (by kernel_rfl) (by kernel_rfl) (fun _ _ _ h => h) (Or.inl ⟨by rfl, fun w _ => by go_simp⟩) ⟨hp3, hp4, hp7, hp10, hp11, hW⟩ ?_
   simp only [ls0, ls1]
   refine takeH 6 5 39 (.int .u32 (k : Int)) rfl rfl (by kernel_rfl) (by kernel_rfl) (by kernel_rfl) (fun _ _ _ h => h) (Or.inl ⟨by rfl, fun w _ => by go_simp⟩) ⟨hp3, hp4, hp7, hp10, hp11, hW⟩ ?_
   simp only [ls0, ls1]
   refine wpAnyH_ready (by kernel_rfl) (by simp) (readyCons 5 3 37 rfl rfl (by rfl) (fun K hK => wp_callF 14 #[.agg (noV s c)] (by go_simp) (nput_to s c hs _) ?_) AllReadyH.nil)
   rintro e w13 ⟨g1, rfl, hg1, hgg, bx⟩
   have lp3_g1 : p3 < g1 := Nat.lt_of_lt_of_le hp3.lt hgg
   have lp4_g1 : p4 < g1 := Nat.lt_of_lt_of_le hp4.lt hgg
   have lp7_g1 : p7 < g1 := Nat.lt_of_lt_of_le hp7.lt hgg
   have nAI_g1 := hAI.off_ge hgg
   have lp10_g1 : p10 < g1 := Nat.lt_of_lt_of_le hp10.lt hgg
   have lp11_g1 : p11 < g1 := Nat.lt_of_lt_of_le hp11.lt hgg
   have lw_g1 : B0 ≤ g1 := Nat.le_trans (Nat.le_trans hB0 hW.size) hgg
   replace hp3 := hp3.below bx hp3.lt
   replace hp4 := hp4.below bx hp4.lt
   replace hp7 := hp7.below bx hp7.lt
   replace hAI := hAI.below bx
   replace hp10 := hp10.below bx hp10.lt
   replace hp11 := hp11.below bx hp11.lt
   replace hW := hW.trans (bx.mono (Nat.le_trans hB0 hW.size))
   clear hgg
   clear bx
   refine ⟨_, rfl, hK.out _ _ ⟨hp3, hp4, hp7, hp10, hp11, hW⟩ (fun _ => ?_)⟩
   clear hK K
   simp only [ls0, ls1]
   refine wpAnyH_ready (by kernel_rfl) (by simp) (readyCons 4 6 40 rfl rfl (by rfl) (fun K hK => wp_callF 15 #[.int .u32 (k : Int)] (by go_simp) (put32_to k (beB k 4) rfl hk32 _) ?_) AllReadyH.nil)
   rintro e w14 ⟨g2, rfl, hg2, hgg, bx⟩
   have lp3_g2 : p3 < g2 := Nat.lt_of_lt_of_le hp3.lt hgg
   have lp4_g2 : p4 < g2 := Nat.lt_of_lt_of_le hp4.lt hgg
   have lp7_g2 : p7 < g2 := Nat.lt_of_lt_of_le hp7.lt hgg
   have nAI_g2 := hAI.off_ge hgg
   have lp10_g2 : p10 < g2 := Nat.lt_of_lt_of_le hp10.lt hgg
   have lp11_g2 : p11 < g2 := Nat.lt_of_lt_of_le hp11.lt hgg
   have lg1_g2 : g1 < g2 := Nat.lt_of_lt_of_le hg1.lt hgg
   have lw_g2 : B0 ≤ g2 := Nat.le_trans (Nat.le_trans hB0 hW.size) hgg
   replace hp3 := hp3.below bx hp3.lt
   replace hp4 := hp4.below bx hp4.lt
   replace hp7 := hp7.below bx hp7.lt
   replace hAI := hAI.below bx
   replace hp10 := hp10.below bx hp10.lt
   replace hp11 := hp11.below bx hp11.lt
   replace hg1 := hg1.below bx hg1.lt
   replace hW := hW.trans (bx.mono (Nat.le_trans hB0 hW.size))
   clear hgg
   clear bx
   refine ⟨_, rfl, hK.out _ _ ⟨hp3, hp4, hp7, hp10, hp11, hW⟩ (fun _ => ?_)⟩
   clear hK K
   simp only [ls0, ls1]
   refine wpAnyH_ready (by kernel_rfl) (by simp) (readyRun 3 7 41 (.slice (some ⟨w14.heap.size, 0, none⟩) 2 2) (w14.alloc (.cells (#[.slice (some ⟨g1, 0, none⟩) 12 12, .slice (some ⟨g2, 0, none⟩) 4 4]) 27)) rfl rfl (by rfl) (exec_bslice 88 2 _ rfl _ (by exact bs_2 (some ⟨g1, 0, none⟩) 12 12 (some ⟨g2, 0, none⟩) 4 4 _)) ⟨hp3.alloc _, hp4.alloc _, hp7.alloc _, hp10.alloc _, hp11.alloc _, hW.alloc (Nat.le_trans hB0 hW.size) _⟩ (fun _ => ?_) AllReadyH.nil)
   simp only [ls0, ls1]
   have lp3_q1 := hp3.lt
   have lp4_q1 := hp4.lt
   have lp7_q1 := hp7.lt
   have nAI_q1 := hAI.new_off
   have lp10_q1 := hp10.lt
   have lp11_q1 := hp11.lt
   have lg1_q1 := hg1.lt
   have lg2_q1 := hg2.lt
   have lw_q1 := Nat.le_trans hB0 hW.size
   have hq1 : Blk (w14.alloc (.cells (#[.slice (some ⟨g1, 0, none⟩) 12 12, .slice (some ⟨g2, 0, none⟩) 4 4]) 27)) w14.heap.size 27 (#[.slice (some ⟨g1, 0, none⟩) 12 12, .slice (some ⟨g2, 0, none⟩) 4 4]) := Blk.new _ _ _
   replace hp3 := hp3.alloc (.cells (#[.slice (some ⟨g1, 0, none⟩) 12 12, .slice (some ⟨g2, 0, none⟩) 4 4]) 27)
   replace hp4 := hp4.alloc (.cells (#[.slice (some ⟨g1, 0, none⟩) 12 12, .slice (some ⟨g2, 0, none⟩) 4 4]) 27)
   replace hp7 := hp7.alloc (.cells (#[.slice (some ⟨g1, 0, none⟩) 12 12, .slice (some ⟨g2, 0, none⟩) 4 4]) 27)
   replace hAI := hAI.alloc (.cells (#[.slice (some ⟨g1, 0, none⟩) 12 12, .slice (some ⟨g2, 0, none⟩) 4 4]) 27)
   replace hp10 := hp10.alloc (.cells (#[.slice (some ⟨g1, 0, none⟩) 12 12, .slice (some ⟨g2, 0, none⟩) 4 4]) 27)
   replace hp11 := hp11.alloc (.cells (#[.slice (some ⟨g1, 0, none⟩) 12 12, .slice (some ⟨g2, 0, none⟩) 4 4]) 27)
   replace hg1 := hg1.alloc (.cells (#[.slice (some ⟨g1, 0, none⟩) 12 12, .slice (some ⟨g2, 0, none⟩) 4 4]) 27)
   replace hg2 := hg2.alloc (.cells (#[.slice (some ⟨g1, 0, none⟩) 12 12, .slice (some ⟨g2, 0, none⟩) 4 4]) 27)
   replace hW := hW.alloc (Nat.le_trans hB0 hW.size) (.cells (#[.slice (some ⟨g1, 0, none⟩) 12 12, .slice (some ⟨g2, 0, none⟩) 4 4]) 27)
   generalize w14.alloc (.cells (#[.slice (some ⟨g1, 0, none⟩) 12 12, .slice (some ⟨g2, 0, none⟩) 4 4]) 27) = w15 at *
   generalize w14.heap.size = q1 at hq1 lw_q1 lp3_q1 lp4_q1 lp7_q1 nAI_q1 lp10_q1 lp11_q1 lg1_q1 lg2_q1 ⊢
   refine wpAnyH_ready (by kernel_rfl) (by simp) (readyCons 2 8 42 rfl rfl (by rfl) (fun K hK => wp_callF 9 #[.slice (some ⟨q1, 0, none⟩) 2 2] (by go_simp) (join_to [noB s c, beB k 4] (cbl s c k) 2 2 _ 16 _ _ (parts_two hg1.lt hg2.lt hq1 (hg1.readsAll (Nat.lt_succ_self _) (noB_len _ _)) (Nat.le_refl _) (noB_byt _ _) (hg2.readsAll (Nat.lt_succ_self _) (beB_len _ _)) (Nat.le_refl _) (beB_byt _ _)) (by simp [cbl, noB]) (by omega) (Nat.le_refl _) (cbl_len _ _ _) (by omega)) ?_) AllReadyH.nil)
   rintro e w16 ⟨g4, rfl, hg4, hgg, bx⟩
   have lp3_g4 : p3 < g4 := Nat.lt_of_lt_of_le hp3.lt hgg
   have lp4_g4 : p4 < g4 := Nat.lt_of_lt_of_le hp4.lt hgg
   have lp7_g4 : p7 < g4 := Nat.lt_of_lt_of_le hp7.lt hgg
   have nAI_g4 := hAI.off_ge hgg
   have lp10_g4 : p10 < g4 := Nat.lt_of_lt_of_le hp10.lt hgg
   have lp11_g4 : p11 < g4 := Nat.lt_of_lt_of_le hp11.lt hgg
   have lg1_g4 : g1 < g4 := Nat.lt_of_lt_of_le hg1.lt hgg
   have lg2_g4 : g2 < g4 := Nat.lt_of_lt_of_le hg2.lt hgg
   have lq1_g4 : q1 < g4 := Nat.lt_of_lt_of_le hq1.lt hgg
   have lw_g4 : B0 ≤ g4 := Nat.le_trans (Nat.le_trans hB0 hW.size) hgg
   replace hp3 := hp3.below bx hp3.lt
   replace hp4 := hp4.below bx hp4.lt
   replace hp7 := hp7.below bx hp7.lt
   replace hAI := hAI.below bx
   replace hp10 := hp10.below bx hp10.lt
   replace hp11 := hp11.below bx hp11.lt
   replace hg1 := hg1.below bx hg1.lt
   replace hg2 := hg2.below bx hg2.lt
   replace hq1 := hq1.below bx hq1.lt
   replace hW := hW.trans (bx.mono (Nat.le_trans hB0 hW.size))
   clear hgg
   clear bx
   refine ⟨_, rfl, hK.out _ _ ⟨hp3, hp4, hp7, hp10, hp11, hW⟩ (fun _ => ?_)⟩
   clear hK K
   simp only [ls0, ls1]
   refine wpAnyH_ready (by kernel_rfl) (by simp) (readyRun 1 9 43 (.string (bst (cbl s c k))) w16 rfl rfl (by rfl) (exec_conv 27 9 (.tmp 42) rfl (.slice (some ⟨g4, 0, none⟩) 16 16) (.string (bst (cbl s c k))) rfl (Reads.string (hg4.readsAll (Nat.lt_succ_self _) (cbl_len _ _ _)) _ _ Tryd.underlying27 Tryd.underlying9)) ⟨hp3, hp4, hp7, hp10, hp11, hW⟩ (fun _ => ?_) AllReadyH.nil)
   simp only [ls0, ls1]
   refine takeH 0 10 44 (.bool false) rfl rfl (by kernel_rfl) (by kernel_rfl) (by kernel_rfl) (fun _ _ _ h => h) (Or.inl ⟨by rfl, fun w _ => by go_simp⟩) ⟨hp3, hp4, hp7, hp10, hp11, hW⟩ ?_
   simp only [ls0, ls1]
   refine wpAnyH_done (by kernel_rfl) ?_ _
   clear hp11
   clear hg1
   clear hg2
   clear hq1
   clear hg4
   go_upto_region 12 with fail
   refine wl_lit ?_
   refine runL 45 (.slice (AI) (16 * k) cI) rfl (by rfl) (by go_simp) ?_
   simp only [ls0, ls1]
   refine runL 46 (.slice (some ⟨p10, 0, none⟩) 16 16) rfl (by rfl) (by go_simp) ?_
   simp only [ls0, ls1]
   obtain ⟨AJ, cAJ, w17, hap, hAJ, hcAJ, hgr, hof⟩ := own_append hAI (some ⟨p10, 0, none⟩) 16 16 _ (b) (hp10.readsAll (Nat.lt_succ_self _) (hbl)) (Nat.le_trans hB0 hW.size) (strm key s c (k + 1)) hstq.out (16 * (k + 1)) (by omega) (by omega) 27
   refine runWL 47 (.slice AJ (16 * (k + 1)) cAJ) w17 rfl (by rfl) (exec_append _ _ _ _ rfl _ _ _ rfl rfl hap) ?_
   simp only [ls0, ls1]
   have nAJ_p3 := hof p3 nAI_p3 hp3.lt
   replace hp3 := hp3.grown hgr (nAI_p3.ob _ _)
   have nAJ_p4 := hof p4 nAI_p4 hp4.lt
   replace hp4 := hp4.grown hgr (nAI_p4.ob _ _)
   have nAJ_p7 := hof p7 nAI_p7 hp7.lt
   replace hp7 := hp7.grown hgr (nAI_p7.ob _ _)
   have nAJ_p10 := hof p10 nAI_p10 hp10.lt
   replace hp10 := hp10.grown hgr (nAI_p10.ob _ _)
   replace hW := Own.belowG hW (Nat.le_trans hB0 hW.size) hAI.from_ hgr
   clear hAI hgr hof hap
   refine runL 8 (.slice (AJ) (16 * (k + 1)) cAJ) rfl (by rfl) (by go_simp) ?_
   simp only [ls0, ls1]
   refine nilL ?_
   go_wp2
   go_roundw
   case rel => exact ⟨k + 1, AJ, cAJ, by omega, by go_num, rfl, hp3, hp4, hp7, hAJ, nAJ_p3, nAJ_p4, nAJ_p7, hW⟩
   case measure => simp [intOf]; omega
  ·
   have hk4 : k = 4 := by omega
   have hltI : ¬ (k : Int) < 4 := by omega
   rw [hk4] at hAI
   obtain ⟨r, hr⟩ : ∃ r, kxor key s c 0 d = r := ⟨_, rfl⟩
   have hrx : xorB d ((strm key s c 4).take n) = r := by rw [← hr, kxor_strm key s c n d (by omega) hn64]
   have hrl : r.length = n := by rw [← hr, kxor_len]; omega
   have htb : Byt ((strm key s c 4).take n) := (strm_byt hkb s c 4).take n
   have hrq := Lib.hid hr
   have hrxq := Lib.hid hrx
   have hcI := hAI.cap
   have hnI : (n : Int) ≤ (cI : Int) := by omega
   clear hr hrx
   go_upto_region 13 with fail
   refine wl_lit ?_
   refine runL 49 (.agg (va .u8 (key))) rfl (by rfl) (exec_row 37 (.tmp 3) rfl p3 rfl 37 (va .u8 (key)) _ hp3 (by exact Tryd.underlying37) rfl (sz__16_uint8 _ (hkl))) ?_
   simp only [ls0, ls1]
   refine runL 50 (.agg (noV s c)) rfl (by rfl) (exec_row 40 (.tmp 4) rfl p4 rfl 40 (noV s c) _ hp4 (by exact Tryd.underlying40) rfl (noV_sz _ _)) ?_
   simp only [ls0, ls1]
   refine runL 51 (.slice (A) n cc) rfl (by rfl) (by go_simp) ?_
   simp only [ls0, ls1]
   refine callL 52 rfl (by rfl) (fun K hK => wp_callF 16 #[.agg (va .u8 (key)), .agg (noV s c), .int .i64 0, .slice (A) n cc] (by go_simp) (xor_anyT key s c n d r hrq.out hkl hkb hs (by omega) hdb hn64 A cc _ _ (rd.out _ hW) (Nat.le_trans hBB (Nat.le_trans hB0 hW.size))) ?_)
   rintro e w18 ⟨AX, rfl, hAX, bx⟩
   have nAX_p3 := hAX.off_lt hp3.lt
   have nAX_p4 := hAX.off_lt hp4.lt
   have nAX_p7 := hAX.off_lt hp7.lt
   have sAI_AX : ∀ a : Addr, (AI) = some a → Off (AX) a.block := fun a ha => hAX.off_lt (hAI.lt ha).2
   have sAX_AI : ∀ a : Addr, (AX) = some a → Off (AI) a.block := fun a ha b hb e => sAI_AX b hb a ha e.symm
   replace hAX := hAX.mono (Nat.le_trans hB0 hW.size)
   replace hp3 := hp3.below bx hp3.lt
   replace hp4 := hp4.below bx hp4.lt
   replace hp7 := hp7.below bx hp7.lt
   replace hAI := hAI.below bx
   replace hW := hW.trans (bx.mono (Nat.le_trans hB0 hW.size))
   clear bx
   refine ⟨_, rfl, hK.out _ _ ?_⟩
   clear hK K
   simp only [ls0, ls1]
   refine runL 48 (.tuple #[.slice (AX) n n, .int .i64 0]) rfl (by rfl) (by go_simp) ?_
   simp only [ls0, ls1]
   refine runL 53 (.slice (AX) n n) rfl (by rfl) (by go_simp) ?_
   simp only [ls0, ls1]
   refine runL 54 (.int .i64 0) rfl (by rfl) (by go_simp) ?_
   simp only [ls0, ls1]
   refine runL 12 (.slice (AX) n n) rfl (by rfl) (by go_simp) ?_
   simp only [ls0, ls1]
   refine runL 13 (.int .i64 0) rfl (by rfl) (by go_simp) ?_
   simp only [ls0, ls1]
   refine nilL ?_
   go_upto_region 14 with fail
   refine wl_lit ?_
   refine runL 56 (.slice (A) n cc) rfl (by rfl) (by go_simp) ?_
   simp only [ls0, ls1]
   refine runL 57 (.slice (AI) (16 * k) cI) rfl (by rfl) (by go_simp) ?_
   simp only [ls0, ls1]
   refine runL 58 (.slice (A) n cc) rfl (by rfl) (by go_simp) ?_
   simp only [ls0, ls1]
   refine runL 59 (.int .i64 (n)) rfl (by rfl) (by go_simp) ?_
   simp only [ls0, ls1]
   refine runL 60 (.slice (AI) n cI) rfl (by rfl) (by go_simp) ?_
   simp only [ls0, ls1]
   refine callL 61 rfl (by rfl) (fun K hK => wp_callF 17 #[.slice (A) n cc, .slice (AI) n cI] (by go_simp) (xor_toT d ((strm key s c 4).take n) r hrxq.out A AI n cc cI _ _ hdb htb hn64 _ (rd.out _ hW) (hAI.preT (by omega)) (Nat.le_trans hBB (Nat.le_trans hB0 hW.size)) (Nat.le_refl _)) ?_)
   rintro e w19 ⟨gx, rfl, hgx, hgg, bx⟩
   have lp3_gx : p3 < gx := Nat.lt_of_lt_of_le hp3.lt hgg
   have lp4_gx : p4 < gx := Nat.lt_of_lt_of_le hp4.lt hgg
   have lp7_gx : p7 < gx := Nat.lt_of_lt_of_le hp7.lt hgg
   have nAI_gx := hAI.off_ge hgg
   have nAX_gx := hAX.off_ge hgg
   have lw_gx : B0 ≤ gx := Nat.le_trans (Nat.le_trans hB0 hW.size) hgg
   replace hp3 := hp3.below bx hp3.lt
   replace hp4 := hp4.below bx hp4.lt
   replace hp7 := hp7.below bx hp7.lt
   replace hAI := hAI.below bx
   replace hAX := hAX.below bx
   replace hW := hW.trans (bx.mono (Nat.le_trans hB0 hW.size))
   clear hgg
   clear bx
   refine ⟨_, rfl, hK.out _ _ ?_⟩
   clear hK K
   simp only [ls0, ls1]
   refine runL 55 (.tuple #[.slice (some ⟨gx, 0, none⟩) n n, .int .i64 0]) rfl (by rfl) (by go_simp) ?_
   simp only [ls0, ls1]
   refine runL 62 (.slice (some ⟨gx, 0, none⟩) n n) rfl (by rfl) (by go_simp) ?_
   simp only [ls0, ls1]
   refine runL 63 (.int .i64 0) rfl (by rfl) (by go_simp) ?_
   simp only [ls0, ls1]
   refine runL 14 (.slice (some ⟨gx, 0, none⟩) n n) rfl (by rfl) (by go_simp) ?_
   simp only [ls0, ls1]
   refine runL 15 (.int .i64 0) rfl (by rfl) (by go_simp) ?_
   simp only [ls0, ls1]
   refine nilL ?_
   go_upto_region 15 with fail
   refine wl_lit ?_
   refine runL 64 (.int .i64 0) rfl (by rfl) (by go_simp) ?_
   simp only [ls0, ls1]
   refine runL 65 (.bool true) rfl (by rfl) (by go_simp) ?_
   simp only [ls0, ls1]
   refine runL 66 (.bool true) rfl (by rfl) (by go_simp) ?_
   simp only [ls0, ls1]
   refine runL 67 (.int .i64 0) rfl (by rfl) (by go_simp) ?_
   simp only [ls0, ls1]
   refine runL 68 (.bool true) rfl (by rfl) (by go_simp) ?_
   simp only [ls0, ls1]
   refine runL 69 (.bool true) rfl (by rfl) (by go_simp) ?_
   simp only [ls0, ls1]
   refine runL 70 (.bool true) rfl (by rfl) (by go_simp) ?_
   simp only [ls0, ls1]
   refine runL 71 (.slice (AX) n n) rfl (by rfl) (by go_simp) ?_
   simp only [ls0, ls1]
   refine runL 72 (.string (bst (r))) rfl (by rfl) (exec_conv 27 9 (.tmp 71) rfl (.slice (AX) n n) (.string (bst (r))) rfl (Reads.string hAX.reads _ _ Tryd.underlying27 Tryd.underlying9)) ?_
   simp only [ls0, ls1]
   refine runL 73 (.slice (some ⟨gx, 0, none⟩) n n) rfl (by rfl) (by go_simp) ?_
   simp only [ls0, ls1]
   refine runL 74 (.string (bst (r))) rfl (by rfl) (exec_conv 27 9 (.tmp 73) rfl (.slice (some ⟨gx, 0, none⟩) n n) (.string (bst (r))) rfl (Reads.string (hgx.readsAll (Nat.lt_succ_self _) hrl) _ _ Tryd.underlying27 Tryd.underlying9)) ?_
   simp only [ls0, ls1]
   refine runL 75 (.bool true) rfl (by rfl) (by go_simp) ?_
   simp only [ls0, ls1]
   refine runL 76 (.bool true) rfl (by rfl) (by go_simp) ?_
   simp only [ls0, ls1]
   refine runL 77 (.bool true) rfl (by rfl) (by go_simp) ?_
   simp only [ls0, ls1]
   refine callL 78 rfl (by rfl) (fun K hK => wp_callF 5 #[] (by go_simp) (live11_any _ (gl.out _ hW)) ?_)
   rintro e w20 ⟨rfl, bx⟩
   replace hp3 := hp3.below bx hp3.lt
   replace hp4 := hp4.below bx hp4.lt
   replace hp7 := hp7.below bx hp7.lt
   replace hAI := hAI.below bx
   replace hAX := hAX.below bx
   replace hgx := hgx.below bx hgx.lt
   replace hW := hW.trans (bx.mono (Nat.le_trans hB0 hW.size))
   clear bx
   refine ⟨_, rfl, hK.out _ _ ?_⟩
   clear hK K
   simp only [ls0, ls1]
   refine runL 79 (.bool true) rfl (by rfl) (by go_simp) ?_
   simp only [ls0, ls1]
   refine runL 6 (.bool true) rfl (by rfl) (by go_simp) ?_
   simp only [ls0, ls1]
   refine nilL ?_
   go_wp2_with fail
   go_ret
   exact ⟨rfl, hW⟩
end Go.Proofs.YtcdgcaljlmondaaDoor
