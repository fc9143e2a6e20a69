/-
  The walks of StreamsBlock, StreamsUsed, StreamsOverlap. (Printed by mk07.py.)
-/
import Derived.Test.YtpcdckhabaoieaaStm5
namespace Go.Proofs.Ytpcdckhabaoieaa
open Go.RowKit Sh

/-- the cells of a key with a nonce -/
def kV (key : List Nat) (s c : Nat) : Array Value := (nv .u8 key ++ [Value.int .u32 (s : Int), Value.int .u64 (c : Int)]).toArray
theorem kV_list (key : List Nat) (s c : Nat) : (kV key s c).toList = nv .u8 key ++ (noV s c).toList := rfl
theorem kV_key {W : World} {g : Nat} {T : TypeId} {key : List Nat} {s c : Nat} (hb : Blk W g T (kV key s c)) (h : key.length = 16) : W.rangeAt g 0 (nv .u8 key) := by
  have h1 := hb.range 0 16
  have e : ((kV key s c).toList.drop 0).take 16 = nv .u8 key := by rw [List.drop_zero, kV_list, List.take_left' (by rw [nv_len, h])]
  rwa [e] at h1
theorem kV_no {W : World} {g : Nat} {T : TypeId} {key : List Nat} {s c : Nat} (hb : Blk W g T (kV key s c)) (h : key.length = 16) : W.rangeAt g 16 (noV s c).toList := by
  have h1 := hb.range 16 2
  have e : ((kV key s c).toList.drop 16).take 2 = (noV s c).toList := by rw [kV_list, List.drop_left' (by rw [nv_len, h])]; rfl
  rwa [e] at h1
theorem kV_sz (key : List Nat) (s c : Nat) (h : key.length = 16) : (Try.prog.info? 28).map (·.size) = some (kV key s c).size := by
  have e : (kV key s c).size = 18 := by simp [kV, nv, h]
  have h0 : (Try.prog.info? 28).map (·.size) = some 18 := by kernel_rfl
  rw [e, h0]
theorem sz16L (key : List Nat) (h : key.length = 16) : (Try.prog.info? 22).map (·.size) = some (nv .u8 key).length := by
  have h0 : (Try.prog.info? 22).map (·.size) = some 16 := by kernel_rfl
  rw [nv_len, h, h0]

set_option maxRecDepth 8000 in
set_option maxHeartbeats 2000000 in
theorem lawSBlock_any (key : List Nat) (s c k : Nat) (hkl : key.length = 16) (hkb : Byt key) (hs : s < 4294967296) (hc : c < 18446744073709551616) (hk : k < 4294967296) (w : World) :
    Calls Try.prog 3 #[.agg (kV key s c), .int .u32 (k : Int)] w fun e w' => e = .returned (.bool true) ∧ Below w.heap.size w w' := by
  obtain ⟨B0, hB0e⟩ : ∃ b, w.heap.size = b := ⟨_, rfl⟩
  rw [hB0e]
  have hW : Below B0 w w := by rw [← hB0e]; exact Below.refl _ _
  have hB0 : B0 ≤ w.heap.size := by omega
  have hB0q := Lib.hid hB0e
  clear hB0e
  go_enter Try.func3, Try.ntmps3
  go_upto_region 0 with fail
  refine wl_lit ?_
  refine runWL 2 (.pointer (some ⟨w.heap.size, 0, none⟩)) (w.alloc (.cells (kV key s c) 28)) rfl (by rfl) (exec_box 28 (.tmp 0) rfl (.agg (kV key s c)) rfl) ?_
  simp only [List.set_cons_zero, List.set_cons_succ]
  have lw_p2 := Nat.le_trans hB0 hW.size
  have hp2 : Blk (w.alloc (.cells (kV key s c) 28)) w.heap.size 28 (kV key s c) := Blk.new _ _ _
  replace hW := hW.alloc (Nat.le_trans hB0 hW.size) (.cells (kV key s c) 28)
  generalize w.alloc (.cells (kV key s c) 28) = w1 at *
  generalize w.heap.size = p2 at hp2 lw_p2  ⊢
  refine runL 4 (.bool false) rfl (by rfl) (by go_simp) ?_
  simp only [List.set_cons_zero, List.set_cons_succ]
  refine nilL ?_
  go_upto_region 1 with fail
  refine wp_region_held_drew (S := fun wr => Blk wr p2 28 (kV key s c) ∧ Below B0 w wr) (by kernel_rfl) ⟨hp2.drew, below_drewN hW 1⟩ (fun hH => ?_)
  clear hp2 hW
  obtain ⟨hp2, hW⟩ := hH
  generalize w1.drew = w2 at *
  refine takeH 16 0 5 (.pointer (some ⟨p2, 0, none⟩)) rfl rfl (by kernel_rfl) (by kernel_rfl) (by kernel_rfl) (fun _ _ _ h => h) (Or.inl ⟨by rfl, fun w _ => by go_simp⟩) ⟨hp2, hW⟩ ?_
  simp only [List.set_cons_zero, List.set_cons_succ]
  refine takeH 15 1 6 (.agg (va .u8 (key))) rfl rfl (by kernel_rfl) (by kernel_rfl) (by kernel_rfl) (fun _ _ _ h => h) (Or.inl ⟨by rfl, fun _ h => exec_mid 22 (.tmp 5) rfl p2 0 rfl (nv .u8 key) _ (kV_key h.1 hkl) Try.underlying22 rfl (sz16L _ hkl)⟩) ⟨hp2, hW⟩ ?_
  simp only [List.set_cons_zero, List.set_cons_succ]
  refine takeH 14 2 7 (.pointer (some ⟨p2, 16, none⟩)) rfl rfl (by kernel_rfl) (by kernel_rfl) (by kernel_rfl) (fun _ _ _ h => h) (Or.inl ⟨by rfl, fun w _ => by go_simp⟩) ⟨hp2, hW⟩ ?_
  simp only [List.set_cons_zero, List.set_cons_succ]
  refine takeH 13 3 8 (.agg (noV s c)) rfl rfl (by kernel_rfl) (by kernel_rfl) (by kernel_rfl) (fun _ _ _ h => h) (Or.inl ⟨by rfl, fun _ h => exec_mid 26 (.tmp 7) rfl p2 16 rfl (noV s c).toList _ (kV_no h.1 hkl) (by exact Try.underlying26) rfl (by kernel_rfl)⟩) ⟨hp2, hW⟩ ?_
  simp only [List.set_cons_zero, List.set_cons_succ]
  refine takeH 12 4 9 (.int .u32 (k : Int)) rfl rfl (by kernel_rfl) (by kernel_rfl) (by kernel_rfl) (fun _ _ _ h => h) (Or.inl ⟨by rfl, fun w _ => by go_simp⟩) ⟨hp2, hW⟩ ?_
  simp only [List.set_cons_zero, List.set_cons_succ]
  refine takeH 11 6 11 (.pointer (some ⟨p2, 0, none⟩)) rfl rfl (by kernel_rfl) (by kernel_rfl) (by kernel_rfl) (fun _ _ _ h => h) (Or.inl ⟨by rfl, fun w _ => by go_simp⟩) ⟨hp2, hW⟩ ?_
  simp only [List.set_cons_zero, List.set_cons_succ]
  refine takeH 10 7 12 (.agg (va .u8 (key))) rfl rfl (by kernel_rfl) (by kernel_rfl) (by kernel_rfl) (fun _ _ _ h => h) (Or.inl ⟨by rfl, fun _ h => exec_mid 22 (.tmp 11) rfl p2 0 rfl (nv .u8 key) _ (kV_key h.1 hkl) Try.underlying22 rfl (sz16L _ hkl)⟩) ⟨hp2, hW⟩ ?_
  simp only [List.set_cons_zero, List.set_cons_succ]
  refine takeH 9 8 13 (.pointer (some ⟨p2, 16, none⟩)) rfl rfl (by kernel_rfl) (by kernel_rfl) (by kernel_rfl) (fun _ _ _ h => h) (Or.inl ⟨by rfl, fun w _ => by go_simp⟩) ⟨hp2, hW⟩ ?_
  simp only [List.set_cons_zero, List.set_cons_succ]
  refine takeH 8 9 14 (.agg (noV s c)) rfl rfl (by kernel_rfl) (by kernel_rfl) (by kernel_rfl) (fun _ _ _ h => h) (Or.inl ⟨by rfl, fun _ h => exec_mid 26 (.tmp 13) rfl p2 16 rfl (noV s c).toList _ (kV_no h.1 hkl) (by exact Try.underlying26) rfl (by kernel_rfl)⟩) ⟨hp2, hW⟩ ?_
  simp only [List.set_cons_zero, List.set_cons_succ]
  refine takeH 7 10 15 (.int .u32 (k : Int)) rfl rfl (by kernel_rfl) (by kernel_rfl) (by kernel_rfl) (fun _ _ _ h => h) (Or.inl ⟨by rfl, fun w _ => by go_simp⟩) ⟨hp2, hW⟩ ?_
  simp only [List.set_cons_zero, List.set_cons_succ]
  refine wpAnyH_ready (by kernel_rfl) (by simp) (readyCons 6 5 10 rfl rfl (by rfl) (fun K hK => wp_callF 9 #[.agg (va .u8 (key)), .agg (noV s c), .int .u32 (k : Int)] (by go_simp) (sblock_any key s c k hkl hkb hs hk _) ?_) AllReadyH.nil)
  rintro e w3 ⟨rfl, bx⟩
  replace hp2 := hp2.below bx hp2.lt
  replace hW := hW.trans (bx.mono (Nat.le_trans hB0 hW.size))
  clear bx
  refine ⟨_, rfl, hK.out _ _ ⟨hp2, hW⟩ (fun _ => ?_)⟩
  clear hK K
  simp only [List.set_cons_zero, List.set_cons_succ]
  refine wpAnyH_ready (by kernel_rfl) (by simp) (readyCons 5 11 16 rfl rfl (by rfl) (fun K hK => wp_callF 10 #[.agg (va .u8 (key)), .agg (noV s c), .int .u32 (k : Int)] (by go_simp) (rsblock_any key s c k hkl hkb hs hc hk _) ?_) AllReadyH.nil)
  rintro e w4 ⟨rfl, bx⟩
  replace hp2 := hp2.below bx hp2.lt
  replace hW := hW.trans (bx.mono (Nat.le_trans hB0 hW.size))
  clear bx
  refine ⟨_, rfl, hK.out _ _ ⟨hp2, hW⟩ (fun _ => ?_)⟩
  clear hK K
  simp only [List.set_cons_zero, List.set_cons_succ]
  refine takeH 4 12 17 (.bool true) rfl rfl (by kernel_rfl) (by kernel_rfl) (by kernel_rfl) (fun _ _ _ h => h) (Or.inl ⟨by rfl, fun _ _ => exec_eqB 22 16 (by kernel_rfl) (by kernel_rfl) (.tmp 10) (.tmp 16) _ rfl (sbl key s c k) (sbl key s c k) (sbl_len _ _ _ _) (sbl_len _ _ _ _) rfl rfl true (by simp)⟩) ⟨hp2, hW⟩ ?_
  simp only [List.set_cons_zero, List.set_cons_succ]
  refine takeH 3 13 18 (.bool true) rfl rfl (by kernel_rfl) (by kernel_rfl) (by kernel_rfl) (fun _ _ _ h => h) (Or.inl ⟨by rfl, fun w _ => by go_simp⟩) ⟨hp2, hW⟩ ?_
  simp only [List.set_cons_zero, List.set_cons_succ]
  refine wpAnyH_ready (by kernel_rfl) (by simp) (readyCons 2 14 19 rfl rfl (by rfl) (fun K hK => wp_callF 11 #[] (by go_simp) (lives_any7 _) ?_) AllReadyH.nil)
  rintro e w5 ⟨rfl, bx⟩
  replace hp2 := hp2.below bx hp2.lt
  replace hW := hW.trans (bx.mono (Nat.le_trans hB0 hW.size))
  clear bx
  refine ⟨_, rfl, hK.out _ _ ⟨hp2, hW⟩ (fun _ => ?_)⟩
  clear hK K
  simp only [List.set_cons_zero, List.set_cons_succ]
  refine takeH 1 15 20 (.bool true) rfl rfl (by kernel_rfl) (by kernel_rfl) (by kernel_rfl) (fun _ _ _ h => h) (Or.inl ⟨by rfl, fun w _ => by go_simp⟩) ⟨hp2, hW⟩ ?_
  simp only [List.set_cons_zero, List.set_cons_succ]
  refine takeH 0 16 4 (.bool true) rfl rfl (by kernel_rfl) (by kernel_rfl) (by kernel_rfl) (fun _ _ _ h => h) (Or.inl ⟨by rfl, fun w _ => by go_simp⟩) ⟨hp2, hW⟩ ?_
  simp only [List.set_cons_zero, List.set_cons_succ]
  refine wpAnyH_done (by kernel_rfl) ?_ _
  go_wp2_with fail
  go_ret
  exact ⟨rfl, hW⟩

set_option maxRecDepth 8000 in
set_option maxHeartbeats 2000000 in
theorem lawSUsed_any (s c : Nat) (f m : Int) (hf : -9223372036854775808 ≤ f ∧ f ≤ 9223372036854775807) (hm : -9223372036854775808 ≤ m ∧ m ≤ 9223372036854775807) (w : World) :
    Calls Try.prog 4 #[.agg (noV s c), .int .i64 f, .int .i64 m] w fun e w' => e = .returned (.bool true) ∧ Below w.heap.size w w' := by
  obtain ⟨B0, hB0e⟩ : ∃ b, w.heap.size = b := ⟨_, rfl⟩
  rw [hB0e]
  have hW : Below B0 w w := by rw [← hB0e]; exact Below.refl _ _
  have hB0 : B0 ≤ w.heap.size := by omega
  have hB0q := Lib.hid hB0e
  clear hB0e
  by_cases h1 : f < 0
  ·
    go_enter Try.func4, Try.ntmps4
    go_upto_region 0 with fail
    refine wl_lit ?_
    refine runWL 3 (.pointer (some ⟨w.heap.size, 0, none⟩)) (w.alloc (.cells (noV s c) 26)) rfl (by rfl) (exec_box 26 (.tmp 0) rfl (.agg (noV s c)) rfl) ?_
    simp only [List.set_cons_zero, List.set_cons_succ]
    have lw_p3 := Nat.le_trans hB0 hW.size
    have hp3 : Blk (w.alloc (.cells (noV s c) 26)) w.heap.size 26 (noV s c) := Blk.new _ _ _
    replace hW := hW.alloc (Nat.le_trans hB0 hW.size) (.cells (noV s c) 26)
    generalize w.alloc (.cells (noV s c) 26) = w1 at *
    generalize w.heap.size = p3 at hp3 lw_p3  ⊢
    refine runL 6 (.bool false) rfl (by rfl) (by go_simp) ?_
    simp only [List.set_cons_zero, List.set_cons_succ]
    refine nilL ?_
    go_upto_region 1 with fail
    refine wl_lit ?_
    refine runL 8 (.int .i64 (f)) rfl (by rfl) (by go_simp) ?_
    simp only [List.set_cons_zero, List.set_cons_succ]
    refine runL 9 (.bool true) rfl (by rfl) (by go_simp) ?_
    simp only [List.set_cons_zero, List.set_cons_succ]
    refine runL 10 (.bool true) rfl (by rfl) (by go_simp) ?_
    simp only [List.set_cons_zero, List.set_cons_succ]
    refine skipL 11 rfl (by kernel_rfl) ?_
    simp only [List.set_cons_zero, List.set_cons_succ]
    refine skipL 12 rfl (by kernel_rfl) ?_
    simp only [List.set_cons_zero, List.set_cons_succ]
    refine runL 13 (.bool true) rfl (by rfl) (by go_simp) ?_
    simp only [List.set_cons_zero, List.set_cons_succ]
    refine runL 7 (.bool true) rfl (by rfl) (by go_simp) ?_
    simp only [List.set_cons_zero, List.set_cons_succ]
    refine nilL ?_
    go_upto_region 2 with fail
    refine wl_lit ?_
    refine runL 14 (.agg (noV s c)) rfl (by rfl) (exec_row 26 (.tmp 3) rfl p3 rfl 26 (noV s c) _ hp3 (by exact Try.underlying26) rfl (noV_sz _ _)) ?_
    simp only [List.set_cons_zero, List.set_cons_succ]
    refine runL 15 (.int .i64 (f)) rfl (by rfl) (by go_simp) ?_
    simp only [List.set_cons_zero, List.set_cons_succ]
    refine runL 16 (.int .i64 (m)) rfl (by rfl) (by go_simp) ?_
    simp only [List.set_cons_zero, List.set_cons_succ]
    refine runL 17 (.agg (r2V 0 0)) rfl (by rfl) (exec_build 33 _ rfl (r2V 0 0) (by kernel_rfl)) ?_
    simp only [List.set_cons_zero, List.set_cons_succ]
    refine callL 18 rfl (by rfl) (fun K hK => wp_callF 12 #[.agg (noV s c), .int .i64 (f), .int .i64 (m), .agg (r2V 0 0), .int .i64 1] (by go_simp) (lawused_bad s c 0 0 f m 1 (by decide) (used_bad s c f m 1 (by unfold chk; rw [if_pos (by omega)]) (by decide) hf hm) _) ?_)
    rintro e w2 ⟨rfl, bx⟩
    replace hp3 := hp3.below bx hp3.lt
    replace hW := hW.trans (bx.mono (Nat.le_trans hB0 hW.size))
    clear bx
    refine ⟨_, rfl, hK.out _ _ ?_⟩
    clear hK K
    simp only [List.set_cons_zero, List.set_cons_succ]
    refine runL 19 (.bool true) rfl (by rfl) (by go_simp) ?_
    simp only [List.set_cons_zero, List.set_cons_succ]
    refine callL 20 rfl (by rfl) (fun K hK => wp_callF 11 #[] (by go_simp) (lives_any7 _) ?_)
    rintro e w3 ⟨rfl, bx⟩
    replace hp3 := hp3.below bx hp3.lt
    replace hW := hW.trans (bx.mono (Nat.le_trans hB0 hW.size))
    clear bx
    refine ⟨_, rfl, hK.out _ _ ?_⟩
    clear hK K
    simp only [List.set_cons_zero, List.set_cons_succ]
    refine runL 21 (.bool true) rfl (by rfl) (by go_simp) ?_
    simp only [List.set_cons_zero, List.set_cons_succ]
    refine runL 6 (.bool true) rfl (by rfl) (by go_simp) ?_
    simp only [List.set_cons_zero, List.set_cons_succ]
    refine nilL ?_
    go_wp2_with fail
    go_ret
    exact ⟨rfl, hW⟩
  by_cases h2 : m < 0
  ·
    go_enter Try.func4, Try.ntmps4
    go_upto_region 0 with fail
    refine wl_lit ?_
    refine runWL 3 (.pointer (some ⟨w.heap.size, 0, none⟩)) (w.alloc (.cells (noV s c) 26)) rfl (by rfl) (exec_box 26 (.tmp 0) rfl (.agg (noV s c)) rfl) ?_
    simp only [List.set_cons_zero, List.set_cons_succ]
    have lw_p3 := Nat.le_trans hB0 hW.size
    have hp3 : Blk (w.alloc (.cells (noV s c) 26)) w.heap.size 26 (noV s c) := Blk.new _ _ _
    replace hW := hW.alloc (Nat.le_trans hB0 hW.size) (.cells (noV s c) 26)
    generalize w.alloc (.cells (noV s c) 26) = w4 at *
    generalize w.heap.size = p3 at hp3 lw_p3  ⊢
    refine runL 6 (.bool false) rfl (by rfl) (by go_simp) ?_
    simp only [List.set_cons_zero, List.set_cons_succ]
    refine nilL ?_
    go_upto_region 1 with fail
    refine wl_lit ?_
    refine runL 8 (.int .i64 (f)) rfl (by rfl) (by go_simp) ?_
    simp only [List.set_cons_zero, List.set_cons_succ]
    refine runL 9 (.bool false) rfl (by rfl) (by go_simp) ?_
    simp only [List.set_cons_zero, List.set_cons_succ]
    refine runL 10 (.bool false) rfl (by rfl) (by go_simp) ?_
    simp only [List.set_cons_zero, List.set_cons_succ]
    refine runL 11 (.int .i64 (m)) rfl (by rfl) (by go_simp) ?_
    simp only [List.set_cons_zero, List.set_cons_succ]
    refine runL 12 (.bool true) rfl (by rfl) (by go_simp) ?_
    simp only [List.set_cons_zero, List.set_cons_succ]
    refine runL 13 (.bool true) rfl (by rfl) (by go_simp) ?_
    simp only [List.set_cons_zero, List.set_cons_succ]
    refine runL 7 (.bool true) rfl (by rfl) (by go_simp) ?_
    simp only [List.set_cons_zero, List.set_cons_succ]
    refine nilL ?_
    go_upto_region 2 with fail
    refine wl_lit ?_
    refine runL 14 (.agg (noV s c)) rfl (by rfl) (exec_row 26 (.tmp 3) rfl p3 rfl 26 (noV s c) _ hp3 (by exact Try.underlying26) rfl (noV_sz _ _)) ?_
    simp only [List.set_cons_zero, List.set_cons_succ]
    refine runL 15 (.int .i64 (f)) rfl (by rfl) (by go_simp) ?_
    simp only [List.set_cons_zero, List.set_cons_succ]
    refine runL 16 (.int .i64 (m)) rfl (by rfl) (by go_simp) ?_
    simp only [List.set_cons_zero, List.set_cons_succ]
    refine runL 17 (.agg (r2V 0 0)) rfl (by rfl) (exec_build 33 _ rfl (r2V 0 0) (by kernel_rfl)) ?_
    simp only [List.set_cons_zero, List.set_cons_succ]
    refine callL 18 rfl (by rfl) (fun K hK => wp_callF 12 #[.agg (noV s c), .int .i64 (f), .int .i64 (m), .agg (r2V 0 0), .int .i64 1] (by go_simp) (lawused_bad s c 0 0 f m 1 (by decide) (used_bad s c f m 1 (by unfold chk; rw [if_pos (by omega)]) (by decide) hf hm) _) ?_)
    rintro e w5 ⟨rfl, bx⟩
    replace hp3 := hp3.below bx hp3.lt
    replace hW := hW.trans (bx.mono (Nat.le_trans hB0 hW.size))
    clear bx
    refine ⟨_, rfl, hK.out _ _ ?_⟩
    clear hK K
    simp only [List.set_cons_zero, List.set_cons_succ]
    refine runL 19 (.bool true) rfl (by rfl) (by go_simp) ?_
    simp only [List.set_cons_zero, List.set_cons_succ]
    refine callL 20 rfl (by rfl) (fun K hK => wp_callF 11 #[] (by go_simp) (lives_any7 _) ?_)
    rintro e w6 ⟨rfl, bx⟩
    replace hp3 := hp3.below bx hp3.lt
    replace hW := hW.trans (bx.mono (Nat.le_trans hB0 hW.size))
    clear bx
    refine ⟨_, rfl, hK.out _ _ ?_⟩
    clear hK K
    simp only [List.set_cons_zero, List.set_cons_succ]
    refine runL 21 (.bool true) rfl (by rfl) (by go_simp) ?_
    simp only [List.set_cons_zero, List.set_cons_succ]
    refine runL 6 (.bool true) rfl (by rfl) (by go_simp) ?_
    simp only [List.set_cons_zero, List.set_cons_succ]
    refine nilL ?_
    go_wp2_with fail
    go_ret
    exact ⟨rfl, hW⟩
  by_cases h3 : 1048576 < f
  ·
    go_enter Try.func4, Try.ntmps4
    go_upto_region 0 with fail
    refine wl_lit ?_
    refine runWL 3 (.pointer (some ⟨w.heap.size, 0, none⟩)) (w.alloc (.cells (noV s c) 26)) rfl (by rfl) (exec_box 26 (.tmp 0) rfl (.agg (noV s c)) rfl) ?_
    simp only [List.set_cons_zero, List.set_cons_succ]
    have lw_p3 := Nat.le_trans hB0 hW.size
    have hp3 : Blk (w.alloc (.cells (noV s c) 26)) w.heap.size 26 (noV s c) := Blk.new _ _ _
    replace hW := hW.alloc (Nat.le_trans hB0 hW.size) (.cells (noV s c) 26)
    generalize w.alloc (.cells (noV s c) 26) = w7 at *
    generalize w.heap.size = p3 at hp3 lw_p3  ⊢
    refine runL 6 (.bool false) rfl (by rfl) (by go_simp) ?_
    simp only [List.set_cons_zero, List.set_cons_succ]
    refine nilL ?_
    go_upto_region 1 with fail
    refine wl_lit ?_
    refine runL 8 (.int .i64 (f)) rfl (by rfl) (by go_simp) ?_
    simp only [List.set_cons_zero, List.set_cons_succ]
    refine runL 9 (.bool false) rfl (by rfl) (by go_simp) ?_
    simp only [List.set_cons_zero, List.set_cons_succ]
    refine runL 10 (.bool false) rfl (by rfl) (by go_simp) ?_
    simp only [List.set_cons_zero, List.set_cons_succ]
    refine runL 11 (.int .i64 (m)) rfl (by rfl) (by go_simp) ?_
    simp only [List.set_cons_zero, List.set_cons_succ]
    refine runL 12 (.bool false) rfl (by rfl) (by go_simp) ?_
    simp only [List.set_cons_zero, List.set_cons_succ]
    refine runL 13 (.bool false) rfl (by rfl) (by go_simp) ?_
    simp only [List.set_cons_zero, List.set_cons_succ]
    refine runL 7 (.bool false) rfl (by rfl) (by go_simp) ?_
    simp only [List.set_cons_zero, List.set_cons_succ]
    refine nilL ?_
    go_upto_region 3 with fail
    refine wl_lit ?_
    refine runL 23 (.int .i64 (f)) rfl (by rfl) (by go_simp) ?_
    simp only [List.set_cons_zero, List.set_cons_succ]
    refine runL 24 (.bool true) rfl (by rfl) (by go_simp) ?_
    simp only [List.set_cons_zero, List.set_cons_succ]
    refine runL 25 (.bool true) rfl (by rfl) (by go_simp) ?_
    simp only [List.set_cons_zero, List.set_cons_succ]
    refine skipL 26 rfl (by kernel_rfl) ?_
    simp only [List.set_cons_zero, List.set_cons_succ]
    refine skipL 27 rfl (by kernel_rfl) ?_
    simp only [List.set_cons_zero, List.set_cons_succ]
    refine skipL 28 rfl (by kernel_rfl) ?_
    simp only [List.set_cons_zero, List.set_cons_succ]
    refine skipL 29 rfl (by kernel_rfl) ?_
    simp only [List.set_cons_zero, List.set_cons_succ]
    refine runL 30 (.bool true) rfl (by rfl) (by go_simp) ?_
    simp only [List.set_cons_zero, List.set_cons_succ]
    refine runL 22 (.bool true) rfl (by rfl) (by go_simp) ?_
    simp only [List.set_cons_zero, List.set_cons_succ]
    refine nilL ?_
    go_upto_region 4 with fail
    refine wl_lit ?_
    refine runL 31 (.agg (noV s c)) rfl (by rfl) (exec_row 26 (.tmp 3) rfl p3 rfl 26 (noV s c) _ hp3 (by exact Try.underlying26) rfl (noV_sz _ _)) ?_
    simp only [List.set_cons_zero, List.set_cons_succ]
    refine runL 32 (.int .i64 (f)) rfl (by rfl) (by go_simp) ?_
    simp only [List.set_cons_zero, List.set_cons_succ]
    refine runL 33 (.int .i64 (m)) rfl (by rfl) (by go_simp) ?_
    simp only [List.set_cons_zero, List.set_cons_succ]
    refine runL 34 (.agg (r2V 0 0)) rfl (by rfl) (exec_build 33 _ rfl (r2V 0 0) (by kernel_rfl)) ?_
    simp only [List.set_cons_zero, List.set_cons_succ]
    refine callL 35 rfl (by rfl) (fun K hK => wp_callF 12 #[.agg (noV s c), .int .i64 (f), .int .i64 (m), .agg (r2V 0 0), .int .i64 3] (by go_simp) (lawused_bad s c 0 0 f m 3 (by decide) (used_bad s c f m 3 (by unfold chk; rw [if_neg (by omega), if_pos (by omega)]) (by decide) hf hm) _) ?_)
    rintro e w8 ⟨rfl, bx⟩
    replace hp3 := hp3.below bx hp3.lt
    replace hW := hW.trans (bx.mono (Nat.le_trans hB0 hW.size))
    clear bx
    refine ⟨_, rfl, hK.out _ _ ?_⟩
    clear hK K
    simp only [List.set_cons_zero, List.set_cons_succ]
    refine runL 36 (.bool true) rfl (by rfl) (by go_simp) ?_
    simp only [List.set_cons_zero, List.set_cons_succ]
    refine callL 37 rfl (by rfl) (fun K hK => wp_callF 11 #[] (by go_simp) (lives_any7 _) ?_)
    rintro e w9 ⟨rfl, bx⟩
    replace hp3 := hp3.below bx hp3.lt
    replace hW := hW.trans (bx.mono (Nat.le_trans hB0 hW.size))
    clear bx
    refine ⟨_, rfl, hK.out _ _ ?_⟩
    clear hK K
    simp only [List.set_cons_zero, List.set_cons_succ]
    refine runL 38 (.bool true) rfl (by rfl) (by go_simp) ?_
    simp only [List.set_cons_zero, List.set_cons_succ]
    refine runL 6 (.bool true) rfl (by rfl) (by go_simp) ?_
    simp only [List.set_cons_zero, List.set_cons_succ]
    refine nilL ?_
    go_wp2_with fail
    go_ret
    exact ⟨rfl, hW⟩
  have hw : IntKind.i64.wrap (1048576 - f) = 1048576 - f := IntWalk.i64_in _ (by omega)
  by_cases h4 : 1048576 - f < m
  ·
    go_enter Try.func4, Try.ntmps4
    go_upto_region 0 with fail
    refine wl_lit ?_
    refine runWL 3 (.pointer (some ⟨w.heap.size, 0, none⟩)) (w.alloc (.cells (noV s c) 26)) rfl (by rfl) (exec_box 26 (.tmp 0) rfl (.agg (noV s c)) rfl) ?_
    simp only [List.set_cons_zero, List.set_cons_succ]
    have lw_p3 := Nat.le_trans hB0 hW.size
    have hp3 : Blk (w.alloc (.cells (noV s c) 26)) w.heap.size 26 (noV s c) := Blk.new _ _ _
    replace hW := hW.alloc (Nat.le_trans hB0 hW.size) (.cells (noV s c) 26)
    generalize w.alloc (.cells (noV s c) 26) = w10 at *
    generalize w.heap.size = p3 at hp3 lw_p3  ⊢
    refine runL 6 (.bool false) rfl (by rfl) (by go_simp) ?_
    simp only [List.set_cons_zero, List.set_cons_succ]
    refine nilL ?_
    go_upto_region 1 with fail
    refine wl_lit ?_
    refine runL 8 (.int .i64 (f)) rfl (by rfl) (by go_simp) ?_
    simp only [List.set_cons_zero, List.set_cons_succ]
    refine runL 9 (.bool false) rfl (by rfl) (by go_simp) ?_
    simp only [List.set_cons_zero, List.set_cons_succ]
    refine runL 10 (.bool false) rfl (by rfl) (by go_simp) ?_
    simp only [List.set_cons_zero, List.set_cons_succ]
    refine runL 11 (.int .i64 (m)) rfl (by rfl) (by go_simp) ?_
    simp only [List.set_cons_zero, List.set_cons_succ]
    refine runL 12 (.bool false) rfl (by rfl) (by go_simp) ?_
    simp only [List.set_cons_zero, List.set_cons_succ]
    refine runL 13 (.bool false) rfl (by rfl) (by go_simp) ?_
    simp only [List.set_cons_zero, List.set_cons_succ]
    refine runL 7 (.bool false) rfl (by rfl) (by go_simp) ?_
    simp only [List.set_cons_zero, List.set_cons_succ]
    refine nilL ?_
    go_upto_region 3 with fail
    refine wl_lit ?_
    refine runL 23 (.int .i64 (f)) rfl (by rfl) (by go_simp) ?_
    simp only [List.set_cons_zero, List.set_cons_succ]
    refine runL 24 (.bool false) rfl (by rfl) (by go_simp) ?_
    simp only [List.set_cons_zero, List.set_cons_succ]
    refine runL 25 (.bool false) rfl (by rfl) (by go_simp) ?_
    simp only [List.set_cons_zero, List.set_cons_succ]
    refine runL 26 (.int .i64 (m)) rfl (by rfl) (by go_simp) ?_
    simp only [List.set_cons_zero, List.set_cons_succ]
    refine runL 27 (.int .i64 (f)) rfl (by rfl) (by go_simp) ?_
    simp only [List.set_cons_zero, List.set_cons_succ]
    refine runL 28 (.int .i64 (1048576 - f)) rfl (by rfl) (by go_simp) ?_
    simp only [List.set_cons_zero, List.set_cons_succ]
    refine runL 29 (.bool true) rfl (by rfl) (by go_simp) ?_
    simp only [List.set_cons_zero, List.set_cons_succ]
    refine runL 30 (.bool true) rfl (by rfl) (by go_simp) ?_
    simp only [List.set_cons_zero, List.set_cons_succ]
    refine runL 22 (.bool true) rfl (by rfl) (by go_simp) ?_
    simp only [List.set_cons_zero, List.set_cons_succ]
    refine nilL ?_
    go_upto_region 4 with fail
    refine wl_lit ?_
    refine runL 31 (.agg (noV s c)) rfl (by rfl) (exec_row 26 (.tmp 3) rfl p3 rfl 26 (noV s c) _ hp3 (by exact Try.underlying26) rfl (noV_sz _ _)) ?_
    simp only [List.set_cons_zero, List.set_cons_succ]
    refine runL 32 (.int .i64 (f)) rfl (by rfl) (by go_simp) ?_
    simp only [List.set_cons_zero, List.set_cons_succ]
    refine runL 33 (.int .i64 (m)) rfl (by rfl) (by go_simp) ?_
    simp only [List.set_cons_zero, List.set_cons_succ]
    refine runL 34 (.agg (r2V 0 0)) rfl (by rfl) (exec_build 33 _ rfl (r2V 0 0) (by kernel_rfl)) ?_
    simp only [List.set_cons_zero, List.set_cons_succ]
    refine callL 35 rfl (by rfl) (fun K hK => wp_callF 12 #[.agg (noV s c), .int .i64 (f), .int .i64 (m), .agg (r2V 0 0), .int .i64 3] (by go_simp) (lawused_bad s c 0 0 f m 3 (by decide) (used_bad s c f m 3 (by unfold chk; rw [if_neg (by omega), if_pos (by omega)]) (by decide) hf hm) _) ?_)
    rintro e w11 ⟨rfl, bx⟩
    replace hp3 := hp3.below bx hp3.lt
    replace hW := hW.trans (bx.mono (Nat.le_trans hB0 hW.size))
    clear bx
    refine ⟨_, rfl, hK.out _ _ ?_⟩
    clear hK K
    simp only [List.set_cons_zero, List.set_cons_succ]
    refine runL 36 (.bool true) rfl (by rfl) (by go_simp) ?_
    simp only [List.set_cons_zero, List.set_cons_succ]
    refine callL 37 rfl (by rfl) (fun K hK => wp_callF 11 #[] (by go_simp) (lives_any7 _) ?_)
    rintro e w12 ⟨rfl, bx⟩
    replace hp3 := hp3.below bx hp3.lt
    replace hW := hW.trans (bx.mono (Nat.le_trans hB0 hW.size))
    clear bx
    refine ⟨_, rfl, hK.out _ _ ?_⟩
    clear hK K
    simp only [List.set_cons_zero, List.set_cons_succ]
    refine runL 38 (.bool true) rfl (by rfl) (by go_simp) ?_
    simp only [List.set_cons_zero, List.set_cons_succ]
    refine runL 6 (.bool true) rfl (by rfl) (by go_simp) ?_
    simp only [List.set_cons_zero, List.set_cons_succ]
    refine nilL ?_
    go_wp2_with fail
    go_ret
    exact ⟨rfl, hW⟩
  by_cases h5 : m = 0
  ·
    subst h5
    go_enter Try.func4, Try.ntmps4
    go_upto_region 0 with fail
    refine wl_lit ?_
    refine runWL 3 (.pointer (some ⟨w.heap.size, 0, none⟩)) (w.alloc (.cells (noV s c) 26)) rfl (by rfl) (exec_box 26 (.tmp 0) rfl (.agg (noV s c)) rfl) ?_
    simp only [List.set_cons_zero, List.set_cons_succ]
    have lw_p3 := Nat.le_trans hB0 hW.size
    have hp3 : Blk (w.alloc (.cells (noV s c) 26)) w.heap.size 26 (noV s c) := Blk.new _ _ _
    replace hW := hW.alloc (Nat.le_trans hB0 hW.size) (.cells (noV s c) 26)
    generalize w.alloc (.cells (noV s c) 26) = w13 at *
    generalize w.heap.size = p3 at hp3 lw_p3  ⊢
    refine runL 6 (.bool false) rfl (by rfl) (by go_simp) ?_
    simp only [List.set_cons_zero, List.set_cons_succ]
    refine nilL ?_
    go_upto_region 1 with fail
    refine wl_lit ?_
    refine runL 8 (.int .i64 (f)) rfl (by rfl) (by go_simp) ?_
    simp only [List.set_cons_zero, List.set_cons_succ]
    refine runL 9 (.bool false) rfl (by rfl) (by go_simp) ?_
    simp only [List.set_cons_zero, List.set_cons_succ]
    refine runL 10 (.bool false) rfl (by rfl) (by go_simp) ?_
    simp only [List.set_cons_zero, List.set_cons_succ]
    refine runL 11 (.int .i64 0) rfl (by rfl) (by go_simp) ?_
    simp only [List.set_cons_zero, List.set_cons_succ]
    refine runL 12 (.bool false) rfl (by rfl) (by go_simp) ?_
    simp only [List.set_cons_zero, List.set_cons_succ]
    refine runL 13 (.bool false) rfl (by rfl) (by go_simp) ?_
    simp only [List.set_cons_zero, List.set_cons_succ]
    refine runL 7 (.bool false) rfl (by rfl) (by go_simp) ?_
    simp only [List.set_cons_zero, List.set_cons_succ]
    refine nilL ?_
    go_upto_region 3 with fail
    refine wl_lit ?_
    refine runL 23 (.int .i64 (f)) rfl (by rfl) (by go_simp) ?_
    simp only [List.set_cons_zero, List.set_cons_succ]
    refine runL 24 (.bool false) rfl (by rfl) (by go_simp) ?_
    simp only [List.set_cons_zero, List.set_cons_succ]
    refine runL 25 (.bool false) rfl (by rfl) (by go_simp) ?_
    simp only [List.set_cons_zero, List.set_cons_succ]
    refine runL 26 (.int .i64 0) rfl (by rfl) (by go_simp) ?_
    simp only [List.set_cons_zero, List.set_cons_succ]
    refine runL 27 (.int .i64 (f)) rfl (by rfl) (by go_simp) ?_
    simp only [List.set_cons_zero, List.set_cons_succ]
    refine runL 28 (.int .i64 (1048576 - f)) rfl (by rfl) (by go_simp) ?_
    simp only [List.set_cons_zero, List.set_cons_succ]
    refine runL 29 (.bool false) rfl (by rfl) (by go_simp) ?_
    simp only [List.set_cons_zero, List.set_cons_succ]
    refine runL 30 (.bool false) rfl (by rfl) (by go_simp) ?_
    simp only [List.set_cons_zero, List.set_cons_succ]
    refine runL 22 (.bool false) rfl (by rfl) (by go_simp) ?_
    simp only [List.set_cons_zero, List.set_cons_succ]
    refine nilL ?_
    go_upto_region 5 with fail
    refine wl_lit ?_
    refine runL 40 (.int .i64 0) rfl (by rfl) (by go_simp) ?_
    simp only [List.set_cons_zero, List.set_cons_succ]
    refine runL 41 (.bool true) rfl (by rfl) (by go_simp) ?_
    simp only [List.set_cons_zero, List.set_cons_succ]
    refine runL 39 (.bool true) rfl (by rfl) (by go_simp) ?_
    simp only [List.set_cons_zero, List.set_cons_succ]
    refine nilL ?_
    go_upto_region 6 with fail
    refine wl_lit ?_
    refine runL 42 (.agg (noV s c)) rfl (by rfl) (exec_row 26 (.tmp 3) rfl p3 rfl 26 (noV s c) _ hp3 (by exact Try.underlying26) rfl (noV_sz _ _)) ?_
    simp only [List.set_cons_zero, List.set_cons_succ]
    refine runL 43 (.int .i64 (f)) rfl (by rfl) (by go_simp) ?_
    simp only [List.set_cons_zero, List.set_cons_succ]
    refine runL 44 (.int .i64 0) rfl (by rfl) (by go_simp) ?_
    simp only [List.set_cons_zero, List.set_cons_succ]
    refine runL 45 (.agg (r2V 0 0)) rfl (by rfl) (exec_build 33 _ rfl (r2V 0 0) (by kernel_rfl)) ?_
    simp only [List.set_cons_zero, List.set_cons_succ]
    refine callL 46 rfl (by rfl) (fun K hK => wp_callF 12 #[.agg (noV s c), .int .i64 (f), .int .i64 0, .agg (r2V 0 0), .int .i64 16] (by go_simp) (lawused_bad s c 0 0 f 0 16 (by decide) (used_none s c f (by unfold chk; rw [if_neg (by omega), if_neg (by omega)]) hf) _) ?_)
    rintro e w14 ⟨rfl, bx⟩
    replace hp3 := hp3.below bx hp3.lt
    replace hW := hW.trans (bx.mono (Nat.le_trans hB0 hW.size))
    clear bx
    refine ⟨_, rfl, hK.out _ _ ?_⟩
    clear hK K
    simp only [List.set_cons_zero, List.set_cons_succ]
    refine runL 47 (.bool true) rfl (by rfl) (by go_simp) ?_
    simp only [List.set_cons_zero, List.set_cons_succ]
    refine callL 48 rfl (by rfl) (fun K hK => wp_callF 11 #[] (by go_simp) (lives_any7 _) ?_)
    rintro e w15 ⟨rfl, bx⟩
    replace hp3 := hp3.below bx hp3.lt
    replace hW := hW.trans (bx.mono (Nat.le_trans hB0 hW.size))
    clear bx
    refine ⟨_, rfl, hK.out _ _ ?_⟩
    clear hK K
    simp only [List.set_cons_zero, List.set_cons_succ]
    refine runL 49 (.bool true) rfl (by rfl) (by go_simp) ?_
    simp only [List.set_cons_zero, List.set_cons_succ]
    refine runL 6 (.bool true) rfl (by rfl) (by go_simp) ?_
    simp only [List.set_cons_zero, List.set_cons_succ]
    refine nilL ?_
    go_wp2_with fail
    go_ret
    exact ⟨rfl, hW⟩
  obtain ⟨F, rfl⟩ : ∃ F : Nat, f = (F : Int) := ⟨f.toNat, by omega⟩
  obtain ⟨M, rfl⟩ : ∃ M : Nat, m = (M : Int) := ⟨m.toNat, by omega⟩
  obtain ⟨a, ha⟩ : ∃ a, F / 16 = a := ⟨_, rfl⟩
  obtain ⟨b, hb⟩ : ∃ b, (F + M - 1) / 16 = b := ⟨_, rfl⟩
  have hM0 : 0 < M := by omega
  have hFM : F + M ≤ 1048576 := by omega
  have hus := used_ok s c F M a b hM0 hFM ha hb
  have husq := Lib.hid hus
  have d1 : (F : Int).tdiv 16 = (a : Int) := by rw [Int.tdiv_eq_ediv_of_nonneg (by omega)]; omega
  have d2 : (F : Int) / 16 = (a : Int) := by omega
  have x1 : IntKind.i64.wrap ((F : Int) + (M : Int)) = (F : Int) + (M : Int) := IntWalk.i64_in _ (by omega)
  have x2 : IntKind.i64.wrap ((F : Int) + (M : Int) - 1) = (F : Int) + (M : Int) - 1 := IntWalk.i64_in _ (by omega)
  have d3 : ((F : Int) + (M : Int) - 1).tdiv 16 = (b : Int) := by rw [Int.tdiv_eq_ediv_of_nonneg (by omega)]; omega
  have d4 : ((F : Int) + (M : Int) - 1) / 16 = (b : Int) := by omega
  have x3 : IntKind.u32.wrap (a : Int) = (a : Int) := by simp [IntKind.wrap, IntKind.bits, IntKind.signed]; omega
  have x4 : IntKind.u32.wrap (b : Int) = (b : Int) := by simp [IntKind.wrap, IntKind.bits, IntKind.signed]; omega
  have x5 : IntKind.i64.wrap (a : Int) = (a : Int) := IntWalk.i64_in _ (by omega)
  have x6 : IntKind.i64.wrap (b : Int) = (b : Int) := IntWalk.i64_in _ (by omega)
  have h5N : ¬ M = 0 := by omega
  clear hus ha hb
  go_enter Try.func4, Try.ntmps4
  go_upto_region 0 with fail
  refine wl_lit ?_
  refine runWL 3 (.pointer (some ⟨w.heap.size, 0, none⟩)) (w.alloc (.cells (noV s c) 26)) rfl (by rfl) (exec_box 26 (.tmp 0) rfl (.agg (noV s c)) rfl) ?_
  simp only [List.set_cons_zero, List.set_cons_succ]
  have lw_p3 := Nat.le_trans hB0 hW.size
  have hp3 : Blk (w.alloc (.cells (noV s c) 26)) w.heap.size 26 (noV s c) := Blk.new _ _ _
  replace hW := hW.alloc (Nat.le_trans hB0 hW.size) (.cells (noV s c) 26)
  generalize w.alloc (.cells (noV s c) 26) = w16 at *
  generalize w.heap.size = p3 at hp3 lw_p3  ⊢
  refine runL 6 (.bool false) rfl (by rfl) (by go_simp) ?_
  simp only [List.set_cons_zero, List.set_cons_succ]
  refine nilL ?_
  go_upto_region 1 with fail
  refine wl_lit ?_
  refine runL 8 (.int .i64 (F : Int)) rfl (by rfl) (by go_simp) ?_
  simp only [List.set_cons_zero, List.set_cons_succ]
  refine runL 9 (.bool false) rfl (by rfl) (by go_simp) ?_
  simp only [List.set_cons_zero, List.set_cons_succ]
  refine runL 10 (.bool false) rfl (by rfl) (by go_simp) ?_
  simp only [List.set_cons_zero, List.set_cons_succ]
  refine runL 11 (.int .i64 (M : Int)) rfl (by rfl) (by go_simp) ?_
  simp only [List.set_cons_zero, List.set_cons_succ]
  refine runL 12 (.bool false) rfl (by rfl) (by go_simp) ?_
  simp only [List.set_cons_zero, List.set_cons_succ]
  refine runL 13 (.bool false) rfl (by rfl) (by go_simp) ?_
  simp only [List.set_cons_zero, List.set_cons_succ]
  refine runL 7 (.bool false) rfl (by rfl) (by go_simp) ?_
  simp only [List.set_cons_zero, List.set_cons_succ]
  refine nilL ?_
  go_upto_region 3 with fail
  refine wl_lit ?_
  refine runL 23 (.int .i64 (F : Int)) rfl (by rfl) (by go_simp) ?_
  simp only [List.set_cons_zero, List.set_cons_succ]
  refine runL 24 (.bool false) rfl (by rfl) (by go_simp) ?_
  simp only [List.set_cons_zero, List.set_cons_succ]
  refine runL 25 (.bool false) rfl (by rfl) (by go_simp) ?_
  simp only [List.set_cons_zero, List.set_cons_succ]
  refine runL 26 (.int .i64 (M : Int)) rfl (by rfl) (by go_simp) ?_
  simp only [List.set_cons_zero, List.set_cons_succ]
  refine runL 27 (.int .i64 (F : Int)) rfl (by rfl) (by go_simp) ?_
  simp only [List.set_cons_zero, List.set_cons_succ]
  refine runL 28 (.int .i64 (1048576 - (F : Int))) rfl (by rfl) (by go_simp) ?_
  simp only [List.set_cons_zero, List.set_cons_succ]
  refine runL 29 (.bool false) rfl (by rfl) (by go_simp) ?_
  simp only [List.set_cons_zero, List.set_cons_succ]
  refine runL 30 (.bool false) rfl (by rfl) (by go_simp) ?_
  simp only [List.set_cons_zero, List.set_cons_succ]
  refine runL 22 (.bool false) rfl (by rfl) (by go_simp) ?_
  simp only [List.set_cons_zero, List.set_cons_succ]
  refine nilL ?_
  go_upto_region 5 with fail
  refine wl_lit ?_
  refine runL 40 (.int .i64 (M : Int)) rfl (by rfl) (by go_simp) ?_
  simp only [List.set_cons_zero, List.set_cons_succ]
  refine runL 41 (.bool false) rfl (by rfl) (by go_simp) ?_
  simp only [List.set_cons_zero, List.set_cons_succ]
  refine runL 39 (.bool false) rfl (by rfl) (by go_simp) ?_
  simp only [List.set_cons_zero, List.set_cons_succ]
  refine nilL ?_
  go_upto_region 7 with fail
  refine wl_lit ?_
  refine runL 50 (.agg (noV s c)) rfl (by rfl) (exec_row 26 (.tmp 3) rfl p3 rfl 26 (noV s c) _ hp3 (by exact Try.underlying26) rfl (noV_sz _ _)) ?_
  simp only [List.set_cons_zero, List.set_cons_succ]
  refine runL 51 (.int .i64 (F : Int)) rfl (by rfl) (by go_simp) ?_
  simp only [List.set_cons_zero, List.set_cons_succ]
  refine runL 52 (.int .i64 (M : Int)) rfl (by rfl) (by go_simp) ?_
  simp only [List.set_cons_zero, List.set_cons_succ]
  refine runL 53 (.int .i64 (F : Int)) rfl (by rfl) (by go_simp) ?_
  simp only [List.set_cons_zero, List.set_cons_succ]
  refine runL 54 (.int .i64 (a : Int)) rfl (by rfl) (by go_simp) ?_
  simp only [List.set_cons_zero, List.set_cons_succ]
  refine runL 55 (.int .u32 (a : Int)) rfl (by rfl) (by go_simp) ?_
  simp only [List.set_cons_zero, List.set_cons_succ]
  refine runL 56 (.int .i64 (F : Int)) rfl (by rfl) (by go_simp) ?_
  simp only [List.set_cons_zero, List.set_cons_succ]
  refine runL 57 (.int .i64 (M : Int)) rfl (by rfl) (by go_simp) ?_
  simp only [List.set_cons_zero, List.set_cons_succ]
  refine runL 58 (.int .i64 ((F : Int) + (M : Int))) rfl (by rfl) (by go_simp) ?_
  simp only [List.set_cons_zero, List.set_cons_succ]
  refine runL 59 (.int .i64 ((F : Int) + (M : Int) - 1)) rfl (by rfl) (by go_simp) ?_
  simp only [List.set_cons_zero, List.set_cons_succ]
  refine runL 60 (.int .i64 (b : Int)) rfl (by rfl) (by go_simp) ?_
  simp only [List.set_cons_zero, List.set_cons_succ]
  refine runL 61 (.int .u32 (b : Int)) rfl (by rfl) (by go_simp) ?_
  simp only [List.set_cons_zero, List.set_cons_succ]
  refine runL 62 (.agg (r2V a b)) rfl (by rfl) (exec_build 33 _ rfl (r2V a b) (by kernel_rfl)) ?_
  simp only [List.set_cons_zero, List.set_cons_succ]
  refine callL 63 rfl (by rfl) (fun K hK => wp_callF 12 #[.agg (noV s c), .int .i64 (F : Int), .int .i64 (M : Int), .agg (r2V a b), .int .i64 0] (by go_simp) (lawused_ok s c a b F M husq.out _) ?_)
  rintro e w17 ⟨rfl, bx⟩
  replace hp3 := hp3.below bx hp3.lt
  replace hW := hW.trans (bx.mono (Nat.le_trans hB0 hW.size))
  clear bx
  refine ⟨_, rfl, hK.out _ _ ?_⟩
  clear hK K
  simp only [List.set_cons_zero, List.set_cons_succ]
  refine runL 64 (.bool true) rfl (by rfl) (by go_simp) ?_
  simp only [List.set_cons_zero, List.set_cons_succ]
  refine callL 65 rfl (by rfl) (fun K hK => wp_callF 11 #[] (by go_simp) (lives_any7 _) ?_)
  rintro e w18 ⟨rfl, bx⟩
  replace hp3 := hp3.below bx hp3.lt
  replace hW := hW.trans (bx.mono (Nat.le_trans hB0 hW.size))
  clear bx
  refine ⟨_, rfl, hK.out _ _ ?_⟩
  clear hK K
  simp only [List.set_cons_zero, List.set_cons_succ]
  refine runL 66 (.bool true) rfl (by rfl) (by go_simp) ?_
  simp only [List.set_cons_zero, List.set_cons_succ]
  refine runL 6 (.bool true) rfl (by rfl) (by go_simp) ?_
  simp only [List.set_cons_zero, List.set_cons_succ]
  refine nilL ?_
  go_wp2_with fail
  go_ret
  exact ⟨rfl, hW⟩

set_option maxRecDepth 8000 in
set_option maxHeartbeats 2000000 in
theorem lawSOver_any (s c a b s2 c2 a2 b2 : Nat) (hc : c < 18446744073709551616) (w : World) :
    Calls Try.prog 5 #[.agg (rgV s c a b), .agg (rgV s2 c2 a2 b2)] w fun e w' => e = .returned (.bool true) ∧ Below w.heap.size w w' := by
  obtain ⟨r, hr⟩ : ∃ r, ovl s c a b s2 c2 a2 b2 = r := ⟨_, rfl⟩
  obtain ⟨c9, hc9⟩ : ∃ x, (c + 1) % 18446744073709551616 = x := ⟨_, rfl⟩
  have hcI : IntKind.u64.wrap ((c : Int) + 1) = (c9 : Int) := by simp [IntKind.wrap, IntKind.bits, IntKind.signed]; omega
  have hne : ¬ (s = s2 ∧ c = c9) := fun h => by have := h.2; omega
  have hoff := Lib.hid (ovl_off s c a b s2 c9 a2 b2 hne)
  have hslf := Lib.hid (ovl_self s c a b)
  have hrq := Lib.hid hr
  have hrs := Lib.hid ((ovl_sym s c a b s2 c2 a2 b2).trans hr)
  clear hr hne hc9
  obtain ⟨B0, hB0e⟩ : ∃ b, w.heap.size = b := ⟨_, rfl⟩
  rw [hB0e]
  have hW : Below B0 w w := by rw [← hB0e]; exact Below.refl _ _
  have hB0 : B0 ≤ w.heap.size := by omega
  have hB0q := Lib.hid hB0e
  clear hB0e
  by_cases hab : a ≤ b
  ·
    have habI : (a : Int) ≤ (b : Int) := by omega
    have hsl := Lib.hid (hslf.out.trans (decide_eq_true hab))
    cases r
    ·
      go_enter Try.func5, Try.ntmps5
      go_upto_region 0 with fail
      refine wl_lit ?_
      refine runWL 2 (.pointer (some ⟨w.heap.size, 0, none⟩)) (w.alloc (.cells (rgV s c a b) 36)) rfl (by rfl) (exec_box 36 (.tmp 0) rfl (.agg (rgV s c a b)) rfl) ?_
      simp only [List.set_cons_zero, List.set_cons_succ]
      have lw_p2 := Nat.le_trans hB0 hW.size
      have hp2 : Blk (w.alloc (.cells (rgV s c a b) 36)) w.heap.size 36 (rgV s c a b) := Blk.new _ _ _
      replace hW := hW.alloc (Nat.le_trans hB0 hW.size) (.cells (rgV s c a b) 36)
      generalize w.alloc (.cells (rgV s c a b) 36) = w1 at *
      generalize w.heap.size = p2 at hp2 lw_p2  ⊢
      refine runWL 3 (.pointer (some ⟨w1.heap.size, 0, none⟩)) (w1.alloc (.cells (rgV s2 c2 a2 b2) 36)) rfl (by rfl) (exec_box 36 (.tmp 1) rfl (.agg (rgV s2 c2 a2 b2)) rfl) ?_
      simp only [List.set_cons_zero, List.set_cons_succ]
      have lp2_p3 := hp2.lt
      have lw_p3 := Nat.le_trans hB0 hW.size
      have hp3 : Blk (w1.alloc (.cells (rgV s2 c2 a2 b2) 36)) w1.heap.size 36 (rgV s2 c2 a2 b2) := Blk.new _ _ _
      replace hp2 := hp2.alloc (.cells (rgV s2 c2 a2 b2) 36)
      replace hW := hW.alloc (Nat.le_trans hB0 hW.size) (.cells (rgV s2 c2 a2 b2) 36)
      generalize w1.alloc (.cells (rgV s2 c2 a2 b2) 36) = w2 at *
      generalize w1.heap.size = p3 at hp3 lw_p3 lp2_p3 ⊢
      refine runL 4 (.bool false) rfl (by rfl) (by go_simp) ?_
      simp only [List.set_cons_zero, List.set_cons_succ]
      refine nilL ?_
      go_upto_region 1 with fail
      refine wl_lit ?_
      refine runL 7 (.pointer (some ⟨p2, 0, none⟩)) rfl (by rfl) (by go_simp) ?_
      simp only [List.set_cons_zero, List.set_cons_succ]
      refine runL 8 (.agg (noV s c)) rfl (by rfl) (exec_mid 26 (.tmp 7) rfl p2 0 rfl (noV s c).toList _ (hp2.range 0 2) (by exact Try.underlying26) rfl (by kernel_rfl)) ?_
      simp only [List.set_cons_zero, List.set_cons_succ]
      refine runL 9 (.pointer (some ⟨p3, 0, none⟩)) rfl (by rfl) (by go_simp) ?_
      simp only [List.set_cons_zero, List.set_cons_succ]
      refine runL 10 (.agg (noV s2 c2)) rfl (by rfl) (exec_mid 26 (.tmp 9) rfl p3 0 rfl (noV s2 c2).toList _ (hp3.range 0 2) (by exact Try.underlying26) rfl (by kernel_rfl)) ?_
      simp only [List.set_cons_zero, List.set_cons_succ]
      refine runL 11 (.pointer (some ⟨p2, 2, none⟩)) rfl (by rfl) (by go_simp) ?_
      simp only [List.set_cons_zero, List.set_cons_succ]
      refine runL 12 (.int .u32 (((a : Nat) : Int))) rfl (by rfl) (exec_cell 23 (.tmp 11) rfl p2 2 rfl (.int .u32 (((a : Nat) : Int))) _ Try.underlying23 rfl (hp2.cellIs 2 rfl)) ?_
      simp only [List.set_cons_zero, List.set_cons_succ]
      refine runL 13 (.pointer (some ⟨p2, 3, none⟩)) rfl (by rfl) (by go_simp) ?_
      simp only [List.set_cons_zero, List.set_cons_succ]
      refine runL 14 (.int .u32 (((b : Nat) : Int))) rfl (by rfl) (exec_cell 23 (.tmp 13) rfl p2 3 rfl (.int .u32 (((b : Nat) : Int))) _ Try.underlying23 rfl (hp2.cellIs 3 rfl)) ?_
      simp only [List.set_cons_zero, List.set_cons_succ]
      refine runL 15 (.agg (r2V a b)) rfl (by rfl) (exec_build 33 _ rfl (r2V a b) (by kernel_rfl)) ?_
      simp only [List.set_cons_zero, List.set_cons_succ]
      refine runL 16 (.pointer (some ⟨p3, 2, none⟩)) rfl (by rfl) (by go_simp) ?_
      simp only [List.set_cons_zero, List.set_cons_succ]
      refine runL 17 (.int .u32 (((a2 : Nat) : Int))) rfl (by rfl) (exec_cell 23 (.tmp 16) rfl p3 2 rfl (.int .u32 (((a2 : Nat) : Int))) _ Try.underlying23 rfl (hp3.cellIs 2 rfl)) ?_
      simp only [List.set_cons_zero, List.set_cons_succ]
      refine runL 18 (.pointer (some ⟨p3, 3, none⟩)) rfl (by rfl) (by go_simp) ?_
      simp only [List.set_cons_zero, List.set_cons_succ]
      refine runL 19 (.int .u32 (((b2 : Nat) : Int))) rfl (by rfl) (exec_cell 23 (.tmp 18) rfl p3 3 rfl (.int .u32 (((b2 : Nat) : Int))) _ Try.underlying23 rfl (hp3.cellIs 3 rfl)) ?_
      simp only [List.set_cons_zero, List.set_cons_succ]
      refine runL 20 (.agg (r2V a2 b2)) rfl (by rfl) (exec_build 33 _ rfl (r2V a2 b2) (by kernel_rfl)) ?_
      simp only [List.set_cons_zero, List.set_cons_succ]
      refine callL 21 rfl (by rfl) (fun K hK => wp_callF 13 #[.agg (noV s c), .agg (noV s2 c2), .agg (r2V a b), .agg (r2V a2 b2)] (by go_simp) (roverlap_any s c a b s2 c2 a2 b2 false hrq.out _) ?_)
      rintro e w3 ⟨rfl, bx⟩
      replace hp2 := hp2.below bx hp2.lt
      replace hp3 := hp3.below bx hp3.lt
      replace hW := hW.trans (bx.mono (Nat.le_trans hB0 hW.size))
      clear bx
      refine ⟨_, rfl, hK.out _ _ ?_⟩
      clear hK K
      simp only [List.set_cons_zero, List.set_cons_succ]
      refine runL 5 (.bool false) rfl (by rfl) (by go_simp) ?_
      simp only [List.set_cons_zero, List.set_cons_succ]
      refine nilL ?_
      go_upto_region 2 with fail
      refine wl_lit ?_
      refine runL 22 (.agg (rgV s2 c2 a2 b2)) rfl (by rfl) (exec_row 36 (.tmp 3) rfl p3 rfl 36 (rgV s2 c2 a2 b2) _ hp3 (by exact Try.underlying36) rfl (rgV_sz _ _ _ _)) ?_
      simp only [List.set_cons_zero, List.set_cons_succ]
      refine runWL 6 (.pointer (some ⟨w3.heap.size, 0, none⟩)) (w3.alloc (.cells (rgV 0 0 0 0) 36)) rfl (by rfl) (exec_allocV 36 rfl _ (zv_Range _)) ?_
      simp only [List.set_cons_zero, List.set_cons_succ]
      have lp2_p6 := hp2.lt
      have lp3_p6 := hp3.lt
      have lw_p6 := Nat.le_trans hB0 hW.size
      have hp6 : Blk (w3.alloc (.cells (rgV 0 0 0 0) 36)) w3.heap.size 36 (rgV 0 0 0 0) := Blk.new _ _ _
      replace hp2 := hp2.alloc (.cells (rgV 0 0 0 0) 36)
      replace hp3 := hp3.alloc (.cells (rgV 0 0 0 0) 36)
      replace hW := hW.alloc (Nat.le_trans hB0 hW.size) (.cells (rgV 0 0 0 0) 36)
      generalize w3.alloc (.cells (rgV 0 0 0 0) 36) = w4 at *
      generalize w3.heap.size = p6 at hp6 lw_p6 lp2_p6 lp3_p6 ⊢
      refine runSL (w4.setRow p6 (rgV s2 c2 a2 b2)) rfl (by rfl) (exec_storeRow 36 (.tmp 6) (.tmp 22) rfl p6 rfl (rgV s2 c2 a2 b2) rfl 36 (rgV 0 0 0 0) hp6 (sz_eq (rgV_sz _ _ _ _) (rgV_sz _ _ _ _)) (rgV_sz _ _ _ _) (rgV_one _ _ _ _)) ?_
      replace hp2 := hp2.rowFar (show p6 ≠ p2 from (by omega)) (rgV s2 c2 a2 b2)
      replace hp3 := hp3.rowFar (show p6 ≠ p3 from (by omega)) (rgV s2 c2 a2 b2)
      replace hp6 := hp6.row (rgV s2 c2 a2 b2)
      replace hW := below_setRow hW lw_p6 (rgV s2 c2 a2 b2)
      generalize w4.setRow p6 (rgV s2 c2 a2 b2) = w5 at *
      refine nilL ?_
      go_upto_region 3 with fail
      refine wl_lit ?_
      refine runL 23 (.pointer (some ⟨p2, 0, none⟩)) rfl (by rfl) (by go_simp) ?_
      simp only [List.set_cons_zero, List.set_cons_succ]
      refine runL 24 (.pointer (some ⟨p2, 1, none⟩)) rfl (by rfl) (by go_simp) ?_
      simp only [List.set_cons_zero, List.set_cons_succ]
      refine runL 25 (.int .u64 (((c : Nat) : Int))) rfl (by rfl) (exec_cell 24 (.tmp 24) rfl p2 1 rfl (.int .u64 (((c : Nat) : Int))) _ Try.underlying24 rfl (hp2.cellIs 1 rfl)) ?_
      simp only [List.set_cons_zero, List.set_cons_succ]
      refine runL 26 (.int .u64 ((c9 : Nat) : Int)) rfl (by rfl) (by go_simp) ?_
      simp only [List.set_cons_zero, List.set_cons_succ]
      refine runL 27 (.pointer (some ⟨p6, 0, none⟩)) rfl (by rfl) (by go_simp) ?_
      simp only [List.set_cons_zero, List.set_cons_succ]
      refine runL 28 (.pointer (some ⟨p6, 1, none⟩)) rfl (by rfl) (by go_simp) ?_
      simp only [List.set_cons_zero, List.set_cons_succ]
      refine runSL (w5.setCell ⟨p6, 1, none⟩ (.int .u64 ((c9 : Nat) : Int))) rfl (by rfl) (exec_storeCell 24 (.tmp 28) (.tmp 26) rfl p6 1 rfl (.int .u64 ((c9 : Nat) : Int)) rfl rfl rfl 36 (rgV s2 c2 a2 b2) hp6 (show 1 < 4 by decide) (by kernel_rfl)) ?_
      replace hp2 := hp2.far (p := ⟨p6, 1, none⟩) (show p2 ≠ p6 from (by omega)) (.int .u64 ((c9 : Nat) : Int))
      replace hp3 := hp3.far (p := ⟨p6, 1, none⟩) (show p3 ≠ p6 from (by omega)) (.int .u64 ((c9 : Nat) : Int))
      replace hp6 : Blk (w5.setCell ⟨p6, 1, none⟩ (.int .u64 ((c9 : Nat) : Int))) p6 36 (#[.int .u32 (((s2 : Nat) : Int)), .int .u64 ((c9 : Nat) : Int), .int .u32 (((a2 : Nat) : Int)), .int .u32 (((b2 : Nat) : Int))]) := hp6.set_ 1 (.int .u64 ((c9 : Nat) : Int))
      replace hW := hW.setCell (p := ⟨p6, 1, none⟩) lw_p6 (.int .u64 ((c9 : Nat) : Int))
      generalize w5.setCell ⟨p6, 1, none⟩ (.int .u64 ((c9 : Nat) : Int)) = w6 at *
      refine nilL ?_
      go_upto_region 4 with fail
      refine wp_region_held_drew (S := fun wr => Blk wr p2 36 (rgV s c a b) ∧ Blk wr p3 36 (rgV s2 c2 a2 b2) ∧ Blk wr p6 36 (#[.int .u32 (((s2 : Nat) : Int)), .int .u64 ((c9 : Nat) : Int), .int .u32 (((a2 : Nat) : Int)), .int .u32 (((b2 : Nat) : Int))]) ∧ Below B0 w wr) (by kernel_rfl) ⟨hp2.drew, hp3.drew, hp6.drew, below_drewN hW 1⟩ (fun hH => ?_)
      clear hp2 hp3 hp6 hW
      obtain ⟨hp2, hp3, hp6, hW⟩ := hH
      generalize w6.drew = w7 at *
      refine takeH 32 0 29 (.agg (rgV s c a b)) rfl rfl (by kernel_rfl) (by kernel_rfl) (by kernel_rfl) (fun _ _ _ h => h) (Or.inl ⟨by rfl, fun _ h => exec_row 36 (.tmp 2) rfl p2 rfl 36 (rgV s c a b) _ h.1 (by exact Try.underlying36) rfl (rgV_sz _ _ _ _)⟩) ⟨hp2, hp3, hp6, hW⟩ ?_
      simp only [List.set_cons_zero, List.set_cons_succ]
      refine takeH 31 1 30 (.agg (rgV s2 c2 a2 b2)) rfl rfl (by kernel_rfl) (by kernel_rfl) (by kernel_rfl) (fun _ _ _ h => h) (Or.inl ⟨by rfl, fun _ h => exec_row 36 (.tmp 3) rfl p3 rfl 36 (rgV s2 c2 a2 b2) _ h.2.1 (by exact Try.underlying36) rfl (rgV_sz _ _ _ _)⟩) ⟨hp2, hp3, hp6, hW⟩ ?_
      simp only [List.set_cons_zero, List.set_cons_succ]
      refine takeH 30 3 32 (.bool false) rfl rfl (by kernel_rfl) (by kernel_rfl) (by kernel_rfl) (fun _ _ _ h => h) (Or.inl ⟨by rfl, fun w _ => by go_simp⟩) ⟨hp2, hp3, hp6, hW⟩ ?_
      simp only [List.set_cons_zero, List.set_cons_succ]
      refine wpAnyH_ready (by kernel_rfl) (by simp) (readyCons 29 2 31 rfl rfl (by rfl) (fun K hK => wp_callF 14 #[.agg (rgV s c a b), .agg (rgV s2 c2 a2 b2)] (by go_simp) (lov s c a b s2 c2 a2 b2 false hrq.out _) ?_) AllReadyH.nil)
      rintro e w8 ⟨rfl, bx⟩
      replace hp2 := hp2.below bx hp2.lt
      replace hp3 := hp3.below bx hp3.lt
      replace hp6 := hp6.below bx hp6.lt
      replace hW := hW.trans (bx.mono (Nat.le_trans hB0 hW.size))
      clear bx
      refine ⟨_, rfl, hK.out _ _ ⟨hp2, hp3, hp6, hW⟩ (fun _ => ?_)⟩
      clear hK K
      simp only [List.set_cons_zero, List.set_cons_succ]
      refine takeH 28 4 33 (.bool true) rfl rfl (by kernel_rfl) (by kernel_rfl) (by kernel_rfl) (fun _ _ _ h => h) (Or.inl ⟨by rfl, fun w _ => by go_simp⟩) ⟨hp2, hp3, hp6, hW⟩ ?_
      simp only [List.set_cons_zero, List.set_cons_succ]
      refine takeH 27 5 34 (.bool true) rfl rfl (by kernel_rfl) (by kernel_rfl) (by kernel_rfl) (fun _ _ _ h => h) (Or.inl ⟨by rfl, fun w _ => by go_simp⟩) ⟨hp2, hp3, hp6, hW⟩ ?_
      simp only [List.set_cons_zero, List.set_cons_succ]
      refine takeH 26 6 35 (.agg (rgV s2 c2 a2 b2)) rfl rfl (by kernel_rfl) (by kernel_rfl) (by kernel_rfl) (fun _ _ _ h => h) (Or.inl ⟨by rfl, fun _ h => exec_row 36 (.tmp 3) rfl p3 rfl 36 (rgV s2 c2 a2 b2) _ h.2.1 (by exact Try.underlying36) rfl (rgV_sz _ _ _ _)⟩) ⟨hp2, hp3, hp6, hW⟩ ?_
      simp only [List.set_cons_zero, List.set_cons_succ]
      refine takeH 25 7 36 (.agg (rgV s c a b)) rfl rfl (by kernel_rfl) (by kernel_rfl) (by kernel_rfl) (fun _ _ _ h => h) (Or.inl ⟨by rfl, fun _ h => exec_row 36 (.tmp 2) rfl p2 rfl 36 (rgV s c a b) _ h.1 (by exact Try.underlying36) rfl (rgV_sz _ _ _ _)⟩) ⟨hp2, hp3, hp6, hW⟩ ?_
      simp only [List.set_cons_zero, List.set_cons_succ]
      refine takeH 24 9 38 (.bool false) rfl rfl (by kernel_rfl) (by kernel_rfl) (by kernel_rfl) (fun _ _ _ h => h) (Or.inl ⟨by rfl, fun w _ => by go_simp⟩) ⟨hp2, hp3, hp6, hW⟩ ?_
      simp only [List.set_cons_zero, List.set_cons_succ]
      refine wpAnyH_ready (by kernel_rfl) (by simp) (readyCons 23 8 37 rfl rfl (by rfl) (fun K hK => wp_callF 14 #[.agg (rgV s2 c2 a2 b2), .agg (rgV s c a b)] (by go_simp) (lov s2 c2 a2 b2 s c a b false hrs.out _) ?_) AllReadyH.nil)
      rintro e w9 ⟨rfl, bx⟩
      replace hp2 := hp2.below bx hp2.lt
      replace hp3 := hp3.below bx hp3.lt
      replace hp6 := hp6.below bx hp6.lt
      replace hW := hW.trans (bx.mono (Nat.le_trans hB0 hW.size))
      clear bx
      refine ⟨_, rfl, hK.out _ _ ⟨hp2, hp3, hp6, hW⟩ (fun _ => ?_)⟩
      clear hK K
      simp only [List.set_cons_zero, List.set_cons_succ]
      refine takeH 22 10 39 (.bool true) rfl rfl (by kernel_rfl) (by kernel_rfl) (by kernel_rfl) (fun _ _ _ h => h) (Or.inl ⟨by rfl, fun w _ => by go_simp⟩) ⟨hp2, hp3, hp6, hW⟩ ?_
      simp only [List.set_cons_zero, List.set_cons_succ]
      refine takeH 21 11 40 (.bool true) rfl rfl (by kernel_rfl) (by kernel_rfl) (by kernel_rfl) (fun _ _ _ h => h) (Or.inl ⟨by rfl, fun w _ => by go_simp⟩) ⟨hp2, hp3, hp6, hW⟩ ?_
      simp only [List.set_cons_zero, List.set_cons_succ]
      refine takeH 20 12 41 (.bool true) rfl rfl (by kernel_rfl) (by kernel_rfl) (by kernel_rfl) (fun _ _ _ h => h) (Or.inl ⟨by rfl, fun w _ => by go_simp⟩) ⟨hp2, hp3, hp6, hW⟩ ?_
      simp only [List.set_cons_zero, List.set_cons_succ]
      refine takeH 19 13 42 (.agg (rgV s c a b)) rfl rfl (by kernel_rfl) (by kernel_rfl) (by kernel_rfl) (fun _ _ _ h => h) (Or.inl ⟨by rfl, fun _ h => exec_row 36 (.tmp 2) rfl p2 rfl 36 (rgV s c a b) _ h.1 (by exact Try.underlying36) rfl (rgV_sz _ _ _ _)⟩) ⟨hp2, hp3, hp6, hW⟩ ?_
      simp only [List.set_cons_zero, List.set_cons_succ]
      refine takeH 18 14 43 (.agg (#[.int .u32 (((s2 : Nat) : Int)), .int .u64 ((c9 : Nat) : Int), .int .u32 (((a2 : Nat) : Int)), .int .u32 (((b2 : Nat) : Int))])) rfl rfl (by kernel_rfl) (by kernel_rfl) (by kernel_rfl) (fun _ _ _ h => h) (Or.inl ⟨by rfl, fun _ h => exec_row 36 (.tmp 6) rfl p6 rfl 36 (#[.int .u32 (((s2 : Nat) : Int)), .int .u64 ((c9 : Nat) : Int), .int .u32 (((a2 : Nat) : Int)), .int .u32 (((b2 : Nat) : Int))]) _ h.2.2.1 (by exact Try.underlying36) rfl (rgV_sz _ _ _ _)⟩) ⟨hp2, hp3, hp6, hW⟩ ?_
      simp only [List.set_cons_zero, List.set_cons_succ]
      refine wpAnyH_ready (by kernel_rfl) (by simp) (readyCons 17 15 44 rfl rfl (by rfl) (fun K hK => wp_callF 14 #[.agg (rgV s c a b), .agg (#[.int .u32 (((s2 : Nat) : Int)), .int .u64 ((c9 : Nat) : Int), .int .u32 (((a2 : Nat) : Int)), .int .u32 (((b2 : Nat) : Int))])] (by go_simp) (lov s c a b s2 c9 a2 b2 false hoff.out _) ?_) AllReadyH.nil)
      rintro e w10 ⟨rfl, bx⟩
      replace hp2 := hp2.below bx hp2.lt
      replace hp3 := hp3.below bx hp3.lt
      replace hp6 := hp6.below bx hp6.lt
      replace hW := hW.trans (bx.mono (Nat.le_trans hB0 hW.size))
      clear bx
      refine ⟨_, rfl, hK.out _ _ ⟨hp2, hp3, hp6, hW⟩ (fun _ => ?_)⟩
      clear hK K
      simp only [List.set_cons_zero, List.set_cons_succ]
      refine takeH 16 16 45 (.bool true) rfl rfl (by kernel_rfl) (by kernel_rfl) (by kernel_rfl) (fun _ _ _ h => h) (Or.inl ⟨by rfl, fun w _ => by go_simp⟩) ⟨hp2, hp3, hp6, hW⟩ ?_
      simp only [List.set_cons_zero, List.set_cons_succ]
      refine takeH 15 17 46 (.bool true) rfl rfl (by kernel_rfl) (by kernel_rfl) (by kernel_rfl) (fun _ _ _ h => h) (Or.inl ⟨by rfl, fun w _ => by go_simp⟩) ⟨hp2, hp3, hp6, hW⟩ ?_
      simp only [List.set_cons_zero, List.set_cons_succ]
      refine takeH 14 18 47 (.bool true) rfl rfl (by kernel_rfl) (by kernel_rfl) (by kernel_rfl) (fun _ _ _ h => h) (Or.inl ⟨by rfl, fun w _ => by go_simp⟩) ⟨hp2, hp3, hp6, hW⟩ ?_
      simp only [List.set_cons_zero, List.set_cons_succ]
      refine takeH 13 19 48 (.agg (rgV s c a b)) rfl rfl (by kernel_rfl) (by kernel_rfl) (by kernel_rfl) (fun _ _ _ h => h) (Or.inl ⟨by rfl, fun _ h => exec_row 36 (.tmp 2) rfl p2 rfl 36 (rgV s c a b) _ h.1 (by exact Try.underlying36) rfl (rgV_sz _ _ _ _)⟩) ⟨hp2, hp3, hp6, hW⟩ ?_
      simp only [List.set_cons_zero, List.set_cons_succ]
      refine takeH 12 20 49 (.agg (rgV s c a b)) rfl rfl (by kernel_rfl) (by kernel_rfl) (by kernel_rfl) (fun _ _ _ h => h) (Or.inl ⟨by rfl, fun _ h => exec_row 36 (.tmp 2) rfl p2 rfl 36 (rgV s c a b) _ h.1 (by exact Try.underlying36) rfl (rgV_sz _ _ _ _)⟩) ⟨hp2, hp3, hp6, hW⟩ ?_
      simp only [List.set_cons_zero, List.set_cons_succ]
      refine takeH 11 22 51 (.pointer (some ⟨p2, 2, none⟩)) rfl rfl (by kernel_rfl) (by kernel_rfl) (by kernel_rfl) (fun _ _ _ h => h) (Or.inl ⟨by rfl, fun w _ => by go_simp⟩) ⟨hp2, hp3, hp6, hW⟩ ?_
      simp only [List.set_cons_zero, List.set_cons_succ]
      refine takeH 10 23 52 (.int .u32 (((a : Nat) : Int))) rfl rfl (by kernel_rfl) (by kernel_rfl) (by kernel_rfl) (fun _ _ _ h => h) (Or.inl ⟨by rfl, fun _ h => exec_cell 23 (.tmp 51) rfl p2 2 rfl (.int .u32 (((a : Nat) : Int))) _ Try.underlying23 rfl (h.1.cellIs 2 rfl)⟩) ⟨hp2, hp3, hp6, hW⟩ ?_
      simp only [List.set_cons_zero, List.set_cons_succ]
      refine takeH 9 24 53 (.pointer (some ⟨p2, 3, none⟩)) rfl rfl (by kernel_rfl) (by kernel_rfl) (by kernel_rfl) (fun _ _ _ h => h) (Or.inl ⟨by rfl, fun w _ => by go_simp⟩) ⟨hp2, hp3, hp6, hW⟩ ?_
      simp only [List.set_cons_zero, List.set_cons_succ]
      refine takeH 8 25 54 (.int .u32 (((b : Nat) : Int))) rfl rfl (by kernel_rfl) (by kernel_rfl) (by kernel_rfl) (fun _ _ _ h => h) (Or.inl ⟨by rfl, fun _ h => exec_cell 23 (.tmp 53) rfl p2 3 rfl (.int .u32 (((b : Nat) : Int))) _ Try.underlying23 rfl (h.1.cellIs 3 rfl)⟩) ⟨hp2, hp3, hp6, hW⟩ ?_
      simp only [List.set_cons_zero, List.set_cons_succ]
      refine takeH 7 26 55 (.bool true) rfl rfl (by kernel_rfl) (by kernel_rfl) (by kernel_rfl) (fun _ _ _ h => h) (Or.inl ⟨by rfl, fun w _ => by go_simp⟩) ⟨hp2, hp3, hp6, hW⟩ ?_
      simp only [List.set_cons_zero, List.set_cons_succ]
      refine wpAnyH_ready (by kernel_rfl) (by simp) (readyCons 6 21 50 rfl rfl (by rfl) (fun K hK => wp_callF 14 #[.agg (rgV s c a b), .agg (rgV s c a b)] (by go_simp) (lov s c a b s c a b true hsl.out _) ?_) AllReadyH.nil)
      rintro e w11 ⟨rfl, bx⟩
      replace hp2 := hp2.below bx hp2.lt
      replace hp3 := hp3.below bx hp3.lt
      replace hp6 := hp6.below bx hp6.lt
      replace hW := hW.trans (bx.mono (Nat.le_trans hB0 hW.size))
      clear bx
      refine ⟨_, rfl, hK.out _ _ ⟨hp2, hp3, hp6, hW⟩ (fun _ => ?_)⟩
      clear hK K
      simp only [List.set_cons_zero, List.set_cons_succ]
      refine takeH 5 27 56 (.bool true) rfl rfl (by kernel_rfl) (by kernel_rfl) (by kernel_rfl) (fun _ _ _ h => h) (Or.inl ⟨by rfl, fun w _ => by go_simp⟩) ⟨hp2, hp3, hp6, hW⟩ ?_
      simp only [List.set_cons_zero, List.set_cons_succ]
      refine takeH 4 28 57 (.bool true) rfl rfl (by kernel_rfl) (by kernel_rfl) (by kernel_rfl) (fun _ _ _ h => h) (Or.inl ⟨by rfl, fun w _ => by go_simp⟩) ⟨hp2, hp3, hp6, hW⟩ ?_
      simp only [List.set_cons_zero, List.set_cons_succ]
      refine takeH 3 29 58 (.bool true) rfl rfl (by kernel_rfl) (by kernel_rfl) (by kernel_rfl) (fun _ _ _ h => h) (Or.inl ⟨by rfl, fun w _ => by go_simp⟩) ⟨hp2, hp3, hp6, hW⟩ ?_
      simp only [List.set_cons_zero, List.set_cons_succ]
      refine wpAnyH_ready (by kernel_rfl) (by simp) (readyCons 2 30 59 rfl rfl (by rfl) (fun K hK => wp_callF 11 #[] (by go_simp) (lives_any7 _) ?_) AllReadyH.nil)
      rintro e w12 ⟨rfl, bx⟩
      replace hp2 := hp2.below bx hp2.lt
      replace hp3 := hp3.below bx hp3.lt
      replace hp6 := hp6.below bx hp6.lt
      replace hW := hW.trans (bx.mono (Nat.le_trans hB0 hW.size))
      clear bx
      refine ⟨_, rfl, hK.out _ _ ⟨hp2, hp3, hp6, hW⟩ (fun _ => ?_)⟩
      clear hK K
      simp only [List.set_cons_zero, List.set_cons_succ]
      refine takeH 1 31 60 (.bool true) rfl rfl (by kernel_rfl) (by kernel_rfl) (by kernel_rfl) (fun _ _ _ h => h) (Or.inl ⟨by rfl, fun w _ => by go_simp⟩) ⟨hp2, hp3, hp6, hW⟩ ?_
      simp only [List.set_cons_zero, List.set_cons_succ]
      refine takeH 0 32 4 (.bool true) rfl rfl (by kernel_rfl) (by kernel_rfl) (by kernel_rfl) (fun _ _ _ h => h) (Or.inl ⟨by rfl, fun w _ => by go_simp⟩) ⟨hp2, hp3, hp6, hW⟩ ?_
      simp only [List.set_cons_zero, List.set_cons_succ]
      refine wpAnyH_done (by kernel_rfl) ?_ _
      go_wp2_with fail
      go_ret
      exact ⟨rfl, hW⟩
    ·
      go_enter Try.func5, Try.ntmps5
      go_upto_region 0 with fail
      refine wl_lit ?_
      refine runWL 2 (.pointer (some ⟨w.heap.size, 0, none⟩)) (w.alloc (.cells (rgV s c a b) 36)) rfl (by rfl) (exec_box 36 (.tmp 0) rfl (.agg (rgV s c a b)) rfl) ?_
      simp only [List.set_cons_zero, List.set_cons_succ]
      have lw_p2 := Nat.le_trans hB0 hW.size
      have hp2 : Blk (w.alloc (.cells (rgV s c a b) 36)) w.heap.size 36 (rgV s c a b) := Blk.new _ _ _
      replace hW := hW.alloc (Nat.le_trans hB0 hW.size) (.cells (rgV s c a b) 36)
      generalize w.alloc (.cells (rgV s c a b) 36) = w13 at *
      generalize w.heap.size = p2 at hp2 lw_p2  ⊢
      refine runWL 3 (.pointer (some ⟨w13.heap.size, 0, none⟩)) (w13.alloc (.cells (rgV s2 c2 a2 b2) 36)) rfl (by rfl) (exec_box 36 (.tmp 1) rfl (.agg (rgV s2 c2 a2 b2)) rfl) ?_
      simp only [List.set_cons_zero, List.set_cons_succ]
      have lp2_p3 := hp2.lt
      have lw_p3 := Nat.le_trans hB0 hW.size
      have hp3 : Blk (w13.alloc (.cells (rgV s2 c2 a2 b2) 36)) w13.heap.size 36 (rgV s2 c2 a2 b2) := Blk.new _ _ _
      replace hp2 := hp2.alloc (.cells (rgV s2 c2 a2 b2) 36)
      replace hW := hW.alloc (Nat.le_trans hB0 hW.size) (.cells (rgV s2 c2 a2 b2) 36)
      generalize w13.alloc (.cells (rgV s2 c2 a2 b2) 36) = w14 at *
      generalize w13.heap.size = p3 at hp3 lw_p3 lp2_p3 ⊢
      refine runL 4 (.bool false) rfl (by rfl) (by go_simp) ?_
      simp only [List.set_cons_zero, List.set_cons_succ]
      refine nilL ?_
      go_upto_region 1 with fail
      refine wl_lit ?_
      refine runL 7 (.pointer (some ⟨p2, 0, none⟩)) rfl (by rfl) (by go_simp) ?_
      simp only [List.set_cons_zero, List.set_cons_succ]
      refine runL 8 (.agg (noV s c)) rfl (by rfl) (exec_mid 26 (.tmp 7) rfl p2 0 rfl (noV s c).toList _ (hp2.range 0 2) (by exact Try.underlying26) rfl (by kernel_rfl)) ?_
      simp only [List.set_cons_zero, List.set_cons_succ]
      refine runL 9 (.pointer (some ⟨p3, 0, none⟩)) rfl (by rfl) (by go_simp) ?_
      simp only [List.set_cons_zero, List.set_cons_succ]
      refine runL 10 (.agg (noV s2 c2)) rfl (by rfl) (exec_mid 26 (.tmp 9) rfl p3 0 rfl (noV s2 c2).toList _ (hp3.range 0 2) (by exact Try.underlying26) rfl (by kernel_rfl)) ?_
      simp only [List.set_cons_zero, List.set_cons_succ]
      refine runL 11 (.pointer (some ⟨p2, 2, none⟩)) rfl (by rfl) (by go_simp) ?_
      simp only [List.set_cons_zero, List.set_cons_succ]
      refine runL 12 (.int .u32 (((a : Nat) : Int))) rfl (by rfl) (exec_cell 23 (.tmp 11) rfl p2 2 rfl (.int .u32 (((a : Nat) : Int))) _ Try.underlying23 rfl (hp2.cellIs 2 rfl)) ?_
      simp only [List.set_cons_zero, List.set_cons_succ]
      refine runL 13 (.pointer (some ⟨p2, 3, none⟩)) rfl (by rfl) (by go_simp) ?_
      simp only [List.set_cons_zero, List.set_cons_succ]
      refine runL 14 (.int .u32 (((b : Nat) : Int))) rfl (by rfl) (exec_cell 23 (.tmp 13) rfl p2 3 rfl (.int .u32 (((b : Nat) : Int))) _ Try.underlying23 rfl (hp2.cellIs 3 rfl)) ?_
      simp only [List.set_cons_zero, List.set_cons_succ]
      refine runL 15 (.agg (r2V a b)) rfl (by rfl) (exec_build 33 _ rfl (r2V a b) (by kernel_rfl)) ?_
      simp only [List.set_cons_zero, List.set_cons_succ]
      refine runL 16 (.pointer (some ⟨p3, 2, none⟩)) rfl (by rfl) (by go_simp) ?_
      simp only [List.set_cons_zero, List.set_cons_succ]
      refine runL 17 (.int .u32 (((a2 : Nat) : Int))) rfl (by rfl) (exec_cell 23 (.tmp 16) rfl p3 2 rfl (.int .u32 (((a2 : Nat) : Int))) _ Try.underlying23 rfl (hp3.cellIs 2 rfl)) ?_
      simp only [List.set_cons_zero, List.set_cons_succ]
      refine runL 18 (.pointer (some ⟨p3, 3, none⟩)) rfl (by rfl) (by go_simp) ?_
      simp only [List.set_cons_zero, List.set_cons_succ]
      refine runL 19 (.int .u32 (((b2 : Nat) : Int))) rfl (by rfl) (exec_cell 23 (.tmp 18) rfl p3 3 rfl (.int .u32 (((b2 : Nat) : Int))) _ Try.underlying23 rfl (hp3.cellIs 3 rfl)) ?_
      simp only [List.set_cons_zero, List.set_cons_succ]
      refine runL 20 (.agg (r2V a2 b2)) rfl (by rfl) (exec_build 33 _ rfl (r2V a2 b2) (by kernel_rfl)) ?_
      simp only [List.set_cons_zero, List.set_cons_succ]
      refine callL 21 rfl (by rfl) (fun K hK => wp_callF 13 #[.agg (noV s c), .agg (noV s2 c2), .agg (r2V a b), .agg (r2V a2 b2)] (by go_simp) (roverlap_any s c a b s2 c2 a2 b2 true hrq.out _) ?_)
      rintro e w15 ⟨rfl, bx⟩
      replace hp2 := hp2.below bx hp2.lt
      replace hp3 := hp3.below bx hp3.lt
      replace hW := hW.trans (bx.mono (Nat.le_trans hB0 hW.size))
      clear bx
      refine ⟨_, rfl, hK.out _ _ ?_⟩
      clear hK K
      simp only [List.set_cons_zero, List.set_cons_succ]
      refine runL 5 (.bool true) rfl (by rfl) (by go_simp) ?_
      simp only [List.set_cons_zero, List.set_cons_succ]
      refine nilL ?_
      go_upto_region 2 with fail
      refine wl_lit ?_
      refine runL 22 (.agg (rgV s2 c2 a2 b2)) rfl (by rfl) (exec_row 36 (.tmp 3) rfl p3 rfl 36 (rgV s2 c2 a2 b2) _ hp3 (by exact Try.underlying36) rfl (rgV_sz _ _ _ _)) ?_
      simp only [List.set_cons_zero, List.set_cons_succ]
      refine runWL 6 (.pointer (some ⟨w15.heap.size, 0, none⟩)) (w15.alloc (.cells (rgV 0 0 0 0) 36)) rfl (by rfl) (exec_allocV 36 rfl _ (zv_Range _)) ?_
      simp only [List.set_cons_zero, List.set_cons_succ]
      have lp2_p6 := hp2.lt
      have lp3_p6 := hp3.lt
      have lw_p6 := Nat.le_trans hB0 hW.size
      have hp6 : Blk (w15.alloc (.cells (rgV 0 0 0 0) 36)) w15.heap.size 36 (rgV 0 0 0 0) := Blk.new _ _ _
      replace hp2 := hp2.alloc (.cells (rgV 0 0 0 0) 36)
      replace hp3 := hp3.alloc (.cells (rgV 0 0 0 0) 36)
      replace hW := hW.alloc (Nat.le_trans hB0 hW.size) (.cells (rgV 0 0 0 0) 36)
      generalize w15.alloc (.cells (rgV 0 0 0 0) 36) = w16 at *
      generalize w15.heap.size = p6 at hp6 lw_p6 lp2_p6 lp3_p6 ⊢
      refine runSL (w16.setRow p6 (rgV s2 c2 a2 b2)) rfl (by rfl) (exec_storeRow 36 (.tmp 6) (.tmp 22) rfl p6 rfl (rgV s2 c2 a2 b2) rfl 36 (rgV 0 0 0 0) hp6 (sz_eq (rgV_sz _ _ _ _) (rgV_sz _ _ _ _)) (rgV_sz _ _ _ _) (rgV_one _ _ _ _)) ?_
      replace hp2 := hp2.rowFar (show p6 ≠ p2 from (by omega)) (rgV s2 c2 a2 b2)
      replace hp3 := hp3.rowFar (show p6 ≠ p3 from (by omega)) (rgV s2 c2 a2 b2)
      replace hp6 := hp6.row (rgV s2 c2 a2 b2)
      replace hW := below_setRow hW lw_p6 (rgV s2 c2 a2 b2)
      generalize w16.setRow p6 (rgV s2 c2 a2 b2) = w17 at *
      refine nilL ?_
      go_upto_region 3 with fail
      refine wl_lit ?_
      refine runL 23 (.pointer (some ⟨p2, 0, none⟩)) rfl (by rfl) (by go_simp) ?_
      simp only [List.set_cons_zero, List.set_cons_succ]
      refine runL 24 (.pointer (some ⟨p2, 1, none⟩)) rfl (by rfl) (by go_simp) ?_
      simp only [List.set_cons_zero, List.set_cons_succ]
      refine runL 25 (.int .u64 (((c : Nat) : Int))) rfl (by rfl) (exec_cell 24 (.tmp 24) rfl p2 1 rfl (.int .u64 (((c : Nat) : Int))) _ Try.underlying24 rfl (hp2.cellIs 1 rfl)) ?_
      simp only [List.set_cons_zero, List.set_cons_succ]
      refine runL 26 (.int .u64 ((c9 : Nat) : Int)) rfl (by rfl) (by go_simp) ?_
      simp only [List.set_cons_zero, List.set_cons_succ]
      refine runL 27 (.pointer (some ⟨p6, 0, none⟩)) rfl (by rfl) (by go_simp) ?_
      simp only [List.set_cons_zero, List.set_cons_succ]
      refine runL 28 (.pointer (some ⟨p6, 1, none⟩)) rfl (by rfl) (by go_simp) ?_
      simp only [List.set_cons_zero, List.set_cons_succ]
      refine runSL (w17.setCell ⟨p6, 1, none⟩ (.int .u64 ((c9 : Nat) : Int))) rfl (by rfl) (exec_storeCell 24 (.tmp 28) (.tmp 26) rfl p6 1 rfl (.int .u64 ((c9 : Nat) : Int)) rfl rfl rfl 36 (rgV s2 c2 a2 b2) hp6 (show 1 < 4 by decide) (by kernel_rfl)) ?_
      replace hp2 := hp2.far (p := ⟨p6, 1, none⟩) (show p2 ≠ p6 from (by omega)) (.int .u64 ((c9 : Nat) : Int))
      replace hp3 := hp3.far (p := ⟨p6, 1, none⟩) (show p3 ≠ p6 from (by omega)) (.int .u64 ((c9 : Nat) : Int))
      replace hp6 : Blk (w17.setCell ⟨p6, 1, none⟩ (.int .u64 ((c9 : Nat) : Int))) p6 36 (#[.int .u32 (((s2 : Nat) : Int)), .int .u64 ((c9 : Nat) : Int), .int .u32 (((a2 : Nat) : Int)), .int .u32 (((b2 : Nat) : Int))]) := hp6.set_ 1 (.int .u64 ((c9 : Nat) : Int))
      replace hW := hW.setCell (p := ⟨p6, 1, none⟩) lw_p6 (.int .u64 ((c9 : Nat) : Int))
      generalize w17.setCell ⟨p6, 1, none⟩ (.int .u64 ((c9 : Nat) : Int)) = w18 at *
      refine nilL ?_
      go_upto_region 4 with fail
      refine wp_region_held_drew (S := fun wr => Blk wr p2 36 (rgV s c a b) ∧ Blk wr p3 36 (rgV s2 c2 a2 b2) ∧ Blk wr p6 36 (#[.int .u32 (((s2 : Nat) : Int)), .int .u64 ((c9 : Nat) : Int), .int .u32 (((a2 : Nat) : Int)), .int .u32 (((b2 : Nat) : Int))]) ∧ Below B0 w wr) (by kernel_rfl) ⟨hp2.drew, hp3.drew, hp6.drew, below_drewN hW 1⟩ (fun hH => ?_)
      clear hp2 hp3 hp6 hW
      obtain ⟨hp2, hp3, hp6, hW⟩ := hH
      generalize w18.drew = w19 at *
      refine takeH 32 0 29 (.agg (rgV s c a b)) rfl rfl (by kernel_rfl) (by kernel_rfl) (by kernel_rfl) (fun _ _ _ h => h) (Or.inl ⟨by rfl, fun _ h => exec_row 36 (.tmp 2) rfl p2 rfl 36 (rgV s c a b) _ h.1 (by exact Try.underlying36) rfl (rgV_sz _ _ _ _)⟩) ⟨hp2, hp3, hp6, hW⟩ ?_
      simp only [List.set_cons_zero, List.set_cons_succ]
      refine takeH 31 1 30 (.agg (rgV s2 c2 a2 b2)) rfl rfl (by kernel_rfl) (by kernel_rfl) (by kernel_rfl) (fun _ _ _ h => h) (Or.inl ⟨by rfl, fun _ h => exec_row 36 (.tmp 3) rfl p3 rfl 36 (rgV s2 c2 a2 b2) _ h.2.1 (by exact Try.underlying36) rfl (rgV_sz _ _ _ _)⟩) ⟨hp2, hp3, hp6, hW⟩ ?_
      simp only [List.set_cons_zero, List.set_cons_succ]
      refine takeH 30 3 32 (.bool true) rfl rfl (by kernel_rfl) (by kernel_rfl) (by kernel_rfl) (fun _ _ _ h => h) (Or.inl ⟨by rfl, fun w _ => by go_simp⟩) ⟨hp2, hp3, hp6, hW⟩ ?_
      simp only [List.set_cons_zero, List.set_cons_succ]
      refine wpAnyH_ready (by kernel_rfl) (by simp) (readyCons 29 2 31 rfl rfl (by rfl) (fun K hK => wp_callF 14 #[.agg (rgV s c a b), .agg (rgV s2 c2 a2 b2)] (by go_simp) (lov s c a b s2 c2 a2 b2 true hrq.out _) ?_) AllReadyH.nil)
      rintro e w20 ⟨rfl, bx⟩
      replace hp2 := hp2.below bx hp2.lt
      replace hp3 := hp3.below bx hp3.lt
      replace hp6 := hp6.below bx hp6.lt
      replace hW := hW.trans (bx.mono (Nat.le_trans hB0 hW.size))
      clear bx
      refine ⟨_, rfl, hK.out _ _ ⟨hp2, hp3, hp6, hW⟩ (fun _ => ?_)⟩
      clear hK K
      simp only [List.set_cons_zero, List.set_cons_succ]
      refine takeH 28 4 33 (.bool true) rfl rfl (by kernel_rfl) (by kernel_rfl) (by kernel_rfl) (fun _ _ _ h => h) (Or.inl ⟨by rfl, fun w _ => by go_simp⟩) ⟨hp2, hp3, hp6, hW⟩ ?_
      simp only [List.set_cons_zero, List.set_cons_succ]
      refine takeH 27 5 34 (.bool true) rfl rfl (by kernel_rfl) (by kernel_rfl) (by kernel_rfl) (fun _ _ _ h => h) (Or.inl ⟨by rfl, fun w _ => by go_simp⟩) ⟨hp2, hp3, hp6, hW⟩ ?_
      simp only [List.set_cons_zero, List.set_cons_succ]
      refine takeH 26 6 35 (.agg (rgV s2 c2 a2 b2)) rfl rfl (by kernel_rfl) (by kernel_rfl) (by kernel_rfl) (fun _ _ _ h => h) (Or.inl ⟨by rfl, fun _ h => exec_row 36 (.tmp 3) rfl p3 rfl 36 (rgV s2 c2 a2 b2) _ h.2.1 (by exact Try.underlying36) rfl (rgV_sz _ _ _ _)⟩) ⟨hp2, hp3, hp6, hW⟩ ?_
      simp only [List.set_cons_zero, List.set_cons_succ]
      refine takeH 25 7 36 (.agg (rgV s c a b)) rfl rfl (by kernel_rfl) (by kernel_rfl) (by kernel_rfl) (fun _ _ _ h => h) (Or.inl ⟨by rfl, fun _ h => exec_row 36 (.tmp 2) rfl p2 rfl 36 (rgV s c a b) _ h.1 (by exact Try.underlying36) rfl (rgV_sz _ _ _ _)⟩) ⟨hp2, hp3, hp6, hW⟩ ?_
      simp only [List.set_cons_zero, List.set_cons_succ]
      refine takeH 24 9 38 (.bool true) rfl rfl (by kernel_rfl) (by kernel_rfl) (by kernel_rfl) (fun _ _ _ h => h) (Or.inl ⟨by rfl, fun w _ => by go_simp⟩) ⟨hp2, hp3, hp6, hW⟩ ?_
      simp only [List.set_cons_zero, List.set_cons_succ]
      refine wpAnyH_ready (by kernel_rfl) (by simp) (readyCons 23 8 37 rfl rfl (by rfl) (fun K hK => wp_callF 14 #[.agg (rgV s2 c2 a2 b2), .agg (rgV s c a b)] (by go_simp) (lov s2 c2 a2 b2 s c a b true hrs.out _) ?_) AllReadyH.nil)
      rintro e w21 ⟨rfl, bx⟩
      replace hp2 := hp2.below bx hp2.lt
      replace hp3 := hp3.below bx hp3.lt
      replace hp6 := hp6.below bx hp6.lt
      replace hW := hW.trans (bx.mono (Nat.le_trans hB0 hW.size))
      clear bx
      refine ⟨_, rfl, hK.out _ _ ⟨hp2, hp3, hp6, hW⟩ (fun _ => ?_)⟩
      clear hK K
      simp only [List.set_cons_zero, List.set_cons_succ]
      refine takeH 22 10 39 (.bool true) rfl rfl (by kernel_rfl) (by kernel_rfl) (by kernel_rfl) (fun _ _ _ h => h) (Or.inl ⟨by rfl, fun w _ => by go_simp⟩) ⟨hp2, hp3, hp6, hW⟩ ?_
      simp only [List.set_cons_zero, List.set_cons_succ]
      refine takeH 21 11 40 (.bool true) rfl rfl (by kernel_rfl) (by kernel_rfl) (by kernel_rfl) (fun _ _ _ h => h) (Or.inl ⟨by rfl, fun w _ => by go_simp⟩) ⟨hp2, hp3, hp6, hW⟩ ?_
      simp only [List.set_cons_zero, List.set_cons_succ]
      refine takeH 20 12 41 (.bool true) rfl rfl (by kernel_rfl) (by kernel_rfl) (by kernel_rfl) (fun _ _ _ h => h) (Or.inl ⟨by rfl, fun w _ => by go_simp⟩) ⟨hp2, hp3, hp6, hW⟩ ?_
      simp only [List.set_cons_zero, List.set_cons_succ]
      refine takeH 19 13 42 (.agg (rgV s c a b)) rfl rfl (by kernel_rfl) (by kernel_rfl) (by kernel_rfl) (fun _ _ _ h => h) (Or.inl ⟨by rfl, fun _ h => exec_row 36 (.tmp 2) rfl p2 rfl 36 (rgV s c a b) _ h.1 (by exact Try.underlying36) rfl (rgV_sz _ _ _ _)⟩) ⟨hp2, hp3, hp6, hW⟩ ?_
      simp only [List.set_cons_zero, List.set_cons_succ]
      refine takeH 18 14 43 (.agg (#[.int .u32 (((s2 : Nat) : Int)), .int .u64 ((c9 : Nat) : Int), .int .u32 (((a2 : Nat) : Int)), .int .u32 (((b2 : Nat) : Int))])) rfl rfl (by kernel_rfl) (by kernel_rfl) (by kernel_rfl) (fun _ _ _ h => h) (Or.inl ⟨by rfl, fun _ h => exec_row 36 (.tmp 6) rfl p6 rfl 36 (#[.int .u32 (((s2 : Nat) : Int)), .int .u64 ((c9 : Nat) : Int), .int .u32 (((a2 : Nat) : Int)), .int .u32 (((b2 : Nat) : Int))]) _ h.2.2.1 (by exact Try.underlying36) rfl (rgV_sz _ _ _ _)⟩) ⟨hp2, hp3, hp6, hW⟩ ?_
      simp only [List.set_cons_zero, List.set_cons_succ]
      refine wpAnyH_ready (by kernel_rfl) (by simp) (readyCons 17 15 44 rfl rfl (by rfl) (fun K hK => wp_callF 14 #[.agg (rgV s c a b), .agg (#[.int .u32 (((s2 : Nat) : Int)), .int .u64 ((c9 : Nat) : Int), .int .u32 (((a2 : Nat) : Int)), .int .u32 (((b2 : Nat) : Int))])] (by go_simp) (lov s c a b s2 c9 a2 b2 false hoff.out _) ?_) AllReadyH.nil)
      rintro e w22 ⟨rfl, bx⟩
      replace hp2 := hp2.below bx hp2.lt
      replace hp3 := hp3.below bx hp3.lt
      replace hp6 := hp6.below bx hp6.lt
      replace hW := hW.trans (bx.mono (Nat.le_trans hB0 hW.size))
      clear bx
      refine ⟨_, rfl, hK.out _ _ ⟨hp2, hp3, hp6, hW⟩ (fun _ => ?_)⟩
      clear hK K
      simp only [List.set_cons_zero, List.set_cons_succ]
      refine takeH 16 16 45 (.bool true) rfl rfl (by kernel_rfl) (by kernel_rfl) (by kernel_rfl) (fun _ _ _ h => h) (Or.inl ⟨by rfl, fun w _ => by go_simp⟩) ⟨hp2, hp3, hp6, hW⟩ ?_
      simp only [List.set_cons_zero, List.set_cons_succ]
      refine takeH 15 17 46 (.bool true) rfl rfl (by kernel_rfl) (by kernel_rfl) (by kernel_rfl) (fun _ _ _ h => h) (Or.inl ⟨by rfl, fun w _ => by go_simp⟩) ⟨hp2, hp3, hp6, hW⟩ ?_
      simp only [List.set_cons_zero, List.set_cons_succ]
      refine takeH 14 18 47 (.bool true) rfl rfl (by kernel_rfl) (by kernel_rfl) (by kernel_rfl) (fun _ _ _ h => h) (Or.inl ⟨by rfl, fun w _ => by go_simp⟩) ⟨hp2, hp3, hp6, hW⟩ ?_
      simp only [List.set_cons_zero, List.set_cons_succ]
      refine takeH 13 19 48 (.agg (rgV s c a b)) rfl rfl (by kernel_rfl) (by kernel_rfl) (by kernel_rfl) (fun _ _ _ h => h) (Or.inl ⟨by rfl, fun _ h => exec_row 36 (.tmp 2) rfl p2 rfl 36 (rgV s c a b) _ h.1 (by exact Try.underlying36) rfl (rgV_sz _ _ _ _)⟩) ⟨hp2, hp3, hp6, hW⟩ ?_
      simp only [List.set_cons_zero, List.set_cons_succ]
      refine takeH 12 20 49 (.agg (rgV s c a b)) rfl rfl (by kernel_rfl) (by kernel_rfl) (by kernel_rfl) (fun _ _ _ h => h) (Or.inl ⟨by rfl, fun _ h => exec_row 36 (.tmp 2) rfl p2 rfl 36 (rgV s c a b) _ h.1 (by exact Try.underlying36) rfl (rgV_sz _ _ _ _)⟩) ⟨hp2, hp3, hp6, hW⟩ ?_
      simp only [List.set_cons_zero, List.set_cons_succ]
      refine takeH 11 22 51 (.pointer (some ⟨p2, 2, none⟩)) rfl rfl (by kernel_rfl) (by kernel_rfl) (by kernel_rfl) (fun _ _ _ h => h) (Or.inl ⟨by rfl, fun w _ => by go_simp⟩) ⟨hp2, hp3, hp6, hW⟩ ?_
      simp only [List.set_cons_zero, List.set_cons_succ]
      refine takeH 10 23 52 (.int .u32 (((a : Nat) : Int))) rfl rfl (by kernel_rfl) (by kernel_rfl) (by kernel_rfl) (fun _ _ _ h => h) (Or.inl ⟨by rfl, fun _ h => exec_cell 23 (.tmp 51) rfl p2 2 rfl (.int .u32 (((a : Nat) : Int))) _ Try.underlying23 rfl (h.1.cellIs 2 rfl)⟩) ⟨hp2, hp3, hp6, hW⟩ ?_
      simp only [List.set_cons_zero, List.set_cons_succ]
      refine takeH 9 24 53 (.pointer (some ⟨p2, 3, none⟩)) rfl rfl (by kernel_rfl) (by kernel_rfl) (by kernel_rfl) (fun _ _ _ h => h) (Or.inl ⟨by rfl, fun w _ => by go_simp⟩) ⟨hp2, hp3, hp6, hW⟩ ?_
      simp only [List.set_cons_zero, List.set_cons_succ]
      refine takeH 8 25 54 (.int .u32 (((b : Nat) : Int))) rfl rfl (by kernel_rfl) (by kernel_rfl) (by kernel_rfl) (fun _ _ _ h => h) (Or.inl ⟨by rfl, fun _ h => exec_cell 23 (.tmp 53) rfl p2 3 rfl (.int .u32 (((b : Nat) : Int))) _ Try.underlying23 rfl (h.1.cellIs 3 rfl)⟩) ⟨hp2, hp3, hp6, hW⟩ ?_
      simp only [List.set_cons_zero, List.set_cons_succ]
      refine takeH 7 26 55 (.bool true) rfl rfl (by kernel_rfl) (by kernel_rfl) (by kernel_rfl) (fun _ _ _ h => h) (Or.inl ⟨by rfl, fun w _ => by go_simp⟩) ⟨hp2, hp3, hp6, hW⟩ ?_
      simp only [List.set_cons_zero, List.set_cons_succ]
      refine wpAnyH_ready (by kernel_rfl) (by simp) (readyCons 6 21 50 rfl rfl (by rfl) (fun K hK => wp_callF 14 #[.agg (rgV s c a b), .agg (rgV s c a b)] (by go_simp) (lov s c a b s c a b true hsl.out _) ?_) AllReadyH.nil)
      rintro e w23 ⟨rfl, bx⟩
      replace hp2 := hp2.below bx hp2.lt
      replace hp3 := hp3.below bx hp3.lt
      replace hp6 := hp6.below bx hp6.lt
      replace hW := hW.trans (bx.mono (Nat.le_trans hB0 hW.size))
      clear bx
      refine ⟨_, rfl, hK.out _ _ ⟨hp2, hp3, hp6, hW⟩ (fun _ => ?_)⟩
      clear hK K
      simp only [List.set_cons_zero, List.set_cons_succ]
      refine takeH 5 27 56 (.bool true) rfl rfl (by kernel_rfl) (by kernel_rfl) (by kernel_rfl) (fun _ _ _ h => h) (Or.inl ⟨by rfl, fun w _ => by go_simp⟩) ⟨hp2, hp3, hp6, hW⟩ ?_
      simp only [List.set_cons_zero, List.set_cons_succ]
      refine takeH 4 28 57 (.bool true) rfl rfl (by kernel_rfl) (by kernel_rfl) (by kernel_rfl) (fun _ _ _ h => h) (Or.inl ⟨by rfl, fun w _ => by go_simp⟩) ⟨hp2, hp3, hp6, hW⟩ ?_
      simp only [List.set_cons_zero, List.set_cons_succ]
      refine takeH 3 29 58 (.bool true) rfl rfl (by kernel_rfl) (by kernel_rfl) (by kernel_rfl) (fun _ _ _ h => h) (Or.inl ⟨by rfl, fun w _ => by go_simp⟩) ⟨hp2, hp3, hp6, hW⟩ ?_
      simp only [List.set_cons_zero, List.set_cons_succ]
      refine wpAnyH_ready (by kernel_rfl) (by simp) (readyCons 2 30 59 rfl rfl (by rfl) (fun K hK => wp_callF 11 #[] (by go_simp) (lives_any7 _) ?_) AllReadyH.nil)
      rintro e w24 ⟨rfl, bx⟩
      replace hp2 := hp2.below bx hp2.lt
      replace hp3 := hp3.below bx hp3.lt
      replace hp6 := hp6.below bx hp6.lt
      replace hW := hW.trans (bx.mono (Nat.le_trans hB0 hW.size))
      clear bx
      refine ⟨_, rfl, hK.out _ _ ⟨hp2, hp3, hp6, hW⟩ (fun _ => ?_)⟩
      clear hK K
      simp only [List.set_cons_zero, List.set_cons_succ]
      refine takeH 1 31 60 (.bool true) rfl rfl (by kernel_rfl) (by kernel_rfl) (by kernel_rfl) (fun _ _ _ h => h) (Or.inl ⟨by rfl, fun w _ => by go_simp⟩) ⟨hp2, hp3, hp6, hW⟩ ?_
      simp only [List.set_cons_zero, List.set_cons_succ]
      refine takeH 0 32 4 (.bool true) rfl rfl (by kernel_rfl) (by kernel_rfl) (by kernel_rfl) (fun _ _ _ h => h) (Or.inl ⟨by rfl, fun w _ => by go_simp⟩) ⟨hp2, hp3, hp6, hW⟩ ?_
      simp only [List.set_cons_zero, List.set_cons_succ]
      refine wpAnyH_done (by kernel_rfl) ?_ _
      go_wp2_with fail
      go_ret
      exact ⟨rfl, hW⟩
  ·
    have habI : ¬ (a : Int) ≤ (b : Int) := by omega
    have hsl := Lib.hid (hslf.out.trans (decide_eq_false hab))
    cases r
    ·
      go_enter Try.func5, Try.ntmps5
      go_upto_region 0 with fail
      refine wl_lit ?_
      refine runWL 2 (.pointer (some ⟨w.heap.size, 0, none⟩)) (w.alloc (.cells (rgV s c a b) 36)) rfl (by rfl) (exec_box 36 (.tmp 0) rfl (.agg (rgV s c a b)) rfl) ?_
      simp only [List.set_cons_zero, List.set_cons_succ]
      have lw_p2 := Nat.le_trans hB0 hW.size
      have hp2 : Blk (w.alloc (.cells (rgV s c a b) 36)) w.heap.size 36 (rgV s c a b) := Blk.new _ _ _
      replace hW := hW.alloc (Nat.le_trans hB0 hW.size) (.cells (rgV s c a b) 36)
      generalize w.alloc (.cells (rgV s c a b) 36) = w25 at *
      generalize w.heap.size = p2 at hp2 lw_p2  ⊢
      refine runWL 3 (.pointer (some ⟨w25.heap.size, 0, none⟩)) (w25.alloc (.cells (rgV s2 c2 a2 b2) 36)) rfl (by rfl) (exec_box 36 (.tmp 1) rfl (.agg (rgV s2 c2 a2 b2)) rfl) ?_
      simp only [List.set_cons_zero, List.set_cons_succ]
      have lp2_p3 := hp2.lt
      have lw_p3 := Nat.le_trans hB0 hW.size
      have hp3 : Blk (w25.alloc (.cells (rgV s2 c2 a2 b2) 36)) w25.heap.size 36 (rgV s2 c2 a2 b2) := Blk.new _ _ _
      replace hp2 := hp2.alloc (.cells (rgV s2 c2 a2 b2) 36)
      replace hW := hW.alloc (Nat.le_trans hB0 hW.size) (.cells (rgV s2 c2 a2 b2) 36)
      generalize w25.alloc (.cells (rgV s2 c2 a2 b2) 36) = w26 at *
      generalize w25.heap.size = p3 at hp3 lw_p3 lp2_p3 ⊢
      refine runL 4 (.bool false) rfl (by rfl) (by go_simp) ?_
      simp only [List.set_cons_zero, List.set_cons_succ]
      refine nilL ?_
      go_upto_region 1 with fail
      refine wl_lit ?_
      refine runL 7 (.pointer (some ⟨p2, 0, none⟩)) rfl (by rfl) (by go_simp) ?_
      simp only [List.set_cons_zero, List.set_cons_succ]
      refine runL 8 (.agg (noV s c)) rfl (by rfl) (exec_mid 26 (.tmp 7) rfl p2 0 rfl (noV s c).toList _ (hp2.range 0 2) (by exact Try.underlying26) rfl (by kernel_rfl)) ?_
      simp only [List.set_cons_zero, List.set_cons_succ]
      refine runL 9 (.pointer (some ⟨p3, 0, none⟩)) rfl (by rfl) (by go_simp) ?_
      simp only [List.set_cons_zero, List.set_cons_succ]
      refine runL 10 (.agg (noV s2 c2)) rfl (by rfl) (exec_mid 26 (.tmp 9) rfl p3 0 rfl (noV s2 c2).toList _ (hp3.range 0 2) (by exact Try.underlying26) rfl (by kernel_rfl)) ?_
      simp only [List.set_cons_zero, List.set_cons_succ]
      refine runL 11 (.pointer (some ⟨p2, 2, none⟩)) rfl (by rfl) (by go_simp) ?_
      simp only [List.set_cons_zero, List.set_cons_succ]
      refine runL 12 (.int .u32 (((a : Nat) : Int))) rfl (by rfl) (exec_cell 23 (.tmp 11) rfl p2 2 rfl (.int .u32 (((a : Nat) : Int))) _ Try.underlying23 rfl (hp2.cellIs 2 rfl)) ?_
      simp only [List.set_cons_zero, List.set_cons_succ]
      refine runL 13 (.pointer (some ⟨p2, 3, none⟩)) rfl (by rfl) (by go_simp) ?_
      simp only [List.set_cons_zero, List.set_cons_succ]
      refine runL 14 (.int .u32 (((b : Nat) : Int))) rfl (by rfl) (exec_cell 23 (.tmp 13) rfl p2 3 rfl (.int .u32 (((b : Nat) : Int))) _ Try.underlying23 rfl (hp2.cellIs 3 rfl)) ?_
      simp only [List.set_cons_zero, List.set_cons_succ]
      refine runL 15 (.agg (r2V a b)) rfl (by rfl) (exec_build 33 _ rfl (r2V a b) (by kernel_rfl)) ?_
      simp only [List.set_cons_zero, List.set_cons_succ]
      refine runL 16 (.pointer (some ⟨p3, 2, none⟩)) rfl (by rfl) (by go_simp) ?_
      simp only [List.set_cons_zero, List.set_cons_succ]
      refine runL 17 (.int .u32 (((a2 : Nat) : Int))) rfl (by rfl) (exec_cell 23 (.tmp 16) rfl p3 2 rfl (.int .u32 (((a2 : Nat) : Int))) _ Try.underlying23 rfl (hp3.cellIs 2 rfl)) ?_
      simp only [List.set_cons_zero, List.set_cons_succ]
      refine runL 18 (.pointer (some ⟨p3, 3, none⟩)) rfl (by rfl) (by go_simp) ?_
      simp only [List.set_cons_zero, List.set_cons_succ]
      refine runL 19 (.int .u32 (((b2 : Nat) : Int))) rfl (by rfl) (exec_cell 23 (.tmp 18) rfl p3 3 rfl (.int .u32 (((b2 : Nat) : Int))) _ Try.underlying23 rfl (hp3.cellIs 3 rfl)) ?_
      simp only [List.set_cons_zero, List.set_cons_succ]
      refine runL 20 (.agg (r2V a2 b2)) rfl (by rfl) (exec_build 33 _ rfl (r2V a2 b2) (by kernel_rfl)) ?_
      simp only [List.set_cons_zero, List.set_cons_succ]
      refine callL 21 rfl (by rfl) (fun K hK => wp_callF 13 #[.agg (noV s c), .agg (noV s2 c2), .agg (r2V a b), .agg (r2V a2 b2)] (by go_simp) (roverlap_any s c a b s2 c2 a2 b2 false hrq.out _) ?_)
      rintro e w27 ⟨rfl, bx⟩
      replace hp2 := hp2.below bx hp2.lt
      replace hp3 := hp3.below bx hp3.lt
      replace hW := hW.trans (bx.mono (Nat.le_trans hB0 hW.size))
      clear bx
      refine ⟨_, rfl, hK.out _ _ ?_⟩
      clear hK K
      simp only [List.set_cons_zero, List.set_cons_succ]
      refine runL 5 (.bool false) rfl (by rfl) (by go_simp) ?_
      simp only [List.set_cons_zero, List.set_cons_succ]
      refine nilL ?_
      go_upto_region 2 with fail
      refine wl_lit ?_
      refine runL 22 (.agg (rgV s2 c2 a2 b2)) rfl (by rfl) (exec_row 36 (.tmp 3) rfl p3 rfl 36 (rgV s2 c2 a2 b2) _ hp3 (by exact Try.underlying36) rfl (rgV_sz _ _ _ _)) ?_
      simp only [List.set_cons_zero, List.set_cons_succ]
      refine runWL 6 (.pointer (some ⟨w27.heap.size, 0, none⟩)) (w27.alloc (.cells (rgV 0 0 0 0) 36)) rfl (by rfl) (exec_allocV 36 rfl _ (zv_Range _)) ?_
      simp only [List.set_cons_zero, List.set_cons_succ]
      have lp2_p6 := hp2.lt
      have lp3_p6 := hp3.lt
      have lw_p6 := Nat.le_trans hB0 hW.size
      have hp6 : Blk (w27.alloc (.cells (rgV 0 0 0 0) 36)) w27.heap.size 36 (rgV 0 0 0 0) := Blk.new _ _ _
      replace hp2 := hp2.alloc (.cells (rgV 0 0 0 0) 36)
      replace hp3 := hp3.alloc (.cells (rgV 0 0 0 0) 36)
      replace hW := hW.alloc (Nat.le_trans hB0 hW.size) (.cells (rgV 0 0 0 0) 36)
      generalize w27.alloc (.cells (rgV 0 0 0 0) 36) = w28 at *
      generalize w27.heap.size = p6 at hp6 lw_p6 lp2_p6 lp3_p6 ⊢
      refine runSL (w28.setRow p6 (rgV s2 c2 a2 b2)) rfl (by rfl) (exec_storeRow 36 (.tmp 6) (.tmp 22) rfl p6 rfl (rgV s2 c2 a2 b2) rfl 36 (rgV 0 0 0 0) hp6 (sz_eq (rgV_sz _ _ _ _) (rgV_sz _ _ _ _)) (rgV_sz _ _ _ _) (rgV_one _ _ _ _)) ?_
      replace hp2 := hp2.rowFar (show p6 ≠ p2 from (by omega)) (rgV s2 c2 a2 b2)
      replace hp3 := hp3.rowFar (show p6 ≠ p3 from (by omega)) (rgV s2 c2 a2 b2)
      replace hp6 := hp6.row (rgV s2 c2 a2 b2)
      replace hW := below_setRow hW lw_p6 (rgV s2 c2 a2 b2)
      generalize w28.setRow p6 (rgV s2 c2 a2 b2) = w29 at *
      refine nilL ?_
      go_upto_region 3 with fail
      refine wl_lit ?_
      refine runL 23 (.pointer (some ⟨p2, 0, none⟩)) rfl (by rfl) (by go_simp) ?_
      simp only [List.set_cons_zero, List.set_cons_succ]
      refine runL 24 (.pointer (some ⟨p2, 1, none⟩)) rfl (by rfl) (by go_simp) ?_
      simp only [List.set_cons_zero, List.set_cons_succ]
      refine runL 25 (.int .u64 (((c : Nat) : Int))) rfl (by rfl) (exec_cell 24 (.tmp 24) rfl p2 1 rfl (.int .u64 (((c : Nat) : Int))) _ Try.underlying24 rfl (hp2.cellIs 1 rfl)) ?_
      simp only [List.set_cons_zero, List.set_cons_succ]
      refine runL 26 (.int .u64 ((c9 : Nat) : Int)) rfl (by rfl) (by go_simp) ?_
      simp only [List.set_cons_zero, List.set_cons_succ]
      refine runL 27 (.pointer (some ⟨p6, 0, none⟩)) rfl (by rfl) (by go_simp) ?_
      simp only [List.set_cons_zero, List.set_cons_succ]
      refine runL 28 (.pointer (some ⟨p6, 1, none⟩)) rfl (by rfl) (by go_simp) ?_
      simp only [List.set_cons_zero, List.set_cons_succ]
      refine runSL (w29.setCell ⟨p6, 1, none⟩ (.int .u64 ((c9 : Nat) : Int))) rfl (by rfl) (exec_storeCell 24 (.tmp 28) (.tmp 26) rfl p6 1 rfl (.int .u64 ((c9 : Nat) : Int)) rfl rfl rfl 36 (rgV s2 c2 a2 b2) hp6 (show 1 < 4 by decide) (by kernel_rfl)) ?_
      replace hp2 := hp2.far (p := ⟨p6, 1, none⟩) (show p2 ≠ p6 from (by omega)) (.int .u64 ((c9 : Nat) : Int))
      replace hp3 := hp3.far (p := ⟨p6, 1, none⟩) (show p3 ≠ p6 from (by omega)) (.int .u64 ((c9 : Nat) : Int))
      replace hp6 : Blk (w29.setCell ⟨p6, 1, none⟩ (.int .u64 ((c9 : Nat) : Int))) p6 36 (#[.int .u32 (((s2 : Nat) : Int)), .int .u64 ((c9 : Nat) : Int), .int .u32 (((a2 : Nat) : Int)), .int .u32 (((b2 : Nat) : Int))]) := hp6.set_ 1 (.int .u64 ((c9 : Nat) : Int))
      replace hW := hW.setCell (p := ⟨p6, 1, none⟩) lw_p6 (.int .u64 ((c9 : Nat) : Int))
      generalize w29.setCell ⟨p6, 1, none⟩ (.int .u64 ((c9 : Nat) : Int)) = w30 at *
      refine nilL ?_
      go_upto_region 4 with fail
      refine wp_region_held_drew (S := fun wr => Blk wr p2 36 (rgV s c a b) ∧ Blk wr p3 36 (rgV s2 c2 a2 b2) ∧ Blk wr p6 36 (#[.int .u32 (((s2 : Nat) : Int)), .int .u64 ((c9 : Nat) : Int), .int .u32 (((a2 : Nat) : Int)), .int .u32 (((b2 : Nat) : Int))]) ∧ Below B0 w wr) (by kernel_rfl) ⟨hp2.drew, hp3.drew, hp6.drew, below_drewN hW 1⟩ (fun hH => ?_)
      clear hp2 hp3 hp6 hW
      obtain ⟨hp2, hp3, hp6, hW⟩ := hH
      generalize w30.drew = w31 at *
      refine takeH 32 0 29 (.agg (rgV s c a b)) rfl rfl (by kernel_rfl) (by kernel_rfl) (by kernel_rfl) (fun _ _ _ h => h) (Or.inl ⟨by rfl, fun _ h => exec_row 36 (.tmp 2) rfl p2 rfl 36 (rgV s c a b) _ h.1 (by exact Try.underlying36) rfl (rgV_sz _ _ _ _)⟩) ⟨hp2, hp3, hp6, hW⟩ ?_
      simp only [List.set_cons_zero, List.set_cons_succ]
      refine takeH 31 1 30 (.agg (rgV s2 c2 a2 b2)) rfl rfl (by kernel_rfl) (by kernel_rfl) (by kernel_rfl) (fun _ _ _ h => h) (Or.inl ⟨by rfl, fun _ h => exec_row 36 (.tmp 3) rfl p3 rfl 36 (rgV s2 c2 a2 b2) _ h.2.1 (by exact Try.underlying36) rfl (rgV_sz _ _ _ _)⟩) ⟨hp2, hp3, hp6, hW⟩ ?_
      simp only [List.set_cons_zero, List.set_cons_succ]
      refine takeH 30 3 32 (.bool false) rfl rfl (by kernel_rfl) (by kernel_rfl) (by kernel_rfl) (fun _ _ _ h => h) (Or.inl ⟨by rfl, fun w _ => by go_simp⟩) ⟨hp2, hp3, hp6, hW⟩ ?_
      simp only [List.set_cons_zero, List.set_cons_succ]
      refine wpAnyH_ready (by kernel_rfl) (by simp) (readyCons 29 2 31 rfl rfl (by rfl) (fun K hK => wp_callF 14 #[.agg (rgV s c a b), .agg (rgV s2 c2 a2 b2)] (by go_simp) (lov s c a b s2 c2 a2 b2 false hrq.out _) ?_) AllReadyH.nil)
      rintro e w32 ⟨rfl, bx⟩
      replace hp2 := hp2.below bx hp2.lt
      replace hp3 := hp3.below bx hp3.lt
      replace hp6 := hp6.below bx hp6.lt
      replace hW := hW.trans (bx.mono (Nat.le_trans hB0 hW.size))
      clear bx
      refine ⟨_, rfl, hK.out _ _ ⟨hp2, hp3, hp6, hW⟩ (fun _ => ?_)⟩
      clear hK K
      simp only [List.set_cons_zero, List.set_cons_succ]
      refine takeH 28 4 33 (.bool true) rfl rfl (by kernel_rfl) (by kernel_rfl) (by kernel_rfl) (fun _ _ _ h => h) (Or.inl ⟨by rfl, fun w _ => by go_simp⟩) ⟨hp2, hp3, hp6, hW⟩ ?_
      simp only [List.set_cons_zero, List.set_cons_succ]
      refine takeH 27 5 34 (.bool true) rfl rfl (by kernel_rfl) (by kernel_rfl) (by kernel_rfl) (fun _ _ _ h => h) (Or.inl ⟨by rfl, fun w _ => by go_simp⟩) ⟨hp2, hp3, hp6, hW⟩ ?_
      simp only [List.set_cons_zero, List.set_cons_succ]
      refine takeH 26 6 35 (.agg (rgV s2 c2 a2 b2)) rfl rfl (by kernel_rfl) (by kernel_rfl) (by kernel_rfl) (fun _ _ _ h => h) (Or.inl ⟨by rfl, fun _ h => exec_row 36 (.tmp 3) rfl p3 rfl 36 (rgV s2 c2 a2 b2) _ h.2.1 (by exact Try.underlying36) rfl (rgV_sz _ _ _ _)⟩) ⟨hp2, hp3, hp6, hW⟩ ?_
      simp only [List.set_cons_zero, List.set_cons_succ]
      refine takeH 25 7 36 (.agg (rgV s c a b)) rfl rfl (by kernel_rfl) (by kernel_rfl) (by kernel_rfl) (fun _ _ _ h => h) (Or.inl ⟨by rfl, fun _ h => exec_row 36 (.tmp 2) rfl p2 rfl 36 (rgV s c a b) _ h.1 (by exact Try.underlying36) rfl (rgV_sz _ _ _ _)⟩) ⟨hp2, hp3, hp6, hW⟩ ?_
      simp only [List.set_cons_zero, List.set_cons_succ]
      refine takeH 24 9 38 (.bool false) rfl rfl (by kernel_rfl) (by kernel_rfl) (by kernel_rfl) (fun _ _ _ h => h) (Or.inl ⟨by rfl, fun w _ => by go_simp⟩) ⟨hp2, hp3, hp6, hW⟩ ?_
      simp only [List.set_cons_zero, List.set_cons_succ]
      refine wpAnyH_ready (by kernel_rfl) (by simp) (readyCons 23 8 37 rfl rfl (by rfl) (fun K hK => wp_callF 14 #[.agg (rgV s2 c2 a2 b2), .agg (rgV s c a b)] (by go_simp) (lov s2 c2 a2 b2 s c a b false hrs.out _) ?_) AllReadyH.nil)
      rintro e w33 ⟨rfl, bx⟩
      replace hp2 := hp2.below bx hp2.lt
      replace hp3 := hp3.below bx hp3.lt
      replace hp6 := hp6.below bx hp6.lt
      replace hW := hW.trans (bx.mono (Nat.le_trans hB0 hW.size))
      clear bx
      refine ⟨_, rfl, hK.out _ _ ⟨hp2, hp3, hp6, hW⟩ (fun _ => ?_)⟩
      clear hK K
      simp only [List.set_cons_zero, List.set_cons_succ]
      refine takeH 22 10 39 (.bool true) rfl rfl (by kernel_rfl) (by kernel_rfl) (by kernel_rfl) (fun _ _ _ h => h) (Or.inl ⟨by rfl, fun w _ => by go_simp⟩) ⟨hp2, hp3, hp6, hW⟩ ?_
      simp only [List.set_cons_zero, List.set_cons_succ]
      refine takeH 21 11 40 (.bool true) rfl rfl (by kernel_rfl) (by kernel_rfl) (by kernel_rfl) (fun _ _ _ h => h) (Or.inl ⟨by rfl, fun w _ => by go_simp⟩) ⟨hp2, hp3, hp6, hW⟩ ?_
      simp only [List.set_cons_zero, List.set_cons_succ]
      refine takeH 20 12 41 (.bool true) rfl rfl (by kernel_rfl) (by kernel_rfl) (by kernel_rfl) (fun _ _ _ h => h) (Or.inl ⟨by rfl, fun w _ => by go_simp⟩) ⟨hp2, hp3, hp6, hW⟩ ?_
      simp only [List.set_cons_zero, List.set_cons_succ]
      refine takeH 19 13 42 (.agg (rgV s c a b)) rfl rfl (by kernel_rfl) (by kernel_rfl) (by kernel_rfl) (fun _ _ _ h => h) (Or.inl ⟨by rfl, fun _ h => exec_row 36 (.tmp 2) rfl p2 rfl 36 (rgV s c a b) _ h.1 (by exact Try.underlying36) rfl (rgV_sz _ _ _ _)⟩) ⟨hp2, hp3, hp6, hW⟩ ?_
      simp only [List.set_cons_zero, List.set_cons_succ]
      refine takeH 18 14 43 (.agg (#[.int .u32 (((s2 : Nat) : Int)), .int .u64 ((c9 : Nat) : Int), .int .u32 (((a2 : Nat) : Int)), .int .u32 (((b2 : Nat) : Int))])) rfl rfl (by kernel_rfl) (by kernel_rfl) (by kernel_rfl) (fun _ _ _ h => h) (Or.inl ⟨by rfl, fun _ h => exec_row 36 (.tmp 6) rfl p6 rfl 36 (#[.int .u32 (((s2 : Nat) : Int)), .int .u64 ((c9 : Nat) : Int), .int .u32 (((a2 : Nat) : Int)), .int .u32 (((b2 : Nat) : Int))]) _ h.2.2.1 (by exact Try.underlying36) rfl (rgV_sz _ _ _ _)⟩) ⟨hp2, hp3, hp6, hW⟩ ?_
      simp only [List.set_cons_zero, List.set_cons_succ]
      refine wpAnyH_ready (by kernel_rfl) (by simp) (readyCons 17 15 44 rfl rfl (by rfl) (fun K hK => wp_callF 14 #[.agg (rgV s c a b), .agg (#[.int .u32 (((s2 : Nat) : Int)), .int .u64 ((c9 : Nat) : Int), .int .u32 (((a2 : Nat) : Int)), .int .u32 (((b2 : Nat) : Int))])] (by go_simp) (lov s c a b s2 c9 a2 b2 false hoff.out _) ?_) AllReadyH.nil)
      rintro e w34 ⟨rfl, bx⟩
      replace hp2 := hp2.below bx hp2.lt
      replace hp3 := hp3.below bx hp3.lt
      replace hp6 := hp6.below bx hp6.lt
      replace hW := hW.trans (bx.mono (Nat.le_trans hB0 hW.size))
      clear bx
      refine ⟨_, rfl, hK.out _ _ ⟨hp2, hp3, hp6, hW⟩ (fun _ => ?_)⟩
      clear hK K
      simp only [List.set_cons_zero, List.set_cons_succ]
      refine takeH 16 16 45 (.bool true) rfl rfl (by kernel_rfl) (by kernel_rfl) (by kernel_rfl) (fun _ _ _ h => h) (Or.inl ⟨by rfl, fun w _ => by go_simp⟩) ⟨hp2, hp3, hp6, hW⟩ ?_
      simp only [List.set_cons_zero, List.set_cons_succ]
      refine takeH 15 17 46 (.bool true) rfl rfl (by kernel_rfl) (by kernel_rfl) (by kernel_rfl) (fun _ _ _ h => h) (Or.inl ⟨by rfl, fun w _ => by go_simp⟩) ⟨hp2, hp3, hp6, hW⟩ ?_
      simp only [List.set_cons_zero, List.set_cons_succ]
      refine takeH 14 18 47 (.bool true) rfl rfl (by kernel_rfl) (by kernel_rfl) (by kernel_rfl) (fun _ _ _ h => h) (Or.inl ⟨by rfl, fun w _ => by go_simp⟩) ⟨hp2, hp3, hp6, hW⟩ ?_
      simp only [List.set_cons_zero, List.set_cons_succ]
      refine takeH 13 19 48 (.agg (rgV s c a b)) rfl rfl (by kernel_rfl) (by kernel_rfl) (by kernel_rfl) (fun _ _ _ h => h) (Or.inl ⟨by rfl, fun _ h => exec_row 36 (.tmp 2) rfl p2 rfl 36 (rgV s c a b) _ h.1 (by exact Try.underlying36) rfl (rgV_sz _ _ _ _)⟩) ⟨hp2, hp3, hp6, hW⟩ ?_
      simp only [List.set_cons_zero, List.set_cons_succ]
      refine takeH 12 20 49 (.agg (rgV s c a b)) rfl rfl (by kernel_rfl) (by kernel_rfl) (by kernel_rfl) (fun _ _ _ h => h) (Or.inl ⟨by rfl, fun _ h => exec_row 36 (.tmp 2) rfl p2 rfl 36 (rgV s c a b) _ h.1 (by exact Try.underlying36) rfl (rgV_sz _ _ _ _)⟩) ⟨hp2, hp3, hp6, hW⟩ ?_
      simp only [List.set_cons_zero, List.set_cons_succ]
      refine takeH 11 22 51 (.pointer (some ⟨p2, 2, none⟩)) rfl rfl (by kernel_rfl) (by kernel_rfl) (by kernel_rfl) (fun _ _ _ h => h) (Or.inl ⟨by rfl, fun w _ => by go_simp⟩) ⟨hp2, hp3, hp6, hW⟩ ?_
      simp only [List.set_cons_zero, List.set_cons_succ]
      refine takeH 10 23 52 (.int .u32 (((a : Nat) : Int))) rfl rfl (by kernel_rfl) (by kernel_rfl) (by kernel_rfl) (fun _ _ _ h => h) (Or.inl ⟨by rfl, fun _ h => exec_cell 23 (.tmp 51) rfl p2 2 rfl (.int .u32 (((a : Nat) : Int))) _ Try.underlying23 rfl (h.1.cellIs 2 rfl)⟩) ⟨hp2, hp3, hp6, hW⟩ ?_
      simp only [List.set_cons_zero, List.set_cons_succ]
      refine takeH 9 24 53 (.pointer (some ⟨p2, 3, none⟩)) rfl rfl (by kernel_rfl) (by kernel_rfl) (by kernel_rfl) (fun _ _ _ h => h) (Or.inl ⟨by rfl, fun w _ => by go_simp⟩) ⟨hp2, hp3, hp6, hW⟩ ?_
      simp only [List.set_cons_zero, List.set_cons_succ]
      refine takeH 8 25 54 (.int .u32 (((b : Nat) : Int))) rfl rfl (by kernel_rfl) (by kernel_rfl) (by kernel_rfl) (fun _ _ _ h => h) (Or.inl ⟨by rfl, fun _ h => exec_cell 23 (.tmp 53) rfl p2 3 rfl (.int .u32 (((b : Nat) : Int))) _ Try.underlying23 rfl (h.1.cellIs 3 rfl)⟩) ⟨hp2, hp3, hp6, hW⟩ ?_
      simp only [List.set_cons_zero, List.set_cons_succ]
      refine takeH 7 26 55 (.bool false) rfl rfl (by kernel_rfl) (by kernel_rfl) (by kernel_rfl) (fun _ _ _ h => h) (Or.inl ⟨by rfl, fun w _ => by go_simp⟩) ⟨hp2, hp3, hp6, hW⟩ ?_
      simp only [List.set_cons_zero, List.set_cons_succ]
      refine wpAnyH_ready (by kernel_rfl) (by simp) (readyCons 6 21 50 rfl rfl (by rfl) (fun K hK => wp_callF 14 #[.agg (rgV s c a b), .agg (rgV s c a b)] (by go_simp) (lov s c a b s c a b false hsl.out _) ?_) AllReadyH.nil)
      rintro e w35 ⟨rfl, bx⟩
      replace hp2 := hp2.below bx hp2.lt
      replace hp3 := hp3.below bx hp3.lt
      replace hp6 := hp6.below bx hp6.lt
      replace hW := hW.trans (bx.mono (Nat.le_trans hB0 hW.size))
      clear bx
      refine ⟨_, rfl, hK.out _ _ ⟨hp2, hp3, hp6, hW⟩ (fun _ => ?_)⟩
      clear hK K
      simp only [List.set_cons_zero, List.set_cons_succ]
      refine takeH 5 27 56 (.bool true) rfl rfl (by kernel_rfl) (by kernel_rfl) (by kernel_rfl) (fun _ _ _ h => h) (Or.inl ⟨by rfl, fun w _ => by go_simp⟩) ⟨hp2, hp3, hp6, hW⟩ ?_
      simp only [List.set_cons_zero, List.set_cons_succ]
      refine takeH 4 28 57 (.bool true) rfl rfl (by kernel_rfl) (by kernel_rfl) (by kernel_rfl) (fun _ _ _ h => h) (Or.inl ⟨by rfl, fun w _ => by go_simp⟩) ⟨hp2, hp3, hp6, hW⟩ ?_
      simp only [List.set_cons_zero, List.set_cons_succ]
      refine takeH 3 29 58 (.bool true) rfl rfl (by kernel_rfl) (by kernel_rfl) (by kernel_rfl) (fun _ _ _ h => h) (Or.inl ⟨by rfl, fun w _ => by go_simp⟩) ⟨hp2, hp3, hp6, hW⟩ ?_
      simp only [List.set_cons_zero, List.set_cons_succ]
      refine wpAnyH_ready (by kernel_rfl) (by simp) (readyCons 2 30 59 rfl rfl (by rfl) (fun K hK => wp_callF 11 #[] (by go_simp) (lives_any7 _) ?_) AllReadyH.nil)
      rintro e w36 ⟨rfl, bx⟩
      replace hp2 := hp2.below bx hp2.lt
      replace hp3 := hp3.below bx hp3.lt
      replace hp6 := hp6.below bx hp6.lt
      replace hW := hW.trans (bx.mono (Nat.le_trans hB0 hW.size))
      clear bx
      refine ⟨_, rfl, hK.out _ _ ⟨hp2, hp3, hp6, hW⟩ (fun _ => ?_)⟩
      clear hK K
      simp only [List.set_cons_zero, List.set_cons_succ]
      refine takeH 1 31 60 (.bool true) rfl rfl (by kernel_rfl) (by kernel_rfl) (by kernel_rfl) (fun _ _ _ h => h) (Or.inl ⟨by rfl, fun w _ => by go_simp⟩) ⟨hp2, hp3, hp6, hW⟩ ?_
      simp only [List.set_cons_zero, List.set_cons_succ]
      refine takeH 0 32 4 (.bool true) rfl rfl (by kernel_rfl) (by kernel_rfl) (by kernel_rfl) (fun _ _ _ h => h) (Or.inl ⟨by rfl, fun w _ => by go_simp⟩) ⟨hp2, hp3, hp6, hW⟩ ?_
      simp only [List.set_cons_zero, List.set_cons_succ]
      refine wpAnyH_done (by kernel_rfl) ?_ _
      go_wp2_with fail
      go_ret
      exact ⟨rfl, hW⟩
    ·
      go_enter Try.func5, Try.ntmps5
      go_upto_region 0 with fail
      refine wl_lit ?_
      refine runWL 2 (.pointer (some ⟨w.heap.size, 0, none⟩)) (w.alloc (.cells (rgV s c a b) 36)) rfl (by rfl) (exec_box 36 (.tmp 0) rfl (.agg (rgV s c a b)) rfl) ?_
      simp only [List.set_cons_zero, List.set_cons_succ]
      have lw_p2 := Nat.le_trans hB0 hW.size
      have hp2 : Blk (w.alloc (.cells (rgV s c a b) 36)) w.heap.size 36 (rgV s c a b) := Blk.new _ _ _
      replace hW := hW.alloc (Nat.le_trans hB0 hW.size) (.cells (rgV s c a b) 36)
      generalize w.alloc (.cells (rgV s c a b) 36) = w37 at *
      generalize w.heap.size = p2 at hp2 lw_p2  ⊢
      refine runWL 3 (.pointer (some ⟨w37.heap.size, 0, none⟩)) (w37.alloc (.cells (rgV s2 c2 a2 b2) 36)) rfl (by rfl) (exec_box 36 (.tmp 1) rfl (.agg (rgV s2 c2 a2 b2)) rfl) ?_
      simp only [List.set_cons_zero, List.set_cons_succ]
      have lp2_p3 := hp2.lt
      have lw_p3 := Nat.le_trans hB0 hW.size
      have hp3 : Blk (w37.alloc (.cells (rgV s2 c2 a2 b2) 36)) w37.heap.size 36 (rgV s2 c2 a2 b2) := Blk.new _ _ _
      replace hp2 := hp2.alloc (.cells (rgV s2 c2 a2 b2) 36)
      replace hW := hW.alloc (Nat.le_trans hB0 hW.size) (.cells (rgV s2 c2 a2 b2) 36)
      generalize w37.alloc (.cells (rgV s2 c2 a2 b2) 36) = w38 at *
      generalize w37.heap.size = p3 at hp3 lw_p3 lp2_p3 ⊢
      refine runL 4 (.bool false) rfl (by rfl) (by go_simp) ?_
      simp only [List.set_cons_zero, List.set_cons_succ]
      refine nilL ?_
      go_upto_region 1 with fail
      refine wl_lit ?_
      refine runL 7 (.pointer (some ⟨p2, 0, none⟩)) rfl (by rfl) (by go_simp) ?_
      simp only [List.set_cons_zero, List.set_cons_succ]
      refine runL 8 (.agg (noV s c)) rfl (by rfl) (exec_mid 26 (.tmp 7) rfl p2 0 rfl (noV s c).toList _ (hp2.range 0 2) (by exact Try.underlying26) rfl (by kernel_rfl)) ?_
      simp only [List.set_cons_zero, List.set_cons_succ]
      refine runL 9 (.pointer (some ⟨p3, 0, none⟩)) rfl (by rfl) (by go_simp) ?_
      simp only [List.set_cons_zero, List.set_cons_succ]
      refine runL 10 (.agg (noV s2 c2)) rfl (by rfl) (exec_mid 26 (.tmp 9) rfl p3 0 rfl (noV s2 c2).toList _ (hp3.range 0 2) (by exact Try.underlying26) rfl (by kernel_rfl)) ?_
      simp only [List.set_cons_zero, List.set_cons_succ]
      refine runL 11 (.pointer (some ⟨p2, 2, none⟩)) rfl (by rfl) (by go_simp) ?_
      simp only [List.set_cons_zero, List.set_cons_succ]
      refine runL 12 (.int .u32 (((a : Nat) : Int))) rfl (by rfl) (exec_cell 23 (.tmp 11) rfl p2 2 rfl (.int .u32 (((a : Nat) : Int))) _ Try.underlying23 rfl (hp2.cellIs 2 rfl)) ?_
      simp only [List.set_cons_zero, List.set_cons_succ]
      refine runL 13 (.pointer (some ⟨p2, 3, none⟩)) rfl (by rfl) (by go_simp) ?_
      simp only [List.set_cons_zero, List.set_cons_succ]
      refine runL 14 (.int .u32 (((b : Nat) : Int))) rfl (by rfl) (exec_cell 23 (.tmp 13) rfl p2 3 rfl (.int .u32 (((b : Nat) : Int))) _ Try.underlying23 rfl (hp2.cellIs 3 rfl)) ?_
      simp only [List.set_cons_zero, List.set_cons_succ]
      refine runL 15 (.agg (r2V a b)) rfl (by rfl) (exec_build 33 _ rfl (r2V a b) (by kernel_rfl)) ?_
      simp only [List.set_cons_zero, List.set_cons_succ]
      refine runL 16 (.pointer (some ⟨p3, 2, none⟩)) rfl (by rfl) (by go_simp) ?_
      simp only [List.set_cons_zero, List.set_cons_succ]
      refine runL 17 (.int .u32 (((a2 : Nat) : Int))) rfl (by rfl) (exec_cell 23 (.tmp 16) rfl p3 2 rfl (.int .u32 (((a2 : Nat) : Int))) _ Try.underlying23 rfl (hp3.cellIs 2 rfl)) ?_
      simp only [List.set_cons_zero, List.set_cons_succ]
      refine runL 18 (.pointer (some ⟨p3, 3, none⟩)) rfl (by rfl) (by go_simp) ?_
      simp only [List.set_cons_zero, List.set_cons_succ]
      refine runL 19 (.int .u32 (((b2 : Nat) : Int))) rfl (by rfl) (exec_cell 23 (.tmp 18) rfl p3 3 rfl (.int .u32 (((b2 : Nat) : Int))) _ Try.underlying23 rfl (hp3.cellIs 3 rfl)) ?_
      simp only [List.set_cons_zero, List.set_cons_succ]
      refine runL 20 (.agg (r2V a2 b2)) rfl (by rfl) (exec_build 33 _ rfl (r2V a2 b2) (by kernel_rfl)) ?_
      simp only [List.set_cons_zero, List.set_cons_succ]
      refine callL 21 rfl (by rfl) (fun K hK => wp_callF 13 #[.agg (noV s c), .agg (noV s2 c2), .agg (r2V a b), .agg (r2V a2 b2)] (by go_simp) (roverlap_any s c a b s2 c2 a2 b2 true hrq.out _) ?_)
      rintro e w39 ⟨rfl, bx⟩
      replace hp2 := hp2.below bx hp2.lt
      replace hp3 := hp3.below bx hp3.lt
      replace hW := hW.trans (bx.mono (Nat.le_trans hB0 hW.size))
      clear bx
      refine ⟨_, rfl, hK.out _ _ ?_⟩
      clear hK K
      simp only [List.set_cons_zero, List.set_cons_succ]
      refine runL 5 (.bool true) rfl (by rfl) (by go_simp) ?_
      simp only [List.set_cons_zero, List.set_cons_succ]
      refine nilL ?_
      go_upto_region 2 with fail
      refine wl_lit ?_
      refine runL 22 (.agg (rgV s2 c2 a2 b2)) rfl (by rfl) (exec_row 36 (.tmp 3) rfl p3 rfl 36 (rgV s2 c2 a2 b2) _ hp3 (by exact Try.underlying36) rfl (rgV_sz _ _ _ _)) ?_
      simp only [List.set_cons_zero, List.set_cons_succ]
      refine runWL 6 (.pointer (some ⟨w39.heap.size, 0, none⟩)) (w39.alloc (.cells (rgV 0 0 0 0) 36)) rfl (by rfl) (exec_allocV 36 rfl _ (zv_Range _)) ?_
      simp only [List.set_cons_zero, List.set_cons_succ]
      have lp2_p6 := hp2.lt
      have lp3_p6 := hp3.lt
      have lw_p6 := Nat.le_trans hB0 hW.size
      have hp6 : Blk (w39.alloc (.cells (rgV 0 0 0 0) 36)) w39.heap.size 36 (rgV 0 0 0 0) := Blk.new _ _ _
      replace hp2 := hp2.alloc (.cells (rgV 0 0 0 0) 36)
      replace hp3 := hp3.alloc (.cells (rgV 0 0 0 0) 36)
      replace hW := hW.alloc (Nat.le_trans hB0 hW.size) (.cells (rgV 0 0 0 0) 36)
      generalize w39.alloc (.cells (rgV 0 0 0 0) 36) = w40 at *
      generalize w39.heap.size = p6 at hp6 lw_p6 lp2_p6 lp3_p6 ⊢
      refine runSL (w40.setRow p6 (rgV s2 c2 a2 b2)) rfl (by rfl) (exec_storeRow 36 (.tmp 6) (.tmp 22) rfl p6 rfl (rgV s2 c2 a2 b2) rfl 36 (rgV 0 0 0 0) hp6 (sz_eq (rgV_sz _ _ _ _) (rgV_sz _ _ _ _)) (rgV_sz _ _ _ _) (rgV_one _ _ _ _)) ?_
      replace hp2 := hp2.rowFar (show p6 ≠ p2 from (by omega)) (rgV s2 c2 a2 b2)
      replace hp3 := hp3.rowFar (show p6 ≠ p3 from (by omega)) (rgV s2 c2 a2 b2)
      replace hp6 := hp6.row (rgV s2 c2 a2 b2)
      replace hW := below_setRow hW lw_p6 (rgV s2 c2 a2 b2)
      generalize w40.setRow p6 (rgV s2 c2 a2 b2) = w41 at *
      refine nilL ?_
      go_upto_region 3 with fail
      refine wl_lit ?_
      refine runL 23 (.pointer (some ⟨p2, 0, none⟩)) rfl (by rfl) (by go_simp) ?_
      simp only [List.set_cons_zero, List.set_cons_succ]
      refine runL 24 (.pointer (some ⟨p2, 1, none⟩)) rfl (by rfl) (by go_simp) ?_
      simp only [List.set_cons_zero, List.set_cons_succ]
      refine runL 25 (.int .u64 (((c : Nat) : Int))) rfl (by rfl) (exec_cell 24 (.tmp 24) rfl p2 1 rfl (.int .u64 (((c : Nat) : Int))) _ Try.underlying24 rfl (hp2.cellIs 1 rfl)) ?_
      simp only [List.set_cons_zero, List.set_cons_succ]
      refine runL 26 (.int .u64 ((c9 : Nat) : Int)) rfl (by rfl) (by go_simp) ?_
      simp only [List.set_cons_zero, List.set_cons_succ]
      refine runL 27 (.pointer (some ⟨p6, 0, none⟩)) rfl (by rfl) (by go_simp) ?_
      simp only [List.set_cons_zero, List.set_cons_succ]
      refine runL 28 (.pointer (some ⟨p6, 1, none⟩)) rfl (by rfl) (by go_simp) ?_
      simp only [List.set_cons_zero, List.set_cons_succ]
      refine runSL (w41.setCell ⟨p6, 1, none⟩ (.int .u64 ((c9 : Nat) : Int))) rfl (by rfl) (exec_storeCell 24 (.tmp 28) (.tmp 26) rfl p6 1 rfl (.int .u64 ((c9 : Nat) : Int)) rfl rfl rfl 36 (rgV s2 c2 a2 b2) hp6 (show 1 < 4 by decide) (by kernel_rfl)) ?_
      replace hp2 := hp2.far (p := ⟨p6, 1, none⟩) (show p2 ≠ p6 from (by omega)) (.int .u64 ((c9 : Nat) : Int))
      replace hp3 := hp3.far (p := ⟨p6, 1, none⟩) (show p3 ≠ p6 from (by omega)) (.int .u64 ((c9 : Nat) : Int))
      replace hp6 : Blk (w41.setCell ⟨p6, 1, none⟩ (.int .u64 ((c9 : Nat) : Int))) p6 36 (#[.int .u32 (((s2 : Nat) : Int)), .int .u64 ((c9 : Nat) : Int), .int .u32 (((a2 : Nat) : Int)), .int .u32 (((b2 : Nat) : Int))]) := hp6.set_ 1 (.int .u64 ((c9 : Nat) : Int))
      replace hW := hW.setCell (p := ⟨p6, 1, none⟩) lw_p6 (.int .u64 ((c9 : Nat) : Int))
      generalize w41.setCell ⟨p6, 1, none⟩ (.int .u64 ((c9 : Nat) : Int)) = w42 at *
      refine nilL ?_
      go_upto_region 4 with fail
      refine wp_region_held_drew (S := fun wr => Blk wr p2 36 (rgV s c a b) ∧ Blk wr p3 36 (rgV s2 c2 a2 b2) ∧ Blk wr p6 36 (#[.int .u32 (((s2 : Nat) : Int)), .int .u64 ((c9 : Nat) : Int), .int .u32 (((a2 : Nat) : Int)), .int .u32 (((b2 : Nat) : Int))]) ∧ Below B0 w wr) (by kernel_rfl) ⟨hp2.drew, hp3.drew, hp6.drew, below_drewN hW 1⟩ (fun hH => ?_)
      clear hp2 hp3 hp6 hW
      obtain ⟨hp2, hp3, hp6, hW⟩ := hH
      generalize w42.drew = w43 at *
      refine takeH 32 0 29 (.agg (rgV s c a b)) rfl rfl (by kernel_rfl) (by kernel_rfl) (by kernel_rfl) (fun _ _ _ h => h) (Or.inl ⟨by rfl, fun _ h => exec_row 36 (.tmp 2) rfl p2 rfl 36 (rgV s c a b) _ h.1 (by exact Try.underlying36) rfl (rgV_sz _ _ _ _)⟩) ⟨hp2, hp3, hp6, hW⟩ ?_
      simp only [List.set_cons_zero, List.set_cons_succ]
      refine takeH 31 1 30 (.agg (rgV s2 c2 a2 b2)) rfl rfl (by kernel_rfl) (by kernel_rfl) (by kernel_rfl) (fun _ _ _ h => h) (Or.inl ⟨by rfl, fun _ h => exec_row 36 (.tmp 3) rfl p3 rfl 36 (rgV s2 c2 a2 b2) _ h.2.1 (by exact Try.underlying36) rfl (rgV_sz _ _ _ _)⟩) ⟨hp2, hp3, hp6, hW⟩ ?_
      simp only [List.set_cons_zero, List.set_cons_succ]
      refine takeH 30 3 32 (.bool true) rfl rfl (by kernel_rfl) (by kernel_rfl) (by kernel_rfl) (fun _ _ _ h => h) (Or.inl ⟨by rfl, fun w _ => by go_simp⟩) ⟨hp2, hp3, hp6, hW⟩ ?_
      simp only [List.set_cons_zero, List.set_cons_succ]
      refine wpAnyH_ready (by kernel_rfl) (by simp) (readyCons 29 2 31 rfl rfl (by rfl) (fun K hK => wp_callF 14 #[.agg (rgV s c a b), .agg (rgV s2 c2 a2 b2)] (by go_simp) (lov s c a b s2 c2 a2 b2 true hrq.out _) ?_) AllReadyH.nil)
      rintro e w44 ⟨rfl, bx⟩
      replace hp2 := hp2.below bx hp2.lt
      replace hp3 := hp3.below bx hp3.lt
      replace hp6 := hp6.below bx hp6.lt
      replace hW := hW.trans (bx.mono (Nat.le_trans hB0 hW.size))
      clear bx
      refine ⟨_, rfl, hK.out _ _ ⟨hp2, hp3, hp6, hW⟩ (fun _ => ?_)⟩
      clear hK K
      simp only [List.set_cons_zero, List.set_cons_succ]
      refine takeH 28 4 33 (.bool true) rfl rfl (by kernel_rfl) (by kernel_rfl) (by kernel_rfl) (fun _ _ _ h => h) (Or.inl ⟨by rfl, fun w _ => by go_simp⟩) ⟨hp2, hp3, hp6, hW⟩ ?_
      simp only [List.set_cons_zero, List.set_cons_succ]
      refine takeH 27 5 34 (.bool true) rfl rfl (by kernel_rfl) (by kernel_rfl) (by kernel_rfl) (fun _ _ _ h => h) (Or.inl ⟨by rfl, fun w _ => by go_simp⟩) ⟨hp2, hp3, hp6, hW⟩ ?_
      simp only [List.set_cons_zero, List.set_cons_succ]
      refine takeH 26 6 35 (.agg (rgV s2 c2 a2 b2)) rfl rfl (by kernel_rfl) (by kernel_rfl) (by kernel_rfl) (fun _ _ _ h => h) (Or.inl ⟨by rfl, fun _ h => exec_row 36 (.tmp 3) rfl p3 rfl 36 (rgV s2 c2 a2 b2) _ h.2.1 (by exact Try.underlying36) rfl (rgV_sz _ _ _ _)⟩) ⟨hp2, hp3, hp6, hW⟩ ?_
      simp only [List.set_cons_zero, List.set_cons_succ]
      refine takeH 25 7 36 (.agg (rgV s c a b)) rfl rfl (by kernel_rfl) (by kernel_rfl) (by kernel_rfl) (fun _ _ _ h => h) (Or.inl ⟨by rfl, fun _ h => exec_row 36 (.tmp 2) rfl p2 rfl 36 (rgV s c a b) _ h.1 (by exact Try.underlying36) rfl (rgV_sz _ _ _ _)⟩) ⟨hp2, hp3, hp6, hW⟩ ?_
      simp only [List.set_cons_zero, List.set_cons_succ]
      refine takeH 24 9 38 (.bool true) rfl rfl (by kernel_rfl) (by kernel_rfl) (by kernel_rfl) (fun _ _ _ h => h) (Or.inl ⟨by rfl, fun w _ => by go_simp⟩) ⟨hp2, hp3, hp6, hW⟩ ?_
      simp only [List.set_cons_zero, List.set_cons_succ]
      refine wpAnyH_ready (by kernel_rfl) (by simp) (readyCons 23 8 37 rfl rfl (by rfl) (fun K hK => wp_callF 14 #[.agg (rgV s2 c2 a2 b2), .agg (rgV s c a b)] (by go_simp) (lov s2 c2 a2 b2 s c a b true hrs.out _) ?_) AllReadyH.nil)
      rintro e w45 ⟨rfl, bx⟩
      replace hp2 := hp2.below bx hp2.lt
      replace hp3 := hp3.below bx hp3.lt
      replace hp6 := hp6.below bx hp6.lt
      replace hW := hW.trans (bx.mono (Nat.le_trans hB0 hW.size))
      clear bx
      refine ⟨_, rfl, hK.out _ _ ⟨hp2, hp3, hp6, hW⟩ (fun _ => ?_)⟩
      clear hK K
      simp only [List.set_cons_zero, List.set_cons_succ]
      refine takeH 22 10 39 (.bool true) rfl rfl (by kernel_rfl) (by kernel_rfl) (by kernel_rfl) (fun _ _ _ h => h) (Or.inl ⟨by rfl, fun w _ => by go_simp⟩) ⟨hp2, hp3, hp6, hW⟩ ?_
      simp only [List.set_cons_zero, List.set_cons_succ]
      refine takeH 21 11 40 (.bool true) rfl rfl (by kernel_rfl) (by kernel_rfl) (by kernel_rfl) (fun _ _ _ h => h) (Or.inl ⟨by rfl, fun w _ => by go_simp⟩) ⟨hp2, hp3, hp6, hW⟩ ?_
      simp only [List.set_cons_zero, List.set_cons_succ]
      refine takeH 20 12 41 (.bool true) rfl rfl (by kernel_rfl) (by kernel_rfl) (by kernel_rfl) (fun _ _ _ h => h) (Or.inl ⟨by rfl, fun w _ => by go_simp⟩) ⟨hp2, hp3, hp6, hW⟩ ?_
      simp only [List.set_cons_zero, List.set_cons_succ]
      refine takeH 19 13 42 (.agg (rgV s c a b)) rfl rfl (by kernel_rfl) (by kernel_rfl) (by kernel_rfl) (fun _ _ _ h => h) (Or.inl ⟨by rfl, fun _ h => exec_row 36 (.tmp 2) rfl p2 rfl 36 (rgV s c a b) _ h.1 (by exact Try.underlying36) rfl (rgV_sz _ _ _ _)⟩) ⟨hp2, hp3, hp6, hW⟩ ?_
      simp only [List.set_cons_zero, List.set_cons_succ]
      refine takeH 18 14 43 (.agg (#[.int .u32 (((s2 : Nat) : Int)), .int .u64 ((c9 : Nat) : Int), .int .u32 (((a2 : Nat) : Int)), .int .u32 (((b2 : Nat) : Int))])) rfl rfl (by kernel_rfl) (by kernel_rfl) (by kernel_rfl) (fun _ _ _ h => h) (Or.inl ⟨by rfl, fun _ h => exec_row 36 (.tmp 6) rfl p6 rfl 36 (#[.int .u32 (((s2 : Nat) : Int)), .int .u64 ((c9 : Nat) : Int), .int .u32 (((a2 : Nat) : Int)), .int .u32 (((b2 : Nat) : Int))]) _ h.2.2.1 (by exact Try.underlying36) rfl (rgV_sz _ _ _ _)⟩) ⟨hp2, hp3, hp6, hW⟩ ?_
      simp only [List.set_cons_zero, List.set_cons_succ]
      refine wpAnyH_ready (by kernel_rfl) (by simp) (readyCons 17 15 44 rfl rfl (by rfl) (fun K hK => wp_callF 14 #[.agg (rgV s c a b), .agg (#[.int .u32 (((s2 : Nat) : Int)), .int .u64 ((c9 : Nat) : Int), .int .u32 (((a2 : Nat) : Int)), .int .u32 (((b2 : Nat) : Int))])] (by go_simp) (lov s c a b s2 c9 a2 b2 false hoff.out _) ?_) AllReadyH.nil)
      rintro e w46 ⟨rfl, bx⟩
      replace hp2 := hp2.below bx hp2.lt
      replace hp3 := hp3.below bx hp3.lt
      replace hp6 := hp6.below bx hp6.lt
      replace hW := hW.trans (bx.mono (Nat.le_trans hB0 hW.size))
      clear bx
      refine ⟨_, rfl, hK.out _ _ ⟨hp2, hp3, hp6, hW⟩ (fun _ => ?_)⟩
      clear hK K
      simp only [List.set_cons_zero, List.set_cons_succ]
      refine takeH 16 16 45 (.bool true) rfl rfl (by kernel_rfl) (by kernel_rfl) (by kernel_rfl) (fun _ _ _ h => h) (Or.inl ⟨by rfl, fun w _ => by go_simp⟩) ⟨hp2, hp3, hp6, hW⟩ ?_
      simp only [List.set_cons_zero, List.set_cons_succ]
      refine takeH 15 17 46 (.bool true) rfl rfl (by kernel_rfl) (by kernel_rfl) (by kernel_rfl) (fun _ _ _ h => h) (Or.inl ⟨by rfl, fun w _ => by go_simp⟩) ⟨hp2, hp3, hp6, hW⟩ ?_
      simp only [List.set_cons_zero, List.set_cons_succ]
      refine takeH 14 18 47 (.bool true) rfl rfl (by kernel_rfl) (by kernel_rfl) (by kernel_rfl) (fun _ _ _ h => h) (Or.inl ⟨by rfl, fun w _ => by go_simp⟩) ⟨hp2, hp3, hp6, hW⟩ ?_
      simp only [List.set_cons_zero, List.set_cons_succ]
      refine takeH 13 19 48 (.agg (rgV s c a b)) rfl rfl (by kernel_rfl) (by kernel_rfl) (by kernel_rfl) (fun _ _ _ h => h) (Or.inl ⟨by rfl, fun _ h => exec_row 36 (.tmp 2) rfl p2 rfl 36 (rgV s c a b) _ h.1 (by exact Try.underlying36) rfl (rgV_sz _ _ _ _)⟩) ⟨hp2, hp3, hp6, hW⟩ ?_
      simp only [List.set_cons_zero, List.set_cons_succ]
      refine takeH 12 20 49 (.agg (rgV s c a b)) rfl rfl (by kernel_rfl) (by kernel_rfl) (by kernel_rfl) (fun _ _ _ h => h) (Or.inl ⟨by rfl, fun _ h => exec_row 36 (.tmp 2) rfl p2 rfl 36 (rgV s c a b) _ h.1 (by exact Try.underlying36) rfl (rgV_sz _ _ _ _)⟩) ⟨hp2, hp3, hp6, hW⟩ ?_
      simp only [List.set_cons_zero, List.set_cons_succ]
      refine takeH 11 22 51 (.pointer (some ⟨p2, 2, none⟩)) rfl rfl (by kernel_rfl) (by kernel_rfl) (by kernel_rfl) (fun _ _ _ h => h) (Or.inl ⟨by rfl, fun w _ => by go_simp⟩) ⟨hp2, hp3, hp6, hW⟩ ?_
      simp only [List.set_cons_zero, List.set_cons_succ]
      refine takeH 10 23 52 (.int .u32 (((a : Nat) : Int))) rfl rfl (by kernel_rfl) (by kernel_rfl) (by kernel_rfl) (fun _ _ _ h => h) (Or.inl ⟨by rfl, fun _ h => exec_cell 23 (.tmp 51) rfl p2 2 rfl (.int .u32 (((a : Nat) : Int))) _ Try.underlying23 rfl (h.1.cellIs 2 rfl)⟩) ⟨hp2, hp3, hp6, hW⟩ ?_
      simp only [List.set_cons_zero, List.set_cons_succ]
      refine takeH 9 24 53 (.pointer (some ⟨p2, 3, none⟩)) rfl rfl (by kernel_rfl) (by kernel_rfl) (by kernel_rfl) (fun _ _ _ h => h) (Or.inl ⟨by rfl, fun w _ => by go_simp⟩) ⟨hp2, hp3, hp6, hW⟩ ?_
      simp only [List.set_cons_zero, List.set_cons_succ]
      refine takeH 8 25 54 (.int .u32 (((b : Nat) : Int))) rfl rfl (by kernel_rfl) (by kernel_rfl) (by kernel_rfl) (fun _ _ _ h => h) (Or.inl ⟨by rfl, fun _ h => exec_cell 23 (.tmp 53) rfl p2 3 rfl (.int .u32 (((b : Nat) : Int))) _ Try.underlying23 rfl (h.1.cellIs 3 rfl)⟩) ⟨hp2, hp3, hp6, hW⟩ ?_
      simp only [List.set_cons_zero, List.set_cons_succ]
      refine takeH 7 26 55 (.bool false) rfl rfl (by kernel_rfl) (by kernel_rfl) (by kernel_rfl) (fun _ _ _ h => h) (Or.inl ⟨by rfl, fun w _ => by go_simp⟩) ⟨hp2, hp3, hp6, hW⟩ ?_
      simp only [List.set_cons_zero, List.set_cons_succ]
      refine wpAnyH_ready (by kernel_rfl) (by simp) (readyCons 6 21 50 rfl rfl (by rfl) (fun K hK => wp_callF 14 #[.agg (rgV s c a b), .agg (rgV s c a b)] (by go_simp) (lov s c a b s c a b false hsl.out _) ?_) AllReadyH.nil)
      rintro e w47 ⟨rfl, bx⟩
      replace hp2 := hp2.below bx hp2.lt
      replace hp3 := hp3.below bx hp3.lt
      replace hp6 := hp6.below bx hp6.lt
      replace hW := hW.trans (bx.mono (Nat.le_trans hB0 hW.size))
      clear bx
      refine ⟨_, rfl, hK.out _ _ ⟨hp2, hp3, hp6, hW⟩ (fun _ => ?_)⟩
      clear hK K
      simp only [List.set_cons_zero, List.set_cons_succ]
      refine takeH 5 27 56 (.bool true) rfl rfl (by kernel_rfl) (by kernel_rfl) (by kernel_rfl) (fun _ _ _ h => h) (Or.inl ⟨by rfl, fun w _ => by go_simp⟩) ⟨hp2, hp3, hp6, hW⟩ ?_
      simp only [List.set_cons_zero, List.set_cons_succ]
      refine takeH 4 28 57 (.bool true) rfl rfl (by kernel_rfl) (by kernel_rfl) (by kernel_rfl) (fun _ _ _ h => h) (Or.inl ⟨by rfl, fun w _ => by go_simp⟩) ⟨hp2, hp3, hp6, hW⟩ ?_
      simp only [List.set_cons_zero, List.set_cons_succ]
      refine takeH 3 29 58 (.bool true) rfl rfl (by kernel_rfl) (by kernel_rfl) (by kernel_rfl) (fun _ _ _ h => h) (Or.inl ⟨by rfl, fun w _ => by go_simp⟩) ⟨hp2, hp3, hp6, hW⟩ ?_
      simp only [List.set_cons_zero, List.set_cons_succ]
      refine wpAnyH_ready (by kernel_rfl) (by simp) (readyCons 2 30 59 rfl rfl (by rfl) (fun K hK => wp_callF 11 #[] (by go_simp) (lives_any7 _) ?_) AllReadyH.nil)
      rintro e w48 ⟨rfl, bx⟩
      replace hp2 := hp2.below bx hp2.lt
      replace hp3 := hp3.below bx hp3.lt
      replace hp6 := hp6.below bx hp6.lt
      replace hW := hW.trans (bx.mono (Nat.le_trans hB0 hW.size))
      clear bx
      refine ⟨_, rfl, hK.out _ _ ⟨hp2, hp3, hp6, hW⟩ (fun _ => ?_)⟩
      clear hK K
      simp only [List.set_cons_zero, List.set_cons_succ]
      refine takeH 1 31 60 (.bool true) rfl rfl (by kernel_rfl) (by kernel_rfl) (by kernel_rfl) (fun _ _ _ h => h) (Or.inl ⟨by rfl, fun w _ => by go_simp⟩) ⟨hp2, hp3, hp6, hW⟩ ?_
      simp only [List.set_cons_zero, List.set_cons_succ]
      refine takeH 0 32 4 (.bool true) rfl rfl (by kernel_rfl) (by kernel_rfl) (by kernel_rfl) (fun _ _ _ h => h) (Or.inl ⟨by rfl, fun w _ => by go_simp⟩) ⟨hp2, hp3, hp6, hW⟩ ?_
      simp only [List.set_cons_zero, List.set_cons_succ]
      refine wpAnyH_done (by kernel_rfl) ?_ _
      go_wp2_with fail
      go_ret
      exact ⟨rfl, hW⟩
end Go.Proofs.Ytpcdckhabaoieaa
