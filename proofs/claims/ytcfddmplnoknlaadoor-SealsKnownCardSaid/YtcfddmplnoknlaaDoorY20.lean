/-
  The walks of caissonref09.Message, Xor, Seal, Open. (Printed by mkseal09b.py.)
-/
import Derived.Test.YtcfddmplnoknlaaDoorY19
namespace Go.Proofs.YtcfddmplnoknlaaDoor
set_option maxRecDepth 16384
open Go.RowKit Sh
theorem rnput_to (s c : Nat) (hs : s < 4294967296) (hc : c < 18446744073709551616) (w : World) :
    Calls Tryd.prog 28 #[.agg (noV s c)] w fun e w' => ∃ A cp, e = .returned (.slice A 12 cp) ∧ Own w' w.heap.size A 12 cp (noB s c) ∧ Below w.heap.size w w' := by
  refine (rnput_any s c hs hc w).mono ?_
  rintro e w' ⟨v, rfl, h, bx⟩
  have hf : ∃ A c', v = .slice A 12 c' := by
    rcases h.2 with ⟨e, h0⟩ | ⟨g, cap, cur, e, _, _, hc, _⟩
    · omega
    · exact ⟨_, _, e⟩
  obtain ⟨A, cp, rfl⟩ := hf
  exact ⟨A, cp, rfl, h, bx⟩
theorem rput32_to9 (v : Nat) (hv : v < 4294967296) (w : World) :
  Calls Tryd.prog 27 #[.int .u32 (v : Int)] w fun e w' => ∃ g, e = .returned (.slice (some ⟨g, 0, none⟩) 4 4) ∧ Blk w' g 5 (va .u8 (beB v 4)) ∧ w.heap.size ≤ g ∧ Below w.heap.size w w' := by
 refine (rput32_any v hv w).mono ?_
 rintro e w' ⟨r, rfl, g, rfl, h1, h2, h3⟩
 exact ⟨g, by rw [beB_len], h1, h2, h3⟩
theorem rxor_to0 (key : List Nat) (s c : Nat) (d x : List Nat) (hx : kxor key s c 0 d = x) (hkl : key.length = 16) (hkb : Byt key) (hs : s < 4294967296) (hc : c < 18446744073709551616) (hdl : d.length = 32) (hdb : Byt d) (A : Option Addr) (cc B : Nat) (w : World) (hr : Reads w B 1 A 32 (nv .u8 d)) (hBw : B ≤ w.heap.size) :
  Calls Tryd.prog 55 #[.agg (va .u8 key), .agg (noV s c), .int .i64 0, .slice A 32 cc] w fun e' w' => ∃ A2 c2, e' = .returned (.slice A2 32 c2) ∧ Own w' w.heap.size A2 32 c2 x ∧ Below w.heap.size w w' := by
 subst hx; exact rxor_any key s c 0 32 d hkl hkb hs hc hdl hdb (by decide) A cc B w hr hBw
theorem rhm_to (key m t : List Nat) (ht : hm key m = t) (A : Option Addr) (n c B : Nat) (A2 : Option Addr) (n2 c2 B2 : Nat) (hk : Byt key) (hn : n < 100000) (hm0 : Byt m) (hn2 : n2 < 100000) (w : World)
  (hr : Reads w B 1 A n (nv .u8 key)) (hB : B ≤ w.heap.size) (hr2 : Reads w B2 1 A2 n2 (nv .u8 m)) (hB2 : B2 ≤ w.heap.size) :
  Calls Tryd.prog 35 #[.slice A n c, .slice A2 n2 c2] w fun e w' => e = .returned (.agg (va .u8 t)) ∧ Below w.heap.size w w' := by
 subst ht; exact rhm_any key m A n c B A2 n2 c2 B2 hk hn hm0 hn2 w hr hB hr2 hB2

set_option maxRecDepth 8000 in
set_option maxHeartbeats 4000000 in
theorem rmsg_any (i s c : Nat) (d : List Nat) (hi : i < 4096) (hs : s < 4294967296) (hdl : d.length = 32) (_hdb : Byt d) (hc : c < 18446744073709551616) (w : World) :
  Calls Tryd.prog 13 #[.int .i64 (i : Int), .agg (noV s c), .agg (va .u8 d)] w fun e w' => ∃ A cp, e = .returned (.slice A 48 cp) ∧ Own w' w.heap.size A 48 cp (msg i s c d) ∧ Below w.heap.size w w' := by
 obtain ⟨B0, hB0e, hW, hB0⟩ := stB w
 rw [hB0e]
 have hB0q := Lib.hid hB0e
 clear hB0e
 have hw32 : IntKind.u32.wrap (i : Int) = (i : Int) := by simp [IntKind.wrap, IntKind.bits, IntKind.signed]; omega
 have hi32 : i < 4294967296 := by omega
 go_enter Tryd.func13, Tryd.ntmps13
 go_upto_region 0 with fail
 refine wl_lit ?_
 refine runWL 4 (.pointer (some ⟨w.heap.size, 0, none⟩)) (w.alloc (.cells (noV s c) 30)) rfl (by rfl) (exec_box 30 (.tmp 1) rfl (.agg (noV s c)) rfl) ?_
 simp only [Ls]
 have lw_p4 := Nat.le_trans hB0 hW.size
 have hp4 := Blk.new w 30 (noV s c)
 replace hW := alB hW hB0 (.cells (noV s c) 30)
 generalize w.alloc (.cells (noV s c) 30) = w1 at *
 generalize w.heap.size = p4 at hp4 lw_p4  ⊢
 refine runWL 5 (.pointer (some ⟨w1.heap.size, 0, none⟩)) (w1.alloc (.cells (va .u8 d) 33)) rfl (by rfl) (exec_box 33 (.tmp 2) rfl (.agg (va .u8 d)) rfl) ?_
 simp only [Ls]
 have lp4_p5 := hp4.lt
 have lw_p5 := Nat.le_trans hB0 hW.size
 have hp5 := Blk.new w1 33 (va .u8 d)
 have bx := bAl w1 (.cells (va .u8 d) 33)
 replace hp4 := blB hp4 bx
 replace hW := trB hW hB0 bx
 clear bx
 generalize w1.alloc (.cells (va .u8 d) 33) = w2 at *
 generalize w1.heap.size = p5 at hp5 lw_p5 lp4_p5 ⊢
 refine runL 6 (.slice none 0 0) rfl (by rfl) (by go_simp) ?_
 simp only [Ls]
 refine nilL ?_
 go_upto_region 1 with fail
 refine wp_region_held_drew (S := fun wr => Blk wr p4 30 (noV s c) ∧ Blk wr p5 33 (va .u8 d) ∧ Below B0 w wr) (by kernel_rfl) ⟨hp4.drew, hp5.drew, below_drewN hW 1⟩ (fun hH => ?_)
 clear hp4 hp5 hW
 obtain ⟨hp4, hp5, hW⟩ := hH
 generalize w2.drew = w3 at *
 refine takeH 8 0 7 (.int .i64 (i : Int)) rfl rfl (by kernel_rfl) (by kernel_rfl) (by kernel_rfl) (fun _ _ _ h => h) (Or.inl ⟨by rfl, fun w _ => by go_simp⟩) ⟨hp4, hp5, hW⟩ ?_
 simp only [Ls]
 refine takeH 7 1 8 (.int .u32 (i : Int)) rfl rfl (by kernel_rfl) (by kernel_rfl) (by kernel_rfl) (fun _ _ _ h => h) (Or.inl ⟨by rfl, fun w _ => by go_simp⟩) ⟨hp4, hp5, hW⟩ ?_
 simp only [Ls]
 refine takeH 6 3 10 (.agg (noV s c)) rfl rfl (by kernel_rfl) (by kernel_rfl) (by kernel_rfl) (fun _ _ _ h => h) (Or.inl ⟨by rfl, fun _ h => exec_row 30 (.tmp 4) rfl p4 rfl 30 (noV s c) _ h.1 (by exact Tryd.underlying30) rfl (noV_sz _ _)⟩) ⟨hp4, hp5, hW⟩ ?_
 simp only [Ls]
 refine takeH 5 6 13 (.slice (some ⟨p5, 0, none⟩) 32 32) rfl rfl (by kernel_rfl) (by kernel_rfl) (by kernel_rfl) (fun _ _ _ h => h) (Or.inl ⟨by rfl, fun w _ => by go_simp⟩) ⟨hp4, hp5, hW⟩ ?_
 simp only [Ls]
 refine wpAnyH_ready (by kernel_rfl) (by simp) (readyCons 4 2 9 rfl rfl (by rfl) (fun K hK => wp_callF 27 #[.int .u32 (i : Int)] (by go_simp) (rput32_to9 i hi32 _) ?_) AllReadyH.nil)
 rintro e w4 ⟨g1, rfl, hg1, hgg, bx⟩
 have lp4_g1 : p4 < g1 := Nat.lt_of_lt_of_le hp4.lt hgg
 have lp5_g1 : p5 < g1 := Nat.lt_of_lt_of_le hp5.lt hgg
 have lw_g1 : B0 ≤ g1 := Nat.le_trans (Nat.le_trans hB0 hW.size) hgg
 replace hp4 := blB hp4 bx
 replace hp5 := blB hp5 bx
 replace hW := trB hW hB0 bx
 clear hgg
 clear bx
 refine ⟨_, rfl, hK.out _ _ ⟨hp4, hp5, hW⟩ (fun _ => ?_)⟩
 clear hK K
 simp only [Ls]
 refine wpAnyH_ready (by kernel_rfl) (by simp) (readyCons 3 4 11 rfl rfl (by rfl) (fun K hK => wp_callF 28 #[.agg (noV s c)] (by go_simp) (rnput_to s c hs hc _) ?_) AllReadyH.nil)
 rintro e w5 ⟨AN, cN, rfl, hAN, bx⟩
 have nAN_p4 := hAN.off_lt hp4.lt
 have nAN_p5 := hAN.off_lt hp5.lt
 have nAN_g1 := hAN.off_lt hg1.lt
 replace hAN := hAN.mono (Nat.le_trans hB0 hW.size)
 replace hp4 := blB hp4 bx
 replace hp5 := blB hp5 bx
 replace hg1 := hg1.below bx hg1.lt
 replace hW := trB hW hB0 bx
 clear bx
 refine ⟨_, rfl, hK.out _ _ ⟨hp4, hp5, hW⟩ (fun _ => ?_)⟩
 clear hK K
 simp only [Ls]
 have hog1 : Own w5 B0 (some ⟨g1, 0, none⟩) 4 4 (beB i 4) := hg1.owned (beB_len _ _) lw_g1 (by unfold maxLen; omega)
 have nog1_p4 : Off (some ⟨g1, 0, none⟩) p4 := fun a ha => by cases ha; simp; omega
 have nog1_p5 : Off (some ⟨g1, 0, none⟩) p5 := fun a ha => by cases ha; simp; omega
 have sAN_og1 : ∀ a : Addr, AN = some a → Off (some ⟨g1, 0, none⟩) a.block := fun a ha b hb e => by cases hb; exact nAN_g1 a ha e.symm
 have sog1_AN : ∀ a : Addr, (some ⟨g1, 0, none⟩ : Option Addr) = some a → Off AN a.block := fun a ha => by cases ha; exact nAN_g1
 clear hg1
 obtain ⟨A1, cA1, w6, hap, hA1, hcA1, hgr, hof⟩ := own_append hog1 AN 12 cN _ (noB s c) hAN.reads (Nat.le_trans hB0 hW.size) (beB i 4 ++ noB s c) rfl 16 (by omega) (by omega) 34
 refine wpAnyH_ready (by kernel_rfl) (by simp) (readyRun 2 5 12 (.slice A1 16 cA1) w6 rfl rfl (by rfl) (exec_append _ _ _ _ rfl _ _ _ rfl rfl hap) ⟨hp4.grown hgr (nog1_p4.ob _ _), hp5.grown hgr (nog1_p5.ob _ _), Own.belowG hW (Nat.le_trans hB0 hW.size) hog1.from_ hgr⟩ (fun _ => ?_) AllReadyH.nil)
 simp only [Ls]
 have nA1_p4 := hof p4 nog1_p4 hp4.lt
 replace hp4 := hp4.grown hgr (nog1_p4.ob _ _)
 have nA1_p5 := hof p5 nog1_p5 hp5.lt
 replace hp5 := hp5.grown hgr (nog1_p5.ob _ _)
 have sAN_A1 : ∀ a : Addr, AN = some a → Off A1 a.block := fun a ha => hof a.block (sAN_og1 a ha) (hAN.lt ha).2
 replace hAN := hAN.grown hgr sAN_og1
 have sA1_AN := Own.new_sep hAN hA1 sAN_A1
 replace hW := Own.belowG hW (Nat.le_trans hB0 hW.size) hog1.from_ hgr
 clear hog1 hgr hof hap
 obtain ⟨A2, cA2, w7, hap, hA2, hcA2, hgr, hof⟩ := own_append hA1 (some ⟨p5, 0, none⟩) 32 32 _ d (hp5.readsAll (Nat.lt_succ_self _) hdl) (Nat.le_trans hB0 hW.size) (msg i s c d) (by simp [msg]) 48 (by omega) (by omega) 34
 refine wpAnyH_ready (by kernel_rfl) (by simp) (readyRun 1 7 14 (.slice A2 48 cA2) w7 rfl rfl (by rfl) (exec_append _ _ _ _ rfl _ _ _ rfl rfl hap) ⟨hp4.grown hgr (nA1_p4.ob _ _), hp5.grown hgr (nA1_p5.ob _ _), Own.belowG hW (Nat.le_trans hB0 hW.size) hA1.from_ hgr⟩ (fun _ => ?_) AllReadyH.nil)
 simp only [Ls]
 have nA2_p4 := hof p4 nA1_p4 hp4.lt
 replace hp4 := hp4.grown hgr (nA1_p4.ob _ _)
 have nA2_p5 := hof p5 nA1_p5 hp5.lt
 replace hp5 := hp5.grown hgr (nA1_p5.ob _ _)
 have sAN_A2 : ∀ a : Addr, AN = some a → Off A2 a.block := fun a ha => hof a.block (sAN_A1 a ha) (hAN.lt ha).2
 replace hAN := hAN.grown hgr sAN_A1
 have sA2_AN := Own.new_sep hAN hA2 sAN_A2
 replace hW := Own.belowG hW (Nat.le_trans hB0 hW.size) hA1.from_ hgr
 clear hA1 hgr hof hap
 refine takeH 0 8 6 (.slice A2 48 cA2) rfl rfl (by kernel_rfl) (by kernel_rfl) (by kernel_rfl) (fun _ _ _ h => h) (Or.inl ⟨by rfl, fun w _ => by go_simp⟩) ⟨hp4, hp5, hW⟩ ?_
 simp only [Ls]
 refine wpAnyH_done (by kernel_rfl) ?_ _
 go_wp2_with fail
 go_ret
 exact ⟨_, _, rfl, hA2, hW⟩
set_option maxRecDepth 8000 in
set_option maxHeartbeats 4000000 in
theorem rxb_any (ke : List Nat) (hel : ke.length = 16) (heb : Byt ke) (s c : Nat) (d x : List Nat) (hx : kxor ke s c 0 d = x) (hxl : x.length = 32) (hs : s < 4294967296) (hc : c < 18446744073709551616) (hdl : d.length = 32) (hdb : Byt d) (w : World) :
  Calls Tryd.prog 34 #[.agg (va .u8 ke), .agg (noV s c), .agg (va .u8 d)] w fun e w' => e = .returned (.agg (va .u8 x)) ∧ Below w.heap.size w w' := by
 obtain ⟨B0, hB0e, hW, hB0⟩ := stB w
 rw [hB0e]
 have hxq := Lib.hid hx
 clear hx
 have hB0q := Lib.hid hB0e
 clear hB0e
 go_enter Tryd.func34, Tryd.ntmps34
 go_upto_region 0 with fail
 refine wl_lit ?_
 refine runWL 3 (.pointer (some ⟨w.heap.size, 0, none⟩)) (w.alloc (.cells (va .u8 ke) 22)) rfl (by rfl) (exec_box 22 (.tmp 0) rfl (.agg (va .u8 ke)) rfl) ?_
 simp only [Ls]
 have lw_p3 := Nat.le_trans hB0 hW.size
 have hp3 := Blk.new w 22 (va .u8 ke)
 replace hW := alB hW hB0 (.cells (va .u8 ke) 22)
 generalize w.alloc (.cells (va .u8 ke) 22) = w1 at *
 generalize w.heap.size = p3 at hp3 lw_p3  ⊢
 refine runWL 4 (.pointer (some ⟨w1.heap.size, 0, none⟩)) (w1.alloc (.cells (noV s c) 30)) rfl (by rfl) (exec_box 30 (.tmp 1) rfl (.agg (noV s c)) rfl) ?_
 simp only [Ls]
 have lp3_p4 := hp3.lt
 have lw_p4 := Nat.le_trans hB0 hW.size
 have hp4 := Blk.new w1 30 (noV s c)
 have bx := bAl w1 (.cells (noV s c) 30)
 replace hp3 := blB hp3 bx
 replace hW := trB hW hB0 bx
 clear bx
 generalize w1.alloc (.cells (noV s c) 30) = w2 at *
 generalize w1.heap.size = p4 at hp4 lw_p4 lp3_p4 ⊢
 refine runWL 5 (.pointer (some ⟨w2.heap.size, 0, none⟩)) (w2.alloc (.cells (va .u8 d) 33)) rfl (by rfl) (exec_box 33 (.tmp 2) rfl (.agg (va .u8 d)) rfl) ?_
 simp only [Ls]
 have lp3_p5 := hp3.lt
 have lp4_p5 := hp4.lt
 have lw_p5 := Nat.le_trans hB0 hW.size
 have hp5 := Blk.new w2 33 (va .u8 d)
 have bx := bAl w2 (.cells (va .u8 d) 33)
 replace hp3 := blB hp3 bx
 replace hp4 := blB hp4 bx
 replace hW := trB hW hB0 bx
 clear bx
 generalize w2.alloc (.cells (va .u8 d) 33) = w3 at *
 generalize w2.heap.size = p5 at hp5 lw_p5 lp3_p5 lp4_p5 ⊢
 refine runWL 6 (.pointer (some ⟨w3.heap.size, 0, none⟩)) (w3.alloc (.cells (va .u8 (List.replicate 32 0)) 33)) rfl (by rfl) (exec_allocV 33 rfl _ (zv_api_Block _)) ?_
 simp only [Ls]
 have lp3_p6 := hp3.lt
 have lp4_p6 := hp4.lt
 have lp5_p6 := hp5.lt
 have lw_p6 := Nat.le_trans hB0 hW.size
 have hp6 := Blk.new w3 33 (va .u8 (List.replicate 32 0))
 have bx := bAl w3 (.cells (va .u8 (List.replicate 32 0)) 33)
 replace hp3 := blB hp3 bx
 replace hp4 := blB hp4 bx
 replace hp5 := blB hp5 bx
 replace hW := trB hW hB0 bx
 clear bx
 generalize w3.alloc (.cells (va .u8 (List.replicate 32 0)) 33) = w4 at *
 generalize w3.heap.size = p6 at hp6 lw_p6 lp3_p6 lp4_p6 lp5_p6 ⊢
 refine nilL ?_
 go_upto_region 1 with fail
 refine wp_region_held_drew (S := fun wr => Blk wr p3 22 (va .u8 ke) ∧ Blk wr p4 30 (noV s c) ∧ Blk wr p5 33 (va .u8 d) ∧ Blk wr p6 33 (va .u8 (List.replicate 32 0)) ∧ Below B0 w wr) (by kernel_rfl) ⟨hp3.drew, hp4.drew, hp5.drew, hp6.drew, below_drewN hW 1⟩ (fun hH => ?_)
 clear hp3 hp4 hp5 hp6 hW
 obtain ⟨hp3, hp4, hp5, hp6, hW⟩ := hH
 generalize w4.drew = w5 at *
 refine takeH 4 0 10 (.agg (va .u8 ke)) rfl rfl (by kernel_rfl) (by kernel_rfl) (by kernel_rfl) (fun _ _ _ h => h) (Or.inl ⟨by rfl, fun _ h => exec_row 22 (.tmp 3) rfl p3 rfl 22 (va .u8 ke) _ h.1 (by exact Tryd.underlying22) rfl (sz__16_uint8 _ hel)⟩) ⟨hp3, hp4, hp5, hp6, hW⟩ ?_
 simp only [Ls]
 refine takeH 3 1 11 (.agg (noV s c)) rfl rfl (by kernel_rfl) (by kernel_rfl) (by kernel_rfl) (fun _ _ _ h => h) (Or.inl ⟨by rfl, fun _ h => exec_row 30 (.tmp 4) rfl p4 rfl 30 (noV s c) _ h.2.1 (by exact Tryd.underlying30) rfl (noV_sz _ _)⟩) ⟨hp3, hp4, hp5, hp6, hW⟩ ?_
 simp only [Ls]
 refine takeH 2 2 12 (.slice (some ⟨p5, 0, none⟩) 32 32) rfl rfl (by kernel_rfl) (by kernel_rfl) (by kernel_rfl) (fun _ _ _ h => h) (Or.inl ⟨by rfl, fun w _ => by go_simp⟩) ⟨hp3, hp4, hp5, hp6, hW⟩ ?_
 simp only [Ls]
 refine wpAnyH_ready (by kernel_rfl) (by simp) (readyCons 1 3 13 rfl rfl (by rfl) (fun K hK => wp_callF 55 #[.agg (va .u8 ke), .agg (noV s c), .int .i64 0, .slice (some ⟨p5, 0, none⟩) 32 32] (by go_simp) (rxor_to0 ke s c d x hxq.out hel heb hs hc hdl hdb _ 32 _ _ (hp5.readsAll (Nat.lt_succ_self _) hdl) hp5.lt) ?_) AllReadyH.nil)
 rintro e w6 ⟨AX, cX, rfl, hAX, bx⟩
 have nAX_p3 := hAX.off_lt hp3.lt
 have nAX_p4 := hAX.off_lt hp4.lt
 have nAX_p5 := hAX.off_lt hp5.lt
 have nAX_p6 := hAX.off_lt hp6.lt
 replace hAX := hAX.mono (Nat.le_trans hB0 hW.size)
 replace hp3 := blB hp3 bx
 replace hp4 := blB hp4 bx
 replace hp5 := blB hp5 bx
 replace hp6 := blB hp6 bx
 replace hW := trB hW hB0 bx
 clear bx
 refine ⟨_, rfl, hK.out _ _ ⟨hp3, hp4, hp5, hp6, hW⟩ (fun _ => ?_)⟩
 clear hK K
 simp only [Ls]
 refine takeH 0 4 7 (.slice AX 32 cX) rfl rfl (by kernel_rfl) (by kernel_rfl) (by kernel_rfl) (fun _ _ _ h => h) (Or.inl ⟨by rfl, fun w _ => by go_simp⟩) ⟨hp3, hp4, hp5, hp6, hW⟩ ?_
 simp only [Ls]
 refine wpAnyH_done (by kernel_rfl) ?_ _
 clear hp3
 clear hp4
 clear hp5
 go_upto_region 2 with fail
 refine wl_lit ?_
 refine runWL 8 (.pointer (some ⟨w6.heap.size, 0, none⟩)) (w6.alloc (.cells (va .u8 (List.replicate 32 0)) 33)) rfl (by rfl) (exec_allocV 33 rfl _ (zv_api_Block _)) ?_
 simp only [Ls]
 have lp6_p8 := hp6.lt
 have nAX_p8 := hAX.new_off
 have lw_p8 := Nat.le_trans hB0 hW.size
 have hp8 := Blk.new w6 33 (va .u8 (List.replicate 32 0))
 replace hp6 := hp6.alloc (.cells (va .u8 (List.replicate 32 0)) 33)
 replace hAX := hAX.alloc (.cells (va .u8 (List.replicate 32 0)) 33)
 replace hW := alB hW hB0 (.cells (va .u8 (List.replicate 32 0)) 33)
 generalize w6.alloc (.cells (va .u8 (List.replicate 32 0)) 33) = w7 at *
 generalize w6.heap.size = p8 at hp8 lw_p8 lp6_p8 nAX_p8 ⊢
 refine nilL ?_
 go_upto_region 3 with fail
 refine wl_lit ?_
 refine runL 9 (.int .i64 0) rfl (by rfl) (by go_simp) ?_
 simp only [Ls]
 refine nilL ?_
 obtain ⟨ga, hgaA, hga0, hgl⟩ := (hAX.form).resolve_left (fun h => by have := h.2.1; omega)
 subst hgaA
 have hga := hAX.byB
 have lga_p6 : ga ≠ p6 := fun e => nAX_p6 _ rfl e
 have lga_p8 : ga ≠ p8 := fun e => nAX_p8 _ rfl e
 clear hAX
 rw [show List.replicate 32 0 = cpk x 32 0 from (cpk_zero x 32).symm] at hp8
 go_wp2
 go_loopw [9] (fun t wr => ∃ i : Nat, i ≤ 32 ∧ t = .int .i64 (i : Int) ∧ Blk wr p6 33 (va .u8 (List.replicate 32 0)) ∧ Blk wr p8 33 (va .u8 (cpk x 32 i)) ∧ ByB wr ga x ∧ Below B0 w wr) (fun t _ => 32 - (intOf t).toNat)
 case atStart => exact ⟨0, by omega, rfl, hp6, hp8, hga, hW⟩
 case round =>
  clear hp6 hp8 hga hW
  obtain ⟨i, hi, rfl, hp6, hp8, hga, hW⟩ := hrel
  by_cases hlt : i < 32
  ·
   have hltI : (i : Int) < 32 := by omega
   have hwi : IntKind.i64.wrap ((i : Int) + 1) = ((i + 1 : Nat) : Int) := by rw [IntWalk.i64_in _ (by omega)]; omega
   have hst := Lib.hid (cpk_step x 32 i hlt)
   obtain ⟨u, hu⟩ : ∃ u, x.getD i 0 = u := ⟨_, rfl⟩
   rw [hu] at hst
   have huq := Lib.hid hu
   clear hu
   go_upto_region 6 with fail
   refine wl_lit ?_
   refine runL 18 (.int .i64 (i : Int)) rfl (by rfl) (by go_simp) ?_
   refine runL 19 (.slice (some ⟨ga, 0, none⟩) 32 cX) rfl (by rfl) (by go_simp) ?_
   refine runL 20 (.int .i64 (i : Int)) rfl (by rfl) (by go_simp) ?_
   refine runL 21 (.pointer (some ⟨ga, i, none⟩)) rfl (by rfl) (by go_simp) ?_
   refine runL 22 (.int .u8 ((u : Nat) : Int)) rfl (by rfl) (exec_cell 5 (.tmp 21) rfl ga i rfl (.int .u8 ((u : Nat) : Int)) _ Tryd.underlying5 rfl (by rw [← huq.out]; exact hga.num (by rw [hxl]; exact hlt))) ?_
   refine runL 23 (.pointer (some ⟨p8, i, none⟩)) rfl (by rfl) (by go_simp) ?_
   simp only [Ls]
   refine runSL (wr.setCell ⟨p8, i, none⟩ (.int .u8 ((u : Nat) : Int))) rfl (by rfl) (exec_storeCell 5 (.tmp 23) (.tmp 22) rfl p8 i rfl (.int .u8 ((u : Nat) : Int)) rfl rfl rfl 33 (va .u8 (cpk x 32 i)) hp8 (by rw [va_size, ((cpk_len _ _ _))]; exact (by exact hlt)) (by kernel_rfl)) ?_
   replace hp6 := hp6.far (p := ⟨p8, i, none⟩) (show p6 ≠ p8 from (by omega)) (.int .u8 ((u : Nat) : Int))
   replace hga := hga.far (p := ⟨p8, i, none⟩) (show ga ≠ p8 from (by omega)) (.int .u8 ((u : Nat) : Int))
   replace hp8 : Blk (wr.setCell ⟨p8, i, none⟩ (.int .u8 ((u : Nat) : Int))) p8 33 (va .u8 (cpk x 32 (i + 1))) := by rw [← hst.out]; exact hp8.setNum i (u)
   replace hW := hW.setCell (p := ⟨p8, i, none⟩) lw_p8 (.int .u8 ((u : Nat) : Int))
   generalize wr.setCell ⟨p8, i, none⟩ (.int .u8 ((u : Nat) : Int)) = w8 at *
   refine nilL ?_
   go_wp2
   go_roundw
   case rel => exact ⟨i + 1, by omega, by go_num, hp6, hp8, hga, hW⟩
   case measure => simp [intOf]; omega
  ·
   have hi2 : i = 32 := by omega
   have hltI : ¬ (i : Int) < 32 := by omega
   have hz : cpk x 32 i = x := by rw [hi2]; exact cpk_all x 32 hxl
   rw [hz] at hp8
   clear hz hi2 hlt hi
   go_upto_region 7 with fail
   refine wl_lit ?_
   refine runL 24 (.agg (va .u8 x)) rfl (by rfl) (exec_row 33 (.tmp 8) rfl p8 rfl 33 (va .u8 x) _ hp8 (by exact Tryd.underlying33) rfl (sz_api_Block _ hxl)) ?_
   simp only [Ls]
   refine runSL (wr.setRow p6 (va .u8 x)) rfl (by rfl) (exec_storeRow 33 (.tmp 6) (.tmp 24) rfl p6 rfl (va .u8 x) rfl 33 (va .u8 (List.replicate 32 0)) hp6 (sz_eq (sz_api_Block _ (List.length_replicate)) (sz_api_Block _ hxl)) (sz_api_Block _ hxl) (va_ones .u8 _)) ?_
   replace hp8 := hp8.rowFar (show p6 ≠ p8 from (by omega)) (va .u8 x)
   replace hp6 := hp6.row (va .u8 x)
   replace hW := below_setRow hW lw_p6 (va .u8 x)
   generalize wr.setRow p6 (va .u8 x) = w9 at *
   refine nilL ?_
   go_wp2_with fail
   exact bodyPost_ret (results_cell_row rfl _ _ p6 33 (va .u8 x) (0, 0) _ rfl hp6 (by exact Tryd.underlying33) rfl (sz_api_Block _ hxl)) rfl ⟨rfl, hW⟩
set_option maxRecDepth 8000 in
set_option maxHeartbeats 4000000 in
theorem rseal_any (ke km : List Nat) (hel : ke.length = 16) (hml : km.length = 32) (heb : Byt ke) (hmb : Byt km) (i s c : Nat) (d : List Nat) (hi : i < 4096) (hs : s < 4294967296) (hdl : d.length = 32) (hdb : Byt d) (hc : c < 18446744073709551616) (x t : List Nat) (hx : kxor ke s c 0 d = x) (ht : hm km (msg i s c x) = t) (hxl : x.length = 32) (hxb : Byt x) (htl : t.length = 32) (_htb : Byt t) (w : World) :
  Calls Tryd.prog 16 #[.agg (va .u8 ke), .agg (va .u8 km), .int .i64 (i : Int), .agg (noV s c), .agg (va .u8 d)] w fun e w' => e = .returned (.tuple #[.agg (va .u8 x), .agg (va .u8 t)]) ∧ Below w.heap.size w w' := by
 obtain ⟨B0, hB0e, hW, hB0⟩ := stB w
 rw [hB0e]
 have hxq := Lib.hid hx
 have htq := Lib.hid ht
 clear hx ht
 have hB0q := Lib.hid hB0e
 clear hB0e
 go_enter Tryd.func16, Tryd.ntmps16
 go_upto_region 0 with fail
 refine wl_lit ?_
 refine runWL 5 (.pointer (some ⟨w.heap.size, 0, none⟩)) (w.alloc (.cells (va .u8 ke) 22)) rfl (by rfl) (exec_box 22 (.tmp 0) rfl (.agg (va .u8 ke)) rfl) ?_
 simp only [Ls]
 have lw_p5 := Nat.le_trans hB0 hW.size
 have hp5 := Blk.new w 22 (va .u8 ke)
 replace hW := alB hW hB0 (.cells (va .u8 ke) 22)
 generalize w.alloc (.cells (va .u8 ke) 22) = w1 at *
 generalize w.heap.size = p5 at hp5 lw_p5  ⊢
 refine runWL 6 (.pointer (some ⟨w1.heap.size, 0, none⟩)) (w1.alloc (.cells (va .u8 km) 24)) rfl (by rfl) (exec_box 24 (.tmp 1) rfl (.agg (va .u8 km)) rfl) ?_
 simp only [Ls]
 have lp5_p6 := hp5.lt
 have lw_p6 := Nat.le_trans hB0 hW.size
 have hp6 := Blk.new w1 24 (va .u8 km)
 have bx := bAl w1 (.cells (va .u8 km) 24)
 replace hp5 := blB hp5 bx
 replace hW := trB hW hB0 bx
 clear bx
 generalize w1.alloc (.cells (va .u8 km) 24) = w2 at *
 generalize w1.heap.size = p6 at hp6 lw_p6 lp5_p6 ⊢
 refine runWL 8 (.pointer (some ⟨w2.heap.size, 0, none⟩)) (w2.alloc (.cells (noV s c) 30)) rfl (by rfl) (exec_box 30 (.tmp 3) rfl (.agg (noV s c)) rfl) ?_
 simp only [Ls]
 have lp5_p8 := hp5.lt
 have lp6_p8 := hp6.lt
 have lw_p8 := Nat.le_trans hB0 hW.size
 have hp8 := Blk.new w2 30 (noV s c)
 have bx := bAl w2 (.cells (noV s c) 30)
 replace hp5 := blB hp5 bx
 replace hp6 := blB hp6 bx
 replace hW := trB hW hB0 bx
 clear bx
 generalize w2.alloc (.cells (noV s c) 30) = w3 at *
 generalize w2.heap.size = p8 at hp8 lw_p8 lp5_p8 lp6_p8 ⊢
 refine runWL 9 (.pointer (some ⟨w3.heap.size, 0, none⟩)) (w3.alloc (.cells (va .u8 d) 33)) rfl (by rfl) (exec_box 33 (.tmp 4) rfl (.agg (va .u8 d)) rfl) ?_
 simp only [Ls]
 have lp5_p9 := hp5.lt
 have lp6_p9 := hp6.lt
 have lp8_p9 := hp8.lt
 have lw_p9 := Nat.le_trans hB0 hW.size
 have hp9 := Blk.new w3 33 (va .u8 d)
 have bx := bAl w3 (.cells (va .u8 d) 33)
 replace hp5 := blB hp5 bx
 replace hp6 := blB hp6 bx
 replace hp8 := blB hp8 bx
 replace hW := trB hW hB0 bx
 clear bx
 generalize w3.alloc (.cells (va .u8 d) 33) = w4 at *
 generalize w3.heap.size = p9 at hp9 lw_p9 lp5_p9 lp6_p9 lp8_p9 ⊢
 refine runWL 10 (.pointer (some ⟨w4.heap.size, 0, none⟩)) (w4.alloc (.cells (va .u8 (List.replicate 32 0)) 33)) rfl (by rfl) (exec_allocV 33 rfl _ (zv_api_Block _)) ?_
 simp only [Ls]
 have lp5_p10 := hp5.lt
 have lp6_p10 := hp6.lt
 have lp8_p10 := hp8.lt
 have lp9_p10 := hp9.lt
 have lw_p10 := Nat.le_trans hB0 hW.size
 have hp10 := Blk.new w4 33 (va .u8 (List.replicate 32 0))
 have bx := bAl w4 (.cells (va .u8 (List.replicate 32 0)) 33)
 replace hp5 := blB hp5 bx
 replace hp6 := blB hp6 bx
 replace hp8 := blB hp8 bx
 replace hp9 := blB hp9 bx
 replace hW := trB hW hB0 bx
 clear bx
 generalize w4.alloc (.cells (va .u8 (List.replicate 32 0)) 33) = w5 at *
 generalize w4.heap.size = p10 at hp10 lw_p10 lp5_p10 lp6_p10 lp8_p10 lp9_p10 ⊢
 refine runWL 11 (.pointer (some ⟨w5.heap.size, 0, none⟩)) (w5.alloc (.cells (va .u8 (List.replicate 32 0)) 45)) rfl (by rfl) (exec_allocV 45 rfl _ (zv_api_Digest _)) ?_
 simp only [Ls]
 have lp5_p11 := hp5.lt
 have lp6_p11 := hp6.lt
 have lp8_p11 := hp8.lt
 have lp9_p11 := hp9.lt
 have lp10_p11 := hp10.lt
 have lw_p11 := Nat.le_trans hB0 hW.size
 have hp11 := Blk.new w5 45 (va .u8 (List.replicate 32 0))
 have bx := bAl w5 (.cells (va .u8 (List.replicate 32 0)) 45)
 replace hp5 := blB hp5 bx
 replace hp6 := blB hp6 bx
 replace hp8 := blB hp8 bx
 replace hp9 := blB hp9 bx
 replace hp10 := blB hp10 bx
 replace hW := trB hW hB0 bx
 clear bx
 generalize w5.alloc (.cells (va .u8 (List.replicate 32 0)) 45) = w6 at *
 generalize w5.heap.size = p11 at hp11 lw_p11 lp5_p11 lp6_p11 lp8_p11 lp9_p11 lp10_p11 ⊢
 refine nilL ?_
 go_upto_region 1 with fail
 refine wl_lit ?_
 refine runL 13 (.agg (va .u8 ke)) rfl (by rfl) (exec_row 22 (.tmp 5) rfl p5 rfl 22 (va .u8 ke) _ hp5 (by exact Tryd.underlying22) rfl (sz__16_uint8 _ hel)) ?_
 refine runL 14 (.agg (noV s c)) rfl (by rfl) (exec_row 30 (.tmp 8) rfl p8 rfl 30 (noV s c) _ hp8 (by exact Tryd.underlying30) rfl (noV_sz _ _)) ?_
 refine runL 15 (.agg (va .u8 d)) rfl (by rfl) (exec_row 33 (.tmp 9) rfl p9 rfl 33 (va .u8 d) _ hp9 (by exact Tryd.underlying33) rfl (sz_api_Block _ hdl)) ?_
 simp only [Ls]
 refine callL 16 rfl (by rfl) (fun K hK => wp_callF 34 #[.agg (va .u8 ke), .agg (noV s c), .agg (va .u8 d)] (by go_simp) (rxb_any ke hel heb s c d x hxq.out hxl hs hc hdl hdb _) ?_)
 rintro e w7 ⟨rfl, bx⟩
 replace hp5 := blB hp5 bx
 replace hp6 := blB hp6 bx
 replace hp8 := blB hp8 bx
 replace hp9 := blB hp9 bx
 replace hp10 := blB hp10 bx
 replace hp11 := blB hp11 bx
 replace hW := trB hW hB0 bx
 clear bx
 refine ⟨_, rfl, hK.out _ _ ?_⟩
 clear hK K
 simp only [Ls]
 refine runWL 12 (.pointer (some ⟨w7.heap.size, 0, none⟩)) (w7.alloc (.cells (va .u8 (List.replicate 32 0)) 33)) rfl (by rfl) (exec_allocV 33 rfl _ (zv_api_Block _)) ?_
 simp only [Ls]
 have lp5_p12 := hp5.lt
 have lp6_p12 := hp6.lt
 have lp8_p12 := hp8.lt
 have lp9_p12 := hp9.lt
 have lp10_p12 := hp10.lt
 have lp11_p12 := hp11.lt
 have lw_p12 := Nat.le_trans hB0 hW.size
 have hp12 := Blk.new w7 33 (va .u8 (List.replicate 32 0))
 have bx := bAl w7 (.cells (va .u8 (List.replicate 32 0)) 33)
 replace hp5 := blB hp5 bx
 replace hp6 := blB hp6 bx
 replace hp8 := blB hp8 bx
 replace hp9 := blB hp9 bx
 replace hp10 := blB hp10 bx
 replace hp11 := blB hp11 bx
 replace hW := trB hW hB0 bx
 clear bx
 generalize w7.alloc (.cells (va .u8 (List.replicate 32 0)) 33) = w8 at *
 generalize w7.heap.size = p12 at hp12 lw_p12 lp5_p12 lp6_p12 lp8_p12 lp9_p12 lp10_p12 lp11_p12 ⊢
 refine runSL (w8.setRow p12 (va .u8 x)) rfl (by rfl) (exec_storeRow 33 (.tmp 12) (.tmp 16) rfl p12 rfl (va .u8 x) rfl 33 (va .u8 (List.replicate 32 0)) hp12 (sz_eq (sz_api_Block _ (List.length_replicate)) (sz_api_Block _ hxl)) (sz_api_Block _ hxl) (va_ones .u8 _)) ?_
 replace hp5 := hp5.rowFar (show p12 ≠ p5 from (by omega)) (va .u8 x)
 replace hp6 := hp6.rowFar (show p12 ≠ p6 from (by omega)) (va .u8 x)
 replace hp8 := hp8.rowFar (show p12 ≠ p8 from (by omega)) (va .u8 x)
 replace hp9 := hp9.rowFar (show p12 ≠ p9 from (by omega)) (va .u8 x)
 replace hp10 := hp10.rowFar (show p12 ≠ p10 from (by omega)) (va .u8 x)
 replace hp11 := hp11.rowFar (show p12 ≠ p11 from (by omega)) (va .u8 x)
 replace hp12 := hp12.row (va .u8 x)
 replace hW := below_setRow hW lw_p12 (va .u8 x)
 generalize w8.setRow p12 (va .u8 x) = w9 at *
 refine nilL ?_
 go_upto_region 2 with fail
 replace hp10 := hp10.drew
 replace hp11 := hp11.drew
 refine wp_region_held_drew (S := fun wr => Blk wr p5 22 (va .u8 ke) ∧ Blk wr p6 24 (va .u8 km) ∧ Blk wr p8 30 (noV s c) ∧ Blk wr p9 33 (va .u8 d) ∧ Blk wr p12 33 (va .u8 x) ∧ Below B0 w wr) (by kernel_rfl) ⟨hp5.drew, hp6.drew, hp8.drew, hp9.drew, hp12.drew, below_drewN hW 1⟩ (fun hH => ?_)
 clear hp5 hp6 hp8 hp9 hp12 hW
 obtain ⟨hp5, hp6, hp8, hp9, hp12, hW⟩ := hH
 generalize w9.drew = w10 at *
 refine takeH 8 0 17 (.agg (va .u8 x)) rfl rfl (by kernel_rfl) (by kernel_rfl) (by kernel_rfl) (fun _ _ _ h => h) (Or.inl ⟨by rfl, fun _ h => exec_row 33 (.tmp 12) rfl p12 rfl 33 (va .u8 x) _ h.2.2.2.2.1 (by exact Tryd.underlying33) rfl (sz_api_Block _ hxl)⟩) ⟨hp5, hp6, hp8, hp9, hp12, hW⟩ ?_
 simp only [Ls]
 refine takeH 7 1 18 (.slice (some ⟨p6, 0, none⟩) 32 32) rfl rfl (by kernel_rfl) (by kernel_rfl) (by kernel_rfl) (fun _ _ _ h => h) (Or.inl ⟨by rfl, fun w _ => by go_simp⟩) ⟨hp5, hp6, hp8, hp9, hp12, hW⟩ ?_
 simp only [Ls]
 refine takeH 6 2 19 (.int .i64 (i : Int)) rfl rfl (by kernel_rfl) (by kernel_rfl) (by kernel_rfl) (fun _ _ _ h => h) (Or.inl ⟨by rfl, fun w _ => by go_simp⟩) ⟨hp5, hp6, hp8, hp9, hp12, hW⟩ ?_
 simp only [Ls]
 refine takeH 5 3 20 (.agg (noV s c)) rfl rfl (by kernel_rfl) (by kernel_rfl) (by kernel_rfl) (fun _ _ _ h => h) (Or.inl ⟨by rfl, fun _ h => exec_row 30 (.tmp 8) rfl p8 rfl 30 (noV s c) _ h.2.2.1 (by exact Tryd.underlying30) rfl (noV_sz _ _)⟩) ⟨hp5, hp6, hp8, hp9, hp12, hW⟩ ?_
 simp only [Ls]
 refine takeH 4 4 21 (.agg (va .u8 x)) rfl rfl (by kernel_rfl) (by kernel_rfl) (by kernel_rfl) (fun _ _ _ h => h) (Or.inl ⟨by rfl, fun _ h => exec_row 33 (.tmp 12) rfl p12 rfl 33 (va .u8 x) _ h.2.2.2.2.1 (by exact Tryd.underlying33) rfl (sz_api_Block _ hxl)⟩) ⟨hp5, hp6, hp8, hp9, hp12, hW⟩ ?_
 simp only [Ls]
 refine wpAnyH_ready (by kernel_rfl) (by simp) (readyCons 3 5 22 rfl rfl (by rfl) (fun K hK => wp_callF 13 #[.int .i64 (i : Int), .agg (noV s c), .agg (va .u8 x)] (by go_simp) (rmsg_any i s c x hi hs hxl hxb hc _) ?_) AllReadyH.nil)
 rintro e w11 ⟨AM, cM, rfl, hAM, bx⟩
 have nAM_p5 := hAM.off_lt hp5.lt
 have nAM_p6 := hAM.off_lt hp6.lt
 have nAM_p8 := hAM.off_lt hp8.lt
 have nAM_p9 := hAM.off_lt hp9.lt
 have nAM_p10 := hAM.off_lt hp10.lt
 have nAM_p11 := hAM.off_lt hp11.lt
 have nAM_p12 := hAM.off_lt hp12.lt
 replace hAM := hAM.mono (Nat.le_trans hB0 hW.size)
 replace hp5 := blB hp5 bx
 replace hp6 := blB hp6 bx
 replace hp8 := blB hp8 bx
 replace hp9 := blB hp9 bx
 replace hp10 := blB hp10 bx
 replace hp11 := blB hp11 bx
 replace hp12 := blB hp12 bx
 replace hW := trB hW hB0 bx
 clear bx
 refine ⟨_, rfl, hK.out _ _ ⟨hp5, hp6, hp8, hp9, hp12, hW⟩ (fun _ => ?_)⟩
 clear hK K
 simp only [Ls]
 refine wpAnyH_ready (by kernel_rfl) (by simp) (readyCons 2 6 23 rfl rfl (by rfl) (fun K hK => wp_callF 35 #[.slice (some ⟨p6, 0, none⟩) 32 32, .slice AM 48 cM] (by go_simp) (rhm_to km (msg i s c x) t htq.out _ 32 32 _ _ 48 cM _ hmb (by decide) (msg_byt hxb) (by decide) _ (hp6.readsAll (Nat.lt_succ_self _) hml) hp6.lt hAM.reads (Nat.le_refl _)) ?_) AllReadyH.nil)
 rintro e w12 ⟨rfl, bx⟩
 replace hp5 := blB hp5 bx
 replace hp6 := blB hp6 bx
 replace hp8 := blB hp8 bx
 replace hp9 := blB hp9 bx
 replace hp10 := blB hp10 bx
 replace hp11 := blB hp11 bx
 replace hp12 := blB hp12 bx
 replace hAM := hAM.below bx
 replace hW := trB hW hB0 bx
 clear bx
 refine ⟨_, rfl, hK.out _ _ ⟨hp5, hp6, hp8, hp9, hp12, hW⟩ (fun _ => ?_)⟩
 clear hK K
 simp only [Ls]
 refine wpAnyH_ready (by kernel_rfl) (by simp) (readyRunS 1 7 (w12.setRow p10 (va .u8 x)) rfl rfl (by rfl) (exec_storeRow 33 (.tmp 10) (.tmp 17) rfl p10 rfl (va .u8 x) rfl 33 (va .u8 (List.replicate 32 0)) hp10 (sz_eq (sz_api_Block _ (List.length_replicate)) (sz_api_Block _ hxl)) (sz_api_Block _ hxl) (va_ones .u8 _)) ⟨hp5.rowFar (show p10 ≠ p5 from (by omega)) _, hp6.rowFar (show p10 ≠ p6 from (by omega)) _, hp8.rowFar (show p10 ≠ p8 from (by omega)) _, hp9.rowFar (show p10 ≠ p9 from (by omega)) _, hp12.rowFar (show p10 ≠ p12 from (by omega)) _, below_setRow hW lw_p10 _⟩ (fun _ => ?_) AllReadyH.nil)
 replace hp5 := hp5.rowFar (show p10 ≠ p5 from (by omega)) (va .u8 x)
 replace hp6 := hp6.rowFar (show p10 ≠ p6 from (by omega)) (va .u8 x)
 replace hp8 := hp8.rowFar (show p10 ≠ p8 from (by omega)) (va .u8 x)
 replace hp9 := hp9.rowFar (show p10 ≠ p9 from (by omega)) (va .u8 x)
 replace hp11 := hp11.rowFar (show p10 ≠ p11 from (by omega)) (va .u8 x)
 replace hp12 := hp12.rowFar (show p10 ≠ p12 from (by omega)) (va .u8 x)
 replace hAM := hAM.rowFar nAM_p10 (va .u8 x)
 replace hp10 := hp10.row (va .u8 x)
 replace hW := below_setRow hW lw_p10 (va .u8 x)
 generalize w12.setRow p10 (va .u8 x) = w13 at *
 refine wpAnyH_ready (by kernel_rfl) (by simp) (readyRunS 0 8 (w13.setRow p11 (va .u8 t)) rfl rfl (by rfl) (exec_storeRow 45 (.tmp 11) (.tmp 23) rfl p11 rfl (va .u8 t) rfl 45 (va .u8 (List.replicate 32 0)) hp11 (sz_eq (sz_api_Digest _ (List.length_replicate)) (sz_api_Digest _ htl)) (sz_api_Digest _ htl) (va_ones .u8 _)) ⟨hp5.rowFar (show p11 ≠ p5 from (by omega)) _, hp6.rowFar (show p11 ≠ p6 from (by omega)) _, hp8.rowFar (show p11 ≠ p8 from (by omega)) _, hp9.rowFar (show p11 ≠ p9 from (by omega)) _, hp12.rowFar (show p11 ≠ p12 from (by omega)) _, below_setRow hW lw_p11 _⟩ (fun _ => ?_) AllReadyH.nil)
 replace hp5 := hp5.rowFar (show p11 ≠ p5 from (by omega)) (va .u8 t)
 replace hp6 := hp6.rowFar (show p11 ≠ p6 from (by omega)) (va .u8 t)
 replace hp8 := hp8.rowFar (show p11 ≠ p8 from (by omega)) (va .u8 t)
 replace hp9 := hp9.rowFar (show p11 ≠ p9 from (by omega)) (va .u8 t)
 replace hp10 := hp10.rowFar (show p11 ≠ p10 from (by omega)) (va .u8 t)
 replace hp12 := hp12.rowFar (show p11 ≠ p12 from (by omega)) (va .u8 t)
 replace hAM := hAM.rowFar nAM_p11 (va .u8 t)
 replace hp11 := hp11.row (va .u8 t)
 replace hW := below_setRow hW lw_p11 (va .u8 t)
 generalize w13.setRow p11 (va .u8 t) = w14 at *
 refine wpAnyH_done (by kernel_rfl) ?_ _
 go_wp2_with fail
 exact bodyPost_ret (results_row_row rfl _ _ p10 33 (va .u8 x) _ p11 45 (va .u8 t) _ rfl hp10 (by exact Tryd.underlying33) rfl (sz_api_Block _ hxl) rfl hp11 (by exact Tryd.underlying45) rfl (sz_api_Digest _ htl)) rfl ⟨rfl, hW⟩
set_option maxRecDepth 8000 in
set_option maxHeartbeats 4000000 in
theorem ropen_ok (ke km : List Nat) (hel : ke.length = 16) (hml : km.length = 32) (heb : Byt ke) (hmb : Byt km) (i s c : Nat) (d : List Nat) (hi : i < 4096) (hs : s < 4294967296) (hdl : d.length = 32) (hdb : Byt d) (hc : c < 18446744073709551616) (tag : List Nat) (hgl : tag.length = 32) (_hgb : Byt tag) (hv : hm km (msg i s c d) = tag) (x : List Nat) (hx : kxor ke s c 0 d = x) (hxl : x.length = 32) (_hxb : Byt x) (w : World) :
  Calls Tryd.prog 17 #[.agg (va .u8 ke), .agg (va .u8 km), .int .i64 (i : Int), .agg (noV s c), .agg (va .u8 d), .agg (va .u8 tag)] w fun e w' => e = .returned (.tuple #[.agg (va .u8 x), .int .i64 0]) ∧ Below w.heap.size w w' := by
 obtain ⟨B0, hB0e, hW, hB0⟩ := stB w
 rw [hB0e]
 obtain ⟨t, ht⟩ : ∃ t, hm km (msg i s c d) = t := ⟨_, rfl⟩
 have htl : t.length = 32 := by rw [← ht]; exact hm_len _ _
 have htb : Byt t := by rw [← ht]; exact hm_byt _ _
 rw [ht] at hv
 have htq := Lib.hid ht
 have hvq := Lib.hid (decide_eq_true hv)
 clear ht hv
 have hxq := Lib.hid hx
 clear hx
 have hB0q := Lib.hid hB0e
 clear hB0e
 go_enter Tryd.func17, Tryd.ntmps17
 go_upto_region 0 with fail
 refine wl_lit ?_
 refine runWL 6 (.pointer (some ⟨w.heap.size, 0, none⟩)) (w.alloc (.cells (va .u8 ke) 22)) rfl (by rfl) (exec_box 22 (.tmp 0) rfl (.agg (va .u8 ke)) rfl) ?_
 simp only [Ls]
 have lw_p6 := Nat.le_trans hB0 hW.size
 have hp6 := Blk.new w 22 (va .u8 ke)
 replace hW := alB hW hB0 (.cells (va .u8 ke) 22)
 generalize w.alloc (.cells (va .u8 ke) 22) = w1 at *
 generalize w.heap.size = p6 at hp6 lw_p6  ⊢
 refine runWL 7 (.pointer (some ⟨w1.heap.size, 0, none⟩)) (w1.alloc (.cells (va .u8 km) 24)) rfl (by rfl) (exec_box 24 (.tmp 1) rfl (.agg (va .u8 km)) rfl) ?_
 simp only [Ls]
 have lp6_p7 := hp6.lt
 have lw_p7 := Nat.le_trans hB0 hW.size
 have hp7 := Blk.new w1 24 (va .u8 km)
 have bx := bAl w1 (.cells (va .u8 km) 24)
 replace hp6 := blB hp6 bx
 replace hW := trB hW hB0 bx
 clear bx
 generalize w1.alloc (.cells (va .u8 km) 24) = w2 at *
 generalize w1.heap.size = p7 at hp7 lw_p7 lp6_p7 ⊢
 refine runWL 9 (.pointer (some ⟨w2.heap.size, 0, none⟩)) (w2.alloc (.cells (noV s c) 30)) rfl (by rfl) (exec_box 30 (.tmp 3) rfl (.agg (noV s c)) rfl) ?_
 simp only [Ls]
 have lp6_p9 := hp6.lt
 have lp7_p9 := hp7.lt
 have lw_p9 := Nat.le_trans hB0 hW.size
 have hp9 := Blk.new w2 30 (noV s c)
 have bx := bAl w2 (.cells (noV s c) 30)
 replace hp6 := blB hp6 bx
 replace hp7 := blB hp7 bx
 replace hW := trB hW hB0 bx
 clear bx
 generalize w2.alloc (.cells (noV s c) 30) = w3 at *
 generalize w2.heap.size = p9 at hp9 lw_p9 lp6_p9 lp7_p9 ⊢
 refine runWL 10 (.pointer (some ⟨w3.heap.size, 0, none⟩)) (w3.alloc (.cells (va .u8 d) 33)) rfl (by rfl) (exec_box 33 (.tmp 4) rfl (.agg (va .u8 d)) rfl) ?_
 simp only [Ls]
 have lp6_p10 := hp6.lt
 have lp7_p10 := hp7.lt
 have lp9_p10 := hp9.lt
 have lw_p10 := Nat.le_trans hB0 hW.size
 have hp10 := Blk.new w3 33 (va .u8 d)
 have bx := bAl w3 (.cells (va .u8 d) 33)
 replace hp6 := blB hp6 bx
 replace hp7 := blB hp7 bx
 replace hp9 := blB hp9 bx
 replace hW := trB hW hB0 bx
 clear bx
 generalize w3.alloc (.cells (va .u8 d) 33) = w4 at *
 generalize w3.heap.size = p10 at hp10 lw_p10 lp6_p10 lp7_p10 lp9_p10 ⊢
 refine runWL 11 (.pointer (some ⟨w4.heap.size, 0, none⟩)) (w4.alloc (.cells (va .u8 tag) 45)) rfl (by rfl) (exec_box 45 (.tmp 5) rfl (.agg (va .u8 tag)) rfl) ?_
 simp only [Ls]
 have lp6_p11 := hp6.lt
 have lp7_p11 := hp7.lt
 have lp9_p11 := hp9.lt
 have lp10_p11 := hp10.lt
 have lw_p11 := Nat.le_trans hB0 hW.size
 have hp11 := Blk.new w4 45 (va .u8 tag)
 have bx := bAl w4 (.cells (va .u8 tag) 45)
 replace hp6 := blB hp6 bx
 replace hp7 := blB hp7 bx
 replace hp9 := blB hp9 bx
 replace hp10 := blB hp10 bx
 replace hW := trB hW hB0 bx
 clear bx
 generalize w4.alloc (.cells (va .u8 tag) 45) = w5 at *
 generalize w4.heap.size = p11 at hp11 lw_p11 lp6_p11 lp7_p11 lp9_p11 lp10_p11 ⊢
 refine runWL 12 (.pointer (some ⟨w5.heap.size, 0, none⟩)) (w5.alloc (.cells (va .u8 (List.replicate 32 0)) 33)) rfl (by rfl) (exec_allocV 33 rfl _ (zv_api_Block _)) ?_
 simp only [Ls]
 have lp6_p12 := hp6.lt
 have lp7_p12 := hp7.lt
 have lp9_p12 := hp9.lt
 have lp10_p12 := hp10.lt
 have lp11_p12 := hp11.lt
 have lw_p12 := Nat.le_trans hB0 hW.size
 have hp12 := Blk.new w5 33 (va .u8 (List.replicate 32 0))
 have bx := bAl w5 (.cells (va .u8 (List.replicate 32 0)) 33)
 replace hp6 := blB hp6 bx
 replace hp7 := blB hp7 bx
 replace hp9 := blB hp9 bx
 replace hp10 := blB hp10 bx
 replace hp11 := blB hp11 bx
 replace hW := trB hW hB0 bx
 clear bx
 generalize w5.alloc (.cells (va .u8 (List.replicate 32 0)) 33) = w6 at *
 generalize w5.heap.size = p12 at hp12 lw_p12 lp6_p12 lp7_p12 lp9_p12 lp10_p12 lp11_p12 ⊢
 refine runL 13 (.int .i64 0) rfl (by rfl) (by go_simp) ?_
 simp only [Ls]
 refine nilL ?_
 go_upto_region 1 with fail
 refine wp_region_held_drew (S := fun wr => Blk wr p6 22 (va .u8 ke) ∧ Blk wr p7 24 (va .u8 km) ∧ Blk wr p9 30 (noV s c) ∧ Blk wr p10 33 (va .u8 d) ∧ Blk wr p11 45 (va .u8 tag) ∧ Blk wr p12 33 (va .u8 (List.replicate 32 0)) ∧ Below B0 w wr) (by kernel_rfl) ⟨hp6.drew, hp7.drew, hp9.drew, hp10.drew, hp11.drew, hp12.drew, below_drewN hW 1⟩ (fun hH => ?_)
 clear hp6 hp7 hp9 hp10 hp11 hp12 hW
 obtain ⟨hp6, hp7, hp9, hp10, hp11, hp12, hW⟩ := hH
 generalize w6.drew = w7 at *
 refine takeH 7 0 14 (.slice (some ⟨p7, 0, none⟩) 32 32) rfl rfl (by kernel_rfl) (by kernel_rfl) (by kernel_rfl) (fun _ _ _ h => h) (Or.inl ⟨by rfl, fun w _ => by go_simp⟩) ⟨hp6, hp7, hp9, hp10, hp11, hp12, hW⟩ ?_
 simp only [Ls]
 refine takeH 6 1 15 (.int .i64 (i : Int)) rfl rfl (by kernel_rfl) (by kernel_rfl) (by kernel_rfl) (fun _ _ _ h => h) (Or.inl ⟨by rfl, fun w _ => by go_simp⟩) ⟨hp6, hp7, hp9, hp10, hp11, hp12, hW⟩ ?_
 simp only [Ls]
 refine takeH 5 2 16 (.agg (noV s c)) rfl rfl (by kernel_rfl) (by kernel_rfl) (by kernel_rfl) (fun _ _ _ h => h) (Or.inl ⟨by rfl, fun _ h => exec_row 30 (.tmp 9) rfl p9 rfl 30 (noV s c) _ h.2.2.1 (by exact Tryd.underlying30) rfl (noV_sz _ _)⟩) ⟨hp6, hp7, hp9, hp10, hp11, hp12, hW⟩ ?_
 simp only [Ls]
 refine takeH 4 3 17 (.agg (va .u8 d)) rfl rfl (by kernel_rfl) (by kernel_rfl) (by kernel_rfl) (fun _ _ _ h => h) (Or.inl ⟨by rfl, fun _ h => exec_row 33 (.tmp 10) rfl p10 rfl 33 (va .u8 d) _ h.2.2.2.1 (by exact Tryd.underlying33) rfl (sz_api_Block _ hdl)⟩) ⟨hp6, hp7, hp9, hp10, hp11, hp12, hW⟩ ?_
 simp only [Ls]
 refine takeH 3 6 20 (.agg (va .u8 tag)) rfl rfl (by kernel_rfl) (by kernel_rfl) (by kernel_rfl) (fun _ _ _ h => h) (Or.inl ⟨by rfl, fun _ h => exec_row 45 (.tmp 11) rfl p11 rfl 45 (va .u8 tag) _ h.2.2.2.2.1 (by exact Tryd.underlying45) rfl (sz_api_Digest _ hgl)⟩) ⟨hp6, hp7, hp9, hp10, hp11, hp12, hW⟩ ?_
 simp only [Ls]
 refine wpAnyH_ready (by kernel_rfl) (by simp) (readyCons 2 4 18 rfl rfl (by rfl) (fun K hK => wp_callF 13 #[.int .i64 (i : Int), .agg (noV s c), .agg (va .u8 d)] (by go_simp) (rmsg_any i s c d hi hs hdl hdb hc _) ?_) AllReadyH.nil)
 rintro e w8 ⟨AM, cM, rfl, hAM, bx⟩
 have nAM_p6 := hAM.off_lt hp6.lt
 have nAM_p7 := hAM.off_lt hp7.lt
 have nAM_p9 := hAM.off_lt hp9.lt
 have nAM_p10 := hAM.off_lt hp10.lt
 have nAM_p11 := hAM.off_lt hp11.lt
 have nAM_p12 := hAM.off_lt hp12.lt
 replace hAM := hAM.mono (Nat.le_trans hB0 hW.size)
 replace hp6 := blB hp6 bx
 replace hp7 := blB hp7 bx
 replace hp9 := blB hp9 bx
 replace hp10 := blB hp10 bx
 replace hp11 := blB hp11 bx
 replace hp12 := blB hp12 bx
 replace hW := trB hW hB0 bx
 clear bx
 refine ⟨_, rfl, hK.out _ _ ⟨hp6, hp7, hp9, hp10, hp11, hp12, hW⟩ (fun _ => ?_)⟩
 clear hK K
 simp only [Ls]
 refine wpAnyH_ready (by kernel_rfl) (by simp) (readyCons 1 5 19 rfl rfl (by rfl) (fun K hK => wp_callF 35 #[.slice (some ⟨p7, 0, none⟩) 32 32, .slice AM 48 cM] (by go_simp) (rhm_to km (msg i s c d) t htq.out _ 32 32 _ _ 48 cM _ hmb (by decide) (msg_byt hdb) (by decide) _ (hp7.readsAll (Nat.lt_succ_self _) hml) hp7.lt hAM.reads (Nat.le_refl _)) ?_) AllReadyH.nil)
 rintro e w9 ⟨rfl, bx⟩
 replace hp6 := blB hp6 bx
 replace hp7 := blB hp7 bx
 replace hp9 := blB hp9 bx
 replace hp10 := blB hp10 bx
 replace hp11 := blB hp11 bx
 replace hp12 := blB hp12 bx
 replace hAM := hAM.below bx
 replace hW := trB hW hB0 bx
 clear bx
 refine ⟨_, rfl, hK.out _ _ ⟨hp6, hp7, hp9, hp10, hp11, hp12, hW⟩ (fun _ => ?_)⟩
 clear hK K
 simp only [Ls]
 refine takeH 0 7 21 (.bool false) rfl rfl (by kernel_rfl) (by kernel_rfl) (by kernel_rfl) (fun _ _ _ h => h) (Or.inl ⟨by rfl, fun _ _ => exec_neB 45 32 (by kernel_rfl) (by kernel_rfl) (.tmp 19) (.tmp 20) _ rfl t tag htl hgl rfl rfl false (by rw [hvq.out]; rfl)⟩) ⟨hp6, hp7, hp9, hp10, hp11, hp12, hW⟩ ?_
 simp only [Ls]
 refine wpAnyH_done (by kernel_rfl) ?_ _
 go_upto_region 3 with fail
 refine wl_lit ?_
 refine runL 23 (.agg (va .u8 ke)) rfl (by rfl) (exec_row 22 (.tmp 6) rfl p6 rfl 22 (va .u8 ke) _ hp6 (by exact Tryd.underlying22) rfl (sz__16_uint8 _ hel)) ?_
 refine runL 24 (.agg (noV s c)) rfl (by rfl) (exec_row 30 (.tmp 9) rfl p9 rfl 30 (noV s c) _ hp9 (by exact Tryd.underlying30) rfl (noV_sz _ _)) ?_
 refine runL 25 (.agg (va .u8 d)) rfl (by rfl) (exec_row 33 (.tmp 10) rfl p10 rfl 33 (va .u8 d) _ hp10 (by exact Tryd.underlying33) rfl (sz_api_Block _ hdl)) ?_
 simp only [Ls]
 refine callL 26 rfl (by rfl) (fun K hK => wp_callF 34 #[.agg (va .u8 ke), .agg (noV s c), .agg (va .u8 d)] (by go_simp) (rxb_any ke hel heb s c d x hxq.out hxl hs hc hdl hdb _) ?_)
 rintro e w10 ⟨rfl, bx⟩
 replace hp6 := blB hp6 bx
 replace hp7 := blB hp7 bx
 replace hp9 := blB hp9 bx
 replace hp10 := blB hp10 bx
 replace hp11 := blB hp11 bx
 replace hp12 := blB hp12 bx
 replace hAM := hAM.below bx
 replace hW := trB hW hB0 bx
 clear bx
 refine ⟨_, rfl, hK.out _ _ ?_⟩
 clear hK K
 simp only [Ls]
 refine runSL (w10.setRow p12 (va .u8 x)) rfl (by rfl) (exec_storeRow 33 (.tmp 12) (.tmp 26) rfl p12 rfl (va .u8 x) rfl 33 (va .u8 (List.replicate 32 0)) hp12 (sz_eq (sz_api_Block _ (List.length_replicate)) (sz_api_Block _ hxl)) (sz_api_Block _ hxl) (va_ones .u8 _)) ?_
 replace hp6 := hp6.rowFar (show p12 ≠ p6 from (by omega)) (va .u8 x)
 replace hp7 := hp7.rowFar (show p12 ≠ p7 from (by omega)) (va .u8 x)
 replace hp9 := hp9.rowFar (show p12 ≠ p9 from (by omega)) (va .u8 x)
 replace hp10 := hp10.rowFar (show p12 ≠ p10 from (by omega)) (va .u8 x)
 replace hp11 := hp11.rowFar (show p12 ≠ p11 from (by omega)) (va .u8 x)
 replace hAM := hAM.rowFar nAM_p12 (va .u8 x)
 replace hp12 := hp12.row (va .u8 x)
 replace hW := below_setRow hW lw_p12 (va .u8 x)
 generalize w10.setRow p12 (va .u8 x) = w11 at *
 refine runL 13 (.int .i64 0) rfl (by rfl) (by go_simp) ?_
 simp only [Ls]
 refine nilL ?_
 go_wp2_with fail
 exact bodyPost_ret (results_row_tmp rfl _ _ p12 33 (va .u8 x) _ (.int .i64 0) rfl hp12 (by exact Tryd.underlying33) rfl (sz_api_Block _ hxl) rfl) rfl ⟨rfl, hW⟩
set_option maxRecDepth 8000 in
set_option maxHeartbeats 4000000 in
theorem ropen_no (ke km : List Nat) (_hel : ke.length = 16) (hml : km.length = 32) (_heb : Byt ke) (hmb : Byt km) (i s c : Nat) (d : List Nat) (hi : i < 4096) (hs : s < 4294967296) (hdl : d.length = 32) (hdb : Byt d) (hc : c < 18446744073709551616) (tag : List Nat) (hgl : tag.length = 32) (_hgb : Byt tag) (hv : ¬ hm km (msg i s c d) = tag) (w : World) :
  Calls Tryd.prog 17 #[.agg (va .u8 ke), .agg (va .u8 km), .int .i64 (i : Int), .agg (noV s c), .agg (va .u8 d), .agg (va .u8 tag)] w fun e w' => e = .returned (.tuple #[.agg (va .u8 (List.replicate 32 0)), .int .i64 9]) ∧ Below w.heap.size w w' := by
 obtain ⟨B0, hB0e, hW, hB0⟩ := stB w
 rw [hB0e]
 obtain ⟨t, ht⟩ : ∃ t, hm km (msg i s c d) = t := ⟨_, rfl⟩
 have htl : t.length = 32 := by rw [← ht]; exact hm_len _ _
 have htb : Byt t := by rw [← ht]; exact hm_byt _ _
 rw [ht] at hv
 have htq := Lib.hid ht
 have hvq := Lib.hid (decide_eq_false hv)
 clear ht hv
 have hB0q := Lib.hid hB0e
 clear hB0e
 go_enter Tryd.func17, Tryd.ntmps17
 go_upto_region 0 with fail
 refine wl_lit ?_
 refine runWL 6 (.pointer (some ⟨w.heap.size, 0, none⟩)) (w.alloc (.cells (va .u8 ke) 22)) rfl (by rfl) (exec_box 22 (.tmp 0) rfl (.agg (va .u8 ke)) rfl) ?_
 simp only [Ls]
 have lw_p6 := Nat.le_trans hB0 hW.size
 have hp6 := Blk.new w 22 (va .u8 ke)
 replace hW := alB hW hB0 (.cells (va .u8 ke) 22)
 generalize w.alloc (.cells (va .u8 ke) 22) = w1 at *
 generalize w.heap.size = p6 at hp6 lw_p6  ⊢
 refine runWL 7 (.pointer (some ⟨w1.heap.size, 0, none⟩)) (w1.alloc (.cells (va .u8 km) 24)) rfl (by rfl) (exec_box 24 (.tmp 1) rfl (.agg (va .u8 km)) rfl) ?_
 simp only [Ls]
 have lp6_p7 := hp6.lt
 have lw_p7 := Nat.le_trans hB0 hW.size
 have hp7 := Blk.new w1 24 (va .u8 km)
 have bx := bAl w1 (.cells (va .u8 km) 24)
 replace hp6 := blB hp6 bx
 replace hW := trB hW hB0 bx
 clear bx
 generalize w1.alloc (.cells (va .u8 km) 24) = w2 at *
 generalize w1.heap.size = p7 at hp7 lw_p7 lp6_p7 ⊢
 refine runWL 9 (.pointer (some ⟨w2.heap.size, 0, none⟩)) (w2.alloc (.cells (noV s c) 30)) rfl (by rfl) (exec_box 30 (.tmp 3) rfl (.agg (noV s c)) rfl) ?_
 simp only [Ls]
 have lp6_p9 := hp6.lt
 have lp7_p9 := hp7.lt
 have lw_p9 := Nat.le_trans hB0 hW.size
 have hp9 := Blk.new w2 30 (noV s c)
 have bx := bAl w2 (.cells (noV s c) 30)
 replace hp6 := blB hp6 bx
 replace hp7 := blB hp7 bx
 replace hW := trB hW hB0 bx
 clear bx
 generalize w2.alloc (.cells (noV s c) 30) = w3 at *
 generalize w2.heap.size = p9 at hp9 lw_p9 lp6_p9 lp7_p9 ⊢
 refine runWL 10 (.pointer (some ⟨w3.heap.size, 0, none⟩)) (w3.alloc (.cells (va .u8 d) 33)) rfl (by rfl) (exec_box 33 (.tmp 4) rfl (.agg (va .u8 d)) rfl) ?_
 simp only [Ls]
 have lp6_p10 := hp6.lt
 have lp7_p10 := hp7.lt
 have lp9_p10 := hp9.lt
 have lw_p10 := Nat.le_trans hB0 hW.size
 have hp10 := Blk.new w3 33 (va .u8 d)
 have bx := bAl w3 (.cells (va .u8 d) 33)
 replace hp6 := blB hp6 bx
 replace hp7 := blB hp7 bx
 replace hp9 := blB hp9 bx
 replace hW := trB hW hB0 bx
 clear bx
 generalize w3.alloc (.cells (va .u8 d) 33) = w4 at *
 generalize w3.heap.size = p10 at hp10 lw_p10 lp6_p10 lp7_p10 lp9_p10 ⊢
 refine runWL 11 (.pointer (some ⟨w4.heap.size, 0, none⟩)) (w4.alloc (.cells (va .u8 tag) 45)) rfl (by rfl) (exec_box 45 (.tmp 5) rfl (.agg (va .u8 tag)) rfl) ?_
 simp only [Ls]
 have lp6_p11 := hp6.lt
 have lp7_p11 := hp7.lt
 have lp9_p11 := hp9.lt
 have lp10_p11 := hp10.lt
 have lw_p11 := Nat.le_trans hB0 hW.size
 have hp11 := Blk.new w4 45 (va .u8 tag)
 have bx := bAl w4 (.cells (va .u8 tag) 45)
 replace hp6 := blB hp6 bx
 replace hp7 := blB hp7 bx
 replace hp9 := blB hp9 bx
 replace hp10 := blB hp10 bx
 replace hW := trB hW hB0 bx
 clear bx
 generalize w4.alloc (.cells (va .u8 tag) 45) = w5 at *
 generalize w4.heap.size = p11 at hp11 lw_p11 lp6_p11 lp7_p11 lp9_p11 lp10_p11 ⊢
 refine runWL 12 (.pointer (some ⟨w5.heap.size, 0, none⟩)) (w5.alloc (.cells (va .u8 (List.replicate 32 0)) 33)) rfl (by rfl) (exec_allocV 33 rfl _ (zv_api_Block _)) ?_
 simp only [Ls]
 have lp6_p12 := hp6.lt
 have lp7_p12 := hp7.lt
 have lp9_p12 := hp9.lt
 have lp10_p12 := hp10.lt
 have lp11_p12 := hp11.lt
 have lw_p12 := Nat.le_trans hB0 hW.size
 have hp12 := Blk.new w5 33 (va .u8 (List.replicate 32 0))
 have bx := bAl w5 (.cells (va .u8 (List.replicate 32 0)) 33)
 replace hp6 := blB hp6 bx
 replace hp7 := blB hp7 bx
 replace hp9 := blB hp9 bx
 replace hp10 := blB hp10 bx
 replace hp11 := blB hp11 bx
 replace hW := trB hW hB0 bx
 clear bx
 generalize w5.alloc (.cells (va .u8 (List.replicate 32 0)) 33) = w6 at *
 generalize w5.heap.size = p12 at hp12 lw_p12 lp6_p12 lp7_p12 lp9_p12 lp10_p12 lp11_p12 ⊢
 refine runL 13 (.int .i64 0) rfl (by rfl) (by go_simp) ?_
 simp only [Ls]
 refine nilL ?_
 go_upto_region 1 with fail
 refine wp_region_held_drew (S := fun wr => Blk wr p6 22 (va .u8 ke) ∧ Blk wr p7 24 (va .u8 km) ∧ Blk wr p9 30 (noV s c) ∧ Blk wr p10 33 (va .u8 d) ∧ Blk wr p11 45 (va .u8 tag) ∧ Blk wr p12 33 (va .u8 (List.replicate 32 0)) ∧ Below B0 w wr) (by kernel_rfl) ⟨hp6.drew, hp7.drew, hp9.drew, hp10.drew, hp11.drew, hp12.drew, below_drewN hW 1⟩ (fun hH => ?_)
 clear hp6 hp7 hp9 hp10 hp11 hp12 hW
 obtain ⟨hp6, hp7, hp9, hp10, hp11, hp12, hW⟩ := hH
 generalize w6.drew = w7 at *
 refine takeH 7 0 14 (.slice (some ⟨p7, 0, none⟩) 32 32) rfl rfl (by kernel_rfl) (by kernel_rfl) (by kernel_rfl) (fun _ _ _ h => h) (Or.inl ⟨by rfl, fun w _ => by go_simp⟩) ⟨hp6, hp7, hp9, hp10, hp11, hp12, hW⟩ ?_
 simp only [Ls]
 refine takeH 6 1 15 (.int .i64 (i : Int)) rfl rfl (by kernel_rfl) (by kernel_rfl) (by kernel_rfl) (fun _ _ _ h => h) (Or.inl ⟨by rfl, fun w _ => by go_simp⟩) ⟨hp6, hp7, hp9, hp10, hp11, hp12, hW⟩ ?_
 simp only [Ls]
 refine takeH 5 2 16 (.agg (noV s c)) rfl rfl (by kernel_rfl) (by kernel_rfl) (by kernel_rfl) (fun _ _ _ h => h) (Or.inl ⟨by rfl, fun _ h => exec_row 30 (.tmp 9) rfl p9 rfl 30 (noV s c) _ h.2.2.1 (by exact Tryd.underlying30) rfl (noV_sz _ _)⟩) ⟨hp6, hp7, hp9, hp10, hp11, hp12, hW⟩ ?_
 simp only [Ls]
 refine takeH 4 3 17 (.agg (va .u8 d)) rfl rfl (by kernel_rfl) (by kernel_rfl) (by kernel_rfl) (fun _ _ _ h => h) (Or.inl ⟨by rfl, fun _ h => exec_row 33 (.tmp 10) rfl p10 rfl 33 (va .u8 d) _ h.2.2.2.1 (by exact Tryd.underlying33) rfl (sz_api_Block _ hdl)⟩) ⟨hp6, hp7, hp9, hp10, hp11, hp12, hW⟩ ?_
 simp only [Ls]
 refine takeH 3 6 20 (.agg (va .u8 tag)) rfl rfl (by kernel_rfl) (by kernel_rfl) (by kernel_rfl) (fun _ _ _ h => h) (Or.inl ⟨by rfl, fun _ h => exec_row 45 (.tmp 11) rfl p11 rfl 45 (va .u8 tag) _ h.2.2.2.2.1 (by exact Tryd.underlying45) rfl (sz_api_Digest _ hgl)⟩) ⟨hp6, hp7, hp9, hp10, hp11, hp12, hW⟩ ?_
 simp only [Ls]
 refine wpAnyH_ready (by kernel_rfl) (by simp) (readyCons 2 4 18 rfl rfl (by rfl) (fun K hK => wp_callF 13 #[.int .i64 (i : Int), .agg (noV s c), .agg (va .u8 d)] (by go_simp) (rmsg_any i s c d hi hs hdl hdb hc _) ?_) AllReadyH.nil)
 rintro e w8 ⟨AM, cM, rfl, hAM, bx⟩
 have nAM_p6 := hAM.off_lt hp6.lt
 have nAM_p7 := hAM.off_lt hp7.lt
 have nAM_p9 := hAM.off_lt hp9.lt
 have nAM_p10 := hAM.off_lt hp10.lt
 have nAM_p11 := hAM.off_lt hp11.lt
 have nAM_p12 := hAM.off_lt hp12.lt
 replace hAM := hAM.mono (Nat.le_trans hB0 hW.size)
 replace hp6 := blB hp6 bx
 replace hp7 := blB hp7 bx
 replace hp9 := blB hp9 bx
 replace hp10 := blB hp10 bx
 replace hp11 := blB hp11 bx
 replace hp12 := blB hp12 bx
 replace hW := trB hW hB0 bx
 clear bx
 refine ⟨_, rfl, hK.out _ _ ⟨hp6, hp7, hp9, hp10, hp11, hp12, hW⟩ (fun _ => ?_)⟩
 clear hK K
 simp only [Ls]
 refine wpAnyH_ready (by kernel_rfl) (by simp) (readyCons 1 5 19 rfl rfl (by rfl) (fun K hK => wp_callF 35 #[.slice (some ⟨p7, 0, none⟩) 32 32, .slice AM 48 cM] (by go_simp) (rhm_to km (msg i s c d) t htq.out _ 32 32 _ _ 48 cM _ hmb (by decide) (msg_byt hdb) (by decide) _ (hp7.readsAll (Nat.lt_succ_self _) hml) hp7.lt hAM.reads (Nat.le_refl _)) ?_) AllReadyH.nil)
 rintro e w9 ⟨rfl, bx⟩
 replace hp6 := blB hp6 bx
 replace hp7 := blB hp7 bx
 replace hp9 := blB hp9 bx
 replace hp10 := blB hp10 bx
 replace hp11 := blB hp11 bx
 replace hp12 := blB hp12 bx
 replace hAM := hAM.below bx
 replace hW := trB hW hB0 bx
 clear bx
 refine ⟨_, rfl, hK.out _ _ ⟨hp6, hp7, hp9, hp10, hp11, hp12, hW⟩ (fun _ => ?_)⟩
 clear hK K
 simp only [Ls]
 refine takeH 0 7 21 (.bool true) rfl rfl (by kernel_rfl) (by kernel_rfl) (by kernel_rfl) (fun _ _ _ h => h) (Or.inl ⟨by rfl, fun _ _ => exec_neB 45 32 (by kernel_rfl) (by kernel_rfl) (.tmp 19) (.tmp 20) _ rfl t tag htl hgl rfl rfl true (by rw [hvq.out]; rfl)⟩) ⟨hp6, hp7, hp9, hp10, hp11, hp12, hW⟩ ?_
 simp only [Ls]
 refine wpAnyH_done (by kernel_rfl) ?_ _
 go_upto_region 2 with fail
 refine wl_lit ?_
 refine runL 22 (.agg (va .u8 (List.replicate 32 0))) rfl (by rfl) (exec_build 33 _ rfl (va .u8 (List.replicate 32 0)) (by kernel_rfl)) ?_
 simp only [Ls]
 refine runSL (w9.setRow p12 (va .u8 (List.replicate 32 0))) rfl (by rfl) (exec_storeRow 33 (.tmp 12) (.tmp 22) rfl p12 rfl (va .u8 (List.replicate 32 0)) rfl 33 (va .u8 (List.replicate 32 0)) hp12 (sz_eq (sz_api_Block _ (List.length_replicate)) (sz_api_Block _ (List.length_replicate))) (sz_api_Block _ (List.length_replicate)) (va_ones .u8 _)) ?_
 replace hp6 := hp6.rowFar (show p12 ≠ p6 from (by omega)) (va .u8 (List.replicate 32 0))
 replace hp7 := hp7.rowFar (show p12 ≠ p7 from (by omega)) (va .u8 (List.replicate 32 0))
 replace hp9 := hp9.rowFar (show p12 ≠ p9 from (by omega)) (va .u8 (List.replicate 32 0))
 replace hp10 := hp10.rowFar (show p12 ≠ p10 from (by omega)) (va .u8 (List.replicate 32 0))
 replace hp11 := hp11.rowFar (show p12 ≠ p11 from (by omega)) (va .u8 (List.replicate 32 0))
 replace hAM := hAM.rowFar nAM_p12 (va .u8 (List.replicate 32 0))
 replace hp12 := hp12.row (va .u8 (List.replicate 32 0))
 replace hW := below_setRow hW lw_p12 (va .u8 (List.replicate 32 0))
 generalize w9.setRow p12 (va .u8 (List.replicate 32 0)) = w10 at *
 refine runL 13 (.int .i64 9) rfl (by rfl) (by go_simp) ?_
 simp only [Ls]
 refine nilL ?_
 go_wp2_with fail
 exact bodyPost_ret (results_row_tmp rfl _ _ p12 33 (va .u8 (List.replicate 32 0)) _ (.int .i64 9) rfl hp12 (by exact Tryd.underlying33) rfl (sz_api_Block _ (List.length_replicate)) rfl) rfl ⟨rfl, hW⟩
end Go.Proofs.YtcfddmplnoknlaaDoor
