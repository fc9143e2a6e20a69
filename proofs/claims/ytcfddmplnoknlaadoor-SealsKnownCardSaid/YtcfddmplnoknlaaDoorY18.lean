/-
  The walks of seals.Seal, Open. (Printed by mkseal09.py.)
-/
import Derived.Test.YtcfddmplnoknlaaDoorY17
namespace Go.Proofs.YtcfddmplnoknlaaDoor
set_option maxRecDepth 16384
open Go.RowKit Sh

set_option maxRecDepth 8000 in
set_option maxHeartbeats 4000000 in
theorem slc1_any (ke km : List Nat) (hel : ke.length = 16) (hml : km.length = 32) (heb : Byt ke) (hmb : Byt km) (i s c : Nat) (d : List Nat) (hi : i < 4096) (hs : s < 4294967296) (hdl : d.length = 32) (hdb : Byt d) (x t : List Nat) (hx : kxor ke s c 0 d = x) (ht : hm km (msg i s c x) = t) (hxl : x.length = 32) (hxb : Byt x) (htl : t.length = 32) (_htb : Byt t) (B0 p4 p5 p6 p7 p8 p9 : Nat) (w : World) (gl : Hid (∀ W, Below B0 w W → Glob W)) (hp4 : Blk w p4 26 (va .u8 (ke ++ km))) (hp5 : Blk w p5 3 #[.int .i64 (i : Int)]) (hp6 : Blk w p6 30 (noV s c)) (hp7 : Blk w p7 33 (va .u8 d)) (hp8 : Blk w p8 33 (va .u8 (List.replicate 32 0))) (hp9 : Blk w p9 45 (va .u8 (List.replicate 32 0)))
  (lw_p8 : B0 ≤ p8) (lw_p9 : B0 ≤ p9) (l45 : p4 < p5) (l56 : p5 < p6) (l67 : p6 < p7) (l78 : p7 < p8) (l89 : p8 < p9) :
  Calls Tryd.prog 29 #[.pointer (some ⟨p4, 0, none⟩), .pointer (some ⟨p6, 0, none⟩), .pointer (some ⟨p7, 0, none⟩), .pointer (some ⟨p8, 0, none⟩), .pointer (some ⟨p5, 0, none⟩), .pointer (some ⟨p9, 0, none⟩)] w fun e w' => e = .returned (.int .i64 0) ∧ Blk w' p8 33 (va .u8 x) ∧ Blk w' p9 45 (va .u8 t) ∧ Below B0 w w' := by
 have hxq := Lib.hid hx
 have htq := Lib.hid ht
 clear hx ht
 have hW : Below B0 w w := Below.refl _ _
 have hB0 : B0 ≤ w.heap.size := by have := hp9.lt; omega
 go_enter Tryd.func29, Tryd.ntmps29
 go_upto_region 0 with fail
 refine wl_lit ?_
 refine runL 6 (.int .i64 0) rfl (by rfl) (by go_simp) ?_
 simp only [Ls]
 refine nilL ?_
 go_upto_region 1 with fail
 refine wl_lit ?_
 refine runL 7 (.agg (va .u8 (ke ++ km))) rfl (by rfl) (exec_row 26 (.tmp 0) rfl p4 rfl 26 (va .u8 (ke ++ km)) _ hp4 (by exact Tryd.underlying26) rfl (sz_derives_Keys _ ((by simp [hel, hml])))) ?_
 refine runL 8 (.agg (noV s c)) rfl (by rfl) (exec_row 30 (.tmp 1) rfl p6 rfl 30 (noV s c) _ hp6 (by exact Tryd.underlying30) rfl (noV_sz _ _)) ?_
 refine runL 9 (.agg (va .u8 d)) rfl (by rfl) (exec_row 33 (.tmp 2) rfl p7 rfl 33 (va .u8 d) _ hp7 (by exact Tryd.underlying33) rfl (sz_api_Block _ hdl)) ?_
 simp only [Ls]
 refine callL 10 rfl (by rfl) (fun K hK => wp_callF 30 #[.agg (va .u8 (ke ++ km)), .agg (noV s c), .agg (va .u8 d)] (by go_simp) (combined_any ke km hel hml heb hmb s c d x hxq.out hxl hs hdl hdb _) ?_)
 rintro e w1 ⟨rfl, bx⟩
 replace hp4 := blB hp4 bx
 replace hp5 := blB hp5 bx
 replace hp6 := blB hp6 bx
 replace hp7 := blB hp7 bx
 replace hp8 := blB hp8 bx
 replace hp9 := blB hp9 bx
 replace hW := trB hW hB0 bx
 clear bx
 refine ⟨_, rfl, hK.out _ _ ?_⟩
 clear hK K
 simp only [Ls]
 refine runSL (w1.setRow p8 (va .u8 x)) rfl (by rfl) (exec_storeRow 33 (.tmp 3) (.tmp 10) rfl p8 rfl (va .u8 x) rfl 33 (va .u8 (List.replicate 32 0)) hp8 (sz_eq (sz_api_Block _ (List.length_replicate)) (sz_api_Block _ hxl)) (sz_api_Block _ hxl) (va_ones .u8 _)) ?_
 replace hp4 := hp4.rowFar (show p8 ≠ p4 from (by omega)) (va .u8 x)
 replace hp5 := hp5.rowFar (show p8 ≠ p5 from (by omega)) (va .u8 x)
 replace hp6 := hp6.rowFar (show p8 ≠ p6 from (by omega)) (va .u8 x)
 replace hp7 := hp7.rowFar (show p8 ≠ p7 from (by omega)) (va .u8 x)
 replace hp9 := hp9.rowFar (show p8 ≠ p9 from (by omega)) (va .u8 x)
 replace hp8 := hp8.row (va .u8 x)
 replace hW := below_setRow hW lw_p8 (va .u8 x)
 generalize w1.setRow p8 (va .u8 x) = w2 at *
 refine nilL ?_
 go_upto_region 2 with fail
 replace hp9 := hp9.drew
 refine wp_region_held_drew (S := fun wr => Blk wr p4 26 (va .u8 (ke ++ km)) ∧ Blk wr p5 3 (#[.int .i64 (i : Int)]) ∧ Blk wr p6 30 (noV s c) ∧ Blk wr p7 33 (va .u8 d) ∧ Blk wr p8 33 (va .u8 x) ∧ Below B0 w wr) (by kernel_rfl) ⟨hp4.drew, hp5.drew, hp6.drew, hp7.drew, hp8.drew, below_drewN hW 1⟩ (fun hH => ?_)
 clear hp4 hp5 hp6 hp7 hp8 hW
 obtain ⟨hp4, hp5, hp6, hp7, hp8, hW⟩ := hH
 generalize w2.drew = w3 at *
 refine takeH 8 0 11 (.pointer (some ⟨p4, 16, none⟩)) rfl rfl (by kernel_rfl) (by kernel_rfl) (by kernel_rfl) (fun _ _ _ h => h) (Or.inl ⟨by rfl, fun w _ => by go_simp⟩) ⟨hp4, hp5, hp6, hp7, hp8, hW⟩ ?_
 simp only [Ls]
 refine takeH 7 1 12 (.slice (some ⟨p4, 16, none⟩) 32 32) rfl rfl (by kernel_rfl) (by kernel_rfl) (by kernel_rfl) (fun _ _ _ h => h) (Or.inl ⟨by rfl, fun w _ => by go_simp⟩) ⟨hp4, hp5, hp6, hp7, hp8, hW⟩ ?_
 simp only [Ls]
 refine takeH 6 2 13 (.int .i64 (i : Int)) rfl rfl (by kernel_rfl) (by kernel_rfl) (by kernel_rfl) (fun _ _ _ h => h) (Or.inl ⟨by rfl, fun _ h => exec_cell 3 (.tmp 4) rfl p5 0 rfl (.int .i64 (i : Int)) _ Tryd.underlying3 rfl (h.2.1.cellIs 0 rfl)⟩) ⟨hp4, hp5, hp6, hp7, hp8, hW⟩ ?_
 simp only [Ls]
 refine takeH 5 3 14 (.agg (noV s c)) rfl rfl (by kernel_rfl) (by kernel_rfl) (by kernel_rfl) (fun _ _ _ h => h) (Or.inl ⟨by rfl, fun _ h => exec_row 30 (.tmp 1) rfl p6 rfl 30 (noV s c) _ h.2.2.1 (by exact Tryd.underlying30) rfl (noV_sz _ _)⟩) ⟨hp4, hp5, hp6, hp7, hp8, hW⟩ ?_
 simp only [Ls]
 refine takeH 4 4 15 (.agg (va .u8 x)) rfl rfl (by kernel_rfl) (by kernel_rfl) (by kernel_rfl) (fun _ _ _ h => h) (Or.inl ⟨by rfl, fun _ h => exec_row 33 (.tmp 3) rfl p8 rfl 33 (va .u8 x) _ h.2.2.2.2.1 (by exact Tryd.underlying33) rfl (sz_api_Block _ hxl)⟩) ⟨hp4, hp5, hp6, hp7, hp8, hW⟩ ?_
 simp only [Ls]
 refine wpAnyH_ready (by kernel_rfl) (by simp) (readyCons 3 5 16 rfl rfl (by rfl) (fun K hK => wp_callF 23 #[.int .i64 (i : Int), .agg (noV s c), .agg (va .u8 x)] (by go_simp) (smsg_any i s c x hi hs hxl hxb _) ?_) AllReadyH.nil)
 rintro e w4 ⟨g1, rfl, hg1, hgg, bx⟩
 have lp4_g1 : p4 < g1 := Nat.lt_of_lt_of_le hp4.lt hgg
 have lp5_g1 : p5 < g1 := Nat.lt_of_lt_of_le hp5.lt hgg
 have lp6_g1 : p6 < g1 := Nat.lt_of_lt_of_le hp6.lt hgg
 have lp7_g1 : p7 < g1 := Nat.lt_of_lt_of_le hp7.lt hgg
 have lp8_g1 : p8 < g1 := Nat.lt_of_lt_of_le hp8.lt hgg
 have lp9_g1 : p9 < g1 := Nat.lt_of_lt_of_le hp9.lt hgg
 have lw_g1 : B0 ≤ g1 := Nat.le_trans (Nat.le_trans hB0 hW.size) hgg
 replace hp4 := blB hp4 bx
 replace hp5 := blB hp5 bx
 replace hp6 := blB hp6 bx
 replace hp7 := blB hp7 bx
 replace hp8 := blB hp8 bx
 replace hp9 := blB hp9 bx
 replace hW := trB hW hB0 bx
 clear hgg
 clear bx
 refine ⟨_, rfl, hK.out _ _ ⟨hp4, hp5, hp6, hp7, hp8, hW⟩ (fun _ => ?_)⟩
 clear hK K
 simp only [Ls]
 refine wpAnyH_ready (by kernel_rfl) (by simp) (readyRun 2 6 17 (.slice (some ⟨w4.heap.size, 0, none⟩) 1 1) (w4.alloc (.cells (#[.slice (some ⟨g1, 0, none⟩) 48 48]) 34)) rfl rfl (by rfl) (exec_bslice 90 1 _ rfl _ (by exact bs_1 (some ⟨g1, 0, none⟩) 48 48 _)) ⟨hp4.alloc _, hp5.alloc _, hp6.alloc _, hp7.alloc _, hp8.alloc _, hW.alloc (Nat.le_trans hB0 hW.size) _⟩ (fun _ => ?_) AllReadyH.nil)
 simp only [Ls]
 have lp4_q1 := hp4.lt
 have lp5_q1 := hp5.lt
 have lp6_q1 := hp6.lt
 have lp7_q1 := hp7.lt
 have lp8_q1 := hp8.lt
 have lp9_q1 := hp9.lt
 have lg1_q1 := hg1.lt
 have lw_q1 := Nat.le_trans hB0 hW.size
 have hq1 : Blk (w4.alloc (.cells (#[.slice (some ⟨g1, 0, none⟩) 48 48]) 34)) w4.heap.size 34 (#[.slice (some ⟨g1, 0, none⟩) 48 48]) := Blk.new _ _ _
 have bx := bAl w4 (.cells (#[.slice (some ⟨g1, 0, none⟩) 48 48]) 34)
 replace hp4 := blB hp4 bx
 replace hp5 := blB hp5 bx
 replace hp6 := blB hp6 bx
 replace hp7 := blB hp7 bx
 replace hp8 := blB hp8 bx
 replace hp9 := blB hp9 bx
 clear bx
 replace hg1 := hg1.alloc (.cells (#[.slice (some ⟨g1, 0, none⟩) 48 48]) 34)
 replace hW := alB hW hB0 (.cells (#[.slice (some ⟨g1, 0, none⟩) 48 48]) 34)
 generalize w4.alloc (.cells (#[.slice (some ⟨g1, 0, none⟩) 48 48]) 34) = w5 at *
 generalize w4.heap.size = q1 at hq1 lw_q1 lp4_q1 lp5_q1 lp6_q1 lp7_q1 lp8_q1 lp9_q1 lg1_q1 ⊢
 refine wpAnyH_ready (by kernel_rfl) (by simp) (readyCons 1 7 18 rfl rfl (by rfl) (fun K hK => wp_callF 31 #[.slice (some ⟨p4, 16, none⟩) 32 32, .slice (some ⟨q1, 0, none⟩) 1 1] (by go_simp) (macof_to km _ 32 32 _ [msg i s c x] t (by rw [List.flatten_cons, List.flatten_nil, List.append_nil]; exact htq.out) _ 1 1 _ hmb (by decide) (by decide) (by decide) (by rw [List.flatten_cons, List.flatten_nil, List.append_nil, msg_len hxl]; decide) _ (gl.out _ hW) (hp4.rightReads hel hml) hp4.lt (parts_one hg1.lt hq1 (hg1.readsAll (Nat.lt_succ_self _) (msg_len hxl)) (Nat.le_refl _) (msg_byt hxb)) (Nat.le_refl _)) ?_) AllReadyH.nil)
 rintro e w6 ⟨rfl, bx⟩
 replace hp4 := blB hp4 bx
 replace hp5 := blB hp5 bx
 replace hp6 := blB hp6 bx
 replace hp7 := blB hp7 bx
 replace hp8 := blB hp8 bx
 replace hp9 := blB hp9 bx
 replace hg1 := hg1.below bx hg1.lt
 replace hq1 := hq1.below bx hq1.lt
 replace hW := trB hW hB0 bx
 clear bx
 refine ⟨_, rfl, hK.out _ _ ⟨hp4, hp5, hp6, hp7, hp8, hW⟩ (fun _ => ?_)⟩
 clear hK K
 simp only [Ls]
 refine wpAnyH_ready (by kernel_rfl) (by simp) (readyRunS 0 8 (w6.setRow p9 (va .u8 t)) rfl rfl (by rfl) (exec_storeRow 45 (.tmp 5) (.tmp 18) rfl p9 rfl (va .u8 t) rfl 45 (va .u8 (List.replicate 32 0)) hp9 (sz_eq (sz_api_Digest _ (List.length_replicate)) (sz_api_Digest _ htl)) (sz_api_Digest _ htl) (va_ones .u8 _)) ⟨hp4.rowFar (show p9 ≠ p4 from (by omega)) _, hp5.rowFar (show p9 ≠ p5 from (by omega)) _, hp6.rowFar (show p9 ≠ p6 from (by omega)) _, hp7.rowFar (show p9 ≠ p7 from (by omega)) _, hp8.rowFar (show p9 ≠ p8 from (by omega)) _, below_setRow hW lw_p9 _⟩ (fun _ => ?_) AllReadyH.nil)
 replace hp4 := hp4.rowFar (show p9 ≠ p4 from (by omega)) (va .u8 t)
 replace hp5 := hp5.rowFar (show p9 ≠ p5 from (by omega)) (va .u8 t)
 replace hp6 := hp6.rowFar (show p9 ≠ p6 from (by omega)) (va .u8 t)
 replace hp7 := hp7.rowFar (show p9 ≠ p7 from (by omega)) (va .u8 t)
 replace hp8 := hp8.rowFar (show p9 ≠ p8 from (by omega)) (va .u8 t)
 replace hg1 := hg1.rowFar (show p9 ≠ g1 from (by omega)) (va .u8 t)
 replace hq1 := hq1.rowFar (show p9 ≠ q1 from (by omega)) (va .u8 t)
 replace hp9 := hp9.row (va .u8 t)
 replace hW := below_setRow hW lw_p9 (va .u8 t)
 generalize w6.setRow p9 (va .u8 t) = w7 at *
 refine wpAnyH_done (by kernel_rfl) ?_ _
 go_upto_region 3 with fail
 refine wl_lit ?_
 refine runL 6 (.int .i64 0) rfl (by rfl) (by go_simp) ?_
 simp only [Ls]
 refine nilL ?_
 go_wp2_with fail
 go_ret
 exact ⟨rfl, hp8, hp9, hW⟩
set_option maxRecDepth 8000 in
set_option maxHeartbeats 4000000 in
theorem sseal_bad (ke km : List Nat) (_hel : ke.length = 16) (_hml : km.length = 32) (_heb : Byt ke) (_hmb : Byt km) (i : Int) (hi : i < 0 ∨ 4096 ≤ i) (s c : Nat) (d : List Nat) (_hdl : d.length = 32) (w : World) :
  Calls Tryd.prog 14 #[.agg (va .u8 (ke ++ km)), .int .i64 i, .agg (noV s c), .agg (va .u8 d)] w fun e w' => e = .returned (.tuple #[.agg (va .u8 (List.replicate 32 0)), .agg (va .u8 (List.replicate 32 0)), .int .i64 1]) ∧ Below w.heap.size w w' := by
 obtain ⟨B0, hB0e, hW, hB0⟩ := stB w
 rw [hB0e]
 have hB0q := Lib.hid hB0e
 clear hB0e
 go_enter Tryd.func14, Tryd.ntmps14
 go_upto_region 0 with fail
 refine wl_lit ?_
 refine runWL 4 (.pointer (some ⟨w.heap.size, 0, none⟩)) (w.alloc (.cells (va .u8 (ke ++ km)) 26)) rfl (by rfl) (exec_box 26 (.tmp 0) rfl (.agg (va .u8 (ke ++ km))) rfl) ?_
 simp only [Ls]
 have lw_p4 := Nat.le_trans hB0 hW.size
 have hp4 := Blk.new w 26 (va .u8 (ke ++ km))
 replace hW := alB hW hB0 (.cells (va .u8 (ke ++ km)) 26)
 generalize w.alloc (.cells (va .u8 (ke ++ km)) 26) = w1 at *
 generalize w.heap.size = p4 at hp4 lw_p4  ⊢
 refine runWL 5 (.pointer (some ⟨w1.heap.size, 0, none⟩)) (w1.alloc (.cells (#[.int .i64 i]) 3)) rfl (by rfl) (exec_box 3 (.tmp 1) rfl (.int .i64 i) rfl) ?_
 simp only [Ls]
 have lp4_p5 := hp4.lt
 have lw_p5 := Nat.le_trans hB0 hW.size
 have hp5 := Blk.new w1 3 (#[.int .i64 i])
 have bx := bAl w1 (.cells (#[.int .i64 i]) 3)
 replace hp4 := blB hp4 bx
 replace hW := trB hW hB0 bx
 clear bx
 generalize w1.alloc (.cells (#[.int .i64 i]) 3) = w2 at *
 generalize w1.heap.size = p5 at hp5 lw_p5 lp4_p5 ⊢
 refine runWL 6 (.pointer (some ⟨w2.heap.size, 0, none⟩)) (w2.alloc (.cells (noV s c) 30)) rfl (by rfl) (exec_box 30 (.tmp 2) rfl (.agg (noV s c)) rfl) ?_
 simp only [Ls]
 have lp4_p6 := hp4.lt
 have lp5_p6 := hp5.lt
 have lw_p6 := Nat.le_trans hB0 hW.size
 have hp6 := Blk.new w2 30 (noV s c)
 have bx := bAl w2 (.cells (noV s c) 30)
 replace hp4 := blB hp4 bx
 replace hp5 := blB hp5 bx
 replace hW := trB hW hB0 bx
 clear bx
 generalize w2.alloc (.cells (noV s c) 30) = w3 at *
 generalize w2.heap.size = p6 at hp6 lw_p6 lp4_p6 lp5_p6 ⊢
 refine runWL 7 (.pointer (some ⟨w3.heap.size, 0, none⟩)) (w3.alloc (.cells (va .u8 d) 33)) rfl (by rfl) (exec_box 33 (.tmp 3) rfl (.agg (va .u8 d)) rfl) ?_
 simp only [Ls]
 have lp4_p7 := hp4.lt
 have lp5_p7 := hp5.lt
 have lp6_p7 := hp6.lt
 have lw_p7 := Nat.le_trans hB0 hW.size
 have hp7 := Blk.new w3 33 (va .u8 d)
 have bx := bAl w3 (.cells (va .u8 d) 33)
 replace hp4 := blB hp4 bx
 replace hp5 := blB hp5 bx
 replace hp6 := blB hp6 bx
 replace hW := trB hW hB0 bx
 clear bx
 generalize w3.alloc (.cells (va .u8 d) 33) = w4 at *
 generalize w3.heap.size = p7 at hp7 lw_p7 lp4_p7 lp5_p7 lp6_p7 ⊢
 refine runWL 8 (.pointer (some ⟨w4.heap.size, 0, none⟩)) (w4.alloc (.cells (va .u8 (List.replicate 32 0)) 33)) rfl (by rfl) (exec_allocV 33 rfl _ (zv_api_Block _)) ?_
 simp only [Ls]
 have lp4_p8 := hp4.lt
 have lp5_p8 := hp5.lt
 have lp6_p8 := hp6.lt
 have lp7_p8 := hp7.lt
 have lw_p8 := Nat.le_trans hB0 hW.size
 have hp8 := Blk.new w4 33 (va .u8 (List.replicate 32 0))
 have bx := bAl w4 (.cells (va .u8 (List.replicate 32 0)) 33)
 replace hp4 := blB hp4 bx
 replace hp5 := blB hp5 bx
 replace hp6 := blB hp6 bx
 replace hp7 := blB hp7 bx
 replace hW := trB hW hB0 bx
 clear bx
 generalize w4.alloc (.cells (va .u8 (List.replicate 32 0)) 33) = w5 at *
 generalize w4.heap.size = p8 at hp8 lw_p8 lp4_p8 lp5_p8 lp6_p8 lp7_p8 ⊢
 refine runWL 9 (.pointer (some ⟨w5.heap.size, 0, none⟩)) (w5.alloc (.cells (va .u8 (List.replicate 32 0)) 45)) rfl (by rfl) (exec_allocV 45 rfl _ (zv_api_Digest _)) ?_
 simp only [Ls]
 have lp4_p9 := hp4.lt
 have lp5_p9 := hp5.lt
 have lp6_p9 := hp6.lt
 have lp7_p9 := hp7.lt
 have lp8_p9 := hp8.lt
 have lw_p9 := Nat.le_trans hB0 hW.size
 have hp9 := Blk.new w5 45 (va .u8 (List.replicate 32 0))
 have bx := bAl w5 (.cells (va .u8 (List.replicate 32 0)) 45)
 replace hp4 := blB hp4 bx
 replace hp5 := blB hp5 bx
 replace hp6 := blB hp6 bx
 replace hp7 := blB hp7 bx
 replace hp8 := blB hp8 bx
 replace hW := trB hW hB0 bx
 clear bx
 generalize w5.alloc (.cells (va .u8 (List.replicate 32 0)) 45) = w6 at *
 generalize w5.heap.size = p9 at hp9 lw_p9 lp4_p9 lp5_p9 lp6_p9 lp7_p9 lp8_p9 ⊢
 refine runL 10 (.int .i64 0) rfl (by rfl) (by go_simp) ?_
 simp only [Ls]
 refine nilL ?_
 go_upto_region 1 with fail
 refine wl_lit ?_
 refine runL 11 (.int .i64 i) rfl (by rfl) (exec_cell 3 (.tmp 5) rfl p5 0 rfl (.int .i64 i) _ Tryd.underlying3 rfl (hp5.cellIs 0 rfl)) ?_
 refine runL 12 (.func (.func 29) #[] #[.pointer (some ⟨p4, 0, none⟩), .pointer (some ⟨p6, 0, none⟩), .pointer (some ⟨p7, 0, none⟩), .pointer (some ⟨p8, 0, none⟩), .pointer (some ⟨p5, 0, none⟩), .pointer (some ⟨p9, 0, none⟩)]) rfl (by rfl) (exec_makeFunc _ _ rfl _ rfl) ?_
 simp only [Ls]
 refine callL 13 rfl (by rfl) (fun K hK => wp_callF 21 #[.int .i64 i, .func (.func 29) #[] #[.pointer (some ⟨p4, 0, none⟩), .pointer (some ⟨p6, 0, none⟩), .pointer (some ⟨p7, 0, none⟩), .pointer (some ⟨p8, 0, none⟩), .pointer (some ⟨p5, 0, none⟩), .pointer (some ⟨p9, 0, none⟩)]] (by go_simp) (indexed_bad i hi _ _) ?_)
 rintro e w7 ⟨rfl, bx⟩
 replace hp4 := blB hp4 bx
 replace hp5 := blB hp5 bx
 replace hp6 := blB hp6 bx
 replace hp7 := blB hp7 bx
 replace hp8 := blB hp8 bx
 replace hp9 := blB hp9 bx
 replace hW := trB hW hB0 bx
 clear bx
 refine ⟨_, rfl, hK.out _ _ ?_⟩
 clear hK K
 refine runL 10 (.int .i64 1) rfl (by rfl) (by go_simp) ?_
 simp only [Ls]
 refine nilL ?_
 go_upto_region 2 with fail
 refine wp_region_held_drew (S := fun wr => Blk wr p4 26 (va .u8 (ke ++ km)) ∧ Blk wr p5 3 (#[.int .i64 i]) ∧ Blk wr p6 30 (noV s c) ∧ Blk wr p7 33 (va .u8 d) ∧ Blk wr p8 33 (va .u8 (List.replicate 32 0)) ∧ Blk wr p9 45 (va .u8 (List.replicate 32 0)) ∧ Below B0 w wr) (by kernel_rfl) ⟨hp4.drew, hp5.drew, hp6.drew, hp7.drew, hp8.drew, hp9.drew, below_drewN hW 1⟩ (fun hH => ?_)
 clear hp4 hp5 hp6 hp7 hp8 hp9 hW
 obtain ⟨hp4, hp5, hp6, hp7, hp8, hp9, hW⟩ := hH
 generalize w7.drew = w8 at *
 refine takeH 5 0 14 (.agg (va .u8 (List.replicate 32 0))) rfl rfl (by kernel_rfl) (by kernel_rfl) (by kernel_rfl) (fun _ _ _ h => h) (Or.inl ⟨by rfl, fun _ h => exec_row 33 (.tmp 8) rfl p8 rfl 33 (va .u8 (List.replicate 32 0)) _ h.2.2.2.2.1 (by exact Tryd.underlying33) rfl (sz_api_Block _ (List.length_replicate))⟩) ⟨hp4, hp5, hp6, hp7, hp8, hp9, hW⟩ ?_
 simp only [Ls]
 refine takeH 4 1 15 (.agg (va .u8 (List.replicate 32 0))) rfl rfl (by kernel_rfl) (by kernel_rfl) (by kernel_rfl) (fun _ _ _ h => h) (Or.inl ⟨by rfl, fun _ h => exec_row 45 (.tmp 9) rfl p9 rfl 45 (va .u8 (List.replicate 32 0)) _ h.2.2.2.2.2.1 (by exact Tryd.underlying45) rfl (sz_api_Digest _ (List.length_replicate))⟩) ⟨hp4, hp5, hp6, hp7, hp8, hp9, hW⟩ ?_
 simp only [Ls]
 refine takeH 3 2 16 (.int .i64 1) rfl rfl (by kernel_rfl) (by kernel_rfl) (by kernel_rfl) (fun _ _ _ h => h) (Or.inl ⟨by rfl, fun w _ => by go_simp⟩) ⟨hp4, hp5, hp6, hp7, hp8, hp9, hW⟩ ?_
 simp only [Ls]
 refine wpAnyH_ready (by kernel_rfl) (by simp) (readyRunS 2 3 (w8.setRow p8 (va .u8 (List.replicate 32 0))) rfl rfl (by rfl) (exec_storeRow 33 (.tmp 8) (.tmp 14) rfl p8 rfl (va .u8 (List.replicate 32 0)) rfl 33 (va .u8 (List.replicate 32 0)) hp8 (sz_eq (sz_api_Block _ (List.length_replicate)) (sz_api_Block _ (List.length_replicate))) (sz_api_Block _ (List.length_replicate)) (va_ones .u8 _)) ⟨hp4.rowFar (show p8 ≠ p4 from (by omega)) _, hp5.rowFar (show p8 ≠ p5 from (by omega)) _, hp6.rowFar (show p8 ≠ p6 from (by omega)) _, hp7.rowFar (show p8 ≠ p7 from (by omega)) _, hp8.row _, hp9.rowFar (show p8 ≠ p9 from (by omega)) _, below_setRow hW lw_p8 _⟩ (fun _ => ?_) AllReadyH.nil)
 replace hp4 := hp4.rowFar (show p8 ≠ p4 from (by omega)) (va .u8 (List.replicate 32 0))
 replace hp5 := hp5.rowFar (show p8 ≠ p5 from (by omega)) (va .u8 (List.replicate 32 0))
 replace hp6 := hp6.rowFar (show p8 ≠ p6 from (by omega)) (va .u8 (List.replicate 32 0))
 replace hp7 := hp7.rowFar (show p8 ≠ p7 from (by omega)) (va .u8 (List.replicate 32 0))
 replace hp9 := hp9.rowFar (show p8 ≠ p9 from (by omega)) (va .u8 (List.replicate 32 0))
 replace hp8 := hp8.row (va .u8 (List.replicate 32 0))
 replace hW := below_setRow hW lw_p8 (va .u8 (List.replicate 32 0))
 generalize w8.setRow p8 (va .u8 (List.replicate 32 0)) = w9 at *
 refine wpAnyH_ready (by kernel_rfl) (by simp) (readyRunS 1 4 (w9.setRow p9 (va .u8 (List.replicate 32 0))) rfl rfl (by rfl) (exec_storeRow 45 (.tmp 9) (.tmp 15) rfl p9 rfl (va .u8 (List.replicate 32 0)) rfl 45 (va .u8 (List.replicate 32 0)) hp9 (sz_eq (sz_api_Digest _ (List.length_replicate)) (sz_api_Digest _ (List.length_replicate))) (sz_api_Digest _ (List.length_replicate)) (va_ones .u8 _)) ⟨hp4.rowFar (show p9 ≠ p4 from (by omega)) _, hp5.rowFar (show p9 ≠ p5 from (by omega)) _, hp6.rowFar (show p9 ≠ p6 from (by omega)) _, hp7.rowFar (show p9 ≠ p7 from (by omega)) _, hp8.rowFar (show p9 ≠ p8 from (by omega)) _, hp9.row _, below_setRow hW lw_p9 _⟩ (fun _ => ?_) AllReadyH.nil)
 replace hp4 := hp4.rowFar (show p9 ≠ p4 from (by omega)) (va .u8 (List.replicate 32 0))
 replace hp5 := hp5.rowFar (show p9 ≠ p5 from (by omega)) (va .u8 (List.replicate 32 0))
 replace hp6 := hp6.rowFar (show p9 ≠ p6 from (by omega)) (va .u8 (List.replicate 32 0))
 replace hp7 := hp7.rowFar (show p9 ≠ p7 from (by omega)) (va .u8 (List.replicate 32 0))
 replace hp8 := hp8.rowFar (show p9 ≠ p8 from (by omega)) (va .u8 (List.replicate 32 0))
 replace hp9 := hp9.row (va .u8 (List.replicate 32 0))
 replace hW := below_setRow hW lw_p9 (va .u8 (List.replicate 32 0))
 generalize w9.setRow p9 (va .u8 (List.replicate 32 0)) = w10 at *
 refine takeH 0 5 10 (.int .i64 1) rfl rfl (by kernel_rfl) (by kernel_rfl) (by kernel_rfl) (fun _ _ _ h => h) (Or.inl ⟨by rfl, fun w _ => by go_simp⟩) ⟨hp4, hp5, hp6, hp7, hp8, hp9, hW⟩ ?_
 simp only [Ls]
 refine wpAnyH_done (by kernel_rfl) ?_ _
 go_wp2_with fail
 exact bodyPost_ret (results_row_row_tmp rfl _ _ p8 33 (va .u8 (List.replicate 32 0)) _ p9 45 (va .u8 (List.replicate 32 0)) _ (.int .i64 1) rfl hp8 (by exact Tryd.underlying33) rfl (sz_api_Block _ (List.length_replicate)) rfl hp9 (by exact Tryd.underlying45) rfl (sz_api_Digest _ (List.length_replicate)) rfl) rfl ⟨rfl, hW⟩
set_option maxRecDepth 8000 in
set_option maxHeartbeats 4000000 in
theorem sseal_ok (ke km : List Nat) (hel : ke.length = 16) (hml : km.length = 32) (heb : Byt ke) (hmb : Byt km) (i s c : Nat) (d : List Nat) (hi : i < 4096) (hs : s < 4294967296) (hdl : d.length = 32) (hdb : Byt d) (x t : List Nat) (hx : kxor ke s c 0 d = x) (ht : hm km (msg i s c x) = t) (hxl : x.length = 32) (hxb : Byt x) (htl : t.length = 32) (htb : Byt t) (w : World) (hg : Glob w) :
  Calls Tryd.prog 14 #[.agg (va .u8 (ke ++ km)), .int .i64 (i : Int), .agg (noV s c), .agg (va .u8 d)] w fun e w' => e = .returned (.tuple #[.agg (va .u8 x), .agg (va .u8 t), .int .i64 0]) ∧ Below w.heap.size w w' := by
 have hxq := Lib.hid hx
 have htq := Lib.hid ht
 clear hx ht
 obtain ⟨B0, hB0e, hW, hB0⟩ := stB w
 rw [hB0e]
 have gl := glob_of hg hB0e
 clear hg
 have hB0q := Lib.hid hB0e
 clear hB0e
 go_enter Tryd.func14, Tryd.ntmps14
 go_upto_region 0 with fail
 refine wl_lit ?_
 refine runWL 4 (.pointer (some ⟨w.heap.size, 0, none⟩)) (w.alloc (.cells (va .u8 (ke ++ km)) 26)) rfl (by rfl) (exec_box 26 (.tmp 0) rfl (.agg (va .u8 (ke ++ km))) rfl) ?_
 simp only [Ls]
 have lw_p4 := Nat.le_trans hB0 hW.size
 have hp4 := Blk.new w 26 (va .u8 (ke ++ km))
 replace hW := alB hW hB0 (.cells (va .u8 (ke ++ km)) 26)
 generalize w.alloc (.cells (va .u8 (ke ++ km)) 26) = w1 at *
 generalize w.heap.size = p4 at hp4 lw_p4  ⊢
 refine runWL 5 (.pointer (some ⟨w1.heap.size, 0, none⟩)) (w1.alloc (.cells (#[.int .i64 (i : Int)]) 3)) rfl (by rfl) (exec_box 3 (.tmp 1) rfl (.int .i64 (i : Int)) rfl) ?_
 simp only [Ls]
 have lp4_p5 := hp4.lt
 have lw_p5 := Nat.le_trans hB0 hW.size
 have hp5 := Blk.new w1 3 (#[.int .i64 (i : Int)])
 have bx := bAl w1 (.cells (#[.int .i64 (i : Int)]) 3)
 replace hp4 := blB hp4 bx
 replace hW := trB hW hB0 bx
 clear bx
 generalize w1.alloc (.cells (#[.int .i64 (i : Int)]) 3) = w2 at *
 generalize w1.heap.size = p5 at hp5 lw_p5 lp4_p5 ⊢
 refine runWL 6 (.pointer (some ⟨w2.heap.size, 0, none⟩)) (w2.alloc (.cells (noV s c) 30)) rfl (by rfl) (exec_box 30 (.tmp 2) rfl (.agg (noV s c)) rfl) ?_
 simp only [Ls]
 have lp4_p6 := hp4.lt
 have lp5_p6 := hp5.lt
 have lw_p6 := Nat.le_trans hB0 hW.size
 have hp6 := Blk.new w2 30 (noV s c)
 have bx := bAl w2 (.cells (noV s c) 30)
 replace hp4 := blB hp4 bx
 replace hp5 := blB hp5 bx
 replace hW := trB hW hB0 bx
 clear bx
 generalize w2.alloc (.cells (noV s c) 30) = w3 at *
 generalize w2.heap.size = p6 at hp6 lw_p6 lp4_p6 lp5_p6 ⊢
 refine runWL 7 (.pointer (some ⟨w3.heap.size, 0, none⟩)) (w3.alloc (.cells (va .u8 d) 33)) rfl (by rfl) (exec_box 33 (.tmp 3) rfl (.agg (va .u8 d)) rfl) ?_
 simp only [Ls]
 have lp4_p7 := hp4.lt
 have lp5_p7 := hp5.lt
 have lp6_p7 := hp6.lt
 have lw_p7 := Nat.le_trans hB0 hW.size
 have hp7 := Blk.new w3 33 (va .u8 d)
 have bx := bAl w3 (.cells (va .u8 d) 33)
 replace hp4 := blB hp4 bx
 replace hp5 := blB hp5 bx
 replace hp6 := blB hp6 bx
 replace hW := trB hW hB0 bx
 clear bx
 generalize w3.alloc (.cells (va .u8 d) 33) = w4 at *
 generalize w3.heap.size = p7 at hp7 lw_p7 lp4_p7 lp5_p7 lp6_p7 ⊢
 refine runWL 8 (.pointer (some ⟨w4.heap.size, 0, none⟩)) (w4.alloc (.cells (va .u8 (List.replicate 32 0)) 33)) rfl (by rfl) (exec_allocV 33 rfl _ (zv_api_Block _)) ?_
 simp only [Ls]
 have lp4_p8 := hp4.lt
 have lp5_p8 := hp5.lt
 have lp6_p8 := hp6.lt
 have lp7_p8 := hp7.lt
 have lw_p8 := Nat.le_trans hB0 hW.size
 have hp8 := Blk.new w4 33 (va .u8 (List.replicate 32 0))
 have bx := bAl w4 (.cells (va .u8 (List.replicate 32 0)) 33)
 replace hp4 := blB hp4 bx
 replace hp5 := blB hp5 bx
 replace hp6 := blB hp6 bx
 replace hp7 := blB hp7 bx
 replace hW := trB hW hB0 bx
 clear bx
 generalize w4.alloc (.cells (va .u8 (List.replicate 32 0)) 33) = w5 at *
 generalize w4.heap.size = p8 at hp8 lw_p8 lp4_p8 lp5_p8 lp6_p8 lp7_p8 ⊢
 refine runWL 9 (.pointer (some ⟨w5.heap.size, 0, none⟩)) (w5.alloc (.cells (va .u8 (List.replicate 32 0)) 45)) rfl (by rfl) (exec_allocV 45 rfl _ (zv_api_Digest _)) ?_
 simp only [Ls]
 have lp4_p9 := hp4.lt
 have lp5_p9 := hp5.lt
 have lp6_p9 := hp6.lt
 have lp7_p9 := hp7.lt
 have lp8_p9 := hp8.lt
 have lw_p9 := Nat.le_trans hB0 hW.size
 have hp9 := Blk.new w5 45 (va .u8 (List.replicate 32 0))
 have bx := bAl w5 (.cells (va .u8 (List.replicate 32 0)) 45)
 replace hp4 := blB hp4 bx
 replace hp5 := blB hp5 bx
 replace hp6 := blB hp6 bx
 replace hp7 := blB hp7 bx
 replace hp8 := blB hp8 bx
 replace hW := trB hW hB0 bx
 clear bx
 generalize w5.alloc (.cells (va .u8 (List.replicate 32 0)) 45) = w6 at *
 generalize w5.heap.size = p9 at hp9 lw_p9 lp4_p9 lp5_p9 lp6_p9 lp7_p9 lp8_p9 ⊢
 refine runL 10 (.int .i64 0) rfl (by rfl) (by go_simp) ?_
 simp only [Ls]
 refine nilL ?_
 go_upto_region 1 with fail
 refine wl_lit ?_
 refine runL 11 (.int .i64 (i : Int)) rfl (by rfl) (exec_cell 3 (.tmp 5) rfl p5 0 rfl (.int .i64 (i : Int)) _ Tryd.underlying3 rfl (hp5.cellIs 0 rfl)) ?_
 refine runL 12 (.func (.func 29) #[] #[.pointer (some ⟨p4, 0, none⟩), .pointer (some ⟨p6, 0, none⟩), .pointer (some ⟨p7, 0, none⟩), .pointer (some ⟨p8, 0, none⟩), .pointer (some ⟨p5, 0, none⟩), .pointer (some ⟨p9, 0, none⟩)]) rfl (by rfl) (exec_makeFunc _ _ rfl _ rfl) ?_
 simp only [Ls]
 refine callL 13 rfl (by rfl) (fun K hK => wp_callF 21 #[.int .i64 (i : Int), .func (.func 29) #[] #[.pointer (some ⟨p4, 0, none⟩), .pointer (some ⟨p6, 0, none⟩), .pointer (some ⟨p7, 0, none⟩), .pointer (some ⟨p8, 0, none⟩), .pointer (some ⟨p5, 0, none⟩), .pointer (some ⟨p9, 0, none⟩)]] (by go_simp) (indexed_ok i hi _ _ _ (by go_simp) (R := fun v w' => v = .int .i64 0 ∧ Blk w' p8 33 (va .u8 x) ∧ Blk w' p9 45 (va .u8 t) ∧ Below B0 _ w') ((slc1_any ke km hel hml heb hmb i s c d hi hs hdl hdb x t hxq.out htq.out hxl hxb htl htb B0 p4 p5 p6 p7 p8 p9 _ (Lib.hid fun W h => gl.out W (hW.trans h)) hp4 hp5 hp6 hp7 hp8 hp9 lw_p8 lw_p9 (by omega) (by omega) (by omega) (by omega) (by omega)).mono (by rintro e w' ⟨rfl, h⟩; exact ⟨_, rfl, rfl, h⟩))) ?_)
 clear hp4 hp5 hp6 hp7 hp8 hp9
 rintro e w7 ⟨_, rfl, rfl, hp8, hp9, bx⟩
 replace hW := hW.trans bx
 clear bx
 refine ⟨_, rfl, hK.out _ _ ?_⟩
 clear hK K
 refine runL 10 (.int .i64 0) rfl (by rfl) (by go_simp) ?_
 simp only [Ls]
 refine nilL ?_
 go_upto_region 2 with fail
 refine wp_region_held_drew (S := fun wr => Blk wr p8 33 (va .u8 x) ∧ Blk wr p9 45 (va .u8 t) ∧ Below B0 w wr) (by kernel_rfl) ⟨hp8.drew, hp9.drew, below_drewN hW 1⟩ (fun hH => ?_)
 clear hp8 hp9 hW
 obtain ⟨hp8, hp9, hW⟩ := hH
 generalize w7.drew = w8 at *
 refine takeH 5 0 14 (.agg (va .u8 x)) rfl rfl (by kernel_rfl) (by kernel_rfl) (by kernel_rfl) (fun _ _ _ h => h) (Or.inl ⟨by rfl, fun _ h => exec_row 33 (.tmp 8) rfl p8 rfl 33 (va .u8 x) _ h.1 (by exact Tryd.underlying33) rfl (sz_api_Block _ hxl)⟩) ⟨hp8, hp9, hW⟩ ?_
 simp only [Ls]
 refine takeH 4 1 15 (.agg (va .u8 t)) rfl rfl (by kernel_rfl) (by kernel_rfl) (by kernel_rfl) (fun _ _ _ h => h) (Or.inl ⟨by rfl, fun _ h => exec_row 45 (.tmp 9) rfl p9 rfl 45 (va .u8 t) _ h.2.1 (by exact Tryd.underlying45) rfl (sz_api_Digest _ htl)⟩) ⟨hp8, hp9, hW⟩ ?_
 simp only [Ls]
 refine takeH 3 2 16 (.int .i64 0) rfl rfl (by kernel_rfl) (by kernel_rfl) (by kernel_rfl) (fun _ _ _ h => h) (Or.inl ⟨by rfl, fun w _ => by go_simp⟩) ⟨hp8, hp9, hW⟩ ?_
 simp only [Ls]
 refine wpAnyH_ready (by kernel_rfl) (by simp) (readyRunS 2 3 (w8.setRow p8 (va .u8 x)) rfl rfl (by rfl) (exec_storeRow 33 (.tmp 8) (.tmp 14) rfl p8 rfl (va .u8 x) rfl 33 (va .u8 x) hp8 (sz_eq (sz_api_Block _ hxl) (sz_api_Block _ hxl)) (sz_api_Block _ hxl) (va_ones .u8 _)) ⟨hp8.row _, hp9.rowFar (show p8 ≠ p9 from (by omega)) _, below_setRow hW lw_p8 _⟩ (fun _ => ?_) AllReadyH.nil)
 replace hp9 := hp9.rowFar (show p8 ≠ p9 from (by omega)) (va .u8 x)
 replace hp8 := hp8.row (va .u8 x)
 replace hW := below_setRow hW lw_p8 (va .u8 x)
 generalize w8.setRow p8 (va .u8 x) = w9 at *
 refine wpAnyH_ready (by kernel_rfl) (by simp) (readyRunS 1 4 (w9.setRow p9 (va .u8 t)) rfl rfl (by rfl) (exec_storeRow 45 (.tmp 9) (.tmp 15) rfl p9 rfl (va .u8 t) rfl 45 (va .u8 t) hp9 (sz_eq (sz_api_Digest _ htl) (sz_api_Digest _ htl)) (sz_api_Digest _ htl) (va_ones .u8 _)) ⟨hp8.rowFar (show p9 ≠ p8 from (by omega)) _, hp9.row _, below_setRow hW lw_p9 _⟩ (fun _ => ?_) AllReadyH.nil)
 replace hp8 := hp8.rowFar (show p9 ≠ p8 from (by omega)) (va .u8 t)
 replace hp9 := hp9.row (va .u8 t)
 replace hW := below_setRow hW lw_p9 (va .u8 t)
 generalize w9.setRow p9 (va .u8 t) = w10 at *
 refine takeH 0 5 10 (.int .i64 0) rfl rfl (by kernel_rfl) (by kernel_rfl) (by kernel_rfl) (fun _ _ _ h => h) (Or.inl ⟨by rfl, fun w _ => by go_simp⟩) ⟨hp8, hp9, hW⟩ ?_
 simp only [Ls]
 refine wpAnyH_done (by kernel_rfl) ?_ _
 go_wp2_with fail
 exact bodyPost_ret (results_row_row_tmp rfl _ _ p8 33 (va .u8 x) _ p9 45 (va .u8 t) _ (.int .i64 0) rfl hp8 (by exact Tryd.underlying33) rfl (sz_api_Block _ hxl) rfl hp9 (by exact Tryd.underlying45) rfl (sz_api_Digest _ htl) rfl) rfl ⟨rfl, hW⟩
set_option maxRecDepth 8000 in
set_option maxHeartbeats 4000000 in
theorem opc1_ok (ke km : List Nat) (hel : ke.length = 16) (hml : km.length = 32) (heb : Byt ke) (hmb : Byt km) (i s c : Nat) (d : List Nat) (hi : i < 4096) (hs : s < 4294967296) (hdl : d.length = 32) (hdb : Byt d) (tag : List Nat) (htl : tag.length = 32) (htb : Byt tag) (hv : hm km (msg i s c d) = tag) (x : List Nat) (hx : kxor ke s c 0 d = x) (hxl : x.length = 32) (_hxb : Byt x) (B0 p5 p6 p7 p8 p9 p10 : Nat) (w : World) (gl : Hid (∀ W, Below B0 w W → Glob W)) (hp5 : Blk w p5 26 (va .u8 (ke ++ km))) (hp6 : Blk w p6 3 #[.int .i64 (i : Int)]) (hp7 : Blk w p7 30 (noV s c)) (hp8 : Blk w p8 33 (va .u8 d)) (hp9 : Blk w p9 45 (va .u8 tag)) (hp10 : Blk w p10 33 (va .u8 (List.replicate 32 0)))
  (lw_p10 : B0 ≤ p10) (l56 : p5 < p6) (l67 : p6 < p7) (l78 : p7 < p8) (l89 : p8 < p9) (l90 : p9 < p10) :
  Calls Tryd.prog 32 #[.pointer (some ⟨p5, 0, none⟩), .pointer (some ⟨p6, 0, none⟩), .pointer (some ⟨p7, 0, none⟩), .pointer (some ⟨p8, 0, none⟩), .pointer (some ⟨p9, 0, none⟩), .pointer (some ⟨p10, 0, none⟩)] w fun e w' => e = .returned (.int .i64 0) ∧ Blk w' p10 33 (va .u8 x) ∧ Below B0 w w' := by
 have hxq := Lib.hid hx
 have hvq := Lib.hid (decide_eq_true hv)
 clear hx hv
 have hW : Below B0 w w := Below.refl _ _
 have hB0 : B0 ≤ w.heap.size := by have := hp10.lt; omega
 go_enter Tryd.func32, Tryd.ntmps32
 go_upto_region 0 with fail
 refine wl_lit ?_
 refine runL 6 (.int .i64 0) rfl (by rfl) (by go_simp) ?_
 simp only [Ls]
 refine nilL ?_
 go_upto_region 1 with fail
 refine wp_region_held_drew (S := fun wr => Blk wr p5 26 (va .u8 (ke ++ km)) ∧ Blk wr p6 3 (#[.int .i64 (i : Int)]) ∧ Blk wr p7 30 (noV s c) ∧ Blk wr p8 33 (va .u8 d) ∧ Blk wr p9 45 (va .u8 tag) ∧ Blk wr p10 33 (va .u8 (List.replicate 32 0)) ∧ Below B0 w wr) (by kernel_rfl) ⟨hp5.drew, hp6.drew, hp7.drew, hp8.drew, hp9.drew, hp10.drew, below_drewN hW 1⟩ (fun hH => ?_)
 clear hp5 hp6 hp7 hp8 hp9 hp10 hW
 obtain ⟨hp5, hp6, hp7, hp8, hp9, hp10, hW⟩ := hH
 generalize w.drew = w1 at *
 refine takeH 8 0 7 (.pointer (some ⟨p5, 16, none⟩)) rfl rfl (by kernel_rfl) (by kernel_rfl) (by kernel_rfl) (fun _ _ _ h => h) (Or.inl ⟨by rfl, fun w _ => by go_simp⟩) ⟨hp5, hp6, hp7, hp8, hp9, hp10, hW⟩ ?_
 simp only [Ls]
 refine takeH 7 1 8 (.slice (some ⟨p5, 16, none⟩) 32 32) rfl rfl (by kernel_rfl) (by kernel_rfl) (by kernel_rfl) (fun _ _ _ h => h) (Or.inl ⟨by rfl, fun w _ => by go_simp⟩) ⟨hp5, hp6, hp7, hp8, hp9, hp10, hW⟩ ?_
 simp only [Ls]
 refine takeH 6 2 9 (.int .i64 (i : Int)) rfl rfl (by kernel_rfl) (by kernel_rfl) (by kernel_rfl) (fun _ _ _ h => h) (Or.inl ⟨by rfl, fun _ h => exec_cell 3 (.tmp 1) rfl p6 0 rfl (.int .i64 (i : Int)) _ Tryd.underlying3 rfl (h.2.1.cellIs 0 rfl)⟩) ⟨hp5, hp6, hp7, hp8, hp9, hp10, hW⟩ ?_
 simp only [Ls]
 refine takeH 5 3 10 (.agg (noV s c)) rfl rfl (by kernel_rfl) (by kernel_rfl) (by kernel_rfl) (fun _ _ _ h => h) (Or.inl ⟨by rfl, fun _ h => exec_row 30 (.tmp 2) rfl p7 rfl 30 (noV s c) _ h.2.2.1 (by exact Tryd.underlying30) rfl (noV_sz _ _)⟩) ⟨hp5, hp6, hp7, hp8, hp9, hp10, hW⟩ ?_
 simp only [Ls]
 refine takeH 4 4 11 (.agg (va .u8 d)) rfl rfl (by kernel_rfl) (by kernel_rfl) (by kernel_rfl) (fun _ _ _ h => h) (Or.inl ⟨by rfl, fun _ h => exec_row 33 (.tmp 3) rfl p8 rfl 33 (va .u8 d) _ h.2.2.2.1 (by exact Tryd.underlying33) rfl (sz_api_Block _ hdl)⟩) ⟨hp5, hp6, hp7, hp8, hp9, hp10, hW⟩ ?_
 simp only [Ls]
 refine takeH 3 6 13 (.agg (va .u8 tag)) rfl rfl (by kernel_rfl) (by kernel_rfl) (by kernel_rfl) (fun _ _ _ h => h) (Or.inl ⟨by rfl, fun _ h => exec_row 45 (.tmp 4) rfl p9 rfl 45 (va .u8 tag) _ h.2.2.2.2.1 (by exact Tryd.underlying45) rfl (sz_api_Digest _ htl)⟩) ⟨hp5, hp6, hp7, hp8, hp9, hp10, hW⟩ ?_
 simp only [Ls]
 refine wpAnyH_ready (by kernel_rfl) (by simp) (readyCons 2 5 12 rfl rfl (by rfl) (fun K hK => wp_callF 23 #[.int .i64 (i : Int), .agg (noV s c), .agg (va .u8 d)] (by go_simp) (smsg_any i s c d hi hs hdl hdb _) ?_) AllReadyH.nil)
 rintro e w2 ⟨g1, rfl, hg1, hgg, bx⟩
 have lp5_g1 : p5 < g1 := Nat.lt_of_lt_of_le hp5.lt hgg
 have lp6_g1 : p6 < g1 := Nat.lt_of_lt_of_le hp6.lt hgg
 have lp7_g1 : p7 < g1 := Nat.lt_of_lt_of_le hp7.lt hgg
 have lp8_g1 : p8 < g1 := Nat.lt_of_lt_of_le hp8.lt hgg
 have lp9_g1 : p9 < g1 := Nat.lt_of_lt_of_le hp9.lt hgg
 have lp10_g1 : p10 < g1 := Nat.lt_of_lt_of_le hp10.lt hgg
 have lw_g1 : B0 ≤ g1 := Nat.le_trans (Nat.le_trans hB0 hW.size) hgg
 replace hp5 := blB hp5 bx
 replace hp6 := blB hp6 bx
 replace hp7 := blB hp7 bx
 replace hp8 := blB hp8 bx
 replace hp9 := blB hp9 bx
 replace hp10 := blB hp10 bx
 replace hW := trB hW hB0 bx
 clear hgg
 clear bx
 refine ⟨_, rfl, hK.out _ _ ⟨hp5, hp6, hp7, hp8, hp9, hp10, hW⟩ (fun _ => ?_)⟩
 clear hK K
 simp only [Ls]
 refine wpAnyH_ready (by kernel_rfl) (by simp) (readyCons 1 7 14 rfl rfl (by rfl) (fun K hK => wp_callF 33 #[.slice (some ⟨p5, 16, none⟩) 32 32, .slice (some ⟨g1, 0, none⟩) 48 48, .agg (va .u8 tag)] (by go_simp) (verify_to km (msg i s c d) tag true hvq.out _ 32 32 _ _ 48 48 _ hmb (by decide) (by decide) (msg_byt hdb) (by decide) (by decide) htb htl _ (gl.out _ hW) (hp5.rightReads hel hml) hp5.lt (hg1.readsAll (Nat.lt_succ_self _) (msg_len hdl)) hg1.lt) ?_) AllReadyH.nil)
 rintro e w3 ⟨rfl, bx⟩
 replace hp5 := blB hp5 bx
 replace hp6 := blB hp6 bx
 replace hp7 := blB hp7 bx
 replace hp8 := blB hp8 bx
 replace hp9 := blB hp9 bx
 replace hp10 := blB hp10 bx
 replace hg1 := hg1.below bx hg1.lt
 replace hW := trB hW hB0 bx
 clear bx
 refine ⟨_, rfl, hK.out _ _ ⟨hp5, hp6, hp7, hp8, hp9, hp10, hW⟩ (fun _ => ?_)⟩
 clear hK K
 simp only [Ls]
 refine takeH 0 8 15 (.bool false) rfl rfl (by kernel_rfl) (by kernel_rfl) (by kernel_rfl) (fun _ _ _ h => h) (Or.inl ⟨by rfl, fun w _ => by go_simp⟩) ⟨hp5, hp6, hp7, hp8, hp9, hp10, hW⟩ ?_
 simp only [Ls]
 refine wpAnyH_done (by kernel_rfl) ?_ _
 go_upto_region 3 with fail
 refine wl_lit ?_
 refine runL 16 (.agg (va .u8 (ke ++ km))) rfl (by rfl) (exec_row 26 (.tmp 0) rfl p5 rfl 26 (va .u8 (ke ++ km)) _ hp5 (by exact Tryd.underlying26) rfl (sz_derives_Keys _ ((by simp [hel, hml])))) ?_
 refine runL 17 (.agg (noV s c)) rfl (by rfl) (exec_row 30 (.tmp 2) rfl p7 rfl 30 (noV s c) _ hp7 (by exact Tryd.underlying30) rfl (noV_sz _ _)) ?_
 refine runL 18 (.agg (va .u8 d)) rfl (by rfl) (exec_row 33 (.tmp 3) rfl p8 rfl 33 (va .u8 d) _ hp8 (by exact Tryd.underlying33) rfl (sz_api_Block _ hdl)) ?_
 simp only [Ls]
 refine callL 19 rfl (by rfl) (fun K hK => wp_callF 30 #[.agg (va .u8 (ke ++ km)), .agg (noV s c), .agg (va .u8 d)] (by go_simp) (combined_any ke km hel hml heb hmb s c d x hxq.out hxl hs hdl hdb _) ?_)
 rintro e w4 ⟨rfl, bx⟩
 replace hp5 := blB hp5 bx
 replace hp6 := blB hp6 bx
 replace hp7 := blB hp7 bx
 replace hp8 := blB hp8 bx
 replace hp9 := blB hp9 bx
 replace hp10 := blB hp10 bx
 replace hg1 := hg1.below bx hg1.lt
 replace hW := trB hW hB0 bx
 clear bx
 refine ⟨_, rfl, hK.out _ _ ?_⟩
 clear hK K
 simp only [Ls]
 refine runSL (w4.setRow p10 (va .u8 x)) rfl (by rfl) (exec_storeRow 33 (.tmp 5) (.tmp 19) rfl p10 rfl (va .u8 x) rfl 33 (va .u8 (List.replicate 32 0)) hp10 (sz_eq (sz_api_Block _ (List.length_replicate)) (sz_api_Block _ hxl)) (sz_api_Block _ hxl) (va_ones .u8 _)) ?_
 replace hp5 := hp5.rowFar (show p10 ≠ p5 from (by omega)) (va .u8 x)
 replace hp6 := hp6.rowFar (show p10 ≠ p6 from (by omega)) (va .u8 x)
 replace hp7 := hp7.rowFar (show p10 ≠ p7 from (by omega)) (va .u8 x)
 replace hp8 := hp8.rowFar (show p10 ≠ p8 from (by omega)) (va .u8 x)
 replace hp9 := hp9.rowFar (show p10 ≠ p9 from (by omega)) (va .u8 x)
 replace hg1 := hg1.rowFar (show p10 ≠ g1 from (by omega)) (va .u8 x)
 replace hp10 := hp10.row (va .u8 x)
 replace hW := below_setRow hW lw_p10 (va .u8 x)
 generalize w4.setRow p10 (va .u8 x) = w5 at *
 refine nilL ?_
 go_upto_region 4 with fail
 refine wl_lit ?_
 refine runL 6 (.int .i64 0) rfl (by rfl) (by go_simp) ?_
 simp only [Ls]
 refine nilL ?_
 go_wp2_with fail
 go_ret
 exact ⟨rfl, hp10, hW⟩
set_option maxRecDepth 8000 in
set_option maxHeartbeats 4000000 in
theorem opc1_no (ke km : List Nat) (hel : ke.length = 16) (hml : km.length = 32) (_heb : Byt ke) (hmb : Byt km) (i s c : Nat) (d : List Nat) (hi : i < 4096) (hs : s < 4294967296) (hdl : d.length = 32) (hdb : Byt d) (tag : List Nat) (htl : tag.length = 32) (htb : Byt tag) (hv : ¬ hm km (msg i s c d) = tag) (B0 p5 p6 p7 p8 p9 p10 : Nat) (w : World) (gl : Hid (∀ W, Below B0 w W → Glob W)) (hp5 : Blk w p5 26 (va .u8 (ke ++ km))) (hp6 : Blk w p6 3 #[.int .i64 (i : Int)]) (hp7 : Blk w p7 30 (noV s c)) (hp8 : Blk w p8 33 (va .u8 d)) (hp9 : Blk w p9 45 (va .u8 tag)) (hp10 : Blk w p10 33 (va .u8 (List.replicate 32 0)))
  (lw_p10 : B0 ≤ p10) (_l56 : p5 < p6) (_l67 : p6 < p7) (_l78 : p7 < p8) (_l89 : p8 < p9) (_l90 : p9 < p10) :
  Calls Tryd.prog 32 #[.pointer (some ⟨p5, 0, none⟩), .pointer (some ⟨p6, 0, none⟩), .pointer (some ⟨p7, 0, none⟩), .pointer (some ⟨p8, 0, none⟩), .pointer (some ⟨p9, 0, none⟩), .pointer (some ⟨p10, 0, none⟩)] w fun e w' => e = .returned (.int .i64 9) ∧ Blk w' p10 33 (va .u8 (List.replicate 32 0)) ∧ Below B0 w w' := by
 have hvq := Lib.hid (decide_eq_false hv)
 clear hv
 have hW : Below B0 w w := Below.refl _ _
 have hB0 : B0 ≤ w.heap.size := by have := hp10.lt; omega
 go_enter Tryd.func32, Tryd.ntmps32
 go_upto_region 0 with fail
 refine wl_lit ?_
 refine runL 6 (.int .i64 0) rfl (by rfl) (by go_simp) ?_
 simp only [Ls]
 refine nilL ?_
 go_upto_region 1 with fail
 refine wp_region_held_drew (S := fun wr => Blk wr p5 26 (va .u8 (ke ++ km)) ∧ Blk wr p6 3 (#[.int .i64 (i : Int)]) ∧ Blk wr p7 30 (noV s c) ∧ Blk wr p8 33 (va .u8 d) ∧ Blk wr p9 45 (va .u8 tag) ∧ Blk wr p10 33 (va .u8 (List.replicate 32 0)) ∧ Below B0 w wr) (by kernel_rfl) ⟨hp5.drew, hp6.drew, hp7.drew, hp8.drew, hp9.drew, hp10.drew, below_drewN hW 1⟩ (fun hH => ?_)
 clear hp5 hp6 hp7 hp8 hp9 hp10 hW
 obtain ⟨hp5, hp6, hp7, hp8, hp9, hp10, hW⟩ := hH
 generalize w.drew = w1 at *
 refine takeH 8 0 7 (.pointer (some ⟨p5, 16, none⟩)) rfl rfl (by kernel_rfl) (by kernel_rfl) (by kernel_rfl) (fun _ _ _ h => h) (Or.inl ⟨by rfl, fun w _ => by go_simp⟩) ⟨hp5, hp6, hp7, hp8, hp9, hp10, hW⟩ ?_
 simp only [Ls]
 refine takeH 7 1 8 (.slice (some ⟨p5, 16, none⟩) 32 32) rfl rfl (by kernel_rfl) (by kernel_rfl) (by kernel_rfl) (fun _ _ _ h => h) (Or.inl ⟨by rfl, fun w _ => by go_simp⟩) ⟨hp5, hp6, hp7, hp8, hp9, hp10, hW⟩ ?_
 simp only [Ls]
 refine takeH 6 2 9 (.int .i64 (i : Int)) rfl rfl (by kernel_rfl) (by kernel_rfl) (by kernel_rfl) (fun _ _ _ h => h) (Or.inl ⟨by rfl, fun _ h => exec_cell 3 (.tmp 1) rfl p6 0 rfl (.int .i64 (i : Int)) _ Tryd.underlying3 rfl (h.2.1.cellIs 0 rfl)⟩) ⟨hp5, hp6, hp7, hp8, hp9, hp10, hW⟩ ?_
 simp only [Ls]
 refine takeH 5 3 10 (.agg (noV s c)) rfl rfl (by kernel_rfl) (by kernel_rfl) (by kernel_rfl) (fun _ _ _ h => h) (Or.inl ⟨by rfl, fun _ h => exec_row 30 (.tmp 2) rfl p7 rfl 30 (noV s c) _ h.2.2.1 (by exact Tryd.underlying30) rfl (noV_sz _ _)⟩) ⟨hp5, hp6, hp7, hp8, hp9, hp10, hW⟩ ?_
 simp only [Ls]
 refine takeH 4 4 11 (.agg (va .u8 d)) rfl rfl (by kernel_rfl) (by kernel_rfl) (by kernel_rfl) (fun _ _ _ h => h) (Or.inl ⟨by rfl, fun _ h => exec_row 33 (.tmp 3) rfl p8 rfl 33 (va .u8 d) _ h.2.2.2.1 (by exact Tryd.underlying33) rfl (sz_api_Block _ hdl)⟩) ⟨hp5, hp6, hp7, hp8, hp9, hp10, hW⟩ ?_
 simp only [Ls]
 refine takeH 3 6 13 (.agg (va .u8 tag)) rfl rfl (by kernel_rfl) (by kernel_rfl) (by kernel_rfl) (fun _ _ _ h => h) (Or.inl ⟨by rfl, fun _ h => exec_row 45 (.tmp 4) rfl p9 rfl 45 (va .u8 tag) _ h.2.2.2.2.1 (by exact Tryd.underlying45) rfl (sz_api_Digest _ htl)⟩) ⟨hp5, hp6, hp7, hp8, hp9, hp10, hW⟩ ?_
 simp only [Ls]
 refine wpAnyH_ready (by kernel_rfl) (by simp) (readyCons 2 5 12 rfl rfl (by rfl) (fun K hK => wp_callF 23 #[.int .i64 (i : Int), .agg (noV s c), .agg (va .u8 d)] (by go_simp) (smsg_any i s c d hi hs hdl hdb _) ?_) AllReadyH.nil)
 rintro e w2 ⟨g1, rfl, hg1, hgg, bx⟩
 have lp5_g1 : p5 < g1 := Nat.lt_of_lt_of_le hp5.lt hgg
 have lp6_g1 : p6 < g1 := Nat.lt_of_lt_of_le hp6.lt hgg
 have lp7_g1 : p7 < g1 := Nat.lt_of_lt_of_le hp7.lt hgg
 have lp8_g1 : p8 < g1 := Nat.lt_of_lt_of_le hp8.lt hgg
 have lp9_g1 : p9 < g1 := Nat.lt_of_lt_of_le hp9.lt hgg
 have lp10_g1 : p10 < g1 := Nat.lt_of_lt_of_le hp10.lt hgg
 have lw_g1 : B0 ≤ g1 := Nat.le_trans (Nat.le_trans hB0 hW.size) hgg
 replace hp5 := blB hp5 bx
 replace hp6 := blB hp6 bx
 replace hp7 := blB hp7 bx
 replace hp8 := blB hp8 bx
 replace hp9 := blB hp9 bx
 replace hp10 := blB hp10 bx
 replace hW := trB hW hB0 bx
 clear hgg
 clear bx
 refine ⟨_, rfl, hK.out _ _ ⟨hp5, hp6, hp7, hp8, hp9, hp10, hW⟩ (fun _ => ?_)⟩
 clear hK K
 simp only [Ls]
 refine wpAnyH_ready (by kernel_rfl) (by simp) (readyCons 1 7 14 rfl rfl (by rfl) (fun K hK => wp_callF 33 #[.slice (some ⟨p5, 16, none⟩) 32 32, .slice (some ⟨g1, 0, none⟩) 48 48, .agg (va .u8 tag)] (by go_simp) (verify_to km (msg i s c d) tag false hvq.out _ 32 32 _ _ 48 48 _ hmb (by decide) (by decide) (msg_byt hdb) (by decide) (by decide) htb htl _ (gl.out _ hW) (hp5.rightReads hel hml) hp5.lt (hg1.readsAll (Nat.lt_succ_self _) (msg_len hdl)) hg1.lt) ?_) AllReadyH.nil)
 rintro e w3 ⟨rfl, bx⟩
 replace hp5 := blB hp5 bx
 replace hp6 := blB hp6 bx
 replace hp7 := blB hp7 bx
 replace hp8 := blB hp8 bx
 replace hp9 := blB hp9 bx
 replace hp10 := blB hp10 bx
 replace hg1 := hg1.below bx hg1.lt
 replace hW := trB hW hB0 bx
 clear bx
 refine ⟨_, rfl, hK.out _ _ ⟨hp5, hp6, hp7, hp8, hp9, hp10, hW⟩ (fun _ => ?_)⟩
 clear hK K
 simp only [Ls]
 refine takeH 0 8 15 (.bool true) rfl rfl (by kernel_rfl) (by kernel_rfl) (by kernel_rfl) (fun _ _ _ h => h) (Or.inl ⟨by rfl, fun w _ => by go_simp⟩) ⟨hp5, hp6, hp7, hp8, hp9, hp10, hW⟩ ?_
 simp only [Ls]
 refine wpAnyH_done (by kernel_rfl) ?_ _
 go_upto_region 2 with fail
 refine wl_lit ?_
 refine runL 6 (.int .i64 9) rfl (by rfl) (by go_simp) ?_
 simp only [Ls]
 refine nilL ?_
 go_wp2_with fail
 go_ret
 exact ⟨rfl, hp10, hW⟩
set_option maxRecDepth 8000 in
set_option maxHeartbeats 4000000 in
theorem sopen_bad (ke km : List Nat) (_hel : ke.length = 16) (_hml : km.length = 32) (_heb : Byt ke) (_hmb : Byt km) (i : Int) (hi : i < 0 ∨ 4096 ≤ i) (s c : Nat) (d : List Nat) (_hdl : d.length = 32) (_hdb : Byt d) (tag : List Nat) (_htl : tag.length = 32) (_htb : Byt tag) (w : World) :
  Calls Tryd.prog 15 #[.agg (va .u8 (ke ++ km)), .int .i64 i, .agg (noV s c), .agg (va .u8 d), .agg (va .u8 tag)] w fun e w' => e = .returned (.tuple #[.agg (va .u8 (List.replicate 32 0)), .int .i64 1]) ∧ Below w.heap.size w w' := by
 obtain ⟨B0, hB0e, hW, hB0⟩ := stB w
 rw [hB0e]
 have hB0q := Lib.hid hB0e
 clear hB0e
 go_enter Tryd.func15, Tryd.ntmps15
 go_upto_region 0 with fail
 refine wl_lit ?_
 refine runWL 5 (.pointer (some ⟨w.heap.size, 0, none⟩)) (w.alloc (.cells (va .u8 (ke ++ km)) 26)) rfl (by rfl) (exec_box 26 (.tmp 0) rfl (.agg (va .u8 (ke ++ km))) rfl) ?_
 simp only [Ls]
 have lw_p5 := Nat.le_trans hB0 hW.size
 have hp5 := Blk.new w 26 (va .u8 (ke ++ km))
 replace hW := alB hW hB0 (.cells (va .u8 (ke ++ km)) 26)
 generalize w.alloc (.cells (va .u8 (ke ++ km)) 26) = w1 at *
 generalize w.heap.size = p5 at hp5 lw_p5  ⊢
 refine runWL 6 (.pointer (some ⟨w1.heap.size, 0, none⟩)) (w1.alloc (.cells (#[.int .i64 i]) 3)) rfl (by rfl) (exec_box 3 (.tmp 1) rfl (.int .i64 i) rfl) ?_
 simp only [Ls]
 have lp5_p6 := hp5.lt
 have lw_p6 := Nat.le_trans hB0 hW.size
 have hp6 := Blk.new w1 3 (#[.int .i64 i])
 have bx := bAl w1 (.cells (#[.int .i64 i]) 3)
 replace hp5 := blB hp5 bx
 replace hW := trB hW hB0 bx
 clear bx
 generalize w1.alloc (.cells (#[.int .i64 i]) 3) = w2 at *
 generalize w1.heap.size = p6 at hp6 lw_p6 lp5_p6 ⊢
 refine runWL 7 (.pointer (some ⟨w2.heap.size, 0, none⟩)) (w2.alloc (.cells (noV s c) 30)) rfl (by rfl) (exec_box 30 (.tmp 2) rfl (.agg (noV s c)) rfl) ?_
 simp only [Ls]
 have lp5_p7 := hp5.lt
 have lp6_p7 := hp6.lt
 have lw_p7 := Nat.le_trans hB0 hW.size
 have hp7 := Blk.new w2 30 (noV s c)
 have bx := bAl w2 (.cells (noV s c) 30)
 replace hp5 := blB hp5 bx
 replace hp6 := blB hp6 bx
 replace hW := trB hW hB0 bx
 clear bx
 generalize w2.alloc (.cells (noV s c) 30) = w3 at *
 generalize w2.heap.size = p7 at hp7 lw_p7 lp5_p7 lp6_p7 ⊢
 refine runWL 8 (.pointer (some ⟨w3.heap.size, 0, none⟩)) (w3.alloc (.cells (va .u8 d) 33)) rfl (by rfl) (exec_box 33 (.tmp 3) rfl (.agg (va .u8 d)) rfl) ?_
 simp only [Ls]
 have lp5_p8 := hp5.lt
 have lp6_p8 := hp6.lt
 have lp7_p8 := hp7.lt
 have lw_p8 := Nat.le_trans hB0 hW.size
 have hp8 := Blk.new w3 33 (va .u8 d)
 have bx := bAl w3 (.cells (va .u8 d) 33)
 replace hp5 := blB hp5 bx
 replace hp6 := blB hp6 bx
 replace hp7 := blB hp7 bx
 replace hW := trB hW hB0 bx
 clear bx
 generalize w3.alloc (.cells (va .u8 d) 33) = w4 at *
 generalize w3.heap.size = p8 at hp8 lw_p8 lp5_p8 lp6_p8 lp7_p8 ⊢
 refine runWL 9 (.pointer (some ⟨w4.heap.size, 0, none⟩)) (w4.alloc (.cells (va .u8 tag) 45)) rfl (by rfl) (exec_box 45 (.tmp 4) rfl (.agg (va .u8 tag)) rfl) ?_
 simp only [Ls]
 have lp5_p9 := hp5.lt
 have lp6_p9 := hp6.lt
 have lp7_p9 := hp7.lt
 have lp8_p9 := hp8.lt
 have lw_p9 := Nat.le_trans hB0 hW.size
 have hp9 := Blk.new w4 45 (va .u8 tag)
 have bx := bAl w4 (.cells (va .u8 tag) 45)
 replace hp5 := blB hp5 bx
 replace hp6 := blB hp6 bx
 replace hp7 := blB hp7 bx
 replace hp8 := blB hp8 bx
 replace hW := trB hW hB0 bx
 clear bx
 generalize w4.alloc (.cells (va .u8 tag) 45) = w5 at *
 generalize w4.heap.size = p9 at hp9 lw_p9 lp5_p9 lp6_p9 lp7_p9 lp8_p9 ⊢
 refine runWL 10 (.pointer (some ⟨w5.heap.size, 0, none⟩)) (w5.alloc (.cells (va .u8 (List.replicate 32 0)) 33)) rfl (by rfl) (exec_allocV 33 rfl _ (zv_api_Block _)) ?_
 simp only [Ls]
 have lp5_p10 := hp5.lt
 have lp6_p10 := hp6.lt
 have lp7_p10 := hp7.lt
 have lp8_p10 := hp8.lt
 have lp9_p10 := hp9.lt
 have lw_p10 := Nat.le_trans hB0 hW.size
 have hp10 := Blk.new w5 33 (va .u8 (List.replicate 32 0))
 have bx := bAl w5 (.cells (va .u8 (List.replicate 32 0)) 33)
 replace hp5 := blB hp5 bx
 replace hp6 := blB hp6 bx
 replace hp7 := blB hp7 bx
 replace hp8 := blB hp8 bx
 replace hp9 := blB hp9 bx
 replace hW := trB hW hB0 bx
 clear bx
 generalize w5.alloc (.cells (va .u8 (List.replicate 32 0)) 33) = w6 at *
 generalize w5.heap.size = p10 at hp10 lw_p10 lp5_p10 lp6_p10 lp7_p10 lp8_p10 lp9_p10 ⊢
 refine runL 11 (.int .i64 0) rfl (by rfl) (by go_simp) ?_
 simp only [Ls]
 refine nilL ?_
 go_upto_region 1 with fail
 refine wl_lit ?_
 refine runL 12 (.int .i64 i) rfl (by rfl) (exec_cell 3 (.tmp 6) rfl p6 0 rfl (.int .i64 i) _ Tryd.underlying3 rfl (hp6.cellIs 0 rfl)) ?_
 refine runL 13 (.func (.func 32) #[] #[.pointer (some ⟨p5, 0, none⟩), .pointer (some ⟨p6, 0, none⟩), .pointer (some ⟨p7, 0, none⟩), .pointer (some ⟨p8, 0, none⟩), .pointer (some ⟨p9, 0, none⟩), .pointer (some ⟨p10, 0, none⟩)]) rfl (by rfl) (exec_makeFunc _ _ rfl _ rfl) ?_
 simp only [Ls]
 refine callL 14 rfl (by rfl) (fun K hK => wp_callF 21 #[.int .i64 i, .func (.func 32) #[] #[.pointer (some ⟨p5, 0, none⟩), .pointer (some ⟨p6, 0, none⟩), .pointer (some ⟨p7, 0, none⟩), .pointer (some ⟨p8, 0, none⟩), .pointer (some ⟨p9, 0, none⟩), .pointer (some ⟨p10, 0, none⟩)]] (by go_simp) (indexed_bad i hi _ _) ?_)
 rintro e w7 ⟨rfl, bx⟩
 replace hp5 := blB hp5 bx
 replace hp6 := blB hp6 bx
 replace hp7 := blB hp7 bx
 replace hp8 := blB hp8 bx
 replace hp9 := blB hp9 bx
 replace hp10 := blB hp10 bx
 replace hW := trB hW hB0 bx
 clear bx
 refine ⟨_, rfl, hK.out _ _ ?_⟩
 clear hK K
 refine runL 11 (.int .i64 1) rfl (by rfl) (by go_simp) ?_
 simp only [Ls]
 refine nilL ?_
 go_upto_region 2 with fail
 refine wl_lit ?_
 refine runL 15 (.agg (va .u8 (List.replicate 32 0))) rfl (by rfl) (exec_row 33 (.tmp 10) rfl p10 rfl 33 (va .u8 (List.replicate 32 0)) _ hp10 (by exact Tryd.underlying33) rfl (sz_api_Block _ (List.length_replicate))) ?_
 refine runL 16 (.int .i64 1) rfl (by rfl) (by go_simp) ?_
 simp only [Ls]
 refine runSL (w7.setRow p10 (va .u8 (List.replicate 32 0))) rfl (by rfl) (exec_storeRow 33 (.tmp 10) (.tmp 15) rfl p10 rfl (va .u8 (List.replicate 32 0)) rfl 33 (va .u8 (List.replicate 32 0)) hp10 (sz_eq (sz_api_Block _ (List.length_replicate)) (sz_api_Block _ (List.length_replicate))) (sz_api_Block _ (List.length_replicate)) (va_ones .u8 _)) ?_
 replace hp5 := hp5.rowFar (show p10 ≠ p5 from (by omega)) (va .u8 (List.replicate 32 0))
 replace hp6 := hp6.rowFar (show p10 ≠ p6 from (by omega)) (va .u8 (List.replicate 32 0))
 replace hp7 := hp7.rowFar (show p10 ≠ p7 from (by omega)) (va .u8 (List.replicate 32 0))
 replace hp8 := hp8.rowFar (show p10 ≠ p8 from (by omega)) (va .u8 (List.replicate 32 0))
 replace hp9 := hp9.rowFar (show p10 ≠ p9 from (by omega)) (va .u8 (List.replicate 32 0))
 replace hp10 := hp10.row (va .u8 (List.replicate 32 0))
 replace hW := below_setRow hW lw_p10 (va .u8 (List.replicate 32 0))
 generalize w7.setRow p10 (va .u8 (List.replicate 32 0)) = w8 at *
 refine runL 11 (.int .i64 1) rfl (by rfl) (by go_simp) ?_
 simp only [Ls]
 refine nilL ?_
 go_wp2_with fail
 exact bodyPost_ret (results_row_tmp rfl _ _ p10 33 (va .u8 (List.replicate 32 0)) _ (.int .i64 1) rfl hp10 (by exact Tryd.underlying33) rfl (sz_api_Block _ (List.length_replicate)) rfl) rfl ⟨rfl, hW⟩
set_option maxRecDepth 8000 in
set_option maxHeartbeats 4000000 in
theorem sopen_ok (ke km : List Nat) (hel : ke.length = 16) (hml : km.length = 32) (heb : Byt ke) (hmb : Byt km) (i s c : Nat) (d : List Nat) (hi : i < 4096) (hs : s < 4294967296) (hdl : d.length = 32) (hdb : Byt d) (tag : List Nat) (htl : tag.length = 32) (htb : Byt tag) (hv : hm km (msg i s c d) = tag) (x : List Nat) (hx : kxor ke s c 0 d = x) (hxl : x.length = 32) (hxb : Byt x) (w : World) (hg : Glob w) :
  Calls Tryd.prog 15 #[.agg (va .u8 (ke ++ km)), .int .i64 (i : Int), .agg (noV s c), .agg (va .u8 d), .agg (va .u8 tag)] w fun e w' => e = .returned (.tuple #[.agg (va .u8 x), .int .i64 0]) ∧ Below w.heap.size w w' := by
 have hxq := Lib.hid hx
 have hvq := Lib.hid hv
 clear hx hv
 obtain ⟨B0, hB0e, hW, hB0⟩ := stB w
 rw [hB0e]
 have gl := glob_of hg hB0e
 clear hg
 have hB0q := Lib.hid hB0e
 clear hB0e
 go_enter Tryd.func15, Tryd.ntmps15
 go_upto_region 0 with fail
 refine wl_lit ?_
 refine runWL 5 (.pointer (some ⟨w.heap.size, 0, none⟩)) (w.alloc (.cells (va .u8 (ke ++ km)) 26)) rfl (by rfl) (exec_box 26 (.tmp 0) rfl (.agg (va .u8 (ke ++ km))) rfl) ?_
 simp only [Ls]
 have lw_p5 := Nat.le_trans hB0 hW.size
 have hp5 := Blk.new w 26 (va .u8 (ke ++ km))
 replace hW := alB hW hB0 (.cells (va .u8 (ke ++ km)) 26)
 generalize w.alloc (.cells (va .u8 (ke ++ km)) 26) = w1 at *
 generalize w.heap.size = p5 at hp5 lw_p5  ⊢
 refine runWL 6 (.pointer (some ⟨w1.heap.size, 0, none⟩)) (w1.alloc (.cells (#[.int .i64 (i : Int)]) 3)) rfl (by rfl) (exec_box 3 (.tmp 1) rfl (.int .i64 (i : Int)) rfl) ?_
 simp only [Ls]
 have lp5_p6 := hp5.lt
 have lw_p6 := Nat.le_trans hB0 hW.size
 have hp6 := Blk.new w1 3 (#[.int .i64 (i : Int)])
 have bx := bAl w1 (.cells (#[.int .i64 (i : Int)]) 3)
 replace hp5 := blB hp5 bx
 replace hW := trB hW hB0 bx
 clear bx
 generalize w1.alloc (.cells (#[.int .i64 (i : Int)]) 3) = w2 at *
 generalize w1.heap.size = p6 at hp6 lw_p6 lp5_p6 ⊢
 refine runWL 7 (.pointer (some ⟨w2.heap.size, 0, none⟩)) (w2.alloc (.cells (noV s c) 30)) rfl (by rfl) (exec_box 30 (.tmp 2) rfl (.agg (noV s c)) rfl) ?_
 simp only [Ls]
 have lp5_p7 := hp5.lt
 have lp6_p7 := hp6.lt
 have lw_p7 := Nat.le_trans hB0 hW.size
 have hp7 := Blk.new w2 30 (noV s c)
 have bx := bAl w2 (.cells (noV s c) 30)
 replace hp5 := blB hp5 bx
 replace hp6 := blB hp6 bx
 replace hW := trB hW hB0 bx
 clear bx
 generalize w2.alloc (.cells (noV s c) 30) = w3 at *
 generalize w2.heap.size = p7 at hp7 lw_p7 lp5_p7 lp6_p7 ⊢
 refine runWL 8 (.pointer (some ⟨w3.heap.size, 0, none⟩)) (w3.alloc (.cells (va .u8 d) 33)) rfl (by rfl) (exec_box 33 (.tmp 3) rfl (.agg (va .u8 d)) rfl) ?_
 simp only [Ls]
 have lp5_p8 := hp5.lt
 have lp6_p8 := hp6.lt
 have lp7_p8 := hp7.lt
 have lw_p8 := Nat.le_trans hB0 hW.size
 have hp8 := Blk.new w3 33 (va .u8 d)
 have bx := bAl w3 (.cells (va .u8 d) 33)
 replace hp5 := blB hp5 bx
 replace hp6 := blB hp6 bx
 replace hp7 := blB hp7 bx
 replace hW := trB hW hB0 bx
 clear bx
 generalize w3.alloc (.cells (va .u8 d) 33) = w4 at *
 generalize w3.heap.size = p8 at hp8 lw_p8 lp5_p8 lp6_p8 lp7_p8 ⊢
 refine runWL 9 (.pointer (some ⟨w4.heap.size, 0, none⟩)) (w4.alloc (.cells (va .u8 tag) 45)) rfl (by rfl) (exec_box 45 (.tmp 4) rfl (.agg (va .u8 tag)) rfl) ?_
 simp only [Ls]
 have lp5_p9 := hp5.lt
 have lp6_p9 := hp6.lt
 have lp7_p9 := hp7.lt
 have lp8_p9 := hp8.lt
 have lw_p9 := Nat.le_trans hB0 hW.size
 have hp9 := Blk.new w4 45 (va .u8 tag)
 have bx := bAl w4 (.cells (va .u8 tag) 45)
 replace hp5 := blB hp5 bx
 replace hp6 := blB hp6 bx
 replace hp7 := blB hp7 bx
 replace hp8 := blB hp8 bx
 replace hW := trB hW hB0 bx
 clear bx
 generalize w4.alloc (.cells (va .u8 tag) 45) = w5 at *
 generalize w4.heap.size = p9 at hp9 lw_p9 lp5_p9 lp6_p9 lp7_p9 lp8_p9 ⊢
 refine runWL 10 (.pointer (some ⟨w5.heap.size, 0, none⟩)) (w5.alloc (.cells (va .u8 (List.replicate 32 0)) 33)) rfl (by rfl) (exec_allocV 33 rfl _ (zv_api_Block _)) ?_
 simp only [Ls]
 have lp5_p10 := hp5.lt
 have lp6_p10 := hp6.lt
 have lp7_p10 := hp7.lt
 have lp8_p10 := hp8.lt
 have lp9_p10 := hp9.lt
 have lw_p10 := Nat.le_trans hB0 hW.size
 have hp10 := Blk.new w5 33 (va .u8 (List.replicate 32 0))
 have bx := bAl w5 (.cells (va .u8 (List.replicate 32 0)) 33)
 replace hp5 := blB hp5 bx
 replace hp6 := blB hp6 bx
 replace hp7 := blB hp7 bx
 replace hp8 := blB hp8 bx
 replace hp9 := blB hp9 bx
 replace hW := trB hW hB0 bx
 clear bx
 generalize w5.alloc (.cells (va .u8 (List.replicate 32 0)) 33) = w6 at *
 generalize w5.heap.size = p10 at hp10 lw_p10 lp5_p10 lp6_p10 lp7_p10 lp8_p10 lp9_p10 ⊢
 refine runL 11 (.int .i64 0) rfl (by rfl) (by go_simp) ?_
 simp only [Ls]
 refine nilL ?_
 go_upto_region 1 with fail
 refine wl_lit ?_
 refine runL 12 (.int .i64 (i : Int)) rfl (by rfl) (exec_cell 3 (.tmp 6) rfl p6 0 rfl (.int .i64 (i : Int)) _ Tryd.underlying3 rfl (hp6.cellIs 0 rfl)) ?_
 refine runL 13 (.func (.func 32) #[] #[.pointer (some ⟨p5, 0, none⟩), .pointer (some ⟨p6, 0, none⟩), .pointer (some ⟨p7, 0, none⟩), .pointer (some ⟨p8, 0, none⟩), .pointer (some ⟨p9, 0, none⟩), .pointer (some ⟨p10, 0, none⟩)]) rfl (by rfl) (exec_makeFunc _ _ rfl _ rfl) ?_
 simp only [Ls]
 refine callL 14 rfl (by rfl) (fun K hK => wp_callF 21 #[.int .i64 (i : Int), .func (.func 32) #[] #[.pointer (some ⟨p5, 0, none⟩), .pointer (some ⟨p6, 0, none⟩), .pointer (some ⟨p7, 0, none⟩), .pointer (some ⟨p8, 0, none⟩), .pointer (some ⟨p9, 0, none⟩), .pointer (some ⟨p10, 0, none⟩)]] (by go_simp) (indexed_ok i hi _ _ _ (by go_simp) (R := fun v w' => v = .int .i64 0 ∧ Blk w' p10 33 (va .u8 x) ∧ Below B0 _ w') ((opc1_ok ke km hel hml heb hmb i s c d hi hs hdl hdb tag htl htb hvq.out x hxq.out hxl hxb B0 p5 p6 p7 p8 p9 p10 _ (Lib.hid fun W h => gl.out W (hW.trans h)) hp5 hp6 hp7 hp8 hp9 hp10 lw_p10 (by omega) (by omega) (by omega) (by omega) (by omega)).mono (by rintro e w' ⟨rfl, h⟩; exact ⟨_, rfl, rfl, h⟩))) ?_)
 clear hp5 hp6 hp7 hp8 hp9 hp10
 rintro e w7 ⟨_, rfl, rfl, hp10, bx⟩
 replace hW := hW.trans bx
 clear bx
 refine ⟨_, rfl, hK.out _ _ ?_⟩
 clear hK K
 refine runL 11 (.int .i64 0) rfl (by rfl) (by go_simp) ?_
 simp only [Ls]
 refine nilL ?_
 go_upto_region 2 with fail
 refine wl_lit ?_
 refine runL 15 (.agg (va .u8 x)) rfl (by rfl) (exec_row 33 (.tmp 10) rfl p10 rfl 33 (va .u8 x) _ hp10 (by exact Tryd.underlying33) rfl (sz_api_Block _ hxl)) ?_
 refine runL 16 (.int .i64 0) rfl (by rfl) (by go_simp) ?_
 simp only [Ls]
 refine runSL (w7.setRow p10 (va .u8 x)) rfl (by rfl) (exec_storeRow 33 (.tmp 10) (.tmp 15) rfl p10 rfl (va .u8 x) rfl 33 (va .u8 x) hp10 (sz_eq (sz_api_Block _ hxl) (sz_api_Block _ hxl)) (sz_api_Block _ hxl) (va_ones .u8 _)) ?_
 replace hp10 := hp10.row (va .u8 x)
 replace hW := below_setRow hW lw_p10 (va .u8 x)
 generalize w7.setRow p10 (va .u8 x) = w8 at *
 refine runL 11 (.int .i64 0) rfl (by rfl) (by go_simp) ?_
 simp only [Ls]
 refine nilL ?_
 go_wp2_with fail
 exact bodyPost_ret (results_row_tmp rfl _ _ p10 33 (va .u8 x) _ (.int .i64 0) rfl hp10 (by exact Tryd.underlying33) rfl (sz_api_Block _ hxl) rfl) rfl ⟨rfl, hW⟩
set_option maxRecDepth 8000 in
set_option maxHeartbeats 4000000 in
theorem sopen_no (ke km : List Nat) (hel : ke.length = 16) (hml : km.length = 32) (heb : Byt ke) (hmb : Byt km) (i s c : Nat) (d : List Nat) (hi : i < 4096) (hs : s < 4294967296) (hdl : d.length = 32) (hdb : Byt d) (tag : List Nat) (htl : tag.length = 32) (htb : Byt tag) (hv : ¬ hm km (msg i s c d) = tag) (w : World) (hg : Glob w) :
  Calls Tryd.prog 15 #[.agg (va .u8 (ke ++ km)), .int .i64 (i : Int), .agg (noV s c), .agg (va .u8 d), .agg (va .u8 tag)] w fun e w' => e = .returned (.tuple #[.agg (va .u8 (List.replicate 32 0)), .int .i64 9]) ∧ Below w.heap.size w w' := by
 have hvq := Lib.hid hv
 clear hv
 obtain ⟨B0, hB0e, hW, hB0⟩ := stB w
 rw [hB0e]
 have gl := glob_of hg hB0e
 clear hg
 have hB0q := Lib.hid hB0e
 clear hB0e
 go_enter Tryd.func15, Tryd.ntmps15
 go_upto_region 0 with fail
 refine wl_lit ?_
 refine runWL 5 (.pointer (some ⟨w.heap.size, 0, none⟩)) (w.alloc (.cells (va .u8 (ke ++ km)) 26)) rfl (by rfl) (exec_box 26 (.tmp 0) rfl (.agg (va .u8 (ke ++ km))) rfl) ?_
 simp only [Ls]
 have lw_p5 := Nat.le_trans hB0 hW.size
 have hp5 := Blk.new w 26 (va .u8 (ke ++ km))
 replace hW := alB hW hB0 (.cells (va .u8 (ke ++ km)) 26)
 generalize w.alloc (.cells (va .u8 (ke ++ km)) 26) = w1 at *
 generalize w.heap.size = p5 at hp5 lw_p5  ⊢
 refine runWL 6 (.pointer (some ⟨w1.heap.size, 0, none⟩)) (w1.alloc (.cells (#[.int .i64 (i : Int)]) 3)) rfl (by rfl) (exec_box 3 (.tmp 1) rfl (.int .i64 (i : Int)) rfl) ?_
 simp only [Ls]
 have lp5_p6 := hp5.lt
 have lw_p6 := Nat.le_trans hB0 hW.size
 have hp6 := Blk.new w1 3 (#[.int .i64 (i : Int)])
 have bx := bAl w1 (.cells (#[.int .i64 (i : Int)]) 3)
 replace hp5 := blB hp5 bx
 replace hW := trB hW hB0 bx
 clear bx
 generalize w1.alloc (.cells (#[.int .i64 (i : Int)]) 3) = w2 at *
 generalize w1.heap.size = p6 at hp6 lw_p6 lp5_p6 ⊢
 refine runWL 7 (.pointer (some ⟨w2.heap.size, 0, none⟩)) (w2.alloc (.cells (noV s c) 30)) rfl (by rfl) (exec_box 30 (.tmp 2) rfl (.agg (noV s c)) rfl) ?_
 simp only [Ls]
 have lp5_p7 := hp5.lt
 have lp6_p7 := hp6.lt
 have lw_p7 := Nat.le_trans hB0 hW.size
 have hp7 := Blk.new w2 30 (noV s c)
 have bx := bAl w2 (.cells (noV s c) 30)
 replace hp5 := blB hp5 bx
 replace hp6 := blB hp6 bx
 replace hW := trB hW hB0 bx
 clear bx
 generalize w2.alloc (.cells (noV s c) 30) = w3 at *
 generalize w2.heap.size = p7 at hp7 lw_p7 lp5_p7 lp6_p7 ⊢
 refine runWL 8 (.pointer (some ⟨w3.heap.size, 0, none⟩)) (w3.alloc (.cells (va .u8 d) 33)) rfl (by rfl) (exec_box 33 (.tmp 3) rfl (.agg (va .u8 d)) rfl) ?_
 simp only [Ls]
 have lp5_p8 := hp5.lt
 have lp6_p8 := hp6.lt
 have lp7_p8 := hp7.lt
 have lw_p8 := Nat.le_trans hB0 hW.size
 have hp8 := Blk.new w3 33 (va .u8 d)
 have bx := bAl w3 (.cells (va .u8 d) 33)
 replace hp5 := blB hp5 bx
 replace hp6 := blB hp6 bx
 replace hp7 := blB hp7 bx
 replace hW := trB hW hB0 bx
 clear bx
 generalize w3.alloc (.cells (va .u8 d) 33) = w4 at *
 generalize w3.heap.size = p8 at hp8 lw_p8 lp5_p8 lp6_p8 lp7_p8 ⊢
 refine runWL 9 (.pointer (some ⟨w4.heap.size, 0, none⟩)) (w4.alloc (.cells (va .u8 tag) 45)) rfl (by rfl) (exec_box 45 (.tmp 4) rfl (.agg (va .u8 tag)) rfl) ?_
 simp only [Ls]
 have lp5_p9 := hp5.lt
 have lp6_p9 := hp6.lt
 have lp7_p9 := hp7.lt
 have lp8_p9 := hp8.lt
 have lw_p9 := Nat.le_trans hB0 hW.size
 have hp9 := Blk.new w4 45 (va .u8 tag)
 have bx := bAl w4 (.cells (va .u8 tag) 45)
 replace hp5 := blB hp5 bx
 replace hp6 := blB hp6 bx
 replace hp7 := blB hp7 bx
 replace hp8 := blB hp8 bx
 replace hW := trB hW hB0 bx
 clear bx
 generalize w4.alloc (.cells (va .u8 tag) 45) = w5 at *
 generalize w4.heap.size = p9 at hp9 lw_p9 lp5_p9 lp6_p9 lp7_p9 lp8_p9 ⊢
 refine runWL 10 (.pointer (some ⟨w5.heap.size, 0, none⟩)) (w5.alloc (.cells (va .u8 (List.replicate 32 0)) 33)) rfl (by rfl) (exec_allocV 33 rfl _ (zv_api_Block _)) ?_
 simp only [Ls]
 have lp5_p10 := hp5.lt
 have lp6_p10 := hp6.lt
 have lp7_p10 := hp7.lt
 have lp8_p10 := hp8.lt
 have lp9_p10 := hp9.lt
 have lw_p10 := Nat.le_trans hB0 hW.size
 have hp10 := Blk.new w5 33 (va .u8 (List.replicate 32 0))
 have bx := bAl w5 (.cells (va .u8 (List.replicate 32 0)) 33)
 replace hp5 := blB hp5 bx
 replace hp6 := blB hp6 bx
 replace hp7 := blB hp7 bx
 replace hp8 := blB hp8 bx
 replace hp9 := blB hp9 bx
 replace hW := trB hW hB0 bx
 clear bx
 generalize w5.alloc (.cells (va .u8 (List.replicate 32 0)) 33) = w6 at *
 generalize w5.heap.size = p10 at hp10 lw_p10 lp5_p10 lp6_p10 lp7_p10 lp8_p10 lp9_p10 ⊢
 refine runL 11 (.int .i64 0) rfl (by rfl) (by go_simp) ?_
 simp only [Ls]
 refine nilL ?_
 go_upto_region 1 with fail
 refine wl_lit ?_
 refine runL 12 (.int .i64 (i : Int)) rfl (by rfl) (exec_cell 3 (.tmp 6) rfl p6 0 rfl (.int .i64 (i : Int)) _ Tryd.underlying3 rfl (hp6.cellIs 0 rfl)) ?_
 refine runL 13 (.func (.func 32) #[] #[.pointer (some ⟨p5, 0, none⟩), .pointer (some ⟨p6, 0, none⟩), .pointer (some ⟨p7, 0, none⟩), .pointer (some ⟨p8, 0, none⟩), .pointer (some ⟨p9, 0, none⟩), .pointer (some ⟨p10, 0, none⟩)]) rfl (by rfl) (exec_makeFunc _ _ rfl _ rfl) ?_
 simp only [Ls]
 refine callL 14 rfl (by rfl) (fun K hK => wp_callF 21 #[.int .i64 (i : Int), .func (.func 32) #[] #[.pointer (some ⟨p5, 0, none⟩), .pointer (some ⟨p6, 0, none⟩), .pointer (some ⟨p7, 0, none⟩), .pointer (some ⟨p8, 0, none⟩), .pointer (some ⟨p9, 0, none⟩), .pointer (some ⟨p10, 0, none⟩)]] (by go_simp) (indexed_ok i hi _ _ _ (by go_simp) (R := fun v w' => v = .int .i64 9 ∧ Blk w' p10 33 (va .u8 (List.replicate 32 0)) ∧ Below B0 _ w') ((opc1_no ke km hel hml heb hmb i s c d hi hs hdl hdb tag htl htb hvq.out B0 p5 p6 p7 p8 p9 p10 _ (Lib.hid fun W h => gl.out W (hW.trans h)) hp5 hp6 hp7 hp8 hp9 hp10 lw_p10 (by omega) (by omega) (by omega) (by omega) (by omega)).mono (by rintro e w' ⟨rfl, h⟩; exact ⟨_, rfl, rfl, h⟩))) ?_)
 clear hp5 hp6 hp7 hp8 hp9 hp10
 rintro e w7 ⟨_, rfl, rfl, hp10, bx⟩
 replace hW := hW.trans bx
 clear bx
 refine ⟨_, rfl, hK.out _ _ ?_⟩
 clear hK K
 refine runL 11 (.int .i64 9) rfl (by rfl) (by go_simp) ?_
 simp only [Ls]
 refine nilL ?_
 go_upto_region 2 with fail
 refine wl_lit ?_
 refine runL 15 (.agg (va .u8 (List.replicate 32 0))) rfl (by rfl) (exec_row 33 (.tmp 10) rfl p10 rfl 33 (va .u8 (List.replicate 32 0)) _ hp10 (by exact Tryd.underlying33) rfl (sz_api_Block _ (List.length_replicate))) ?_
 refine runL 16 (.int .i64 9) rfl (by rfl) (by go_simp) ?_
 simp only [Ls]
 refine runSL (w7.setRow p10 (va .u8 (List.replicate 32 0))) rfl (by rfl) (exec_storeRow 33 (.tmp 10) (.tmp 15) rfl p10 rfl (va .u8 (List.replicate 32 0)) rfl 33 (va .u8 (List.replicate 32 0)) hp10 (sz_eq (sz_api_Block _ (List.length_replicate)) (sz_api_Block _ (List.length_replicate))) (sz_api_Block _ (List.length_replicate)) (va_ones .u8 _)) ?_
 replace hp10 := hp10.row (va .u8 (List.replicate 32 0))
 replace hW := below_setRow hW lw_p10 (va .u8 (List.replicate 32 0))
 generalize w7.setRow p10 (va .u8 (List.replicate 32 0)) = w8 at *
 refine runL 11 (.int .i64 9) rfl (by rfl) (by go_simp) ?_
 simp only [Ls]
 refine nilL ?_
 go_wp2_with fail
 exact bodyPost_ret (results_row_tmp rfl _ _ p10 33 (va .u8 (List.replicate 32 0)) _ (.int .i64 9) rfl hp10 (by exact Tryd.underlying33) rfl (sz_api_Block _ (List.length_replicate)) rfl) rfl ⟨rfl, hW⟩
end Go.Proofs.YtcfddmplnoknlaaDoor
