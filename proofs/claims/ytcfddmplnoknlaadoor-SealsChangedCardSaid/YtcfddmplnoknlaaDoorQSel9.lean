/-
  The walk of caissonlaw09.SealsChanged. (Printed by mkseal09c.py.)
-/
import Derived.Test.YtcfddmplnoknlaaDoorQSel8
namespace Go.Proofs.YtcfddmplnoknlaaDoor
set_option maxRecDepth 16384
open Go.RowKit Sh

set_option maxRecDepth 8000 in
set_option maxHeartbeats 4000000 in
theorem lawSChg_any (ke km : List Nat) (hel : ke.length = 16) (hml : km.length = 32) (heb : Byt ke) (hmb : Byt km) (i : Int) (s c : Nat) (hs : s < 4294967296) (hc : c < 18446744073709551616) (d : List Nat) (hdl : d.length = 32) (hdb : Byt d) (a b e : Nat) (ha : a < 256) (hb : b < 256) (he : e < 256) (w : World) (hg : Glob w) :
  Calls Tryd.prog 6 #[.agg (sV ke km i s c), .agg (va .u8 d), .agg (va .u8 [a, b, e])] w fun e' w' => e' = .returned (.bool true) ∧ Below w.heap.size w w' := by
 obtain ⟨B0, hB0e⟩ : ∃ b, w.heap.size = b := ⟨_, rfl⟩
 rw [hB0e]
 have hW : Below B0 w w := by rw [← hB0e]; exact Below.refl _ _
 have hB0 : B0 ≤ w.heap.size := by omega
 have gl := glob_of hg hB0e
 clear hg
 have hB0q := Lib.hid hB0e
 clear hB0e
 obtain ⟨z, hz⟩ : ∃ z, List.replicate 32 0 = z := ⟨_, rfl⟩
 have hzl : z.length = 32 := by rw [← hz]; exact List.length_replicate
 have hzb : Byt z := by rw [← hz]; exact Byt.rep _ _ (by omega)
 have hzq := Lib.hid hz
 clear hz
 by_cases hi : i < 0 ∨ 4096 ≤ i
 ·
  go_enter Tryd.func6, Tryd.ntmps6
  go_upto_region 0 with fail
  refine wl_lit ?_
  refine runWL 3 (.pointer (some ⟨w.heap.size, 0, none⟩)) (w.alloc (.cells (sV ke km i s c) 32)) rfl (by rfl) (exec_box 32 (.tmp 0) rfl (.agg (sV ke km i s c)) rfl) ?_
  simp only [ls0, ls1]
  have lw_p3 := Nat.le_trans hB0 hW.size
  have hp3 : Blk (w.alloc (.cells (sV ke km i s c) 32)) w.heap.size 32 (sV ke km i s c) := Blk.new _ _ _
  replace hW := hW.alloc (Nat.le_trans hB0 hW.size) (.cells (sV ke km i s c) 32)
  generalize w.alloc (.cells (sV ke km i s c) 32) = w1 at *
  generalize w.heap.size = p3 at hp3 lw_p3  ⊢
  refine runWL 4 (.pointer (some ⟨w1.heap.size, 0, none⟩)) (w1.alloc (.cells (va .u8 (d)) 33)) rfl (by rfl) (exec_box 33 (.tmp 1) rfl (.agg (va .u8 (d))) rfl) ?_
  simp only [ls0, ls1]
  have lp3_p4 := hp3.lt
  have lw_p4 := Nat.le_trans hB0 hW.size
  have hp4 : Blk (w1.alloc (.cells (va .u8 (d)) 33)) w1.heap.size 33 (va .u8 (d)) := Blk.new _ _ _
  replace hp3 := hp3.alloc (.cells (va .u8 (d)) 33)
  replace hW := hW.alloc (Nat.le_trans hB0 hW.size) (.cells (va .u8 (d)) 33)
  generalize w1.alloc (.cells (va .u8 (d)) 33) = w2 at *
  generalize w1.heap.size = p4 at hp4 lw_p4 lp3_p4 ⊢
  refine runWL 5 (.pointer (some ⟨w2.heap.size, 0, none⟩)) (w2.alloc (.cells (va .u8 ([a, b, e])) 56)) rfl (by rfl) (exec_box 56 (.tmp 2) rfl (.agg (va .u8 ([a, b, e]))) rfl) ?_
  simp only [ls0, ls1]
  have lp3_p5 := hp3.lt
  have lp4_p5 := hp4.lt
  have lw_p5 := Nat.le_trans hB0 hW.size
  have hp5 : Blk (w2.alloc (.cells (va .u8 ([a, b, e])) 56)) w2.heap.size 56 (va .u8 ([a, b, e])) := Blk.new _ _ _
  replace hp3 := hp3.alloc (.cells (va .u8 ([a, b, e])) 56)
  replace hp4 := hp4.alloc (.cells (va .u8 ([a, b, e])) 56)
  replace hW := hW.alloc (Nat.le_trans hB0 hW.size) (.cells (va .u8 ([a, b, e])) 56)
  generalize w2.alloc (.cells (va .u8 ([a, b, e])) 56) = w3 at *
  generalize w2.heap.size = p5 at hp5 lw_p5 lp3_p5 lp4_p5 ⊢
  refine runL 6 (.bool false) rfl (by rfl) (by go_simp) ?_
  simp only [ls0, ls1]
  refine nilL ?_
  go_upto_region 1 with fail
  refine wl_lit ?_
  refine runL 19 (.pointer (some ⟨p3, 48, none⟩)) rfl (by rfl) (by go_simp) ?_
  simp only [ls0, ls1]
  refine runL 20 (.int .i64 (i)) rfl (by rfl) (exec_cell 3 (.tmp 19) rfl p3 48 rfl (.int .i64 (i)) _ Tryd.underlying3 rfl (sV_idx hp3 hel hml)) ?_
  simp only [ls0, ls1]
  refine callL 21 rfl (by rfl) (fun K hK => wp_callF 10 #[.int .i64 (i)] (by go_simp) (bad_yes i hi _) ?_)
  rintro e w4 ⟨rfl, bx⟩
  replace hp3 := hp3.below bx hp3.lt
  replace hp4 := hp4.below bx hp4.lt
  replace hp5 := hp5.below bx hp5.lt
  replace hW := hW.trans (bx.mono (Nat.le_trans hB0 hW.size))
  clear bx
  refine ⟨_, rfl, hK.out _ _ ?_⟩
  clear hK K
  simp only [ls0, ls1]
  refine nilL ?_
  go_upto_region 2 with fail
  refine wl_lit ?_
  refine callL 22 rfl (by rfl) (fun K hK => wp_callF 8 #[] (by go_simp) (lives09_any _ (gl.out _ hW)) ?_)
  rintro e w5 ⟨rfl, bx⟩
  replace hp3 := hp3.below bx hp3.lt
  replace hp4 := hp4.below bx hp4.lt
  replace hp5 := hp5.below bx hp5.lt
  replace hW := hW.trans (bx.mono (Nat.le_trans hB0 hW.size))
  clear bx
  refine ⟨_, rfl, hK.out _ _ ?_⟩
  clear hK K
  simp only [ls0, ls1]
  refine runL 6 (.bool true) rfl (by rfl) (by go_simp) ?_
  simp only [ls0, ls1]
  refine nilL ?_
  go_wp2_with fail
  go_ret
  exact ⟨rfl, hW⟩
 obtain ⟨I, rfl⟩ : ∃ I : Nat, i = (I : Int) := ⟨i.toNat, by omega⟩
 have hI : I < 4096 := by omega
 obtain ⟨x, hx⟩ : ∃ x, kxor ke s c 0 d = x := ⟨_, rfl⟩
 obtain ⟨t, ht⟩ : ∃ y, hm km (msg I s c x) = y := ⟨_, rfl⟩
 have hxl : x.length = 32 := by rw [← hx, kxor_len, hdl]
 have hxb : Byt x := by rw [← hx]; exact kxor_byt heb hdb
 have htl : t.length = 32 := by rw [← ht]; exact hm_len _ _
 have htb : Byt t := by rw [← ht]; exact hm_byt _ _
 have hback : kxor ke s c 0 x = d := by rw [← hx, kxor_twice]
 have hxq := Lib.hid hx
 have htq := Lib.hid ht
 have hbq := Lib.hid hback
 clear hx ht hback
 obtain ⟨r, hr⟩ : ∃ r, a % 4 = r := ⟨_, rfl⟩
 have hr4 : r < 4 := by omega
 have hrI : (a : Int).tmod 4 = (r : Int) := by rw [Int.tmod_eq_emod_of_nonneg (by omega)]; omega
 have hrE : (a : Int) % 4 = (r : Int) := by omega
 go_enter Tryd.func6, Tryd.ntmps6
 go_upto_region 0 with fail
 refine wl_lit ?_
 refine runWL 3 (.pointer (some ⟨w.heap.size, 0, none⟩)) (w.alloc (.cells (sV ke km (I : Int) s c) 32)) rfl (by rfl) (exec_box 32 (.tmp 0) rfl (.agg (sV ke km (I : Int) s c)) rfl) ?_
 simp only [ls0, ls1]
 have lw_p3 := Nat.le_trans hB0 hW.size
 have hp3 : Blk (w.alloc (.cells (sV ke km (I : Int) s c) 32)) w.heap.size 32 (sV ke km (I : Int) s c) := Blk.new _ _ _
 replace hW := hW.alloc (Nat.le_trans hB0 hW.size) (.cells (sV ke km (I : Int) s c) 32)
 generalize w.alloc (.cells (sV ke km (I : Int) s c) 32) = w1 at *
 generalize w.heap.size = p3 at hp3 lw_p3  ⊢
 refine runWL 4 (.pointer (some ⟨w1.heap.size, 0, none⟩)) (w1.alloc (.cells (va .u8 (d)) 33)) rfl (by rfl) (exec_box 33 (.tmp 1) rfl (.agg (va .u8 (d))) rfl) ?_
 simp only [ls0, ls1]
 have lp3_p4 := hp3.lt
 have lw_p4 := Nat.le_trans hB0 hW.size
 have hp4 : Blk (w1.alloc (.cells (va .u8 (d)) 33)) w1.heap.size 33 (va .u8 (d)) := Blk.new _ _ _
 replace hp3 := hp3.alloc (.cells (va .u8 (d)) 33)
 replace hW := hW.alloc (Nat.le_trans hB0 hW.size) (.cells (va .u8 (d)) 33)
 generalize w1.alloc (.cells (va .u8 (d)) 33) = w2 at *
 generalize w1.heap.size = p4 at hp4 lw_p4 lp3_p4 ⊢
 refine runWL 5 (.pointer (some ⟨w2.heap.size, 0, none⟩)) (w2.alloc (.cells (va .u8 ([a, b, e])) 56)) rfl (by rfl) (exec_box 56 (.tmp 2) rfl (.agg (va .u8 ([a, b, e]))) rfl) ?_
 simp only [ls0, ls1]
 have lp3_p5 := hp3.lt
 have lp4_p5 := hp4.lt
 have lw_p5 := Nat.le_trans hB0 hW.size
 have hp5 : Blk (w2.alloc (.cells (va .u8 ([a, b, e])) 56)) w2.heap.size 56 (va .u8 ([a, b, e])) := Blk.new _ _ _
 replace hp3 := hp3.alloc (.cells (va .u8 ([a, b, e])) 56)
 replace hp4 := hp4.alloc (.cells (va .u8 ([a, b, e])) 56)
 replace hW := hW.alloc (Nat.le_trans hB0 hW.size) (.cells (va .u8 ([a, b, e])) 56)
 generalize w2.alloc (.cells (va .u8 ([a, b, e])) 56) = w3 at *
 generalize w2.heap.size = p5 at hp5 lw_p5 lp3_p5 lp4_p5 ⊢
 refine runL 6 (.bool false) rfl (by rfl) (by go_simp) ?_
 simp only [ls0, ls1]
 refine nilL ?_
 go_upto_region 1 with fail
 refine wl_lit ?_
 refine runL 19 (.pointer (some ⟨p3, 48, none⟩)) rfl (by rfl) (by go_simp) ?_
 simp only [ls0, ls1]
 refine runL 20 (.int .i64 (I : Int)) rfl (by rfl) (exec_cell 3 (.tmp 19) rfl p3 48 rfl (.int .i64 (I : Int)) _ Tryd.underlying3 rfl (sV_idx hp3 hel hml)) ?_
 simp only [ls0, ls1]
 refine callL 21 rfl (by rfl) (fun K hK => wp_callF 10 #[.int .i64 (I : Int)] (by go_simp) (bad_no I hI _) ?_)
 rintro e w4 ⟨rfl, bx⟩
 replace hp3 := hp3.below bx hp3.lt
 replace hp4 := hp4.below bx hp4.lt
 replace hp5 := hp5.below bx hp5.lt
 replace hW := hW.trans (bx.mono (Nat.le_trans hB0 hW.size))
 clear bx
 refine ⟨_, rfl, hK.out _ _ ?_⟩
 clear hK K
 simp only [ls0, ls1]
 refine nilL ?_
 go_upto_region 3 with fail
 refine wl_lit ?_
 refine runL 24 (.pointer (some ⟨p3, 0, none⟩)) rfl (by rfl) (by go_simp) ?_
 simp only [ls0, ls1]
 refine runL 25 (.agg (va .u8 (ke ++ km))) rfl (by rfl) (exec_mid 26 (.tmp 24) rfl p3 0 rfl (nv .u8 (ke ++ km)) _ (sV_keys hp3 hel hml) (by exact Tryd.underlying26) rfl (szKs _ _ hel hml)) ?_
 simp only [ls0, ls1]
 refine runL 26 (.pointer (some ⟨p3, 48, none⟩)) rfl (by rfl) (by go_simp) ?_
 simp only [ls0, ls1]
 refine runL 27 (.int .i64 (I : Int)) rfl (by rfl) (exec_cell 3 (.tmp 26) rfl p3 48 rfl (.int .i64 (I : Int)) _ Tryd.underlying3 rfl (sV_idx hp3 hel hml)) ?_
 simp only [ls0, ls1]
 refine runL 28 (.pointer (some ⟨p3, 49, none⟩)) rfl (by rfl) (by go_simp) ?_
 simp only [ls0, ls1]
 refine runL 29 (.agg (noV s c)) rfl (by rfl) (exec_mid 30 (.tmp 28) rfl p3 49 rfl ((noV s c).toList) _ (sV_no hp3 hel hml) (by exact Tryd.underlying30) rfl (by kernel_rfl)) ?_
 simp only [ls0, ls1]
 refine runL 30 (.agg (va .u8 (d))) rfl (by rfl) (exec_row 33 (.tmp 4) rfl p4 rfl 33 (va .u8 (d)) _ hp4 (by exact Tryd.underlying33) rfl (sz_api_Block _ (hdl))) ?_
 simp only [ls0, ls1]
 refine callL 31 rfl (by rfl) (fun K hK => wp_callF 14 #[.agg (va .u8 (ke ++ km)), .int .i64 (I : Int), .agg (noV s c), .agg (va .u8 (d))] (by go_simp) (sseal_ok ke km hel hml heb hmb I s c d hI hs hdl hdb x t hxq.out htq.out hxl hxb htl htb _ (gl.out _ hW)) ?_)
 rintro e w5 ⟨rfl, bx⟩
 replace hp3 := hp3.below bx hp3.lt
 replace hp4 := hp4.below bx hp4.lt
 replace hp5 := hp5.below bx hp5.lt
 replace hW := hW.trans (bx.mono (Nat.le_trans hB0 hW.size))
 clear bx
 refine ⟨_, rfl, hK.out _ _ ?_⟩
 clear hK K
 simp only [ls0, ls1]
 refine runL 23 (.tuple #[.agg (va .u8 (x)), .agg (va .u8 (t)), .int .i64 0]) rfl (by rfl) (by go_simp) ?_
 simp only [ls0, ls1]
 refine runL 32 (.agg (va .u8 (x))) rfl (by rfl) (by go_simp) ?_
 simp only [ls0, ls1]
 refine runL 33 (.agg (va .u8 (t))) rfl (by rfl) (by go_simp) ?_
 simp only [ls0, ls1]
 refine runL 34 (.int .i64 0) rfl (by rfl) (by go_simp) ?_
 simp only [ls0, ls1]
 refine runWL 7 (.pointer (some ⟨w5.heap.size, 0, none⟩)) (w5.alloc (.cells (va .u8 (z)) 33)) rfl (by rfl) (exec_allocV 33 rfl _ (zv_blkz z hzq.out _)) ?_
 simp only [ls0, ls1]
 have lp3_p7 := hp3.lt
 have lp4_p7 := hp4.lt
 have lp5_p7 := hp5.lt
 have lw_p7 := Nat.le_trans hB0 hW.size
 have hp7 : Blk (w5.alloc (.cells (va .u8 (z)) 33)) w5.heap.size 33 (va .u8 (z)) := Blk.new _ _ _
 replace hp3 := hp3.alloc (.cells (va .u8 (z)) 33)
 replace hp4 := hp4.alloc (.cells (va .u8 (z)) 33)
 replace hp5 := hp5.alloc (.cells (va .u8 (z)) 33)
 replace hW := hW.alloc (Nat.le_trans hB0 hW.size) (.cells (va .u8 (z)) 33)
 generalize w5.alloc (.cells (va .u8 (z)) 33) = w6 at *
 generalize w5.heap.size = p7 at hp7 lw_p7 lp3_p7 lp4_p7 lp5_p7 ⊢
 refine runWL 8 (.pointer (some ⟨w6.heap.size, 0, none⟩)) (w6.alloc (.cells (va .u8 (z)) 45)) rfl (by rfl) (exec_allocV 45 rfl _ (zv_digz z hzq.out _)) ?_
 simp only [ls0, ls1]
 have lp3_p8 := hp3.lt
 have lp4_p8 := hp4.lt
 have lp5_p8 := hp5.lt
 have lp7_p8 := hp7.lt
 have lw_p8 := Nat.le_trans hB0 hW.size
 have hp8 : Blk (w6.alloc (.cells (va .u8 (z)) 45)) w6.heap.size 45 (va .u8 (z)) := Blk.new _ _ _
 replace hp3 := hp3.alloc (.cells (va .u8 (z)) 45)
 replace hp4 := hp4.alloc (.cells (va .u8 (z)) 45)
 replace hp5 := hp5.alloc (.cells (va .u8 (z)) 45)
 replace hp7 := hp7.alloc (.cells (va .u8 (z)) 45)
 replace hW := hW.alloc (Nat.le_trans hB0 hW.size) (.cells (va .u8 (z)) 45)
 generalize w6.alloc (.cells (va .u8 (z)) 45) = w7 at *
 generalize w6.heap.size = p8 at hp8 lw_p8 lp3_p8 lp4_p8 lp5_p8 lp7_p8 ⊢
 refine runSL (w7.setRow p7 (va .u8 (x))) rfl (by rfl) (exec_storeRow 33 (.tmp 7) (.tmp 32) rfl p7 rfl (va .u8 (x)) rfl 33 (va .u8 (z)) hp7 (sz_eq (sz_api_Block _ (hzl)) (sz_api_Block _ (hxl))) (sz_api_Block _ (hxl)) (va_ones .u8 _)) ?_
 replace hp3 := hp3.rowFar (show p7 ≠ p3 from (by omega)) (va .u8 (x))
 replace hp4 := hp4.rowFar (show p7 ≠ p4 from (by omega)) (va .u8 (x))
 replace hp5 := hp5.rowFar (show p7 ≠ p5 from (by omega)) (va .u8 (x))
 replace hp8 := hp8.rowFar (show p7 ≠ p8 from (by omega)) (va .u8 (x))
 replace hp7 := hp7.row (va .u8 (x))
 replace hW := below_setRow hW lw_p7 (va .u8 (x))
 generalize w7.setRow p7 (va .u8 (x)) = w8 at *
 refine runSL (w8.setRow p8 (va .u8 (t))) rfl (by rfl) (exec_storeRow 45 (.tmp 8) (.tmp 33) rfl p8 rfl (va .u8 (t)) rfl 45 (va .u8 (z)) hp8 (sz_eq (sz_api_Digest _ (hzl)) (sz_api_Digest _ (htl))) (sz_api_Digest _ (htl)) (va_ones .u8 _)) ?_
 replace hp3 := hp3.rowFar (show p8 ≠ p3 from (by omega)) (va .u8 (t))
 replace hp4 := hp4.rowFar (show p8 ≠ p4 from (by omega)) (va .u8 (t))
 replace hp5 := hp5.rowFar (show p8 ≠ p5 from (by omega)) (va .u8 (t))
 replace hp7 := hp7.rowFar (show p8 ≠ p7 from (by omega)) (va .u8 (t))
 replace hp8 := hp8.row (va .u8 (t))
 replace hW := below_setRow hW lw_p8 (va .u8 (t))
 generalize w8.setRow p8 (va .u8 (t)) = w9 at *
 refine runL 9 (.int .i64 0) rfl (by rfl) (by go_simp) ?_
 simp only [ls0, ls1]
 refine nilL ?_
 go_upto_region 4 with fail
 refine wl_lit ?_
 refine runL 35 (.int .i64 0) rfl (by rfl) (by go_simp) ?_
 simp only [ls0, ls1]
 refine runL 36 (.bool false) rfl (by rfl) (by go_simp) ?_
 simp only [ls0, ls1]
 refine nilL ?_
 go_upto_region 6 with fail
 go_cut [10, 11] (fun v10 v11 wx => ∃ p10 p11 : Nat, v10 = .pointer (some ⟨p10, 0, none⟩) ∧ v11 = .pointer (some ⟨p11, 0, none⟩) ∧ B0 ≤ p10 ∧ B0 ≤ p11 ∧ p3 < p10 ∧ p4 < p10 ∧ p5 < p10 ∧ p7 < p10 ∧ p8 < p10 ∧ p3 < p11 ∧ p4 < p11 ∧ p5 < p11 ∧ p7 < p11 ∧ p8 < p11 ∧ p11 ≠ p10 ∧ Blk wx p10 32 (sV ke km (I : Int) s c) ∧ Blk wx p11 33 (va .u8 (x)) ∧ Blk wx p3 32 (sV ke km (I : Int) s c) ∧ Blk wx p4 33 (va .u8 (d)) ∧ Blk wx p5 56 (va .u8 ([a, b, e])) ∧ Blk wx p7 33 (va .u8 (x)) ∧ Blk wx p8 45 (va .u8 (t)) ∧ Below B0 w wx)
 case first =>
  refine wp_region_held_drew (S := fun wr => Blk wr p3 32 (sV ke km (I : Int) s c) ∧ Blk wr p4 33 (va .u8 (d)) ∧ Blk wr p5 56 (va .u8 ([a, b, e])) ∧ Blk wr p7 33 (va .u8 (x)) ∧ Blk wr p8 45 (va .u8 (t)) ∧ Below B0 w wr) (by kernel_rfl) ⟨hp3.drew, hp4.drew, hp5.drew, hp7.drew, hp8.drew, below_drewN hW 1⟩ (fun hH => ?_)
  clear hp3 hp4 hp5 hp7 hp8 hW
  obtain ⟨hp3, hp4, hp5, hp7, hp8, hW⟩ := hH
  generalize w9.drew = w10 at *
  refine takeH 5 0 37 (.agg (sV ke km (I : Int) s c)) rfl rfl (by kernel_rfl) (by kernel_rfl) (by kernel_rfl) (fun _ _ _ h => h) (Or.inl ⟨by rfl, fun _ h => exec_row 32 (.tmp 3) rfl p3 rfl 32 (sV ke km (I : Int) s c) _ h.1 (by exact Tryd.underlying32) rfl (sV_sz _ _ _ hel hml)⟩) ⟨hp3, hp4, hp5, hp7, hp8, hW⟩ ?_
  simp only [ls0, ls1]
  refine takeH 4 1 38 (.agg (va .u8 (x))) rfl rfl (by kernel_rfl) (by kernel_rfl) (by kernel_rfl) (fun _ _ _ h => h) (Or.inl ⟨by rfl, fun _ h => exec_row 33 (.tmp 7) rfl p7 rfl 33 (va .u8 (x)) _ h.2.2.2.1 (by exact Tryd.underlying33) rfl (sz_api_Block _ (hxl))⟩) ⟨hp3, hp4, hp5, hp7, hp8, hW⟩ ?_
  simp only [ls0, ls1]
  refine wpAnyH_ready (by kernel_rfl) (by simp) (readyRun 3 2 10 (.pointer (some ⟨w10.heap.size, 0, none⟩)) (w10.alloc (.cells (sV (List.replicate 16 0) (List.replicate 32 0) 0 0 0) 32)) rfl rfl (by rfl) (exec_allocV 32 rfl _ (zv_S _)) ⟨hp3.alloc _, hp4.alloc _, hp5.alloc _, hp7.alloc _, hp8.alloc _, hW.alloc (Nat.le_trans hB0 hW.size) _⟩ (fun _ => ?_) (readyRun 3 3 11 (.pointer (some ⟨w10.heap.size, 0, none⟩)) (w10.alloc (.cells (va .u8 (z)) 33)) rfl rfl (by rfl) (exec_allocV 33 rfl _ (zv_blkz z hzq.out _)) ⟨hp3.alloc _, hp4.alloc _, hp5.alloc _, hp7.alloc _, hp8.alloc _, hW.alloc (Nat.le_trans hB0 hW.size) _⟩ (fun _ => ?_) AllReadyH.nil))
  ·
   simp only [ls0, ls1]
   have lp3_p10 := hp3.lt
   have lp4_p10 := hp4.lt
   have lp5_p10 := hp5.lt
   have lp7_p10 := hp7.lt
   have lp8_p10 := hp8.lt
   have lw_p10 := Nat.le_trans hB0 hW.size
   have hp10 : Blk (w10.alloc (.cells (sV (List.replicate 16 0) (List.replicate 32 0) 0 0 0) 32)) w10.heap.size 32 (sV (List.replicate 16 0) (List.replicate 32 0) 0 0 0) := Blk.new _ _ _
   replace hp3 := hp3.alloc (.cells (sV (List.replicate 16 0) (List.replicate 32 0) 0 0 0) 32)
   replace hp4 := hp4.alloc (.cells (sV (List.replicate 16 0) (List.replicate 32 0) 0 0 0) 32)
   replace hp5 := hp5.alloc (.cells (sV (List.replicate 16 0) (List.replicate 32 0) 0 0 0) 32)
   replace hp7 := hp7.alloc (.cells (sV (List.replicate 16 0) (List.replicate 32 0) 0 0 0) 32)
   replace hp8 := hp8.alloc (.cells (sV (List.replicate 16 0) (List.replicate 32 0) 0 0 0) 32)
   replace hW := hW.alloc (Nat.le_trans hB0 hW.size) (.cells (sV (List.replicate 16 0) (List.replicate 32 0) 0 0 0) 32)
   generalize w10.alloc (.cells (sV (List.replicate 16 0) (List.replicate 32 0) 0 0 0) 32) = w11 at *
   generalize w10.heap.size = p10 at hp10 lw_p10 lp3_p10 lp4_p10 lp5_p10 lp7_p10 lp8_p10 ⊢
   refine wpAnyH_ready (by kernel_rfl) (by simp) (readyRun 2 3 11 (.pointer (some ⟨w11.heap.size, 0, none⟩)) (w11.alloc (.cells (va .u8 (z)) 33)) rfl rfl (by rfl) (exec_allocV 33 rfl _ (zv_blkz z hzq.out _)) ⟨hp3.alloc _, hp4.alloc _, hp5.alloc _, hp7.alloc _, hp8.alloc _, hW.alloc (Nat.le_trans hB0 hW.size) _⟩ (fun _ => ?_) AllReadyH.nil)
   simp only [ls0, ls1]
   have lp3_p11 := hp3.lt
   have lp4_p11 := hp4.lt
   have lp5_p11 := hp5.lt
   have lp7_p11 := hp7.lt
   have lp8_p11 := hp8.lt
   have lp10_p11 := hp10.lt
   have lw_p11 := Nat.le_trans hB0 hW.size
   have hp11 : Blk (w11.alloc (.cells (va .u8 (z)) 33)) w11.heap.size 33 (va .u8 (z)) := Blk.new _ _ _
   replace hp3 := hp3.alloc (.cells (va .u8 (z)) 33)
   replace hp4 := hp4.alloc (.cells (va .u8 (z)) 33)
   replace hp5 := hp5.alloc (.cells (va .u8 (z)) 33)
   replace hp7 := hp7.alloc (.cells (va .u8 (z)) 33)
   replace hp8 := hp8.alloc (.cells (va .u8 (z)) 33)
   replace hp10 := hp10.alloc (.cells (va .u8 (z)) 33)
   replace hW := hW.alloc (Nat.le_trans hB0 hW.size) (.cells (va .u8 (z)) 33)
   generalize w11.alloc (.cells (va .u8 (z)) 33) = w12 at *
   generalize w11.heap.size = p11 at hp11 lw_p11 lp3_p11 lp4_p11 lp5_p11 lp7_p11 lp8_p11 lp10_p11 ⊢
   refine wpAnyH_ready (by kernel_rfl) (by simp) (readyRunS 1 4 (w12.setRow p10 (sV ke km (I : Int) s c)) rfl rfl (by rfl) (exec_storeRow 32 (.tmp 10) (.tmp 37) rfl p10 rfl (sV ke km (I : Int) s c) rfl 32 (sV (List.replicate 16 0) (List.replicate 32 0) 0 0 0) hp10 (sz_eq (sV_sz _ _ _ List.length_replicate List.length_replicate) (sV_sz _ _ _ hel hml)) (sV_sz _ _ _ hel hml) (sV_one _ _ _ _ _)) ⟨hp3.rowFar (show p10 ≠ p3 from (by omega)) _, hp4.rowFar (show p10 ≠ p4 from (by omega)) _, hp5.rowFar (show p10 ≠ p5 from (by omega)) _, hp7.rowFar (show p10 ≠ p7 from (by omega)) _, hp8.rowFar (show p10 ≠ p8 from (by omega)) _, below_setRow hW lw_p10 _⟩ (fun _ => ?_) AllReadyH.nil)
   replace hp3 := hp3.rowFar (show p10 ≠ p3 from (by omega)) (sV ke km (I : Int) s c)
   replace hp4 := hp4.rowFar (show p10 ≠ p4 from (by omega)) (sV ke km (I : Int) s c)
   replace hp5 := hp5.rowFar (show p10 ≠ p5 from (by omega)) (sV ke km (I : Int) s c)
   replace hp7 := hp7.rowFar (show p10 ≠ p7 from (by omega)) (sV ke km (I : Int) s c)
   replace hp8 := hp8.rowFar (show p10 ≠ p8 from (by omega)) (sV ke km (I : Int) s c)
   replace hp11 := hp11.rowFar (show p10 ≠ p11 from (by omega)) (sV ke km (I : Int) s c)
   replace hp10 := hp10.row (sV ke km (I : Int) s c)
   replace hW := below_setRow hW lw_p10 (sV ke km (I : Int) s c)
   generalize w12.setRow p10 (sV ke km (I : Int) s c) = w13 at *
   refine wpAnyH_ready (by kernel_rfl) (by simp) (readyRunS 0 5 (w13.setRow p11 (va .u8 (x))) rfl rfl (by rfl) (exec_storeRow 33 (.tmp 11) (.tmp 38) rfl p11 rfl (va .u8 (x)) rfl 33 (va .u8 (z)) hp11 (sz_eq (sz_api_Block _ (hzl)) (sz_api_Block _ (hxl))) (sz_api_Block _ (hxl)) (va_ones .u8 _)) ⟨hp3.rowFar (show p11 ≠ p3 from (by omega)) _, hp4.rowFar (show p11 ≠ p4 from (by omega)) _, hp5.rowFar (show p11 ≠ p5 from (by omega)) _, hp7.rowFar (show p11 ≠ p7 from (by omega)) _, hp8.rowFar (show p11 ≠ p8 from (by omega)) _, below_setRow hW lw_p11 _⟩ (fun _ => ?_) AllReadyH.nil)
   replace hp3 := hp3.rowFar (show p11 ≠ p3 from (by omega)) (va .u8 (x))
   replace hp4 := hp4.rowFar (show p11 ≠ p4 from (by omega)) (va .u8 (x))
   replace hp5 := hp5.rowFar (show p11 ≠ p5 from (by omega)) (va .u8 (x))
   replace hp7 := hp7.rowFar (show p11 ≠ p7 from (by omega)) (va .u8 (x))
   replace hp8 := hp8.rowFar (show p11 ≠ p8 from (by omega)) (va .u8 (x))
   replace hp10 := hp10.rowFar (show p11 ≠ p10 from (by omega)) (va .u8 (x))
   replace hp11 := hp11.row (va .u8 (x))
   replace hW := below_setRow hW lw_p11 (va .u8 (x))
   generalize w13.setRow p11 (va .u8 (x)) = w14 at *
   refine wpAnyH_done (by kernel_rfl) ?_ _
   go_wp2
   go_meet
   exact ⟨p10, p11, rfl, rfl, lw_p10, lw_p11, lp3_p10, lp4_p10, lp5_p10, lp7_p10, lp8_p10, lp3_p11, lp4_p11, lp5_p11, lp7_p11, lp8_p11, by omega, hp10, hp11, hp3, hp4, hp5, hp7, hp8, hW⟩
  ·
   simp only [ls0, ls1]
   have lp3_p11 := hp3.lt
   have lp4_p11 := hp4.lt
   have lp5_p11 := hp5.lt
   have lp7_p11 := hp7.lt
   have lp8_p11 := hp8.lt
   have lw_p11 := Nat.le_trans hB0 hW.size
   have hp11 : Blk (w10.alloc (.cells (va .u8 (z)) 33)) w10.heap.size 33 (va .u8 (z)) := Blk.new _ _ _
   replace hp3 := hp3.alloc (.cells (va .u8 (z)) 33)
   replace hp4 := hp4.alloc (.cells (va .u8 (z)) 33)
   replace hp5 := hp5.alloc (.cells (va .u8 (z)) 33)
   replace hp7 := hp7.alloc (.cells (va .u8 (z)) 33)
   replace hp8 := hp8.alloc (.cells (va .u8 (z)) 33)
   replace hW := hW.alloc (Nat.le_trans hB0 hW.size) (.cells (va .u8 (z)) 33)
   generalize w10.alloc (.cells (va .u8 (z)) 33) = w15 at *
   generalize w10.heap.size = p11 at hp11 lw_p11 lp3_p11 lp4_p11 lp5_p11 lp7_p11 lp8_p11 ⊢
   refine wpAnyH_ready (by kernel_rfl) (by simp) (readyRun 2 2 10 (.pointer (some ⟨w15.heap.size, 0, none⟩)) (w15.alloc (.cells (sV (List.replicate 16 0) (List.replicate 32 0) 0 0 0) 32)) rfl rfl (by rfl) (exec_allocV 32 rfl _ (zv_S _)) ⟨hp3.alloc _, hp4.alloc _, hp5.alloc _, hp7.alloc _, hp8.alloc _, hW.alloc (Nat.le_trans hB0 hW.size) _⟩ (fun _ => ?_) AllReadyH.nil)
   simp only [ls0, ls1]
   have lp3_p10 := hp3.lt
   have lp4_p10 := hp4.lt
   have lp5_p10 := hp5.lt
   have lp7_p10 := hp7.lt
   have lp8_p10 := hp8.lt
   have lp11_p10 := hp11.lt
   have lw_p10 := Nat.le_trans hB0 hW.size
   have hp10 : Blk (w15.alloc (.cells (sV (List.replicate 16 0) (List.replicate 32 0) 0 0 0) 32)) w15.heap.size 32 (sV (List.replicate 16 0) (List.replicate 32 0) 0 0 0) := Blk.new _ _ _
   replace hp3 := hp3.alloc (.cells (sV (List.replicate 16 0) (List.replicate 32 0) 0 0 0) 32)
   replace hp4 := hp4.alloc (.cells (sV (List.replicate 16 0) (List.replicate 32 0) 0 0 0) 32)
   replace hp5 := hp5.alloc (.cells (sV (List.replicate 16 0) (List.replicate 32 0) 0 0 0) 32)
   replace hp7 := hp7.alloc (.cells (sV (List.replicate 16 0) (List.replicate 32 0) 0 0 0) 32)
   replace hp8 := hp8.alloc (.cells (sV (List.replicate 16 0) (List.replicate 32 0) 0 0 0) 32)
   replace hp11 := hp11.alloc (.cells (sV (List.replicate 16 0) (List.replicate 32 0) 0 0 0) 32)
   replace hW := hW.alloc (Nat.le_trans hB0 hW.size) (.cells (sV (List.replicate 16 0) (List.replicate 32 0) 0 0 0) 32)
   generalize w15.alloc (.cells (sV (List.replicate 16 0) (List.replicate 32 0) 0 0 0) 32) = w16 at *
   generalize w15.heap.size = p10 at hp10 lw_p10 lp3_p10 lp4_p10 lp5_p10 lp7_p10 lp8_p10 lp11_p10 ⊢
   refine wpAnyH_ready (by kernel_rfl) (by simp) (readyRunS 1 4 (w16.setRow p10 (sV ke km (I : Int) s c)) rfl rfl (by rfl) (exec_storeRow 32 (.tmp 10) (.tmp 37) rfl p10 rfl (sV ke km (I : Int) s c) rfl 32 (sV (List.replicate 16 0) (List.replicate 32 0) 0 0 0) hp10 (sz_eq (sV_sz _ _ _ List.length_replicate List.length_replicate) (sV_sz _ _ _ hel hml)) (sV_sz _ _ _ hel hml) (sV_one _ _ _ _ _)) ⟨hp3.rowFar (show p10 ≠ p3 from (by omega)) _, hp4.rowFar (show p10 ≠ p4 from (by omega)) _, hp5.rowFar (show p10 ≠ p5 from (by omega)) _, hp7.rowFar (show p10 ≠ p7 from (by omega)) _, hp8.rowFar (show p10 ≠ p8 from (by omega)) _, below_setRow hW lw_p10 _⟩ (fun _ => ?_) AllReadyH.nil)
   replace hp3 := hp3.rowFar (show p10 ≠ p3 from (by omega)) (sV ke km (I : Int) s c)
   replace hp4 := hp4.rowFar (show p10 ≠ p4 from (by omega)) (sV ke km (I : Int) s c)
   replace hp5 := hp5.rowFar (show p10 ≠ p5 from (by omega)) (sV ke km (I : Int) s c)
   replace hp7 := hp7.rowFar (show p10 ≠ p7 from (by omega)) (sV ke km (I : Int) s c)
   replace hp8 := hp8.rowFar (show p10 ≠ p8 from (by omega)) (sV ke km (I : Int) s c)
   replace hp11 := hp11.rowFar (show p10 ≠ p11 from (by omega)) (sV ke km (I : Int) s c)
   replace hp10 := hp10.row (sV ke km (I : Int) s c)
   replace hW := below_setRow hW lw_p10 (sV ke km (I : Int) s c)
   generalize w16.setRow p10 (sV ke km (I : Int) s c) = w17 at *
   refine wpAnyH_ready (by kernel_rfl) (by simp) (readyRunS 0 5 (w17.setRow p11 (va .u8 (x))) rfl rfl (by rfl) (exec_storeRow 33 (.tmp 11) (.tmp 38) rfl p11 rfl (va .u8 (x)) rfl 33 (va .u8 (z)) hp11 (sz_eq (sz_api_Block _ (hzl)) (sz_api_Block _ (hxl))) (sz_api_Block _ (hxl)) (va_ones .u8 _)) ⟨hp3.rowFar (show p11 ≠ p3 from (by omega)) _, hp4.rowFar (show p11 ≠ p4 from (by omega)) _, hp5.rowFar (show p11 ≠ p5 from (by omega)) _, hp7.rowFar (show p11 ≠ p7 from (by omega)) _, hp8.rowFar (show p11 ≠ p8 from (by omega)) _, below_setRow hW lw_p11 _⟩ (fun _ => ?_) AllReadyH.nil)
   replace hp3 := hp3.rowFar (show p11 ≠ p3 from (by omega)) (va .u8 (x))
   replace hp4 := hp4.rowFar (show p11 ≠ p4 from (by omega)) (va .u8 (x))
   replace hp5 := hp5.rowFar (show p11 ≠ p5 from (by omega)) (va .u8 (x))
   replace hp7 := hp7.rowFar (show p11 ≠ p7 from (by omega)) (va .u8 (x))
   replace hp8 := hp8.rowFar (show p11 ≠ p8 from (by omega)) (va .u8 (x))
   replace hp10 := hp10.rowFar (show p11 ≠ p10 from (by omega)) (va .u8 (x))
   replace hp11 := hp11.row (va .u8 (x))
   replace hW := below_setRow hW lw_p11 (va .u8 (x))
   generalize w17.setRow p11 (va .u8 (x)) = w18 at *
   refine wpAnyH_done (by kernel_rfl) ?_ _
   go_wp2
   go_meet
   exact ⟨p10, p11, rfl, rfl, lw_p10, lw_p11, lp3_p10, lp4_p10, lp5_p10, lp7_p10, lp8_p10, lp3_p11, lp4_p11, lp5_p11, lp7_p11, lp8_p11, by omega, hp10, hp11, hp3, hp4, hp5, hp7, hp8, hW⟩
 case rest =>
  clear hp3 hp4 hp5 hp7 hp8 hW
  obtain ⟨p10, p11, rfl, rfl, lw_p10, lw_p11, lp3_p10, lp4_p10, lp5_p10, lp7_p10, lp8_p10, lp3_p11, lp4_p11, lp5_p11, lp7_p11, lp8_p11, dp11_p10, hp10, hp11, hp3, hp4, hp5, hp7, hp8, hW⟩ := hcut
  generalize wc = w19 at *
  go_upto_region 7 with fail
  refine wl_lit ?_
  refine runL 39 (.pointer (some ⟨p5, 0, none⟩)) rfl (by rfl) (by go_simp) ?_
  simp only [ls0, ls1]
  refine runL 40 (.int .u8 ((a : Nat) : Int)) rfl (by rfl) (exec_cell 5 (.tmp 39) rfl p5 0 rfl (.int .u8 ((a : Nat) : Int)) _ Tryd.underlying5 rfl (by exact hp5.num (by simp))) ?_
  simp only [ls0, ls1]
  refine runL 41 (.int .u8 (r : Int)) rfl (by rfl) (by go_simp) ?_
  simp only [ls0, ls1]
  refine nilL ?_
  clear hp4
  go_upto_block 0 with fail
  go_cut [] (fun wx => ∃ (i2 s2 c2 : Nat) (d2 : List Nat), i2 < 4096 ∧ s2 < 4294967296 ∧ c2 < 18446744073709551616 ∧ d2.length = 32 ∧ Byt d2 ∧ Blk wx p10 32 (sV ke km (i2 : Int) s2 c2) ∧ Blk wx p11 33 (va .u8 d2) ∧ Blk wx p3 32 (sV ke km (I : Int) s c) ∧ Blk wx p5 56 (va .u8 ([a, b, e])) ∧ Blk wx p7 33 (va .u8 (x)) ∧ Blk wx p8 45 (va .u8 (t)) ∧ Below B0 w wx)
  case first =>
   have hwb : IntKind.i64.wrap (b : Int) = (b : Int) := IntWalk.i64_in _ (by omega)
   have hwb6 : IntKind.u64.wrap (b : Int) = (b : Int) := by simp [IntKind.wrap, IntKind.bits, IntKind.signed]; omega
   have hwb3 : IntKind.u32.wrap (b : Int) = (b : Int) := by simp [IntKind.wrap, IntKind.bits, IntKind.signed]; omega
   obtain hr0 | hr0 | hr0 | hr0 : r = 0 ∨ r = 1 ∨ r = 2 ∨ r = 3 := by omega
   ·
    subst hr0
    go_upto_region 8 with fail
    refine wl_lit ?_
    refine runL 43 (.bool true) rfl (by rfl) (by go_simp) ?_
    simp only [ls0, ls1]
    refine runL 42 (.bool true) rfl (by rfl) (by go_simp) ?_
    simp only [ls0, ls1]
    refine nilL ?_
    obtain ⟨j, hj⟩ : ∃ j, (I + b) % 4096 = j := ⟨_, rfl⟩
    have hj4 : j < 4096 := by omega
    have hwj : IntKind.i64.wrap ((I : Int) + (b : Int)) = (I : Int) + (b : Int) := IntWalk.i64_in _ (by omega)
    have hjI : ((I : Int) + (b : Int)).tmod 4096 = (j : Int) := by rw [Int.tmod_eq_emod_of_nonneg (by omega)]; omega
    have hjE : ((I : Int) + (b : Int)) % 4096 = (j : Int) := by omega
    have hwj2 : IntKind.i64.wrap (j : Int) = (j : Int) := IntWalk.i64_in _ (by omega)
    go_upto_region 9 with fail
    refine wl_lit ?_
    refine runL 44 (.pointer (some ⟨p3, 48, none⟩)) rfl (by rfl) (by go_simp) ?_
    simp only [ls0, ls1]
    refine runL 45 (.int .i64 (I : Int)) rfl (by rfl) (exec_cell 3 (.tmp 44) rfl p3 48 rfl (.int .i64 (I : Int)) _ Tryd.underlying3 rfl (sV_idx hp3 hel hml)) ?_
    simp only [ls0, ls1]
    refine runL 46 (.pointer (some ⟨p5, 1, none⟩)) rfl (by rfl) (by go_simp) ?_
    simp only [ls0, ls1]
    refine runL 47 (.int .u8 ((b : Nat) : Int)) rfl (by rfl) (exec_cell 5 (.tmp 46) rfl p5 1 rfl (.int .u8 ((b : Nat) : Int)) _ Tryd.underlying5 rfl (by exact hp5.num (by simp))) ?_
    simp only [ls0, ls1]
    refine runL 48 (.int .i64 (b : Int)) rfl (by rfl) (by go_simp) ?_
    simp only [ls0, ls1]
    refine runL 49 (.int .i64 ((I : Int) + (b : Int))) rfl (by rfl) (by go_simp) ?_
    simp only [ls0, ls1]
    refine runL 50 (.int .i64 (j : Int)) rfl (by rfl) (by go_simp) ?_
    simp only [ls0, ls1]
    refine runL 51 (.pointer (some ⟨p10, 48, none⟩)) rfl (by rfl) (by go_simp) ?_
    simp only [ls0, ls1]
    refine runSL (w19.setCell ⟨p10, 48, none⟩ (.int .i64 (j : Int))) rfl (by rfl) (exec_storeCell 3 (.tmp 51) (.tmp 50) rfl p10 48 rfl (.int .i64 (j : Int)) rfl rfl rfl 32 (sV ke km (I : Int) s c) hp10 (by rw [sV_size _ _ _ hel hml]; decide) (by kernel_rfl)) ?_
    replace hp3 := hp3.far (p := ⟨p10, 48, none⟩) (show p3 ≠ p10 from (by omega)) (.int .i64 (j : Int))
    replace hp5 := hp5.far (p := ⟨p10, 48, none⟩) (show p5 ≠ p10 from (by omega)) (.int .i64 (j : Int))
    replace hp7 := hp7.far (p := ⟨p10, 48, none⟩) (show p7 ≠ p10 from (by omega)) (.int .i64 (j : Int))
    replace hp8 := hp8.far (p := ⟨p10, 48, none⟩) (show p8 ≠ p10 from (by omega)) (.int .i64 (j : Int))
    replace hp11 := hp11.far (p := ⟨p10, 48, none⟩) (show p11 ≠ p10 from (by omega)) (.int .i64 (j : Int))
    replace hp10 : Blk (w19.setCell ⟨p10, 48, none⟩ (.int .i64 (j : Int))) p10 32 (sV ke km (j : Int) s c) := set_idx hp10 hel hml
    replace hW := hW.setCell (p := ⟨p10, 48, none⟩) lw_p10 (.int .i64 (j : Int))
    generalize w19.setCell ⟨p10, 48, none⟩ (.int .i64 (j : Int)) = w20 at *
    refine nilL ?_
    go_wp2
    go_meet
    exact ⟨j, s, c, x, hj4, hs, hc, hxl, hxb, hp10, hp11, hp3, hp5, hp7, hp8, hW⟩
   ·
    subst hr0
    go_upto_region 8 with fail
    refine wl_lit ?_
    refine runL 43 (.bool false) rfl (by rfl) (by go_simp) ?_
    simp only [ls0, ls1]
    refine runL 42 (.bool false) rfl (by rfl) (by go_simp) ?_
    simp only [ls0, ls1]
    refine nilL ?_
    go_upto_region 10 with fail
    refine wl_lit ?_
    refine runL 53 (.bool true) rfl (by rfl) (by go_simp) ?_
    simp only [ls0, ls1]
    refine runL 52 (.bool true) rfl (by rfl) (by go_simp) ?_
    simp only [ls0, ls1]
    refine nilL ?_
    obtain ⟨j, hj⟩ : ∃ j, (c + b) % 18446744073709551616 = j := ⟨_, rfl⟩
    have hj4 : j < 18446744073709551616 := by omega
    have hwj : IntKind.u64.wrap ((c : Int) + (b : Int)) = (j : Int) := by simp [IntKind.wrap, IntKind.bits, IntKind.signed]; omega
    go_upto_region 11 with fail
    refine wl_lit ?_
    refine runL 54 (.pointer (some ⟨p10, 49, none⟩)) rfl (by rfl) (by go_simp) ?_
    simp only [ls0, ls1]
    refine runL 55 (.pointer (some ⟨p10, 50, none⟩)) rfl (by rfl) (by go_simp) ?_
    simp only [ls0, ls1]
    refine runL 56 (.int .u64 ((c : Nat) : Int)) rfl (by rfl) (exec_cell 28 (.tmp 55) rfl p10 50 rfl (.int .u64 ((c : Nat) : Int)) _ Tryd.underlying28 rfl (sV_ct hp10 hel hml)) ?_
    simp only [ls0, ls1]
    refine runL 57 (.pointer (some ⟨p5, 1, none⟩)) rfl (by rfl) (by go_simp) ?_
    simp only [ls0, ls1]
    refine runL 58 (.int .u8 ((b : Nat) : Int)) rfl (by rfl) (exec_cell 5 (.tmp 57) rfl p5 1 rfl (.int .u8 ((b : Nat) : Int)) _ Tryd.underlying5 rfl (by exact hp5.num (by simp))) ?_
    simp only [ls0, ls1]
    refine runL 59 (.int .u64 (b : Int)) rfl (by rfl) (by go_simp) ?_
    simp only [ls0, ls1]
    refine runL 60 (.int .u64 ((j : Nat) : Int)) rfl (by rfl) (by go_simp) ?_
    simp only [ls0, ls1]
    refine runL 61 (.pointer (some ⟨p10, 49, none⟩)) rfl (by rfl) (by go_simp) ?_
    simp only [ls0, ls1]
    refine runL 62 (.pointer (some ⟨p10, 50, none⟩)) rfl (by rfl) (by go_simp) ?_
    simp only [ls0, ls1]
    refine runSL (w19.setCell ⟨p10, 50, none⟩ (.int .u64 ((j : Nat) : Int))) rfl (by rfl) (exec_storeCell 28 (.tmp 62) (.tmp 60) rfl p10 50 rfl (.int .u64 ((j : Nat) : Int)) rfl rfl rfl 32 (sV ke km (I : Int) s c) hp10 (by rw [sV_size _ _ _ hel hml]; decide) (by kernel_rfl)) ?_
    replace hp3 := hp3.far (p := ⟨p10, 50, none⟩) (show p3 ≠ p10 from (by omega)) (.int .u64 ((j : Nat) : Int))
    replace hp5 := hp5.far (p := ⟨p10, 50, none⟩) (show p5 ≠ p10 from (by omega)) (.int .u64 ((j : Nat) : Int))
    replace hp7 := hp7.far (p := ⟨p10, 50, none⟩) (show p7 ≠ p10 from (by omega)) (.int .u64 ((j : Nat) : Int))
    replace hp8 := hp8.far (p := ⟨p10, 50, none⟩) (show p8 ≠ p10 from (by omega)) (.int .u64 ((j : Nat) : Int))
    replace hp11 := hp11.far (p := ⟨p10, 50, none⟩) (show p11 ≠ p10 from (by omega)) (.int .u64 ((j : Nat) : Int))
    replace hp10 : Blk (w19.setCell ⟨p10, 50, none⟩ (.int .u64 ((j : Nat) : Int))) p10 32 (sV ke km (I : Int) s j) := set_ct hp10 hel hml
    replace hW := hW.setCell (p := ⟨p10, 50, none⟩) lw_p10 (.int .u64 ((j : Nat) : Int))
    generalize w19.setCell ⟨p10, 50, none⟩ (.int .u64 ((j : Nat) : Int)) = w20 at *
    refine nilL ?_
    go_wp2
    go_meet
    exact ⟨I, s, j, x, hI, hs, hj4, hxl, hxb, hp10, hp11, hp3, hp5, hp7, hp8, hW⟩
   ·
    subst hr0
    go_upto_region 8 with fail
    refine wl_lit ?_
    refine runL 43 (.bool false) rfl (by rfl) (by go_simp) ?_
    simp only [ls0, ls1]
    refine runL 42 (.bool false) rfl (by rfl) (by go_simp) ?_
    simp only [ls0, ls1]
    refine nilL ?_
    go_upto_region 10 with fail
    refine wl_lit ?_
    refine runL 53 (.bool false) rfl (by rfl) (by go_simp) ?_
    simp only [ls0, ls1]
    refine runL 52 (.bool false) rfl (by rfl) (by go_simp) ?_
    simp only [ls0, ls1]
    refine nilL ?_
    go_upto_region 12 with fail
    refine wl_lit ?_
    refine runL 64 (.bool true) rfl (by rfl) (by go_simp) ?_
    simp only [ls0, ls1]
    refine runL 63 (.bool true) rfl (by rfl) (by go_simp) ?_
    simp only [ls0, ls1]
    refine nilL ?_
    obtain ⟨j, hj⟩ : ∃ j, (s + b) % 4294967296 = j := ⟨_, rfl⟩
    have hj4 : j < 4294967296 := by omega
    have hwj : IntKind.u32.wrap ((s : Int) + (b : Int)) = (j : Int) := by simp [IntKind.wrap, IntKind.bits, IntKind.signed]; omega
    go_upto_region 13 with fail
    refine wl_lit ?_
    refine runL 65 (.pointer (some ⟨p10, 49, none⟩)) rfl (by rfl) (by go_simp) ?_
    simp only [ls0, ls1]
    refine runL 66 (.pointer (some ⟨p10, 49, none⟩)) rfl (by rfl) (by go_simp) ?_
    simp only [ls0, ls1]
    refine runL 67 (.int .u32 ((s : Nat) : Int)) rfl (by rfl) (exec_cell 27 (.tmp 66) rfl p10 49 rfl (.int .u32 ((s : Nat) : Int)) _ Tryd.underlying27 rfl (sV_sh hp10 hel hml)) ?_
    simp only [ls0, ls1]
    refine runL 68 (.pointer (some ⟨p5, 1, none⟩)) rfl (by rfl) (by go_simp) ?_
    simp only [ls0, ls1]
    refine runL 69 (.int .u8 ((b : Nat) : Int)) rfl (by rfl) (exec_cell 5 (.tmp 68) rfl p5 1 rfl (.int .u8 ((b : Nat) : Int)) _ Tryd.underlying5 rfl (by exact hp5.num (by simp))) ?_
    simp only [ls0, ls1]
    refine runL 70 (.int .u32 (b : Int)) rfl (by rfl) (by go_simp) ?_
    simp only [ls0, ls1]
    refine runL 71 (.int .u32 ((j : Nat) : Int)) rfl (by rfl) (by go_simp) ?_
    simp only [ls0, ls1]
    refine runL 72 (.pointer (some ⟨p10, 49, none⟩)) rfl (by rfl) (by go_simp) ?_
    simp only [ls0, ls1]
    refine runL 73 (.pointer (some ⟨p10, 49, none⟩)) rfl (by rfl) (by go_simp) ?_
    simp only [ls0, ls1]
    refine runSL (w19.setCell ⟨p10, 49, none⟩ (.int .u32 ((j : Nat) : Int))) rfl (by rfl) (exec_storeCell 27 (.tmp 73) (.tmp 71) rfl p10 49 rfl (.int .u32 ((j : Nat) : Int)) rfl rfl rfl 32 (sV ke km (I : Int) s c) hp10 (by rw [sV_size _ _ _ hel hml]; decide) (by kernel_rfl)) ?_
    replace hp3 := hp3.far (p := ⟨p10, 49, none⟩) (show p3 ≠ p10 from (by omega)) (.int .u32 ((j : Nat) : Int))
    replace hp5 := hp5.far (p := ⟨p10, 49, none⟩) (show p5 ≠ p10 from (by omega)) (.int .u32 ((j : Nat) : Int))
    replace hp7 := hp7.far (p := ⟨p10, 49, none⟩) (show p7 ≠ p10 from (by omega)) (.int .u32 ((j : Nat) : Int))
    replace hp8 := hp8.far (p := ⟨p10, 49, none⟩) (show p8 ≠ p10 from (by omega)) (.int .u32 ((j : Nat) : Int))
    replace hp11 := hp11.far (p := ⟨p10, 49, none⟩) (show p11 ≠ p10 from (by omega)) (.int .u32 ((j : Nat) : Int))
    replace hp10 : Blk (w19.setCell ⟨p10, 49, none⟩ (.int .u32 ((j : Nat) : Int))) p10 32 (sV ke km (I : Int) j c) := set_sh hp10 hel hml
    replace hW := hW.setCell (p := ⟨p10, 49, none⟩) lw_p10 (.int .u32 ((j : Nat) : Int))
    generalize w19.setCell ⟨p10, 49, none⟩ (.int .u32 ((j : Nat) : Int)) = w20 at *
    refine nilL ?_
    go_wp2
    go_meet
    exact ⟨I, j, c, x, hI, hj4, hc, hxl, hxb, hp10, hp11, hp3, hp5, hp7, hp8, hW⟩
   ·
    subst hr0
    go_upto_region 8 with fail
    refine wl_lit ?_
    refine runL 43 (.bool false) rfl (by rfl) (by go_simp) ?_
    simp only [ls0, ls1]
    refine runL 42 (.bool false) rfl (by rfl) (by go_simp) ?_
    simp only [ls0, ls1]
    refine nilL ?_
    go_upto_region 10 with fail
    refine wl_lit ?_
    refine runL 53 (.bool false) rfl (by rfl) (by go_simp) ?_
    simp only [ls0, ls1]
    refine runL 52 (.bool false) rfl (by rfl) (by go_simp) ?_
    simp only [ls0, ls1]
    refine nilL ?_
    go_upto_region 12 with fail
    refine wl_lit ?_
    refine runL 64 (.bool false) rfl (by rfl) (by go_simp) ?_
    simp only [ls0, ls1]
    refine runL 63 (.bool false) rfl (by rfl) (by go_simp) ?_
    simp only [ls0, ls1]
    refine nilL ?_
    go_upto_region 14 with fail
    refine wl_lit ?_
    refine runL 75 (.bool true) rfl (by rfl) (by go_simp) ?_
    simp only [ls0, ls1]
    refine runL 74 (.bool true) rfl (by rfl) (by go_simp) ?_
    simp only [ls0, ls1]
    refine nilL ?_
    obtain ⟨k, hk⟩ : ∃ k, b % 32 = k := ⟨_, rfl⟩
    have hk32 : k < 32 := by omega
    have hkI : (b : Int).tmod 32 = (k : Int) := by rw [Int.tmod_eq_emod_of_nonneg (by omega)]; omega
    have hkE : (b : Int) % 32 = (k : Int) := by omega
    have hk64 : IntKind.i64.wrap (k : Int) = (k : Int) := IntWalk.i64_in _ (by omega)
    have hk8 : IntKind.u8.wrap (k : Int) = (k : Int) := by simp [IntKind.wrap, IntKind.bits, IntKind.signed]; omega
    have hkL : (k : Int) < 32 := by omega
    obtain ⟨u, hu⟩ : ∃ u, x.getD k 0 = u := ⟨_, rfl⟩
    have hu256 : u < 256 := by rw [← hu]; exact hxb.get k
    have huq := Lib.hid hu
    have hvb : u ^^^ e < 256 := Nat.xor_lt_two_pow (n := 8) hu256 he
    obtain ⟨x2, hx2⟩ : ∃ y, x.set k (u ^^^ e) = y := ⟨_, rfl⟩
    have hx2l : x2.length = 32 := by rw [← hx2, List.length_set]; exact hxl
    have hx2b : Byt x2 := by rw [← hx2]; exact byt_set hxb k _ hvb
    have hx2q := Lib.hid hx2
    clear hx2
    have hxr : bits BinOp.xor IntKind.u8 (u : Int) (e : Int) = ((u ^^^ e : Nat) : Int) := u8_xor_nat _ _ hu256 he
    clear hu
    go_upto_region 15 with fail
    replace hp11 := hp11.drew
    refine wp_region_held_drew (S := fun wr => Blk wr p3 32 (sV ke km (I : Int) s c) ∧ Blk wr p5 56 (va .u8 ([a, b, e])) ∧ Blk wr p7 33 (va .u8 (x)) ∧ Blk wr p8 45 (va .u8 (t)) ∧ Blk wr p10 32 (sV ke km (I : Int) s c) ∧ Below B0 w wr) (by kernel_rfl) ⟨hp3.drew, hp5.drew, hp7.drew, hp8.drew, hp10.drew, below_drewN hW 1⟩ (fun hH => ?_)
    clear hp3 hp5 hp7 hp8 hp10 hW
    obtain ⟨hp3, hp5, hp7, hp8, hp10, hW⟩ := hH
    generalize w19.drew = w20 at *
    refine takeH 10 0 76 (.pointer (some ⟨p5, 1, none⟩)) rfl rfl (by kernel_rfl) (by kernel_rfl) (by kernel_rfl) (fun _ _ _ h => h) (Or.inl ⟨by rfl, fun w _ => by go_simp⟩) ⟨hp3, hp5, hp7, hp8, hp10, hW⟩ ?_
    simp only [ls0, ls1]
    refine takeH 9 1 77 (.int .u8 ((b : Nat) : Int)) rfl rfl (by kernel_rfl) (by kernel_rfl) (by kernel_rfl) (fun _ _ _ h => h) (Or.inl ⟨by rfl, fun _ h => exec_cell 5 (.tmp 76) rfl p5 1 rfl (.int .u8 ((b : Nat) : Int)) _ Tryd.underlying5 rfl (by exact h.2.1.num (by simp))⟩) ⟨hp3, hp5, hp7, hp8, hp10, hW⟩ ?_
    simp only [ls0, ls1]
    refine takeH 8 2 78 (.int .u8 (k : Int)) rfl rfl (by kernel_rfl) (by kernel_rfl) (by kernel_rfl) (fun _ _ _ h => h) (Or.inl ⟨by rfl, fun w _ => by go_simp⟩) ⟨hp3, hp5, hp7, hp8, hp10, hW⟩ ?_
    simp only [ls0, ls1]
    refine takeH 7 3 79 (.int .i64 (k : Int)) rfl rfl (by kernel_rfl) (by kernel_rfl) (by kernel_rfl) (fun _ _ _ h => h) (Or.inl ⟨by rfl, fun w _ => by go_simp⟩) ⟨hp3, hp5, hp7, hp8, hp10, hW⟩ ?_
    simp only [ls0, ls1]
    refine takeH 6 4 80 (.pointer (some ⟨p11, k, none⟩)) rfl rfl (by kernel_rfl) (by kernel_rfl) (by kernel_rfl) (fun _ _ _ h => h) (Or.inl ⟨by rfl, fun w _ => by go_simp⟩) ⟨hp3, hp5, hp7, hp8, hp10, hW⟩ ?_
    simp only [ls0, ls1]
    refine takeH 5 6 82 (.pointer (some ⟨p5, 2, none⟩)) rfl rfl (by kernel_rfl) (by kernel_rfl) (by kernel_rfl) (fun _ _ _ h => h) (Or.inl ⟨by rfl, fun w _ => by go_simp⟩) ⟨hp3, hp5, hp7, hp8, hp10, hW⟩ ?_
    simp only [ls0, ls1]
    refine takeH 4 7 83 (.int .u8 ((e : Nat) : Int)) rfl rfl (by kernel_rfl) (by kernel_rfl) (by kernel_rfl) (fun _ _ _ h => h) (Or.inl ⟨by rfl, fun _ h => exec_cell 5 (.tmp 82) rfl p5 2 rfl (.int .u8 ((e : Nat) : Int)) _ Tryd.underlying5 rfl (by exact h.2.1.num (by simp))⟩) ⟨hp3, hp5, hp7, hp8, hp10, hW⟩ ?_
    simp only [ls0, ls1]
    refine wpAnyH_ready (by kernel_rfl) (by simp) (readyRun 3 5 81 (.int .u8 ((u : Nat) : Int)) w20 rfl rfl (by rfl) (exec_cell 5 (.tmp 80) rfl p11 k rfl (.int .u8 ((u : Nat) : Int)) _ Tryd.underlying5 rfl (by rw [← huq.out]; exact hp11.num (by rw [hxl]; exact hk32))) ⟨hp3, hp5, hp7, hp8, hp10, hW⟩ (fun _ => ?_) AllReadyH.nil)
    simp only [ls0, ls1]
    refine takeH 2 8 84 (.int .u8 ((u ^^^ e : Nat) : Int)) rfl rfl (by kernel_rfl) (by kernel_rfl) (by kernel_rfl) (fun _ _ _ h => h) (Or.inl ⟨by rfl, fun w _ => by go_simp⟩) ⟨hp3, hp5, hp7, hp8, hp10, hW⟩ ?_
    simp only [ls0, ls1]
    refine takeH 1 9 85 (.pointer (some ⟨p11, k, none⟩)) rfl rfl (by kernel_rfl) (by kernel_rfl) (by kernel_rfl) (fun _ _ _ h => h) (Or.inl ⟨by rfl, fun w _ => by go_simp⟩) ⟨hp3, hp5, hp7, hp8, hp10, hW⟩ ?_
    simp only [ls0, ls1]
    refine wpAnyH_ready (by kernel_rfl) (by simp) (readyRunS 0 10 (w20.setCell ⟨p11, k, none⟩ (.int .u8 (((u ^^^ e) : Nat) : Int))) rfl rfl (by rfl) (exec_storeCell 5 (.tmp 85) (.tmp 84) rfl p11 k rfl (.int .u8 (((u ^^^ e) : Nat) : Int)) rfl rfl rfl 33 (va .u8 (x)) hp11 (by rw [va_size, hxl]; exact hk32) (by kernel_rfl)) ⟨hp3.far (p := ⟨p11, k, none⟩) (show p3 ≠ p11 from (by omega)) _, hp5.far (p := ⟨p11, k, none⟩) (show p5 ≠ p11 from (by omega)) _, hp7.far (p := ⟨p11, k, none⟩) (show p7 ≠ p11 from (by omega)) _, hp8.far (p := ⟨p11, k, none⟩) (show p8 ≠ p11 from (by omega)) _, hp10.far (p := ⟨p11, k, none⟩) (show p10 ≠ p11 from (by omega)) _, hW.setCell (p := ⟨p11, k, none⟩) lw_p11 _⟩ (fun _ => ?_) AllReadyH.nil)
    replace hp3 := hp3.far (p := ⟨p11, k, none⟩) (show p3 ≠ p11 from (by omega)) (.int .u8 (((u ^^^ e) : Nat) : Int))
    replace hp5 := hp5.far (p := ⟨p11, k, none⟩) (show p5 ≠ p11 from (by omega)) (.int .u8 (((u ^^^ e) : Nat) : Int))
    replace hp7 := hp7.far (p := ⟨p11, k, none⟩) (show p7 ≠ p11 from (by omega)) (.int .u8 (((u ^^^ e) : Nat) : Int))
    replace hp8 := hp8.far (p := ⟨p11, k, none⟩) (show p8 ≠ p11 from (by omega)) (.int .u8 (((u ^^^ e) : Nat) : Int))
    replace hp10 := hp10.far (p := ⟨p11, k, none⟩) (show p10 ≠ p11 from (by omega)) (.int .u8 (((u ^^^ e) : Nat) : Int))
    replace hp11 : Blk (w20.setCell ⟨p11, k, none⟩ (.int .u8 (((u ^^^ e) : Nat) : Int))) p11 33 (va .u8 (x2)) := by rw [← hx2q.out]; exact hp11.setNum k ((u ^^^ e))
    replace hW := hW.setCell (p := ⟨p11, k, none⟩) lw_p11 (.int .u8 (((u ^^^ e) : Nat) : Int))
    generalize w20.setCell ⟨p11, k, none⟩ (.int .u8 (((u ^^^ e) : Nat) : Int)) = w21 at *
    refine wpAnyH_done (by kernel_rfl) ?_ _
    go_wp2
    go_meet
    exact ⟨I, s, c, x2, hI, hs, hc, hx2l, hx2b, hp10, hp11, hp3, hp5, hp7, hp8, hW⟩
  case rest =>
   clear hp10 hp11 hp3 hp5 hp7 hp8 hW
   obtain ⟨i2, s2, c2, d2, hi2, hs2, hc2, hd2l, hd2b, hp10, hp11, hp3, hp5, hp7, hp8, hW⟩ := hcut
   generalize wc = w20 at *
   by_cases hE : i2 = I ∧ s2 = s ∧ c2 = c ∧ d2 = x
   ·
    obtain ⟨e1, e2, e3, e4⟩ := hE
    rw [e1, e2, e3] at hp10
    rw [e4] at hp11
    clear e1 e2 e3 e4 hd2l hd2b hi2 hs2 hc2
    go_upto_region 16 with fail
    refine wl_lit ?_
    refine runL 87 (.pointer (some ⟨p10, 0, none⟩)) rfl (by rfl) (by go_simp) ?_
    simp only [ls0, ls1]
    refine runL 88 (.agg (va .u8 (ke ++ km))) rfl (by rfl) (exec_mid 26 (.tmp 87) rfl p10 0 rfl (nv .u8 (ke ++ km)) _ (sV_keys hp10 hel hml) (by exact Tryd.underlying26) rfl (szKs _ _ hel hml)) ?_
    simp only [ls0, ls1]
    refine runL 89 (.pointer (some ⟨p10, 48, none⟩)) rfl (by rfl) (by go_simp) ?_
    simp only [ls0, ls1]
    refine runL 90 (.int .i64 (I : Int)) rfl (by rfl) (exec_cell 3 (.tmp 89) rfl p10 48 rfl (.int .i64 (I : Int)) _ Tryd.underlying3 rfl (sV_idx hp10 hel hml)) ?_
    simp only [ls0, ls1]
    refine runL 91 (.pointer (some ⟨p10, 49, none⟩)) rfl (by rfl) (by go_simp) ?_
    simp only [ls0, ls1]
    refine runL 92 (.agg (noV s c)) rfl (by rfl) (exec_mid 30 (.tmp 91) rfl p10 49 rfl ((noV s c).toList) _ (sV_no hp10 hel hml) (by exact Tryd.underlying30) rfl (by kernel_rfl)) ?_
    simp only [ls0, ls1]
    refine runL 93 (.agg (va .u8 (x))) rfl (by rfl) (exec_row 33 (.tmp 11) rfl p11 rfl 33 (va .u8 (x)) _ hp11 (by exact Tryd.underlying33) rfl (sz_api_Block _ (hxl))) ?_
    simp only [ls0, ls1]
    refine runL 94 (.agg (va .u8 (t))) rfl (by rfl) (exec_row 45 (.tmp 8) rfl p8 rfl 45 (va .u8 (t)) _ hp8 (by exact Tryd.underlying45) rfl (sz_api_Digest _ (htl))) ?_
    simp only [ls0, ls1]
    refine callL 95 rfl (by rfl) (fun K hK => wp_callF 15 #[.agg (va .u8 (ke ++ km)), .int .i64 (I : Int), .agg (noV s c), .agg (va .u8 (x)), .agg (va .u8 (t))] (by go_simp) (sopen_ok ke km hel hml heb hmb I s c x hI hs hxl hxb t htl htb htq.out d hbq.out hdl hdb _ (gl.out _ hW)) ?_)
    rintro e w21 ⟨rfl, bx⟩
    replace hp3 := hp3.below bx hp3.lt
    replace hp5 := hp5.below bx hp5.lt
    replace hp7 := hp7.below bx hp7.lt
    replace hp8 := hp8.below bx hp8.lt
    replace hp10 := hp10.below bx hp10.lt
    replace hp11 := hp11.below bx hp11.lt
    replace hW := hW.trans (bx.mono (Nat.le_trans hB0 hW.size))
    clear bx
    refine ⟨_, rfl, hK.out _ _ ?_⟩
    clear hK K
    simp only [ls0, ls1]
    refine runL 86 (.tuple #[.agg (va .u8 (d)), .int .i64 0]) rfl (by rfl) (by go_simp) ?_
    simp only [ls0, ls1]
    refine runL 96 (.agg (va .u8 (d))) rfl (by rfl) (by go_simp) ?_
    simp only [ls0, ls1]
    refine runL 97 (.int .i64 0) rfl (by rfl) (by go_simp) ?_
    simp only [ls0, ls1]
    refine runWL 12 (.pointer (some ⟨w21.heap.size, 0, none⟩)) (w21.alloc (.cells (va .u8 (z)) 33)) rfl (by rfl) (exec_allocV 33 rfl _ (zv_blkz z hzq.out _)) ?_
    simp only [ls0, ls1]
    have lp3_p12 := hp3.lt
    have lp5_p12 := hp5.lt
    have lp7_p12 := hp7.lt
    have lp8_p12 := hp8.lt
    have lp10_p12 := hp10.lt
    have lp11_p12 := hp11.lt
    have lw_p12 := Nat.le_trans hB0 hW.size
    have hp12 : Blk (w21.alloc (.cells (va .u8 (z)) 33)) w21.heap.size 33 (va .u8 (z)) := Blk.new _ _ _
    replace hp3 := hp3.alloc (.cells (va .u8 (z)) 33)
    replace hp5 := hp5.alloc (.cells (va .u8 (z)) 33)
    replace hp7 := hp7.alloc (.cells (va .u8 (z)) 33)
    replace hp8 := hp8.alloc (.cells (va .u8 (z)) 33)
    replace hp10 := hp10.alloc (.cells (va .u8 (z)) 33)
    replace hp11 := hp11.alloc (.cells (va .u8 (z)) 33)
    replace hW := hW.alloc (Nat.le_trans hB0 hW.size) (.cells (va .u8 (z)) 33)
    generalize w21.alloc (.cells (va .u8 (z)) 33) = w22 at *
    generalize w21.heap.size = p12 at hp12 lw_p12 lp3_p12 lp5_p12 lp7_p12 lp8_p12 lp10_p12 lp11_p12 ⊢
    refine runSL (w22.setRow p12 (va .u8 (d))) rfl (by rfl) (exec_storeRow 33 (.tmp 12) (.tmp 96) rfl p12 rfl (va .u8 (d)) rfl 33 (va .u8 (z)) hp12 (sz_eq (sz_api_Block _ (hzl)) (sz_api_Block _ (hdl))) (sz_api_Block _ (hdl)) (va_ones .u8 _)) ?_
    replace hp3 := hp3.rowFar (show p12 ≠ p3 from (by omega)) (va .u8 (d))
    replace hp5 := hp5.rowFar (show p12 ≠ p5 from (by omega)) (va .u8 (d))
    replace hp7 := hp7.rowFar (show p12 ≠ p7 from (by omega)) (va .u8 (d))
    replace hp8 := hp8.rowFar (show p12 ≠ p8 from (by omega)) (va .u8 (d))
    replace hp10 := hp10.rowFar (show p12 ≠ p10 from (by omega)) (va .u8 (d))
    replace hp11 := hp11.rowFar (show p12 ≠ p11 from (by omega)) (va .u8 (d))
    replace hp12 := hp12.row (va .u8 (d))
    replace hW := below_setRow hW lw_p12 (va .u8 (d))
    generalize w22.setRow p12 (va .u8 (d)) = w23 at *
    refine runL 13 (.int .i64 0) rfl (by rfl) (by go_simp) ?_
    simp only [ls0, ls1]
    refine nilL ?_
    go_upto_region 17 with fail
    refine wl_lit ?_
    refine runL 98 (.pointer (some ⟨p3, 48, none⟩)) rfl (by rfl) (by go_simp) ?_
    simp only [ls0, ls1]
    refine runL 99 (.int .i64 (I : Int)) rfl (by rfl) (exec_cell 3 (.tmp 98) rfl p3 48 rfl (.int .i64 (I : Int)) _ Tryd.underlying3 rfl (sV_idx hp3 hel hml)) ?_
    simp only [ls0, ls1]
    refine runL 100 (.pointer (some ⟨p3, 49, none⟩)) rfl (by rfl) (by go_simp) ?_
    simp only [ls0, ls1]
    refine runL 101 (.agg (noV s c)) rfl (by rfl) (exec_mid 30 (.tmp 100) rfl p3 49 rfl ((noV s c).toList) _ (sV_no hp3 hel hml) (by exact Tryd.underlying30) rfl (by kernel_rfl)) ?_
    simp only [ls0, ls1]
    refine runL 102 (.agg (va .u8 (x))) rfl (by rfl) (exec_row 33 (.tmp 7) rfl p7 rfl 33 (va .u8 (x)) _ hp7 (by exact Tryd.underlying33) rfl (sz_api_Block _ (hxl))) ?_
    simp only [ls0, ls1]
    refine callL 103 rfl (by rfl) (fun K hK => wp_callF 13 #[.int .i64 (I : Int), .agg (noV s c), .agg (va .u8 (x))] (by go_simp) (rmsg_any I s c x hI hs hxl hxb hc _) ?_)
    rintro e w24 ⟨AM, cAM, rfl, hAM, bx⟩
    have nAM_p3 := hAM.off_lt hp3.lt
    have nAM_p5 := hAM.off_lt hp5.lt
    have nAM_p7 := hAM.off_lt hp7.lt
    have nAM_p8 := hAM.off_lt hp8.lt
    have nAM_p10 := hAM.off_lt hp10.lt
    have nAM_p11 := hAM.off_lt hp11.lt
    have nAM_p12 := hAM.off_lt hp12.lt
    replace hAM := hAM.mono (Nat.le_trans hB0 hW.size)
    replace hp3 := hp3.below bx hp3.lt
    replace hp5 := hp5.below bx hp5.lt
    replace hp7 := hp7.below bx hp7.lt
    replace hp8 := hp8.below bx hp8.lt
    replace hp10 := hp10.below bx hp10.lt
    replace hp11 := hp11.below bx hp11.lt
    replace hp12 := hp12.below bx hp12.lt
    replace hW := hW.trans (bx.mono (Nat.le_trans hB0 hW.size))
    clear bx
    refine ⟨_, rfl, hK.out _ _ ?_⟩
    clear hK K
    simp only [ls0, ls1]
    refine runL 104 (.string (bst (msg I s c x))) rfl (by rfl) (exec_conv 34 9 (.tmp 103) rfl (.slice (AM) 48 cAM) (.string (bst (msg I s c x))) rfl (Reads.string hAM.reads _ _ Tryd.underlying34 Tryd.underlying9)) ?_
    simp only [ls0, ls1]
    refine runL 14 (.string (bst (msg I s c x))) rfl (by rfl) (by go_simp) ?_
    simp only [ls0, ls1]
    refine nilL ?_
    clear hAM
    go_upto_region 18 with fail
    refine wl_lit ?_
    refine runL 105 (.pointer (some ⟨p10, 48, none⟩)) rfl (by rfl) (by go_simp) ?_
    simp only [ls0, ls1]
    refine runL 106 (.int .i64 (I : Int)) rfl (by rfl) (exec_cell 3 (.tmp 105) rfl p10 48 rfl (.int .i64 (I : Int)) _ Tryd.underlying3 rfl (sV_idx hp10 hel hml)) ?_
    simp only [ls0, ls1]
    refine runL 107 (.pointer (some ⟨p10, 49, none⟩)) rfl (by rfl) (by go_simp) ?_
    simp only [ls0, ls1]
    refine runL 108 (.agg (noV s c)) rfl (by rfl) (exec_mid 30 (.tmp 107) rfl p10 49 rfl ((noV s c).toList) _ (sV_no hp10 hel hml) (by exact Tryd.underlying30) rfl (by kernel_rfl)) ?_
    simp only [ls0, ls1]
    refine runL 109 (.agg (va .u8 (x))) rfl (by rfl) (exec_row 33 (.tmp 11) rfl p11 rfl 33 (va .u8 (x)) _ hp11 (by exact Tryd.underlying33) rfl (sz_api_Block _ (hxl))) ?_
    simp only [ls0, ls1]
    refine callL 110 rfl (by rfl) (fun K hK => wp_callF 13 #[.int .i64 (I : Int), .agg (noV s c), .agg (va .u8 (x))] (by go_simp) (rmsg_any I s c x hI hs hxl hxb hc _) ?_)
    rintro e w25 ⟨AN, cAN, rfl, hAN, bx⟩
    have nAN_p3 := hAN.off_lt hp3.lt
    have nAN_p5 := hAN.off_lt hp5.lt
    have nAN_p7 := hAN.off_lt hp7.lt
    have nAN_p8 := hAN.off_lt hp8.lt
    have nAN_p10 := hAN.off_lt hp10.lt
    have nAN_p11 := hAN.off_lt hp11.lt
    have nAN_p12 := hAN.off_lt hp12.lt
    replace hAN := hAN.mono (Nat.le_trans hB0 hW.size)
    replace hp3 := hp3.below bx hp3.lt
    replace hp5 := hp5.below bx hp5.lt
    replace hp7 := hp7.below bx hp7.lt
    replace hp8 := hp8.below bx hp8.lt
    replace hp10 := hp10.below bx hp10.lt
    replace hp11 := hp11.below bx hp11.lt
    replace hp12 := hp12.below bx hp12.lt
    replace hW := hW.trans (bx.mono (Nat.le_trans hB0 hW.size))
    clear bx
    refine ⟨_, rfl, hK.out _ _ ?_⟩
    clear hK K
    simp only [ls0, ls1]
    refine runL 111 (.string (bst (msg I s c x))) rfl (by rfl) (exec_conv 34 9 (.tmp 110) rfl (.slice (AN) 48 cAN) (.string (bst (msg I s c x))) rfl (Reads.string hAN.reads _ _ Tryd.underlying34 Tryd.underlying9)) ?_
    simp only [ls0, ls1]
    refine runL 15 (.string (bst (msg I s c x))) rfl (by rfl) (by go_simp) ?_
    simp only [ls0, ls1]
    refine nilL ?_
    clear hAN
    go_upto_region 19 with fail
    refine wl_lit ?_
    refine runL 112 (.agg (sV ke km (I : Int) s c)) rfl (by rfl) (exec_row 32 (.tmp 10) rfl p10 rfl 32 (sV ke km (I : Int) s c) _ hp10 (by exact Tryd.underlying32) rfl (sV_sz _ _ _ hel hml)) ?_
    simp only [ls0, ls1]
    refine runL 113 (.agg (sV ke km (I : Int) s c)) rfl (by rfl) (exec_row 32 (.tmp 3) rfl p3 rfl 32 (sV ke km (I : Int) s c) _ hp3 (by exact Tryd.underlying32) rfl (sV_sz _ _ _ hel hml)) ?_
    simp only [ls0, ls1]
    refine runL 114 (.bool true) rfl (by rfl) (exec_eqV 32 (by kernel_rfl) (.tmp 112) (.tmp 113) _ rfl (sV ke km (I : Int) s c) (sV ke km (I : Int) s c) rfl rfl true (eqS ke km hel hml _ _ _ _ _ _ _ (by simp) _)) ?_
    simp only [ls0, ls1]
    refine runL 115 (.bool true) rfl (by rfl) (by go_simp) ?_
    simp only [ls0, ls1]
    refine runL 116 (.agg (va .u8 (x))) rfl (by rfl) (exec_row 33 (.tmp 11) rfl p11 rfl 33 (va .u8 (x)) _ hp11 (by exact Tryd.underlying33) rfl (sz_api_Block _ (hxl))) ?_
    simp only [ls0, ls1]
    refine runL 117 (.agg (va .u8 (x))) rfl (by rfl) (exec_row 33 (.tmp 7) rfl p7 rfl 33 (va .u8 (x)) _ hp7 (by exact Tryd.underlying33) rfl (sz_api_Block _ (hxl))) ?_
    simp only [ls0, ls1]
    refine runL 118 (.bool true) rfl (by rfl) (exec_eqB 33 32 (by kernel_rfl) (by kernel_rfl) (.tmp 116) (.tmp 117) _ rfl (x) (x) (hxl) (hxl) rfl rfl true (by simp)) ?_
    simp only [ls0, ls1]
    refine runL 119 (.bool true) rfl (by rfl) (by go_simp) ?_
    simp only [ls0, ls1]
    refine runL 16 (.bool true) rfl (by rfl) (by go_simp) ?_
    simp only [ls0, ls1]
    refine nilL ?_
    go_upto_region 20 with fail
    refine wl_lit ?_
    refine runL 121 (.pointer (some ⟨p10, 0, none⟩)) rfl (by rfl) (by go_simp) ?_
    simp only [ls0, ls1]
    refine runL 122 (.pointer (some ⟨p10, 0, none⟩)) rfl (by rfl) (by go_simp) ?_
    simp only [ls0, ls1]
    refine runL 123 (.agg (va .u8 (ke))) rfl (by rfl) (exec_mid 22 (.tmp 122) rfl p10 0 rfl (nv .u8 ke) _ (sV_enc hp10 hel hml) (by exact Tryd.underlying22) rfl (sz16D _ hel)) ?_
    simp only [ls0, ls1]
    refine runL 124 (.pointer (some ⟨p10, 0, none⟩)) rfl (by rfl) (by go_simp) ?_
    simp only [ls0, ls1]
    refine runL 125 (.pointer (some ⟨p10, 16, none⟩)) rfl (by rfl) (by go_simp) ?_
    simp only [ls0, ls1]
    refine runL 126 (.agg (va .u8 (km))) rfl (by rfl) (exec_mid 24 (.tmp 125) rfl p10 16 rfl (nv .u8 km) _ (sV_mac hp10 hel hml) (by exact Tryd.underlying24) rfl (szKD _ hml)) ?_
    simp only [ls0, ls1]
    refine runL 127 (.pointer (some ⟨p10, 48, none⟩)) rfl (by rfl) (by go_simp) ?_
    simp only [ls0, ls1]
    refine runL 128 (.int .i64 (I : Int)) rfl (by rfl) (exec_cell 3 (.tmp 127) rfl p10 48 rfl (.int .i64 (I : Int)) _ Tryd.underlying3 rfl (sV_idx hp10 hel hml)) ?_
    simp only [ls0, ls1]
    refine runL 129 (.pointer (some ⟨p10, 49, none⟩)) rfl (by rfl) (by go_simp) ?_
    simp only [ls0, ls1]
    refine runL 130 (.agg (noV s c)) rfl (by rfl) (exec_mid 30 (.tmp 129) rfl p10 49 rfl ((noV s c).toList) _ (sV_no hp10 hel hml) (by exact Tryd.underlying30) rfl (by kernel_rfl)) ?_
    simp only [ls0, ls1]
    refine runL 131 (.agg (va .u8 (x))) rfl (by rfl) (exec_row 33 (.tmp 11) rfl p11 rfl 33 (va .u8 (x)) _ hp11 (by exact Tryd.underlying33) rfl (sz_api_Block _ (hxl))) ?_
    simp only [ls0, ls1]
    refine runL 132 (.agg (va .u8 (t))) rfl (by rfl) (exec_row 45 (.tmp 8) rfl p8 rfl 45 (va .u8 (t)) _ hp8 (by exact Tryd.underlying45) rfl (sz_api_Digest _ (htl))) ?_
    simp only [ls0, ls1]
    refine callL 133 rfl (by rfl) (fun K hK => wp_callF 17 #[.agg (va .u8 (ke)), .agg (va .u8 (km)), .int .i64 (I : Int), .agg (noV s c), .agg (va .u8 (x)), .agg (va .u8 (t))] (by go_simp) (ropen_ok ke km hel hml heb hmb I s c x hI hs hxl hxb hc t htl htb htq.out d hbq.out hdl hdb _) ?_)
    rintro e w26 ⟨rfl, bx⟩
    replace hp3 := hp3.below bx hp3.lt
    replace hp5 := hp5.below bx hp5.lt
    replace hp7 := hp7.below bx hp7.lt
    replace hp8 := hp8.below bx hp8.lt
    replace hp10 := hp10.below bx hp10.lt
    replace hp11 := hp11.below bx hp11.lt
    replace hp12 := hp12.below bx hp12.lt
    replace hW := hW.trans (bx.mono (Nat.le_trans hB0 hW.size))
    clear bx
    refine ⟨_, rfl, hK.out _ _ ?_⟩
    clear hK K
    simp only [ls0, ls1]
    refine runL 120 (.tuple #[.agg (va .u8 (d)), .int .i64 0]) rfl (by rfl) (by go_simp) ?_
    simp only [ls0, ls1]
    refine runL 134 (.agg (va .u8 (d))) rfl (by rfl) (by go_simp) ?_
    simp only [ls0, ls1]
    refine runL 135 (.int .i64 0) rfl (by rfl) (by go_simp) ?_
    simp only [ls0, ls1]
    refine runWL 17 (.pointer (some ⟨w26.heap.size, 0, none⟩)) (w26.alloc (.cells (va .u8 (z)) 33)) rfl (by rfl) (exec_allocV 33 rfl _ (zv_blkz z hzq.out _)) ?_
    simp only [ls0, ls1]
    have lp3_p17 := hp3.lt
    have lp5_p17 := hp5.lt
    have lp7_p17 := hp7.lt
    have lp8_p17 := hp8.lt
    have lp10_p17 := hp10.lt
    have lp11_p17 := hp11.lt
    have lp12_p17 := hp12.lt
    have lw_p17 := Nat.le_trans hB0 hW.size
    have hp17 : Blk (w26.alloc (.cells (va .u8 (z)) 33)) w26.heap.size 33 (va .u8 (z)) := Blk.new _ _ _
    replace hp3 := hp3.alloc (.cells (va .u8 (z)) 33)
    replace hp5 := hp5.alloc (.cells (va .u8 (z)) 33)
    replace hp7 := hp7.alloc (.cells (va .u8 (z)) 33)
    replace hp8 := hp8.alloc (.cells (va .u8 (z)) 33)
    replace hp10 := hp10.alloc (.cells (va .u8 (z)) 33)
    replace hp11 := hp11.alloc (.cells (va .u8 (z)) 33)
    replace hp12 := hp12.alloc (.cells (va .u8 (z)) 33)
    replace hW := hW.alloc (Nat.le_trans hB0 hW.size) (.cells (va .u8 (z)) 33)
    generalize w26.alloc (.cells (va .u8 (z)) 33) = w27 at *
    generalize w26.heap.size = p17 at hp17 lw_p17 lp3_p17 lp5_p17 lp7_p17 lp8_p17 lp10_p17 lp11_p17 lp12_p17 ⊢
    refine runSL (w27.setRow p17 (va .u8 (d))) rfl (by rfl) (exec_storeRow 33 (.tmp 17) (.tmp 134) rfl p17 rfl (va .u8 (d)) rfl 33 (va .u8 (z)) hp17 (sz_eq (sz_api_Block _ (hzl)) (sz_api_Block _ (hdl))) (sz_api_Block _ (hdl)) (va_ones .u8 _)) ?_
    replace hp3 := hp3.rowFar (show p17 ≠ p3 from (by omega)) (va .u8 (d))
    replace hp5 := hp5.rowFar (show p17 ≠ p5 from (by omega)) (va .u8 (d))
    replace hp7 := hp7.rowFar (show p17 ≠ p7 from (by omega)) (va .u8 (d))
    replace hp8 := hp8.rowFar (show p17 ≠ p8 from (by omega)) (va .u8 (d))
    replace hp10 := hp10.rowFar (show p17 ≠ p10 from (by omega)) (va .u8 (d))
    replace hp11 := hp11.rowFar (show p17 ≠ p11 from (by omega)) (va .u8 (d))
    replace hp12 := hp12.rowFar (show p17 ≠ p12 from (by omega)) (va .u8 (d))
    replace hp17 := hp17.row (va .u8 (d))
    replace hW := below_setRow hW lw_p17 (va .u8 (d))
    generalize w27.setRow p17 (va .u8 (d)) = w28 at *
    refine runL 18 (.int .i64 0) rfl (by rfl) (by go_simp) ?_
    simp only [ls0, ls1]
    refine nilL ?_
    go_upto_region 21 with fail
    refine wl_lit ?_
    refine runL 136 (.string (bst (msg I s c x))) rfl (by rfl) (by go_simp) ?_
    simp only [ls0, ls1]
    refine runL 137 (.string (bst (msg I s c x))) rfl (by rfl) (by go_simp) ?_
    simp only [ls0, ls1]
    refine runL 138 (.bool true) rfl (by rfl) (by go_simp) ?_
    simp only [ls0, ls1]
    refine runL 139 (.bool true) rfl (by rfl) (by go_simp) ?_
    simp only [ls0, ls1]
    refine runL 140 (.bool true) rfl (by rfl) (by go_simp) ?_
    simp only [ls0, ls1]
    refine runL 141 (.bool true) rfl (by rfl) (by go_simp) ?_
    simp only [ls0, ls1]
    refine runL 142 (.int .i64 0) rfl (by rfl) (by go_simp) ?_
    simp only [ls0, ls1]
    refine runL 143 (.bool true) rfl (by rfl) (by go_simp) ?_
    simp only [ls0, ls1]
    refine runL 144 (.int .i64 0) rfl (by rfl) (by go_simp) ?_
    simp only [ls0, ls1]
    refine runL 145 (.bool true) rfl (by rfl) (by go_simp) ?_
    simp only [ls0, ls1]
    refine runL 146 (.bool true) rfl (by rfl) (by go_simp) ?_
    simp only [ls0, ls1]
    refine runL 147 (.bool true) rfl (by rfl) (by go_simp) ?_
    simp only [ls0, ls1]
    refine runL 148 (.bool true) rfl (by rfl) (by go_simp) ?_
    simp only [ls0, ls1]
    refine runL 149 (.bool true) rfl (by rfl) (by go_simp) ?_
    simp only [ls0, ls1]
    refine runL 150 (.bool false) rfl (by rfl) (by go_simp) ?_
    simp only [ls0, ls1]
    refine runL 151 (.bool false) rfl (by rfl) (by go_simp) ?_
    simp only [ls0, ls1]
    refine runL 152 (.int .i64 0) rfl (by rfl) (by go_simp) ?_
    simp only [ls0, ls1]
    refine runL 153 (.bool true) rfl (by rfl) (by go_simp) ?_
    simp only [ls0, ls1]
    refine runL 154 (.bool true) rfl (by rfl) (by go_simp) ?_
    simp only [ls0, ls1]
    refine runL 155 (.bool true) rfl (by rfl) (by go_simp) ?_
    simp only [ls0, ls1]
    refine runL 156 (.bool true) rfl (by rfl) (by go_simp) ?_
    simp only [ls0, ls1]
    refine callL 157 rfl (by rfl) (fun K hK => wp_callF 8 #[] (by go_simp) (lives09_any _ (gl.out _ hW)) ?_)
    rintro e w29 ⟨rfl, bx⟩
    replace hp3 := hp3.below bx hp3.lt
    replace hp5 := hp5.below bx hp5.lt
    replace hp7 := hp7.below bx hp7.lt
    replace hp8 := hp8.below bx hp8.lt
    replace hp10 := hp10.below bx hp10.lt
    replace hp11 := hp11.below bx hp11.lt
    replace hp12 := hp12.below bx hp12.lt
    replace hp17 := hp17.below bx hp17.lt
    replace hW := hW.trans (bx.mono (Nat.le_trans hB0 hW.size))
    clear bx
    refine ⟨_, rfl, hK.out _ _ ?_⟩
    clear hK K
    simp only [ls0, ls1]
    refine runL 158 (.bool true) rfl (by rfl) (by go_simp) ?_
    simp only [ls0, ls1]
    refine runL 6 (.bool true) rfl (by rfl) (by go_simp) ?_
    simp only [ls0, ls1]
    refine nilL ?_
    go_wp2_with fail
    go_ret
    exact ⟨rfl, hW⟩
   ·
    have hmne : msg I s c x ≠ msg i2 s2 c2 d2 := fun h => hE (by
     obtain ⟨e1, e2, e3, e4⟩ := msg_inj (by omega) hs hc (by omega) hs2 hc2 h
     exact ⟨e1.symm, e2.symm, e3.symm, e4.symm⟩)
    have hne9 := bst_ne _ _ (msg_byt hxb) (msg_byt hd2b) hmne
    obtain ⟨y, hy⟩ : ∃ y, kxor ke s2 c2 0 d2 = y := ⟨_, rfl⟩
    have hyl : y.length = 32 := by rw [← hy, kxor_len, hd2l]
    have hyb : Byt y := by rw [← hy]; exact kxor_byt heb hd2b
    have hyq := Lib.hid hy
    clear hy hmne
    obtain ⟨r2, hr2⟩ : ∃ r2, (decide ((i2 : Int) = (I : Int)) && decide (s2 = s ∧ c2 = c)) = r2 := ⟨_, rfl⟩
    have hd9 : r2 = true → ¬ d2 = x := fun h1 h2 => hE (by
     rw [h1, Bool.and_eq_true, decide_eq_true_eq, decide_eq_true_eq] at hr2
     exact ⟨by omega, hr2.2.1, hr2.2.2, h2⟩)
    have hSq := Lib.hid hr2
    clear hr2 hE
    by_cases hv : hm km (msg i2 s2 c2 d2) = t
    ·
     have hvq := Lib.hid hv
     clear hv
     cases r2
     ·
      clear hd9
      go_upto_region 16 with fail
      refine wl_lit ?_
      refine runL 87 (.pointer (some ⟨p10, 0, none⟩)) rfl (by rfl) (by go_simp) ?_
      simp only [ls0, ls1]
      refine runL 88 (.agg (va .u8 (ke ++ km))) rfl (by rfl) (exec_mid 26 (.tmp 87) rfl p10 0 rfl (nv .u8 (ke ++ km)) _ (sV_keys hp10 hel hml) (by exact Tryd.underlying26) rfl (szKs _ _ hel hml)) ?_
      simp only [ls0, ls1]
      refine runL 89 (.pointer (some ⟨p10, 48, none⟩)) rfl (by rfl) (by go_simp) ?_
      simp only [ls0, ls1]
      refine runL 90 (.int .i64 (i2 : Int)) rfl (by rfl) (exec_cell 3 (.tmp 89) rfl p10 48 rfl (.int .i64 (i2 : Int)) _ Tryd.underlying3 rfl (sV_idx hp10 hel hml)) ?_
      simp only [ls0, ls1]
      refine runL 91 (.pointer (some ⟨p10, 49, none⟩)) rfl (by rfl) (by go_simp) ?_
      simp only [ls0, ls1]
      refine runL 92 (.agg (noV s2 c2)) rfl (by rfl) (exec_mid 30 (.tmp 91) rfl p10 49 rfl ((noV s2 c2).toList) _ (sV_no hp10 hel hml) (by exact Tryd.underlying30) rfl (by kernel_rfl)) ?_
      simp only [ls0, ls1]
      refine runL 93 (.agg (va .u8 (d2))) rfl (by rfl) (exec_row 33 (.tmp 11) rfl p11 rfl 33 (va .u8 (d2)) _ hp11 (by exact Tryd.underlying33) rfl (sz_api_Block _ (hd2l))) ?_
      simp only [ls0, ls1]
      refine runL 94 (.agg (va .u8 (t))) rfl (by rfl) (exec_row 45 (.tmp 8) rfl p8 rfl 45 (va .u8 (t)) _ hp8 (by exact Tryd.underlying45) rfl (sz_api_Digest _ (htl))) ?_
      simp only [ls0, ls1]
      refine callL 95 rfl (by rfl) (fun K hK => wp_callF 15 #[.agg (va .u8 (ke ++ km)), .int .i64 (i2 : Int), .agg (noV s2 c2), .agg (va .u8 (d2)), .agg (va .u8 (t))] (by go_simp) (sopen_ok ke km hel hml heb hmb i2 s2 c2 d2 hi2 hs2 hd2l hd2b t htl htb hvq.out y hyq.out hyl hyb _ (gl.out _ hW)) ?_)
      rintro e w21 ⟨rfl, bx⟩
      replace hp3 := hp3.below bx hp3.lt
      replace hp5 := hp5.below bx hp5.lt
      replace hp7 := hp7.below bx hp7.lt
      replace hp8 := hp8.below bx hp8.lt
      replace hp10 := hp10.below bx hp10.lt
      replace hp11 := hp11.below bx hp11.lt
      replace hW := hW.trans (bx.mono (Nat.le_trans hB0 hW.size))
      clear bx
      refine ⟨_, rfl, hK.out _ _ ?_⟩
      clear hK K
      simp only [ls0, ls1]
      refine runL 86 (.tuple #[.agg (va .u8 (y)), .int .i64 0]) rfl (by rfl) (by go_simp) ?_
      simp only [ls0, ls1]
      refine runL 96 (.agg (va .u8 (y))) rfl (by rfl) (by go_simp) ?_
      simp only [ls0, ls1]
      refine runL 97 (.int .i64 0) rfl (by rfl) (by go_simp) ?_
      simp only [ls0, ls1]
      refine runWL 12 (.pointer (some ⟨w21.heap.size, 0, none⟩)) (w21.alloc (.cells (va .u8 (z)) 33)) rfl (by rfl) (exec_allocV 33 rfl _ (zv_blkz z hzq.out _)) ?_
      simp only [ls0, ls1]
      have lp3_p12 := hp3.lt
      have lp5_p12 := hp5.lt
      have lp7_p12 := hp7.lt
      have lp8_p12 := hp8.lt
      have lp10_p12 := hp10.lt
      have lp11_p12 := hp11.lt
      have lw_p12 := Nat.le_trans hB0 hW.size
      have hp12 : Blk (w21.alloc (.cells (va .u8 (z)) 33)) w21.heap.size 33 (va .u8 (z)) := Blk.new _ _ _
      replace hp3 := hp3.alloc (.cells (va .u8 (z)) 33)
      replace hp5 := hp5.alloc (.cells (va .u8 (z)) 33)
      replace hp7 := hp7.alloc (.cells (va .u8 (z)) 33)
      replace hp8 := hp8.alloc (.cells (va .u8 (z)) 33)
      replace hp10 := hp10.alloc (.cells (va .u8 (z)) 33)
      replace hp11 := hp11.alloc (.cells (va .u8 (z)) 33)
      replace hW := hW.alloc (Nat.le_trans hB0 hW.size) (.cells (va .u8 (z)) 33)
      generalize w21.alloc (.cells (va .u8 (z)) 33) = w22 at *
      generalize w21.heap.size = p12 at hp12 lw_p12 lp3_p12 lp5_p12 lp7_p12 lp8_p12 lp10_p12 lp11_p12 ⊢
      refine runSL (w22.setRow p12 (va .u8 (y))) rfl (by rfl) (exec_storeRow 33 (.tmp 12) (.tmp 96) rfl p12 rfl (va .u8 (y)) rfl 33 (va .u8 (z)) hp12 (sz_eq (sz_api_Block _ (hzl)) (sz_api_Block _ (hyl))) (sz_api_Block _ (hyl)) (va_ones .u8 _)) ?_
      replace hp3 := hp3.rowFar (show p12 ≠ p3 from (by omega)) (va .u8 (y))
      replace hp5 := hp5.rowFar (show p12 ≠ p5 from (by omega)) (va .u8 (y))
      replace hp7 := hp7.rowFar (show p12 ≠ p7 from (by omega)) (va .u8 (y))
      replace hp8 := hp8.rowFar (show p12 ≠ p8 from (by omega)) (va .u8 (y))
      replace hp10 := hp10.rowFar (show p12 ≠ p10 from (by omega)) (va .u8 (y))
      replace hp11 := hp11.rowFar (show p12 ≠ p11 from (by omega)) (va .u8 (y))
      replace hp12 := hp12.row (va .u8 (y))
      replace hW := below_setRow hW lw_p12 (va .u8 (y))
      generalize w22.setRow p12 (va .u8 (y)) = w23 at *
      refine runL 13 (.int .i64 0) rfl (by rfl) (by go_simp) ?_
      simp only [ls0, ls1]
      refine nilL ?_
      go_upto_region 17 with fail
      refine wl_lit ?_
      refine runL 98 (.pointer (some ⟨p3, 48, none⟩)) rfl (by rfl) (by go_simp) ?_
      simp only [ls0, ls1]
      refine runL 99 (.int .i64 (I : Int)) rfl (by rfl) (exec_cell 3 (.tmp 98) rfl p3 48 rfl (.int .i64 (I : Int)) _ Tryd.underlying3 rfl (sV_idx hp3 hel hml)) ?_
      simp only [ls0, ls1]
      refine runL 100 (.pointer (some ⟨p3, 49, none⟩)) rfl (by rfl) (by go_simp) ?_
      simp only [ls0, ls1]
      refine runL 101 (.agg (noV s c)) rfl (by rfl) (exec_mid 30 (.tmp 100) rfl p3 49 rfl ((noV s c).toList) _ (sV_no hp3 hel hml) (by exact Tryd.underlying30) rfl (by kernel_rfl)) ?_
      simp only [ls0, ls1]
      refine runL 102 (.agg (va .u8 (x))) rfl (by rfl) (exec_row 33 (.tmp 7) rfl p7 rfl 33 (va .u8 (x)) _ hp7 (by exact Tryd.underlying33) rfl (sz_api_Block _ (hxl))) ?_
      simp only [ls0, ls1]
      refine callL 103 rfl (by rfl) (fun K hK => wp_callF 13 #[.int .i64 (I : Int), .agg (noV s c), .agg (va .u8 (x))] (by go_simp) (rmsg_any I s c x hI hs hxl hxb hc _) ?_)
      rintro e w24 ⟨AM, cAM, rfl, hAM, bx⟩
      have nAM_p3 := hAM.off_lt hp3.lt
      have nAM_p5 := hAM.off_lt hp5.lt
      have nAM_p7 := hAM.off_lt hp7.lt
      have nAM_p8 := hAM.off_lt hp8.lt
      have nAM_p10 := hAM.off_lt hp10.lt
      have nAM_p11 := hAM.off_lt hp11.lt
      have nAM_p12 := hAM.off_lt hp12.lt
      replace hAM := hAM.mono (Nat.le_trans hB0 hW.size)
      replace hp3 := hp3.below bx hp3.lt
      replace hp5 := hp5.below bx hp5.lt
      replace hp7 := hp7.below bx hp7.lt
      replace hp8 := hp8.below bx hp8.lt
      replace hp10 := hp10.below bx hp10.lt
      replace hp11 := hp11.below bx hp11.lt
      replace hp12 := hp12.below bx hp12.lt
      replace hW := hW.trans (bx.mono (Nat.le_trans hB0 hW.size))
      clear bx
      refine ⟨_, rfl, hK.out _ _ ?_⟩
      clear hK K
      simp only [ls0, ls1]
      refine runL 104 (.string (bst (msg I s c x))) rfl (by rfl) (exec_conv 34 9 (.tmp 103) rfl (.slice (AM) 48 cAM) (.string (bst (msg I s c x))) rfl (Reads.string hAM.reads _ _ Tryd.underlying34 Tryd.underlying9)) ?_
      simp only [ls0, ls1]
      refine runL 14 (.string (bst (msg I s c x))) rfl (by rfl) (by go_simp) ?_
      simp only [ls0, ls1]
      refine nilL ?_
      clear hAM
      go_upto_region 18 with fail
      refine wl_lit ?_
      refine runL 105 (.pointer (some ⟨p10, 48, none⟩)) rfl (by rfl) (by go_simp) ?_
      simp only [ls0, ls1]
      refine runL 106 (.int .i64 (i2 : Int)) rfl (by rfl) (exec_cell 3 (.tmp 105) rfl p10 48 rfl (.int .i64 (i2 : Int)) _ Tryd.underlying3 rfl (sV_idx hp10 hel hml)) ?_
      simp only [ls0, ls1]
      refine runL 107 (.pointer (some ⟨p10, 49, none⟩)) rfl (by rfl) (by go_simp) ?_
      simp only [ls0, ls1]
      refine runL 108 (.agg (noV s2 c2)) rfl (by rfl) (exec_mid 30 (.tmp 107) rfl p10 49 rfl ((noV s2 c2).toList) _ (sV_no hp10 hel hml) (by exact Tryd.underlying30) rfl (by kernel_rfl)) ?_
      simp only [ls0, ls1]
      refine runL 109 (.agg (va .u8 (d2))) rfl (by rfl) (exec_row 33 (.tmp 11) rfl p11 rfl 33 (va .u8 (d2)) _ hp11 (by exact Tryd.underlying33) rfl (sz_api_Block _ (hd2l))) ?_
      simp only [ls0, ls1]
      refine callL 110 rfl (by rfl) (fun K hK => wp_callF 13 #[.int .i64 (i2 : Int), .agg (noV s2 c2), .agg (va .u8 (d2))] (by go_simp) (rmsg_any i2 s2 c2 d2 hi2 hs2 hd2l hd2b hc2 _) ?_)
      rintro e w25 ⟨AN, cAN, rfl, hAN, bx⟩
      have nAN_p3 := hAN.off_lt hp3.lt
      have nAN_p5 := hAN.off_lt hp5.lt
      have nAN_p7 := hAN.off_lt hp7.lt
      have nAN_p8 := hAN.off_lt hp8.lt
      have nAN_p10 := hAN.off_lt hp10.lt
      have nAN_p11 := hAN.off_lt hp11.lt
      have nAN_p12 := hAN.off_lt hp12.lt
      replace hAN := hAN.mono (Nat.le_trans hB0 hW.size)
      replace hp3 := hp3.below bx hp3.lt
      replace hp5 := hp5.below bx hp5.lt
      replace hp7 := hp7.below bx hp7.lt
      replace hp8 := hp8.below bx hp8.lt
      replace hp10 := hp10.below bx hp10.lt
      replace hp11 := hp11.below bx hp11.lt
      replace hp12 := hp12.below bx hp12.lt
      replace hW := hW.trans (bx.mono (Nat.le_trans hB0 hW.size))
      clear bx
      refine ⟨_, rfl, hK.out _ _ ?_⟩
      clear hK K
      simp only [ls0, ls1]
      refine runL 111 (.string (bst (msg i2 s2 c2 d2))) rfl (by rfl) (exec_conv 34 9 (.tmp 110) rfl (.slice (AN) 48 cAN) (.string (bst (msg i2 s2 c2 d2))) rfl (Reads.string hAN.reads _ _ Tryd.underlying34 Tryd.underlying9)) ?_
      simp only [ls0, ls1]
      refine runL 15 (.string (bst (msg i2 s2 c2 d2))) rfl (by rfl) (by go_simp) ?_
      simp only [ls0, ls1]
      refine nilL ?_
      clear hAN
      go_upto_region 19 with fail
      refine wl_lit ?_
      refine runL 112 (.agg (sV ke km (i2 : Int) s2 c2)) rfl (by rfl) (exec_row 32 (.tmp 10) rfl p10 rfl 32 (sV ke km (i2 : Int) s2 c2) _ hp10 (by exact Tryd.underlying32) rfl (sV_sz _ _ _ hel hml)) ?_
      simp only [ls0, ls1]
      refine runL 113 (.agg (sV ke km (I : Int) s c)) rfl (by rfl) (exec_row 32 (.tmp 3) rfl p3 rfl 32 (sV ke km (I : Int) s c) _ hp3 (by exact Tryd.underlying32) rfl (sV_sz _ _ _ hel hml)) ?_
      simp only [ls0, ls1]
      refine runL 114 (.bool false) rfl (by rfl) (exec_eqV 32 (by kernel_rfl) (.tmp 112) (.tmp 113) _ rfl (sV ke km (i2 : Int) s2 c2) (sV ke km (I : Int) s c) rfl rfl false (eqS ke km hel hml _ _ _ _ _ _ _ hSq.out _)) ?_
      simp only [ls0, ls1]
      refine runL 115 (.bool false) rfl (by rfl) (by go_simp) ?_
      simp only [ls0, ls1]
      refine skipL 116 rfl (by kernel_rfl) ?_
      simp only [ls0, ls1]
      refine skipL 117 rfl (by kernel_rfl) ?_
      simp only [ls0, ls1]
      refine skipL 118 rfl (by kernel_rfl) ?_
      simp only [ls0, ls1]
      refine runL 119 (.bool false) rfl (by rfl) (by go_simp) ?_
      simp only [ls0, ls1]
      refine runL 16 (.bool false) rfl (by rfl) (by go_simp) ?_
      simp only [ls0, ls1]
      refine nilL ?_
      go_upto_region 20 with fail
      refine wl_lit ?_
      refine runL 121 (.pointer (some ⟨p10, 0, none⟩)) rfl (by rfl) (by go_simp) ?_
      simp only [ls0, ls1]
      refine runL 122 (.pointer (some ⟨p10, 0, none⟩)) rfl (by rfl) (by go_simp) ?_
      simp only [ls0, ls1]
      refine runL 123 (.agg (va .u8 (ke))) rfl (by rfl) (exec_mid 22 (.tmp 122) rfl p10 0 rfl (nv .u8 ke) _ (sV_enc hp10 hel hml) (by exact Tryd.underlying22) rfl (sz16D _ hel)) ?_
      simp only [ls0, ls1]
      refine runL 124 (.pointer (some ⟨p10, 0, none⟩)) rfl (by rfl) (by go_simp) ?_
      simp only [ls0, ls1]
      refine runL 125 (.pointer (some ⟨p10, 16, none⟩)) rfl (by rfl) (by go_simp) ?_
      simp only [ls0, ls1]
      refine runL 126 (.agg (va .u8 (km))) rfl (by rfl) (exec_mid 24 (.tmp 125) rfl p10 16 rfl (nv .u8 km) _ (sV_mac hp10 hel hml) (by exact Tryd.underlying24) rfl (szKD _ hml)) ?_
      simp only [ls0, ls1]
      refine runL 127 (.pointer (some ⟨p10, 48, none⟩)) rfl (by rfl) (by go_simp) ?_
      simp only [ls0, ls1]
      refine runL 128 (.int .i64 (i2 : Int)) rfl (by rfl) (exec_cell 3 (.tmp 127) rfl p10 48 rfl (.int .i64 (i2 : Int)) _ Tryd.underlying3 rfl (sV_idx hp10 hel hml)) ?_
      simp only [ls0, ls1]
      refine runL 129 (.pointer (some ⟨p10, 49, none⟩)) rfl (by rfl) (by go_simp) ?_
      simp only [ls0, ls1]
      refine runL 130 (.agg (noV s2 c2)) rfl (by rfl) (exec_mid 30 (.tmp 129) rfl p10 49 rfl ((noV s2 c2).toList) _ (sV_no hp10 hel hml) (by exact Tryd.underlying30) rfl (by kernel_rfl)) ?_
      simp only [ls0, ls1]
      refine runL 131 (.agg (va .u8 (d2))) rfl (by rfl) (exec_row 33 (.tmp 11) rfl p11 rfl 33 (va .u8 (d2)) _ hp11 (by exact Tryd.underlying33) rfl (sz_api_Block _ (hd2l))) ?_
      simp only [ls0, ls1]
      refine runL 132 (.agg (va .u8 (t))) rfl (by rfl) (exec_row 45 (.tmp 8) rfl p8 rfl 45 (va .u8 (t)) _ hp8 (by exact Tryd.underlying45) rfl (sz_api_Digest _ (htl))) ?_
      simp only [ls0, ls1]
      refine callL 133 rfl (by rfl) (fun K hK => wp_callF 17 #[.agg (va .u8 (ke)), .agg (va .u8 (km)), .int .i64 (i2 : Int), .agg (noV s2 c2), .agg (va .u8 (d2)), .agg (va .u8 (t))] (by go_simp) (ropen_ok ke km hel hml heb hmb i2 s2 c2 d2 hi2 hs2 hd2l hd2b hc2 t htl htb hvq.out y hyq.out hyl hyb _) ?_)
      rintro e w26 ⟨rfl, bx⟩
      replace hp3 := hp3.below bx hp3.lt
      replace hp5 := hp5.below bx hp5.lt
      replace hp7 := hp7.below bx hp7.lt
      replace hp8 := hp8.below bx hp8.lt
      replace hp10 := hp10.below bx hp10.lt
      replace hp11 := hp11.below bx hp11.lt
      replace hp12 := hp12.below bx hp12.lt
      replace hW := hW.trans (bx.mono (Nat.le_trans hB0 hW.size))
      clear bx
      refine ⟨_, rfl, hK.out _ _ ?_⟩
      clear hK K
      simp only [ls0, ls1]
      refine runL 120 (.tuple #[.agg (va .u8 (y)), .int .i64 0]) rfl (by rfl) (by go_simp) ?_
      simp only [ls0, ls1]
      refine runL 134 (.agg (va .u8 (y))) rfl (by rfl) (by go_simp) ?_
      simp only [ls0, ls1]
      refine runL 135 (.int .i64 0) rfl (by rfl) (by go_simp) ?_
      simp only [ls0, ls1]
      refine runWL 17 (.pointer (some ⟨w26.heap.size, 0, none⟩)) (w26.alloc (.cells (va .u8 (z)) 33)) rfl (by rfl) (exec_allocV 33 rfl _ (zv_blkz z hzq.out _)) ?_
      simp only [ls0, ls1]
      have lp3_p17 := hp3.lt
      have lp5_p17 := hp5.lt
      have lp7_p17 := hp7.lt
      have lp8_p17 := hp8.lt
      have lp10_p17 := hp10.lt
      have lp11_p17 := hp11.lt
      have lp12_p17 := hp12.lt
      have lw_p17 := Nat.le_trans hB0 hW.size
      have hp17 : Blk (w26.alloc (.cells (va .u8 (z)) 33)) w26.heap.size 33 (va .u8 (z)) := Blk.new _ _ _
      replace hp3 := hp3.alloc (.cells (va .u8 (z)) 33)
      replace hp5 := hp5.alloc (.cells (va .u8 (z)) 33)
      replace hp7 := hp7.alloc (.cells (va .u8 (z)) 33)
      replace hp8 := hp8.alloc (.cells (va .u8 (z)) 33)
      replace hp10 := hp10.alloc (.cells (va .u8 (z)) 33)
      replace hp11 := hp11.alloc (.cells (va .u8 (z)) 33)
      replace hp12 := hp12.alloc (.cells (va .u8 (z)) 33)
      replace hW := hW.alloc (Nat.le_trans hB0 hW.size) (.cells (va .u8 (z)) 33)
      generalize w26.alloc (.cells (va .u8 (z)) 33) = w27 at *
      generalize w26.heap.size = p17 at hp17 lw_p17 lp3_p17 lp5_p17 lp7_p17 lp8_p17 lp10_p17 lp11_p17 lp12_p17 ⊢
      refine runSL (w27.setRow p17 (va .u8 (y))) rfl (by rfl) (exec_storeRow 33 (.tmp 17) (.tmp 134) rfl p17 rfl (va .u8 (y)) rfl 33 (va .u8 (z)) hp17 (sz_eq (sz_api_Block _ (hzl)) (sz_api_Block _ (hyl))) (sz_api_Block _ (hyl)) (va_ones .u8 _)) ?_
      replace hp3 := hp3.rowFar (show p17 ≠ p3 from (by omega)) (va .u8 (y))
      replace hp5 := hp5.rowFar (show p17 ≠ p5 from (by omega)) (va .u8 (y))
      replace hp7 := hp7.rowFar (show p17 ≠ p7 from (by omega)) (va .u8 (y))
      replace hp8 := hp8.rowFar (show p17 ≠ p8 from (by omega)) (va .u8 (y))
      replace hp10 := hp10.rowFar (show p17 ≠ p10 from (by omega)) (va .u8 (y))
      replace hp11 := hp11.rowFar (show p17 ≠ p11 from (by omega)) (va .u8 (y))
      replace hp12 := hp12.rowFar (show p17 ≠ p12 from (by omega)) (va .u8 (y))
      replace hp17 := hp17.row (va .u8 (y))
      replace hW := below_setRow hW lw_p17 (va .u8 (y))
      generalize w27.setRow p17 (va .u8 (y)) = w28 at *
      refine runL 18 (.int .i64 0) rfl (by rfl) (by go_simp) ?_
      simp only [ls0, ls1]
      refine nilL ?_
      go_upto_region 21 with fail
      refine wl_lit ?_
      refine runL 136 (.string (bst (msg I s c x))) rfl (by rfl) (by go_simp) ?_
      simp only [ls0, ls1]
      refine runL 137 (.string (bst (msg i2 s2 c2 d2))) rfl (by rfl) (by go_simp) ?_
      simp only [ls0, ls1]
      refine runL 138 (.bool false) rfl (by rfl) (by go_simp) ?_
      simp only [ls0, ls1]
      refine runL 139 (.bool false) rfl (by rfl) (by go_simp) ?_
      simp only [ls0, ls1]
      refine runL 140 (.bool true) rfl (by rfl) (by go_simp) ?_
      simp only [ls0, ls1]
      refine runL 141 (.bool true) rfl (by rfl) (by go_simp) ?_
      simp only [ls0, ls1]
      refine runL 142 (.int .i64 0) rfl (by rfl) (by go_simp) ?_
      simp only [ls0, ls1]
      refine runL 143 (.bool true) rfl (by rfl) (by go_simp) ?_
      simp only [ls0, ls1]
      refine runL 144 (.int .i64 0) rfl (by rfl) (by go_simp) ?_
      simp only [ls0, ls1]
      refine runL 145 (.bool true) rfl (by rfl) (by go_simp) ?_
      simp only [ls0, ls1]
      refine runL 146 (.bool true) rfl (by rfl) (by go_simp) ?_
      simp only [ls0, ls1]
      refine runL 147 (.bool true) rfl (by rfl) (by go_simp) ?_
      simp only [ls0, ls1]
      refine runL 148 (.bool true) rfl (by rfl) (by go_simp) ?_
      simp only [ls0, ls1]
      refine runL 149 (.bool false) rfl (by rfl) (by go_simp) ?_
      simp only [ls0, ls1]
      refine runL 150 (.bool true) rfl (by rfl) (by go_simp) ?_
      simp only [ls0, ls1]
      refine runL 151 (.bool true) rfl (by rfl) (by go_simp) ?_
      simp only [ls0, ls1]
      refine skipL 152 rfl (by kernel_rfl) ?_
      simp only [ls0, ls1]
      refine skipL 153 rfl (by kernel_rfl) ?_
      simp only [ls0, ls1]
      refine runL 154 (.bool true) rfl (by rfl) (by go_simp) ?_
      simp only [ls0, ls1]
      refine runL 155 (.bool true) rfl (by rfl) (by go_simp) ?_
      simp only [ls0, ls1]
      refine runL 156 (.bool true) rfl (by rfl) (by go_simp) ?_
      simp only [ls0, ls1]
      refine callL 157 rfl (by rfl) (fun K hK => wp_callF 8 #[] (by go_simp) (lives09_any _ (gl.out _ hW)) ?_)
      rintro e w29 ⟨rfl, bx⟩
      replace hp3 := hp3.below bx hp3.lt
      replace hp5 := hp5.below bx hp5.lt
      replace hp7 := hp7.below bx hp7.lt
      replace hp8 := hp8.below bx hp8.lt
      replace hp10 := hp10.below bx hp10.lt
      replace hp11 := hp11.below bx hp11.lt
      replace hp12 := hp12.below bx hp12.lt
      replace hp17 := hp17.below bx hp17.lt
      replace hW := hW.trans (bx.mono (Nat.le_trans hB0 hW.size))
      clear bx
      refine ⟨_, rfl, hK.out _ _ ?_⟩
      clear hK K
      simp only [ls0, ls1]
      refine runL 158 (.bool true) rfl (by rfl) (by go_simp) ?_
      simp only [ls0, ls1]
      refine runL 6 (.bool true) rfl (by rfl) (by go_simp) ?_
      simp only [ls0, ls1]
      refine nilL ?_
      go_wp2_with fail
      go_ret
      exact ⟨rfl, hW⟩
     ·
      have hdne := hd9 rfl
      clear hd9
      go_upto_region 16 with fail
      refine wl_lit ?_
      refine runL 87 (.pointer (some ⟨p10, 0, none⟩)) rfl (by rfl) (by go_simp) ?_
      simp only [ls0, ls1]
      refine runL 88 (.agg (va .u8 (ke ++ km))) rfl (by rfl) (exec_mid 26 (.tmp 87) rfl p10 0 rfl (nv .u8 (ke ++ km)) _ (sV_keys hp10 hel hml) (by exact Tryd.underlying26) rfl (szKs _ _ hel hml)) ?_
      simp only [ls0, ls1]
      refine runL 89 (.pointer (some ⟨p10, 48, none⟩)) rfl (by rfl) (by go_simp) ?_
      simp only [ls0, ls1]
      refine runL 90 (.int .i64 (i2 : Int)) rfl (by rfl) (exec_cell 3 (.tmp 89) rfl p10 48 rfl (.int .i64 (i2 : Int)) _ Tryd.underlying3 rfl (sV_idx hp10 hel hml)) ?_
      simp only [ls0, ls1]
      refine runL 91 (.pointer (some ⟨p10, 49, none⟩)) rfl (by rfl) (by go_simp) ?_
      simp only [ls0, ls1]
      refine runL 92 (.agg (noV s2 c2)) rfl (by rfl) (exec_mid 30 (.tmp 91) rfl p10 49 rfl ((noV s2 c2).toList) _ (sV_no hp10 hel hml) (by exact Tryd.underlying30) rfl (by kernel_rfl)) ?_
      simp only [ls0, ls1]
      refine runL 93 (.agg (va .u8 (d2))) rfl (by rfl) (exec_row 33 (.tmp 11) rfl p11 rfl 33 (va .u8 (d2)) _ hp11 (by exact Tryd.underlying33) rfl (sz_api_Block _ (hd2l))) ?_
      simp only [ls0, ls1]
      refine runL 94 (.agg (va .u8 (t))) rfl (by rfl) (exec_row 45 (.tmp 8) rfl p8 rfl 45 (va .u8 (t)) _ hp8 (by exact Tryd.underlying45) rfl (sz_api_Digest _ (htl))) ?_
      simp only [ls0, ls1]
      refine callL 95 rfl (by rfl) (fun K hK => wp_callF 15 #[.agg (va .u8 (ke ++ km)), .int .i64 (i2 : Int), .agg (noV s2 c2), .agg (va .u8 (d2)), .agg (va .u8 (t))] (by go_simp) (sopen_ok ke km hel hml heb hmb i2 s2 c2 d2 hi2 hs2 hd2l hd2b t htl htb hvq.out y hyq.out hyl hyb _ (gl.out _ hW)) ?_)
      rintro e w21 ⟨rfl, bx⟩
      replace hp3 := hp3.below bx hp3.lt
      replace hp5 := hp5.below bx hp5.lt
      replace hp7 := hp7.below bx hp7.lt
      replace hp8 := hp8.below bx hp8.lt
      replace hp10 := hp10.below bx hp10.lt
      replace hp11 := hp11.below bx hp11.lt
      replace hW := hW.trans (bx.mono (Nat.le_trans hB0 hW.size))
      clear bx
      refine ⟨_, rfl, hK.out _ _ ?_⟩
      clear hK K
      simp only [ls0, ls1]
      refine runL 86 (.tuple #[.agg (va .u8 (y)), .int .i64 0]) rfl (by rfl) (by go_simp) ?_
      simp only [ls0, ls1]
      refine runL 96 (.agg (va .u8 (y))) rfl (by rfl) (by go_simp) ?_
      simp only [ls0, ls1]
      refine runL 97 (.int .i64 0) rfl (by rfl) (by go_simp) ?_
      simp only [ls0, ls1]
      refine runWL 12 (.pointer (some ⟨w21.heap.size, 0, none⟩)) (w21.alloc (.cells (va .u8 (z)) 33)) rfl (by rfl) (exec_allocV 33 rfl _ (zv_blkz z hzq.out _)) ?_
      simp only [ls0, ls1]
      have lp3_p12 := hp3.lt
      have lp5_p12 := hp5.lt
      have lp7_p12 := hp7.lt
      have lp8_p12 := hp8.lt
      have lp10_p12 := hp10.lt
      have lp11_p12 := hp11.lt
      have lw_p12 := Nat.le_trans hB0 hW.size
      have hp12 : Blk (w21.alloc (.cells (va .u8 (z)) 33)) w21.heap.size 33 (va .u8 (z)) := Blk.new _ _ _
      replace hp3 := hp3.alloc (.cells (va .u8 (z)) 33)
      replace hp5 := hp5.alloc (.cells (va .u8 (z)) 33)
      replace hp7 := hp7.alloc (.cells (va .u8 (z)) 33)
      replace hp8 := hp8.alloc (.cells (va .u8 (z)) 33)
      replace hp10 := hp10.alloc (.cells (va .u8 (z)) 33)
      replace hp11 := hp11.alloc (.cells (va .u8 (z)) 33)
      replace hW := hW.alloc (Nat.le_trans hB0 hW.size) (.cells (va .u8 (z)) 33)
      generalize w21.alloc (.cells (va .u8 (z)) 33) = w22 at *
      generalize w21.heap.size = p12 at hp12 lw_p12 lp3_p12 lp5_p12 lp7_p12 lp8_p12 lp10_p12 lp11_p12 ⊢
      refine runSL (w22.setRow p12 (va .u8 (y))) rfl (by rfl) (exec_storeRow 33 (.tmp 12) (.tmp 96) rfl p12 rfl (va .u8 (y)) rfl 33 (va .u8 (z)) hp12 (sz_eq (sz_api_Block _ (hzl)) (sz_api_Block _ (hyl))) (sz_api_Block _ (hyl)) (va_ones .u8 _)) ?_
      replace hp3 := hp3.rowFar (show p12 ≠ p3 from (by omega)) (va .u8 (y))
      replace hp5 := hp5.rowFar (show p12 ≠ p5 from (by omega)) (va .u8 (y))
      replace hp7 := hp7.rowFar (show p12 ≠ p7 from (by omega)) (va .u8 (y))
      replace hp8 := hp8.rowFar (show p12 ≠ p8 from (by omega)) (va .u8 (y))
      replace hp10 := hp10.rowFar (show p12 ≠ p10 from (by omega)) (va .u8 (y))
      replace hp11 := hp11.rowFar (show p12 ≠ p11 from (by omega)) (va .u8 (y))
      replace hp12 := hp12.row (va .u8 (y))
      replace hW := below_setRow hW lw_p12 (va .u8 (y))
      generalize w22.setRow p12 (va .u8 (y)) = w23 at *
      refine runL 13 (.int .i64 0) rfl (by rfl) (by go_simp) ?_
      simp only [ls0, ls1]
      refine nilL ?_
      go_upto_region 17 with fail
      refine wl_lit ?_
      refine runL 98 (.pointer (some ⟨p3, 48, none⟩)) rfl (by rfl) (by go_simp) ?_
      simp only [ls0, ls1]
      refine runL 99 (.int .i64 (I : Int)) rfl (by rfl) (exec_cell 3 (.tmp 98) rfl p3 48 rfl (.int .i64 (I : Int)) _ Tryd.underlying3 rfl (sV_idx hp3 hel hml)) ?_
      simp only [ls0, ls1]
      refine runL 100 (.pointer (some ⟨p3, 49, none⟩)) rfl (by rfl) (by go_simp) ?_
      simp only [ls0, ls1]
      refine runL 101 (.agg (noV s c)) rfl (by rfl) (exec_mid 30 (.tmp 100) rfl p3 49 rfl ((noV s c).toList) _ (sV_no hp3 hel hml) (by exact Tryd.underlying30) rfl (by kernel_rfl)) ?_
      simp only [ls0, ls1]
      refine runL 102 (.agg (va .u8 (x))) rfl (by rfl) (exec_row 33 (.tmp 7) rfl p7 rfl 33 (va .u8 (x)) _ hp7 (by exact Tryd.underlying33) rfl (sz_api_Block _ (hxl))) ?_
      simp only [ls0, ls1]
      refine callL 103 rfl (by rfl) (fun K hK => wp_callF 13 #[.int .i64 (I : Int), .agg (noV s c), .agg (va .u8 (x))] (by go_simp) (rmsg_any I s c x hI hs hxl hxb hc _) ?_)
      rintro e w24 ⟨AM, cAM, rfl, hAM, bx⟩
      have nAM_p3 := hAM.off_lt hp3.lt
      have nAM_p5 := hAM.off_lt hp5.lt
      have nAM_p7 := hAM.off_lt hp7.lt
      have nAM_p8 := hAM.off_lt hp8.lt
      have nAM_p10 := hAM.off_lt hp10.lt
      have nAM_p11 := hAM.off_lt hp11.lt
      have nAM_p12 := hAM.off_lt hp12.lt
      replace hAM := hAM.mono (Nat.le_trans hB0 hW.size)
      replace hp3 := hp3.below bx hp3.lt
      replace hp5 := hp5.below bx hp5.lt
      replace hp7 := hp7.below bx hp7.lt
      replace hp8 := hp8.below bx hp8.lt
      replace hp10 := hp10.below bx hp10.lt
      replace hp11 := hp11.below bx hp11.lt
      replace hp12 := hp12.below bx hp12.lt
      replace hW := hW.trans (bx.mono (Nat.le_trans hB0 hW.size))
      clear bx
      refine ⟨_, rfl, hK.out _ _ ?_⟩
      clear hK K
      simp only [ls0, ls1]
      refine runL 104 (.string (bst (msg I s c x))) rfl (by rfl) (exec_conv 34 9 (.tmp 103) rfl (.slice (AM) 48 cAM) (.string (bst (msg I s c x))) rfl (Reads.string hAM.reads _ _ Tryd.underlying34 Tryd.underlying9)) ?_
      simp only [ls0, ls1]
      refine runL 14 (.string (bst (msg I s c x))) rfl (by rfl) (by go_simp) ?_
      simp only [ls0, ls1]
      refine nilL ?_
      clear hAM
      go_upto_region 18 with fail
      refine wl_lit ?_
      refine runL 105 (.pointer (some ⟨p10, 48, none⟩)) rfl (by rfl) (by go_simp) ?_
      simp only [ls0, ls1]
      refine runL 106 (.int .i64 (i2 : Int)) rfl (by rfl) (exec_cell 3 (.tmp 105) rfl p10 48 rfl (.int .i64 (i2 : Int)) _ Tryd.underlying3 rfl (sV_idx hp10 hel hml)) ?_
      simp only [ls0, ls1]
      refine runL 107 (.pointer (some ⟨p10, 49, none⟩)) rfl (by rfl) (by go_simp) ?_
      simp only [ls0, ls1]
      refine runL 108 (.agg (noV s2 c2)) rfl (by rfl) (exec_mid 30 (.tmp 107) rfl p10 49 rfl ((noV s2 c2).toList) _ (sV_no hp10 hel hml) (by exact Tryd.underlying30) rfl (by kernel_rfl)) ?_
      simp only [ls0, ls1]
      refine runL 109 (.agg (va .u8 (d2))) rfl (by rfl) (exec_row 33 (.tmp 11) rfl p11 rfl 33 (va .u8 (d2)) _ hp11 (by exact Tryd.underlying33) rfl (sz_api_Block _ (hd2l))) ?_
      simp only [ls0, ls1]
      refine callL 110 rfl (by rfl) (fun K hK => wp_callF 13 #[.int .i64 (i2 : Int), .agg (noV s2 c2), .agg (va .u8 (d2))] (by go_simp) (rmsg_any i2 s2 c2 d2 hi2 hs2 hd2l hd2b hc2 _) ?_)
      rintro e w25 ⟨AN, cAN, rfl, hAN, bx⟩
      have nAN_p3 := hAN.off_lt hp3.lt
      have nAN_p5 := hAN.off_lt hp5.lt
      have nAN_p7 := hAN.off_lt hp7.lt
      have nAN_p8 := hAN.off_lt hp8.lt
      have nAN_p10 := hAN.off_lt hp10.lt
      have nAN_p11 := hAN.off_lt hp11.lt
      have nAN_p12 := hAN.off_lt hp12.lt
      replace hAN := hAN.mono (Nat.le_trans hB0 hW.size)
      replace hp3 := hp3.below bx hp3.lt
      replace hp5 := hp5.below bx hp5.lt
      replace hp7 := hp7.below bx hp7.lt
      replace hp8 := hp8.below bx hp8.lt
      replace hp10 := hp10.below bx hp10.lt
      replace hp11 := hp11.below bx hp11.lt
      replace hp12 := hp12.below bx hp12.lt
      replace hW := hW.trans (bx.mono (Nat.le_trans hB0 hW.size))
      clear bx
      refine ⟨_, rfl, hK.out _ _ ?_⟩
      clear hK K
      simp only [ls0, ls1]
      refine runL 111 (.string (bst (msg i2 s2 c2 d2))) rfl (by rfl) (exec_conv 34 9 (.tmp 110) rfl (.slice (AN) 48 cAN) (.string (bst (msg i2 s2 c2 d2))) rfl (Reads.string hAN.reads _ _ Tryd.underlying34 Tryd.underlying9)) ?_
      simp only [ls0, ls1]
      refine runL 15 (.string (bst (msg i2 s2 c2 d2))) rfl (by rfl) (by go_simp) ?_
      simp only [ls0, ls1]
      refine nilL ?_
      clear hAN
      go_upto_region 19 with fail
      refine wl_lit ?_
      refine runL 112 (.agg (sV ke km (i2 : Int) s2 c2)) rfl (by rfl) (exec_row 32 (.tmp 10) rfl p10 rfl 32 (sV ke km (i2 : Int) s2 c2) _ hp10 (by exact Tryd.underlying32) rfl (sV_sz _ _ _ hel hml)) ?_
      simp only [ls0, ls1]
      refine runL 113 (.agg (sV ke km (I : Int) s c)) rfl (by rfl) (exec_row 32 (.tmp 3) rfl p3 rfl 32 (sV ke km (I : Int) s c) _ hp3 (by exact Tryd.underlying32) rfl (sV_sz _ _ _ hel hml)) ?_
      simp only [ls0, ls1]
      refine runL 114 (.bool true) rfl (by rfl) (exec_eqV 32 (by kernel_rfl) (.tmp 112) (.tmp 113) _ rfl (sV ke km (i2 : Int) s2 c2) (sV ke km (I : Int) s c) rfl rfl true (eqS ke km hel hml _ _ _ _ _ _ _ hSq.out _)) ?_
      simp only [ls0, ls1]
      refine runL 115 (.bool true) rfl (by rfl) (by go_simp) ?_
      simp only [ls0, ls1]
      refine runL 116 (.agg (va .u8 (d2))) rfl (by rfl) (exec_row 33 (.tmp 11) rfl p11 rfl 33 (va .u8 (d2)) _ hp11 (by exact Tryd.underlying33) rfl (sz_api_Block _ (hd2l))) ?_
      simp only [ls0, ls1]
      refine runL 117 (.agg (va .u8 (x))) rfl (by rfl) (exec_row 33 (.tmp 7) rfl p7 rfl 33 (va .u8 (x)) _ hp7 (by exact Tryd.underlying33) rfl (sz_api_Block _ (hxl))) ?_
      simp only [ls0, ls1]
      refine runL 118 (.bool false) rfl (by rfl) (exec_eqB 33 32 (by kernel_rfl) (by kernel_rfl) (.tmp 116) (.tmp 117) _ rfl d2 x hd2l hxl rfl rfl false (decide_eq_false hdne)) ?_
      simp only [ls0, ls1]
      refine runL 119 (.bool false) rfl (by rfl) (by go_simp) ?_
      simp only [ls0, ls1]
      refine runL 16 (.bool false) rfl (by rfl) (by go_simp) ?_
      simp only [ls0, ls1]
      refine nilL ?_
      go_upto_region 20 with fail
      refine wl_lit ?_
      refine runL 121 (.pointer (some ⟨p10, 0, none⟩)) rfl (by rfl) (by go_simp) ?_
      simp only [ls0, ls1]
      refine runL 122 (.pointer (some ⟨p10, 0, none⟩)) rfl (by rfl) (by go_simp) ?_
      simp only [ls0, ls1]
      refine runL 123 (.agg (va .u8 (ke))) rfl (by rfl) (exec_mid 22 (.tmp 122) rfl p10 0 rfl (nv .u8 ke) _ (sV_enc hp10 hel hml) (by exact Tryd.underlying22) rfl (sz16D _ hel)) ?_
      simp only [ls0, ls1]
      refine runL 124 (.pointer (some ⟨p10, 0, none⟩)) rfl (by rfl) (by go_simp) ?_
      simp only [ls0, ls1]
      refine runL 125 (.pointer (some ⟨p10, 16, none⟩)) rfl (by rfl) (by go_simp) ?_
      simp only [ls0, ls1]
      refine runL 126 (.agg (va .u8 (km))) rfl (by rfl) (exec_mid 24 (.tmp 125) rfl p10 16 rfl (nv .u8 km) _ (sV_mac hp10 hel hml) (by exact Tryd.underlying24) rfl (szKD _ hml)) ?_
      simp only [ls0, ls1]
      refine runL 127 (.pointer (some ⟨p10, 48, none⟩)) rfl (by rfl) (by go_simp) ?_
      simp only [ls0, ls1]
      refine runL 128 (.int .i64 (i2 : Int)) rfl (by rfl) (exec_cell 3 (.tmp 127) rfl p10 48 rfl (.int .i64 (i2 : Int)) _ Tryd.underlying3 rfl (sV_idx hp10 hel hml)) ?_
      simp only [ls0, ls1]
      refine runL 129 (.pointer (some ⟨p10, 49, none⟩)) rfl (by rfl) (by go_simp) ?_
      simp only [ls0, ls1]
      refine runL 130 (.agg (noV s2 c2)) rfl (by rfl) (exec_mid 30 (.tmp 129) rfl p10 49 rfl ((noV s2 c2).toList) _ (sV_no hp10 hel hml) (by exact Tryd.underlying30) rfl (by kernel_rfl)) ?_
      simp only [ls0, ls1]
      refine runL 131 (.agg (va .u8 (d2))) rfl (by rfl) (exec_row 33 (.tmp 11) rfl p11 rfl 33 (va .u8 (d2)) _ hp11 (by exact Tryd.underlying33) rfl (sz_api_Block _ (hd2l))) ?_
      simp only [ls0, ls1]
      refine runL 132 (.agg (va .u8 (t))) rfl (by rfl) (exec_row 45 (.tmp 8) rfl p8 rfl 45 (va .u8 (t)) _ hp8 (by exact Tryd.underlying45) rfl (sz_api_Digest _ (htl))) ?_
      simp only [ls0, ls1]
      refine callL 133 rfl (by rfl) (fun K hK => wp_callF 17 #[.agg (va .u8 (ke)), .agg (va .u8 (km)), .int .i64 (i2 : Int), .agg (noV s2 c2), .agg (va .u8 (d2)), .agg (va .u8 (t))] (by go_simp) (ropen_ok ke km hel hml heb hmb i2 s2 c2 d2 hi2 hs2 hd2l hd2b hc2 t htl htb hvq.out y hyq.out hyl hyb _) ?_)
      rintro e w26 ⟨rfl, bx⟩
      replace hp3 := hp3.below bx hp3.lt
      replace hp5 := hp5.below bx hp5.lt
      replace hp7 := hp7.below bx hp7.lt
      replace hp8 := hp8.below bx hp8.lt
      replace hp10 := hp10.below bx hp10.lt
      replace hp11 := hp11.below bx hp11.lt
      replace hp12 := hp12.below bx hp12.lt
      replace hW := hW.trans (bx.mono (Nat.le_trans hB0 hW.size))
      clear bx
      refine ⟨_, rfl, hK.out _ _ ?_⟩
      clear hK K
      simp only [ls0, ls1]
      refine runL 120 (.tuple #[.agg (va .u8 (y)), .int .i64 0]) rfl (by rfl) (by go_simp) ?_
      simp only [ls0, ls1]
      refine runL 134 (.agg (va .u8 (y))) rfl (by rfl) (by go_simp) ?_
      simp only [ls0, ls1]
      refine runL 135 (.int .i64 0) rfl (by rfl) (by go_simp) ?_
      simp only [ls0, ls1]
      refine runWL 17 (.pointer (some ⟨w26.heap.size, 0, none⟩)) (w26.alloc (.cells (va .u8 (z)) 33)) rfl (by rfl) (exec_allocV 33 rfl _ (zv_blkz z hzq.out _)) ?_
      simp only [ls0, ls1]
      have lp3_p17 := hp3.lt
      have lp5_p17 := hp5.lt
      have lp7_p17 := hp7.lt
      have lp8_p17 := hp8.lt
      have lp10_p17 := hp10.lt
      have lp11_p17 := hp11.lt
      have lp12_p17 := hp12.lt
      have lw_p17 := Nat.le_trans hB0 hW.size
      have hp17 : Blk (w26.alloc (.cells (va .u8 (z)) 33)) w26.heap.size 33 (va .u8 (z)) := Blk.new _ _ _
      replace hp3 := hp3.alloc (.cells (va .u8 (z)) 33)
      replace hp5 := hp5.alloc (.cells (va .u8 (z)) 33)
      replace hp7 := hp7.alloc (.cells (va .u8 (z)) 33)
      replace hp8 := hp8.alloc (.cells (va .u8 (z)) 33)
      replace hp10 := hp10.alloc (.cells (va .u8 (z)) 33)
      replace hp11 := hp11.alloc (.cells (va .u8 (z)) 33)
      replace hp12 := hp12.alloc (.cells (va .u8 (z)) 33)
      replace hW := hW.alloc (Nat.le_trans hB0 hW.size) (.cells (va .u8 (z)) 33)
      generalize w26.alloc (.cells (va .u8 (z)) 33) = w27 at *
      generalize w26.heap.size = p17 at hp17 lw_p17 lp3_p17 lp5_p17 lp7_p17 lp8_p17 lp10_p17 lp11_p17 lp12_p17 ⊢
      refine runSL (w27.setRow p17 (va .u8 (y))) rfl (by rfl) (exec_storeRow 33 (.tmp 17) (.tmp 134) rfl p17 rfl (va .u8 (y)) rfl 33 (va .u8 (z)) hp17 (sz_eq (sz_api_Block _ (hzl)) (sz_api_Block _ (hyl))) (sz_api_Block _ (hyl)) (va_ones .u8 _)) ?_
      replace hp3 := hp3.rowFar (show p17 ≠ p3 from (by omega)) (va .u8 (y))
      replace hp5 := hp5.rowFar (show p17 ≠ p5 from (by omega)) (va .u8 (y))
      replace hp7 := hp7.rowFar (show p17 ≠ p7 from (by omega)) (va .u8 (y))
      replace hp8 := hp8.rowFar (show p17 ≠ p8 from (by omega)) (va .u8 (y))
      replace hp10 := hp10.rowFar (show p17 ≠ p10 from (by omega)) (va .u8 (y))
      replace hp11 := hp11.rowFar (show p17 ≠ p11 from (by omega)) (va .u8 (y))
      replace hp12 := hp12.rowFar (show p17 ≠ p12 from (by omega)) (va .u8 (y))
      replace hp17 := hp17.row (va .u8 (y))
      replace hW := below_setRow hW lw_p17 (va .u8 (y))
      generalize w27.setRow p17 (va .u8 (y)) = w28 at *
      refine runL 18 (.int .i64 0) rfl (by rfl) (by go_simp) ?_
      simp only [ls0, ls1]
      refine nilL ?_
      go_upto_region 21 with fail
      refine wl_lit ?_
      refine runL 136 (.string (bst (msg I s c x))) rfl (by rfl) (by go_simp) ?_
      simp only [ls0, ls1]
      refine runL 137 (.string (bst (msg i2 s2 c2 d2))) rfl (by rfl) (by go_simp) ?_
      simp only [ls0, ls1]
      refine runL 138 (.bool false) rfl (by rfl) (by go_simp) ?_
      simp only [ls0, ls1]
      refine runL 139 (.bool false) rfl (by rfl) (by go_simp) ?_
      simp only [ls0, ls1]
      refine runL 140 (.bool true) rfl (by rfl) (by go_simp) ?_
      simp only [ls0, ls1]
      refine runL 141 (.bool true) rfl (by rfl) (by go_simp) ?_
      simp only [ls0, ls1]
      refine runL 142 (.int .i64 0) rfl (by rfl) (by go_simp) ?_
      simp only [ls0, ls1]
      refine runL 143 (.bool true) rfl (by rfl) (by go_simp) ?_
      simp only [ls0, ls1]
      refine runL 144 (.int .i64 0) rfl (by rfl) (by go_simp) ?_
      simp only [ls0, ls1]
      refine runL 145 (.bool true) rfl (by rfl) (by go_simp) ?_
      simp only [ls0, ls1]
      refine runL 146 (.bool true) rfl (by rfl) (by go_simp) ?_
      simp only [ls0, ls1]
      refine runL 147 (.bool true) rfl (by rfl) (by go_simp) ?_
      simp only [ls0, ls1]
      refine runL 148 (.bool true) rfl (by rfl) (by go_simp) ?_
      simp only [ls0, ls1]
      refine runL 149 (.bool false) rfl (by rfl) (by go_simp) ?_
      simp only [ls0, ls1]
      refine runL 150 (.bool true) rfl (by rfl) (by go_simp) ?_
      simp only [ls0, ls1]
      refine runL 151 (.bool true) rfl (by rfl) (by go_simp) ?_
      simp only [ls0, ls1]
      refine skipL 152 rfl (by kernel_rfl) ?_
      simp only [ls0, ls1]
      refine skipL 153 rfl (by kernel_rfl) ?_
      simp only [ls0, ls1]
      refine runL 154 (.bool true) rfl (by rfl) (by go_simp) ?_
      simp only [ls0, ls1]
      refine runL 155 (.bool true) rfl (by rfl) (by go_simp) ?_
      simp only [ls0, ls1]
      refine runL 156 (.bool true) rfl (by rfl) (by go_simp) ?_
      simp only [ls0, ls1]
      refine callL 157 rfl (by rfl) (fun K hK => wp_callF 8 #[] (by go_simp) (lives09_any _ (gl.out _ hW)) ?_)
      rintro e w29 ⟨rfl, bx⟩
      replace hp3 := hp3.below bx hp3.lt
      replace hp5 := hp5.below bx hp5.lt
      replace hp7 := hp7.below bx hp7.lt
      replace hp8 := hp8.below bx hp8.lt
      replace hp10 := hp10.below bx hp10.lt
      replace hp11 := hp11.below bx hp11.lt
      replace hp12 := hp12.below bx hp12.lt
      replace hp17 := hp17.below bx hp17.lt
      replace hW := hW.trans (bx.mono (Nat.le_trans hB0 hW.size))
      clear bx
      refine ⟨_, rfl, hK.out _ _ ?_⟩
      clear hK K
      simp only [ls0, ls1]
      refine runL 158 (.bool true) rfl (by rfl) (by go_simp) ?_
      simp only [ls0, ls1]
      refine runL 6 (.bool true) rfl (by rfl) (by go_simp) ?_
      simp only [ls0, ls1]
      refine nilL ?_
      go_wp2_with fail
      go_ret
      exact ⟨rfl, hW⟩
    ·
     have hvq := Lib.hid hv
     clear hv
     cases r2
     ·
      clear hd9
      go_upto_region 16 with fail
      refine wl_lit ?_
      refine runL 87 (.pointer (some ⟨p10, 0, none⟩)) rfl (by rfl) (by go_simp) ?_
      simp only [ls0, ls1]
      refine runL 88 (.agg (va .u8 (ke ++ km))) rfl (by rfl) (exec_mid 26 (.tmp 87) rfl p10 0 rfl (nv .u8 (ke ++ km)) _ (sV_keys hp10 hel hml) (by exact Tryd.underlying26) rfl (szKs _ _ hel hml)) ?_
      simp only [ls0, ls1]
      refine runL 89 (.pointer (some ⟨p10, 48, none⟩)) rfl (by rfl) (by go_simp) ?_
      simp only [ls0, ls1]
      refine runL 90 (.int .i64 (i2 : Int)) rfl (by rfl) (exec_cell 3 (.tmp 89) rfl p10 48 rfl (.int .i64 (i2 : Int)) _ Tryd.underlying3 rfl (sV_idx hp10 hel hml)) ?_
      simp only [ls0, ls1]
      refine runL 91 (.pointer (some ⟨p10, 49, none⟩)) rfl (by rfl) (by go_simp) ?_
      simp only [ls0, ls1]
      refine runL 92 (.agg (noV s2 c2)) rfl (by rfl) (exec_mid 30 (.tmp 91) rfl p10 49 rfl ((noV s2 c2).toList) _ (sV_no hp10 hel hml) (by exact Tryd.underlying30) rfl (by kernel_rfl)) ?_
      simp only [ls0, ls1]
      refine runL 93 (.agg (va .u8 (d2))) rfl (by rfl) (exec_row 33 (.tmp 11) rfl p11 rfl 33 (va .u8 (d2)) _ hp11 (by exact Tryd.underlying33) rfl (sz_api_Block _ (hd2l))) ?_
      simp only [ls0, ls1]
      refine runL 94 (.agg (va .u8 (t))) rfl (by rfl) (exec_row 45 (.tmp 8) rfl p8 rfl 45 (va .u8 (t)) _ hp8 (by exact Tryd.underlying45) rfl (sz_api_Digest _ (htl))) ?_
      simp only [ls0, ls1]
      refine callL 95 rfl (by rfl) (fun K hK => wp_callF 15 #[.agg (va .u8 (ke ++ km)), .int .i64 (i2 : Int), .agg (noV s2 c2), .agg (va .u8 (d2)), .agg (va .u8 (t))] (by go_simp) (sopen_noz z hzq.out ke km hel hml heb hmb i2 s2 c2 d2 hi2 hs2 hd2l hd2b t htl htb hvq.out _ (gl.out _ hW)) ?_)
      rintro e w21 ⟨rfl, bx⟩
      replace hp3 := hp3.below bx hp3.lt
      replace hp5 := hp5.below bx hp5.lt
      replace hp7 := hp7.below bx hp7.lt
      replace hp8 := hp8.below bx hp8.lt
      replace hp10 := hp10.below bx hp10.lt
      replace hp11 := hp11.below bx hp11.lt
      replace hW := hW.trans (bx.mono (Nat.le_trans hB0 hW.size))
      clear bx
      refine ⟨_, rfl, hK.out _ _ ?_⟩
      clear hK K
      simp only [ls0, ls1]
      refine runL 86 (.tuple #[.agg (va .u8 (z)), .int .i64 9]) rfl (by rfl) (by go_simp) ?_
      simp only [ls0, ls1]
      refine runL 96 (.agg (va .u8 (z))) rfl (by rfl) (by go_simp) ?_
      simp only [ls0, ls1]
      refine runL 97 (.int .i64 9) rfl (by rfl) (by go_simp) ?_
      simp only [ls0, ls1]
      refine runWL 12 (.pointer (some ⟨w21.heap.size, 0, none⟩)) (w21.alloc (.cells (va .u8 (z)) 33)) rfl (by rfl) (exec_allocV 33 rfl _ (zv_blkz z hzq.out _)) ?_
      simp only [ls0, ls1]
      have lp3_p12 := hp3.lt
      have lp5_p12 := hp5.lt
      have lp7_p12 := hp7.lt
      have lp8_p12 := hp8.lt
      have lp10_p12 := hp10.lt
      have lp11_p12 := hp11.lt
      have lw_p12 := Nat.le_trans hB0 hW.size
      have hp12 : Blk (w21.alloc (.cells (va .u8 (z)) 33)) w21.heap.size 33 (va .u8 (z)) := Blk.new _ _ _
      replace hp3 := hp3.alloc (.cells (va .u8 (z)) 33)
      replace hp5 := hp5.alloc (.cells (va .u8 (z)) 33)
      replace hp7 := hp7.alloc (.cells (va .u8 (z)) 33)
      replace hp8 := hp8.alloc (.cells (va .u8 (z)) 33)
      replace hp10 := hp10.alloc (.cells (va .u8 (z)) 33)
      replace hp11 := hp11.alloc (.cells (va .u8 (z)) 33)
      replace hW := hW.alloc (Nat.le_trans hB0 hW.size) (.cells (va .u8 (z)) 33)
      generalize w21.alloc (.cells (va .u8 (z)) 33) = w22 at *
      generalize w21.heap.size = p12 at hp12 lw_p12 lp3_p12 lp5_p12 lp7_p12 lp8_p12 lp10_p12 lp11_p12 ⊢
      refine runSL (w22.setRow p12 (va .u8 (z))) rfl (by rfl) (exec_storeRow 33 (.tmp 12) (.tmp 96) rfl p12 rfl (va .u8 (z)) rfl 33 (va .u8 (z)) hp12 (sz_eq (sz_api_Block _ (hzl)) (sz_api_Block _ (hzl))) (sz_api_Block _ (hzl)) (va_ones .u8 _)) ?_
      replace hp3 := hp3.rowFar (show p12 ≠ p3 from (by omega)) (va .u8 (z))
      replace hp5 := hp5.rowFar (show p12 ≠ p5 from (by omega)) (va .u8 (z))
      replace hp7 := hp7.rowFar (show p12 ≠ p7 from (by omega)) (va .u8 (z))
      replace hp8 := hp8.rowFar (show p12 ≠ p8 from (by omega)) (va .u8 (z))
      replace hp10 := hp10.rowFar (show p12 ≠ p10 from (by omega)) (va .u8 (z))
      replace hp11 := hp11.rowFar (show p12 ≠ p11 from (by omega)) (va .u8 (z))
      replace hp12 := hp12.row (va .u8 (z))
      replace hW := below_setRow hW lw_p12 (va .u8 (z))
      generalize w22.setRow p12 (va .u8 (z)) = w23 at *
      refine runL 13 (.int .i64 9) rfl (by rfl) (by go_simp) ?_
      simp only [ls0, ls1]
      refine nilL ?_
      go_upto_region 17 with fail
      refine wl_lit ?_
      refine runL 98 (.pointer (some ⟨p3, 48, none⟩)) rfl (by rfl) (by go_simp) ?_
      simp only [ls0, ls1]
      refine runL 99 (.int .i64 (I : Int)) rfl (by rfl) (exec_cell 3 (.tmp 98) rfl p3 48 rfl (.int .i64 (I : Int)) _ Tryd.underlying3 rfl (sV_idx hp3 hel hml)) ?_
      simp only [ls0, ls1]
      refine runL 100 (.pointer (some ⟨p3, 49, none⟩)) rfl (by rfl) (by go_simp) ?_
      simp only [ls0, ls1]
      refine runL 101 (.agg (noV s c)) rfl (by rfl) (exec_mid 30 (.tmp 100) rfl p3 49 rfl ((noV s c).toList) _ (sV_no hp3 hel hml) (by exact Tryd.underlying30) rfl (by kernel_rfl)) ?_
      simp only [ls0, ls1]
      refine runL 102 (.agg (va .u8 (x))) rfl (by rfl) (exec_row 33 (.tmp 7) rfl p7 rfl 33 (va .u8 (x)) _ hp7 (by exact Tryd.underlying33) rfl (sz_api_Block _ (hxl))) ?_
      simp only [ls0, ls1]
      refine callL 103 rfl (by rfl) (fun K hK => wp_callF 13 #[.int .i64 (I : Int), .agg (noV s c), .agg (va .u8 (x))] (by go_simp) (rmsg_any I s c x hI hs hxl hxb hc _) ?_)
      rintro e w24 ⟨AM, cAM, rfl, hAM, bx⟩
      have nAM_p3 := hAM.off_lt hp3.lt
      have nAM_p5 := hAM.off_lt hp5.lt
      have nAM_p7 := hAM.off_lt hp7.lt
      have nAM_p8 := hAM.off_lt hp8.lt
      have nAM_p10 := hAM.off_lt hp10.lt
      have nAM_p11 := hAM.off_lt hp11.lt
      have nAM_p12 := hAM.off_lt hp12.lt
      replace hAM := hAM.mono (Nat.le_trans hB0 hW.size)
      replace hp3 := hp3.below bx hp3.lt
      replace hp5 := hp5.below bx hp5.lt
      replace hp7 := hp7.below bx hp7.lt
      replace hp8 := hp8.below bx hp8.lt
      replace hp10 := hp10.below bx hp10.lt
      replace hp11 := hp11.below bx hp11.lt
      replace hp12 := hp12.below bx hp12.lt
      replace hW := hW.trans (bx.mono (Nat.le_trans hB0 hW.size))
      clear bx
      refine ⟨_, rfl, hK.out _ _ ?_⟩
      clear hK K
      simp only [ls0, ls1]
      refine runL 104 (.string (bst (msg I s c x))) rfl (by rfl) (exec_conv 34 9 (.tmp 103) rfl (.slice (AM) 48 cAM) (.string (bst (msg I s c x))) rfl (Reads.string hAM.reads _ _ Tryd.underlying34 Tryd.underlying9)) ?_
      simp only [ls0, ls1]
      refine runL 14 (.string (bst (msg I s c x))) rfl (by rfl) (by go_simp) ?_
      simp only [ls0, ls1]
      refine nilL ?_
      clear hAM
      go_upto_region 18 with fail
      refine wl_lit ?_
      refine runL 105 (.pointer (some ⟨p10, 48, none⟩)) rfl (by rfl) (by go_simp) ?_
      simp only [ls0, ls1]
      refine runL 106 (.int .i64 (i2 : Int)) rfl (by rfl) (exec_cell 3 (.tmp 105) rfl p10 48 rfl (.int .i64 (i2 : Int)) _ Tryd.underlying3 rfl (sV_idx hp10 hel hml)) ?_
      simp only [ls0, ls1]
      refine runL 107 (.pointer (some ⟨p10, 49, none⟩)) rfl (by rfl) (by go_simp) ?_
      simp only [ls0, ls1]
      refine runL 108 (.agg (noV s2 c2)) rfl (by rfl) (exec_mid 30 (.tmp 107) rfl p10 49 rfl ((noV s2 c2).toList) _ (sV_no hp10 hel hml) (by exact Tryd.underlying30) rfl (by kernel_rfl)) ?_
      simp only [ls0, ls1]
      refine runL 109 (.agg (va .u8 (d2))) rfl (by rfl) (exec_row 33 (.tmp 11) rfl p11 rfl 33 (va .u8 (d2)) _ hp11 (by exact Tryd.underlying33) rfl (sz_api_Block _ (hd2l))) ?_
      simp only [ls0, ls1]
      refine callL 110 rfl (by rfl) (fun K hK => wp_callF 13 #[.int .i64 (i2 : Int), .agg (noV s2 c2), .agg (va .u8 (d2))] (by go_simp) (rmsg_any i2 s2 c2 d2 hi2 hs2 hd2l hd2b hc2 _) ?_)
      rintro e w25 ⟨AN, cAN, rfl, hAN, bx⟩
      have nAN_p3 := hAN.off_lt hp3.lt
      have nAN_p5 := hAN.off_lt hp5.lt
      have nAN_p7 := hAN.off_lt hp7.lt
      have nAN_p8 := hAN.off_lt hp8.lt
      have nAN_p10 := hAN.off_lt hp10.lt
      have nAN_p11 := hAN.off_lt hp11.lt
      have nAN_p12 := hAN.off_lt hp12.lt
      replace hAN := hAN.mono (Nat.le_trans hB0 hW.size)
      replace hp3 := hp3.below bx hp3.lt
      replace hp5 := hp5.below bx hp5.lt
      replace hp7 := hp7.below bx hp7.lt
      replace hp8 := hp8.below bx hp8.lt
      replace hp10 := hp10.below bx hp10.lt
      replace hp11 := hp11.below bx hp11.lt
      replace hp12 := hp12.below bx hp12.lt
      replace hW := hW.trans (bx.mono (Nat.le_trans hB0 hW.size))
      clear bx
      refine ⟨_, rfl, hK.out _ _ ?_⟩
      clear hK K
      simp only [ls0, ls1]
      refine runL 111 (.string (bst (msg i2 s2 c2 d2))) rfl (by rfl) (exec_conv 34 9 (.tmp 110) rfl (.slice (AN) 48 cAN) (.string (bst (msg i2 s2 c2 d2))) rfl (Reads.string hAN.reads _ _ Tryd.underlying34 Tryd.underlying9)) ?_
      simp only [ls0, ls1]
      refine runL 15 (.string (bst (msg i2 s2 c2 d2))) rfl (by rfl) (by go_simp) ?_
      simp only [ls0, ls1]
      refine nilL ?_
      clear hAN
      go_upto_region 19 with fail
      refine wl_lit ?_
      refine runL 112 (.agg (sV ke km (i2 : Int) s2 c2)) rfl (by rfl) (exec_row 32 (.tmp 10) rfl p10 rfl 32 (sV ke km (i2 : Int) s2 c2) _ hp10 (by exact Tryd.underlying32) rfl (sV_sz _ _ _ hel hml)) ?_
      simp only [ls0, ls1]
      refine runL 113 (.agg (sV ke km (I : Int) s c)) rfl (by rfl) (exec_row 32 (.tmp 3) rfl p3 rfl 32 (sV ke km (I : Int) s c) _ hp3 (by exact Tryd.underlying32) rfl (sV_sz _ _ _ hel hml)) ?_
      simp only [ls0, ls1]
      refine runL 114 (.bool false) rfl (by rfl) (exec_eqV 32 (by kernel_rfl) (.tmp 112) (.tmp 113) _ rfl (sV ke km (i2 : Int) s2 c2) (sV ke km (I : Int) s c) rfl rfl false (eqS ke km hel hml _ _ _ _ _ _ _ hSq.out _)) ?_
      simp only [ls0, ls1]
      refine runL 115 (.bool false) rfl (by rfl) (by go_simp) ?_
      simp only [ls0, ls1]
      refine skipL 116 rfl (by kernel_rfl) ?_
      simp only [ls0, ls1]
      refine skipL 117 rfl (by kernel_rfl) ?_
      simp only [ls0, ls1]
      refine skipL 118 rfl (by kernel_rfl) ?_
      simp only [ls0, ls1]
      refine runL 119 (.bool false) rfl (by rfl) (by go_simp) ?_
      simp only [ls0, ls1]
      refine runL 16 (.bool false) rfl (by rfl) (by go_simp) ?_
      simp only [ls0, ls1]
      refine nilL ?_
      go_upto_region 20 with fail
      refine wl_lit ?_
      refine runL 121 (.pointer (some ⟨p10, 0, none⟩)) rfl (by rfl) (by go_simp) ?_
      simp only [ls0, ls1]
      refine runL 122 (.pointer (some ⟨p10, 0, none⟩)) rfl (by rfl) (by go_simp) ?_
      simp only [ls0, ls1]
      refine runL 123 (.agg (va .u8 (ke))) rfl (by rfl) (exec_mid 22 (.tmp 122) rfl p10 0 rfl (nv .u8 ke) _ (sV_enc hp10 hel hml) (by exact Tryd.underlying22) rfl (sz16D _ hel)) ?_
      simp only [ls0, ls1]
      refine runL 124 (.pointer (some ⟨p10, 0, none⟩)) rfl (by rfl) (by go_simp) ?_
      simp only [ls0, ls1]
      refine runL 125 (.pointer (some ⟨p10, 16, none⟩)) rfl (by rfl) (by go_simp) ?_
      simp only [ls0, ls1]
      refine runL 126 (.agg (va .u8 (km))) rfl (by rfl) (exec_mid 24 (.tmp 125) rfl p10 16 rfl (nv .u8 km) _ (sV_mac hp10 hel hml) (by exact Tryd.underlying24) rfl (szKD _ hml)) ?_
      simp only [ls0, ls1]
      refine runL 127 (.pointer (some ⟨p10, 48, none⟩)) rfl (by rfl) (by go_simp) ?_
      simp only [ls0, ls1]
      refine runL 128 (.int .i64 (i2 : Int)) rfl (by rfl) (exec_cell 3 (.tmp 127) rfl p10 48 rfl (.int .i64 (i2 : Int)) _ Tryd.underlying3 rfl (sV_idx hp10 hel hml)) ?_
      simp only [ls0, ls1]
      refine runL 129 (.pointer (some ⟨p10, 49, none⟩)) rfl (by rfl) (by go_simp) ?_
      simp only [ls0, ls1]
      refine runL 130 (.agg (noV s2 c2)) rfl (by rfl) (exec_mid 30 (.tmp 129) rfl p10 49 rfl ((noV s2 c2).toList) _ (sV_no hp10 hel hml) (by exact Tryd.underlying30) rfl (by kernel_rfl)) ?_
      simp only [ls0, ls1]
      refine runL 131 (.agg (va .u8 (d2))) rfl (by rfl) (exec_row 33 (.tmp 11) rfl p11 rfl 33 (va .u8 (d2)) _ hp11 (by exact Tryd.underlying33) rfl (sz_api_Block _ (hd2l))) ?_
      simp only [ls0, ls1]
      refine runL 132 (.agg (va .u8 (t))) rfl (by rfl) (exec_row 45 (.tmp 8) rfl p8 rfl 45 (va .u8 (t)) _ hp8 (by exact Tryd.underlying45) rfl (sz_api_Digest _ (htl))) ?_
      simp only [ls0, ls1]
      refine callL 133 rfl (by rfl) (fun K hK => wp_callF 17 #[.agg (va .u8 (ke)), .agg (va .u8 (km)), .int .i64 (i2 : Int), .agg (noV s2 c2), .agg (va .u8 (d2)), .agg (va .u8 (t))] (by go_simp) (ropen_noz z hzq.out ke km hel hml heb hmb i2 s2 c2 d2 hi2 hs2 hd2l hd2b hc2 t htl htb hvq.out _) ?_)
      rintro e w26 ⟨rfl, bx⟩
      replace hp3 := hp3.below bx hp3.lt
      replace hp5 := hp5.below bx hp5.lt
      replace hp7 := hp7.below bx hp7.lt
      replace hp8 := hp8.below bx hp8.lt
      replace hp10 := hp10.below bx hp10.lt
      replace hp11 := hp11.below bx hp11.lt
      replace hp12 := hp12.below bx hp12.lt
      replace hW := hW.trans (bx.mono (Nat.le_trans hB0 hW.size))
      clear bx
      refine ⟨_, rfl, hK.out _ _ ?_⟩
      clear hK K
      simp only [ls0, ls1]
      refine runL 120 (.tuple #[.agg (va .u8 (z)), .int .i64 9]) rfl (by rfl) (by go_simp) ?_
      simp only [ls0, ls1]
      refine runL 134 (.agg (va .u8 (z))) rfl (by rfl) (by go_simp) ?_
      simp only [ls0, ls1]
      refine runL 135 (.int .i64 9) rfl (by rfl) (by go_simp) ?_
      simp only [ls0, ls1]
      refine runWL 17 (.pointer (some ⟨w26.heap.size, 0, none⟩)) (w26.alloc (.cells (va .u8 (z)) 33)) rfl (by rfl) (exec_allocV 33 rfl _ (zv_blkz z hzq.out _)) ?_
      simp only [ls0, ls1]
      have lp3_p17 := hp3.lt
      have lp5_p17 := hp5.lt
      have lp7_p17 := hp7.lt
      have lp8_p17 := hp8.lt
      have lp10_p17 := hp10.lt
      have lp11_p17 := hp11.lt
      have lp12_p17 := hp12.lt
      have lw_p17 := Nat.le_trans hB0 hW.size
      have hp17 : Blk (w26.alloc (.cells (va .u8 (z)) 33)) w26.heap.size 33 (va .u8 (z)) := Blk.new _ _ _
      replace hp3 := hp3.alloc (.cells (va .u8 (z)) 33)
      replace hp5 := hp5.alloc (.cells (va .u8 (z)) 33)
      replace hp7 := hp7.alloc (.cells (va .u8 (z)) 33)
      replace hp8 := hp8.alloc (.cells (va .u8 (z)) 33)
      replace hp10 := hp10.alloc (.cells (va .u8 (z)) 33)
      replace hp11 := hp11.alloc (.cells (va .u8 (z)) 33)
      replace hp12 := hp12.alloc (.cells (va .u8 (z)) 33)
      replace hW := hW.alloc (Nat.le_trans hB0 hW.size) (.cells (va .u8 (z)) 33)
      generalize w26.alloc (.cells (va .u8 (z)) 33) = w27 at *
      generalize w26.heap.size = p17 at hp17 lw_p17 lp3_p17 lp5_p17 lp7_p17 lp8_p17 lp10_p17 lp11_p17 lp12_p17 ⊢
      refine runSL (w27.setRow p17 (va .u8 (z))) rfl (by rfl) (exec_storeRow 33 (.tmp 17) (.tmp 134) rfl p17 rfl (va .u8 (z)) rfl 33 (va .u8 (z)) hp17 (sz_eq (sz_api_Block _ (hzl)) (sz_api_Block _ (hzl))) (sz_api_Block _ (hzl)) (va_ones .u8 _)) ?_
      replace hp3 := hp3.rowFar (show p17 ≠ p3 from (by omega)) (va .u8 (z))
      replace hp5 := hp5.rowFar (show p17 ≠ p5 from (by omega)) (va .u8 (z))
      replace hp7 := hp7.rowFar (show p17 ≠ p7 from (by omega)) (va .u8 (z))
      replace hp8 := hp8.rowFar (show p17 ≠ p8 from (by omega)) (va .u8 (z))
      replace hp10 := hp10.rowFar (show p17 ≠ p10 from (by omega)) (va .u8 (z))
      replace hp11 := hp11.rowFar (show p17 ≠ p11 from (by omega)) (va .u8 (z))
      replace hp12 := hp12.rowFar (show p17 ≠ p12 from (by omega)) (va .u8 (z))
      replace hp17 := hp17.row (va .u8 (z))
      replace hW := below_setRow hW lw_p17 (va .u8 (z))
      generalize w27.setRow p17 (va .u8 (z)) = w28 at *
      refine runL 18 (.int .i64 9) rfl (by rfl) (by go_simp) ?_
      simp only [ls0, ls1]
      refine nilL ?_
      go_upto_region 21 with fail
      refine wl_lit ?_
      refine runL 136 (.string (bst (msg I s c x))) rfl (by rfl) (by go_simp) ?_
      simp only [ls0, ls1]
      refine runL 137 (.string (bst (msg i2 s2 c2 d2))) rfl (by rfl) (by go_simp) ?_
      simp only [ls0, ls1]
      refine runL 138 (.bool false) rfl (by rfl) (by go_simp) ?_
      simp only [ls0, ls1]
      refine runL 139 (.bool false) rfl (by rfl) (by go_simp) ?_
      simp only [ls0, ls1]
      refine runL 140 (.bool true) rfl (by rfl) (by go_simp) ?_
      simp only [ls0, ls1]
      refine runL 141 (.bool true) rfl (by rfl) (by go_simp) ?_
      simp only [ls0, ls1]
      refine runL 142 (.int .i64 9) rfl (by rfl) (by go_simp) ?_
      simp only [ls0, ls1]
      refine runL 143 (.bool false) rfl (by rfl) (by go_simp) ?_
      simp only [ls0, ls1]
      refine runL 144 (.int .i64 9) rfl (by rfl) (by go_simp) ?_
      simp only [ls0, ls1]
      refine runL 145 (.bool false) rfl (by rfl) (by go_simp) ?_
      simp only [ls0, ls1]
      refine runL 146 (.bool true) rfl (by rfl) (by go_simp) ?_
      simp only [ls0, ls1]
      refine runL 147 (.bool true) rfl (by rfl) (by go_simp) ?_
      simp only [ls0, ls1]
      refine runL 148 (.bool true) rfl (by rfl) (by go_simp) ?_
      simp only [ls0, ls1]
      refine runL 149 (.bool false) rfl (by rfl) (by go_simp) ?_
      simp only [ls0, ls1]
      refine runL 150 (.bool true) rfl (by rfl) (by go_simp) ?_
      simp only [ls0, ls1]
      refine runL 151 (.bool true) rfl (by rfl) (by go_simp) ?_
      simp only [ls0, ls1]
      refine skipL 152 rfl (by kernel_rfl) ?_
      simp only [ls0, ls1]
      refine skipL 153 rfl (by kernel_rfl) ?_
      simp only [ls0, ls1]
      refine runL 154 (.bool true) rfl (by rfl) (by go_simp) ?_
      simp only [ls0, ls1]
      refine runL 155 (.bool true) rfl (by rfl) (by go_simp) ?_
      simp only [ls0, ls1]
      refine runL 156 (.bool true) rfl (by rfl) (by go_simp) ?_
      simp only [ls0, ls1]
      refine callL 157 rfl (by rfl) (fun K hK => wp_callF 8 #[] (by go_simp) (lives09_any _ (gl.out _ hW)) ?_)
      rintro e w29 ⟨rfl, bx⟩
      replace hp3 := hp3.below bx hp3.lt
      replace hp5 := hp5.below bx hp5.lt
      replace hp7 := hp7.below bx hp7.lt
      replace hp8 := hp8.below bx hp8.lt
      replace hp10 := hp10.below bx hp10.lt
      replace hp11 := hp11.below bx hp11.lt
      replace hp12 := hp12.below bx hp12.lt
      replace hp17 := hp17.below bx hp17.lt
      replace hW := hW.trans (bx.mono (Nat.le_trans hB0 hW.size))
      clear bx
      refine ⟨_, rfl, hK.out _ _ ?_⟩
      clear hK K
      simp only [ls0, ls1]
      refine runL 158 (.bool true) rfl (by rfl) (by go_simp) ?_
      simp only [ls0, ls1]
      refine runL 6 (.bool true) rfl (by rfl) (by go_simp) ?_
      simp only [ls0, ls1]
      refine nilL ?_
      go_wp2_with fail
      go_ret
      exact ⟨rfl, hW⟩
     ·
      have hdne := hd9 rfl
      clear hd9
      go_upto_region 16 with fail
      refine wl_lit ?_
      refine runL 87 (.pointer (some ⟨p10, 0, none⟩)) rfl (by rfl) (by go_simp) ?_
      simp only [ls0, ls1]
      refine runL 88 (.agg (va .u8 (ke ++ km))) rfl (by rfl) (exec_mid 26 (.tmp 87) rfl p10 0 rfl (nv .u8 (ke ++ km)) _ (sV_keys hp10 hel hml) (by exact Tryd.underlying26) rfl (szKs _ _ hel hml)) ?_
      simp only [ls0, ls1]
      refine runL 89 (.pointer (some ⟨p10, 48, none⟩)) rfl (by rfl) (by go_simp) ?_
      simp only [ls0, ls1]
      refine runL 90 (.int .i64 (i2 : Int)) rfl (by rfl) (exec_cell 3 (.tmp 89) rfl p10 48 rfl (.int .i64 (i2 : Int)) _ Tryd.underlying3 rfl (sV_idx hp10 hel hml)) ?_
      simp only [ls0, ls1]
      refine runL 91 (.pointer (some ⟨p10, 49, none⟩)) rfl (by rfl) (by go_simp) ?_
      simp only [ls0, ls1]
      refine runL 92 (.agg (noV s2 c2)) rfl (by rfl) (exec_mid 30 (.tmp 91) rfl p10 49 rfl ((noV s2 c2).toList) _ (sV_no hp10 hel hml) (by exact Tryd.underlying30) rfl (by kernel_rfl)) ?_
      simp only [ls0, ls1]
      refine runL 93 (.agg (va .u8 (d2))) rfl (by rfl) (exec_row 33 (.tmp 11) rfl p11 rfl 33 (va .u8 (d2)) _ hp11 (by exact Tryd.underlying33) rfl (sz_api_Block _ (hd2l))) ?_
      simp only [ls0, ls1]
      refine runL 94 (.agg (va .u8 (t))) rfl (by rfl) (exec_row 45 (.tmp 8) rfl p8 rfl 45 (va .u8 (t)) _ hp8 (by exact Tryd.underlying45) rfl (sz_api_Digest _ (htl))) ?_
      simp only [ls0, ls1]
      refine callL 95 rfl (by rfl) (fun K hK => wp_callF 15 #[.agg (va .u8 (ke ++ km)), .int .i64 (i2 : Int), .agg (noV s2 c2), .agg (va .u8 (d2)), .agg (va .u8 (t))] (by go_simp) (sopen_noz z hzq.out ke km hel hml heb hmb i2 s2 c2 d2 hi2 hs2 hd2l hd2b t htl htb hvq.out _ (gl.out _ hW)) ?_)
      rintro e w21 ⟨rfl, bx⟩
      replace hp3 := hp3.below bx hp3.lt
      replace hp5 := hp5.below bx hp5.lt
      replace hp7 := hp7.below bx hp7.lt
      replace hp8 := hp8.below bx hp8.lt
      replace hp10 := hp10.below bx hp10.lt
      replace hp11 := hp11.below bx hp11.lt
      replace hW := hW.trans (bx.mono (Nat.le_trans hB0 hW.size))
      clear bx
      refine ⟨_, rfl, hK.out _ _ ?_⟩
      clear hK K
      simp only [ls0, ls1]
      refine runL 86 (.tuple #[.agg (va .u8 (z)), .int .i64 9]) rfl (by rfl) (by go_simp) ?_
      simp only [ls0, ls1]
      refine runL 96 (.agg (va .u8 (z))) rfl (by rfl) (by go_simp) ?_
      simp only [ls0, ls1]
      refine runL 97 (.int .i64 9) rfl (by rfl) (by go_simp) ?_
      simp only [ls0, ls1]
      refine runWL 12 (.pointer (some ⟨w21.heap.size, 0, none⟩)) (w21.alloc (.cells (va .u8 (z)) 33)) rfl (by rfl) (exec_allocV 33 rfl _ (zv_blkz z hzq.out _)) ?_
      simp only [ls0, ls1]
      have lp3_p12 := hp3.lt
      have lp5_p12 := hp5.lt
      have lp7_p12 := hp7.lt
      have lp8_p12 := hp8.lt
      have lp10_p12 := hp10.lt
      have lp11_p12 := hp11.lt
      have lw_p12 := Nat.le_trans hB0 hW.size
      have hp12 : Blk (w21.alloc (.cells (va .u8 (z)) 33)) w21.heap.size 33 (va .u8 (z)) := Blk.new _ _ _
      replace hp3 := hp3.alloc (.cells (va .u8 (z)) 33)
      replace hp5 := hp5.alloc (.cells (va .u8 (z)) 33)
      replace hp7 := hp7.alloc (.cells (va .u8 (z)) 33)
      replace hp8 := hp8.alloc (.cells (va .u8 (z)) 33)
      replace hp10 := hp10.alloc (.cells (va .u8 (z)) 33)
      replace hp11 := hp11.alloc (.cells (va .u8 (z)) 33)
      replace hW := hW.alloc (Nat.le_trans hB0 hW.size) (.cells (va .u8 (z)) 33)
      generalize w21.alloc (.cells (va .u8 (z)) 33) = w22 at *
      generalize w21.heap.size = p12 at hp12 lw_p12 lp3_p12 lp5_p12 lp7_p12 lp8_p12 lp10_p12 lp11_p12 ⊢
      refine runSL (w22.setRow p12 (va .u8 (z))) rfl (by rfl) (exec_storeRow 33 (.tmp 12) (.tmp 96) rfl p12 rfl (va .u8 (z)) rfl 33 (va .u8 (z)) hp12 (sz_eq (sz_api_Block _ (hzl)) (sz_api_Block _ (hzl))) (sz_api_Block _ (hzl)) (va_ones .u8 _)) ?_
      replace hp3 := hp3.rowFar (show p12 ≠ p3 from (by omega)) (va .u8 (z))
      replace hp5 := hp5.rowFar (show p12 ≠ p5 from (by omega)) (va .u8 (z))
      replace hp7 := hp7.rowFar (show p12 ≠ p7 from (by omega)) (va .u8 (z))
      replace hp8 := hp8.rowFar (show p12 ≠ p8 from (by omega)) (va .u8 (z))
      replace hp10 := hp10.rowFar (show p12 ≠ p10 from (by omega)) (va .u8 (z))
      replace hp11 := hp11.rowFar (show p12 ≠ p11 from (by omega)) (va .u8 (z))
      replace hp12 := hp12.row (va .u8 (z))
      replace hW := below_setRow hW lw_p12 (va .u8 (z))
      generalize w22.setRow p12 (va .u8 (z)) = w23 at *
      refine runL 13 (.int .i64 9) rfl (by rfl) (by go_simp) ?_
      simp only [ls0, ls1]
      refine nilL ?_
      go_upto_region 17 with fail
      refine wl_lit ?_
      refine runL 98 (.pointer (some ⟨p3, 48, none⟩)) rfl (by rfl) (by go_simp) ?_
      simp only [ls0, ls1]
      refine runL 99 (.int .i64 (I : Int)) rfl (by rfl) (exec_cell 3 (.tmp 98) rfl p3 48 rfl (.int .i64 (I : Int)) _ Tryd.underlying3 rfl (sV_idx hp3 hel hml)) ?_
      simp only [ls0, ls1]
      refine runL 100 (.pointer (some ⟨p3, 49, none⟩)) rfl (by rfl) (by go_simp) ?_
      simp only [ls0, ls1]
      refine runL 101 (.agg (noV s c)) rfl (by rfl) (exec_mid 30 (.tmp 100) rfl p3 49 rfl ((noV s c).toList) _ (sV_no hp3 hel hml) (by exact Tryd.underlying30) rfl (by kernel_rfl)) ?_
      simp only [ls0, ls1]
      refine runL 102 (.agg (va .u8 (x))) rfl (by rfl) (exec_row 33 (.tmp 7) rfl p7 rfl 33 (va .u8 (x)) _ hp7 (by exact Tryd.underlying33) rfl (sz_api_Block _ (hxl))) ?_
      simp only [ls0, ls1]
      refine callL 103 rfl (by rfl) (fun K hK => wp_callF 13 #[.int .i64 (I : Int), .agg (noV s c), .agg (va .u8 (x))] (by go_simp) (rmsg_any I s c x hI hs hxl hxb hc _) ?_)
      rintro e w24 ⟨AM, cAM, rfl, hAM, bx⟩
      have nAM_p3 := hAM.off_lt hp3.lt
      have nAM_p5 := hAM.off_lt hp5.lt
      have nAM_p7 := hAM.off_lt hp7.lt
      have nAM_p8 := hAM.off_lt hp8.lt
      have nAM_p10 := hAM.off_lt hp10.lt
      have nAM_p11 := hAM.off_lt hp11.lt
      have nAM_p12 := hAM.off_lt hp12.lt
      replace hAM := hAM.mono (Nat.le_trans hB0 hW.size)
      replace hp3 := hp3.below bx hp3.lt
      replace hp5 := hp5.below bx hp5.lt
      replace hp7 := hp7.below bx hp7.lt
      replace hp8 := hp8.below bx hp8.lt
      replace hp10 := hp10.below bx hp10.lt
      replace hp11 := hp11.below bx hp11.lt
      replace hp12 := hp12.below bx hp12.lt
      replace hW := hW.trans (bx.mono (Nat.le_trans hB0 hW.size))
      clear bx
      refine ⟨_, rfl, hK.out _ _ ?_⟩
      clear hK K
      simp only [ls0, ls1]
      refine runL 104 (.string (bst (msg I s c x))) rfl (by rfl) (exec_conv 34 9 (.tmp 103) rfl (.slice (AM) 48 cAM) (.string (bst (msg I s c x))) rfl (Reads.string hAM.reads _ _ Tryd.underlying34 Tryd.underlying9)) ?_
      simp only [ls0, ls1]
      refine runL 14 (.string (bst (msg I s c x))) rfl (by rfl) (by go_simp) ?_
      simp only [ls0, ls1]
      refine nilL ?_
      clear hAM
      go_upto_region 18 with fail
      refine wl_lit ?_
      refine runL 105 (.pointer (some ⟨p10, 48, none⟩)) rfl (by rfl) (by go_simp) ?_
      simp only [ls0, ls1]
      refine runL 106 (.int .i64 (i2 : Int)) rfl (by rfl) (exec_cell 3 (.tmp 105) rfl p10 48 rfl (.int .i64 (i2 : Int)) _ Tryd.underlying3 rfl (sV_idx hp10 hel hml)) ?_
      simp only [ls0, ls1]
      refine runL 107 (.pointer (some ⟨p10, 49, none⟩)) rfl (by rfl) (by go_simp) ?_
      simp only [ls0, ls1]
      refine runL 108 (.agg (noV s2 c2)) rfl (by rfl) (exec_mid 30 (.tmp 107) rfl p10 49 rfl ((noV s2 c2).toList) _ (sV_no hp10 hel hml) (by exact Tryd.underlying30) rfl (by kernel_rfl)) ?_
      simp only [ls0, ls1]
      refine runL 109 (.agg (va .u8 (d2))) rfl (by rfl) (exec_row 33 (.tmp 11) rfl p11 rfl 33 (va .u8 (d2)) _ hp11 (by exact Tryd.underlying33) rfl (sz_api_Block _ (hd2l))) ?_
      simp only [ls0, ls1]
      refine callL 110 rfl (by rfl) (fun K hK => wp_callF 13 #[.int .i64 (i2 : Int), .agg (noV s2 c2), .agg (va .u8 (d2))] (by go_simp) (rmsg_any i2 s2 c2 d2 hi2 hs2 hd2l hd2b hc2 _) ?_)
      rintro e w25 ⟨AN, cAN, rfl, hAN, bx⟩
      have nAN_p3 := hAN.off_lt hp3.lt
      have nAN_p5 := hAN.off_lt hp5.lt
      have nAN_p7 := hAN.off_lt hp7.lt
      have nAN_p8 := hAN.off_lt hp8.lt
      have nAN_p10 := hAN.off_lt hp10.lt
      have nAN_p11 := hAN.off_lt hp11.lt
      have nAN_p12 := hAN.off_lt hp12.lt
      replace hAN := hAN.mono (Nat.le_trans hB0 hW.size)
      replace hp3 := hp3.below bx hp3.lt
      replace hp5 := hp5.below bx hp5.lt
      replace hp7 := hp7.below bx hp7.lt
      replace hp8 := hp8.below bx hp8.lt
      replace hp10 := hp10.below bx hp10.lt
      replace hp11 := hp11.below bx hp11.lt
      replace hp12 := hp12.below bx hp12.lt
      replace hW := hW.trans (bx.mono (Nat.le_trans hB0 hW.size))
      clear bx
      refine ⟨_, rfl, hK.out _ _ ?_⟩
      clear hK K
      simp only [ls0, ls1]
      refine runL 111 (.string (bst (msg i2 s2 c2 d2))) rfl (by rfl) (exec_conv 34 9 (.tmp 110) rfl (.slice (AN) 48 cAN) (.string (bst (msg i2 s2 c2 d2))) rfl (Reads.string hAN.reads _ _ Tryd.underlying34 Tryd.underlying9)) ?_
      simp only [ls0, ls1]
      refine runL 15 (.string (bst (msg i2 s2 c2 d2))) rfl (by rfl) (by go_simp) ?_
      simp only [ls0, ls1]
      refine nilL ?_
      clear hAN
      go_upto_region 19 with fail
      refine wl_lit ?_
      refine runL 112 (.agg (sV ke km (i2 : Int) s2 c2)) rfl (by rfl) (exec_row 32 (.tmp 10) rfl p10 rfl 32 (sV ke km (i2 : Int) s2 c2) _ hp10 (by exact Tryd.underlying32) rfl (sV_sz _ _ _ hel hml)) ?_
      simp only [ls0, ls1]
      refine runL 113 (.agg (sV ke km (I : Int) s c)) rfl (by rfl) (exec_row 32 (.tmp 3) rfl p3 rfl 32 (sV ke km (I : Int) s c) _ hp3 (by exact Tryd.underlying32) rfl (sV_sz _ _ _ hel hml)) ?_
      simp only [ls0, ls1]
      refine runL 114 (.bool true) rfl (by rfl) (exec_eqV 32 (by kernel_rfl) (.tmp 112) (.tmp 113) _ rfl (sV ke km (i2 : Int) s2 c2) (sV ke km (I : Int) s c) rfl rfl true (eqS ke km hel hml _ _ _ _ _ _ _ hSq.out _)) ?_
      simp only [ls0, ls1]
      refine runL 115 (.bool true) rfl (by rfl) (by go_simp) ?_
      simp only [ls0, ls1]
      refine runL 116 (.agg (va .u8 (d2))) rfl (by rfl) (exec_row 33 (.tmp 11) rfl p11 rfl 33 (va .u8 (d2)) _ hp11 (by exact Tryd.underlying33) rfl (sz_api_Block _ (hd2l))) ?_
      simp only [ls0, ls1]
      refine runL 117 (.agg (va .u8 (x))) rfl (by rfl) (exec_row 33 (.tmp 7) rfl p7 rfl 33 (va .u8 (x)) _ hp7 (by exact Tryd.underlying33) rfl (sz_api_Block _ (hxl))) ?_
      simp only [ls0, ls1]
      refine runL 118 (.bool false) rfl (by rfl) (exec_eqB 33 32 (by kernel_rfl) (by kernel_rfl) (.tmp 116) (.tmp 117) _ rfl d2 x hd2l hxl rfl rfl false (decide_eq_false hdne)) ?_
      simp only [ls0, ls1]
      refine runL 119 (.bool false) rfl (by rfl) (by go_simp) ?_
      simp only [ls0, ls1]
      refine runL 16 (.bool false) rfl (by rfl) (by go_simp) ?_
      simp only [ls0, ls1]
      refine nilL ?_
      go_upto_region 20 with fail
      refine wl_lit ?_
      refine runL 121 (.pointer (some ⟨p10, 0, none⟩)) rfl (by rfl) (by go_simp) ?_
      simp only [ls0, ls1]
      refine runL 122 (.pointer (some ⟨p10, 0, none⟩)) rfl (by rfl) (by go_simp) ?_
      simp only [ls0, ls1]
      refine runL 123 (.agg (va .u8 (ke))) rfl (by rfl) (exec_mid 22 (.tmp 122) rfl p10 0 rfl (nv .u8 ke) _ (sV_enc hp10 hel hml) (by exact Tryd.underlying22) rfl (sz16D _ hel)) ?_
      simp only [ls0, ls1]
      refine runL 124 (.pointer (some ⟨p10, 0, none⟩)) rfl (by rfl) (by go_simp) ?_
      simp only [ls0, ls1]
      refine runL 125 (.pointer (some ⟨p10, 16, none⟩)) rfl (by rfl) (by go_simp) ?_
      simp only [ls0, ls1]
      refine runL 126 (.agg (va .u8 (km))) rfl (by rfl) (exec_mid 24 (.tmp 125) rfl p10 16 rfl (nv .u8 km) _ (sV_mac hp10 hel hml) (by exact Tryd.underlying24) rfl (szKD _ hml)) ?_
      simp only [ls0, ls1]
      refine runL 127 (.pointer (some ⟨p10, 48, none⟩)) rfl (by rfl) (by go_simp) ?_
      simp only [ls0, ls1]
      refine runL 128 (.int .i64 (i2 : Int)) rfl (by rfl) (exec_cell 3 (.tmp 127) rfl p10 48 rfl (.int .i64 (i2 : Int)) _ Tryd.underlying3 rfl (sV_idx hp10 hel hml)) ?_
      simp only [ls0, ls1]
      refine runL 129 (.pointer (some ⟨p10, 49, none⟩)) rfl (by rfl) (by go_simp) ?_
      simp only [ls0, ls1]
      refine runL 130 (.agg (noV s2 c2)) rfl (by rfl) (exec_mid 30 (.tmp 129) rfl p10 49 rfl ((noV s2 c2).toList) _ (sV_no hp10 hel hml) (by exact Tryd.underlying30) rfl (by kernel_rfl)) ?_
      simp only [ls0, ls1]
      refine runL 131 (.agg (va .u8 (d2))) rfl (by rfl) (exec_row 33 (.tmp 11) rfl p11 rfl 33 (va .u8 (d2)) _ hp11 (by exact Tryd.underlying33) rfl (sz_api_Block _ (hd2l))) ?_
      simp only [ls0, ls1]
      refine runL 132 (.agg (va .u8 (t))) rfl (by rfl) (exec_row 45 (.tmp 8) rfl p8 rfl 45 (va .u8 (t)) _ hp8 (by exact Tryd.underlying45) rfl (sz_api_Digest _ (htl))) ?_
      simp only [ls0, ls1]
      refine callL 133 rfl (by rfl) (fun K hK => wp_callF 17 #[.agg (va .u8 (ke)), .agg (va .u8 (km)), .int .i64 (i2 : Int), .agg (noV s2 c2), .agg (va .u8 (d2)), .agg (va .u8 (t))] (by go_simp) (ropen_noz z hzq.out ke km hel hml heb hmb i2 s2 c2 d2 hi2 hs2 hd2l hd2b hc2 t htl htb hvq.out _) ?_)
      rintro e w26 ⟨rfl, bx⟩
      replace hp3 := hp3.below bx hp3.lt
      replace hp5 := hp5.below bx hp5.lt
      replace hp7 := hp7.below bx hp7.lt
      replace hp8 := hp8.below bx hp8.lt
      replace hp10 := hp10.below bx hp10.lt
      replace hp11 := hp11.below bx hp11.lt
      replace hp12 := hp12.below bx hp12.lt
      replace hW := hW.trans (bx.mono (Nat.le_trans hB0 hW.size))
      clear bx
      refine ⟨_, rfl, hK.out _ _ ?_⟩
      clear hK K
      simp only [ls0, ls1]
      refine runL 120 (.tuple #[.agg (va .u8 (z)), .int .i64 9]) rfl (by rfl) (by go_simp) ?_
      simp only [ls0, ls1]
      refine runL 134 (.agg (va .u8 (z))) rfl (by rfl) (by go_simp) ?_
      simp only [ls0, ls1]
      refine runL 135 (.int .i64 9) rfl (by rfl) (by go_simp) ?_
      simp only [ls0, ls1]
      refine runWL 17 (.pointer (some ⟨w26.heap.size, 0, none⟩)) (w26.alloc (.cells (va .u8 (z)) 33)) rfl (by rfl) (exec_allocV 33 rfl _ (zv_blkz z hzq.out _)) ?_
      simp only [ls0, ls1]
      have lp3_p17 := hp3.lt
      have lp5_p17 := hp5.lt
      have lp7_p17 := hp7.lt
      have lp8_p17 := hp8.lt
      have lp10_p17 := hp10.lt
      have lp11_p17 := hp11.lt
      have lp12_p17 := hp12.lt
      have lw_p17 := Nat.le_trans hB0 hW.size
      have hp17 : Blk (w26.alloc (.cells (va .u8 (z)) 33)) w26.heap.size 33 (va .u8 (z)) := Blk.new _ _ _
      replace hp3 := hp3.alloc (.cells (va .u8 (z)) 33)
      replace hp5 := hp5.alloc (.cells (va .u8 (z)) 33)
      replace hp7 := hp7.alloc (.cells (va .u8 (z)) 33)
      replace hp8 := hp8.alloc (.cells (va .u8 (z)) 33)
      replace hp10 := hp10.alloc (.cells (va .u8 (z)) 33)
      replace hp11 := hp11.alloc (.cells (va .u8 (z)) 33)
      replace hp12 := hp12.alloc (.cells (va .u8 (z)) 33)
      replace hW := hW.alloc (Nat.le_trans hB0 hW.size) (.cells (va .u8 (z)) 33)
      generalize w26.alloc (.cells (va .u8 (z)) 33) = w27 at *
      generalize w26.heap.size = p17 at hp17 lw_p17 lp3_p17 lp5_p17 lp7_p17 lp8_p17 lp10_p17 lp11_p17 lp12_p17 ⊢
      refine runSL (w27.setRow p17 (va .u8 (z))) rfl (by rfl) (exec_storeRow 33 (.tmp 17) (.tmp 134) rfl p17 rfl (va .u8 (z)) rfl 33 (va .u8 (z)) hp17 (sz_eq (sz_api_Block _ (hzl)) (sz_api_Block _ (hzl))) (sz_api_Block _ (hzl)) (va_ones .u8 _)) ?_
      replace hp3 := hp3.rowFar (show p17 ≠ p3 from (by omega)) (va .u8 (z))
      replace hp5 := hp5.rowFar (show p17 ≠ p5 from (by omega)) (va .u8 (z))
      replace hp7 := hp7.rowFar (show p17 ≠ p7 from (by omega)) (va .u8 (z))
      replace hp8 := hp8.rowFar (show p17 ≠ p8 from (by omega)) (va .u8 (z))
      replace hp10 := hp10.rowFar (show p17 ≠ p10 from (by omega)) (va .u8 (z))
      replace hp11 := hp11.rowFar (show p17 ≠ p11 from (by omega)) (va .u8 (z))
      replace hp12 := hp12.rowFar (show p17 ≠ p12 from (by omega)) (va .u8 (z))
      replace hp17 := hp17.row (va .u8 (z))
      replace hW := below_setRow hW lw_p17 (va .u8 (z))
      generalize w27.setRow p17 (va .u8 (z)) = w28 at *
      refine runL 18 (.int .i64 9) rfl (by rfl) (by go_simp) ?_
      simp only [ls0, ls1]
      refine nilL ?_
      go_upto_region 21 with fail
      refine wl_lit ?_
      refine runL 136 (.string (bst (msg I s c x))) rfl (by rfl) (by go_simp) ?_
      simp only [ls0, ls1]
      refine runL 137 (.string (bst (msg i2 s2 c2 d2))) rfl (by rfl) (by go_simp) ?_
      simp only [ls0, ls1]
      refine runL 138 (.bool false) rfl (by rfl) (by go_simp) ?_
      simp only [ls0, ls1]
      refine runL 139 (.bool false) rfl (by rfl) (by go_simp) ?_
      simp only [ls0, ls1]
      refine runL 140 (.bool true) rfl (by rfl) (by go_simp) ?_
      simp only [ls0, ls1]
      refine runL 141 (.bool true) rfl (by rfl) (by go_simp) ?_
      simp only [ls0, ls1]
      refine runL 142 (.int .i64 9) rfl (by rfl) (by go_simp) ?_
      simp only [ls0, ls1]
      refine runL 143 (.bool false) rfl (by rfl) (by go_simp) ?_
      simp only [ls0, ls1]
      refine runL 144 (.int .i64 9) rfl (by rfl) (by go_simp) ?_
      simp only [ls0, ls1]
      refine runL 145 (.bool false) rfl (by rfl) (by go_simp) ?_
      simp only [ls0, ls1]
      refine runL 146 (.bool true) rfl (by rfl) (by go_simp) ?_
      simp only [ls0, ls1]
      refine runL 147 (.bool true) rfl (by rfl) (by go_simp) ?_
      simp only [ls0, ls1]
      refine runL 148 (.bool true) rfl (by rfl) (by go_simp) ?_
      simp only [ls0, ls1]
      refine runL 149 (.bool false) rfl (by rfl) (by go_simp) ?_
      simp only [ls0, ls1]
      refine runL 150 (.bool true) rfl (by rfl) (by go_simp) ?_
      simp only [ls0, ls1]
      refine runL 151 (.bool true) rfl (by rfl) (by go_simp) ?_
      simp only [ls0, ls1]
      refine skipL 152 rfl (by kernel_rfl) ?_
      simp only [ls0, ls1]
      refine skipL 153 rfl (by kernel_rfl) ?_
      simp only [ls0, ls1]
      refine runL 154 (.bool true) rfl (by rfl) (by go_simp) ?_
      simp only [ls0, ls1]
      refine runL 155 (.bool true) rfl (by rfl) (by go_simp) ?_
      simp only [ls0, ls1]
      refine runL 156 (.bool true) rfl (by rfl) (by go_simp) ?_
      simp only [ls0, ls1]
      refine callL 157 rfl (by rfl) (fun K hK => wp_callF 8 #[] (by go_simp) (lives09_any _ (gl.out _ hW)) ?_)
      rintro e w29 ⟨rfl, bx⟩
      replace hp3 := hp3.below bx hp3.lt
      replace hp5 := hp5.below bx hp5.lt
      replace hp7 := hp7.below bx hp7.lt
      replace hp8 := hp8.below bx hp8.lt
      replace hp10 := hp10.below bx hp10.lt
      replace hp11 := hp11.below bx hp11.lt
      replace hp12 := hp12.below bx hp12.lt
      replace hp17 := hp17.below bx hp17.lt
      replace hW := hW.trans (bx.mono (Nat.le_trans hB0 hW.size))
      clear bx
      refine ⟨_, rfl, hK.out _ _ ?_⟩
      clear hK K
      simp only [ls0, ls1]
      refine runL 158 (.bool true) rfl (by rfl) (by go_simp) ?_
      simp only [ls0, ls1]
      refine runL 6 (.bool true) rfl (by rfl) (by go_simp) ?_
      simp only [ls0, ls1]
      refine nilL ?_
      go_wp2_with fail
      go_ret
      exact ⟨rfl, hW⟩
end Go.Proofs.YtcfddmplnoknlaaDoor
