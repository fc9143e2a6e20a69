/-
  The walk of caissonlaw09.SealsBack. (Printed by mkseal09c.py.)
-/
import Derived.Test.YtcfddmplnoknlaaDoorY23
namespace Go.Proofs.YtcfddmplnoknlaaDoor
set_option maxRecDepth 16384
open Go.RowKit Sh

set_option maxRecDepth 8000 in
set_option maxHeartbeats 4000000 in
theorem lawSBack_any (ke km : List Nat) (hel : ke.length = 16) (hml : km.length = 32) (heb : Byt ke) (hmb : Byt km) (i : Int) (s c : Nat) (hs : s < 4294967296) (hc : c < 18446744073709551616) (d : List Nat) (hdl : d.length = 32) (hdb : Byt d) (w : World) (hg : Glob w) :
  Calls Tryd.prog 4 #[.agg (sV ke km i s c), .agg (va .u8 d)] w fun e w' => e = .returned (.bool true) ∧ Below w.heap.size w w' := by
 obtain ⟨B0, hB0e, hW, hB0⟩ := stB w
 rw [hB0e]
 have gl := glob_of hg hB0e
 clear hg
 have hB0q := Lib.hid hB0e
 clear hB0e
 obtain ⟨z, hz⟩ : ∃ z, List.replicate 32 0 = z := ⟨_, rfl⟩
 have hzl : z.length = 32 := by rw [← hz]; exact List.length_replicate
 have hzb : Byt z := by rw [← hz]; exact Byt.rep _ _ (by omega)
 have hzq := Lib.hid hz
 clear hz
 by_cases hi : i < 0 ∨ 4096 ≤ i
 ·
  go_enter Tryd.func4, Tryd.ntmps4
  go_upto_region 0 with fail
  refine wl_lit ?_
  refine runWL 2 (.pointer (some ⟨w.heap.size, 0, none⟩)) (w.alloc (.cells (sV ke km i s c) 32)) rfl (by rfl) (exec_box 32 (.tmp 0) rfl (.agg (sV ke km i s c)) rfl) ?_
  simp only [Ls]
  have lw_p2 := Nat.le_trans hB0 hW.size
  have hp2 := Blk.new w 32 (sV ke km i s c)
  replace hW := alB hW hB0 (.cells (sV ke km i s c) 32)
  generalize w.alloc (.cells (sV ke km i s c) 32) = w1 at *
  generalize w.heap.size = p2 at hp2 lw_p2  ⊢
  refine runWL 3 (.pointer (some ⟨w1.heap.size, 0, none⟩)) (w1.alloc (.cells (va .u8 d) 33)) rfl (by rfl) (exec_box 33 (.tmp 1) rfl (.agg (va .u8 d)) rfl) ?_
  simp only [Ls]
  have lp2_p3 := hp2.lt
  have lw_p3 := Nat.le_trans hB0 hW.size
  have hp3 := Blk.new w1 33 (va .u8 d)
  have bx := bAl w1 (.cells (va .u8 d) 33)
  replace hp2 := blB hp2 bx
  replace hW := trB hW hB0 bx
  clear bx
  generalize w1.alloc (.cells (va .u8 d) 33) = w2 at *
  generalize w1.heap.size = p3 at hp3 lw_p3 lp2_p3 ⊢
  refine runL 4 (.bool false) rfl (by rfl) (by go_simp) ?_
  simp only [Ls]
  refine nilL ?_
  go_upto_region 1 with fail
  refine wl_lit ?_
  refine runL 15 (.pointer (some ⟨p2, 0, none⟩)) rfl (by rfl) (by go_simp) ?_
  simp only [Ls]
  refine runL 16 (.agg (va .u8 (ke ++ km))) rfl (by rfl) (exec_mid 26 (.tmp 15) rfl p2 0 rfl (nv .u8 (ke ++ km)) _ (sV_keys hp2 hel hml) (by exact Tryd.underlying26) rfl (szKs _ _ hel hml)) ?_
  simp only [Ls]
  refine runL 17 (.pointer (some ⟨p2, 48, none⟩)) rfl (by rfl) (by go_simp) ?_
  simp only [Ls]
  refine runL 18 (.int .i64 i) rfl (by rfl) (exec_cell 3 (.tmp 17) rfl p2 48 rfl (.int .i64 i) _ Tryd.underlying3 rfl (sV_idx hp2 hel hml)) ?_
  simp only [Ls]
  refine runL 19 (.pointer (some ⟨p2, 49, none⟩)) rfl (by rfl) (by go_simp) ?_
  simp only [Ls]
  refine runL 20 (.agg (noV s c)) rfl (by rfl) (exec_mid 30 (.tmp 19) rfl p2 49 rfl ((noV s c).toList) _ (sV_no hp2 hel hml) (by exact Tryd.underlying30) rfl (by kernel_rfl)) ?_
  simp only [Ls]
  refine runL 21 (.agg (va .u8 d)) rfl (by rfl) (exec_row 33 (.tmp 3) rfl p3 rfl 33 (va .u8 d) _ hp3 (by exact Tryd.underlying33) rfl (sz_api_Block _ hdl)) ?_
  simp only [Ls]
  refine callL 22 rfl (by rfl) (fun K hK => wp_callF 14 #[.agg (va .u8 (ke ++ km)), .int .i64 i, .agg (noV s c), .agg (va .u8 d)] (by go_simp) (sseal_badz z hzq.out ke km hel hml heb hmb i hi s c d hdl _) ?_)
  rintro e w3 ⟨rfl, bx⟩
  replace hp2 := blB hp2 bx
  replace hp3 := blB hp3 bx
  replace hW := trB hW hB0 bx
  clear bx
  refine ⟨_, rfl, hK.out _ _ ?_⟩
  clear hK K
  simp only [Ls]
  refine runL 14 (.tuple #[.agg (va .u8 z), .agg (va .u8 z), .int .i64 1]) rfl (by rfl) (by go_simp) ?_
  simp only [Ls]
  refine runL 23 (.agg (va .u8 z)) rfl (by rfl) (by go_simp) ?_
  simp only [Ls]
  refine runL 24 (.agg (va .u8 z)) rfl (by rfl) (by go_simp) ?_
  simp only [Ls]
  refine runL 25 (.int .i64 1) rfl (by rfl) (by go_simp) ?_
  simp only [Ls]
  refine runWL 5 (.pointer (some ⟨w3.heap.size, 0, none⟩)) (w3.alloc (.cells (va .u8 z) 33)) rfl (by rfl) (exec_allocV 33 rfl _ (zv_blkz z hzq.out _)) ?_
  simp only [Ls]
  have lp2_p5 := hp2.lt
  have lp3_p5 := hp3.lt
  have lw_p5 := Nat.le_trans hB0 hW.size
  have hp5 := Blk.new w3 33 (va .u8 z)
  have bx := bAl w3 (.cells (va .u8 z) 33)
  replace hp2 := blB hp2 bx
  replace hp3 := blB hp3 bx
  replace hW := trB hW hB0 bx
  clear bx
  generalize w3.alloc (.cells (va .u8 z) 33) = w4 at *
  generalize w3.heap.size = p5 at hp5 lw_p5 lp2_p5 lp3_p5 ⊢
  refine runWL 6 (.pointer (some ⟨w4.heap.size, 0, none⟩)) (w4.alloc (.cells (va .u8 z) 45)) rfl (by rfl) (exec_allocV 45 rfl _ (zv_digz z hzq.out _)) ?_
  simp only [Ls]
  have lp2_p6 := hp2.lt
  have lp3_p6 := hp3.lt
  have lp5_p6 := hp5.lt
  have lw_p6 := Nat.le_trans hB0 hW.size
  have hp6 := Blk.new w4 45 (va .u8 z)
  have bx := bAl w4 (.cells (va .u8 z) 45)
  replace hp2 := blB hp2 bx
  replace hp3 := blB hp3 bx
  replace hp5 := blB hp5 bx
  replace hW := trB hW hB0 bx
  clear bx
  generalize w4.alloc (.cells (va .u8 z) 45) = w5 at *
  generalize w4.heap.size = p6 at hp6 lw_p6 lp2_p6 lp3_p6 lp5_p6 ⊢
  refine runSL (w5.setRow p5 (va .u8 z)) rfl (by rfl) (exec_storeRow 33 (.tmp 5) (.tmp 23) rfl p5 rfl (va .u8 z) rfl 33 (va .u8 z) hp5 (sz_eq (sz_api_Block _ hzl) (sz_api_Block _ hzl)) (sz_api_Block _ hzl) (va_ones .u8 _)) ?_
  replace hp2 := hp2.rowFar (show p5 ≠ p2 from (by omega)) (va .u8 z)
  replace hp3 := hp3.rowFar (show p5 ≠ p3 from (by omega)) (va .u8 z)
  replace hp6 := hp6.rowFar (show p5 ≠ p6 from (by omega)) (va .u8 z)
  replace hp5 := hp5.row (va .u8 z)
  replace hW := below_setRow hW lw_p5 (va .u8 z)
  generalize w5.setRow p5 (va .u8 z) = w6 at *
  refine runSL (w6.setRow p6 (va .u8 z)) rfl (by rfl) (exec_storeRow 45 (.tmp 6) (.tmp 24) rfl p6 rfl (va .u8 z) rfl 45 (va .u8 z) hp6 (sz_eq (sz_api_Digest _ hzl) (sz_api_Digest _ hzl)) (sz_api_Digest _ hzl) (va_ones .u8 _)) ?_
  replace hp2 := hp2.rowFar (show p6 ≠ p2 from (by omega)) (va .u8 z)
  replace hp3 := hp3.rowFar (show p6 ≠ p3 from (by omega)) (va .u8 z)
  replace hp5 := hp5.rowFar (show p6 ≠ p5 from (by omega)) (va .u8 z)
  replace hp6 := hp6.row (va .u8 z)
  replace hW := below_setRow hW lw_p6 (va .u8 z)
  generalize w6.setRow p6 (va .u8 z) = w7 at *
  refine runL 7 (.int .i64 1) rfl (by rfl) (by go_simp) ?_
  simp only [Ls]
  refine nilL ?_
  go_upto_region 2 with fail
  refine wl_lit ?_
  refine runL 26 (.pointer (some ⟨p2, 48, none⟩)) rfl (by rfl) (by go_simp) ?_
  simp only [Ls]
  refine runL 27 (.int .i64 i) rfl (by rfl) (exec_cell 3 (.tmp 26) rfl p2 48 rfl (.int .i64 i) _ Tryd.underlying3 rfl (sV_idx hp2 hel hml)) ?_
  simp only [Ls]
  refine callL 28 rfl (by rfl) (fun K hK => wp_callF 10 #[.int .i64 i] (by go_simp) (bad_yes i hi _) ?_)
  rintro e w8 ⟨rfl, bx⟩
  replace hp2 := blB hp2 bx
  replace hp3 := blB hp3 bx
  replace hp5 := blB hp5 bx
  replace hp6 := blB hp6 bx
  replace hW := trB hW hB0 bx
  clear bx
  refine ⟨_, rfl, hK.out _ _ ?_⟩
  clear hK K
  simp only [Ls]
  refine nilL ?_
  go_upto_region 3 with fail
  refine wl_lit ?_
  refine runL 30 (.pointer (some ⟨p2, 0, none⟩)) rfl (by rfl) (by go_simp) ?_
  simp only [Ls]
  refine runL 31 (.agg (va .u8 (ke ++ km))) rfl (by rfl) (exec_mid 26 (.tmp 30) rfl p2 0 rfl (nv .u8 (ke ++ km)) _ (sV_keys hp2 hel hml) (by exact Tryd.underlying26) rfl (szKs _ _ hel hml)) ?_
  simp only [Ls]
  refine runL 32 (.pointer (some ⟨p2, 48, none⟩)) rfl (by rfl) (by go_simp) ?_
  simp only [Ls]
  refine runL 33 (.int .i64 i) rfl (by rfl) (exec_cell 3 (.tmp 32) rfl p2 48 rfl (.int .i64 i) _ Tryd.underlying3 rfl (sV_idx hp2 hel hml)) ?_
  simp only [Ls]
  refine runL 34 (.pointer (some ⟨p2, 49, none⟩)) rfl (by rfl) (by go_simp) ?_
  simp only [Ls]
  refine runL 35 (.agg (noV s c)) rfl (by rfl) (exec_mid 30 (.tmp 34) rfl p2 49 rfl ((noV s c).toList) _ (sV_no hp2 hel hml) (by exact Tryd.underlying30) rfl (by kernel_rfl)) ?_
  simp only [Ls]
  refine runL 36 (.agg (va .u8 d)) rfl (by rfl) (exec_row 33 (.tmp 3) rfl p3 rfl 33 (va .u8 d) _ hp3 (by exact Tryd.underlying33) rfl (sz_api_Block _ hdl)) ?_
  simp only [Ls]
  refine runL 37 (.agg (va .u8 z)) rfl (by rfl) (exec_row 45 (.tmp 6) rfl p6 rfl 45 (va .u8 z) _ hp6 (by exact Tryd.underlying45) rfl (sz_api_Digest _ hzl)) ?_
  simp only [Ls]
  refine callL 38 rfl (by rfl) (fun K hK => wp_callF 15 #[.agg (va .u8 (ke ++ km)), .int .i64 i, .agg (noV s c), .agg (va .u8 d), .agg (va .u8 z)] (by go_simp) (sopen_badz z hzq.out ke km hel hml heb hmb i hi s c d hdl hdb z hzl hzb _) ?_)
  rintro e w9 ⟨rfl, bx⟩
  replace hp2 := blB hp2 bx
  replace hp3 := blB hp3 bx
  replace hp5 := blB hp5 bx
  replace hp6 := blB hp6 bx
  replace hW := trB hW hB0 bx
  clear bx
  refine ⟨_, rfl, hK.out _ _ ?_⟩
  clear hK K
  simp only [Ls]
  refine runL 29 (.tuple #[.agg (va .u8 z), .int .i64 1]) rfl (by rfl) (by go_simp) ?_
  simp only [Ls]
  refine runL 39 (.agg (va .u8 z)) rfl (by rfl) (by go_simp) ?_
  simp only [Ls]
  refine runL 40 (.int .i64 1) rfl (by rfl) (by go_simp) ?_
  simp only [Ls]
  refine runWL 8 (.pointer (some ⟨w9.heap.size, 0, none⟩)) (w9.alloc (.cells (va .u8 z) 33)) rfl (by rfl) (exec_allocV 33 rfl _ (zv_blkz z hzq.out _)) ?_
  simp only [Ls]
  have lp2_p8 := hp2.lt
  have lp3_p8 := hp3.lt
  have lp5_p8 := hp5.lt
  have lp6_p8 := hp6.lt
  have lw_p8 := Nat.le_trans hB0 hW.size
  have hp8 := Blk.new w9 33 (va .u8 z)
  have bx := bAl w9 (.cells (va .u8 z) 33)
  replace hp2 := blB hp2 bx
  replace hp3 := blB hp3 bx
  replace hp5 := blB hp5 bx
  replace hp6 := blB hp6 bx
  replace hW := trB hW hB0 bx
  clear bx
  generalize w9.alloc (.cells (va .u8 z) 33) = w10 at *
  generalize w9.heap.size = p8 at hp8 lw_p8 lp2_p8 lp3_p8 lp5_p8 lp6_p8 ⊢
  refine runSL (w10.setRow p8 (va .u8 z)) rfl (by rfl) (exec_storeRow 33 (.tmp 8) (.tmp 39) rfl p8 rfl (va .u8 z) rfl 33 (va .u8 z) hp8 (sz_eq (sz_api_Block _ hzl) (sz_api_Block _ hzl)) (sz_api_Block _ hzl) (va_ones .u8 _)) ?_
  replace hp2 := hp2.rowFar (show p8 ≠ p2 from (by omega)) (va .u8 z)
  replace hp3 := hp3.rowFar (show p8 ≠ p3 from (by omega)) (va .u8 z)
  replace hp5 := hp5.rowFar (show p8 ≠ p5 from (by omega)) (va .u8 z)
  replace hp6 := hp6.rowFar (show p8 ≠ p6 from (by omega)) (va .u8 z)
  replace hp8 := hp8.row (va .u8 z)
  replace hW := below_setRow hW lw_p8 (va .u8 z)
  generalize w10.setRow p8 (va .u8 z) = w11 at *
  refine runL 9 (.int .i64 1) rfl (by rfl) (by go_simp) ?_
  simp only [Ls]
  refine nilL ?_
  go_upto_region 4 with fail
  refine wl_lit ?_
  refine runL 41 (.int .i64 1) rfl (by rfl) (by go_simp) ?_
  simp only [Ls]
  refine runL 42 (.bool true) rfl (by rfl) (by go_simp) ?_
  simp only [Ls]
  refine runL 43 (.bool true) rfl (by rfl) (by go_simp) ?_
  simp only [Ls]
  refine runL 44 (.agg (va .u8 z)) rfl (by rfl) (exec_row 33 (.tmp 5) rfl p5 rfl 33 (va .u8 z) _ hp5 (by exact Tryd.underlying33) rfl (sz_api_Block _ hzl)) ?_
  simp only [Ls]
  refine runL 45 (.agg (va .u8 z)) rfl (by rfl) (exec_build 33 _ rfl (va .u8 z) (by rw [← hzq.out]; kernel_rfl)) ?_
  simp only [Ls]
  refine runL 46 (.bool true) rfl (by rfl) (exec_eqB 33 32 (by kernel_rfl) (by kernel_rfl) (.tmp 44) (.tmp 45) _ rfl z z hzl hzl rfl rfl true (by simp)) ?_
  simp only [Ls]
  refine runL 47 (.bool true) rfl (by rfl) (by go_simp) ?_
  simp only [Ls]
  refine runL 48 (.bool true) rfl (by rfl) (by go_simp) ?_
  simp only [Ls]
  refine runL 49 (.agg (va .u8 z)) rfl (by rfl) (exec_row 45 (.tmp 6) rfl p6 rfl 45 (va .u8 z) _ hp6 (by exact Tryd.underlying45) rfl (sz_api_Digest _ hzl)) ?_
  simp only [Ls]
  refine runL 50 (.agg (va .u8 z)) rfl (by rfl) (exec_build 45 _ rfl (va .u8 z) (by rw [← hzq.out]; kernel_rfl)) ?_
  simp only [Ls]
  refine runL 51 (.bool true) rfl (by rfl) (exec_eqB 45 32 (by kernel_rfl) (by kernel_rfl) (.tmp 49) (.tmp 50) _ rfl z z hzl hzl rfl rfl true (by simp)) ?_
  simp only [Ls]
  refine runL 52 (.bool true) rfl (by rfl) (by go_simp) ?_
  simp only [Ls]
  refine runL 53 (.bool true) rfl (by rfl) (by go_simp) ?_
  simp only [Ls]
  refine runL 54 (.int .i64 1) rfl (by rfl) (by go_simp) ?_
  simp only [Ls]
  refine runL 55 (.bool true) rfl (by rfl) (by go_simp) ?_
  simp only [Ls]
  refine runL 56 (.bool true) rfl (by rfl) (by go_simp) ?_
  simp only [Ls]
  refine runL 57 (.bool true) rfl (by rfl) (by go_simp) ?_
  simp only [Ls]
  refine runL 58 (.agg (va .u8 z)) rfl (by rfl) (exec_row 33 (.tmp 8) rfl p8 rfl 33 (va .u8 z) _ hp8 (by exact Tryd.underlying33) rfl (sz_api_Block _ hzl)) ?_
  simp only [Ls]
  refine runL 59 (.agg (va .u8 z)) rfl (by rfl) (exec_build 33 _ rfl (va .u8 z) (by rw [← hzq.out]; kernel_rfl)) ?_
  simp only [Ls]
  refine runL 60 (.bool true) rfl (by rfl) (exec_eqB 33 32 (by kernel_rfl) (by kernel_rfl) (.tmp 58) (.tmp 59) _ rfl z z hzl hzl rfl rfl true (by simp)) ?_
  simp only [Ls]
  refine runL 61 (.bool true) rfl (by rfl) (by go_simp) ?_
  simp only [Ls]
  refine runL 62 (.bool true) rfl (by rfl) (by go_simp) ?_
  simp only [Ls]
  refine callL 63 rfl (by rfl) (fun K hK => wp_callF 8 #[] (by go_simp) (lives09_any _ (gl.out _ hW)) ?_)
  rintro e w12 ⟨rfl, bx⟩
  replace hp2 := blB hp2 bx
  replace hp3 := blB hp3 bx
  replace hp5 := blB hp5 bx
  replace hp6 := blB hp6 bx
  replace hp8 := blB hp8 bx
  replace hW := trB hW hB0 bx
  clear bx
  refine ⟨_, rfl, hK.out _ _ ?_⟩
  clear hK K
  simp only [Ls]
  refine runL 64 (.bool true) rfl (by rfl) (by go_simp) ?_
  simp only [Ls]
  refine runL 4 (.bool true) rfl (by rfl) (by go_simp) ?_
  simp only [Ls]
  refine nilL ?_
  go_wp2_with fail
  go_ret
  exact ⟨rfl, hW⟩
 obtain ⟨I, rfl⟩ : ∃ I : Nat, i = (I : Int) := ⟨i.toNat, by omega⟩
 have hI : I < 4096 := by omega
 obtain ⟨x, hx⟩ : ∃ x, kxor ke s c 0 d = x := ⟨_, rfl⟩
 obtain ⟨t, ht⟩ : ∃ y, hm km (msg I s c x) = y := ⟨_, rfl⟩
 have hxl : x.length = 32 := by rw [← hx, kxor_len, hdl]
 have hxb : Byt x := by rw [← hx]; exact kxor_byt heb hdb
 have htl : t.length = 32 := by rw [← ht]; exact hm_len _ _
 have htb : Byt t := by rw [← ht]; exact hm_byt _ _
 have hback : kxor ke s c 0 x = d := by rw [← hx, kxor_twice]
 have hxq := Lib.hid hx
 have htq := Lib.hid ht
 have hbq := Lib.hid hback
 clear hx ht hback
 go_enter Tryd.func4, Tryd.ntmps4
 go_upto_region 0 with fail
 refine wl_lit ?_
 refine runWL 2 (.pointer (some ⟨w.heap.size, 0, none⟩)) (w.alloc (.cells (sV ke km (I : Int) s c) 32)) rfl (by rfl) (exec_box 32 (.tmp 0) rfl (.agg (sV ke km (I : Int) s c)) rfl) ?_
 simp only [Ls]
 have lw_p2 := Nat.le_trans hB0 hW.size
 have hp2 := Blk.new w 32 (sV ke km (I : Int) s c)
 replace hW := alB hW hB0 (.cells (sV ke km (I : Int) s c) 32)
 generalize w.alloc (.cells (sV ke km (I : Int) s c) 32) = w1 at *
 generalize w.heap.size = p2 at hp2 lw_p2  ⊢
 refine runWL 3 (.pointer (some ⟨w1.heap.size, 0, none⟩)) (w1.alloc (.cells (va .u8 d) 33)) rfl (by rfl) (exec_box 33 (.tmp 1) rfl (.agg (va .u8 d)) rfl) ?_
 simp only [Ls]
 have lp2_p3 := hp2.lt
 have lw_p3 := Nat.le_trans hB0 hW.size
 have hp3 := Blk.new w1 33 (va .u8 d)
 have bx := bAl w1 (.cells (va .u8 d) 33)
 replace hp2 := blB hp2 bx
 replace hW := trB hW hB0 bx
 clear bx
 generalize w1.alloc (.cells (va .u8 d) 33) = w2 at *
 generalize w1.heap.size = p3 at hp3 lw_p3 lp2_p3 ⊢
 refine runL 4 (.bool false) rfl (by rfl) (by go_simp) ?_
 simp only [Ls]
 refine nilL ?_
 go_upto_region 1 with fail
 refine wl_lit ?_
 refine runL 15 (.pointer (some ⟨p2, 0, none⟩)) rfl (by rfl) (by go_simp) ?_
 simp only [Ls]
 refine runL 16 (.agg (va .u8 (ke ++ km))) rfl (by rfl) (exec_mid 26 (.tmp 15) rfl p2 0 rfl (nv .u8 (ke ++ km)) _ (sV_keys hp2 hel hml) (by exact Tryd.underlying26) rfl (szKs _ _ hel hml)) ?_
 simp only [Ls]
 refine runL 17 (.pointer (some ⟨p2, 48, none⟩)) rfl (by rfl) (by go_simp) ?_
 simp only [Ls]
 refine runL 18 (.int .i64 (I : Int)) rfl (by rfl) (exec_cell 3 (.tmp 17) rfl p2 48 rfl (.int .i64 (I : Int)) _ Tryd.underlying3 rfl (sV_idx hp2 hel hml)) ?_
 simp only [Ls]
 refine runL 19 (.pointer (some ⟨p2, 49, none⟩)) rfl (by rfl) (by go_simp) ?_
 simp only [Ls]
 refine runL 20 (.agg (noV s c)) rfl (by rfl) (exec_mid 30 (.tmp 19) rfl p2 49 rfl ((noV s c).toList) _ (sV_no hp2 hel hml) (by exact Tryd.underlying30) rfl (by kernel_rfl)) ?_
 simp only [Ls]
 refine runL 21 (.agg (va .u8 d)) rfl (by rfl) (exec_row 33 (.tmp 3) rfl p3 rfl 33 (va .u8 d) _ hp3 (by exact Tryd.underlying33) rfl (sz_api_Block _ hdl)) ?_
 simp only [Ls]
 refine callL 22 rfl (by rfl) (fun K hK => wp_callF 14 #[.agg (va .u8 (ke ++ km)), .int .i64 (I : Int), .agg (noV s c), .agg (va .u8 d)] (by go_simp) (sseal_ok ke km hel hml heb hmb I s c d hI hs hdl hdb x t hxq.out htq.out hxl hxb htl htb _ (gl.out _ hW)) ?_)
 rintro e w3 ⟨rfl, bx⟩
 replace hp2 := blB hp2 bx
 replace hp3 := blB hp3 bx
 replace hW := trB hW hB0 bx
 clear bx
 refine ⟨_, rfl, hK.out _ _ ?_⟩
 clear hK K
 simp only [Ls]
 refine runL 14 (.tuple #[.agg (va .u8 x), .agg (va .u8 t), .int .i64 0]) rfl (by rfl) (by go_simp) ?_
 simp only [Ls]
 refine runL 23 (.agg (va .u8 x)) rfl (by rfl) (by go_simp) ?_
 simp only [Ls]
 refine runL 24 (.agg (va .u8 t)) rfl (by rfl) (by go_simp) ?_
 simp only [Ls]
 refine runL 25 (.int .i64 0) rfl (by rfl) (by go_simp) ?_
 simp only [Ls]
 refine runWL 5 (.pointer (some ⟨w3.heap.size, 0, none⟩)) (w3.alloc (.cells (va .u8 z) 33)) rfl (by rfl) (exec_allocV 33 rfl _ (zv_blkz z hzq.out _)) ?_
 simp only [Ls]
 have lp2_p5 := hp2.lt
 have lp3_p5 := hp3.lt
 have lw_p5 := Nat.le_trans hB0 hW.size
 have hp5 := Blk.new w3 33 (va .u8 z)
 have bx := bAl w3 (.cells (va .u8 z) 33)
 replace hp2 := blB hp2 bx
 replace hp3 := blB hp3 bx
 replace hW := trB hW hB0 bx
 clear bx
 generalize w3.alloc (.cells (va .u8 z) 33) = w4 at *
 generalize w3.heap.size = p5 at hp5 lw_p5 lp2_p5 lp3_p5 ⊢
 refine runWL 6 (.pointer (some ⟨w4.heap.size, 0, none⟩)) (w4.alloc (.cells (va .u8 z) 45)) rfl (by rfl) (exec_allocV 45 rfl _ (zv_digz z hzq.out _)) ?_
 simp only [Ls]
 have lp2_p6 := hp2.lt
 have lp3_p6 := hp3.lt
 have lp5_p6 := hp5.lt
 have lw_p6 := Nat.le_trans hB0 hW.size
 have hp6 := Blk.new w4 45 (va .u8 z)
 have bx := bAl w4 (.cells (va .u8 z) 45)
 replace hp2 := blB hp2 bx
 replace hp3 := blB hp3 bx
 replace hp5 := blB hp5 bx
 replace hW := trB hW hB0 bx
 clear bx
 generalize w4.alloc (.cells (va .u8 z) 45) = w5 at *
 generalize w4.heap.size = p6 at hp6 lw_p6 lp2_p6 lp3_p6 lp5_p6 ⊢
 refine runSL (w5.setRow p5 (va .u8 x)) rfl (by rfl) (exec_storeRow 33 (.tmp 5) (.tmp 23) rfl p5 rfl (va .u8 x) rfl 33 (va .u8 z) hp5 (sz_eq (sz_api_Block _ hzl) (sz_api_Block _ hxl)) (sz_api_Block _ hxl) (va_ones .u8 _)) ?_
 replace hp2 := hp2.rowFar (show p5 ≠ p2 from (by omega)) (va .u8 x)
 replace hp3 := hp3.rowFar (show p5 ≠ p3 from (by omega)) (va .u8 x)
 replace hp6 := hp6.rowFar (show p5 ≠ p6 from (by omega)) (va .u8 x)
 replace hp5 := hp5.row (va .u8 x)
 replace hW := below_setRow hW lw_p5 (va .u8 x)
 generalize w5.setRow p5 (va .u8 x) = w6 at *
 refine runSL (w6.setRow p6 (va .u8 t)) rfl (by rfl) (exec_storeRow 45 (.tmp 6) (.tmp 24) rfl p6 rfl (va .u8 t) rfl 45 (va .u8 z) hp6 (sz_eq (sz_api_Digest _ hzl) (sz_api_Digest _ htl)) (sz_api_Digest _ htl) (va_ones .u8 _)) ?_
 replace hp2 := hp2.rowFar (show p6 ≠ p2 from (by omega)) (va .u8 t)
 replace hp3 := hp3.rowFar (show p6 ≠ p3 from (by omega)) (va .u8 t)
 replace hp5 := hp5.rowFar (show p6 ≠ p5 from (by omega)) (va .u8 t)
 replace hp6 := hp6.row (va .u8 t)
 replace hW := below_setRow hW lw_p6 (va .u8 t)
 generalize w6.setRow p6 (va .u8 t) = w7 at *
 refine runL 7 (.int .i64 0) rfl (by rfl) (by go_simp) ?_
 simp only [Ls]
 refine nilL ?_
 go_upto_region 2 with fail
 refine wl_lit ?_
 refine runL 26 (.pointer (some ⟨p2, 48, none⟩)) rfl (by rfl) (by go_simp) ?_
 simp only [Ls]
 refine runL 27 (.int .i64 (I : Int)) rfl (by rfl) (exec_cell 3 (.tmp 26) rfl p2 48 rfl (.int .i64 (I : Int)) _ Tryd.underlying3 rfl (sV_idx hp2 hel hml)) ?_
 simp only [Ls]
 refine callL 28 rfl (by rfl) (fun K hK => wp_callF 10 #[.int .i64 (I : Int)] (by go_simp) (bad_no I hI _) ?_)
 rintro e w8 ⟨rfl, bx⟩
 replace hp2 := blB hp2 bx
 replace hp3 := blB hp3 bx
 replace hp5 := blB hp5 bx
 replace hp6 := blB hp6 bx
 replace hW := trB hW hB0 bx
 clear bx
 refine ⟨_, rfl, hK.out _ _ ?_⟩
 clear hK K
 simp only [Ls]
 refine nilL ?_
 go_upto_region 5 with fail
 refine wl_lit ?_
 refine runL 66 (.pointer (some ⟨p2, 0, none⟩)) rfl (by rfl) (by go_simp) ?_
 simp only [Ls]
 refine runL 67 (.pointer (some ⟨p2, 0, none⟩)) rfl (by rfl) (by go_simp) ?_
 simp only [Ls]
 refine runL 68 (.agg (va .u8 ke)) rfl (by rfl) (exec_mid 22 (.tmp 67) rfl p2 0 rfl (nv .u8 ke) _ (sV_enc hp2 hel hml) (by exact Tryd.underlying22) rfl (sz16D _ hel)) ?_
 simp only [Ls]
 refine runL 69 (.pointer (some ⟨p2, 0, none⟩)) rfl (by rfl) (by go_simp) ?_
 simp only [Ls]
 refine runL 70 (.pointer (some ⟨p2, 16, none⟩)) rfl (by rfl) (by go_simp) ?_
 simp only [Ls]
 refine runL 71 (.agg (va .u8 km)) rfl (by rfl) (exec_mid 24 (.tmp 70) rfl p2 16 rfl (nv .u8 km) _ (sV_mac hp2 hel hml) (by exact Tryd.underlying24) rfl (szKD _ hml)) ?_
 simp only [Ls]
 refine runL 72 (.pointer (some ⟨p2, 48, none⟩)) rfl (by rfl) (by go_simp) ?_
 simp only [Ls]
 refine runL 73 (.int .i64 (I : Int)) rfl (by rfl) (exec_cell 3 (.tmp 72) rfl p2 48 rfl (.int .i64 (I : Int)) _ Tryd.underlying3 rfl (sV_idx hp2 hel hml)) ?_
 simp only [Ls]
 refine runL 74 (.pointer (some ⟨p2, 49, none⟩)) rfl (by rfl) (by go_simp) ?_
 simp only [Ls]
 refine runL 75 (.agg (noV s c)) rfl (by rfl) (exec_mid 30 (.tmp 74) rfl p2 49 rfl ((noV s c).toList) _ (sV_no hp2 hel hml) (by exact Tryd.underlying30) rfl (by kernel_rfl)) ?_
 simp only [Ls]
 refine runL 76 (.agg (va .u8 d)) rfl (by rfl) (exec_row 33 (.tmp 3) rfl p3 rfl 33 (va .u8 d) _ hp3 (by exact Tryd.underlying33) rfl (sz_api_Block _ hdl)) ?_
 simp only [Ls]
 refine callL 77 rfl (by rfl) (fun K hK => wp_callF 16 #[.agg (va .u8 ke), .agg (va .u8 km), .int .i64 (I : Int), .agg (noV s c), .agg (va .u8 d)] (by go_simp) (rseal_any ke km hel hml heb hmb I s c d hI hs hdl hdb hc x t hxq.out htq.out hxl hxb htl htb _) ?_)
 rintro e w9 ⟨rfl, bx⟩
 replace hp2 := blB hp2 bx
 replace hp3 := blB hp3 bx
 replace hp5 := blB hp5 bx
 replace hp6 := blB hp6 bx
 replace hW := trB hW hB0 bx
 clear bx
 refine ⟨_, rfl, hK.out _ _ ?_⟩
 clear hK K
 simp only [Ls]
 refine runL 65 (.tuple #[.agg (va .u8 x), .agg (va .u8 t)]) rfl (by rfl) (by go_simp) ?_
 simp only [Ls]
 refine runL 78 (.agg (va .u8 x)) rfl (by rfl) (by go_simp) ?_
 simp only [Ls]
 refine runL 79 (.agg (va .u8 t)) rfl (by rfl) (by go_simp) ?_
 simp only [Ls]
 refine runWL 10 (.pointer (some ⟨w9.heap.size, 0, none⟩)) (w9.alloc (.cells (va .u8 z) 33)) rfl (by rfl) (exec_allocV 33 rfl _ (zv_blkz z hzq.out _)) ?_
 simp only [Ls]
 have lp2_p10 := hp2.lt
 have lp3_p10 := hp3.lt
 have lp5_p10 := hp5.lt
 have lp6_p10 := hp6.lt
 have lw_p10 := Nat.le_trans hB0 hW.size
 have hp10 := Blk.new w9 33 (va .u8 z)
 have bx := bAl w9 (.cells (va .u8 z) 33)
 replace hp2 := blB hp2 bx
 replace hp3 := blB hp3 bx
 replace hp5 := blB hp5 bx
 replace hp6 := blB hp6 bx
 replace hW := trB hW hB0 bx
 clear bx
 generalize w9.alloc (.cells (va .u8 z) 33) = w10 at *
 generalize w9.heap.size = p10 at hp10 lw_p10 lp2_p10 lp3_p10 lp5_p10 lp6_p10 ⊢
 refine runWL 11 (.pointer (some ⟨w10.heap.size, 0, none⟩)) (w10.alloc (.cells (va .u8 z) 45)) rfl (by rfl) (exec_allocV 45 rfl _ (zv_digz z hzq.out _)) ?_
 simp only [Ls]
 have lp2_p11 := hp2.lt
 have lp3_p11 := hp3.lt
 have lp5_p11 := hp5.lt
 have lp6_p11 := hp6.lt
 have lp10_p11 := hp10.lt
 have lw_p11 := Nat.le_trans hB0 hW.size
 have hp11 := Blk.new w10 45 (va .u8 z)
 have bx := bAl w10 (.cells (va .u8 z) 45)
 replace hp2 := blB hp2 bx
 replace hp3 := blB hp3 bx
 replace hp5 := blB hp5 bx
 replace hp6 := blB hp6 bx
 replace hp10 := blB hp10 bx
 replace hW := trB hW hB0 bx
 clear bx
 generalize w10.alloc (.cells (va .u8 z) 45) = w11 at *
 generalize w10.heap.size = p11 at hp11 lw_p11 lp2_p11 lp3_p11 lp5_p11 lp6_p11 lp10_p11 ⊢
 refine runSL (w11.setRow p10 (va .u8 x)) rfl (by rfl) (exec_storeRow 33 (.tmp 10) (.tmp 78) rfl p10 rfl (va .u8 x) rfl 33 (va .u8 z) hp10 (sz_eq (sz_api_Block _ hzl) (sz_api_Block _ hxl)) (sz_api_Block _ hxl) (va_ones .u8 _)) ?_
 replace hp2 := hp2.rowFar (show p10 ≠ p2 from (by omega)) (va .u8 x)
 replace hp3 := hp3.rowFar (show p10 ≠ p3 from (by omega)) (va .u8 x)
 replace hp5 := hp5.rowFar (show p10 ≠ p5 from (by omega)) (va .u8 x)
 replace hp6 := hp6.rowFar (show p10 ≠ p6 from (by omega)) (va .u8 x)
 replace hp11 := hp11.rowFar (show p10 ≠ p11 from (by omega)) (va .u8 x)
 replace hp10 := hp10.row (va .u8 x)
 replace hW := below_setRow hW lw_p10 (va .u8 x)
 generalize w11.setRow p10 (va .u8 x) = w12 at *
 refine runSL (w12.setRow p11 (va .u8 t)) rfl (by rfl) (exec_storeRow 45 (.tmp 11) (.tmp 79) rfl p11 rfl (va .u8 t) rfl 45 (va .u8 z) hp11 (sz_eq (sz_api_Digest _ hzl) (sz_api_Digest _ htl)) (sz_api_Digest _ htl) (va_ones .u8 _)) ?_
 replace hp2 := hp2.rowFar (show p11 ≠ p2 from (by omega)) (va .u8 t)
 replace hp3 := hp3.rowFar (show p11 ≠ p3 from (by omega)) (va .u8 t)
 replace hp5 := hp5.rowFar (show p11 ≠ p5 from (by omega)) (va .u8 t)
 replace hp6 := hp6.rowFar (show p11 ≠ p6 from (by omega)) (va .u8 t)
 replace hp10 := hp10.rowFar (show p11 ≠ p10 from (by omega)) (va .u8 t)
 replace hp11 := hp11.row (va .u8 t)
 replace hW := below_setRow hW lw_p11 (va .u8 t)
 generalize w12.setRow p11 (va .u8 t) = w13 at *
 refine nilL ?_
 go_upto_region 6 with fail
 refine wl_lit ?_
 refine runL 81 (.pointer (some ⟨p2, 0, none⟩)) rfl (by rfl) (by go_simp) ?_
 simp only [Ls]
 refine runL 82 (.agg (va .u8 (ke ++ km))) rfl (by rfl) (exec_mid 26 (.tmp 81) rfl p2 0 rfl (nv .u8 (ke ++ km)) _ (sV_keys hp2 hel hml) (by exact Tryd.underlying26) rfl (szKs _ _ hel hml)) ?_
 simp only [Ls]
 refine runL 83 (.pointer (some ⟨p2, 48, none⟩)) rfl (by rfl) (by go_simp) ?_
 simp only [Ls]
 refine runL 84 (.int .i64 (I : Int)) rfl (by rfl) (exec_cell 3 (.tmp 83) rfl p2 48 rfl (.int .i64 (I : Int)) _ Tryd.underlying3 rfl (sV_idx hp2 hel hml)) ?_
 simp only [Ls]
 refine runL 85 (.pointer (some ⟨p2, 49, none⟩)) rfl (by rfl) (by go_simp) ?_
 simp only [Ls]
 refine runL 86 (.agg (noV s c)) rfl (by rfl) (exec_mid 30 (.tmp 85) rfl p2 49 rfl ((noV s c).toList) _ (sV_no hp2 hel hml) (by exact Tryd.underlying30) rfl (by kernel_rfl)) ?_
 simp only [Ls]
 refine runL 87 (.agg (va .u8 x)) rfl (by rfl) (exec_row 33 (.tmp 5) rfl p5 rfl 33 (va .u8 x) _ hp5 (by exact Tryd.underlying33) rfl (sz_api_Block _ hxl)) ?_
 simp only [Ls]
 refine runL 88 (.agg (va .u8 t)) rfl (by rfl) (exec_row 45 (.tmp 6) rfl p6 rfl 45 (va .u8 t) _ hp6 (by exact Tryd.underlying45) rfl (sz_api_Digest _ htl)) ?_
 simp only [Ls]
 refine callL 89 rfl (by rfl) (fun K hK => wp_callF 15 #[.agg (va .u8 (ke ++ km)), .int .i64 (I : Int), .agg (noV s c), .agg (va .u8 x), .agg (va .u8 t)] (by go_simp) (sopen_ok ke km hel hml heb hmb I s c x hI hs hxl hxb t htl htb htq.out d hbq.out hdl hdb _ (gl.out _ hW)) ?_)
 rintro e w14 ⟨rfl, bx⟩
 replace hp2 := blB hp2 bx
 replace hp3 := blB hp3 bx
 replace hp5 := blB hp5 bx
 replace hp6 := blB hp6 bx
 replace hp10 := blB hp10 bx
 replace hp11 := blB hp11 bx
 replace hW := trB hW hB0 bx
 clear bx
 refine ⟨_, rfl, hK.out _ _ ?_⟩
 clear hK K
 simp only [Ls]
 refine runL 80 (.tuple #[.agg (va .u8 d), .int .i64 0]) rfl (by rfl) (by go_simp) ?_
 simp only [Ls]
 refine runL 90 (.agg (va .u8 d)) rfl (by rfl) (by go_simp) ?_
 simp only [Ls]
 refine runL 91 (.int .i64 0) rfl (by rfl) (by go_simp) ?_
 simp only [Ls]
 refine runWL 12 (.pointer (some ⟨w14.heap.size, 0, none⟩)) (w14.alloc (.cells (va .u8 z) 33)) rfl (by rfl) (exec_allocV 33 rfl _ (zv_blkz z hzq.out _)) ?_
 simp only [Ls]
 have lp2_p12 := hp2.lt
 have lp3_p12 := hp3.lt
 have lp5_p12 := hp5.lt
 have lp6_p12 := hp6.lt
 have lp10_p12 := hp10.lt
 have lp11_p12 := hp11.lt
 have lw_p12 := Nat.le_trans hB0 hW.size
 have hp12 := Blk.new w14 33 (va .u8 z)
 have bx := bAl w14 (.cells (va .u8 z) 33)
 replace hp2 := blB hp2 bx
 replace hp3 := blB hp3 bx
 replace hp5 := blB hp5 bx
 replace hp6 := blB hp6 bx
 replace hp10 := blB hp10 bx
 replace hp11 := blB hp11 bx
 replace hW := trB hW hB0 bx
 clear bx
 generalize w14.alloc (.cells (va .u8 z) 33) = w15 at *
 generalize w14.heap.size = p12 at hp12 lw_p12 lp2_p12 lp3_p12 lp5_p12 lp6_p12 lp10_p12 lp11_p12 ⊢
 refine runSL (w15.setRow p12 (va .u8 d)) rfl (by rfl) (exec_storeRow 33 (.tmp 12) (.tmp 90) rfl p12 rfl (va .u8 d) rfl 33 (va .u8 z) hp12 (sz_eq (sz_api_Block _ hzl) (sz_api_Block _ hdl)) (sz_api_Block _ hdl) (va_ones .u8 _)) ?_
 replace hp2 := hp2.rowFar (show p12 ≠ p2 from (by omega)) (va .u8 d)
 replace hp3 := hp3.rowFar (show p12 ≠ p3 from (by omega)) (va .u8 d)
 replace hp5 := hp5.rowFar (show p12 ≠ p5 from (by omega)) (va .u8 d)
 replace hp6 := hp6.rowFar (show p12 ≠ p6 from (by omega)) (va .u8 d)
 replace hp10 := hp10.rowFar (show p12 ≠ p10 from (by omega)) (va .u8 d)
 replace hp11 := hp11.rowFar (show p12 ≠ p11 from (by omega)) (va .u8 d)
 replace hp12 := hp12.row (va .u8 d)
 replace hW := below_setRow hW lw_p12 (va .u8 d)
 generalize w15.setRow p12 (va .u8 d) = w16 at *
 refine runL 13 (.int .i64 0) rfl (by rfl) (by go_simp) ?_
 simp only [Ls]
 refine nilL ?_
 go_upto_region 7 with fail
 refine wl_lit ?_
 refine runL 92 (.int .i64 0) rfl (by rfl) (by go_simp) ?_
 simp only [Ls]
 refine runL 93 (.bool true) rfl (by rfl) (by go_simp) ?_
 simp only [Ls]
 refine runL 94 (.bool true) rfl (by rfl) (by go_simp) ?_
 simp only [Ls]
 refine runL 95 (.agg (va .u8 x)) rfl (by rfl) (exec_row 33 (.tmp 5) rfl p5 rfl 33 (va .u8 x) _ hp5 (by exact Tryd.underlying33) rfl (sz_api_Block _ hxl)) ?_
 simp only [Ls]
 refine runL 96 (.agg (va .u8 x)) rfl (by rfl) (exec_row 33 (.tmp 10) rfl p10 rfl 33 (va .u8 x) _ hp10 (by exact Tryd.underlying33) rfl (sz_api_Block _ hxl)) ?_
 simp only [Ls]
 refine runL 97 (.bool true) rfl (by rfl) (exec_eqB 33 32 (by kernel_rfl) (by kernel_rfl) (.tmp 95) (.tmp 96) _ rfl x x hxl hxl rfl rfl true (by simp)) ?_
 simp only [Ls]
 refine runL 98 (.bool true) rfl (by rfl) (by go_simp) ?_
 simp only [Ls]
 refine runL 99 (.bool true) rfl (by rfl) (by go_simp) ?_
 simp only [Ls]
 refine runL 100 (.agg (va .u8 t)) rfl (by rfl) (exec_row 45 (.tmp 6) rfl p6 rfl 45 (va .u8 t) _ hp6 (by exact Tryd.underlying45) rfl (sz_api_Digest _ htl)) ?_
 simp only [Ls]
 refine runL 101 (.agg (va .u8 t)) rfl (by rfl) (exec_row 45 (.tmp 11) rfl p11 rfl 45 (va .u8 t) _ hp11 (by exact Tryd.underlying45) rfl (sz_api_Digest _ htl)) ?_
 simp only [Ls]
 refine runL 102 (.bool true) rfl (by rfl) (exec_eqB 45 32 (by kernel_rfl) (by kernel_rfl) (.tmp 100) (.tmp 101) _ rfl t t htl htl rfl rfl true (by simp)) ?_
 simp only [Ls]
 refine runL 103 (.bool true) rfl (by rfl) (by go_simp) ?_
 simp only [Ls]
 refine runL 104 (.bool true) rfl (by rfl) (by go_simp) ?_
 simp only [Ls]
 refine runL 105 (.int .i64 0) rfl (by rfl) (by go_simp) ?_
 simp only [Ls]
 refine runL 106 (.bool true) rfl (by rfl) (by go_simp) ?_
 simp only [Ls]
 refine runL 107 (.bool true) rfl (by rfl) (by go_simp) ?_
 simp only [Ls]
 refine runL 108 (.bool true) rfl (by rfl) (by go_simp) ?_
 simp only [Ls]
 refine runL 109 (.agg (va .u8 d)) rfl (by rfl) (exec_row 33 (.tmp 12) rfl p12 rfl 33 (va .u8 d) _ hp12 (by exact Tryd.underlying33) rfl (sz_api_Block _ hdl)) ?_
 simp only [Ls]
 refine runL 110 (.agg (va .u8 d)) rfl (by rfl) (exec_row 33 (.tmp 3) rfl p3 rfl 33 (va .u8 d) _ hp3 (by exact Tryd.underlying33) rfl (sz_api_Block _ hdl)) ?_
 simp only [Ls]
 refine runL 111 (.bool true) rfl (by rfl) (exec_eqB 33 32 (by kernel_rfl) (by kernel_rfl) (.tmp 109) (.tmp 110) _ rfl d d hdl hdl rfl rfl true (by simp)) ?_
 simp only [Ls]
 refine runL 112 (.bool true) rfl (by rfl) (by go_simp) ?_
 simp only [Ls]
 refine runL 113 (.bool true) rfl (by rfl) (by go_simp) ?_
 simp only [Ls]
 refine callL 114 rfl (by rfl) (fun K hK => wp_callF 8 #[] (by go_simp) (lives09_any _ (gl.out _ hW)) ?_)
 rintro e w17 ⟨rfl, bx⟩
 replace hp2 := blB hp2 bx
 replace hp3 := blB hp3 bx
 replace hp5 := blB hp5 bx
 replace hp6 := blB hp6 bx
 replace hp10 := blB hp10 bx
 replace hp11 := blB hp11 bx
 replace hp12 := blB hp12 bx
 replace hW := trB hW hB0 bx
 clear bx
 refine ⟨_, rfl, hK.out _ _ ?_⟩
 clear hK K
 simp only [Ls]
 refine runL 115 (.bool true) rfl (by rfl) (by go_simp) ?_
 simp only [Ls]
 refine runL 4 (.bool true) rfl (by rfl) (by go_simp) ?_
 simp only [Ls]
 refine nilL ?_
 go_wp2_with fail
 go_ret
 exact ⟨rfl, hW⟩
end Go.Proofs.YtcfddmplnoknlaaDoor
