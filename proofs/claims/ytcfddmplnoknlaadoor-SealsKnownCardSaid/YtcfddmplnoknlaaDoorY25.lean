/-
  The walk of caissonlaw09.SealsOpen. (Printed by mkseal09c.py.)
-/
import Derived.Test.YtcfddmplnoknlaaDoorY24
namespace Go.Proofs.YtcfddmplnoknlaaDoor
set_option maxRecDepth 16384
open Go.RowKit Sh

set_option maxRecDepth 8000 in
set_option maxHeartbeats 4000000 in
theorem lawSOpen_any (ke km : List Nat) (hel : ke.length = 16) (hml : km.length = 32) (heb : Byt ke) (hmb : Byt km) (i : Int) (s c : Nat) (hs : s < 4294967296) (hc : c < 18446744073709551616) (d : List Nat) (hdl : d.length = 32) (hdb : Byt d) (tag : List Nat) (hgl : tag.length = 32) (hgb : Byt tag) (w : World) (hg : Glob w) :
  Calls Tryd.prog 5 #[.agg (sV ke km i s c), .agg (va .u8 d), .agg (va .u8 tag)] w fun e w' => e = .returned (.bool true) ∧ Below w.heap.size w w' := by
 obtain ⟨B0, hB0e, hW, hB0⟩ := stB w
 rw [hB0e]
 have gl := glob_of hg hB0e
 clear hg
 have hB0q := Lib.hid hB0e
 clear hB0e
 obtain ⟨z, hz⟩ : ∃ z, List.replicate 32 0 = z := ⟨_, rfl⟩
 have hzl : z.length = 32 := by rw [← hz]; exact List.length_replicate
 have hzb : Byt z := by rw [← hz]; exact Byt.rep _ _ (by omega)
 have hzq := Lib.hid hz
 clear hz
 by_cases hi : i < 0 ∨ 4096 ≤ i
 ·
  go_enter Tryd.func5, Tryd.ntmps5
  go_upto_region 0 with fail
  refine wl_lit ?_
  refine runWL 3 (.pointer (some ⟨w.heap.size, 0, none⟩)) (w.alloc (.cells (sV ke km i s c) 32)) rfl (by rfl) (exec_box 32 (.tmp 0) rfl (.agg (sV ke km i s c)) rfl) ?_
  simp only [Ls]
  have lw_p3 := Nat.le_trans hB0 hW.size
  have hp3 := Blk.new w 32 (sV ke km i s c)
  replace hW := alB hW hB0 (.cells (sV ke km i s c) 32)
  generalize w.alloc (.cells (sV ke km i s c) 32) = w1 at *
  generalize w.heap.size = p3 at hp3 lw_p3  ⊢
  refine runWL 4 (.pointer (some ⟨w1.heap.size, 0, none⟩)) (w1.alloc (.cells (va .u8 d) 33)) rfl (by rfl) (exec_box 33 (.tmp 1) rfl (.agg (va .u8 d)) rfl) ?_
  simp only [Ls]
  have lp3_p4 := hp3.lt
  have lw_p4 := Nat.le_trans hB0 hW.size
  have hp4 := Blk.new w1 33 (va .u8 d)
  have bx := bAl w1 (.cells (va .u8 d) 33)
  replace hp3 := blB hp3 bx
  replace hW := trB hW hB0 bx
  clear bx
  generalize w1.alloc (.cells (va .u8 d) 33) = w2 at *
  generalize w1.heap.size = p4 at hp4 lw_p4 lp3_p4 ⊢
  refine runWL 5 (.pointer (some ⟨w2.heap.size, 0, none⟩)) (w2.alloc (.cells (va .u8 tag) 45)) rfl (by rfl) (exec_box 45 (.tmp 2) rfl (.agg (va .u8 tag)) rfl) ?_
  simp only [Ls]
  have lp3_p5 := hp3.lt
  have lp4_p5 := hp4.lt
  have lw_p5 := Nat.le_trans hB0 hW.size
  have hp5 := Blk.new w2 45 (va .u8 tag)
  have bx := bAl w2 (.cells (va .u8 tag) 45)
  replace hp3 := blB hp3 bx
  replace hp4 := blB hp4 bx
  replace hW := trB hW hB0 bx
  clear bx
  generalize w2.alloc (.cells (va .u8 tag) 45) = w3 at *
  generalize w2.heap.size = p5 at hp5 lw_p5 lp3_p5 lp4_p5 ⊢
  refine runL 6 (.bool false) rfl (by rfl) (by go_simp) ?_
  simp only [Ls]
  refine nilL ?_
  go_upto_region 1 with fail
  refine wl_lit ?_
  refine runL 14 (.pointer (some ⟨p3, 48, none⟩)) rfl (by rfl) (by go_simp) ?_
  simp only [Ls]
  refine runL 15 (.int .i64 i) rfl (by rfl) (exec_cell 3 (.tmp 14) rfl p3 48 rfl (.int .i64 i) _ Tryd.underlying3 rfl (sV_idx hp3 hel hml)) ?_
  simp only [Ls]
  refine callL 16 rfl (by rfl) (fun K hK => wp_callF 10 #[.int .i64 i] (by go_simp) (bad_yes i hi _) ?_)
  rintro e w4 ⟨rfl, bx⟩
  replace hp3 := blB hp3 bx
  replace hp4 := blB hp4 bx
  replace hp5 := blB hp5 bx
  replace hW := trB hW hB0 bx
  clear bx
  refine ⟨_, rfl, hK.out _ _ ?_⟩
  clear hK K
  simp only [Ls]
  refine nilL ?_
  go_upto_region 2 with fail
  refine wl_lit ?_
  refine callL 17 rfl (by rfl) (fun K hK => wp_callF 8 #[] (by go_simp) (lives09_any _ (gl.out _ hW)) ?_)
  rintro e w5 ⟨rfl, bx⟩
  replace hp3 := blB hp3 bx
  replace hp4 := blB hp4 bx
  replace hp5 := blB hp5 bx
  replace hW := trB hW hB0 bx
  clear bx
  refine ⟨_, rfl, hK.out _ _ ?_⟩
  clear hK K
  simp only [Ls]
  refine runL 6 (.bool true) rfl (by rfl) (by go_simp) ?_
  simp only [Ls]
  refine nilL ?_
  go_wp2_with fail
  go_ret
  exact ⟨rfl, hW⟩
 obtain ⟨I, rfl⟩ : ∃ I : Nat, i = (I : Int) := ⟨i.toNat, by omega⟩
 have hI : I < 4096 := by omega
 by_cases hv : hm km (msg I s c d) = tag
 ·
  obtain ⟨x, hx⟩ : ∃ x, kxor ke s c 0 d = x := ⟨_, rfl⟩
  have hxl : x.length = 32 := by rw [← hx, kxor_len, hdl]
  have hxb : Byt x := by rw [← hx]; exact kxor_byt heb hdb
  have hback : kxor ke s c 0 x = d := by rw [← hx, kxor_twice]
  have hxq := Lib.hid hx
  have hvq := Lib.hid hv
  have hbq := Lib.hid hback
  clear hx hv hback
  go_enter Tryd.func5, Tryd.ntmps5
  go_upto_region 0 with fail
  refine wl_lit ?_
  refine runWL 3 (.pointer (some ⟨w.heap.size, 0, none⟩)) (w.alloc (.cells (sV ke km (I : Int) s c) 32)) rfl (by rfl) (exec_box 32 (.tmp 0) rfl (.agg (sV ke km (I : Int) s c)) rfl) ?_
  simp only [Ls]
  have lw_p3 := Nat.le_trans hB0 hW.size
  have hp3 := Blk.new w 32 (sV ke km (I : Int) s c)
  replace hW := alB hW hB0 (.cells (sV ke km (I : Int) s c) 32)
  generalize w.alloc (.cells (sV ke km (I : Int) s c) 32) = w1 at *
  generalize w.heap.size = p3 at hp3 lw_p3  ⊢
  refine runWL 4 (.pointer (some ⟨w1.heap.size, 0, none⟩)) (w1.alloc (.cells (va .u8 d) 33)) rfl (by rfl) (exec_box 33 (.tmp 1) rfl (.agg (va .u8 d)) rfl) ?_
  simp only [Ls]
  have lp3_p4 := hp3.lt
  have lw_p4 := Nat.le_trans hB0 hW.size
  have hp4 := Blk.new w1 33 (va .u8 d)
  have bx := bAl w1 (.cells (va .u8 d) 33)
  replace hp3 := blB hp3 bx
  replace hW := trB hW hB0 bx
  clear bx
  generalize w1.alloc (.cells (va .u8 d) 33) = w2 at *
  generalize w1.heap.size = p4 at hp4 lw_p4 lp3_p4 ⊢
  refine runWL 5 (.pointer (some ⟨w2.heap.size, 0, none⟩)) (w2.alloc (.cells (va .u8 tag) 45)) rfl (by rfl) (exec_box 45 (.tmp 2) rfl (.agg (va .u8 tag)) rfl) ?_
  simp only [Ls]
  have lp3_p5 := hp3.lt
  have lp4_p5 := hp4.lt
  have lw_p5 := Nat.le_trans hB0 hW.size
  have hp5 := Blk.new w2 45 (va .u8 tag)
  have bx := bAl w2 (.cells (va .u8 tag) 45)
  replace hp3 := blB hp3 bx
  replace hp4 := blB hp4 bx
  replace hW := trB hW hB0 bx
  clear bx
  generalize w2.alloc (.cells (va .u8 tag) 45) = w3 at *
  generalize w2.heap.size = p5 at hp5 lw_p5 lp3_p5 lp4_p5 ⊢
  refine runL 6 (.bool false) rfl (by rfl) (by go_simp) ?_
  simp only [Ls]
  refine nilL ?_
  go_upto_region 1 with fail
  refine wl_lit ?_
  refine runL 14 (.pointer (some ⟨p3, 48, none⟩)) rfl (by rfl) (by go_simp) ?_
  simp only [Ls]
  refine runL 15 (.int .i64 (I : Int)) rfl (by rfl) (exec_cell 3 (.tmp 14) rfl p3 48 rfl (.int .i64 (I : Int)) _ Tryd.underlying3 rfl (sV_idx hp3 hel hml)) ?_
  simp only [Ls]
  refine callL 16 rfl (by rfl) (fun K hK => wp_callF 10 #[.int .i64 (I : Int)] (by go_simp) (bad_no I hI _) ?_)
  rintro e w4 ⟨rfl, bx⟩
  replace hp3 := blB hp3 bx
  replace hp4 := blB hp4 bx
  replace hp5 := blB hp5 bx
  replace hW := trB hW hB0 bx
  clear bx
  refine ⟨_, rfl, hK.out _ _ ?_⟩
  clear hK K
  simp only [Ls]
  refine nilL ?_
  go_upto_region 3 with fail
  refine wl_lit ?_
  refine runL 19 (.pointer (some ⟨p3, 0, none⟩)) rfl (by rfl) (by go_simp) ?_
  simp only [Ls]
  refine runL 20 (.pointer (some ⟨p3, 0, none⟩)) rfl (by rfl) (by go_simp) ?_
  simp only [Ls]
  refine runL 21 (.agg (va .u8 ke)) rfl (by rfl) (exec_mid 22 (.tmp 20) rfl p3 0 rfl (nv .u8 ke) _ (sV_enc hp3 hel hml) (by exact Tryd.underlying22) rfl (sz16D _ hel)) ?_
  simp only [Ls]
  refine runL 22 (.pointer (some ⟨p3, 0, none⟩)) rfl (by rfl) (by go_simp) ?_
  simp only [Ls]
  refine runL 23 (.pointer (some ⟨p3, 16, none⟩)) rfl (by rfl) (by go_simp) ?_
  simp only [Ls]
  refine runL 24 (.agg (va .u8 km)) rfl (by rfl) (exec_mid 24 (.tmp 23) rfl p3 16 rfl (nv .u8 km) _ (sV_mac hp3 hel hml) (by exact Tryd.underlying24) rfl (szKD _ hml)) ?_
  simp only [Ls]
  refine runL 25 (.pointer (some ⟨p3, 48, none⟩)) rfl (by rfl) (by go_simp) ?_
  simp only [Ls]
  refine runL 26 (.int .i64 (I : Int)) rfl (by rfl) (exec_cell 3 (.tmp 25) rfl p3 48 rfl (.int .i64 (I : Int)) _ Tryd.underlying3 rfl (sV_idx hp3 hel hml)) ?_
  simp only [Ls]
  refine runL 27 (.pointer (some ⟨p3, 49, none⟩)) rfl (by rfl) (by go_simp) ?_
  simp only [Ls]
  refine runL 28 (.agg (noV s c)) rfl (by rfl) (exec_mid 30 (.tmp 27) rfl p3 49 rfl ((noV s c).toList) _ (sV_no hp3 hel hml) (by exact Tryd.underlying30) rfl (by kernel_rfl)) ?_
  simp only [Ls]
  refine runL 29 (.agg (va .u8 d)) rfl (by rfl) (exec_row 33 (.tmp 4) rfl p4 rfl 33 (va .u8 d) _ hp4 (by exact Tryd.underlying33) rfl (sz_api_Block _ hdl)) ?_
  simp only [Ls]
  refine runL 30 (.agg (va .u8 tag)) rfl (by rfl) (exec_row 45 (.tmp 5) rfl p5 rfl 45 (va .u8 tag) _ hp5 (by exact Tryd.underlying45) rfl (sz_api_Digest _ hgl)) ?_
  simp only [Ls]
  refine callL 31 rfl (by rfl) (fun K hK => wp_callF 17 #[.agg (va .u8 ke), .agg (va .u8 km), .int .i64 (I : Int), .agg (noV s c), .agg (va .u8 d), .agg (va .u8 tag)] (by go_simp) (ropen_ok ke km hel hml heb hmb I s c d hI hs hdl hdb hc tag hgl hgb hvq.out x hxq.out hxl hxb _) ?_)
  rintro e w5 ⟨rfl, bx⟩
  replace hp3 := blB hp3 bx
  replace hp4 := blB hp4 bx
  replace hp5 := blB hp5 bx
  replace hW := trB hW hB0 bx
  clear bx
  refine ⟨_, rfl, hK.out _ _ ?_⟩
  clear hK K
  simp only [Ls]
  refine runL 18 (.tuple #[.agg (va .u8 x), .int .i64 0]) rfl (by rfl) (by go_simp) ?_
  simp only [Ls]
  refine runL 32 (.agg (va .u8 x)) rfl (by rfl) (by go_simp) ?_
  simp only [Ls]
  refine runL 33 (.int .i64 0) rfl (by rfl) (by go_simp) ?_
  simp only [Ls]
  refine runWL 7 (.pointer (some ⟨w5.heap.size, 0, none⟩)) (w5.alloc (.cells (va .u8 z) 33)) rfl (by rfl) (exec_allocV 33 rfl _ (zv_blkz z hzq.out _)) ?_
  simp only [Ls]
  have lp3_p7 := hp3.lt
  have lp4_p7 := hp4.lt
  have lp5_p7 := hp5.lt
  have lw_p7 := Nat.le_trans hB0 hW.size
  have hp7 := Blk.new w5 33 (va .u8 z)
  have bx := bAl w5 (.cells (va .u8 z) 33)
  replace hp3 := blB hp3 bx
  replace hp4 := blB hp4 bx
  replace hp5 := blB hp5 bx
  replace hW := trB hW hB0 bx
  clear bx
  generalize w5.alloc (.cells (va .u8 z) 33) = w6 at *
  generalize w5.heap.size = p7 at hp7 lw_p7 lp3_p7 lp4_p7 lp5_p7 ⊢
  refine runSL (w6.setRow p7 (va .u8 x)) rfl (by rfl) (exec_storeRow 33 (.tmp 7) (.tmp 32) rfl p7 rfl (va .u8 x) rfl 33 (va .u8 z) hp7 (sz_eq (sz_api_Block _ hzl) (sz_api_Block _ hxl)) (sz_api_Block _ hxl) (va_ones .u8 _)) ?_
  replace hp3 := hp3.rowFar (show p7 ≠ p3 from (by omega)) (va .u8 x)
  replace hp4 := hp4.rowFar (show p7 ≠ p4 from (by omega)) (va .u8 x)
  replace hp5 := hp5.rowFar (show p7 ≠ p5 from (by omega)) (va .u8 x)
  replace hp7 := hp7.row (va .u8 x)
  replace hW := below_setRow hW lw_p7 (va .u8 x)
  generalize w6.setRow p7 (va .u8 x) = w7 at *
  refine runL 8 (.int .i64 0) rfl (by rfl) (by go_simp) ?_
  simp only [Ls]
  refine nilL ?_
  go_upto_region 4 with fail
  refine wl_lit ?_
  refine runL 35 (.pointer (some ⟨p3, 0, none⟩)) rfl (by rfl) (by go_simp) ?_
  simp only [Ls]
  refine runL 36 (.agg (va .u8 (ke ++ km))) rfl (by rfl) (exec_mid 26 (.tmp 35) rfl p3 0 rfl (nv .u8 (ke ++ km)) _ (sV_keys hp3 hel hml) (by exact Tryd.underlying26) rfl (szKs _ _ hel hml)) ?_
  simp only [Ls]
  refine runL 37 (.pointer (some ⟨p3, 48, none⟩)) rfl (by rfl) (by go_simp) ?_
  simp only [Ls]
  refine runL 38 (.int .i64 (I : Int)) rfl (by rfl) (exec_cell 3 (.tmp 37) rfl p3 48 rfl (.int .i64 (I : Int)) _ Tryd.underlying3 rfl (sV_idx hp3 hel hml)) ?_
  simp only [Ls]
  refine runL 39 (.pointer (some ⟨p3, 49, none⟩)) rfl (by rfl) (by go_simp) ?_
  simp only [Ls]
  refine runL 40 (.agg (noV s c)) rfl (by rfl) (exec_mid 30 (.tmp 39) rfl p3 49 rfl ((noV s c).toList) _ (sV_no hp3 hel hml) (by exact Tryd.underlying30) rfl (by kernel_rfl)) ?_
  simp only [Ls]
  refine runL 41 (.agg (va .u8 d)) rfl (by rfl) (exec_row 33 (.tmp 4) rfl p4 rfl 33 (va .u8 d) _ hp4 (by exact Tryd.underlying33) rfl (sz_api_Block _ hdl)) ?_
  simp only [Ls]
  refine runL 42 (.agg (va .u8 tag)) rfl (by rfl) (exec_row 45 (.tmp 5) rfl p5 rfl 45 (va .u8 tag) _ hp5 (by exact Tryd.underlying45) rfl (sz_api_Digest _ hgl)) ?_
  simp only [Ls]
  refine callL 43 rfl (by rfl) (fun K hK => wp_callF 15 #[.agg (va .u8 (ke ++ km)), .int .i64 (I : Int), .agg (noV s c), .agg (va .u8 d), .agg (va .u8 tag)] (by go_simp) (sopen_ok ke km hel hml heb hmb I s c d hI hs hdl hdb tag hgl hgb hvq.out x hxq.out hxl hxb _ (gl.out _ hW)) ?_)
  rintro e w8 ⟨rfl, bx⟩
  replace hp3 := blB hp3 bx
  replace hp4 := blB hp4 bx
  replace hp5 := blB hp5 bx
  replace hp7 := blB hp7 bx
  replace hW := trB hW hB0 bx
  clear bx
  refine ⟨_, rfl, hK.out _ _ ?_⟩
  clear hK K
  simp only [Ls]
  refine runL 34 (.tuple #[.agg (va .u8 x), .int .i64 0]) rfl (by rfl) (by go_simp) ?_
  simp only [Ls]
  refine runL 44 (.agg (va .u8 x)) rfl (by rfl) (by go_simp) ?_
  simp only [Ls]
  refine runL 45 (.int .i64 0) rfl (by rfl) (by go_simp) ?_
  simp only [Ls]
  refine runWL 9 (.pointer (some ⟨w8.heap.size, 0, none⟩)) (w8.alloc (.cells (va .u8 z) 33)) rfl (by rfl) (exec_allocV 33 rfl _ (zv_blkz z hzq.out _)) ?_
  simp only [Ls]
  have lp3_p9 := hp3.lt
  have lp4_p9 := hp4.lt
  have lp5_p9 := hp5.lt
  have lp7_p9 := hp7.lt
  have lw_p9 := Nat.le_trans hB0 hW.size
  have hp9 := Blk.new w8 33 (va .u8 z)
  have bx := bAl w8 (.cells (va .u8 z) 33)
  replace hp3 := blB hp3 bx
  replace hp4 := blB hp4 bx
  replace hp5 := blB hp5 bx
  replace hp7 := blB hp7 bx
  replace hW := trB hW hB0 bx
  clear bx
  generalize w8.alloc (.cells (va .u8 z) 33) = w9 at *
  generalize w8.heap.size = p9 at hp9 lw_p9 lp3_p9 lp4_p9 lp5_p9 lp7_p9 ⊢
  refine runSL (w9.setRow p9 (va .u8 x)) rfl (by rfl) (exec_storeRow 33 (.tmp 9) (.tmp 44) rfl p9 rfl (va .u8 x) rfl 33 (va .u8 z) hp9 (sz_eq (sz_api_Block _ hzl) (sz_api_Block _ hxl)) (sz_api_Block _ hxl) (va_ones .u8 _)) ?_
  replace hp3 := hp3.rowFar (show p9 ≠ p3 from (by omega)) (va .u8 x)
  replace hp4 := hp4.rowFar (show p9 ≠ p4 from (by omega)) (va .u8 x)
  replace hp5 := hp5.rowFar (show p9 ≠ p5 from (by omega)) (va .u8 x)
  replace hp7 := hp7.rowFar (show p9 ≠ p7 from (by omega)) (va .u8 x)
  replace hp9 := hp9.row (va .u8 x)
  replace hW := below_setRow hW lw_p9 (va .u8 x)
  generalize w9.setRow p9 (va .u8 x) = w10 at *
  refine runL 10 (.int .i64 0) rfl (by rfl) (by go_simp) ?_
  simp only [Ls]
  refine nilL ?_
  go_upto_region 5 with fail
  refine wl_lit ?_
  refine runL 46 (.agg (va .u8 x)) rfl (by rfl) (exec_row 33 (.tmp 9) rfl p9 rfl 33 (va .u8 x) _ hp9 (by exact Tryd.underlying33) rfl (sz_api_Block _ hxl)) ?_
  simp only [Ls]
  refine runL 47 (.agg (va .u8 x)) rfl (by rfl) (exec_row 33 (.tmp 7) rfl p7 rfl 33 (va .u8 x) _ hp7 (by exact Tryd.underlying33) rfl (sz_api_Block _ hxl)) ?_
  simp only [Ls]
  refine runL 48 (.bool false) rfl (by rfl) (exec_neB 33 32 (by kernel_rfl) (by kernel_rfl) (.tmp 46) (.tmp 47) _ rfl x x hxl hxl rfl rfl false (by simp)) ?_
  simp only [Ls]
  refine runL 49 (.bool false) rfl (by rfl) (by go_simp) ?_
  simp only [Ls]
  refine runL 50 (.int .i64 0) rfl (by rfl) (by go_simp) ?_
  simp only [Ls]
  refine runL 51 (.int .i64 0) rfl (by rfl) (by go_simp) ?_
  simp only [Ls]
  refine runL 52 (.bool false) rfl (by rfl) (by go_simp) ?_
  simp only [Ls]
  refine runL 53 (.bool false) rfl (by rfl) (by go_simp) ?_
  simp only [Ls]
  refine nilL ?_
  go_upto_region 7 with fail
  refine wl_lit ?_
  refine runL 54 (.int .i64 0) rfl (by rfl) (by go_simp) ?_
  simp only [Ls]
  refine runL 55 (.bool false) rfl (by rfl) (by go_simp) ?_
  simp only [Ls]
  refine nilL ?_
  go_upto_region 9 with fail
  refine wl_lit ?_
  refine runL 58 (.pointer (some ⟨p3, 0, none⟩)) rfl (by rfl) (by go_simp) ?_
  simp only [Ls]
  refine runL 59 (.agg (va .u8 (ke ++ km))) rfl (by rfl) (exec_mid 26 (.tmp 58) rfl p3 0 rfl (nv .u8 (ke ++ km)) _ (sV_keys hp3 hel hml) (by exact Tryd.underlying26) rfl (szKs _ _ hel hml)) ?_
  simp only [Ls]
  refine runL 60 (.pointer (some ⟨p3, 48, none⟩)) rfl (by rfl) (by go_simp) ?_
  simp only [Ls]
  refine runL 61 (.int .i64 (I : Int)) rfl (by rfl) (exec_cell 3 (.tmp 60) rfl p3 48 rfl (.int .i64 (I : Int)) _ Tryd.underlying3 rfl (sV_idx hp3 hel hml)) ?_
  simp only [Ls]
  refine runL 62 (.pointer (some ⟨p3, 49, none⟩)) rfl (by rfl) (by go_simp) ?_
  simp only [Ls]
  refine runL 63 (.agg (noV s c)) rfl (by rfl) (exec_mid 30 (.tmp 62) rfl p3 49 rfl ((noV s c).toList) _ (sV_no hp3 hel hml) (by exact Tryd.underlying30) rfl (by kernel_rfl)) ?_
  simp only [Ls]
  refine runL 64 (.agg (va .u8 x)) rfl (by rfl) (exec_row 33 (.tmp 9) rfl p9 rfl 33 (va .u8 x) _ hp9 (by exact Tryd.underlying33) rfl (sz_api_Block _ hxl)) ?_
  simp only [Ls]
  refine callL 65 rfl (by rfl) (fun K hK => wp_callF 14 #[.agg (va .u8 (ke ++ km)), .int .i64 (I : Int), .agg (noV s c), .agg (va .u8 x)] (by go_simp) (sseal_ok ke km hel hml heb hmb I s c x hI hs hxl hxb d tag hbq.out hvq.out hdl hdb hgl hgb _ (gl.out _ hW)) ?_)
  rintro e w11 ⟨rfl, bx⟩
  replace hp3 := blB hp3 bx
  replace hp4 := blB hp4 bx
  replace hp5 := blB hp5 bx
  replace hp7 := blB hp7 bx
  replace hp9 := blB hp9 bx
  replace hW := trB hW hB0 bx
  clear bx
  refine ⟨_, rfl, hK.out _ _ ?_⟩
  clear hK K
  simp only [Ls]
  refine runL 57 (.tuple #[.agg (va .u8 d), .agg (va .u8 tag), .int .i64 0]) rfl (by rfl) (by go_simp) ?_
  simp only [Ls]
  refine runL 66 (.agg (va .u8 d)) rfl (by rfl) (by go_simp) ?_
  simp only [Ls]
  refine runL 67 (.agg (va .u8 tag)) rfl (by rfl) (by go_simp) ?_
  simp only [Ls]
  refine runL 68 (.int .i64 0) rfl (by rfl) (by go_simp) ?_
  simp only [Ls]
  refine runWL 11 (.pointer (some ⟨w11.heap.size, 0, none⟩)) (w11.alloc (.cells (va .u8 z) 33)) rfl (by rfl) (exec_allocV 33 rfl _ (zv_blkz z hzq.out _)) ?_
  simp only [Ls]
  have lp3_p11 := hp3.lt
  have lp4_p11 := hp4.lt
  have lp5_p11 := hp5.lt
  have lp7_p11 := hp7.lt
  have lp9_p11 := hp9.lt
  have lw_p11 := Nat.le_trans hB0 hW.size
  have hp11 := Blk.new w11 33 (va .u8 z)
  have bx := bAl w11 (.cells (va .u8 z) 33)
  replace hp3 := blB hp3 bx
  replace hp4 := blB hp4 bx
  replace hp5 := blB hp5 bx
  replace hp7 := blB hp7 bx
  replace hp9 := blB hp9 bx
  replace hW := trB hW hB0 bx
  clear bx
  generalize w11.alloc (.cells (va .u8 z) 33) = w12 at *
  generalize w11.heap.size = p11 at hp11 lw_p11 lp3_p11 lp4_p11 lp5_p11 lp7_p11 lp9_p11 ⊢
  refine runWL 12 (.pointer (some ⟨w12.heap.size, 0, none⟩)) (w12.alloc (.cells (va .u8 z) 45)) rfl (by rfl) (exec_allocV 45 rfl _ (zv_digz z hzq.out _)) ?_
  simp only [Ls]
  have lp3_p12 := hp3.lt
  have lp4_p12 := hp4.lt
  have lp5_p12 := hp5.lt
  have lp7_p12 := hp7.lt
  have lp9_p12 := hp9.lt
  have lp11_p12 := hp11.lt
  have lw_p12 := Nat.le_trans hB0 hW.size
  have hp12 := Blk.new w12 45 (va .u8 z)
  have bx := bAl w12 (.cells (va .u8 z) 45)
  replace hp3 := blB hp3 bx
  replace hp4 := blB hp4 bx
  replace hp5 := blB hp5 bx
  replace hp7 := blB hp7 bx
  replace hp9 := blB hp9 bx
  replace hp11 := blB hp11 bx
  replace hW := trB hW hB0 bx
  clear bx
  generalize w12.alloc (.cells (va .u8 z) 45) = w13 at *
  generalize w12.heap.size = p12 at hp12 lw_p12 lp3_p12 lp4_p12 lp5_p12 lp7_p12 lp9_p12 lp11_p12 ⊢
  refine runSL (w13.setRow p11 (va .u8 d)) rfl (by rfl) (exec_storeRow 33 (.tmp 11) (.tmp 66) rfl p11 rfl (va .u8 d) rfl 33 (va .u8 z) hp11 (sz_eq (sz_api_Block _ hzl) (sz_api_Block _ hdl)) (sz_api_Block _ hdl) (va_ones .u8 _)) ?_
  replace hp3 := hp3.rowFar (show p11 ≠ p3 from (by omega)) (va .u8 d)
  replace hp4 := hp4.rowFar (show p11 ≠ p4 from (by omega)) (va .u8 d)
  replace hp5 := hp5.rowFar (show p11 ≠ p5 from (by omega)) (va .u8 d)
  replace hp7 := hp7.rowFar (show p11 ≠ p7 from (by omega)) (va .u8 d)
  replace hp9 := hp9.rowFar (show p11 ≠ p9 from (by omega)) (va .u8 d)
  replace hp12 := hp12.rowFar (show p11 ≠ p12 from (by omega)) (va .u8 d)
  replace hp11 := hp11.row (va .u8 d)
  replace hW := below_setRow hW lw_p11 (va .u8 d)
  generalize w13.setRow p11 (va .u8 d) = w14 at *
  refine runSL (w14.setRow p12 (va .u8 tag)) rfl (by rfl) (exec_storeRow 45 (.tmp 12) (.tmp 67) rfl p12 rfl (va .u8 tag) rfl 45 (va .u8 z) hp12 (sz_eq (sz_api_Digest _ hzl) (sz_api_Digest _ hgl)) (sz_api_Digest _ hgl) (va_ones .u8 _)) ?_
  replace hp3 := hp3.rowFar (show p12 ≠ p3 from (by omega)) (va .u8 tag)
  replace hp4 := hp4.rowFar (show p12 ≠ p4 from (by omega)) (va .u8 tag)
  replace hp5 := hp5.rowFar (show p12 ≠ p5 from (by omega)) (va .u8 tag)
  replace hp7 := hp7.rowFar (show p12 ≠ p7 from (by omega)) (va .u8 tag)
  replace hp9 := hp9.rowFar (show p12 ≠ p9 from (by omega)) (va .u8 tag)
  replace hp11 := hp11.rowFar (show p12 ≠ p11 from (by omega)) (va .u8 tag)
  replace hp12 := hp12.row (va .u8 tag)
  replace hW := below_setRow hW lw_p12 (va .u8 tag)
  generalize w14.setRow p12 (va .u8 tag) = w15 at *
  refine runL 13 (.int .i64 0) rfl (by rfl) (by go_simp) ?_
  simp only [Ls]
  refine nilL ?_
  go_upto_region 10 with fail
  refine wl_lit ?_
  refine runL 69 (.agg (va .u8 d)) rfl (by rfl) (exec_row 33 (.tmp 11) rfl p11 rfl 33 (va .u8 d) _ hp11 (by exact Tryd.underlying33) rfl (sz_api_Block _ hdl)) ?_
  simp only [Ls]
  refine runL 70 (.agg (va .u8 d)) rfl (by rfl) (exec_row 33 (.tmp 4) rfl p4 rfl 33 (va .u8 d) _ hp4 (by exact Tryd.underlying33) rfl (sz_api_Block _ hdl)) ?_
  simp only [Ls]
  refine runL 71 (.bool true) rfl (by rfl) (exec_eqB 33 32 (by kernel_rfl) (by kernel_rfl) (.tmp 69) (.tmp 70) _ rfl d d hdl hdl rfl rfl true (by simp)) ?_
  simp only [Ls]
  refine runL 72 (.bool true) rfl (by rfl) (by go_simp) ?_
  simp only [Ls]
  refine runL 73 (.agg (va .u8 tag)) rfl (by rfl) (exec_row 45 (.tmp 12) rfl p12 rfl 45 (va .u8 tag) _ hp12 (by exact Tryd.underlying45) rfl (sz_api_Digest _ hgl)) ?_
  simp only [Ls]
  refine runL 74 (.agg (va .u8 tag)) rfl (by rfl) (exec_row 45 (.tmp 5) rfl p5 rfl 45 (va .u8 tag) _ hp5 (by exact Tryd.underlying45) rfl (sz_api_Digest _ hgl)) ?_
  simp only [Ls]
  refine runL 75 (.bool true) rfl (by rfl) (exec_eqB 45 32 (by kernel_rfl) (by kernel_rfl) (.tmp 73) (.tmp 74) _ rfl tag tag hgl hgl rfl rfl true (by simp)) ?_
  simp only [Ls]
  refine runL 76 (.bool true) rfl (by rfl) (by go_simp) ?_
  simp only [Ls]
  refine runL 77 (.bool true) rfl (by rfl) (by go_simp) ?_
  simp only [Ls]
  refine runL 78 (.int .i64 0) rfl (by rfl) (by go_simp) ?_
  simp only [Ls]
  refine runL 79 (.bool true) rfl (by rfl) (by go_simp) ?_
  simp only [Ls]
  refine runL 80 (.bool true) rfl (by rfl) (by go_simp) ?_
  simp only [Ls]
  refine runL 81 (.bool true) rfl (by rfl) (by go_simp) ?_
  simp only [Ls]
  refine callL 82 rfl (by rfl) (fun K hK => wp_callF 8 #[] (by go_simp) (lives09_any _ (gl.out _ hW)) ?_)
  rintro e w16 ⟨rfl, bx⟩
  replace hp3 := blB hp3 bx
  replace hp4 := blB hp4 bx
  replace hp5 := blB hp5 bx
  replace hp7 := blB hp7 bx
  replace hp9 := blB hp9 bx
  replace hp11 := blB hp11 bx
  replace hp12 := blB hp12 bx
  replace hW := trB hW hB0 bx
  clear bx
  refine ⟨_, rfl, hK.out _ _ ?_⟩
  clear hK K
  simp only [Ls]
  refine runL 83 (.bool true) rfl (by rfl) (by go_simp) ?_
  simp only [Ls]
  refine runL 6 (.bool true) rfl (by rfl) (by go_simp) ?_
  simp only [Ls]
  refine nilL ?_
  go_wp2_with fail
  go_ret
  exact ⟨rfl, hW⟩
 ·
  have hvq := Lib.hid hv
  clear hv
  go_enter Tryd.func5, Tryd.ntmps5
  go_upto_region 0 with fail
  refine wl_lit ?_
  refine runWL 3 (.pointer (some ⟨w.heap.size, 0, none⟩)) (w.alloc (.cells (sV ke km (I : Int) s c) 32)) rfl (by rfl) (exec_box 32 (.tmp 0) rfl (.agg (sV ke km (I : Int) s c)) rfl) ?_
  simp only [Ls]
  have lw_p3 := Nat.le_trans hB0 hW.size
  have hp3 := Blk.new w 32 (sV ke km (I : Int) s c)
  replace hW := alB hW hB0 (.cells (sV ke km (I : Int) s c) 32)
  generalize w.alloc (.cells (sV ke km (I : Int) s c) 32) = w1 at *
  generalize w.heap.size = p3 at hp3 lw_p3  ⊢
  refine runWL 4 (.pointer (some ⟨w1.heap.size, 0, none⟩)) (w1.alloc (.cells (va .u8 d) 33)) rfl (by rfl) (exec_box 33 (.tmp 1) rfl (.agg (va .u8 d)) rfl) ?_
  simp only [Ls]
  have lp3_p4 := hp3.lt
  have lw_p4 := Nat.le_trans hB0 hW.size
  have hp4 := Blk.new w1 33 (va .u8 d)
  have bx := bAl w1 (.cells (va .u8 d) 33)
  replace hp3 := blB hp3 bx
  replace hW := trB hW hB0 bx
  clear bx
  generalize w1.alloc (.cells (va .u8 d) 33) = w2 at *
  generalize w1.heap.size = p4 at hp4 lw_p4 lp3_p4 ⊢
  refine runWL 5 (.pointer (some ⟨w2.heap.size, 0, none⟩)) (w2.alloc (.cells (va .u8 tag) 45)) rfl (by rfl) (exec_box 45 (.tmp 2) rfl (.agg (va .u8 tag)) rfl) ?_
  simp only [Ls]
  have lp3_p5 := hp3.lt
  have lp4_p5 := hp4.lt
  have lw_p5 := Nat.le_trans hB0 hW.size
  have hp5 := Blk.new w2 45 (va .u8 tag)
  have bx := bAl w2 (.cells (va .u8 tag) 45)
  replace hp3 := blB hp3 bx
  replace hp4 := blB hp4 bx
  replace hW := trB hW hB0 bx
  clear bx
  generalize w2.alloc (.cells (va .u8 tag) 45) = w3 at *
  generalize w2.heap.size = p5 at hp5 lw_p5 lp3_p5 lp4_p5 ⊢
  refine runL 6 (.bool false) rfl (by rfl) (by go_simp) ?_
  simp only [Ls]
  refine nilL ?_
  go_upto_region 1 with fail
  refine wl_lit ?_
  refine runL 14 (.pointer (some ⟨p3, 48, none⟩)) rfl (by rfl) (by go_simp) ?_
  simp only [Ls]
  refine runL 15 (.int .i64 (I : Int)) rfl (by rfl) (exec_cell 3 (.tmp 14) rfl p3 48 rfl (.int .i64 (I : Int)) _ Tryd.underlying3 rfl (sV_idx hp3 hel hml)) ?_
  simp only [Ls]
  refine callL 16 rfl (by rfl) (fun K hK => wp_callF 10 #[.int .i64 (I : Int)] (by go_simp) (bad_no I hI _) ?_)
  rintro e w4 ⟨rfl, bx⟩
  replace hp3 := blB hp3 bx
  replace hp4 := blB hp4 bx
  replace hp5 := blB hp5 bx
  replace hW := trB hW hB0 bx
  clear bx
  refine ⟨_, rfl, hK.out _ _ ?_⟩
  clear hK K
  simp only [Ls]
  refine nilL ?_
  go_upto_region 3 with fail
  refine wl_lit ?_
  refine runL 19 (.pointer (some ⟨p3, 0, none⟩)) rfl (by rfl) (by go_simp) ?_
  simp only [Ls]
  refine runL 20 (.pointer (some ⟨p3, 0, none⟩)) rfl (by rfl) (by go_simp) ?_
  simp only [Ls]
  refine runL 21 (.agg (va .u8 ke)) rfl (by rfl) (exec_mid 22 (.tmp 20) rfl p3 0 rfl (nv .u8 ke) _ (sV_enc hp3 hel hml) (by exact Tryd.underlying22) rfl (sz16D _ hel)) ?_
  simp only [Ls]
  refine runL 22 (.pointer (some ⟨p3, 0, none⟩)) rfl (by rfl) (by go_simp) ?_
  simp only [Ls]
  refine runL 23 (.pointer (some ⟨p3, 16, none⟩)) rfl (by rfl) (by go_simp) ?_
  simp only [Ls]
  refine runL 24 (.agg (va .u8 km)) rfl (by rfl) (exec_mid 24 (.tmp 23) rfl p3 16 rfl (nv .u8 km) _ (sV_mac hp3 hel hml) (by exact Tryd.underlying24) rfl (szKD _ hml)) ?_
  simp only [Ls]
  refine runL 25 (.pointer (some ⟨p3, 48, none⟩)) rfl (by rfl) (by go_simp) ?_
  simp only [Ls]
  refine runL 26 (.int .i64 (I : Int)) rfl (by rfl) (exec_cell 3 (.tmp 25) rfl p3 48 rfl (.int .i64 (I : Int)) _ Tryd.underlying3 rfl (sV_idx hp3 hel hml)) ?_
  simp only [Ls]
  refine runL 27 (.pointer (some ⟨p3, 49, none⟩)) rfl (by rfl) (by go_simp) ?_
  simp only [Ls]
  refine runL 28 (.agg (noV s c)) rfl (by rfl) (exec_mid 30 (.tmp 27) rfl p3 49 rfl ((noV s c).toList) _ (sV_no hp3 hel hml) (by exact Tryd.underlying30) rfl (by kernel_rfl)) ?_
  simp only [Ls]
  refine runL 29 (.agg (va .u8 d)) rfl (by rfl) (exec_row 33 (.tmp 4) rfl p4 rfl 33 (va .u8 d) _ hp4 (by exact Tryd.underlying33) rfl (sz_api_Block _ hdl)) ?_
  simp only [Ls]
  refine runL 30 (.agg (va .u8 tag)) rfl (by rfl) (exec_row 45 (.tmp 5) rfl p5 rfl 45 (va .u8 tag) _ hp5 (by exact Tryd.underlying45) rfl (sz_api_Digest _ hgl)) ?_
  simp only [Ls]
  refine callL 31 rfl (by rfl) (fun K hK => wp_callF 17 #[.agg (va .u8 ke), .agg (va .u8 km), .int .i64 (I : Int), .agg (noV s c), .agg (va .u8 d), .agg (va .u8 tag)] (by go_simp) (ropen_noz z hzq.out ke km hel hml heb hmb I s c d hI hs hdl hdb hc tag hgl hgb hvq.out _) ?_)
  rintro e w5 ⟨rfl, bx⟩
  replace hp3 := blB hp3 bx
  replace hp4 := blB hp4 bx
  replace hp5 := blB hp5 bx
  replace hW := trB hW hB0 bx
  clear bx
  refine ⟨_, rfl, hK.out _ _ ?_⟩
  clear hK K
  simp only [Ls]
  refine runL 18 (.tuple #[.agg (va .u8 z), .int .i64 9]) rfl (by rfl) (by go_simp) ?_
  simp only [Ls]
  refine runL 32 (.agg (va .u8 z)) rfl (by rfl) (by go_simp) ?_
  simp only [Ls]
  refine runL 33 (.int .i64 9) rfl (by rfl) (by go_simp) ?_
  simp only [Ls]
  refine runWL 7 (.pointer (some ⟨w5.heap.size, 0, none⟩)) (w5.alloc (.cells (va .u8 z) 33)) rfl (by rfl) (exec_allocV 33 rfl _ (zv_blkz z hzq.out _)) ?_
  simp only [Ls]
  have lp3_p7 := hp3.lt
  have lp4_p7 := hp4.lt
  have lp5_p7 := hp5.lt
  have lw_p7 := Nat.le_trans hB0 hW.size
  have hp7 := Blk.new w5 33 (va .u8 z)
  have bx := bAl w5 (.cells (va .u8 z) 33)
  replace hp3 := blB hp3 bx
  replace hp4 := blB hp4 bx
  replace hp5 := blB hp5 bx
  replace hW := trB hW hB0 bx
  clear bx
  generalize w5.alloc (.cells (va .u8 z) 33) = w6 at *
  generalize w5.heap.size = p7 at hp7 lw_p7 lp3_p7 lp4_p7 lp5_p7 ⊢
  refine runSL (w6.setRow p7 (va .u8 z)) rfl (by rfl) (exec_storeRow 33 (.tmp 7) (.tmp 32) rfl p7 rfl (va .u8 z) rfl 33 (va .u8 z) hp7 (sz_eq (sz_api_Block _ hzl) (sz_api_Block _ hzl)) (sz_api_Block _ hzl) (va_ones .u8 _)) ?_
  replace hp3 := hp3.rowFar (show p7 ≠ p3 from (by omega)) (va .u8 z)
  replace hp4 := hp4.rowFar (show p7 ≠ p4 from (by omega)) (va .u8 z)
  replace hp5 := hp5.rowFar (show p7 ≠ p5 from (by omega)) (va .u8 z)
  replace hp7 := hp7.row (va .u8 z)
  replace hW := below_setRow hW lw_p7 (va .u8 z)
  generalize w6.setRow p7 (va .u8 z) = w7 at *
  refine runL 8 (.int .i64 9) rfl (by rfl) (by go_simp) ?_
  simp only [Ls]
  refine nilL ?_
  go_upto_region 4 with fail
  refine wl_lit ?_
  refine runL 35 (.pointer (some ⟨p3, 0, none⟩)) rfl (by rfl) (by go_simp) ?_
  simp only [Ls]
  refine runL 36 (.agg (va .u8 (ke ++ km))) rfl (by rfl) (exec_mid 26 (.tmp 35) rfl p3 0 rfl (nv .u8 (ke ++ km)) _ (sV_keys hp3 hel hml) (by exact Tryd.underlying26) rfl (szKs _ _ hel hml)) ?_
  simp only [Ls]
  refine runL 37 (.pointer (some ⟨p3, 48, none⟩)) rfl (by rfl) (by go_simp) ?_
  simp only [Ls]
  refine runL 38 (.int .i64 (I : Int)) rfl (by rfl) (exec_cell 3 (.tmp 37) rfl p3 48 rfl (.int .i64 (I : Int)) _ Tryd.underlying3 rfl (sV_idx hp3 hel hml)) ?_
  simp only [Ls]
  refine runL 39 (.pointer (some ⟨p3, 49, none⟩)) rfl (by rfl) (by go_simp) ?_
  simp only [Ls]
  refine runL 40 (.agg (noV s c)) rfl (by rfl) (exec_mid 30 (.tmp 39) rfl p3 49 rfl ((noV s c).toList) _ (sV_no hp3 hel hml) (by exact Tryd.underlying30) rfl (by kernel_rfl)) ?_
  simp only [Ls]
  refine runL 41 (.agg (va .u8 d)) rfl (by rfl) (exec_row 33 (.tmp 4) rfl p4 rfl 33 (va .u8 d) _ hp4 (by exact Tryd.underlying33) rfl (sz_api_Block _ hdl)) ?_
  simp only [Ls]
  refine runL 42 (.agg (va .u8 tag)) rfl (by rfl) (exec_row 45 (.tmp 5) rfl p5 rfl 45 (va .u8 tag) _ hp5 (by exact Tryd.underlying45) rfl (sz_api_Digest _ hgl)) ?_
  simp only [Ls]
  refine callL 43 rfl (by rfl) (fun K hK => wp_callF 15 #[.agg (va .u8 (ke ++ km)), .int .i64 (I : Int), .agg (noV s c), .agg (va .u8 d), .agg (va .u8 tag)] (by go_simp) (sopen_noz z hzq.out ke km hel hml heb hmb I s c d hI hs hdl hdb tag hgl hgb hvq.out _ (gl.out _ hW)) ?_)
  rintro e w8 ⟨rfl, bx⟩
  replace hp3 := blB hp3 bx
  replace hp4 := blB hp4 bx
  replace hp5 := blB hp5 bx
  replace hp7 := blB hp7 bx
  replace hW := trB hW hB0 bx
  clear bx
  refine ⟨_, rfl, hK.out _ _ ?_⟩
  clear hK K
  simp only [Ls]
  refine runL 34 (.tuple #[.agg (va .u8 z), .int .i64 9]) rfl (by rfl) (by go_simp) ?_
  simp only [Ls]
  refine runL 44 (.agg (va .u8 z)) rfl (by rfl) (by go_simp) ?_
  simp only [Ls]
  refine runL 45 (.int .i64 9) rfl (by rfl) (by go_simp) ?_
  simp only [Ls]
  refine runWL 9 (.pointer (some ⟨w8.heap.size, 0, none⟩)) (w8.alloc (.cells (va .u8 z) 33)) rfl (by rfl) (exec_allocV 33 rfl _ (zv_blkz z hzq.out _)) ?_
  simp only [Ls]
  have lp3_p9 := hp3.lt
  have lp4_p9 := hp4.lt
  have lp5_p9 := hp5.lt
  have lp7_p9 := hp7.lt
  have lw_p9 := Nat.le_trans hB0 hW.size
  have hp9 := Blk.new w8 33 (va .u8 z)
  have bx := bAl w8 (.cells (va .u8 z) 33)
  replace hp3 := blB hp3 bx
  replace hp4 := blB hp4 bx
  replace hp5 := blB hp5 bx
  replace hp7 := blB hp7 bx
  replace hW := trB hW hB0 bx
  clear bx
  generalize w8.alloc (.cells (va .u8 z) 33) = w9 at *
  generalize w8.heap.size = p9 at hp9 lw_p9 lp3_p9 lp4_p9 lp5_p9 lp7_p9 ⊢
  refine runSL (w9.setRow p9 (va .u8 z)) rfl (by rfl) (exec_storeRow 33 (.tmp 9) (.tmp 44) rfl p9 rfl (va .u8 z) rfl 33 (va .u8 z) hp9 (sz_eq (sz_api_Block _ hzl) (sz_api_Block _ hzl)) (sz_api_Block _ hzl) (va_ones .u8 _)) ?_
  replace hp3 := hp3.rowFar (show p9 ≠ p3 from (by omega)) (va .u8 z)
  replace hp4 := hp4.rowFar (show p9 ≠ p4 from (by omega)) (va .u8 z)
  replace hp5 := hp5.rowFar (show p9 ≠ p5 from (by omega)) (va .u8 z)
  replace hp7 := hp7.rowFar (show p9 ≠ p7 from (by omega)) (va .u8 z)
  replace hp9 := hp9.row (va .u8 z)
  replace hW := below_setRow hW lw_p9 (va .u8 z)
  generalize w9.setRow p9 (va .u8 z) = w10 at *
  refine runL 10 (.int .i64 9) rfl (by rfl) (by go_simp) ?_
  simp only [Ls]
  refine nilL ?_
  go_upto_region 5 with fail
  refine wl_lit ?_
  refine runL 46 (.agg (va .u8 z)) rfl (by rfl) (exec_row 33 (.tmp 9) rfl p9 rfl 33 (va .u8 z) _ hp9 (by exact Tryd.underlying33) rfl (sz_api_Block _ hzl)) ?_
  simp only [Ls]
  refine runL 47 (.agg (va .u8 z)) rfl (by rfl) (exec_row 33 (.tmp 7) rfl p7 rfl 33 (va .u8 z) _ hp7 (by exact Tryd.underlying33) rfl (sz_api_Block _ hzl)) ?_
  simp only [Ls]
  refine runL 48 (.bool false) rfl (by rfl) (exec_neB 33 32 (by kernel_rfl) (by kernel_rfl) (.tmp 46) (.tmp 47) _ rfl z z hzl hzl rfl rfl false (by simp)) ?_
  simp only [Ls]
  refine runL 49 (.bool false) rfl (by rfl) (by go_simp) ?_
  simp only [Ls]
  refine runL 50 (.int .i64 9) rfl (by rfl) (by go_simp) ?_
  simp only [Ls]
  refine runL 51 (.int .i64 9) rfl (by rfl) (by go_simp) ?_
  simp only [Ls]
  refine runL 52 (.bool false) rfl (by rfl) (by go_simp) ?_
  simp only [Ls]
  refine runL 53 (.bool false) rfl (by rfl) (by go_simp) ?_
  simp only [Ls]
  refine nilL ?_
  go_upto_region 7 with fail
  refine wl_lit ?_
  refine runL 54 (.int .i64 9) rfl (by rfl) (by go_simp) ?_
  simp only [Ls]
  refine runL 55 (.bool true) rfl (by rfl) (by go_simp) ?_
  simp only [Ls]
  refine nilL ?_
  go_upto_region 8 with fail
  refine wl_lit ?_
  refine callL 56 rfl (by rfl) (fun K hK => wp_callF 8 #[] (by go_simp) (lives09_any _ (gl.out _ hW)) ?_)
  rintro e w11 ⟨rfl, bx⟩
  replace hp3 := blB hp3 bx
  replace hp4 := blB hp4 bx
  replace hp5 := blB hp5 bx
  replace hp7 := blB hp7 bx
  replace hp9 := blB hp9 bx
  replace hW := trB hW hB0 bx
  clear bx
  refine ⟨_, rfl, hK.out _ _ ?_⟩
  clear hK K
  simp only [Ls]
  refine runL 6 (.bool true) rfl (by rfl) (by go_simp) ?_
  simp only [Ls]
  refine nilL ?_
  go_wp2_with fail
  go_ret
  exact ⟨rfl, hW⟩
end Go.Proofs.YtcfddmplnoknlaaDoor
