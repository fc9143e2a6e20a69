/-
  The walk of caissonlaw09.SealsMessage. (Printed by mkseal09c.py.)
-/
import Derived.Test.YtcfddmplnoknlaaDoorY22
namespace Go.Proofs.YtcfddmplnoknlaaDoor
set_option maxRecDepth 16384
open Go.RowKit Sh

set_option maxRecDepth 8000 in
set_option maxHeartbeats 4000000 in
theorem lawSMsg_any (ke km : List Nat) (hel : ke.length = 16) (hml : km.length = 32) (_heb : Byt ke) (_hmb : Byt km) (i : Int) (s c : Nat) (hs : s < 4294967296) (hc : c < 18446744073709551616) (d : List Nat) (hdl : d.length = 32) (hdb : Byt d) (l : List Nat) (hlb : Byt l) (A : Option Addr) (n cc B : Nat) (hnc : n ≤ cc) (w : World) (hg : Glob w)
  (hr : Reads w B 1 A n (nv .u8 l)) (hBw : B ≤ w.heap.size) :
  Calls Tryd.prog 3 #[.agg (sV ke km i s c), .agg (va .u8 d), .slice A n cc] w fun e w' => e = .returned (.bool true) ∧ Below w.heap.size w w' := by
 obtain ⟨B0, hB0e, hW, hB0⟩ := stB w
 rw [hB0e]
 have gl := glob_of hg hB0e
 clear hg
 have hBB : B ≤ B0 := by omega
 have rd := reads_of hr hBB
 have hll := hr.len
 have hB0q := Lib.hid hB0e
 clear hB0e
 obtain ⟨z, hz⟩ : ∃ z, List.replicate 32 0 = z := ⟨_, rfl⟩
 have hzl : z.length = 32 := by rw [← hz]; exact List.length_replicate
 have hzb : Byt z := by rw [← hz]; exact Byt.rep _ _ (by omega)
 have hzq := Lib.hid hz
 clear hz
 by_cases h60 : 60 < n
 ·
  have h60I : (60 : Int) < (n : Int) := by omega
  go_enter Tryd.func3, Tryd.ntmps3
  go_upto_region 0 with fail
  refine wl_lit ?_
  refine runWL 3 (.pointer (some ⟨w.heap.size, 0, none⟩)) (w.alloc (.cells (sV ke km i s c) 32)) rfl (by rfl) (exec_box 32 (.tmp 0) rfl (.agg (sV ke km i s c)) rfl) ?_
  simp only [Ls]
  have lw_p3 := Nat.le_trans hB0 hW.size
  have hp3 := Blk.new w 32 (sV ke km i s c)
  replace hW := alB hW hB0 (.cells (sV ke km i s c) 32)
  generalize w.alloc (.cells (sV ke km i s c) 32) = w1 at *
  generalize w.heap.size = p3 at hp3 lw_p3  ⊢
  refine runWL 4 (.pointer (some ⟨w1.heap.size, 0, none⟩)) (w1.alloc (.cells (va .u8 d) 33)) rfl (by rfl) (exec_box 33 (.tmp 1) rfl (.agg (va .u8 d)) rfl) ?_
  simp only [Ls]
  have lp3_p4 := hp3.lt
  have lw_p4 := Nat.le_trans hB0 hW.size
  have hp4 := Blk.new w1 33 (va .u8 d)
  have bx := bAl w1 (.cells (va .u8 d) 33)
  replace hp3 := blB hp3 bx
  replace hW := trB hW hB0 bx
  clear bx
  generalize w1.alloc (.cells (va .u8 d) 33) = w2 at *
  generalize w1.heap.size = p4 at hp4 lw_p4 lp3_p4 ⊢
  refine runL 6 (.bool false) rfl (by rfl) (by go_simp) ?_
  simp only [Ls]
  refine nilL ?_
  go_upto_region 1 with fail
  refine wl_lit ?_
  refine runL 20 (.slice A n cc) rfl (by rfl) (by go_simp) ?_
  simp only [Ls]
  refine runL 21 (.int .i64 n) rfl (by rfl) (by go_simp) ?_
  simp only [Ls]
  refine runL 22 (.bool true) rfl (by rfl) (by go_simp) ?_
  simp only [Ls]
  refine nilL ?_
  go_upto_region 2 with fail
  refine wl_lit ?_
  refine callL 23 rfl (by rfl) (fun K hK => wp_callF 8 #[] (by go_simp) (lives09_any _ (gl.out _ hW)) ?_)
  rintro e w3 ⟨rfl, bx⟩
  replace hp3 := blB hp3 bx
  replace hp4 := blB hp4 bx
  replace hW := trB hW hB0 bx
  clear bx
  refine ⟨_, rfl, hK.out _ _ ?_⟩
  clear hK K
  simp only [Ls]
  refine runL 6 (.bool true) rfl (by rfl) (by go_simp) ?_
  simp only [Ls]
  refine nilL ?_
  go_wp2_with fail
  go_ret
  exact ⟨rfl, hW⟩
 have h60I : ¬ (60 : Int) < (n : Int) := by omega
 by_cases hi : i < 0 ∨ 4096 ≤ i
 ·
  go_enter Tryd.func3, Tryd.ntmps3
  go_upto_region 0 with fail
  refine wl_lit ?_
  refine runWL 3 (.pointer (some ⟨w.heap.size, 0, none⟩)) (w.alloc (.cells (sV ke km i s c) 32)) rfl (by rfl) (exec_box 32 (.tmp 0) rfl (.agg (sV ke km i s c)) rfl) ?_
  simp only [Ls]
  have lw_p3 := Nat.le_trans hB0 hW.size
  have hp3 := Blk.new w 32 (sV ke km i s c)
  replace hW := alB hW hB0 (.cells (sV ke km i s c) 32)
  generalize w.alloc (.cells (sV ke km i s c) 32) = w1 at *
  generalize w.heap.size = p3 at hp3 lw_p3  ⊢
  refine runWL 4 (.pointer (some ⟨w1.heap.size, 0, none⟩)) (w1.alloc (.cells (va .u8 d) 33)) rfl (by rfl) (exec_box 33 (.tmp 1) rfl (.agg (va .u8 d)) rfl) ?_
  simp only [Ls]
  have lp3_p4 := hp3.lt
  have lw_p4 := Nat.le_trans hB0 hW.size
  have hp4 := Blk.new w1 33 (va .u8 d)
  have bx := bAl w1 (.cells (va .u8 d) 33)
  replace hp3 := blB hp3 bx
  replace hW := trB hW hB0 bx
  clear bx
  generalize w1.alloc (.cells (va .u8 d) 33) = w2 at *
  generalize w1.heap.size = p4 at hp4 lw_p4 lp3_p4 ⊢
  refine runL 6 (.bool false) rfl (by rfl) (by go_simp) ?_
  simp only [Ls]
  refine nilL ?_
  go_upto_region 1 with fail
  refine wl_lit ?_
  refine runL 20 (.slice A n cc) rfl (by rfl) (by go_simp) ?_
  simp only [Ls]
  refine runL 21 (.int .i64 n) rfl (by rfl) (by go_simp) ?_
  simp only [Ls]
  refine runL 22 (.bool false) rfl (by rfl) (by go_simp) ?_
  simp only [Ls]
  refine nilL ?_
  go_upto_region 3 with fail
  refine wl_lit ?_
  refine runL 25 (.pointer (some ⟨p3, 48, none⟩)) rfl (by rfl) (by go_simp) ?_
  simp only [Ls]
  refine runL 26 (.int .i64 i) rfl (by rfl) (exec_cell 3 (.tmp 25) rfl p3 48 rfl (.int .i64 i) _ Tryd.underlying3 rfl (sV_idx hp3 hel hml)) ?_
  simp only [Ls]
  refine runL 27 (.pointer (some ⟨p3, 49, none⟩)) rfl (by rfl) (by go_simp) ?_
  simp only [Ls]
  refine runL 28 (.agg (noV s c)) rfl (by rfl) (exec_mid 30 (.tmp 27) rfl p3 49 rfl ((noV s c).toList) _ (sV_no hp3 hel hml) (by exact Tryd.underlying30) rfl (by kernel_rfl)) ?_
  simp only [Ls]
  refine runL 29 (.agg (va .u8 d)) rfl (by rfl) (exec_row 33 (.tmp 4) rfl p4 rfl 33 (va .u8 d) _ hp4 (by exact Tryd.underlying33) rfl (sz_api_Block _ hdl)) ?_
  simp only [Ls]
  refine callL 30 rfl (by rfl) (fun K hK => wp_callF 9 #[.int .i64 i, .agg (noV s c), .agg (va .u8 d)] (by go_simp) (smessage_bad i hi s c d hdl _) ?_)
  rintro e w3 ⟨rfl, bx⟩
  replace hp3 := blB hp3 bx
  replace hp4 := blB hp4 bx
  replace hW := trB hW hB0 bx
  clear bx
  refine ⟨_, rfl, hK.out _ _ ?_⟩
  clear hK K
  simp only [Ls]
  refine runL 24 (.tuple #[.slice none 0 0, .int .i64 1]) rfl (by rfl) (by go_simp) ?_
  simp only [Ls]
  refine runL 31 (.slice none 0 0) rfl (by rfl) (by go_simp) ?_
  simp only [Ls]
  refine runL 32 (.int .i64 1) rfl (by rfl) (by go_simp) ?_
  simp only [Ls]
  refine runL 7 (.slice none 0 0) rfl (by rfl) (by go_simp) ?_
  simp only [Ls]
  refine runL 8 (.int .i64 1) rfl (by rfl) (by go_simp) ?_
  simp only [Ls]
  refine nilL ?_
  go_upto_region 4 with fail
  refine wl_lit ?_
  refine runL 33 (.pointer (some ⟨p3, 48, none⟩)) rfl (by rfl) (by go_simp) ?_
  simp only [Ls]
  refine runL 34 (.int .i64 i) rfl (by rfl) (exec_cell 3 (.tmp 33) rfl p3 48 rfl (.int .i64 i) _ Tryd.underlying3 rfl (sV_idx hp3 hel hml)) ?_
  simp only [Ls]
  refine callL 35 rfl (by rfl) (fun K hK => wp_callF 10 #[.int .i64 i] (by go_simp) (bad_yes i hi _) ?_)
  rintro e w4 ⟨rfl, bx⟩
  replace hp3 := blB hp3 bx
  replace hp4 := blB hp4 bx
  replace hW := trB hW hB0 bx
  clear bx
  refine ⟨_, rfl, hK.out _ _ ?_⟩
  clear hK K
  simp only [Ls]
  refine nilL ?_
  go_upto_region 5 with fail
  refine wl_lit ?_
  refine runL 36 (.slice none 0 0) rfl (by rfl) (by go_simp) ?_
  simp only [Ls]
  refine runL 37 (.int .i64 1) rfl (by rfl) (by go_simp) ?_
  simp only [Ls]
  refine callL 38 rfl (by rfl) (fun K hK => wp_callF 11 #[.slice none 0 0, .int .i64 1, .slice none 0 0, .int .i64 1] (by go_simp) (same09_any [] none 0 0 none 0 0 1 _ Reads.none_ (Nat.zero_le _) Reads.none_ (Nat.zero_le _)) ?_)
  rintro e w5 ⟨rfl, bx⟩
  replace hp3 := blB hp3 bx
  replace hp4 := blB hp4 bx
  replace hW := trB hW hB0 bx
  clear bx
  refine ⟨_, rfl, hK.out _ _ ?_⟩
  clear hK K
  simp only [Ls]
  refine runL 39 (.bool false) rfl (by rfl) (by go_simp) ?_
  simp only [Ls]
  refine nilL ?_
  rcases Nat.lt_trichotomy n 48 with hn | hn | hn
  ·
   have hnI : (n : Int) < 48 := by omega
   have hnI2 : ¬ (48 : Int) < (n : Int) := by omega
   have hnI3 : ¬ (n : Int) = 48 := by omega
   go_upto_region 10 with fail
   refine wl_lit ?_
   refine runL 79 (.slice A n cc) rfl (by rfl) (by go_simp) ?_
   simp only [Ls]
   refine callL 80 rfl (by rfl) (fun K hK => wp_callF 12 #[.slice A n cc] (by go_simp) (sparse_lenz z hzq.out n 6 (.inl ⟨hn, rfl⟩) A cc _) ?_)
   rintro e w6 ⟨rfl, bx⟩
   replace hp3 := blB hp3 bx
   replace hp4 := blB hp4 bx
   replace hW := trB hW hB0 bx
   clear bx
   refine ⟨_, rfl, hK.out _ _ ?_⟩
   clear hK K
   simp only [Ls]
   refine runL 78 (.tuple #[.int .i64 0, .agg (noV 0 0), .agg (va .u8 z), .int .i64 6]) rfl (by rfl) (by go_simp) ?_
   simp only [Ls]
   refine runL 81 (.int .i64 0) rfl (by rfl) (by go_simp) ?_
   simp only [Ls]
   refine runL 82 (.agg (noV 0 0)) rfl (by rfl) (by go_simp) ?_
   simp only [Ls]
   refine runL 83 (.agg (va .u8 z)) rfl (by rfl) (by go_simp) ?_
   simp only [Ls]
   refine runL 84 (.int .i64 6) rfl (by rfl) (by go_simp) ?_
   simp only [Ls]
   refine runWL 14 (.pointer (some ⟨w6.heap.size, 0, none⟩)) (w6.alloc (.cells (noV 0 0) 30)) rfl (by rfl) (exec_allocV 30 rfl _ (zv_Nonce _)) ?_
   simp only [Ls]
   have lp3_p14 := hp3.lt
   have lp4_p14 := hp4.lt
   have lw_p14 := Nat.le_trans hB0 hW.size
   have hp14 := Blk.new w6 30 (noV 0 0)
   have bx := bAl w6 (.cells (noV 0 0) 30)
   replace hp3 := blB hp3 bx
   replace hp4 := blB hp4 bx
   replace hW := trB hW hB0 bx
   clear bx
   generalize w6.alloc (.cells (noV 0 0) 30) = w7 at *
   generalize w6.heap.size = p14 at hp14 lw_p14 lp3_p14 lp4_p14 ⊢
   refine runWL 15 (.pointer (some ⟨w7.heap.size, 0, none⟩)) (w7.alloc (.cells (va .u8 z) 33)) rfl (by rfl) (exec_allocV 33 rfl _ (zv_blkz z hzq.out _)) ?_
   simp only [Ls]
   have lp3_p15 := hp3.lt
   have lp4_p15 := hp4.lt
   have lp14_p15 := hp14.lt
   have lw_p15 := Nat.le_trans hB0 hW.size
   have hp15 := Blk.new w7 33 (va .u8 z)
   have bx := bAl w7 (.cells (va .u8 z) 33)
   replace hp3 := blB hp3 bx
   replace hp4 := blB hp4 bx
   replace hp14 := blB hp14 bx
   replace hW := trB hW hB0 bx
   clear bx
   generalize w7.alloc (.cells (va .u8 z) 33) = w8 at *
   generalize w7.heap.size = p15 at hp15 lw_p15 lp3_p15 lp4_p15 lp14_p15 ⊢
   refine runL 13 (.int .i64 0) rfl (by rfl) (by go_simp) ?_
   simp only [Ls]
   refine runSL (w8.setRow p14 (noV 0 0)) rfl (by rfl) (exec_storeRow 30 (.tmp 14) (.tmp 82) rfl p14 rfl (noV 0 0) rfl 30 (noV 0 0) hp14 (sz_eq (noV_sz _ _) (noV_sz _ _)) (noV_sz _ _) (noV_one _ _)) ?_
   replace hp3 := hp3.rowFar (show p14 ≠ p3 from (by omega)) (noV 0 0)
   replace hp4 := hp4.rowFar (show p14 ≠ p4 from (by omega)) (noV 0 0)
   replace hp15 := hp15.rowFar (show p14 ≠ p15 from (by omega)) (noV 0 0)
   replace hp14 := hp14.row (noV 0 0)
   replace hW := below_setRow hW lw_p14 (noV 0 0)
   generalize w8.setRow p14 (noV 0 0) = w9 at *
   refine runSL (w9.setRow p15 (va .u8 z)) rfl (by rfl) (exec_storeRow 33 (.tmp 15) (.tmp 83) rfl p15 rfl (va .u8 z) rfl 33 (va .u8 z) hp15 (sz_eq (sz_api_Block _ hzl) (sz_api_Block _ hzl)) (sz_api_Block _ hzl) (va_ones .u8 _)) ?_
   replace hp3 := hp3.rowFar (show p15 ≠ p3 from (by omega)) (va .u8 z)
   replace hp4 := hp4.rowFar (show p15 ≠ p4 from (by omega)) (va .u8 z)
   replace hp14 := hp14.rowFar (show p15 ≠ p14 from (by omega)) (va .u8 z)
   replace hp15 := hp15.row (va .u8 z)
   replace hW := below_setRow hW lw_p15 (va .u8 z)
   generalize w9.setRow p15 (va .u8 z) = w10 at *
   refine runL 16 (.int .i64 6) rfl (by rfl) (by go_simp) ?_
   simp only [Ls]
   refine nilL ?_
   go_upto_region 11 with fail
   refine wl_lit ?_
   refine runL 85 (.int .i64 6) rfl (by rfl) (by go_simp) ?_
   simp only [Ls]
   refine runL 86 (.bool false) rfl (by rfl) (by go_simp) ?_
   simp only [Ls]
   refine nilL ?_
   go_upto_region 14 with fail
   refine wl_lit ?_
   refine runL 19 (.int .i64 1) rfl (by rfl) (by go_simp) ?_
   simp only [Ls]
   refine nilL ?_
   go_upto_region 15 with fail
   refine wl_lit ?_
   refine runL 101 (.slice A n cc) rfl (by rfl) (by go_simp) ?_
   simp only [Ls]
   refine runL 102 (.int .i64 n) rfl (by rfl) (by go_simp) ?_
   simp only [Ls]
   refine runL 103 (.bool true) rfl (by rfl) (by go_simp) ?_
   simp only [Ls]
   refine nilL ?_
   go_upto_region 16 with fail
   refine wl_lit ?_
   refine runL 19 (.int .i64 6) rfl (by rfl) (by go_simp) ?_
   simp only [Ls]
   refine nilL ?_
   go_upto_region 17 with fail
   refine wl_lit ?_
   refine runL 104 (.slice A n cc) rfl (by rfl) (by go_simp) ?_
   simp only [Ls]
   refine runL 105 (.int .i64 n) rfl (by rfl) (by go_simp) ?_
   simp only [Ls]
   refine runL 106 (.bool false) rfl (by rfl) (by go_simp) ?_
   simp only [Ls]
   refine nilL ?_
   go_upto_region 19 with fail
   refine wl_lit ?_
   refine runL 107 (.int .i64 6) rfl (by rfl) (by go_simp) ?_
   simp only [Ls]
   refine runL 108 (.int .i64 6) rfl (by rfl) (by go_simp) ?_
   simp only [Ls]
   refine runL 109 (.bool true) rfl (by rfl) (by go_simp) ?_
   simp only [Ls]
   refine runL 110 (.bool true) rfl (by rfl) (by go_simp) ?_
   simp only [Ls]
   refine runL 111 (.slice A n cc) rfl (by rfl) (by go_simp) ?_
   simp only [Ls]
   refine runL 112 (.int .i64 n) rfl (by rfl) (by go_simp) ?_
   simp only [Ls]
   refine runL 113 (.bool true) rfl (by rfl) (by go_simp) ?_
   simp only [Ls]
   refine runL 114 (.bool true) rfl (by rfl) (by go_simp) ?_
   simp only [Ls]
   refine skipL 115 rfl (by kernel_rfl) ?_
   simp only [Ls]
   refine skipL 116 rfl (by kernel_rfl) ?_
   simp only [Ls]
   refine skipL 117 rfl (by kernel_rfl) ?_
   simp only [Ls]
   refine skipL 118 rfl (by kernel_rfl) ?_
   simp only [Ls]
   refine runL 119 (.bool true) rfl (by rfl) (by go_simp) ?_
   simp only [Ls]
   refine runL 120 (.bool true) rfl (by rfl) (by go_simp) ?_
   simp only [Ls]
   refine skipL 121 rfl (by kernel_rfl) ?_
   simp only [Ls]
   refine skipL 122 rfl (by kernel_rfl) ?_
   simp only [Ls]
   refine skipL 123 rfl (by kernel_rfl) ?_
   simp only [Ls]
   refine skipL 124 rfl (by kernel_rfl) ?_
   simp only [Ls]
   refine runL 125 (.bool true) rfl (by rfl) (by go_simp) ?_
   simp only [Ls]
   refine runL 126 (.bool true) rfl (by rfl) (by go_simp) ?_
   simp only [Ls]
   refine skipL 127 rfl (by kernel_rfl) ?_
   simp only [Ls]
   refine skipL 128 rfl (by kernel_rfl) ?_
   simp only [Ls]
   refine skipL 129 rfl (by kernel_rfl) ?_
   simp only [Ls]
   refine skipL 130 rfl (by kernel_rfl) ?_
   simp only [Ls]
   refine runL 131 (.bool true) rfl (by rfl) (by go_simp) ?_
   simp only [Ls]
   refine runL 132 (.bool true) rfl (by rfl) (by go_simp) ?_
   simp only [Ls]
   refine runL 133 (.bool true) rfl (by rfl) (by go_simp) ?_
   simp only [Ls]
   refine runL 134 (.int .i64 0) rfl (by rfl) (by go_simp) ?_
   simp only [Ls]
   refine runL 135 (.bool true) rfl (by rfl) (by go_simp) ?_
   simp only [Ls]
   refine runL 136 (.bool true) rfl (by rfl) (by go_simp) ?_
   simp only [Ls]
   refine runL 137 (.bool true) rfl (by rfl) (by go_simp) ?_
   simp only [Ls]
   refine runL 138 (.agg (noV 0 0)) rfl (by rfl) (exec_row 30 (.tmp 14) rfl p14 rfl 30 (noV 0 0) _ hp14 (by exact Tryd.underlying30) rfl (noV_sz _ _)) ?_
   simp only [Ls]
   refine runL 139 (.agg (noV 0 0)) rfl (by rfl) (exec_build 30 _ rfl (noV 0 0) (by kernel_rfl)) ?_
   simp only [Ls]
   refine runL 140 (.bool true) rfl (by rfl) (exec_eqV 30 (by kernel_rfl) (.tmp 138) (.tmp 139) _ rfl (noV 0 0) (noV 0 0) rfl rfl true (by rw [eqNoD]; simp)) ?_
   simp only [Ls]
   refine runL 141 (.bool true) rfl (by rfl) (by go_simp) ?_
   simp only [Ls]
   refine runL 142 (.bool true) rfl (by rfl) (by go_simp) ?_
   simp only [Ls]
   refine runL 143 (.agg (va .u8 z)) rfl (by rfl) (exec_row 33 (.tmp 15) rfl p15 rfl 33 (va .u8 z) _ hp15 (by exact Tryd.underlying33) rfl (sz_api_Block _ hzl)) ?_
   simp only [Ls]
   refine runL 144 (.agg (va .u8 z)) rfl (by rfl) (exec_build 33 _ rfl (va .u8 z) (by rw [← hzq.out]; kernel_rfl)) ?_
   simp only [Ls]
   refine runL 145 (.bool true) rfl (by rfl) (exec_eqB 33 32 (by kernel_rfl) (by kernel_rfl) (.tmp 143) (.tmp 144) _ rfl z z hzl hzl rfl rfl true (by simp)) ?_
   simp only [Ls]
   refine runL 146 (.bool true) rfl (by rfl) (by go_simp) ?_
   simp only [Ls]
   refine runL 147 (.bool true) rfl (by rfl) (by go_simp) ?_
   simp only [Ls]
   refine callL 148 rfl (by rfl) (fun K hK => wp_callF 8 #[] (by go_simp) (lives09_any _ (gl.out _ hW)) ?_)
   rintro e w11 ⟨rfl, bx⟩
   replace hp3 := blB hp3 bx
   replace hp4 := blB hp4 bx
   replace hp14 := blB hp14 bx
   replace hp15 := blB hp15 bx
   replace hW := trB hW hB0 bx
   clear bx
   refine ⟨_, rfl, hK.out _ _ ?_⟩
   clear hK K
   simp only [Ls]
   refine runL 149 (.bool true) rfl (by rfl) (by go_simp) ?_
   simp only [Ls]
   refine runL 6 (.bool true) rfl (by rfl) (by go_simp) ?_
   simp only [Ls]
   refine nilL ?_
   go_wp2_with fail
   go_ret
   exact ⟨rfl, hW⟩
  ·
   subst hn
   obtain ⟨j, hj0⟩ : ∃ j, mI l = j := ⟨_, rfl⟩
   have hll : l.length = 48 := by omega
   by_cases hj : j < 4096
   ·
    obtain ⟨s2, hs20⟩ : ∃ j, mS l = j := ⟨_, rfl⟩
    obtain ⟨c2, hc20⟩ : ∃ j, mC l = j := ⟨_, rfl⟩
    obtain ⟨d2, hd20⟩ : ∃ j, mD l = j := ⟨_, rfl⟩
    have hs2 : s2 < 4294967296 := by rw [← hs20]; exact mS_lt l (by omega) hlb
    have hd2l : d2.length = 32 := by rw [← hd20, mD, List.length_drop]; omega
    have hd2b : Byt d2 := by rw [← hd20]; exact hlb.drop 16
    have hm0 : msg j s2 c2 d2 = l := by rw [← hj0, ← hs20, ← hc20, ← hd20]; exact msg_of l hll hlb
    have hjq := Lib.hid hj0
    have hs2q := Lib.hid hs20
    have hc2q := Lib.hid hc20
    have hd2q := Lib.hid hd20
    have hmq := Lib.hid hm0
    clear hj0 hs20 hc20 hd20 hm0
    go_upto_region 10 with fail
    refine wl_lit ?_
    refine runL 79 (.slice A 48 cc) rfl (by rfl) (by go_simp) ?_
    simp only [Ls]
    refine callL 80 rfl (by rfl) (fun K hK => wp_callF 12 #[.slice A 48 cc] (by go_simp) (sparse_ok l hll hlb A cc _ hnc _ (rd.out _ hW) (Nat.le_trans hBB (Nat.le_trans hB0 hW.size)) j s2 c2 d2 hjq.out hj hs2q.out hc2q.out hd2q.out) ?_)
    rintro e w6 ⟨rfl, bx⟩
    replace hp3 := blB hp3 bx
    replace hp4 := blB hp4 bx
    replace hW := trB hW hB0 bx
    clear bx
    refine ⟨_, rfl, hK.out _ _ ?_⟩
    clear hK K
    simp only [Ls]
    refine runL 78 (.tuple #[.int .i64 (j : Int), .agg (noV s2 c2), .agg (va .u8 d2), .int .i64 0]) rfl (by rfl) (by go_simp) ?_
    simp only [Ls]
    refine runL 81 (.int .i64 (j : Int)) rfl (by rfl) (by go_simp) ?_
    simp only [Ls]
    refine runL 82 (.agg (noV s2 c2)) rfl (by rfl) (by go_simp) ?_
    simp only [Ls]
    refine runL 83 (.agg (va .u8 d2)) rfl (by rfl) (by go_simp) ?_
    simp only [Ls]
    refine runL 84 (.int .i64 0) rfl (by rfl) (by go_simp) ?_
    simp only [Ls]
    refine runWL 14 (.pointer (some ⟨w6.heap.size, 0, none⟩)) (w6.alloc (.cells (noV 0 0) 30)) rfl (by rfl) (exec_allocV 30 rfl _ (zv_Nonce _)) ?_
    simp only [Ls]
    have lp3_p14 := hp3.lt
    have lp4_p14 := hp4.lt
    have lw_p14 := Nat.le_trans hB0 hW.size
    have hp14 := Blk.new w6 30 (noV 0 0)
    have bx := bAl w6 (.cells (noV 0 0) 30)
    replace hp3 := blB hp3 bx
    replace hp4 := blB hp4 bx
    replace hW := trB hW hB0 bx
    clear bx
    generalize w6.alloc (.cells (noV 0 0) 30) = w7 at *
    generalize w6.heap.size = p14 at hp14 lw_p14 lp3_p14 lp4_p14 ⊢
    refine runWL 15 (.pointer (some ⟨w7.heap.size, 0, none⟩)) (w7.alloc (.cells (va .u8 z) 33)) rfl (by rfl) (exec_allocV 33 rfl _ (zv_blkz z hzq.out _)) ?_
    simp only [Ls]
    have lp3_p15 := hp3.lt
    have lp4_p15 := hp4.lt
    have lp14_p15 := hp14.lt
    have lw_p15 := Nat.le_trans hB0 hW.size
    have hp15 := Blk.new w7 33 (va .u8 z)
    have bx := bAl w7 (.cells (va .u8 z) 33)
    replace hp3 := blB hp3 bx
    replace hp4 := blB hp4 bx
    replace hp14 := blB hp14 bx
    replace hW := trB hW hB0 bx
    clear bx
    generalize w7.alloc (.cells (va .u8 z) 33) = w8 at *
    generalize w7.heap.size = p15 at hp15 lw_p15 lp3_p15 lp4_p15 lp14_p15 ⊢
    refine runL 13 (.int .i64 (j : Int)) rfl (by rfl) (by go_simp) ?_
    simp only [Ls]
    refine runSL (w8.setRow p14 (noV s2 c2)) rfl (by rfl) (exec_storeRow 30 (.tmp 14) (.tmp 82) rfl p14 rfl (noV s2 c2) rfl 30 (noV 0 0) hp14 (sz_eq (noV_sz _ _) (noV_sz _ _)) (noV_sz _ _) (noV_one _ _)) ?_
    replace hp3 := hp3.rowFar (show p14 ≠ p3 from (by omega)) (noV s2 c2)
    replace hp4 := hp4.rowFar (show p14 ≠ p4 from (by omega)) (noV s2 c2)
    replace hp15 := hp15.rowFar (show p14 ≠ p15 from (by omega)) (noV s2 c2)
    replace hp14 := hp14.row (noV s2 c2)
    replace hW := below_setRow hW lw_p14 (noV s2 c2)
    generalize w8.setRow p14 (noV s2 c2) = w9 at *
    refine runSL (w9.setRow p15 (va .u8 d2)) rfl (by rfl) (exec_storeRow 33 (.tmp 15) (.tmp 83) rfl p15 rfl (va .u8 d2) rfl 33 (va .u8 z) hp15 (sz_eq (sz_api_Block _ hzl) (sz_api_Block _ hd2l)) (sz_api_Block _ hd2l) (va_ones .u8 _)) ?_
    replace hp3 := hp3.rowFar (show p15 ≠ p3 from (by omega)) (va .u8 d2)
    replace hp4 := hp4.rowFar (show p15 ≠ p4 from (by omega)) (va .u8 d2)
    replace hp14 := hp14.rowFar (show p15 ≠ p14 from (by omega)) (va .u8 d2)
    replace hp15 := hp15.row (va .u8 d2)
    replace hW := below_setRow hW lw_p15 (va .u8 d2)
    generalize w9.setRow p15 (va .u8 d2) = w10 at *
    refine runL 16 (.int .i64 0) rfl (by rfl) (by go_simp) ?_
    simp only [Ls]
    refine nilL ?_
    go_upto_region 11 with fail
    refine wl_lit ?_
    refine runL 85 (.int .i64 0) rfl (by rfl) (by go_simp) ?_
    simp only [Ls]
    refine runL 86 (.bool true) rfl (by rfl) (by go_simp) ?_
    simp only [Ls]
    refine nilL ?_
    go_upto_region 12 with fail
    refine wl_lit ?_
    refine runL 88 (.int .i64 (j : Int)) rfl (by rfl) (by go_simp) ?_
    simp only [Ls]
    refine runL 89 (.agg (noV s2 c2)) rfl (by rfl) (exec_row 30 (.tmp 14) rfl p14 rfl 30 (noV s2 c2) _ hp14 (by exact Tryd.underlying30) rfl (noV_sz _ _)) ?_
    simp only [Ls]
    refine runL 90 (.agg (va .u8 d2)) rfl (by rfl) (exec_row 33 (.tmp 15) rfl p15 rfl 33 (va .u8 d2) _ hp15 (by exact Tryd.underlying33) rfl (sz_api_Block _ hd2l)) ?_
    simp only [Ls]
    refine callL 91 rfl (by rfl) (fun K hK => wp_callF 9 #[.int .i64 (j : Int), .agg (noV s2 c2), .agg (va .u8 d2)] (by go_simp) (smessage_to l j s2 c2 d2 hmq.out hj hs2 hd2l hd2b _) ?_)
    rintro e w11 ⟨gq, rfl, hgq, hgg, bx⟩
    have lp3_gq : p3 < gq := Nat.lt_of_lt_of_le hp3.lt hgg
    have lp4_gq : p4 < gq := Nat.lt_of_lt_of_le hp4.lt hgg
    have lp14_gq : p14 < gq := Nat.lt_of_lt_of_le hp14.lt hgg
    have lp15_gq : p15 < gq := Nat.lt_of_lt_of_le hp15.lt hgg
    have lw_gq : B0 ≤ gq := Nat.le_trans (Nat.le_trans hB0 hW.size) hgg
    replace hp3 := blB hp3 bx
    replace hp4 := blB hp4 bx
    replace hp14 := blB hp14 bx
    replace hp15 := blB hp15 bx
    replace hW := trB hW hB0 bx
    clear hgg
    clear bx
    refine ⟨_, rfl, hK.out _ _ ?_⟩
    clear hK K
    simp only [Ls]
    refine runL 87 (.tuple #[.slice (some ⟨gq, 0, none⟩) 48 48, .int .i64 0]) rfl (by rfl) (by go_simp) ?_
    simp only [Ls]
    refine runL 92 (.slice (some ⟨gq, 0, none⟩) 48 48) rfl (by rfl) (by go_simp) ?_
    simp only [Ls]
    refine runL 93 (.int .i64 0) rfl (by rfl) (by go_simp) ?_
    simp only [Ls]
    refine runL 17 (.slice (some ⟨gq, 0, none⟩) 48 48) rfl (by rfl) (by go_simp) ?_
    simp only [Ls]
    refine runL 18 (.int .i64 0) rfl (by rfl) (by go_simp) ?_
    simp only [Ls]
    refine nilL ?_
    go_upto_region 13 with fail
    refine wl_lit ?_
    refine runL 94 (.slice (some ⟨gq, 0, none⟩) 48 48) rfl (by rfl) (by go_simp) ?_
    simp only [Ls]
    refine runL 95 (.int .i64 0) rfl (by rfl) (by go_simp) ?_
    simp only [Ls]
    refine runL 96 (.slice A 48 cc) rfl (by rfl) (by go_simp) ?_
    simp only [Ls]
    refine callL 97 rfl (by rfl) (fun K hK => wp_callF 11 #[.slice (some ⟨gq, 0, none⟩) 48 48, .int .i64 0, .slice A 48 cc, .int .i64 0] (by go_simp) (same09_any l _ 48 _ A cc _ 0 _ (hgq.readsAll (Nat.lt_succ_self _) hll) hgq.lt (rd.out _ hW) (Nat.le_trans hBB (Nat.le_trans hB0 hW.size))) ?_)
    rintro e w12 ⟨rfl, bx⟩
    replace hp3 := blB hp3 bx
    replace hp4 := blB hp4 bx
    replace hp14 := blB hp14 bx
    replace hp15 := blB hp15 bx
    replace hgq := hgq.below bx hgq.lt
    replace hW := trB hW hB0 bx
    clear bx
    refine ⟨_, rfl, hK.out _ _ ?_⟩
    clear hK K
    simp only [Ls]
    refine runL 98 (.bool true) rfl (by rfl) (by go_simp) ?_
    simp only [Ls]
    refine callL 99 rfl (by rfl) (fun K hK => wp_callF 8 #[] (by go_simp) (lives09_any _ (gl.out _ hW)) ?_)
    rintro e w13 ⟨rfl, bx⟩
    replace hp3 := blB hp3 bx
    replace hp4 := blB hp4 bx
    replace hp14 := blB hp14 bx
    replace hp15 := blB hp15 bx
    replace hgq := hgq.below bx hgq.lt
    replace hW := trB hW hB0 bx
    clear bx
    refine ⟨_, rfl, hK.out _ _ ?_⟩
    clear hK K
    simp only [Ls]
    refine runL 100 (.bool true) rfl (by rfl) (by go_simp) ?_
    simp only [Ls]
    refine runL 6 (.bool true) rfl (by rfl) (by go_simp) ?_
    simp only [Ls]
    refine nilL ?_
    go_wp2_with fail
    go_ret
    exact ⟨rfl, hW⟩
   ·
    have hj3 : j < 4294967296 := by rw [← hj0]; exact mI_lt l (by omega) hlb
    replace hj : 4096 ≤ j := by omega
    have hfar := mI_far l hll hlb (by omega)
    obtain ⟨ad, rfl, -, -⟩ := hr.num (i := 0) (by omega)
    have hjq := Lib.hid hj0
    obtain ⟨b0, hb0⟩ : ∃ j, l.getD 0 0 = j := ⟨_, rfl⟩
    obtain ⟨b1, hb1⟩ : ∃ j, l.getD 1 0 = j := ⟨_, rfl⟩
    obtain ⟨b2, hb2⟩ : ∃ j, l.getD 2 0 = j := ⟨_, rfl⟩
    rw [hb0, hb1, hb2] at hfar
    have hb0q := Lib.hid hb0
    have hb1q := Lib.hid hb1
    have hb2q := Lib.hid hb2
    clear hj0 hb0 hb1 hb2
    by_cases h0 : 0 < b0
    ·
     have h0I : (0 : Int) < (b0 : Int) := by omega
     go_upto_region 10 with fail
     refine wl_lit ?_
     refine runL 79 (.slice (some ad) 48 cc) rfl (by rfl) (by go_simp) ?_
     simp only [Ls]
     refine callL 80 rfl (by rfl) (fun K hK => wp_callF 12 #[.slice (some ad) 48 cc] (by go_simp) (sparse_farz z hzq.out l hll hlb (some ad) cc _ hnc _ (rd.out _ hW) (Nat.le_trans hBB (Nat.le_trans hB0 hW.size)) j hjq.out hj hj3) ?_)
     rintro e w6 ⟨rfl, bx⟩
     replace hp3 := blB hp3 bx
     replace hp4 := blB hp4 bx
     replace hW := trB hW hB0 bx
     clear bx
     refine ⟨_, rfl, hK.out _ _ ?_⟩
     clear hK K
     simp only [Ls]
     refine runL 78 (.tuple #[.int .i64 0, .agg (noV 0 0), .agg (va .u8 z), .int .i64 1]) rfl (by rfl) (by go_simp) ?_
     simp only [Ls]
     refine runL 81 (.int .i64 0) rfl (by rfl) (by go_simp) ?_
     simp only [Ls]
     refine runL 82 (.agg (noV 0 0)) rfl (by rfl) (by go_simp) ?_
     simp only [Ls]
     refine runL 83 (.agg (va .u8 z)) rfl (by rfl) (by go_simp) ?_
     simp only [Ls]
     refine runL 84 (.int .i64 1) rfl (by rfl) (by go_simp) ?_
     simp only [Ls]
     refine runWL 14 (.pointer (some ⟨w6.heap.size, 0, none⟩)) (w6.alloc (.cells (noV 0 0) 30)) rfl (by rfl) (exec_allocV 30 rfl _ (zv_Nonce _)) ?_
     simp only [Ls]
     have lp3_p14 := hp3.lt
     have lp4_p14 := hp4.lt
     have lw_p14 := Nat.le_trans hB0 hW.size
     have hp14 := Blk.new w6 30 (noV 0 0)
     have bx := bAl w6 (.cells (noV 0 0) 30)
     replace hp3 := blB hp3 bx
     replace hp4 := blB hp4 bx
     replace hW := trB hW hB0 bx
     clear bx
     generalize w6.alloc (.cells (noV 0 0) 30) = w7 at *
     generalize w6.heap.size = p14 at hp14 lw_p14 lp3_p14 lp4_p14 ⊢
     refine runWL 15 (.pointer (some ⟨w7.heap.size, 0, none⟩)) (w7.alloc (.cells (va .u8 z) 33)) rfl (by rfl) (exec_allocV 33 rfl _ (zv_blkz z hzq.out _)) ?_
     simp only [Ls]
     have lp3_p15 := hp3.lt
     have lp4_p15 := hp4.lt
     have lp14_p15 := hp14.lt
     have lw_p15 := Nat.le_trans hB0 hW.size
     have hp15 := Blk.new w7 33 (va .u8 z)
     have bx := bAl w7 (.cells (va .u8 z) 33)
     replace hp3 := blB hp3 bx
     replace hp4 := blB hp4 bx
     replace hp14 := blB hp14 bx
     replace hW := trB hW hB0 bx
     clear bx
     generalize w7.alloc (.cells (va .u8 z) 33) = w8 at *
     generalize w7.heap.size = p15 at hp15 lw_p15 lp3_p15 lp4_p15 lp14_p15 ⊢
     refine runL 13 (.int .i64 0) rfl (by rfl) (by go_simp) ?_
     simp only [Ls]
     refine runSL (w8.setRow p14 (noV 0 0)) rfl (by rfl) (exec_storeRow 30 (.tmp 14) (.tmp 82) rfl p14 rfl (noV 0 0) rfl 30 (noV 0 0) hp14 (sz_eq (noV_sz _ _) (noV_sz _ _)) (noV_sz _ _) (noV_one _ _)) ?_
     replace hp3 := hp3.rowFar (show p14 ≠ p3 from (by omega)) (noV 0 0)
     replace hp4 := hp4.rowFar (show p14 ≠ p4 from (by omega)) (noV 0 0)
     replace hp15 := hp15.rowFar (show p14 ≠ p15 from (by omega)) (noV 0 0)
     replace hp14 := hp14.row (noV 0 0)
     replace hW := below_setRow hW lw_p14 (noV 0 0)
     generalize w8.setRow p14 (noV 0 0) = w9 at *
     refine runSL (w9.setRow p15 (va .u8 z)) rfl (by rfl) (exec_storeRow 33 (.tmp 15) (.tmp 83) rfl p15 rfl (va .u8 z) rfl 33 (va .u8 z) hp15 (sz_eq (sz_api_Block _ hzl) (sz_api_Block _ hzl)) (sz_api_Block _ hzl) (va_ones .u8 _)) ?_
     replace hp3 := hp3.rowFar (show p15 ≠ p3 from (by omega)) (va .u8 z)
     replace hp4 := hp4.rowFar (show p15 ≠ p4 from (by omega)) (va .u8 z)
     replace hp14 := hp14.rowFar (show p15 ≠ p14 from (by omega)) (va .u8 z)
     replace hp15 := hp15.row (va .u8 z)
     replace hW := below_setRow hW lw_p15 (va .u8 z)
     generalize w9.setRow p15 (va .u8 z) = w10 at *
     refine runL 16 (.int .i64 1) rfl (by rfl) (by go_simp) ?_
     simp only [Ls]
     refine nilL ?_
     go_upto_region 11 with fail
     refine wl_lit ?_
     refine runL 85 (.int .i64 1) rfl (by rfl) (by go_simp) ?_
     simp only [Ls]
     refine runL 86 (.bool false) rfl (by rfl) (by go_simp) ?_
     simp only [Ls]
     refine nilL ?_
     go_upto_region 14 with fail
     refine wl_lit ?_
     refine runL 19 (.int .i64 1) rfl (by rfl) (by go_simp) ?_
     simp only [Ls]
     refine nilL ?_
     go_upto_region 15 with fail
     refine wl_lit ?_
     refine runL 101 (.slice (some ad) 48 cc) rfl (by rfl) (by go_simp) ?_
     simp only [Ls]
     refine runL 102 (.int .i64 48) rfl (by rfl) (by go_simp) ?_
     simp only [Ls]
     refine runL 103 (.bool false) rfl (by rfl) (by go_simp) ?_
     simp only [Ls]
     refine nilL ?_
     go_upto_region 17 with fail
     refine wl_lit ?_
     refine runL 104 (.slice (some ad) 48 cc) rfl (by rfl) (by go_simp) ?_
     simp only [Ls]
     refine runL 105 (.int .i64 48) rfl (by rfl) (by go_simp) ?_
     simp only [Ls]
     refine runL 106 (.bool false) rfl (by rfl) (by go_simp) ?_
     simp only [Ls]
     refine nilL ?_
     go_upto_region 19 with fail
     refine wl_lit ?_
     refine runL 107 (.int .i64 1) rfl (by rfl) (by go_simp) ?_
     simp only [Ls]
     refine runL 108 (.int .i64 1) rfl (by rfl) (by go_simp) ?_
     simp only [Ls]
     refine runL 109 (.bool true) rfl (by rfl) (by go_simp) ?_
     simp only [Ls]
     refine runL 110 (.bool true) rfl (by rfl) (by go_simp) ?_
     simp only [Ls]
     refine runL 111 (.slice (some ad) 48 cc) rfl (by rfl) (by go_simp) ?_
     simp only [Ls]
     refine runL 112 (.int .i64 48) rfl (by rfl) (by go_simp) ?_
     simp only [Ls]
     refine runL 113 (.bool false) rfl (by rfl) (by go_simp) ?_
     simp only [Ls]
     refine runL 114 (.bool false) rfl (by rfl) (by go_simp) ?_
     simp only [Ls]
     refine runL 115 (.slice (some ad) 48 cc) rfl (by rfl) (by go_simp) ?_
     simp only [Ls]
     refine runL 116 (.pointer (some (ad.add 0))) rfl (by rfl) (by go_simp) ?_
     simp only [Ls]
     refine runL 117 (.int .u8 ((b0 : Nat) : Int)) rfl (by rfl) (exec_cellA9 5 (.tmp 116) rfl (ad.add 0) rfl (.int .u8 ((b0 : Nat) : Int)) _ Tryd.underlying5 rfl (by rw [← hb0q.out]; exact (rd.out _ hW).numA (by decide))) ?_
     simp only [Ls]
     refine runL 118 (.bool true) rfl (by rfl) (by go_simp) ?_
     simp only [Ls]
     refine runL 119 (.bool true) rfl (by rfl) (by go_simp) ?_
     simp only [Ls]
     refine runL 120 (.bool true) rfl (by rfl) (by go_simp) ?_
     simp only [Ls]
     refine skipL 121 rfl (by kernel_rfl) ?_
     simp only [Ls]
     refine skipL 122 rfl (by kernel_rfl) ?_
     simp only [Ls]
     refine skipL 123 rfl (by kernel_rfl) ?_
     simp only [Ls]
     refine skipL 124 rfl (by kernel_rfl) ?_
     simp only [Ls]
     refine runL 125 (.bool true) rfl (by rfl) (by go_simp) ?_
     simp only [Ls]
     refine runL 126 (.bool true) rfl (by rfl) (by go_simp) ?_
     simp only [Ls]
     refine skipL 127 rfl (by kernel_rfl) ?_
     simp only [Ls]
     refine skipL 128 rfl (by kernel_rfl) ?_
     simp only [Ls]
     refine skipL 129 rfl (by kernel_rfl) ?_
     simp only [Ls]
     refine skipL 130 rfl (by kernel_rfl) ?_
     simp only [Ls]
     refine runL 131 (.bool true) rfl (by rfl) (by go_simp) ?_
     simp only [Ls]
     refine runL 132 (.bool true) rfl (by rfl) (by go_simp) ?_
     simp only [Ls]
     refine runL 133 (.bool true) rfl (by rfl) (by go_simp) ?_
     simp only [Ls]
     refine runL 134 (.int .i64 0) rfl (by rfl) (by go_simp) ?_
     simp only [Ls]
     refine runL 135 (.bool true) rfl (by rfl) (by go_simp) ?_
     simp only [Ls]
     refine runL 136 (.bool true) rfl (by rfl) (by go_simp) ?_
     simp only [Ls]
     refine runL 137 (.bool true) rfl (by rfl) (by go_simp) ?_
     simp only [Ls]
     refine runL 138 (.agg (noV 0 0)) rfl (by rfl) (exec_row 30 (.tmp 14) rfl p14 rfl 30 (noV 0 0) _ hp14 (by exact Tryd.underlying30) rfl (noV_sz _ _)) ?_
     simp only [Ls]
     refine runL 139 (.agg (noV 0 0)) rfl (by rfl) (exec_build 30 _ rfl (noV 0 0) (by kernel_rfl)) ?_
     simp only [Ls]
     refine runL 140 (.bool true) rfl (by rfl) (exec_eqV 30 (by kernel_rfl) (.tmp 138) (.tmp 139) _ rfl (noV 0 0) (noV 0 0) rfl rfl true (by rw [eqNoD]; simp)) ?_
     simp only [Ls]
     refine runL 141 (.bool true) rfl (by rfl) (by go_simp) ?_
     simp only [Ls]
     refine runL 142 (.bool true) rfl (by rfl) (by go_simp) ?_
     simp only [Ls]
     refine runL 143 (.agg (va .u8 z)) rfl (by rfl) (exec_row 33 (.tmp 15) rfl p15 rfl 33 (va .u8 z) _ hp15 (by exact Tryd.underlying33) rfl (sz_api_Block _ hzl)) ?_
     simp only [Ls]
     refine runL 144 (.agg (va .u8 z)) rfl (by rfl) (exec_build 33 _ rfl (va .u8 z) (by rw [← hzq.out]; kernel_rfl)) ?_
     simp only [Ls]
     refine runL 145 (.bool true) rfl (by rfl) (exec_eqB 33 32 (by kernel_rfl) (by kernel_rfl) (.tmp 143) (.tmp 144) _ rfl z z hzl hzl rfl rfl true (by simp)) ?_
     simp only [Ls]
     refine runL 146 (.bool true) rfl (by rfl) (by go_simp) ?_
     simp only [Ls]
     refine runL 147 (.bool true) rfl (by rfl) (by go_simp) ?_
     simp only [Ls]
     refine callL 148 rfl (by rfl) (fun K hK => wp_callF 8 #[] (by go_simp) (lives09_any _ (gl.out _ hW)) ?_)
     rintro e w11 ⟨rfl, bx⟩
     replace hp3 := blB hp3 bx
     replace hp4 := blB hp4 bx
     replace hp14 := blB hp14 bx
     replace hp15 := blB hp15 bx
     replace hW := trB hW hB0 bx
     clear bx
     refine ⟨_, rfl, hK.out _ _ ?_⟩
     clear hK K
     simp only [Ls]
     refine runL 149 (.bool true) rfl (by rfl) (by go_simp) ?_
     simp only [Ls]
     refine runL 6 (.bool true) rfl (by rfl) (by go_simp) ?_
     simp only [Ls]
     refine nilL ?_
     go_wp2_with fail
     go_ret
     exact ⟨rfl, hW⟩
    have h0I : ¬ (0 : Int) < (b0 : Int) := by omega
    by_cases h1 : 0 < b1
    ·
     have h1I : (0 : Int) < (b1 : Int) := by omega
     go_upto_region 10 with fail
     refine wl_lit ?_
     refine runL 79 (.slice (some ad) 48 cc) rfl (by rfl) (by go_simp) ?_
     simp only [Ls]
     refine callL 80 rfl (by rfl) (fun K hK => wp_callF 12 #[.slice (some ad) 48 cc] (by go_simp) (sparse_farz z hzq.out l hll hlb (some ad) cc _ hnc _ (rd.out _ hW) (Nat.le_trans hBB (Nat.le_trans hB0 hW.size)) j hjq.out hj hj3) ?_)
     rintro e w6 ⟨rfl, bx⟩
     replace hp3 := blB hp3 bx
     replace hp4 := blB hp4 bx
     replace hW := trB hW hB0 bx
     clear bx
     refine ⟨_, rfl, hK.out _ _ ?_⟩
     clear hK K
     simp only [Ls]
     refine runL 78 (.tuple #[.int .i64 0, .agg (noV 0 0), .agg (va .u8 z), .int .i64 1]) rfl (by rfl) (by go_simp) ?_
     simp only [Ls]
     refine runL 81 (.int .i64 0) rfl (by rfl) (by go_simp) ?_
     simp only [Ls]
     refine runL 82 (.agg (noV 0 0)) rfl (by rfl) (by go_simp) ?_
     simp only [Ls]
     refine runL 83 (.agg (va .u8 z)) rfl (by rfl) (by go_simp) ?_
     simp only [Ls]
     refine runL 84 (.int .i64 1) rfl (by rfl) (by go_simp) ?_
     simp only [Ls]
     refine runWL 14 (.pointer (some ⟨w6.heap.size, 0, none⟩)) (w6.alloc (.cells (noV 0 0) 30)) rfl (by rfl) (exec_allocV 30 rfl _ (zv_Nonce _)) ?_
     simp only [Ls]
     have lp3_p14 := hp3.lt
     have lp4_p14 := hp4.lt
     have lw_p14 := Nat.le_trans hB0 hW.size
     have hp14 := Blk.new w6 30 (noV 0 0)
     have bx := bAl w6 (.cells (noV 0 0) 30)
     replace hp3 := blB hp3 bx
     replace hp4 := blB hp4 bx
     replace hW := trB hW hB0 bx
     clear bx
     generalize w6.alloc (.cells (noV 0 0) 30) = w7 at *
     generalize w6.heap.size = p14 at hp14 lw_p14 lp3_p14 lp4_p14 ⊢
     refine runWL 15 (.pointer (some ⟨w7.heap.size, 0, none⟩)) (w7.alloc (.cells (va .u8 z) 33)) rfl (by rfl) (exec_allocV 33 rfl _ (zv_blkz z hzq.out _)) ?_
     simp only [Ls]
     have lp3_p15 := hp3.lt
     have lp4_p15 := hp4.lt
     have lp14_p15 := hp14.lt
     have lw_p15 := Nat.le_trans hB0 hW.size
     have hp15 := Blk.new w7 33 (va .u8 z)
     have bx := bAl w7 (.cells (va .u8 z) 33)
     replace hp3 := blB hp3 bx
     replace hp4 := blB hp4 bx
     replace hp14 := blB hp14 bx
     replace hW := trB hW hB0 bx
     clear bx
     generalize w7.alloc (.cells (va .u8 z) 33) = w8 at *
     generalize w7.heap.size = p15 at hp15 lw_p15 lp3_p15 lp4_p15 lp14_p15 ⊢
     refine runL 13 (.int .i64 0) rfl (by rfl) (by go_simp) ?_
     simp only [Ls]
     refine runSL (w8.setRow p14 (noV 0 0)) rfl (by rfl) (exec_storeRow 30 (.tmp 14) (.tmp 82) rfl p14 rfl (noV 0 0) rfl 30 (noV 0 0) hp14 (sz_eq (noV_sz _ _) (noV_sz _ _)) (noV_sz _ _) (noV_one _ _)) ?_
     replace hp3 := hp3.rowFar (show p14 ≠ p3 from (by omega)) (noV 0 0)
     replace hp4 := hp4.rowFar (show p14 ≠ p4 from (by omega)) (noV 0 0)
     replace hp15 := hp15.rowFar (show p14 ≠ p15 from (by omega)) (noV 0 0)
     replace hp14 := hp14.row (noV 0 0)
     replace hW := below_setRow hW lw_p14 (noV 0 0)
     generalize w8.setRow p14 (noV 0 0) = w9 at *
     refine runSL (w9.setRow p15 (va .u8 z)) rfl (by rfl) (exec_storeRow 33 (.tmp 15) (.tmp 83) rfl p15 rfl (va .u8 z) rfl 33 (va .u8 z) hp15 (sz_eq (sz_api_Block _ hzl) (sz_api_Block _ hzl)) (sz_api_Block _ hzl) (va_ones .u8 _)) ?_
     replace hp3 := hp3.rowFar (show p15 ≠ p3 from (by omega)) (va .u8 z)
     replace hp4 := hp4.rowFar (show p15 ≠ p4 from (by omega)) (va .u8 z)
     replace hp14 := hp14.rowFar (show p15 ≠ p14 from (by omega)) (va .u8 z)
     replace hp15 := hp15.row (va .u8 z)
     replace hW := below_setRow hW lw_p15 (va .u8 z)
     generalize w9.setRow p15 (va .u8 z) = w10 at *
     refine runL 16 (.int .i64 1) rfl (by rfl) (by go_simp) ?_
     simp only [Ls]
     refine nilL ?_
     go_upto_region 11 with fail
     refine wl_lit ?_
     refine runL 85 (.int .i64 1) rfl (by rfl) (by go_simp) ?_
     simp only [Ls]
     refine runL 86 (.bool false) rfl (by rfl) (by go_simp) ?_
     simp only [Ls]
     refine nilL ?_
     go_upto_region 14 with fail
     refine wl_lit ?_
     refine runL 19 (.int .i64 1) rfl (by rfl) (by go_simp) ?_
     simp only [Ls]
     refine nilL ?_
     go_upto_region 15 with fail
     refine wl_lit ?_
     refine runL 101 (.slice (some ad) 48 cc) rfl (by rfl) (by go_simp) ?_
     simp only [Ls]
     refine runL 102 (.int .i64 48) rfl (by rfl) (by go_simp) ?_
     simp only [Ls]
     refine runL 103 (.bool false) rfl (by rfl) (by go_simp) ?_
     simp only [Ls]
     refine nilL ?_
     go_upto_region 17 with fail
     refine wl_lit ?_
     refine runL 104 (.slice (some ad) 48 cc) rfl (by rfl) (by go_simp) ?_
     simp only [Ls]
     refine runL 105 (.int .i64 48) rfl (by rfl) (by go_simp) ?_
     simp only [Ls]
     refine runL 106 (.bool false) rfl (by rfl) (by go_simp) ?_
     simp only [Ls]
     refine nilL ?_
     go_upto_region 19 with fail
     refine wl_lit ?_
     refine runL 107 (.int .i64 1) rfl (by rfl) (by go_simp) ?_
     simp only [Ls]
     refine runL 108 (.int .i64 1) rfl (by rfl) (by go_simp) ?_
     simp only [Ls]
     refine runL 109 (.bool true) rfl (by rfl) (by go_simp) ?_
     simp only [Ls]
     refine runL 110 (.bool true) rfl (by rfl) (by go_simp) ?_
     simp only [Ls]
     refine runL 111 (.slice (some ad) 48 cc) rfl (by rfl) (by go_simp) ?_
     simp only [Ls]
     refine runL 112 (.int .i64 48) rfl (by rfl) (by go_simp) ?_
     simp only [Ls]
     refine runL 113 (.bool false) rfl (by rfl) (by go_simp) ?_
     simp only [Ls]
     refine runL 114 (.bool false) rfl (by rfl) (by go_simp) ?_
     simp only [Ls]
     refine runL 115 (.slice (some ad) 48 cc) rfl (by rfl) (by go_simp) ?_
     simp only [Ls]
     refine runL 116 (.pointer (some (ad.add 0))) rfl (by rfl) (by go_simp) ?_
     simp only [Ls]
     refine runL 117 (.int .u8 ((b0 : Nat) : Int)) rfl (by rfl) (exec_cellA9 5 (.tmp 116) rfl (ad.add 0) rfl (.int .u8 ((b0 : Nat) : Int)) _ Tryd.underlying5 rfl (by rw [← hb0q.out]; exact (rd.out _ hW).numA (by decide))) ?_
     simp only [Ls]
     refine runL 118 (.bool false) rfl (by rfl) (by go_simp) ?_
     simp only [Ls]
     refine runL 119 (.bool false) rfl (by rfl) (by go_simp) ?_
     simp only [Ls]
     refine runL 120 (.bool false) rfl (by rfl) (by go_simp) ?_
     simp only [Ls]
     refine runL 121 (.slice (some ad) 48 cc) rfl (by rfl) (by go_simp) ?_
     simp only [Ls]
     refine runL 122 (.pointer (some (ad.add 1))) rfl (by rfl) (by go_simp) ?_
     simp only [Ls]
     refine runL 123 (.int .u8 ((b1 : Nat) : Int)) rfl (by rfl) (exec_cellA9 5 (.tmp 122) rfl (ad.add 1) rfl (.int .u8 ((b1 : Nat) : Int)) _ Tryd.underlying5 rfl (by rw [← hb1q.out]; exact (rd.out _ hW).numA (by decide))) ?_
     simp only [Ls]
     refine runL 124 (.bool true) rfl (by rfl) (by go_simp) ?_
     simp only [Ls]
     refine runL 125 (.bool true) rfl (by rfl) (by go_simp) ?_
     simp only [Ls]
     refine runL 126 (.bool true) rfl (by rfl) (by go_simp) ?_
     simp only [Ls]
     refine skipL 127 rfl (by kernel_rfl) ?_
     simp only [Ls]
     refine skipL 128 rfl (by kernel_rfl) ?_
     simp only [Ls]
     refine skipL 129 rfl (by kernel_rfl) ?_
     simp only [Ls]
     refine skipL 130 rfl (by kernel_rfl) ?_
     simp only [Ls]
     refine runL 131 (.bool true) rfl (by rfl) (by go_simp) ?_
     simp only [Ls]
     refine runL 132 (.bool true) rfl (by rfl) (by go_simp) ?_
     simp only [Ls]
     refine runL 133 (.bool true) rfl (by rfl) (by go_simp) ?_
     simp only [Ls]
     refine runL 134 (.int .i64 0) rfl (by rfl) (by go_simp) ?_
     simp only [Ls]
     refine runL 135 (.bool true) rfl (by rfl) (by go_simp) ?_
     simp only [Ls]
     refine runL 136 (.bool true) rfl (by rfl) (by go_simp) ?_
     simp only [Ls]
     refine runL 137 (.bool true) rfl (by rfl) (by go_simp) ?_
     simp only [Ls]
     refine runL 138 (.agg (noV 0 0)) rfl (by rfl) (exec_row 30 (.tmp 14) rfl p14 rfl 30 (noV 0 0) _ hp14 (by exact Tryd.underlying30) rfl (noV_sz _ _)) ?_
     simp only [Ls]
     refine runL 139 (.agg (noV 0 0)) rfl (by rfl) (exec_build 30 _ rfl (noV 0 0) (by kernel_rfl)) ?_
     simp only [Ls]
     refine runL 140 (.bool true) rfl (by rfl) (exec_eqV 30 (by kernel_rfl) (.tmp 138) (.tmp 139) _ rfl (noV 0 0) (noV 0 0) rfl rfl true (by rw [eqNoD]; simp)) ?_
     simp only [Ls]
     refine runL 141 (.bool true) rfl (by rfl) (by go_simp) ?_
     simp only [Ls]
     refine runL 142 (.bool true) rfl (by rfl) (by go_simp) ?_
     simp only [Ls]
     refine runL 143 (.agg (va .u8 z)) rfl (by rfl) (exec_row 33 (.tmp 15) rfl p15 rfl 33 (va .u8 z) _ hp15 (by exact Tryd.underlying33) rfl (sz_api_Block _ hzl)) ?_
     simp only [Ls]
     refine runL 144 (.agg (va .u8 z)) rfl (by rfl) (exec_build 33 _ rfl (va .u8 z) (by rw [← hzq.out]; kernel_rfl)) ?_
     simp only [Ls]
     refine runL 145 (.bool true) rfl (by rfl) (exec_eqB 33 32 (by kernel_rfl) (by kernel_rfl) (.tmp 143) (.tmp 144) _ rfl z z hzl hzl rfl rfl true (by simp)) ?_
     simp only [Ls]
     refine runL 146 (.bool true) rfl (by rfl) (by go_simp) ?_
     simp only [Ls]
     refine runL 147 (.bool true) rfl (by rfl) (by go_simp) ?_
     simp only [Ls]
     refine callL 148 rfl (by rfl) (fun K hK => wp_callF 8 #[] (by go_simp) (lives09_any _ (gl.out _ hW)) ?_)
     rintro e w11 ⟨rfl, bx⟩
     replace hp3 := blB hp3 bx
     replace hp4 := blB hp4 bx
     replace hp14 := blB hp14 bx
     replace hp15 := blB hp15 bx
     replace hW := trB hW hB0 bx
     clear bx
     refine ⟨_, rfl, hK.out _ _ ?_⟩
     clear hK K
     simp only [Ls]
     refine runL 149 (.bool true) rfl (by rfl) (by go_simp) ?_
     simp only [Ls]
     refine runL 6 (.bool true) rfl (by rfl) (by go_simp) ?_
     simp only [Ls]
     refine nilL ?_
     go_wp2_with fail
     go_ret
     exact ⟨rfl, hW⟩
    have h1I : ¬ (0 : Int) < (b1 : Int) := by omega
    have h2I : (15 : Int) < (b2 : Int) := by omega
    go_upto_region 10 with fail
    refine wl_lit ?_
    refine runL 79 (.slice (some ad) 48 cc) rfl (by rfl) (by go_simp) ?_
    simp only [Ls]
    refine callL 80 rfl (by rfl) (fun K hK => wp_callF 12 #[.slice (some ad) 48 cc] (by go_simp) (sparse_farz z hzq.out l hll hlb (some ad) cc _ hnc _ (rd.out _ hW) (Nat.le_trans hBB (Nat.le_trans hB0 hW.size)) j hjq.out hj hj3) ?_)
    rintro e w6 ⟨rfl, bx⟩
    replace hp3 := blB hp3 bx
    replace hp4 := blB hp4 bx
    replace hW := trB hW hB0 bx
    clear bx
    refine ⟨_, rfl, hK.out _ _ ?_⟩
    clear hK K
    simp only [Ls]
    refine runL 78 (.tuple #[.int .i64 0, .agg (noV 0 0), .agg (va .u8 z), .int .i64 1]) rfl (by rfl) (by go_simp) ?_
    simp only [Ls]
    refine runL 81 (.int .i64 0) rfl (by rfl) (by go_simp) ?_
    simp only [Ls]
    refine runL 82 (.agg (noV 0 0)) rfl (by rfl) (by go_simp) ?_
    simp only [Ls]
    refine runL 83 (.agg (va .u8 z)) rfl (by rfl) (by go_simp) ?_
    simp only [Ls]
    refine runL 84 (.int .i64 1) rfl (by rfl) (by go_simp) ?_
    simp only [Ls]
    refine runWL 14 (.pointer (some ⟨w6.heap.size, 0, none⟩)) (w6.alloc (.cells (noV 0 0) 30)) rfl (by rfl) (exec_allocV 30 rfl _ (zv_Nonce _)) ?_
    simp only [Ls]
    have lp3_p14 := hp3.lt
    have lp4_p14 := hp4.lt
    have lw_p14 := Nat.le_trans hB0 hW.size
    have hp14 := Blk.new w6 30 (noV 0 0)
    have bx := bAl w6 (.cells (noV 0 0) 30)
    replace hp3 := blB hp3 bx
    replace hp4 := blB hp4 bx
    replace hW := trB hW hB0 bx
    clear bx
    generalize w6.alloc (.cells (noV 0 0) 30) = w7 at *
    generalize w6.heap.size = p14 at hp14 lw_p14 lp3_p14 lp4_p14 ⊢
    refine runWL 15 (.pointer (some ⟨w7.heap.size, 0, none⟩)) (w7.alloc (.cells (va .u8 z) 33)) rfl (by rfl) (exec_allocV 33 rfl _ (zv_blkz z hzq.out _)) ?_
    simp only [Ls]
    have lp3_p15 := hp3.lt
    have lp4_p15 := hp4.lt
    have lp14_p15 := hp14.lt
    have lw_p15 := Nat.le_trans hB0 hW.size
    have hp15 := Blk.new w7 33 (va .u8 z)
    have bx := bAl w7 (.cells (va .u8 z) 33)
    replace hp3 := blB hp3 bx
    replace hp4 := blB hp4 bx
    replace hp14 := blB hp14 bx
    replace hW := trB hW hB0 bx
    clear bx
    generalize w7.alloc (.cells (va .u8 z) 33) = w8 at *
    generalize w7.heap.size = p15 at hp15 lw_p15 lp3_p15 lp4_p15 lp14_p15 ⊢
    refine runL 13 (.int .i64 0) rfl (by rfl) (by go_simp) ?_
    simp only [Ls]
    refine runSL (w8.setRow p14 (noV 0 0)) rfl (by rfl) (exec_storeRow 30 (.tmp 14) (.tmp 82) rfl p14 rfl (noV 0 0) rfl 30 (noV 0 0) hp14 (sz_eq (noV_sz _ _) (noV_sz _ _)) (noV_sz _ _) (noV_one _ _)) ?_
    replace hp3 := hp3.rowFar (show p14 ≠ p3 from (by omega)) (noV 0 0)
    replace hp4 := hp4.rowFar (show p14 ≠ p4 from (by omega)) (noV 0 0)
    replace hp15 := hp15.rowFar (show p14 ≠ p15 from (by omega)) (noV 0 0)
    replace hp14 := hp14.row (noV 0 0)
    replace hW := below_setRow hW lw_p14 (noV 0 0)
    generalize w8.setRow p14 (noV 0 0) = w9 at *
    refine runSL (w9.setRow p15 (va .u8 z)) rfl (by rfl) (exec_storeRow 33 (.tmp 15) (.tmp 83) rfl p15 rfl (va .u8 z) rfl 33 (va .u8 z) hp15 (sz_eq (sz_api_Block _ hzl) (sz_api_Block _ hzl)) (sz_api_Block _ hzl) (va_ones .u8 _)) ?_
    replace hp3 := hp3.rowFar (show p15 ≠ p3 from (by omega)) (va .u8 z)
    replace hp4 := hp4.rowFar (show p15 ≠ p4 from (by omega)) (va .u8 z)
    replace hp14 := hp14.rowFar (show p15 ≠ p14 from (by omega)) (va .u8 z)
    replace hp15 := hp15.row (va .u8 z)
    replace hW := below_setRow hW lw_p15 (va .u8 z)
    generalize w9.setRow p15 (va .u8 z) = w10 at *
    refine runL 16 (.int .i64 1) rfl (by rfl) (by go_simp) ?_
    simp only [Ls]
    refine nilL ?_
    go_upto_region 11 with fail
    refine wl_lit ?_
    refine runL 85 (.int .i64 1) rfl (by rfl) (by go_simp) ?_
    simp only [Ls]
    refine runL 86 (.bool false) rfl (by rfl) (by go_simp) ?_
    simp only [Ls]
    refine nilL ?_
    go_upto_region 14 with fail
    refine wl_lit ?_
    refine runL 19 (.int .i64 1) rfl (by rfl) (by go_simp) ?_
    simp only [Ls]
    refine nilL ?_
    go_upto_region 15 with fail
    refine wl_lit ?_
    refine runL 101 (.slice (some ad) 48 cc) rfl (by rfl) (by go_simp) ?_
    simp only [Ls]
    refine runL 102 (.int .i64 48) rfl (by rfl) (by go_simp) ?_
    simp only [Ls]
    refine runL 103 (.bool false) rfl (by rfl) (by go_simp) ?_
    simp only [Ls]
    refine nilL ?_
    go_upto_region 17 with fail
    refine wl_lit ?_
    refine runL 104 (.slice (some ad) 48 cc) rfl (by rfl) (by go_simp) ?_
    simp only [Ls]
    refine runL 105 (.int .i64 48) rfl (by rfl) (by go_simp) ?_
    simp only [Ls]
    refine runL 106 (.bool false) rfl (by rfl) (by go_simp) ?_
    simp only [Ls]
    refine nilL ?_
    go_upto_region 19 with fail
    refine wl_lit ?_
    refine runL 107 (.int .i64 1) rfl (by rfl) (by go_simp) ?_
    simp only [Ls]
    refine runL 108 (.int .i64 1) rfl (by rfl) (by go_simp) ?_
    simp only [Ls]
    refine runL 109 (.bool true) rfl (by rfl) (by go_simp) ?_
    simp only [Ls]
    refine runL 110 (.bool true) rfl (by rfl) (by go_simp) ?_
    simp only [Ls]
    refine runL 111 (.slice (some ad) 48 cc) rfl (by rfl) (by go_simp) ?_
    simp only [Ls]
    refine runL 112 (.int .i64 48) rfl (by rfl) (by go_simp) ?_
    simp only [Ls]
    refine runL 113 (.bool false) rfl (by rfl) (by go_simp) ?_
    simp only [Ls]
    refine runL 114 (.bool false) rfl (by rfl) (by go_simp) ?_
    simp only [Ls]
    refine runL 115 (.slice (some ad) 48 cc) rfl (by rfl) (by go_simp) ?_
    simp only [Ls]
    refine runL 116 (.pointer (some (ad.add 0))) rfl (by rfl) (by go_simp) ?_
    simp only [Ls]
    refine runL 117 (.int .u8 ((b0 : Nat) : Int)) rfl (by rfl) (exec_cellA9 5 (.tmp 116) rfl (ad.add 0) rfl (.int .u8 ((b0 : Nat) : Int)) _ Tryd.underlying5 rfl (by rw [← hb0q.out]; exact (rd.out _ hW).numA (by decide))) ?_
    simp only [Ls]
    refine runL 118 (.bool false) rfl (by rfl) (by go_simp) ?_
    simp only [Ls]
    refine runL 119 (.bool false) rfl (by rfl) (by go_simp) ?_
    simp only [Ls]
    refine runL 120 (.bool false) rfl (by rfl) (by go_simp) ?_
    simp only [Ls]
    refine runL 121 (.slice (some ad) 48 cc) rfl (by rfl) (by go_simp) ?_
    simp only [Ls]
    refine runL 122 (.pointer (some (ad.add 1))) rfl (by rfl) (by go_simp) ?_
    simp only [Ls]
    refine runL 123 (.int .u8 ((b1 : Nat) : Int)) rfl (by rfl) (exec_cellA9 5 (.tmp 122) rfl (ad.add 1) rfl (.int .u8 ((b1 : Nat) : Int)) _ Tryd.underlying5 rfl (by rw [← hb1q.out]; exact (rd.out _ hW).numA (by decide))) ?_
    simp only [Ls]
    refine runL 124 (.bool false) rfl (by rfl) (by go_simp) ?_
    simp only [Ls]
    refine runL 125 (.bool false) rfl (by rfl) (by go_simp) ?_
    simp only [Ls]
    refine runL 126 (.bool false) rfl (by rfl) (by go_simp) ?_
    simp only [Ls]
    refine runL 127 (.slice (some ad) 48 cc) rfl (by rfl) (by go_simp) ?_
    simp only [Ls]
    refine runL 128 (.pointer (some (ad.add 2))) rfl (by rfl) (by go_simp) ?_
    simp only [Ls]
    refine runL 129 (.int .u8 ((b2 : Nat) : Int)) rfl (by rfl) (exec_cellA9 5 (.tmp 128) rfl (ad.add 2) rfl (.int .u8 ((b2 : Nat) : Int)) _ Tryd.underlying5 rfl (by rw [← hb2q.out]; exact (rd.out _ hW).numA (by decide))) ?_
    simp only [Ls]
    refine runL 130 (.bool true) rfl (by rfl) (by go_simp) ?_
    simp only [Ls]
    refine runL 131 (.bool true) rfl (by rfl) (by go_simp) ?_
    simp only [Ls]
    refine runL 132 (.bool true) rfl (by rfl) (by go_simp) ?_
    simp only [Ls]
    refine runL 133 (.bool true) rfl (by rfl) (by go_simp) ?_
    simp only [Ls]
    refine runL 134 (.int .i64 0) rfl (by rfl) (by go_simp) ?_
    simp only [Ls]
    refine runL 135 (.bool true) rfl (by rfl) (by go_simp) ?_
    simp only [Ls]
    refine runL 136 (.bool true) rfl (by rfl) (by go_simp) ?_
    simp only [Ls]
    refine runL 137 (.bool true) rfl (by rfl) (by go_simp) ?_
    simp only [Ls]
    refine runL 138 (.agg (noV 0 0)) rfl (by rfl) (exec_row 30 (.tmp 14) rfl p14 rfl 30 (noV 0 0) _ hp14 (by exact Tryd.underlying30) rfl (noV_sz _ _)) ?_
    simp only [Ls]
    refine runL 139 (.agg (noV 0 0)) rfl (by rfl) (exec_build 30 _ rfl (noV 0 0) (by kernel_rfl)) ?_
    simp only [Ls]
    refine runL 140 (.bool true) rfl (by rfl) (exec_eqV 30 (by kernel_rfl) (.tmp 138) (.tmp 139) _ rfl (noV 0 0) (noV 0 0) rfl rfl true (by rw [eqNoD]; simp)) ?_
    simp only [Ls]
    refine runL 141 (.bool true) rfl (by rfl) (by go_simp) ?_
    simp only [Ls]
    refine runL 142 (.bool true) rfl (by rfl) (by go_simp) ?_
    simp only [Ls]
    refine runL 143 (.agg (va .u8 z)) rfl (by rfl) (exec_row 33 (.tmp 15) rfl p15 rfl 33 (va .u8 z) _ hp15 (by exact Tryd.underlying33) rfl (sz_api_Block _ hzl)) ?_
    simp only [Ls]
    refine runL 144 (.agg (va .u8 z)) rfl (by rfl) (exec_build 33 _ rfl (va .u8 z) (by rw [← hzq.out]; kernel_rfl)) ?_
    simp only [Ls]
    refine runL 145 (.bool true) rfl (by rfl) (exec_eqB 33 32 (by kernel_rfl) (by kernel_rfl) (.tmp 143) (.tmp 144) _ rfl z z hzl hzl rfl rfl true (by simp)) ?_
    simp only [Ls]
    refine runL 146 (.bool true) rfl (by rfl) (by go_simp) ?_
    simp only [Ls]
    refine runL 147 (.bool true) rfl (by rfl) (by go_simp) ?_
    simp only [Ls]
    refine callL 148 rfl (by rfl) (fun K hK => wp_callF 8 #[] (by go_simp) (lives09_any _ (gl.out _ hW)) ?_)
    rintro e w11 ⟨rfl, bx⟩
    replace hp3 := blB hp3 bx
    replace hp4 := blB hp4 bx
    replace hp14 := blB hp14 bx
    replace hp15 := blB hp15 bx
    replace hW := trB hW hB0 bx
    clear bx
    refine ⟨_, rfl, hK.out _ _ ?_⟩
    clear hK K
    simp only [Ls]
    refine runL 149 (.bool true) rfl (by rfl) (by go_simp) ?_
    simp only [Ls]
    refine runL 6 (.bool true) rfl (by rfl) (by go_simp) ?_
    simp only [Ls]
    refine nilL ?_
    go_wp2_with fail
    go_ret
    exact ⟨rfl, hW⟩
  ·
   have hnI : ¬ (n : Int) < 48 := by omega
   have hnI2 : (48 : Int) < (n : Int) := by omega
   have hnI3 : ¬ (n : Int) = 48 := by omega
   go_upto_region 10 with fail
   refine wl_lit ?_
   refine runL 79 (.slice A n cc) rfl (by rfl) (by go_simp) ?_
   simp only [Ls]
   refine callL 80 rfl (by rfl) (fun K hK => wp_callF 12 #[.slice A n cc] (by go_simp) (sparse_lenz z hzq.out n 5 (.inr ⟨hn, rfl⟩) A cc _) ?_)
   rintro e w6 ⟨rfl, bx⟩
   replace hp3 := blB hp3 bx
   replace hp4 := blB hp4 bx
   replace hW := trB hW hB0 bx
   clear bx
   refine ⟨_, rfl, hK.out _ _ ?_⟩
   clear hK K
   simp only [Ls]
   refine runL 78 (.tuple #[.int .i64 0, .agg (noV 0 0), .agg (va .u8 z), .int .i64 5]) rfl (by rfl) (by go_simp) ?_
   simp only [Ls]
   refine runL 81 (.int .i64 0) rfl (by rfl) (by go_simp) ?_
   simp only [Ls]
   refine runL 82 (.agg (noV 0 0)) rfl (by rfl) (by go_simp) ?_
   simp only [Ls]
   refine runL 83 (.agg (va .u8 z)) rfl (by rfl) (by go_simp) ?_
   simp only [Ls]
   refine runL 84 (.int .i64 5) rfl (by rfl) (by go_simp) ?_
   simp only [Ls]
   refine runWL 14 (.pointer (some ⟨w6.heap.size, 0, none⟩)) (w6.alloc (.cells (noV 0 0) 30)) rfl (by rfl) (exec_allocV 30 rfl _ (zv_Nonce _)) ?_
   simp only [Ls]
   have lp3_p14 := hp3.lt
   have lp4_p14 := hp4.lt
   have lw_p14 := Nat.le_trans hB0 hW.size
   have hp14 := Blk.new w6 30 (noV 0 0)
   have bx := bAl w6 (.cells (noV 0 0) 30)
   replace hp3 := blB hp3 bx
   replace hp4 := blB hp4 bx
   replace hW := trB hW hB0 bx
   clear bx
   generalize w6.alloc (.cells (noV 0 0) 30) = w7 at *
   generalize w6.heap.size = p14 at hp14 lw_p14 lp3_p14 lp4_p14 ⊢
   refine runWL 15 (.pointer (some ⟨w7.heap.size, 0, none⟩)) (w7.alloc (.cells (va .u8 z) 33)) rfl (by rfl) (exec_allocV 33 rfl _ (zv_blkz z hzq.out _)) ?_
   simp only [Ls]
   have lp3_p15 := hp3.lt
   have lp4_p15 := hp4.lt
   have lp14_p15 := hp14.lt
   have lw_p15 := Nat.le_trans hB0 hW.size
   have hp15 := Blk.new w7 33 (va .u8 z)
   have bx := bAl w7 (.cells (va .u8 z) 33)
   replace hp3 := blB hp3 bx
   replace hp4 := blB hp4 bx
   replace hp14 := blB hp14 bx
   replace hW := trB hW hB0 bx
   clear bx
   generalize w7.alloc (.cells (va .u8 z) 33) = w8 at *
   generalize w7.heap.size = p15 at hp15 lw_p15 lp3_p15 lp4_p15 lp14_p15 ⊢
   refine runL 13 (.int .i64 0) rfl (by rfl) (by go_simp) ?_
   simp only [Ls]
   refine runSL (w8.setRow p14 (noV 0 0)) rfl (by rfl) (exec_storeRow 30 (.tmp 14) (.tmp 82) rfl p14 rfl (noV 0 0) rfl 30 (noV 0 0) hp14 (sz_eq (noV_sz _ _) (noV_sz _ _)) (noV_sz _ _) (noV_one _ _)) ?_
   replace hp3 := hp3.rowFar (show p14 ≠ p3 from (by omega)) (noV 0 0)
   replace hp4 := hp4.rowFar (show p14 ≠ p4 from (by omega)) (noV 0 0)
   replace hp15 := hp15.rowFar (show p14 ≠ p15 from (by omega)) (noV 0 0)
   replace hp14 := hp14.row (noV 0 0)
   replace hW := below_setRow hW lw_p14 (noV 0 0)
   generalize w8.setRow p14 (noV 0 0) = w9 at *
   refine runSL (w9.setRow p15 (va .u8 z)) rfl (by rfl) (exec_storeRow 33 (.tmp 15) (.tmp 83) rfl p15 rfl (va .u8 z) rfl 33 (va .u8 z) hp15 (sz_eq (sz_api_Block _ hzl) (sz_api_Block _ hzl)) (sz_api_Block _ hzl) (va_ones .u8 _)) ?_
   replace hp3 := hp3.rowFar (show p15 ≠ p3 from (by omega)) (va .u8 z)
   replace hp4 := hp4.rowFar (show p15 ≠ p4 from (by omega)) (va .u8 z)
   replace hp14 := hp14.rowFar (show p15 ≠ p14 from (by omega)) (va .u8 z)
   replace hp15 := hp15.row (va .u8 z)
   replace hW := below_setRow hW lw_p15 (va .u8 z)
   generalize w9.setRow p15 (va .u8 z) = w10 at *
   refine runL 16 (.int .i64 5) rfl (by rfl) (by go_simp) ?_
   simp only [Ls]
   refine nilL ?_
   go_upto_region 11 with fail
   refine wl_lit ?_
   refine runL 85 (.int .i64 5) rfl (by rfl) (by go_simp) ?_
   simp only [Ls]
   refine runL 86 (.bool false) rfl (by rfl) (by go_simp) ?_
   simp only [Ls]
   refine nilL ?_
   go_upto_region 14 with fail
   refine wl_lit ?_
   refine runL 19 (.int .i64 1) rfl (by rfl) (by go_simp) ?_
   simp only [Ls]
   refine nilL ?_
   go_upto_region 15 with fail
   refine wl_lit ?_
   refine runL 101 (.slice A n cc) rfl (by rfl) (by go_simp) ?_
   simp only [Ls]
   refine runL 102 (.int .i64 n) rfl (by rfl) (by go_simp) ?_
   simp only [Ls]
   refine runL 103 (.bool false) rfl (by rfl) (by go_simp) ?_
   simp only [Ls]
   refine nilL ?_
   go_upto_region 17 with fail
   refine wl_lit ?_
   refine runL 104 (.slice A n cc) rfl (by rfl) (by go_simp) ?_
   simp only [Ls]
   refine runL 105 (.int .i64 n) rfl (by rfl) (by go_simp) ?_
   simp only [Ls]
   refine runL 106 (.bool true) rfl (by rfl) (by go_simp) ?_
   simp only [Ls]
   refine nilL ?_
   go_upto_region 18 with fail
   refine wl_lit ?_
   refine runL 19 (.int .i64 5) rfl (by rfl) (by go_simp) ?_
   simp only [Ls]
   refine nilL ?_
   go_upto_region 19 with fail
   refine wl_lit ?_
   refine runL 107 (.int .i64 5) rfl (by rfl) (by go_simp) ?_
   simp only [Ls]
   refine runL 108 (.int .i64 5) rfl (by rfl) (by go_simp) ?_
   simp only [Ls]
   refine runL 109 (.bool true) rfl (by rfl) (by go_simp) ?_
   simp only [Ls]
   refine runL 110 (.bool true) rfl (by rfl) (by go_simp) ?_
   simp only [Ls]
   refine runL 111 (.slice A n cc) rfl (by rfl) (by go_simp) ?_
   simp only [Ls]
   refine runL 112 (.int .i64 n) rfl (by rfl) (by go_simp) ?_
   simp only [Ls]
   refine runL 113 (.bool true) rfl (by rfl) (by go_simp) ?_
   simp only [Ls]
   refine runL 114 (.bool true) rfl (by rfl) (by go_simp) ?_
   simp only [Ls]
   refine skipL 115 rfl (by kernel_rfl) ?_
   simp only [Ls]
   refine skipL 116 rfl (by kernel_rfl) ?_
   simp only [Ls]
   refine skipL 117 rfl (by kernel_rfl) ?_
   simp only [Ls]
   refine skipL 118 rfl (by kernel_rfl) ?_
   simp only [Ls]
   refine runL 119 (.bool true) rfl (by rfl) (by go_simp) ?_
   simp only [Ls]
   refine runL 120 (.bool true) rfl (by rfl) (by go_simp) ?_
   simp only [Ls]
   refine skipL 121 rfl (by kernel_rfl) ?_
   simp only [Ls]
   refine skipL 122 rfl (by kernel_rfl) ?_
   simp only [Ls]
   refine skipL 123 rfl (by kernel_rfl) ?_
   simp only [Ls]
   refine skipL 124 rfl (by kernel_rfl) ?_
   simp only [Ls]
   refine runL 125 (.bool true) rfl (by rfl) (by go_simp) ?_
   simp only [Ls]
   refine runL 126 (.bool true) rfl (by rfl) (by go_simp) ?_
   simp only [Ls]
   refine skipL 127 rfl (by kernel_rfl) ?_
   simp only [Ls]
   refine skipL 128 rfl (by kernel_rfl) ?_
   simp only [Ls]
   refine skipL 129 rfl (by kernel_rfl) ?_
   simp only [Ls]
   refine skipL 130 rfl (by kernel_rfl) ?_
   simp only [Ls]
   refine runL 131 (.bool true) rfl (by rfl) (by go_simp) ?_
   simp only [Ls]
   refine runL 132 (.bool true) rfl (by rfl) (by go_simp) ?_
   simp only [Ls]
   refine runL 133 (.bool true) rfl (by rfl) (by go_simp) ?_
   simp only [Ls]
   refine runL 134 (.int .i64 0) rfl (by rfl) (by go_simp) ?_
   simp only [Ls]
   refine runL 135 (.bool true) rfl (by rfl) (by go_simp) ?_
   simp only [Ls]
   refine runL 136 (.bool true) rfl (by rfl) (by go_simp) ?_
   simp only [Ls]
   refine runL 137 (.bool true) rfl (by rfl) (by go_simp) ?_
   simp only [Ls]
   refine runL 138 (.agg (noV 0 0)) rfl (by rfl) (exec_row 30 (.tmp 14) rfl p14 rfl 30 (noV 0 0) _ hp14 (by exact Tryd.underlying30) rfl (noV_sz _ _)) ?_
   simp only [Ls]
   refine runL 139 (.agg (noV 0 0)) rfl (by rfl) (exec_build 30 _ rfl (noV 0 0) (by kernel_rfl)) ?_
   simp only [Ls]
   refine runL 140 (.bool true) rfl (by rfl) (exec_eqV 30 (by kernel_rfl) (.tmp 138) (.tmp 139) _ rfl (noV 0 0) (noV 0 0) rfl rfl true (by rw [eqNoD]; simp)) ?_
   simp only [Ls]
   refine runL 141 (.bool true) rfl (by rfl) (by go_simp) ?_
   simp only [Ls]
   refine runL 142 (.bool true) rfl (by rfl) (by go_simp) ?_
   simp only [Ls]
   refine runL 143 (.agg (va .u8 z)) rfl (by rfl) (exec_row 33 (.tmp 15) rfl p15 rfl 33 (va .u8 z) _ hp15 (by exact Tryd.underlying33) rfl (sz_api_Block _ hzl)) ?_
   simp only [Ls]
   refine runL 144 (.agg (va .u8 z)) rfl (by rfl) (exec_build 33 _ rfl (va .u8 z) (by rw [← hzq.out]; kernel_rfl)) ?_
   simp only [Ls]
   refine runL 145 (.bool true) rfl (by rfl) (exec_eqB 33 32 (by kernel_rfl) (by kernel_rfl) (.tmp 143) (.tmp 144) _ rfl z z hzl hzl rfl rfl true (by simp)) ?_
   simp only [Ls]
   refine runL 146 (.bool true) rfl (by rfl) (by go_simp) ?_
   simp only [Ls]
   refine runL 147 (.bool true) rfl (by rfl) (by go_simp) ?_
   simp only [Ls]
   refine callL 148 rfl (by rfl) (fun K hK => wp_callF 8 #[] (by go_simp) (lives09_any _ (gl.out _ hW)) ?_)
   rintro e w11 ⟨rfl, bx⟩
   replace hp3 := blB hp3 bx
   replace hp4 := blB hp4 bx
   replace hp14 := blB hp14 bx
   replace hp15 := blB hp15 bx
   replace hW := trB hW hB0 bx
   clear bx
   refine ⟨_, rfl, hK.out _ _ ?_⟩
   clear hK K
   simp only [Ls]
   refine runL 149 (.bool true) rfl (by rfl) (by go_simp) ?_
   simp only [Ls]
   refine runL 6 (.bool true) rfl (by rfl) (by go_simp) ?_
   simp only [Ls]
   refine nilL ?_
   go_wp2_with fail
   go_ret
   exact ⟨rfl, hW⟩
 obtain ⟨I, rfl⟩ : ∃ I : Nat, i = (I : Int) := ⟨i.toNat, by omega⟩
 have hI : I < 4096 := by omega
 go_enter Tryd.func3, Tryd.ntmps3
 go_upto_region 0 with fail
 refine wl_lit ?_
 refine runWL 3 (.pointer (some ⟨w.heap.size, 0, none⟩)) (w.alloc (.cells (sV ke km (I : Int) s c) 32)) rfl (by rfl) (exec_box 32 (.tmp 0) rfl (.agg (sV ke km (I : Int) s c)) rfl) ?_
 simp only [Ls]
 have lw_p3 := Nat.le_trans hB0 hW.size
 have hp3 := Blk.new w 32 (sV ke km (I : Int) s c)
 replace hW := alB hW hB0 (.cells (sV ke km (I : Int) s c) 32)
 generalize w.alloc (.cells (sV ke km (I : Int) s c) 32) = w1 at *
 generalize w.heap.size = p3 at hp3 lw_p3  ⊢
 refine runWL 4 (.pointer (some ⟨w1.heap.size, 0, none⟩)) (w1.alloc (.cells (va .u8 d) 33)) rfl (by rfl) (exec_box 33 (.tmp 1) rfl (.agg (va .u8 d)) rfl) ?_
 simp only [Ls]
 have lp3_p4 := hp3.lt
 have lw_p4 := Nat.le_trans hB0 hW.size
 have hp4 := Blk.new w1 33 (va .u8 d)
 have bx := bAl w1 (.cells (va .u8 d) 33)
 replace hp3 := blB hp3 bx
 replace hW := trB hW hB0 bx
 clear bx
 generalize w1.alloc (.cells (va .u8 d) 33) = w2 at *
 generalize w1.heap.size = p4 at hp4 lw_p4 lp3_p4 ⊢
 refine runL 6 (.bool false) rfl (by rfl) (by go_simp) ?_
 simp only [Ls]
 refine nilL ?_
 go_upto_region 1 with fail
 refine wl_lit ?_
 refine runL 20 (.slice A n cc) rfl (by rfl) (by go_simp) ?_
 simp only [Ls]
 refine runL 21 (.int .i64 n) rfl (by rfl) (by go_simp) ?_
 simp only [Ls]
 refine runL 22 (.bool false) rfl (by rfl) (by go_simp) ?_
 simp only [Ls]
 refine nilL ?_
 go_upto_region 3 with fail
 refine wl_lit ?_
 refine runL 25 (.pointer (some ⟨p3, 48, none⟩)) rfl (by rfl) (by go_simp) ?_
 simp only [Ls]
 refine runL 26 (.int .i64 (I : Int)) rfl (by rfl) (exec_cell 3 (.tmp 25) rfl p3 48 rfl (.int .i64 (I : Int)) _ Tryd.underlying3 rfl (sV_idx hp3 hel hml)) ?_
 simp only [Ls]
 refine runL 27 (.pointer (some ⟨p3, 49, none⟩)) rfl (by rfl) (by go_simp) ?_
 simp only [Ls]
 refine runL 28 (.agg (noV s c)) rfl (by rfl) (exec_mid 30 (.tmp 27) rfl p3 49 rfl ((noV s c).toList) _ (sV_no hp3 hel hml) (by exact Tryd.underlying30) rfl (by kernel_rfl)) ?_
 simp only [Ls]
 refine runL 29 (.agg (va .u8 d)) rfl (by rfl) (exec_row 33 (.tmp 4) rfl p4 rfl 33 (va .u8 d) _ hp4 (by exact Tryd.underlying33) rfl (sz_api_Block _ hdl)) ?_
 simp only [Ls]
 refine callL 30 rfl (by rfl) (fun K hK => wp_callF 9 #[.int .i64 (I : Int), .agg (noV s c), .agg (va .u8 d)] (by go_simp) (smessage_ok I s c d hI hs hdl hdb _) ?_)
 rintro e w3 ⟨gm, rfl, hgm, hgg, bx⟩
 have lp3_gm : p3 < gm := Nat.lt_of_lt_of_le hp3.lt hgg
 have lp4_gm : p4 < gm := Nat.lt_of_lt_of_le hp4.lt hgg
 have lw_gm : B0 ≤ gm := Nat.le_trans (Nat.le_trans hB0 hW.size) hgg
 replace hp3 := blB hp3 bx
 replace hp4 := blB hp4 bx
 replace hW := trB hW hB0 bx
 clear hgg
 clear bx
 refine ⟨_, rfl, hK.out _ _ ?_⟩
 clear hK K
 simp only [Ls]
 refine runL 24 (.tuple #[.slice (some ⟨gm, 0, none⟩) 48 48, .int .i64 0]) rfl (by rfl) (by go_simp) ?_
 simp only [Ls]
 refine runL 31 (.slice (some ⟨gm, 0, none⟩) 48 48) rfl (by rfl) (by go_simp) ?_
 simp only [Ls]
 refine runL 32 (.int .i64 0) rfl (by rfl) (by go_simp) ?_
 simp only [Ls]
 refine runL 7 (.slice (some ⟨gm, 0, none⟩) 48 48) rfl (by rfl) (by go_simp) ?_
 simp only [Ls]
 refine runL 8 (.int .i64 0) rfl (by rfl) (by go_simp) ?_
 simp only [Ls]
 refine nilL ?_
 go_upto_region 4 with fail
 refine wl_lit ?_
 refine runL 33 (.pointer (some ⟨p3, 48, none⟩)) rfl (by rfl) (by go_simp) ?_
 simp only [Ls]
 refine runL 34 (.int .i64 (I : Int)) rfl (by rfl) (exec_cell 3 (.tmp 33) rfl p3 48 rfl (.int .i64 (I : Int)) _ Tryd.underlying3 rfl (sV_idx hp3 hel hml)) ?_
 simp only [Ls]
 refine callL 35 rfl (by rfl) (fun K hK => wp_callF 10 #[.int .i64 (I : Int)] (by go_simp) (bad_no I hI _) ?_)
 rintro e w4 ⟨rfl, bx⟩
 replace hp3 := blB hp3 bx
 replace hp4 := blB hp4 bx
 replace hgm := hgm.below bx hgm.lt
 replace hW := trB hW hB0 bx
 clear bx
 refine ⟨_, rfl, hK.out _ _ ?_⟩
 clear hK K
 simp only [Ls]
 refine nilL ?_
 go_upto_region 7 with fail
 refine wl_lit ?_
 refine runL 41 (.slice (some ⟨gm, 0, none⟩) 48 48) rfl (by rfl) (by go_simp) ?_
 simp only [Ls]
 refine callL 42 rfl (by rfl) (fun K hK => wp_callF 12 #[.slice (some ⟨gm, 0, none⟩) 48 48] (by go_simp) (sparse_ok (msg I s c d) (msg_len hdl) (msg_byt hdb) _ 48 _ (Nat.le_refl _) _ (hgm.readsAll (Nat.lt_succ_self _) (msg_len hdl)) hgm.lt I s c d (mI_msg (by omega)) hI (mS_msg hs) (mC_msg hc) mD_msg) ?_)
 rintro e w5 ⟨rfl, bx⟩
 replace hp3 := blB hp3 bx
 replace hp4 := blB hp4 bx
 replace hgm := hgm.below bx hgm.lt
 replace hW := trB hW hB0 bx
 clear bx
 refine ⟨_, rfl, hK.out _ _ ?_⟩
 clear hK K
 simp only [Ls]
 refine runL 40 (.tuple #[.int .i64 (I : Int), .agg (noV s c), .agg (va .u8 d), .int .i64 0]) rfl (by rfl) (by go_simp) ?_
 simp only [Ls]
 refine runL 43 (.int .i64 (I : Int)) rfl (by rfl) (by go_simp) ?_
 simp only [Ls]
 refine runL 44 (.agg (noV s c)) rfl (by rfl) (by go_simp) ?_
 simp only [Ls]
 refine runL 45 (.agg (va .u8 d)) rfl (by rfl) (by go_simp) ?_
 simp only [Ls]
 refine runL 46 (.int .i64 0) rfl (by rfl) (by go_simp) ?_
 simp only [Ls]
 refine runWL 10 (.pointer (some ⟨w5.heap.size, 0, none⟩)) (w5.alloc (.cells (noV 0 0) 30)) rfl (by rfl) (exec_allocV 30 rfl _ (zv_Nonce _)) ?_
 simp only [Ls]
 have lp3_p10 := hp3.lt
 have lp4_p10 := hp4.lt
 have lgm_p10 := hgm.lt
 have lw_p10 := Nat.le_trans hB0 hW.size
 have hp10 := Blk.new w5 30 (noV 0 0)
 have bx := bAl w5 (.cells (noV 0 0) 30)
 replace hp3 := blB hp3 bx
 replace hp4 := blB hp4 bx
 clear bx
 replace hgm := hgm.alloc (.cells (noV 0 0) 30)
 replace hW := alB hW hB0 (.cells (noV 0 0) 30)
 generalize w5.alloc (.cells (noV 0 0) 30) = w6 at *
 generalize w5.heap.size = p10 at hp10 lw_p10 lp3_p10 lp4_p10 lgm_p10 ⊢
 refine runWL 11 (.pointer (some ⟨w6.heap.size, 0, none⟩)) (w6.alloc (.cells (va .u8 z) 33)) rfl (by rfl) (exec_allocV 33 rfl _ (zv_blkz z hzq.out _)) ?_
 simp only [Ls]
 have lp3_p11 := hp3.lt
 have lp4_p11 := hp4.lt
 have lgm_p11 := hgm.lt
 have lp10_p11 := hp10.lt
 have lw_p11 := Nat.le_trans hB0 hW.size
 have hp11 := Blk.new w6 33 (va .u8 z)
 have bx := bAl w6 (.cells (va .u8 z) 33)
 replace hp3 := blB hp3 bx
 replace hp4 := blB hp4 bx
 clear bx
 replace hgm := hgm.alloc (.cells (va .u8 z) 33)
 have bx := bAl w6 (.cells (va .u8 z) 33)
 replace hp10 := blB hp10 bx
 replace hW := trB hW hB0 bx
 clear bx
 generalize w6.alloc (.cells (va .u8 z) 33) = w7 at *
 generalize w6.heap.size = p11 at hp11 lw_p11 lp3_p11 lp4_p11 lgm_p11 lp10_p11 ⊢
 refine runL 9 (.int .i64 (I : Int)) rfl (by rfl) (by go_simp) ?_
 simp only [Ls]
 refine runSL (w7.setRow p10 (noV s c)) rfl (by rfl) (exec_storeRow 30 (.tmp 10) (.tmp 44) rfl p10 rfl (noV s c) rfl 30 (noV 0 0) hp10 (sz_eq (noV_sz _ _) (noV_sz _ _)) (noV_sz _ _) (noV_one _ _)) ?_
 replace hp3 := hp3.rowFar (show p10 ≠ p3 from (by omega)) (noV s c)
 replace hp4 := hp4.rowFar (show p10 ≠ p4 from (by omega)) (noV s c)
 replace hgm := hgm.rowFar (show p10 ≠ gm from (by omega)) (noV s c)
 replace hp11 := hp11.rowFar (show p10 ≠ p11 from (by omega)) (noV s c)
 replace hp10 := hp10.row (noV s c)
 replace hW := below_setRow hW lw_p10 (noV s c)
 generalize w7.setRow p10 (noV s c) = w8 at *
 refine runSL (w8.setRow p11 (va .u8 d)) rfl (by rfl) (exec_storeRow 33 (.tmp 11) (.tmp 45) rfl p11 rfl (va .u8 d) rfl 33 (va .u8 z) hp11 (sz_eq (sz_api_Block _ hzl) (sz_api_Block _ hdl)) (sz_api_Block _ hdl) (va_ones .u8 _)) ?_
 replace hp3 := hp3.rowFar (show p11 ≠ p3 from (by omega)) (va .u8 d)
 replace hp4 := hp4.rowFar (show p11 ≠ p4 from (by omega)) (va .u8 d)
 replace hgm := hgm.rowFar (show p11 ≠ gm from (by omega)) (va .u8 d)
 replace hp10 := hp10.rowFar (show p11 ≠ p10 from (by omega)) (va .u8 d)
 replace hp11 := hp11.row (va .u8 d)
 replace hW := below_setRow hW lw_p11 (va .u8 d)
 generalize w8.setRow p11 (va .u8 d) = w9 at *
 refine runL 12 (.int .i64 0) rfl (by rfl) (by go_simp) ?_
 simp only [Ls]
 refine nilL ?_
 go_upto_region 8 with fail
 refine wl_lit ?_
 refine runL 47 (.slice (some ⟨gm, 0, none⟩) 48 48) rfl (by rfl) (by go_simp) ?_
 simp only [Ls]
 refine runL 48 (.int .i64 0) rfl (by rfl) (by go_simp) ?_
 simp only [Ls]
 refine runL 49 (.pointer (some ⟨p3, 48, none⟩)) rfl (by rfl) (by go_simp) ?_
 simp only [Ls]
 refine runL 50 (.int .i64 (I : Int)) rfl (by rfl) (exec_cell 3 (.tmp 49) rfl p3 48 rfl (.int .i64 (I : Int)) _ Tryd.underlying3 rfl (sV_idx hp3 hel hml)) ?_
 simp only [Ls]
 refine runL 51 (.pointer (some ⟨p3, 49, none⟩)) rfl (by rfl) (by go_simp) ?_
 simp only [Ls]
 refine runL 52 (.agg (noV s c)) rfl (by rfl) (exec_mid 30 (.tmp 51) rfl p3 49 rfl ((noV s c).toList) _ (sV_no hp3 hel hml) (by exact Tryd.underlying30) rfl (by kernel_rfl)) ?_
 simp only [Ls]
 refine runL 53 (.agg (va .u8 d)) rfl (by rfl) (exec_row 33 (.tmp 4) rfl p4 rfl 33 (va .u8 d) _ hp4 (by exact Tryd.underlying33) rfl (sz_api_Block _ hdl)) ?_
 simp only [Ls]
 refine callL 54 rfl (by rfl) (fun K hK => wp_callF 13 #[.int .i64 (I : Int), .agg (noV s c), .agg (va .u8 d)] (by go_simp) (rmsg_any I s c d hI hs hdl hdb hc _) ?_)
 rintro e w10 ⟨AM, cM, rfl, hAM, bx⟩
 have nAM_p3 := hAM.off_lt hp3.lt
 have nAM_p4 := hAM.off_lt hp4.lt
 have nAM_gm := hAM.off_lt hgm.lt
 have nAM_p10 := hAM.off_lt hp10.lt
 have nAM_p11 := hAM.off_lt hp11.lt
 replace hAM := hAM.mono (Nat.le_trans hB0 hW.size)
 replace hp3 := blB hp3 bx
 replace hp4 := blB hp4 bx
 replace hgm := hgm.below bx hgm.lt
 replace hp10 := blB hp10 bx
 replace hp11 := blB hp11 bx
 replace hW := trB hW hB0 bx
 clear bx
 refine ⟨_, rfl, hK.out _ _ ?_⟩
 clear hK K
 simp only [Ls]
 refine callL 55 rfl (by rfl) (fun K hK => wp_callF 11 #[.slice (some ⟨gm, 0, none⟩) 48 48, .int .i64 0, .slice AM 48 cM, .int .i64 0] (by go_simp) (same09_any (msg I s c d) _ 48 _ AM cM _ 0 _ (hgm.readsAll (Nat.lt_succ_self _) (msg_len hdl)) hgm.lt hAM.reads (Nat.le_refl _)) ?_)
 rintro e w11 ⟨rfl, bx⟩
 replace hp3 := blB hp3 bx
 replace hp4 := blB hp4 bx
 replace hgm := hgm.below bx hgm.lt
 replace hp10 := blB hp10 bx
 replace hp11 := blB hp11 bx
 replace hAM := hAM.below bx
 replace hW := trB hW hB0 bx
 clear bx
 refine ⟨_, rfl, hK.out _ _ ?_⟩
 clear hK K
 simp only [Ls]
 refine runL 56 (.bool false) rfl (by rfl) (by go_simp) ?_
 simp only [Ls]
 refine runL 57 (.bool false) rfl (by rfl) (by go_simp) ?_
 simp only [Ls]
 refine runL 58 (.int .i64 (I : Int)) rfl (by rfl) (by go_simp) ?_
 simp only [Ls]
 refine runL 59 (.pointer (some ⟨p3, 48, none⟩)) rfl (by rfl) (by go_simp) ?_
 simp only [Ls]
 refine runL 60 (.int .i64 (I : Int)) rfl (by rfl) (exec_cell 3 (.tmp 59) rfl p3 48 rfl (.int .i64 (I : Int)) _ Tryd.underlying3 rfl (sV_idx hp3 hel hml)) ?_
 simp only [Ls]
 refine runL 61 (.bool false) rfl (by rfl) (by go_simp) ?_
 simp only [Ls]
 refine runL 62 (.bool false) rfl (by rfl) (by go_simp) ?_
 simp only [Ls]
 refine runL 63 (.bool false) rfl (by rfl) (by go_simp) ?_
 simp only [Ls]
 refine runL 64 (.agg (noV s c)) rfl (by rfl) (exec_row 30 (.tmp 10) rfl p10 rfl 30 (noV s c) _ hp10 (by exact Tryd.underlying30) rfl (noV_sz _ _)) ?_
 simp only [Ls]
 refine runL 65 (.pointer (some ⟨p3, 49, none⟩)) rfl (by rfl) (by go_simp) ?_
 simp only [Ls]
 refine runL 66 (.agg (noV s c)) rfl (by rfl) (exec_mid 30 (.tmp 65) rfl p3 49 rfl ((noV s c).toList) _ (sV_no hp3 hel hml) (by exact Tryd.underlying30) rfl (by kernel_rfl)) ?_
 simp only [Ls]
 refine runL 67 (.bool false) rfl (by rfl) (exec_neV 30 (by kernel_rfl) (.tmp 64) (.tmp 66) _ rfl (noV s c) (noV s c) rfl rfl true false rfl (by rw [eqNoD]; simp)) ?_
 simp only [Ls]
 refine runL 68 (.bool false) rfl (by rfl) (by go_simp) ?_
 simp only [Ls]
 refine runL 69 (.bool false) rfl (by rfl) (by go_simp) ?_
 simp only [Ls]
 refine runL 70 (.agg (va .u8 d)) rfl (by rfl) (exec_row 33 (.tmp 11) rfl p11 rfl 33 (va .u8 d) _ hp11 (by exact Tryd.underlying33) rfl (sz_api_Block _ hdl)) ?_
 simp only [Ls]
 refine runL 71 (.agg (va .u8 d)) rfl (by rfl) (exec_row 33 (.tmp 4) rfl p4 rfl 33 (va .u8 d) _ hp4 (by exact Tryd.underlying33) rfl (sz_api_Block _ hdl)) ?_
 simp only [Ls]
 refine runL 72 (.bool false) rfl (by rfl) (exec_neB 33 32 (by kernel_rfl) (by kernel_rfl) (.tmp 70) (.tmp 71) _ rfl d d hdl hdl rfl rfl false (by simp)) ?_
 simp only [Ls]
 refine runL 73 (.bool false) rfl (by rfl) (by go_simp) ?_
 simp only [Ls]
 refine runL 74 (.bool false) rfl (by rfl) (by go_simp) ?_
 simp only [Ls]
 refine runL 75 (.int .i64 0) rfl (by rfl) (by go_simp) ?_
 simp only [Ls]
 refine runL 76 (.bool false) rfl (by rfl) (by go_simp) ?_
 simp only [Ls]
 refine runL 77 (.bool false) rfl (by rfl) (by go_simp) ?_
 simp only [Ls]
 refine nilL ?_
 clear hgm
 clear hAM
 rcases Nat.lt_trichotomy n 48 with hn | hn | hn
 ·
  have hnI : (n : Int) < 48 := by omega
  have hnI2 : ¬ (48 : Int) < (n : Int) := by omega
  have hnI3 : ¬ (n : Int) = 48 := by omega
  go_upto_region 10 with fail
  refine wl_lit ?_
  refine runL 79 (.slice A n cc) rfl (by rfl) (by go_simp) ?_
  simp only [Ls]
  refine callL 80 rfl (by rfl) (fun K hK => wp_callF 12 #[.slice A n cc] (by go_simp) (sparse_lenz z hzq.out n 6 (.inl ⟨hn, rfl⟩) A cc _) ?_)
  rintro e w12 ⟨rfl, bx⟩
  replace hp3 := blB hp3 bx
  replace hp4 := blB hp4 bx
  replace hp10 := blB hp10 bx
  replace hp11 := blB hp11 bx
  replace hW := trB hW hB0 bx
  clear bx
  refine ⟨_, rfl, hK.out _ _ ?_⟩
  clear hK K
  simp only [Ls]
  refine runL 78 (.tuple #[.int .i64 0, .agg (noV 0 0), .agg (va .u8 z), .int .i64 6]) rfl (by rfl) (by go_simp) ?_
  simp only [Ls]
  refine runL 81 (.int .i64 0) rfl (by rfl) (by go_simp) ?_
  simp only [Ls]
  refine runL 82 (.agg (noV 0 0)) rfl (by rfl) (by go_simp) ?_
  simp only [Ls]
  refine runL 83 (.agg (va .u8 z)) rfl (by rfl) (by go_simp) ?_
  simp only [Ls]
  refine runL 84 (.int .i64 6) rfl (by rfl) (by go_simp) ?_
  simp only [Ls]
  refine runWL 14 (.pointer (some ⟨w12.heap.size, 0, none⟩)) (w12.alloc (.cells (noV 0 0) 30)) rfl (by rfl) (exec_allocV 30 rfl _ (zv_Nonce _)) ?_
  simp only [Ls]
  have lp3_p14 := hp3.lt
  have lp4_p14 := hp4.lt
  have lp10_p14 := hp10.lt
  have lp11_p14 := hp11.lt
  have lw_p14 := Nat.le_trans hB0 hW.size
  have hp14 := Blk.new w12 30 (noV 0 0)
  have bx := bAl w12 (.cells (noV 0 0) 30)
  replace hp3 := blB hp3 bx
  replace hp4 := blB hp4 bx
  replace hp10 := blB hp10 bx
  replace hp11 := blB hp11 bx
  replace hW := trB hW hB0 bx
  clear bx
  generalize w12.alloc (.cells (noV 0 0) 30) = w13 at *
  generalize w12.heap.size = p14 at hp14 lw_p14 lp3_p14 lp4_p14 lp10_p14 lp11_p14 ⊢
  refine runWL 15 (.pointer (some ⟨w13.heap.size, 0, none⟩)) (w13.alloc (.cells (va .u8 z) 33)) rfl (by rfl) (exec_allocV 33 rfl _ (zv_blkz z hzq.out _)) ?_
  simp only [Ls]
  have lp3_p15 := hp3.lt
  have lp4_p15 := hp4.lt
  have lp10_p15 := hp10.lt
  have lp11_p15 := hp11.lt
  have lp14_p15 := hp14.lt
  have lw_p15 := Nat.le_trans hB0 hW.size
  have hp15 := Blk.new w13 33 (va .u8 z)
  have bx := bAl w13 (.cells (va .u8 z) 33)
  replace hp3 := blB hp3 bx
  replace hp4 := blB hp4 bx
  replace hp10 := blB hp10 bx
  replace hp11 := blB hp11 bx
  replace hp14 := blB hp14 bx
  replace hW := trB hW hB0 bx
  clear bx
  generalize w13.alloc (.cells (va .u8 z) 33) = w14 at *
  generalize w13.heap.size = p15 at hp15 lw_p15 lp3_p15 lp4_p15 lp10_p15 lp11_p15 lp14_p15 ⊢
  refine runL 13 (.int .i64 0) rfl (by rfl) (by go_simp) ?_
  simp only [Ls]
  refine runSL (w14.setRow p14 (noV 0 0)) rfl (by rfl) (exec_storeRow 30 (.tmp 14) (.tmp 82) rfl p14 rfl (noV 0 0) rfl 30 (noV 0 0) hp14 (sz_eq (noV_sz _ _) (noV_sz _ _)) (noV_sz _ _) (noV_one _ _)) ?_
  replace hp3 := hp3.rowFar (show p14 ≠ p3 from (by omega)) (noV 0 0)
  replace hp4 := hp4.rowFar (show p14 ≠ p4 from (by omega)) (noV 0 0)
  replace hp10 := hp10.rowFar (show p14 ≠ p10 from (by omega)) (noV 0 0)
  replace hp11 := hp11.rowFar (show p14 ≠ p11 from (by omega)) (noV 0 0)
  replace hp15 := hp15.rowFar (show p14 ≠ p15 from (by omega)) (noV 0 0)
  replace hp14 := hp14.row (noV 0 0)
  replace hW := below_setRow hW lw_p14 (noV 0 0)
  generalize w14.setRow p14 (noV 0 0) = w15 at *
  refine runSL (w15.setRow p15 (va .u8 z)) rfl (by rfl) (exec_storeRow 33 (.tmp 15) (.tmp 83) rfl p15 rfl (va .u8 z) rfl 33 (va .u8 z) hp15 (sz_eq (sz_api_Block _ hzl) (sz_api_Block _ hzl)) (sz_api_Block _ hzl) (va_ones .u8 _)) ?_
  replace hp3 := hp3.rowFar (show p15 ≠ p3 from (by omega)) (va .u8 z)
  replace hp4 := hp4.rowFar (show p15 ≠ p4 from (by omega)) (va .u8 z)
  replace hp10 := hp10.rowFar (show p15 ≠ p10 from (by omega)) (va .u8 z)
  replace hp11 := hp11.rowFar (show p15 ≠ p11 from (by omega)) (va .u8 z)
  replace hp14 := hp14.rowFar (show p15 ≠ p14 from (by omega)) (va .u8 z)
  replace hp15 := hp15.row (va .u8 z)
  replace hW := below_setRow hW lw_p15 (va .u8 z)
  generalize w15.setRow p15 (va .u8 z) = w16 at *
  refine runL 16 (.int .i64 6) rfl (by rfl) (by go_simp) ?_
  simp only [Ls]
  refine nilL ?_
  go_upto_region 11 with fail
  refine wl_lit ?_
  refine runL 85 (.int .i64 6) rfl (by rfl) (by go_simp) ?_
  simp only [Ls]
  refine runL 86 (.bool false) rfl (by rfl) (by go_simp) ?_
  simp only [Ls]
  refine nilL ?_
  go_upto_region 14 with fail
  refine wl_lit ?_
  refine runL 19 (.int .i64 1) rfl (by rfl) (by go_simp) ?_
  simp only [Ls]
  refine nilL ?_
  go_upto_region 15 with fail
  refine wl_lit ?_
  refine runL 101 (.slice A n cc) rfl (by rfl) (by go_simp) ?_
  simp only [Ls]
  refine runL 102 (.int .i64 n) rfl (by rfl) (by go_simp) ?_
  simp only [Ls]
  refine runL 103 (.bool true) rfl (by rfl) (by go_simp) ?_
  simp only [Ls]
  refine nilL ?_
  go_upto_region 16 with fail
  refine wl_lit ?_
  refine runL 19 (.int .i64 6) rfl (by rfl) (by go_simp) ?_
  simp only [Ls]
  refine nilL ?_
  go_upto_region 17 with fail
  refine wl_lit ?_
  refine runL 104 (.slice A n cc) rfl (by rfl) (by go_simp) ?_
  simp only [Ls]
  refine runL 105 (.int .i64 n) rfl (by rfl) (by go_simp) ?_
  simp only [Ls]
  refine runL 106 (.bool false) rfl (by rfl) (by go_simp) ?_
  simp only [Ls]
  refine nilL ?_
  go_upto_region 19 with fail
  refine wl_lit ?_
  refine runL 107 (.int .i64 6) rfl (by rfl) (by go_simp) ?_
  simp only [Ls]
  refine runL 108 (.int .i64 6) rfl (by rfl) (by go_simp) ?_
  simp only [Ls]
  refine runL 109 (.bool true) rfl (by rfl) (by go_simp) ?_
  simp only [Ls]
  refine runL 110 (.bool true) rfl (by rfl) (by go_simp) ?_
  simp only [Ls]
  refine runL 111 (.slice A n cc) rfl (by rfl) (by go_simp) ?_
  simp only [Ls]
  refine runL 112 (.int .i64 n) rfl (by rfl) (by go_simp) ?_
  simp only [Ls]
  refine runL 113 (.bool true) rfl (by rfl) (by go_simp) ?_
  simp only [Ls]
  refine runL 114 (.bool true) rfl (by rfl) (by go_simp) ?_
  simp only [Ls]
  refine skipL 115 rfl (by kernel_rfl) ?_
  simp only [Ls]
  refine skipL 116 rfl (by kernel_rfl) ?_
  simp only [Ls]
  refine skipL 117 rfl (by kernel_rfl) ?_
  simp only [Ls]
  refine skipL 118 rfl (by kernel_rfl) ?_
  simp only [Ls]
  refine runL 119 (.bool true) rfl (by rfl) (by go_simp) ?_
  simp only [Ls]
  refine runL 120 (.bool true) rfl (by rfl) (by go_simp) ?_
  simp only [Ls]
  refine skipL 121 rfl (by kernel_rfl) ?_
  simp only [Ls]
  refine skipL 122 rfl (by kernel_rfl) ?_
  simp only [Ls]
  refine skipL 123 rfl (by kernel_rfl) ?_
  simp only [Ls]
  refine skipL 124 rfl (by kernel_rfl) ?_
  simp only [Ls]
  refine runL 125 (.bool true) rfl (by rfl) (by go_simp) ?_
  simp only [Ls]
  refine runL 126 (.bool true) rfl (by rfl) (by go_simp) ?_
  simp only [Ls]
  refine skipL 127 rfl (by kernel_rfl) ?_
  simp only [Ls]
  refine skipL 128 rfl (by kernel_rfl) ?_
  simp only [Ls]
  refine skipL 129 rfl (by kernel_rfl) ?_
  simp only [Ls]
  refine skipL 130 rfl (by kernel_rfl) ?_
  simp only [Ls]
  refine runL 131 (.bool true) rfl (by rfl) (by go_simp) ?_
  simp only [Ls]
  refine runL 132 (.bool true) rfl (by rfl) (by go_simp) ?_
  simp only [Ls]
  refine runL 133 (.bool true) rfl (by rfl) (by go_simp) ?_
  simp only [Ls]
  refine runL 134 (.int .i64 0) rfl (by rfl) (by go_simp) ?_
  simp only [Ls]
  refine runL 135 (.bool true) rfl (by rfl) (by go_simp) ?_
  simp only [Ls]
  refine runL 136 (.bool true) rfl (by rfl) (by go_simp) ?_
  simp only [Ls]
  refine runL 137 (.bool true) rfl (by rfl) (by go_simp) ?_
  simp only [Ls]
  refine runL 138 (.agg (noV 0 0)) rfl (by rfl) (exec_row 30 (.tmp 14) rfl p14 rfl 30 (noV 0 0) _ hp14 (by exact Tryd.underlying30) rfl (noV_sz _ _)) ?_
  simp only [Ls]
  refine runL 139 (.agg (noV 0 0)) rfl (by rfl) (exec_build 30 _ rfl (noV 0 0) (by kernel_rfl)) ?_
  simp only [Ls]
  refine runL 140 (.bool true) rfl (by rfl) (exec_eqV 30 (by kernel_rfl) (.tmp 138) (.tmp 139) _ rfl (noV 0 0) (noV 0 0) rfl rfl true (by rw [eqNoD]; simp)) ?_
  simp only [Ls]
  refine runL 141 (.bool true) rfl (by rfl) (by go_simp) ?_
  simp only [Ls]
  refine runL 142 (.bool true) rfl (by rfl) (by go_simp) ?_
  simp only [Ls]
  refine runL 143 (.agg (va .u8 z)) rfl (by rfl) (exec_row 33 (.tmp 15) rfl p15 rfl 33 (va .u8 z) _ hp15 (by exact Tryd.underlying33) rfl (sz_api_Block _ hzl)) ?_
  simp only [Ls]
  refine runL 144 (.agg (va .u8 z)) rfl (by rfl) (exec_build 33 _ rfl (va .u8 z) (by rw [← hzq.out]; kernel_rfl)) ?_
  simp only [Ls]
  refine runL 145 (.bool true) rfl (by rfl) (exec_eqB 33 32 (by kernel_rfl) (by kernel_rfl) (.tmp 143) (.tmp 144) _ rfl z z hzl hzl rfl rfl true (by simp)) ?_
  simp only [Ls]
  refine runL 146 (.bool true) rfl (by rfl) (by go_simp) ?_
  simp only [Ls]
  refine runL 147 (.bool true) rfl (by rfl) (by go_simp) ?_
  simp only [Ls]
  refine callL 148 rfl (by rfl) (fun K hK => wp_callF 8 #[] (by go_simp) (lives09_any _ (gl.out _ hW)) ?_)
  rintro e w17 ⟨rfl, bx⟩
  replace hp3 := blB hp3 bx
  replace hp4 := blB hp4 bx
  replace hp10 := blB hp10 bx
  replace hp11 := blB hp11 bx
  replace hp14 := blB hp14 bx
  replace hp15 := blB hp15 bx
  replace hW := trB hW hB0 bx
  clear bx
  refine ⟨_, rfl, hK.out _ _ ?_⟩
  clear hK K
  simp only [Ls]
  refine runL 149 (.bool true) rfl (by rfl) (by go_simp) ?_
  simp only [Ls]
  refine runL 6 (.bool true) rfl (by rfl) (by go_simp) ?_
  simp only [Ls]
  refine nilL ?_
  go_wp2_with fail
  go_ret
  exact ⟨rfl, hW⟩
 ·
  subst hn
  obtain ⟨j, hj0⟩ : ∃ j, mI l = j := ⟨_, rfl⟩
  have hll : l.length = 48 := by omega
  by_cases hj : j < 4096
  ·
   obtain ⟨s2, hs20⟩ : ∃ j, mS l = j := ⟨_, rfl⟩
   obtain ⟨c2, hc20⟩ : ∃ j, mC l = j := ⟨_, rfl⟩
   obtain ⟨d2, hd20⟩ : ∃ j, mD l = j := ⟨_, rfl⟩
   have hs2 : s2 < 4294967296 := by rw [← hs20]; exact mS_lt l (by omega) hlb
   have hd2l : d2.length = 32 := by rw [← hd20, mD, List.length_drop]; omega
   have hd2b : Byt d2 := by rw [← hd20]; exact hlb.drop 16
   have hm0 : msg j s2 c2 d2 = l := by rw [← hj0, ← hs20, ← hc20, ← hd20]; exact msg_of l hll hlb
   have hjq := Lib.hid hj0
   have hs2q := Lib.hid hs20
   have hc2q := Lib.hid hc20
   have hd2q := Lib.hid hd20
   have hmq := Lib.hid hm0
   clear hj0 hs20 hc20 hd20 hm0
   go_upto_region 10 with fail
   refine wl_lit ?_
   refine runL 79 (.slice A 48 cc) rfl (by rfl) (by go_simp) ?_
   simp only [Ls]
   refine callL 80 rfl (by rfl) (fun K hK => wp_callF 12 #[.slice A 48 cc] (by go_simp) (sparse_ok l hll hlb A cc _ hnc _ (rd.out _ hW) (Nat.le_trans hBB (Nat.le_trans hB0 hW.size)) j s2 c2 d2 hjq.out hj hs2q.out hc2q.out hd2q.out) ?_)
   rintro e w12 ⟨rfl, bx⟩
   replace hp3 := blB hp3 bx
   replace hp4 := blB hp4 bx
   replace hp10 := blB hp10 bx
   replace hp11 := blB hp11 bx
   replace hW := trB hW hB0 bx
   clear bx
   refine ⟨_, rfl, hK.out _ _ ?_⟩
   clear hK K
   simp only [Ls]
   refine runL 78 (.tuple #[.int .i64 (j : Int), .agg (noV s2 c2), .agg (va .u8 d2), .int .i64 0]) rfl (by rfl) (by go_simp) ?_
   simp only [Ls]
   refine runL 81 (.int .i64 (j : Int)) rfl (by rfl) (by go_simp) ?_
   simp only [Ls]
   refine runL 82 (.agg (noV s2 c2)) rfl (by rfl) (by go_simp) ?_
   simp only [Ls]
   refine runL 83 (.agg (va .u8 d2)) rfl (by rfl) (by go_simp) ?_
   simp only [Ls]
   refine runL 84 (.int .i64 0) rfl (by rfl) (by go_simp) ?_
   simp only [Ls]
   refine runWL 14 (.pointer (some ⟨w12.heap.size, 0, none⟩)) (w12.alloc (.cells (noV 0 0) 30)) rfl (by rfl) (exec_allocV 30 rfl _ (zv_Nonce _)) ?_
   simp only [Ls]
   have lp3_p14 := hp3.lt
   have lp4_p14 := hp4.lt
   have lp10_p14 := hp10.lt
   have lp11_p14 := hp11.lt
   have lw_p14 := Nat.le_trans hB0 hW.size
   have hp14 := Blk.new w12 30 (noV 0 0)
   have bx := bAl w12 (.cells (noV 0 0) 30)
   replace hp3 := blB hp3 bx
   replace hp4 := blB hp4 bx
   replace hp10 := blB hp10 bx
   replace hp11 := blB hp11 bx
   replace hW := trB hW hB0 bx
   clear bx
   generalize w12.alloc (.cells (noV 0 0) 30) = w13 at *
   generalize w12.heap.size = p14 at hp14 lw_p14 lp3_p14 lp4_p14 lp10_p14 lp11_p14 ⊢
   refine runWL 15 (.pointer (some ⟨w13.heap.size, 0, none⟩)) (w13.alloc (.cells (va .u8 z) 33)) rfl (by rfl) (exec_allocV 33 rfl _ (zv_blkz z hzq.out _)) ?_
   simp only [Ls]
   have lp3_p15 := hp3.lt
   have lp4_p15 := hp4.lt
   have lp10_p15 := hp10.lt
   have lp11_p15 := hp11.lt
   have lp14_p15 := hp14.lt
   have lw_p15 := Nat.le_trans hB0 hW.size
   have hp15 := Blk.new w13 33 (va .u8 z)
   have bx := bAl w13 (.cells (va .u8 z) 33)
   replace hp3 := blB hp3 bx
   replace hp4 := blB hp4 bx
   replace hp10 := blB hp10 bx
   replace hp11 := blB hp11 bx
   replace hp14 := blB hp14 bx
   replace hW := trB hW hB0 bx
   clear bx
   generalize w13.alloc (.cells (va .u8 z) 33) = w14 at *
   generalize w13.heap.size = p15 at hp15 lw_p15 lp3_p15 lp4_p15 lp10_p15 lp11_p15 lp14_p15 ⊢
   refine runL 13 (.int .i64 (j : Int)) rfl (by rfl) (by go_simp) ?_
   simp only [Ls]
   refine runSL (w14.setRow p14 (noV s2 c2)) rfl (by rfl) (exec_storeRow 30 (.tmp 14) (.tmp 82) rfl p14 rfl (noV s2 c2) rfl 30 (noV 0 0) hp14 (sz_eq (noV_sz _ _) (noV_sz _ _)) (noV_sz _ _) (noV_one _ _)) ?_
   replace hp3 := hp3.rowFar (show p14 ≠ p3 from (by omega)) (noV s2 c2)
   replace hp4 := hp4.rowFar (show p14 ≠ p4 from (by omega)) (noV s2 c2)
   replace hp10 := hp10.rowFar (show p14 ≠ p10 from (by omega)) (noV s2 c2)
   replace hp11 := hp11.rowFar (show p14 ≠ p11 from (by omega)) (noV s2 c2)
   replace hp15 := hp15.rowFar (show p14 ≠ p15 from (by omega)) (noV s2 c2)
   replace hp14 := hp14.row (noV s2 c2)
   replace hW := below_setRow hW lw_p14 (noV s2 c2)
   generalize w14.setRow p14 (noV s2 c2) = w15 at *
   refine runSL (w15.setRow p15 (va .u8 d2)) rfl (by rfl) (exec_storeRow 33 (.tmp 15) (.tmp 83) rfl p15 rfl (va .u8 d2) rfl 33 (va .u8 z) hp15 (sz_eq (sz_api_Block _ hzl) (sz_api_Block _ hd2l)) (sz_api_Block _ hd2l) (va_ones .u8 _)) ?_
   replace hp3 := hp3.rowFar (show p15 ≠ p3 from (by omega)) (va .u8 d2)
   replace hp4 := hp4.rowFar (show p15 ≠ p4 from (by omega)) (va .u8 d2)
   replace hp10 := hp10.rowFar (show p15 ≠ p10 from (by omega)) (va .u8 d2)
   replace hp11 := hp11.rowFar (show p15 ≠ p11 from (by omega)) (va .u8 d2)
   replace hp14 := hp14.rowFar (show p15 ≠ p14 from (by omega)) (va .u8 d2)
   replace hp15 := hp15.row (va .u8 d2)
   replace hW := below_setRow hW lw_p15 (va .u8 d2)
   generalize w15.setRow p15 (va .u8 d2) = w16 at *
   refine runL 16 (.int .i64 0) rfl (by rfl) (by go_simp) ?_
   simp only [Ls]
   refine nilL ?_
   go_upto_region 11 with fail
   refine wl_lit ?_
   refine runL 85 (.int .i64 0) rfl (by rfl) (by go_simp) ?_
   simp only [Ls]
   refine runL 86 (.bool true) rfl (by rfl) (by go_simp) ?_
   simp only [Ls]
   refine nilL ?_
   go_upto_region 12 with fail
   refine wl_lit ?_
   refine runL 88 (.int .i64 (j : Int)) rfl (by rfl) (by go_simp) ?_
   simp only [Ls]
   refine runL 89 (.agg (noV s2 c2)) rfl (by rfl) (exec_row 30 (.tmp 14) rfl p14 rfl 30 (noV s2 c2) _ hp14 (by exact Tryd.underlying30) rfl (noV_sz _ _)) ?_
   simp only [Ls]
   refine runL 90 (.agg (va .u8 d2)) rfl (by rfl) (exec_row 33 (.tmp 15) rfl p15 rfl 33 (va .u8 d2) _ hp15 (by exact Tryd.underlying33) rfl (sz_api_Block _ hd2l)) ?_
   simp only [Ls]
   refine callL 91 rfl (by rfl) (fun K hK => wp_callF 9 #[.int .i64 (j : Int), .agg (noV s2 c2), .agg (va .u8 d2)] (by go_simp) (smessage_to l j s2 c2 d2 hmq.out hj hs2 hd2l hd2b _) ?_)
   rintro e w17 ⟨gq, rfl, hgq, hgg, bx⟩
   have lp3_gq : p3 < gq := Nat.lt_of_lt_of_le hp3.lt hgg
   have lp4_gq : p4 < gq := Nat.lt_of_lt_of_le hp4.lt hgg
   have lp10_gq : p10 < gq := Nat.lt_of_lt_of_le hp10.lt hgg
   have lp11_gq : p11 < gq := Nat.lt_of_lt_of_le hp11.lt hgg
   have lp14_gq : p14 < gq := Nat.lt_of_lt_of_le hp14.lt hgg
   have lp15_gq : p15 < gq := Nat.lt_of_lt_of_le hp15.lt hgg
   have lw_gq : B0 ≤ gq := Nat.le_trans (Nat.le_trans hB0 hW.size) hgg
   replace hp3 := blB hp3 bx
   replace hp4 := blB hp4 bx
   replace hp10 := blB hp10 bx
   replace hp11 := blB hp11 bx
   replace hp14 := blB hp14 bx
   replace hp15 := blB hp15 bx
   replace hW := trB hW hB0 bx
   clear hgg
   clear bx
   refine ⟨_, rfl, hK.out _ _ ?_⟩
   clear hK K
   simp only [Ls]
   refine runL 87 (.tuple #[.slice (some ⟨gq, 0, none⟩) 48 48, .int .i64 0]) rfl (by rfl) (by go_simp) ?_
   simp only [Ls]
   refine runL 92 (.slice (some ⟨gq, 0, none⟩) 48 48) rfl (by rfl) (by go_simp) ?_
   simp only [Ls]
   refine runL 93 (.int .i64 0) rfl (by rfl) (by go_simp) ?_
   simp only [Ls]
   refine runL 17 (.slice (some ⟨gq, 0, none⟩) 48 48) rfl (by rfl) (by go_simp) ?_
   simp only [Ls]
   refine runL 18 (.int .i64 0) rfl (by rfl) (by go_simp) ?_
   simp only [Ls]
   refine nilL ?_
   go_upto_region 13 with fail
   refine wl_lit ?_
   refine runL 94 (.slice (some ⟨gq, 0, none⟩) 48 48) rfl (by rfl) (by go_simp) ?_
   simp only [Ls]
   refine runL 95 (.int .i64 0) rfl (by rfl) (by go_simp) ?_
   simp only [Ls]
   refine runL 96 (.slice A 48 cc) rfl (by rfl) (by go_simp) ?_
   simp only [Ls]
   refine callL 97 rfl (by rfl) (fun K hK => wp_callF 11 #[.slice (some ⟨gq, 0, none⟩) 48 48, .int .i64 0, .slice A 48 cc, .int .i64 0] (by go_simp) (same09_any l _ 48 _ A cc _ 0 _ (hgq.readsAll (Nat.lt_succ_self _) hll) hgq.lt (rd.out _ hW) (Nat.le_trans hBB (Nat.le_trans hB0 hW.size))) ?_)
   rintro e w18 ⟨rfl, bx⟩
   replace hp3 := blB hp3 bx
   replace hp4 := blB hp4 bx
   replace hp10 := blB hp10 bx
   replace hp11 := blB hp11 bx
   replace hp14 := blB hp14 bx
   replace hp15 := blB hp15 bx
   replace hgq := hgq.below bx hgq.lt
   replace hW := trB hW hB0 bx
   clear bx
   refine ⟨_, rfl, hK.out _ _ ?_⟩
   clear hK K
   simp only [Ls]
   refine runL 98 (.bool true) rfl (by rfl) (by go_simp) ?_
   simp only [Ls]
   refine callL 99 rfl (by rfl) (fun K hK => wp_callF 8 #[] (by go_simp) (lives09_any _ (gl.out _ hW)) ?_)
   rintro e w19 ⟨rfl, bx⟩
   replace hp3 := blB hp3 bx
   replace hp4 := blB hp4 bx
   replace hp10 := blB hp10 bx
   replace hp11 := blB hp11 bx
   replace hp14 := blB hp14 bx
   replace hp15 := blB hp15 bx
   replace hgq := hgq.below bx hgq.lt
   replace hW := trB hW hB0 bx
   clear bx
   refine ⟨_, rfl, hK.out _ _ ?_⟩
   clear hK K
   simp only [Ls]
   refine runL 100 (.bool true) rfl (by rfl) (by go_simp) ?_
   simp only [Ls]
   refine runL 6 (.bool true) rfl (by rfl) (by go_simp) ?_
   simp only [Ls]
   refine nilL ?_
   go_wp2_with fail
   go_ret
   exact ⟨rfl, hW⟩
  ·
   have hj3 : j < 4294967296 := by rw [← hj0]; exact mI_lt l (by omega) hlb
   replace hj : 4096 ≤ j := by omega
   have hfar := mI_far l hll hlb (by omega)
   obtain ⟨ad, rfl, -, -⟩ := hr.num (i := 0) (by omega)
   have hjq := Lib.hid hj0
   obtain ⟨b0, hb0⟩ : ∃ j, l.getD 0 0 = j := ⟨_, rfl⟩
   obtain ⟨b1, hb1⟩ : ∃ j, l.getD 1 0 = j := ⟨_, rfl⟩
   obtain ⟨b2, hb2⟩ : ∃ j, l.getD 2 0 = j := ⟨_, rfl⟩
   rw [hb0, hb1, hb2] at hfar
   have hb0q := Lib.hid hb0
   have hb1q := Lib.hid hb1
   have hb2q := Lib.hid hb2
   clear hj0 hb0 hb1 hb2
   by_cases h0 : 0 < b0
   ·
    have h0I : (0 : Int) < (b0 : Int) := by omega
    go_upto_region 10 with fail
    refine wl_lit ?_
    refine runL 79 (.slice (some ad) 48 cc) rfl (by rfl) (by go_simp) ?_
    simp only [Ls]
    refine callL 80 rfl (by rfl) (fun K hK => wp_callF 12 #[.slice (some ad) 48 cc] (by go_simp) (sparse_farz z hzq.out l hll hlb (some ad) cc _ hnc _ (rd.out _ hW) (Nat.le_trans hBB (Nat.le_trans hB0 hW.size)) j hjq.out hj hj3) ?_)
    rintro e w12 ⟨rfl, bx⟩
    replace hp3 := blB hp3 bx
    replace hp4 := blB hp4 bx
    replace hp10 := blB hp10 bx
    replace hp11 := blB hp11 bx
    replace hW := trB hW hB0 bx
    clear bx
    refine ⟨_, rfl, hK.out _ _ ?_⟩
    clear hK K
    simp only [Ls]
    refine runL 78 (.tuple #[.int .i64 0, .agg (noV 0 0), .agg (va .u8 z), .int .i64 1]) rfl (by rfl) (by go_simp) ?_
    simp only [Ls]
    refine runL 81 (.int .i64 0) rfl (by rfl) (by go_simp) ?_
    simp only [Ls]
    refine runL 82 (.agg (noV 0 0)) rfl (by rfl) (by go_simp) ?_
    simp only [Ls]
    refine runL 83 (.agg (va .u8 z)) rfl (by rfl) (by go_simp) ?_
    simp only [Ls]
    refine runL 84 (.int .i64 1) rfl (by rfl) (by go_simp) ?_
    simp only [Ls]
    refine runWL 14 (.pointer (some ⟨w12.heap.size, 0, none⟩)) (w12.alloc (.cells (noV 0 0) 30)) rfl (by rfl) (exec_allocV 30 rfl _ (zv_Nonce _)) ?_
    simp only [Ls]
    have lp3_p14 := hp3.lt
    have lp4_p14 := hp4.lt
    have lp10_p14 := hp10.lt
    have lp11_p14 := hp11.lt
    have lw_p14 := Nat.le_trans hB0 hW.size
    have hp14 := Blk.new w12 30 (noV 0 0)
    have bx := bAl w12 (.cells (noV 0 0) 30)
    replace hp3 := blB hp3 bx
    replace hp4 := blB hp4 bx
    replace hp10 := blB hp10 bx
    replace hp11 := blB hp11 bx
    replace hW := trB hW hB0 bx
    clear bx
    generalize w12.alloc (.cells (noV 0 0) 30) = w13 at *
    generalize w12.heap.size = p14 at hp14 lw_p14 lp3_p14 lp4_p14 lp10_p14 lp11_p14 ⊢
    refine runWL 15 (.pointer (some ⟨w13.heap.size, 0, none⟩)) (w13.alloc (.cells (va .u8 z) 33)) rfl (by rfl) (exec_allocV 33 rfl _ (zv_blkz z hzq.out _)) ?_
    simp only [Ls]
    have lp3_p15 := hp3.lt
    have lp4_p15 := hp4.lt
    have lp10_p15 := hp10.lt
    have lp11_p15 := hp11.lt
    have lp14_p15 := hp14.lt
    have lw_p15 := Nat.le_trans hB0 hW.size
    have hp15 := Blk.new w13 33 (va .u8 z)
    have bx := bAl w13 (.cells (va .u8 z) 33)
    replace hp3 := blB hp3 bx
    replace hp4 := blB hp4 bx
    replace hp10 := blB hp10 bx
    replace hp11 := blB hp11 bx
    replace hp14 := blB hp14 bx
    replace hW := trB hW hB0 bx
    clear bx
    generalize w13.alloc (.cells (va .u8 z) 33) = w14 at *
    generalize w13.heap.size = p15 at hp15 lw_p15 lp3_p15 lp4_p15 lp10_p15 lp11_p15 lp14_p15 ⊢
    refine runL 13 (.int .i64 0) rfl (by rfl) (by go_simp) ?_
    simp only [Ls]
    refine runSL (w14.setRow p14 (noV 0 0)) rfl (by rfl) (exec_storeRow 30 (.tmp 14) (.tmp 82) rfl p14 rfl (noV 0 0) rfl 30 (noV 0 0) hp14 (sz_eq (noV_sz _ _) (noV_sz _ _)) (noV_sz _ _) (noV_one _ _)) ?_
    replace hp3 := hp3.rowFar (show p14 ≠ p3 from (by omega)) (noV 0 0)
    replace hp4 := hp4.rowFar (show p14 ≠ p4 from (by omega)) (noV 0 0)
    replace hp10 := hp10.rowFar (show p14 ≠ p10 from (by omega)) (noV 0 0)
    replace hp11 := hp11.rowFar (show p14 ≠ p11 from (by omega)) (noV 0 0)
    replace hp15 := hp15.rowFar (show p14 ≠ p15 from (by omega)) (noV 0 0)
    replace hp14 := hp14.row (noV 0 0)
    replace hW := below_setRow hW lw_p14 (noV 0 0)
    generalize w14.setRow p14 (noV 0 0) = w15 at *
    refine runSL (w15.setRow p15 (va .u8 z)) rfl (by rfl) (exec_storeRow 33 (.tmp 15) (.tmp 83) rfl p15 rfl (va .u8 z) rfl 33 (va .u8 z) hp15 (sz_eq (sz_api_Block _ hzl) (sz_api_Block _ hzl)) (sz_api_Block _ hzl) (va_ones .u8 _)) ?_
    replace hp3 := hp3.rowFar (show p15 ≠ p3 from (by omega)) (va .u8 z)
    replace hp4 := hp4.rowFar (show p15 ≠ p4 from (by omega)) (va .u8 z)
    replace hp10 := hp10.rowFar (show p15 ≠ p10 from (by omega)) (va .u8 z)
    replace hp11 := hp11.rowFar (show p15 ≠ p11 from (by omega)) (va .u8 z)
    replace hp14 := hp14.rowFar (show p15 ≠ p14 from (by omega)) (va .u8 z)
    replace hp15 := hp15.row (va .u8 z)
    replace hW := below_setRow hW lw_p15 (va .u8 z)
    generalize w15.setRow p15 (va .u8 z) = w16 at *
    refine runL 16 (.int .i64 1) rfl (by rfl) (by go_simp) ?_
    simp only [Ls]
    refine nilL ?_
    go_upto_region 11 with fail
    refine wl_lit ?_
    refine runL 85 (.int .i64 1) rfl (by rfl) (by go_simp) ?_
    simp only [Ls]
    refine runL 86 (.bool false) rfl (by rfl) (by go_simp) ?_
    simp only [Ls]
    refine nilL ?_
    go_upto_region 14 with fail
    refine wl_lit ?_
    refine runL 19 (.int .i64 1) rfl (by rfl) (by go_simp) ?_
    simp only [Ls]
    refine nilL ?_
    go_upto_region 15 with fail
    refine wl_lit ?_
    refine runL 101 (.slice (some ad) 48 cc) rfl (by rfl) (by go_simp) ?_
    simp only [Ls]
    refine runL 102 (.int .i64 48) rfl (by rfl) (by go_simp) ?_
    simp only [Ls]
    refine runL 103 (.bool false) rfl (by rfl) (by go_simp) ?_
    simp only [Ls]
    refine nilL ?_
    go_upto_region 17 with fail
    refine wl_lit ?_
    refine runL 104 (.slice (some ad) 48 cc) rfl (by rfl) (by go_simp) ?_
    simp only [Ls]
    refine runL 105 (.int .i64 48) rfl (by rfl) (by go_simp) ?_
    simp only [Ls]
    refine runL 106 (.bool false) rfl (by rfl) (by go_simp) ?_
    simp only [Ls]
    refine nilL ?_
    go_upto_region 19 with fail
    refine wl_lit ?_
    refine runL 107 (.int .i64 1) rfl (by rfl) (by go_simp) ?_
    simp only [Ls]
    refine runL 108 (.int .i64 1) rfl (by rfl) (by go_simp) ?_
    simp only [Ls]
    refine runL 109 (.bool true) rfl (by rfl) (by go_simp) ?_
    simp only [Ls]
    refine runL 110 (.bool true) rfl (by rfl) (by go_simp) ?_
    simp only [Ls]
    refine runL 111 (.slice (some ad) 48 cc) rfl (by rfl) (by go_simp) ?_
    simp only [Ls]
    refine runL 112 (.int .i64 48) rfl (by rfl) (by go_simp) ?_
    simp only [Ls]
    refine runL 113 (.bool false) rfl (by rfl) (by go_simp) ?_
    simp only [Ls]
    refine runL 114 (.bool false) rfl (by rfl) (by go_simp) ?_
    simp only [Ls]
    refine runL 115 (.slice (some ad) 48 cc) rfl (by rfl) (by go_simp) ?_
    simp only [Ls]
    refine runL 116 (.pointer (some (ad.add 0))) rfl (by rfl) (by go_simp) ?_
    simp only [Ls]
    refine runL 117 (.int .u8 ((b0 : Nat) : Int)) rfl (by rfl) (exec_cellA9 5 (.tmp 116) rfl (ad.add 0) rfl (.int .u8 ((b0 : Nat) : Int)) _ Tryd.underlying5 rfl (by rw [← hb0q.out]; exact (rd.out _ hW).numA (by decide))) ?_
    simp only [Ls]
    refine runL 118 (.bool true) rfl (by rfl) (by go_simp) ?_
    simp only [Ls]
    refine runL 119 (.bool true) rfl (by rfl) (by go_simp) ?_
    simp only [Ls]
    refine runL 120 (.bool true) rfl (by rfl) (by go_simp) ?_
    simp only [Ls]
    refine skipL 121 rfl (by kernel_rfl) ?_
    simp only [Ls]
    refine skipL 122 rfl (by kernel_rfl) ?_
    simp only [Ls]
    refine skipL 123 rfl (by kernel_rfl) ?_
    simp only [Ls]
    refine skipL 124 rfl (by kernel_rfl) ?_
    simp only [Ls]
    refine runL 125 (.bool true) rfl (by rfl) (by go_simp) ?_
    simp only [Ls]
    refine runL 126 (.bool true) rfl (by rfl) (by go_simp) ?_
    simp only [Ls]
    refine skipL 127 rfl (by kernel_rfl) ?_
    simp only [Ls]
    refine skipL 128 rfl (by kernel_rfl) ?_
    simp only [Ls]
    refine skipL 129 rfl (by kernel_rfl) ?_
    simp only [Ls]
    refine skipL 130 rfl (by kernel_rfl) ?_
    simp only [Ls]
    refine runL 131 (.bool true) rfl (by rfl) (by go_simp) ?_
    simp only [Ls]
    refine runL 132 (.bool true) rfl (by rfl) (by go_simp) ?_
    simp only [Ls]
    refine runL 133 (.bool true) rfl (by rfl) (by go_simp) ?_
    simp only [Ls]
    refine runL 134 (.int .i64 0) rfl (by rfl) (by go_simp) ?_
    simp only [Ls]
    refine runL 135 (.bool true) rfl (by rfl) (by go_simp) ?_
    simp only [Ls]
    refine runL 136 (.bool true) rfl (by rfl) (by go_simp) ?_
    simp only [Ls]
    refine runL 137 (.bool true) rfl (by rfl) (by go_simp) ?_
    simp only [Ls]
    refine runL 138 (.agg (noV 0 0)) rfl (by rfl) (exec_row 30 (.tmp 14) rfl p14 rfl 30 (noV 0 0) _ hp14 (by exact Tryd.underlying30) rfl (noV_sz _ _)) ?_
    simp only [Ls]
    refine runL 139 (.agg (noV 0 0)) rfl (by rfl) (exec_build 30 _ rfl (noV 0 0) (by kernel_rfl)) ?_
    simp only [Ls]
    refine runL 140 (.bool true) rfl (by rfl) (exec_eqV 30 (by kernel_rfl) (.tmp 138) (.tmp 139) _ rfl (noV 0 0) (noV 0 0) rfl rfl true (by rw [eqNoD]; simp)) ?_
    simp only [Ls]
    refine runL 141 (.bool true) rfl (by rfl) (by go_simp) ?_
    simp only [Ls]
    refine runL 142 (.bool true) rfl (by rfl) (by go_simp) ?_
    simp only [Ls]
    refine runL 143 (.agg (va .u8 z)) rfl (by rfl) (exec_row 33 (.tmp 15) rfl p15 rfl 33 (va .u8 z) _ hp15 (by exact Tryd.underlying33) rfl (sz_api_Block _ hzl)) ?_
    simp only [Ls]
    refine runL 144 (.agg (va .u8 z)) rfl (by rfl) (exec_build 33 _ rfl (va .u8 z) (by rw [← hzq.out]; kernel_rfl)) ?_
    simp only [Ls]
    refine runL 145 (.bool true) rfl (by rfl) (exec_eqB 33 32 (by kernel_rfl) (by kernel_rfl) (.tmp 143) (.tmp 144) _ rfl z z hzl hzl rfl rfl true (by simp)) ?_
    simp only [Ls]
    refine runL 146 (.bool true) rfl (by rfl) (by go_simp) ?_
    simp only [Ls]
    refine runL 147 (.bool true) rfl (by rfl) (by go_simp) ?_
    simp only [Ls]
    refine callL 148 rfl (by rfl) (fun K hK => wp_callF 8 #[] (by go_simp) (lives09_any _ (gl.out _ hW)) ?_)
    rintro e w17 ⟨rfl, bx⟩
    replace hp3 := blB hp3 bx
    replace hp4 := blB hp4 bx
    replace hp10 := blB hp10 bx
    replace hp11 := blB hp11 bx
    replace hp14 := blB hp14 bx
    replace hp15 := blB hp15 bx
    replace hW := trB hW hB0 bx
    clear bx
    refine ⟨_, rfl, hK.out _ _ ?_⟩
    clear hK K
    simp only [Ls]
    refine runL 149 (.bool true) rfl (by rfl) (by go_simp) ?_
    simp only [Ls]
    refine runL 6 (.bool true) rfl (by rfl) (by go_simp) ?_
    simp only [Ls]
    refine nilL ?_
    go_wp2_with fail
    go_ret
    exact ⟨rfl, hW⟩
   have h0I : ¬ (0 : Int) < (b0 : Int) := by omega
   by_cases h1 : 0 < b1
   ·
    have h1I : (0 : Int) < (b1 : Int) := by omega
    go_upto_region 10 with fail
    refine wl_lit ?_
    refine runL 79 (.slice (some ad) 48 cc) rfl (by rfl) (by go_simp) ?_
    simp only [Ls]
    refine callL 80 rfl (by rfl) (fun K hK => wp_callF 12 #[.slice (some ad) 48 cc] (by go_simp) (sparse_farz z hzq.out l hll hlb (some ad) cc _ hnc _ (rd.out _ hW) (Nat.le_trans hBB (Nat.le_trans hB0 hW.size)) j hjq.out hj hj3) ?_)
    rintro e w12 ⟨rfl, bx⟩
    replace hp3 := blB hp3 bx
    replace hp4 := blB hp4 bx
    replace hp10 := blB hp10 bx
    replace hp11 := blB hp11 bx
    replace hW := trB hW hB0 bx
    clear bx
    refine ⟨_, rfl, hK.out _ _ ?_⟩
    clear hK K
    simp only [Ls]
    refine runL 78 (.tuple #[.int .i64 0, .agg (noV 0 0), .agg (va .u8 z), .int .i64 1]) rfl (by rfl) (by go_simp) ?_
    simp only [Ls]
    refine runL 81 (.int .i64 0) rfl (by rfl) (by go_simp) ?_
    simp only [Ls]
    refine runL 82 (.agg (noV 0 0)) rfl (by rfl) (by go_simp) ?_
    simp only [Ls]
    refine runL 83 (.agg (va .u8 z)) rfl (by rfl) (by go_simp) ?_
    simp only [Ls]
    refine runL 84 (.int .i64 1) rfl (by rfl) (by go_simp) ?_
    simp only [Ls]
    refine runWL 14 (.pointer (some ⟨w12.heap.size, 0, none⟩)) (w12.alloc (.cells (noV 0 0) 30)) rfl (by rfl) (exec_allocV 30 rfl _ (zv_Nonce _)) ?_
    simp only [Ls]
    have lp3_p14 := hp3.lt
    have lp4_p14 := hp4.lt
    have lp10_p14 := hp10.lt
    have lp11_p14 := hp11.lt
    have lw_p14 := Nat.le_trans hB0 hW.size
    have hp14 := Blk.new w12 30 (noV 0 0)
    have bx := bAl w12 (.cells (noV 0 0) 30)
    replace hp3 := blB hp3 bx
    replace hp4 := blB hp4 bx
    replace hp10 := blB hp10 bx
    replace hp11 := blB hp11 bx
    replace hW := trB hW hB0 bx
    clear bx
    generalize w12.alloc (.cells (noV 0 0) 30) = w13 at *
    generalize w12.heap.size = p14 at hp14 lw_p14 lp3_p14 lp4_p14 lp10_p14 lp11_p14 ⊢
    refine runWL 15 (.pointer (some ⟨w13.heap.size, 0, none⟩)) (w13.alloc (.cells (va .u8 z) 33)) rfl (by rfl) (exec_allocV 33 rfl _ (zv_blkz z hzq.out _)) ?_
    simp only [Ls]
    have lp3_p15 := hp3.lt
    have lp4_p15 := hp4.lt
    have lp10_p15 := hp10.lt
    have lp11_p15 := hp11.lt
    have lp14_p15 := hp14.lt
    have lw_p15 := Nat.le_trans hB0 hW.size
    have hp15 := Blk.new w13 33 (va .u8 z)
    have bx := bAl w13 (.cells (va .u8 z) 33)
    replace hp3 := blB hp3 bx
    replace hp4 := blB hp4 bx
    replace hp10 := blB hp10 bx
    replace hp11 := blB hp11 bx
    replace hp14 := blB hp14 bx
    replace hW := trB hW hB0 bx
    clear bx
    generalize w13.alloc (.cells (va .u8 z) 33) = w14 at *
    generalize w13.heap.size = p15 at hp15 lw_p15 lp3_p15 lp4_p15 lp10_p15 lp11_p15 lp14_p15 ⊢
    refine runL 13 (.int .i64 0) rfl (by rfl) (by go_simp) ?_
    simp only [Ls]
    refine runSL (w14.setRow p14 (noV 0 0)) rfl (by rfl) (exec_storeRow 30 (.tmp 14) (.tmp 82) rfl p14 rfl (noV 0 0) rfl 30 (noV 0 0) hp14 (sz_eq (noV_sz _ _) (noV_sz _ _)) (noV_sz _ _) (noV_one _ _)) ?_
    replace hp3 := hp3.rowFar (show p14 ≠ p3 from (by omega)) (noV 0 0)
    replace hp4 := hp4.rowFar (show p14 ≠ p4 from (by omega)) (noV 0 0)
    replace hp10 := hp10.rowFar (show p14 ≠ p10 from (by omega)) (noV 0 0)
    replace hp11 := hp11.rowFar (show p14 ≠ p11 from (by omega)) (noV 0 0)
    replace hp15 := hp15.rowFar (show p14 ≠ p15 from (by omega)) (noV 0 0)
    replace hp14 := hp14.row (noV 0 0)
    replace hW := below_setRow hW lw_p14 (noV 0 0)
    generalize w14.setRow p14 (noV 0 0) = w15 at *
    refine runSL (w15.setRow p15 (va .u8 z)) rfl (by rfl) (exec_storeRow 33 (.tmp 15) (.tmp 83) rfl p15 rfl (va .u8 z) rfl 33 (va .u8 z) hp15 (sz_eq (sz_api_Block _ hzl) (sz_api_Block _ hzl)) (sz_api_Block _ hzl) (va_ones .u8 _)) ?_
    replace hp3 := hp3.rowFar (show p15 ≠ p3 from (by omega)) (va .u8 z)
    replace hp4 := hp4.rowFar (show p15 ≠ p4 from (by omega)) (va .u8 z)
    replace hp10 := hp10.rowFar (show p15 ≠ p10 from (by omega)) (va .u8 z)
    replace hp11 := hp11.rowFar (show p15 ≠ p11 from (by omega)) (va .u8 z)
    replace hp14 := hp14.rowFar (show p15 ≠ p14 from (by omega)) (va .u8 z)
    replace hp15 := hp15.row (va .u8 z)
    replace hW := below_setRow hW lw_p15 (va .u8 z)
    generalize w15.setRow p15 (va .u8 z) = w16 at *
    refine runL 16 (.int .i64 1) rfl (by rfl) (by go_simp) ?_
    simp only [Ls]
    refine nilL ?_
    go_upto_region 11 with fail
    refine wl_lit ?_
    refine runL 85 (.int .i64 1) rfl (by rfl) (by go_simp) ?_
    simp only [Ls]
    refine runL 86 (.bool false) rfl (by rfl) (by go_simp) ?_
    simp only [Ls]
    refine nilL ?_
    go_upto_region 14 with fail
    refine wl_lit ?_
    refine runL 19 (.int .i64 1) rfl (by rfl) (by go_simp) ?_
    simp only [Ls]
    refine nilL ?_
    go_upto_region 15 with fail
    refine wl_lit ?_
    refine runL 101 (.slice (some ad) 48 cc) rfl (by rfl) (by go_simp) ?_
    simp only [Ls]
    refine runL 102 (.int .i64 48) rfl (by rfl) (by go_simp) ?_
    simp only [Ls]
    refine runL 103 (.bool false) rfl (by rfl) (by go_simp) ?_
    simp only [Ls]
    refine nilL ?_
    go_upto_region 17 with fail
    refine wl_lit ?_
    refine runL 104 (.slice (some ad) 48 cc) rfl (by rfl) (by go_simp) ?_
    simp only [Ls]
    refine runL 105 (.int .i64 48) rfl (by rfl) (by go_simp) ?_
    simp only [Ls]
    refine runL 106 (.bool false) rfl (by rfl) (by go_simp) ?_
    simp only [Ls]
    refine nilL ?_
    go_upto_region 19 with fail
    refine wl_lit ?_
    refine runL 107 (.int .i64 1) rfl (by rfl) (by go_simp) ?_
    simp only [Ls]
    refine runL 108 (.int .i64 1) rfl (by rfl) (by go_simp) ?_
    simp only [Ls]
    refine runL 109 (.bool true) rfl (by rfl) (by go_simp) ?_
    simp only [Ls]
    refine runL 110 (.bool true) rfl (by rfl) (by go_simp) ?_
    simp only [Ls]
    refine runL 111 (.slice (some ad) 48 cc) rfl (by rfl) (by go_simp) ?_
    simp only [Ls]
    refine runL 112 (.int .i64 48) rfl (by rfl) (by go_simp) ?_
    simp only [Ls]
    refine runL 113 (.bool false) rfl (by rfl) (by go_simp) ?_
    simp only [Ls]
    refine runL 114 (.bool false) rfl (by rfl) (by go_simp) ?_
    simp only [Ls]
    refine runL 115 (.slice (some ad) 48 cc) rfl (by rfl) (by go_simp) ?_
    simp only [Ls]
    refine runL 116 (.pointer (some (ad.add 0))) rfl (by rfl) (by go_simp) ?_
    simp only [Ls]
    refine runL 117 (.int .u8 ((b0 : Nat) : Int)) rfl (by rfl) (exec_cellA9 5 (.tmp 116) rfl (ad.add 0) rfl (.int .u8 ((b0 : Nat) : Int)) _ Tryd.underlying5 rfl (by rw [← hb0q.out]; exact (rd.out _ hW).numA (by decide))) ?_
    simp only [Ls]
    refine runL 118 (.bool false) rfl (by rfl) (by go_simp) ?_
    simp only [Ls]
    refine runL 119 (.bool false) rfl (by rfl) (by go_simp) ?_
    simp only [Ls]
    refine runL 120 (.bool false) rfl (by rfl) (by go_simp) ?_
    simp only [Ls]
    refine runL 121 (.slice (some ad) 48 cc) rfl (by rfl) (by go_simp) ?_
    simp only [Ls]
    refine runL 122 (.pointer (some (ad.add 1))) rfl (by rfl) (by go_simp) ?_
    simp only [Ls]
    refine runL 123 (.int .u8 ((b1 : Nat) : Int)) rfl (by rfl) (exec_cellA9 5 (.tmp 122) rfl (ad.add 1) rfl (.int .u8 ((b1 : Nat) : Int)) _ Tryd.underlying5 rfl (by rw [← hb1q.out]; exact (rd.out _ hW).numA (by decide))) ?_
    simp only [Ls]
    refine runL 124 (.bool true) rfl (by rfl) (by go_simp) ?_
    simp only [Ls]
    refine runL 125 (.bool true) rfl (by rfl) (by go_simp) ?_
    simp only [Ls]
    refine runL 126 (.bool true) rfl (by rfl) (by go_simp) ?_
    simp only [Ls]
    refine skipL 127 rfl (by kernel_rfl) ?_
    simp only [Ls]
    refine skipL 128 rfl (by kernel_rfl) ?_
    simp only [Ls]
    refine skipL 129 rfl (by kernel_rfl) ?_
    simp only [Ls]
    refine skipL 130 rfl (by kernel_rfl) ?_
    simp only [Ls]
    refine runL 131 (.bool true) rfl (by rfl) (by go_simp) ?_
    simp only [Ls]
    refine runL 132 (.bool true) rfl (by rfl) (by go_simp) ?_
    simp only [Ls]
    refine runL 133 (.bool true) rfl (by rfl) (by go_simp) ?_
    simp only [Ls]
    refine runL 134 (.int .i64 0) rfl (by rfl) (by go_simp) ?_
    simp only [Ls]
    refine runL 135 (.bool true) rfl (by rfl) (by go_simp) ?_
    simp only [Ls]
    refine runL 136 (.bool true) rfl (by rfl) (by go_simp) ?_
    simp only [Ls]
    refine runL 137 (.bool true) rfl (by rfl) (by go_simp) ?_
    simp only [Ls]
    refine runL 138 (.agg (noV 0 0)) rfl (by rfl) (exec_row 30 (.tmp 14) rfl p14 rfl 30 (noV 0 0) _ hp14 (by exact Tryd.underlying30) rfl (noV_sz _ _)) ?_
    simp only [Ls]
    refine runL 139 (.agg (noV 0 0)) rfl (by rfl) (exec_build 30 _ rfl (noV 0 0) (by kernel_rfl)) ?_
    simp only [Ls]
    refine runL 140 (.bool true) rfl (by rfl) (exec_eqV 30 (by kernel_rfl) (.tmp 138) (.tmp 139) _ rfl (noV 0 0) (noV 0 0) rfl rfl true (by rw [eqNoD]; simp)) ?_
    simp only [Ls]
    refine runL 141 (.bool true) rfl (by rfl) (by go_simp) ?_
    simp only [Ls]
    refine runL 142 (.bool true) rfl (by rfl) (by go_simp) ?_
    simp only [Ls]
    refine runL 143 (.agg (va .u8 z)) rfl (by rfl) (exec_row 33 (.tmp 15) rfl p15 rfl 33 (va .u8 z) _ hp15 (by exact Tryd.underlying33) rfl (sz_api_Block _ hzl)) ?_
    simp only [Ls]
    refine runL 144 (.agg (va .u8 z)) rfl (by rfl) (exec_build 33 _ rfl (va .u8 z) (by rw [← hzq.out]; kernel_rfl)) ?_
    simp only [Ls]
    refine runL 145 (.bool true) rfl (by rfl) (exec_eqB 33 32 (by kernel_rfl) (by kernel_rfl) (.tmp 143) (.tmp 144) _ rfl z z hzl hzl rfl rfl true (by simp)) ?_
    simp only [Ls]
    refine runL 146 (.bool true) rfl (by rfl) (by go_simp) ?_
    simp only [Ls]
    refine runL 147 (.bool true) rfl (by rfl) (by go_simp) ?_
    simp only [Ls]
    refine callL 148 rfl (by rfl) (fun K hK => wp_callF 8 #[] (by go_simp) (lives09_any _ (gl.out _ hW)) ?_)
    rintro e w17 ⟨rfl, bx⟩
    replace hp3 := blB hp3 bx
    replace hp4 := blB hp4 bx
    replace hp10 := blB hp10 bx
    replace hp11 := blB hp11 bx
    replace hp14 := blB hp14 bx
    replace hp15 := blB hp15 bx
    replace hW := trB hW hB0 bx
    clear bx
    refine ⟨_, rfl, hK.out _ _ ?_⟩
    clear hK K
    simp only [Ls]
    refine runL 149 (.bool true) rfl (by rfl) (by go_simp) ?_
    simp only [Ls]
    refine runL 6 (.bool true) rfl (by rfl) (by go_simp) ?_
    simp only [Ls]
    refine nilL ?_
    go_wp2_with fail
    go_ret
    exact ⟨rfl, hW⟩
   have h1I : ¬ (0 : Int) < (b1 : Int) := by omega
   have h2I : (15 : Int) < (b2 : Int) := by omega
   go_upto_region 10 with fail
   refine wl_lit ?_
   refine runL 79 (.slice (some ad) 48 cc) rfl (by rfl) (by go_simp) ?_
   simp only [Ls]
   refine callL 80 rfl (by rfl) (fun K hK => wp_callF 12 #[.slice (some ad) 48 cc] (by go_simp) (sparse_farz z hzq.out l hll hlb (some ad) cc _ hnc _ (rd.out _ hW) (Nat.le_trans hBB (Nat.le_trans hB0 hW.size)) j hjq.out hj hj3) ?_)
   rintro e w12 ⟨rfl, bx⟩
   replace hp3 := blB hp3 bx
   replace hp4 := blB hp4 bx
   replace hp10 := blB hp10 bx
   replace hp11 := blB hp11 bx
   replace hW := trB hW hB0 bx
   clear bx
   refine ⟨_, rfl, hK.out _ _ ?_⟩
   clear hK K
   simp only [Ls]
   refine runL 78 (.tuple #[.int .i64 0, .agg (noV 0 0), .agg (va .u8 z), .int .i64 1]) rfl (by rfl) (by go_simp) ?_
   simp only [Ls]
   refine runL 81 (.int .i64 0) rfl (by rfl) (by go_simp) ?_
   simp only [Ls]
   refine runL 82 (.agg (noV 0 0)) rfl (by rfl) (by go_simp) ?_
   simp only [Ls]
   refine runL 83 (.agg (va .u8 z)) rfl (by rfl) (by go_simp) ?_
   simp only [Ls]
   refine runL 84 (.int .i64 1) rfl (by rfl) (by go_simp) ?_
   simp only [Ls]
   refine runWL 14 (.pointer (some ⟨w12.heap.size, 0, none⟩)) (w12.alloc (.cells (noV 0 0) 30)) rfl (by rfl) (exec_allocV 30 rfl _ (zv_Nonce _)) ?_
   simp only [Ls]
   have lp3_p14 := hp3.lt
   have lp4_p14 := hp4.lt
   have lp10_p14 := hp10.lt
   have lp11_p14 := hp11.lt
   have lw_p14 := Nat.le_trans hB0 hW.size
   have hp14 := Blk.new w12 30 (noV 0 0)
   have bx := bAl w12 (.cells (noV 0 0) 30)
   replace hp3 := blB hp3 bx
   replace hp4 := blB hp4 bx
   replace hp10 := blB hp10 bx
   replace hp11 := blB hp11 bx
   replace hW := trB hW hB0 bx
   clear bx
   generalize w12.alloc (.cells (noV 0 0) 30) = w13 at *
   generalize w12.heap.size = p14 at hp14 lw_p14 lp3_p14 lp4_p14 lp10_p14 lp11_p14 ⊢
   refine runWL 15 (.pointer (some ⟨w13.heap.size, 0, none⟩)) (w13.alloc (.cells (va .u8 z) 33)) rfl (by rfl) (exec_allocV 33 rfl _ (zv_blkz z hzq.out _)) ?_
   simp only [Ls]
   have lp3_p15 := hp3.lt
   have lp4_p15 := hp4.lt
   have lp10_p15 := hp10.lt
   have lp11_p15 := hp11.lt
   have lp14_p15 := hp14.lt
   have lw_p15 := Nat.le_trans hB0 hW.size
   have hp15 := Blk.new w13 33 (va .u8 z)
   have bx := bAl w13 (.cells (va .u8 z) 33)
   replace hp3 := blB hp3 bx
   replace hp4 := blB hp4 bx
   replace hp10 := blB hp10 bx
   replace hp11 := blB hp11 bx
   replace hp14 := blB hp14 bx
   replace hW := trB hW hB0 bx
   clear bx
   generalize w13.alloc (.cells (va .u8 z) 33) = w14 at *
   generalize w13.heap.size = p15 at hp15 lw_p15 lp3_p15 lp4_p15 lp10_p15 lp11_p15 lp14_p15 ⊢
   refine runL 13 (.int .i64 0) rfl (by rfl) (by go_simp) ?_
   simp only [Ls]
   refine runSL (w14.setRow p14 (noV 0 0)) rfl (by rfl) (exec_storeRow 30 (.tmp 14) (.tmp 82) rfl p14 rfl (noV 0 0) rfl 30 (noV 0 0) hp14 (sz_eq (noV_sz _ _) (noV_sz _ _)) (noV_sz _ _) (noV_one _ _)) ?_
   replace hp3 := hp3.rowFar (show p14 ≠ p3 from (by omega)) (noV 0 0)
   replace hp4 := hp4.rowFar (show p14 ≠ p4 from (by omega)) (noV 0 0)
   replace hp10 := hp10.rowFar (show p14 ≠ p10 from (by omega)) (noV 0 0)
   replace hp11 := hp11.rowFar (show p14 ≠ p11 from (by omega)) (noV 0 0)
   replace hp15 := hp15.rowFar (show p14 ≠ p15 from (by omega)) (noV 0 0)
   replace hp14 := hp14.row (noV 0 0)
   replace hW := below_setRow hW lw_p14 (noV 0 0)
   generalize w14.setRow p14 (noV 0 0) = w15 at *
   refine runSL (w15.setRow p15 (va .u8 z)) rfl (by rfl) (exec_storeRow 33 (.tmp 15) (.tmp 83) rfl p15 rfl (va .u8 z) rfl 33 (va .u8 z) hp15 (sz_eq (sz_api_Block _ hzl) (sz_api_Block _ hzl)) (sz_api_Block _ hzl) (va_ones .u8 _)) ?_
   replace hp3 := hp3.rowFar (show p15 ≠ p3 from (by omega)) (va .u8 z)
   replace hp4 := hp4.rowFar (show p15 ≠ p4 from (by omega)) (va .u8 z)
   replace hp10 := hp10.rowFar (show p15 ≠ p10 from (by omega)) (va .u8 z)
   replace hp11 := hp11.rowFar (show p15 ≠ p11 from (by omega)) (va .u8 z)
   replace hp14 := hp14.rowFar (show p15 ≠ p14 from (by omega)) (va .u8 z)
   replace hp15 := hp15.row (va .u8 z)
   replace hW := below_setRow hW lw_p15 (va .u8 z)
   generalize w15.setRow p15 (va .u8 z) = w16 at *
   refine runL 16 (.int .i64 1) rfl (by rfl) (by go_simp) ?_
   simp only [Ls]
   refine nilL ?_
   go_upto_region 11 with fail
   refine wl_lit ?_
   refine runL 85 (.int .i64 1) rfl (by rfl) (by go_simp) ?_
   simp only [Ls]
   refine runL 86 (.bool false) rfl (by rfl) (by go_simp) ?_
   simp only [Ls]
   refine nilL ?_
   go_upto_region 14 with fail
   refine wl_lit ?_
   refine runL 19 (.int .i64 1) rfl (by rfl) (by go_simp) ?_
   simp only [Ls]
   refine nilL ?_
   go_upto_region 15 with fail
   refine wl_lit ?_
   refine runL 101 (.slice (some ad) 48 cc) rfl (by rfl) (by go_simp) ?_
   simp only [Ls]
   refine runL 102 (.int .i64 48) rfl (by rfl) (by go_simp) ?_
   simp only [Ls]
   refine runL 103 (.bool false) rfl (by rfl) (by go_simp) ?_
   simp only [Ls]
   refine nilL ?_
   go_upto_region 17 with fail
   refine wl_lit ?_
   refine runL 104 (.slice (some ad) 48 cc) rfl (by rfl) (by go_simp) ?_
   simp only [Ls]
   refine runL 105 (.int .i64 48) rfl (by rfl) (by go_simp) ?_
   simp only [Ls]
   refine runL 106 (.bool false) rfl (by rfl) (by go_simp) ?_
   simp only [Ls]
   refine nilL ?_
   go_upto_region 19 with fail
   refine wl_lit ?_
   refine runL 107 (.int .i64 1) rfl (by rfl) (by go_simp) ?_
   simp only [Ls]
   refine runL 108 (.int .i64 1) rfl (by rfl) (by go_simp) ?_
   simp only [Ls]
   refine runL 109 (.bool true) rfl (by rfl) (by go_simp) ?_
   simp only [Ls]
   refine runL 110 (.bool true) rfl (by rfl) (by go_simp) ?_
   simp only [Ls]
   refine runL 111 (.slice (some ad) 48 cc) rfl (by rfl) (by go_simp) ?_
   simp only [Ls]
   refine runL 112 (.int .i64 48) rfl (by rfl) (by go_simp) ?_
   simp only [Ls]
   refine runL 113 (.bool false) rfl (by rfl) (by go_simp) ?_
   simp only [Ls]
   refine runL 114 (.bool false) rfl (by rfl) (by go_simp) ?_
   simp only [Ls]
   refine runL 115 (.slice (some ad) 48 cc) rfl (by rfl) (by go_simp) ?_
   simp only [Ls]
   refine runL 116 (.pointer (some (ad.add 0))) rfl (by rfl) (by go_simp) ?_
   simp only [Ls]
   refine runL 117 (.int .u8 ((b0 : Nat) : Int)) rfl (by rfl) (exec_cellA9 5 (.tmp 116) rfl (ad.add 0) rfl (.int .u8 ((b0 : Nat) : Int)) _ Tryd.underlying5 rfl (by rw [← hb0q.out]; exact (rd.out _ hW).numA (by decide))) ?_
   simp only [Ls]
   refine runL 118 (.bool false) rfl (by rfl) (by go_simp) ?_
   simp only [Ls]
   refine runL 119 (.bool false) rfl (by rfl) (by go_simp) ?_
   simp only [Ls]
   refine runL 120 (.bool false) rfl (by rfl) (by go_simp) ?_
   simp only [Ls]
   refine runL 121 (.slice (some ad) 48 cc) rfl (by rfl) (by go_simp) ?_
   simp only [Ls]
   refine runL 122 (.pointer (some (ad.add 1))) rfl (by rfl) (by go_simp) ?_
   simp only [Ls]
   refine runL 123 (.int .u8 ((b1 : Nat) : Int)) rfl (by rfl) (exec_cellA9 5 (.tmp 122) rfl (ad.add 1) rfl (.int .u8 ((b1 : Nat) : Int)) _ Tryd.underlying5 rfl (by rw [← hb1q.out]; exact (rd.out _ hW).numA (by decide))) ?_
   simp only [Ls]
   refine runL 124 (.bool false) rfl (by rfl) (by go_simp) ?_
   simp only [Ls]
   refine runL 125 (.bool false) rfl (by rfl) (by go_simp) ?_
   simp only [Ls]
   refine runL 126 (.bool false) rfl (by rfl) (by go_simp) ?_
   simp only [Ls]
   refine runL 127 (.slice (some ad) 48 cc) rfl (by rfl) (by go_simp) ?_
   simp only [Ls]
   refine runL 128 (.pointer (some (ad.add 2))) rfl (by rfl) (by go_simp) ?_
   simp only [Ls]
   refine runL 129 (.int .u8 ((b2 : Nat) : Int)) rfl (by rfl) (exec_cellA9 5 (.tmp 128) rfl (ad.add 2) rfl (.int .u8 ((b2 : Nat) : Int)) _ Tryd.underlying5 rfl (by rw [← hb2q.out]; exact (rd.out _ hW).numA (by decide))) ?_
   simp only [Ls]
   refine runL 130 (.bool true) rfl (by rfl) (by go_simp) ?_
   simp only [Ls]
   refine runL 131 (.bool true) rfl (by rfl) (by go_simp) ?_
   simp only [Ls]
   refine runL 132 (.bool true) rfl (by rfl) (by go_simp) ?_
   simp only [Ls]
   refine runL 133 (.bool true) rfl (by rfl) (by go_simp) ?_
   simp only [Ls]
   refine runL 134 (.int .i64 0) rfl (by rfl) (by go_simp) ?_
   simp only [Ls]
   refine runL 135 (.bool true) rfl (by rfl) (by go_simp) ?_
   simp only [Ls]
   refine runL 136 (.bool true) rfl (by rfl) (by go_simp) ?_
   simp only [Ls]
   refine runL 137 (.bool true) rfl (by rfl) (by go_simp) ?_
   simp only [Ls]
   refine runL 138 (.agg (noV 0 0)) rfl (by rfl) (exec_row 30 (.tmp 14) rfl p14 rfl 30 (noV 0 0) _ hp14 (by exact Tryd.underlying30) rfl (noV_sz _ _)) ?_
   simp only [Ls]
   refine runL 139 (.agg (noV 0 0)) rfl (by rfl) (exec_build 30 _ rfl (noV 0 0) (by kernel_rfl)) ?_
   simp only [Ls]
   refine runL 140 (.bool true) rfl (by rfl) (exec_eqV 30 (by kernel_rfl) (.tmp 138) (.tmp 139) _ rfl (noV 0 0) (noV 0 0) rfl rfl true (by rw [eqNoD]; simp)) ?_
   simp only [Ls]
   refine runL 141 (.bool true) rfl (by rfl) (by go_simp) ?_
   simp only [Ls]
   refine runL 142 (.bool true) rfl (by rfl) (by go_simp) ?_
   simp only [Ls]
   refine runL 143 (.agg (va .u8 z)) rfl (by rfl) (exec_row 33 (.tmp 15) rfl p15 rfl 33 (va .u8 z) _ hp15 (by exact Tryd.underlying33) rfl (sz_api_Block _ hzl)) ?_
   simp only [Ls]
   refine runL 144 (.agg (va .u8 z)) rfl (by rfl) (exec_build 33 _ rfl (va .u8 z) (by rw [← hzq.out]; kernel_rfl)) ?_
   simp only [Ls]
   refine runL 145 (.bool true) rfl (by rfl) (exec_eqB 33 32 (by kernel_rfl) (by kernel_rfl) (.tmp 143) (.tmp 144) _ rfl z z hzl hzl rfl rfl true (by simp)) ?_
   simp only [Ls]
   refine runL 146 (.bool true) rfl (by rfl) (by go_simp) ?_
   simp only [Ls]
   refine runL 147 (.bool true) rfl (by rfl) (by go_simp) ?_
   simp only [Ls]
   refine callL 148 rfl (by rfl) (fun K hK => wp_callF 8 #[] (by go_simp) (lives09_any _ (gl.out _ hW)) ?_)
   rintro e w17 ⟨rfl, bx⟩
   replace hp3 := blB hp3 bx
   replace hp4 := blB hp4 bx
   replace hp10 := blB hp10 bx
   replace hp11 := blB hp11 bx
   replace hp14 := blB hp14 bx
   replace hp15 := blB hp15 bx
   replace hW := trB hW hB0 bx
   clear bx
   refine ⟨_, rfl, hK.out _ _ ?_⟩
   clear hK K
   simp only [Ls]
   refine runL 149 (.bool true) rfl (by rfl) (by go_simp) ?_
   simp only [Ls]
   refine runL 6 (.bool true) rfl (by rfl) (by go_simp) ?_
   simp only [Ls]
   refine nilL ?_
   go_wp2_with fail
   go_ret
   exact ⟨rfl, hW⟩
 ·
  have hnI : ¬ (n : Int) < 48 := by omega
  have hnI2 : (48 : Int) < (n : Int) := by omega
  have hnI3 : ¬ (n : Int) = 48 := by omega
  go_upto_region 10 with fail
  refine wl_lit ?_
  refine runL 79 (.slice A n cc) rfl (by rfl) (by go_simp) ?_
  simp only [Ls]
  refine callL 80 rfl (by rfl) (fun K hK => wp_callF 12 #[.slice A n cc] (by go_simp) (sparse_lenz z hzq.out n 5 (.inr ⟨hn, rfl⟩) A cc _) ?_)
  rintro e w12 ⟨rfl, bx⟩
  replace hp3 := blB hp3 bx
  replace hp4 := blB hp4 bx
  replace hp10 := blB hp10 bx
  replace hp11 := blB hp11 bx
  replace hW := trB hW hB0 bx
  clear bx
  refine ⟨_, rfl, hK.out _ _ ?_⟩
  clear hK K
  simp only [Ls]
  refine runL 78 (.tuple #[.int .i64 0, .agg (noV 0 0), .agg (va .u8 z), .int .i64 5]) rfl (by rfl) (by go_simp) ?_
  simp only [Ls]
  refine runL 81 (.int .i64 0) rfl (by rfl) (by go_simp) ?_
  simp only [Ls]
  refine runL 82 (.agg (noV 0 0)) rfl (by rfl) (by go_simp) ?_
  simp only [Ls]
  refine runL 83 (.agg (va .u8 z)) rfl (by rfl) (by go_simp) ?_
  simp only [Ls]
  refine runL 84 (.int .i64 5) rfl (by rfl) (by go_simp) ?_
  simp only [Ls]
  refine runWL 14 (.pointer (some ⟨w12.heap.size, 0, none⟩)) (w12.alloc (.cells (noV 0 0) 30)) rfl (by rfl) (exec_allocV 30 rfl _ (zv_Nonce _)) ?_
  simp only [Ls]
  have lp3_p14 := hp3.lt
  have lp4_p14 := hp4.lt
  have lp10_p14 := hp10.lt
  have lp11_p14 := hp11.lt
  have lw_p14 := Nat.le_trans hB0 hW.size
  have hp14 := Blk.new w12 30 (noV 0 0)
  have bx := bAl w12 (.cells (noV 0 0) 30)
  replace hp3 := blB hp3 bx
  replace hp4 := blB hp4 bx
  replace hp10 := blB hp10 bx
  replace hp11 := blB hp11 bx
  replace hW := trB hW hB0 bx
  clear bx
  generalize w12.alloc (.cells (noV 0 0) 30) = w13 at *
  generalize w12.heap.size = p14 at hp14 lw_p14 lp3_p14 lp4_p14 lp10_p14 lp11_p14 ⊢
  refine runWL 15 (.pointer (some ⟨w13.heap.size, 0, none⟩)) (w13.alloc (.cells (va .u8 z) 33)) rfl (by rfl) (exec_allocV 33 rfl _ (zv_blkz z hzq.out _)) ?_
  simp only [Ls]
  have lp3_p15 := hp3.lt
  have lp4_p15 := hp4.lt
  have lp10_p15 := hp10.lt
  have lp11_p15 := hp11.lt
  have lp14_p15 := hp14.lt
  have lw_p15 := Nat.le_trans hB0 hW.size
  have hp15 := Blk.new w13 33 (va .u8 z)
  have bx := bAl w13 (.cells (va .u8 z) 33)
  replace hp3 := blB hp3 bx
  replace hp4 := blB hp4 bx
  replace hp10 := blB hp10 bx
  replace hp11 := blB hp11 bx
  replace hp14 := blB hp14 bx
  replace hW := trB hW hB0 bx
  clear bx
  generalize w13.alloc (.cells (va .u8 z) 33) = w14 at *
  generalize w13.heap.size = p15 at hp15 lw_p15 lp3_p15 lp4_p15 lp10_p15 lp11_p15 lp14_p15 ⊢
  refine runL 13 (.int .i64 0) rfl (by rfl) (by go_simp) ?_
  simp only [Ls]
  refine runSL (w14.setRow p14 (noV 0 0)) rfl (by rfl) (exec_storeRow 30 (.tmp 14) (.tmp 82) rfl p14 rfl (noV 0 0) rfl 30 (noV 0 0) hp14 (sz_eq (noV_sz _ _) (noV_sz _ _)) (noV_sz _ _) (noV_one _ _)) ?_
  replace hp3 := hp3.rowFar (show p14 ≠ p3 from (by omega)) (noV 0 0)
  replace hp4 := hp4.rowFar (show p14 ≠ p4 from (by omega)) (noV 0 0)
  replace hp10 := hp10.rowFar (show p14 ≠ p10 from (by omega)) (noV 0 0)
  replace hp11 := hp11.rowFar (show p14 ≠ p11 from (by omega)) (noV 0 0)
  replace hp15 := hp15.rowFar (show p14 ≠ p15 from (by omega)) (noV 0 0)
  replace hp14 := hp14.row (noV 0 0)
  replace hW := below_setRow hW lw_p14 (noV 0 0)
  generalize w14.setRow p14 (noV 0 0) = w15 at *
  refine runSL (w15.setRow p15 (va .u8 z)) rfl (by rfl) (exec_storeRow 33 (.tmp 15) (.tmp 83) rfl p15 rfl (va .u8 z) rfl 33 (va .u8 z) hp15 (sz_eq (sz_api_Block _ hzl) (sz_api_Block _ hzl)) (sz_api_Block _ hzl) (va_ones .u8 _)) ?_
  replace hp3 := hp3.rowFar (show p15 ≠ p3 from (by omega)) (va .u8 z)
  replace hp4 := hp4.rowFar (show p15 ≠ p4 from (by omega)) (va .u8 z)
  replace hp10 := hp10.rowFar (show p15 ≠ p10 from (by omega)) (va .u8 z)
  replace hp11 := hp11.rowFar (show p15 ≠ p11 from (by omega)) (va .u8 z)
  replace hp14 := hp14.rowFar (show p15 ≠ p14 from (by omega)) (va .u8 z)
  replace hp15 := hp15.row (va .u8 z)
  replace hW := below_setRow hW lw_p15 (va .u8 z)
  generalize w15.setRow p15 (va .u8 z) = w16 at *
  refine runL 16 (.int .i64 5) rfl (by rfl) (by go_simp) ?_
  simp only [Ls]
  refine nilL ?_
  go_upto_region 11 with fail
  refine wl_lit ?_
  refine runL 85 (.int .i64 5) rfl (by rfl) (by go_simp) ?_
  simp only [Ls]
  refine runL 86 (.bool false) rfl (by rfl) (by go_simp) ?_
  simp only [Ls]
  refine nilL ?_
  go_upto_region 14 with fail
  refine wl_lit ?_
  refine runL 19 (.int .i64 1) rfl (by rfl) (by go_simp) ?_
  simp only [Ls]
  refine nilL ?_
  go_upto_region 15 with fail
  refine wl_lit ?_
  refine runL 101 (.slice A n cc) rfl (by rfl) (by go_simp) ?_
  simp only [Ls]
  refine runL 102 (.int .i64 n) rfl (by rfl) (by go_simp) ?_
  simp only [Ls]
  refine runL 103 (.bool false) rfl (by rfl) (by go_simp) ?_
  simp only [Ls]
  refine nilL ?_
  go_upto_region 17 with fail
  refine wl_lit ?_
  refine runL 104 (.slice A n cc) rfl (by rfl) (by go_simp) ?_
  simp only [Ls]
  refine runL 105 (.int .i64 n) rfl (by rfl) (by go_simp) ?_
  simp only [Ls]
  refine runL 106 (.bool true) rfl (by rfl) (by go_simp) ?_
  simp only [Ls]
  refine nilL ?_
  go_upto_region 18 with fail
  refine wl_lit ?_
  refine runL 19 (.int .i64 5) rfl (by rfl) (by go_simp) ?_
  simp only [Ls]
  refine nilL ?_
  go_upto_region 19 with fail
  refine wl_lit ?_
  refine runL 107 (.int .i64 5) rfl (by rfl) (by go_simp) ?_
  simp only [Ls]
  refine runL 108 (.int .i64 5) rfl (by rfl) (by go_simp) ?_
  simp only [Ls]
  refine runL 109 (.bool true) rfl (by rfl) (by go_simp) ?_
  simp only [Ls]
  refine runL 110 (.bool true) rfl (by rfl) (by go_simp) ?_
  simp only [Ls]
  refine runL 111 (.slice A n cc) rfl (by rfl) (by go_simp) ?_
  simp only [Ls]
  refine runL 112 (.int .i64 n) rfl (by rfl) (by go_simp) ?_
  simp only [Ls]
  refine runL 113 (.bool true) rfl (by rfl) (by go_simp) ?_
  simp only [Ls]
  refine runL 114 (.bool true) rfl (by rfl) (by go_simp) ?_
  simp only [Ls]
  refine skipL 115 rfl (by kernel_rfl) ?_
  simp only [Ls]
  refine skipL 116 rfl (by kernel_rfl) ?_
  simp only [Ls]
  refine skipL 117 rfl (by kernel_rfl) ?_
  simp only [Ls]
  refine skipL 118 rfl (by kernel_rfl) ?_
  simp only [Ls]
  refine runL 119 (.bool true) rfl (by rfl) (by go_simp) ?_
  simp only [Ls]
  refine runL 120 (.bool true) rfl (by rfl) (by go_simp) ?_
  simp only [Ls]
  refine skipL 121 rfl (by kernel_rfl) ?_
  simp only [Ls]
  refine skipL 122 rfl (by kernel_rfl) ?_
  simp only [Ls]
  refine skipL 123 rfl (by kernel_rfl) ?_
  simp only [Ls]
  refine skipL 124 rfl (by kernel_rfl) ?_
  simp only [Ls]
  refine runL 125 (.bool true) rfl (by rfl) (by go_simp) ?_
  simp only [Ls]
  refine runL 126 (.bool true) rfl (by rfl) (by go_simp) ?_
  simp only [Ls]
  refine skipL 127 rfl (by kernel_rfl) ?_
  simp only [Ls]
  refine skipL 128 rfl (by kernel_rfl) ?_
  simp only [Ls]
  refine skipL 129 rfl (by kernel_rfl) ?_
  simp only [Ls]
  refine skipL 130 rfl (by kernel_rfl) ?_
  simp only [Ls]
  refine runL 131 (.bool true) rfl (by rfl) (by go_simp) ?_
  simp only [Ls]
  refine runL 132 (.bool true) rfl (by rfl) (by go_simp) ?_
  simp only [Ls]
  refine runL 133 (.bool true) rfl (by rfl) (by go_simp) ?_
  simp only [Ls]
  refine runL 134 (.int .i64 0) rfl (by rfl) (by go_simp) ?_
  simp only [Ls]
  refine runL 135 (.bool true) rfl (by rfl) (by go_simp) ?_
  simp only [Ls]
  refine runL 136 (.bool true) rfl (by rfl) (by go_simp) ?_
  simp only [Ls]
  refine runL 137 (.bool true) rfl (by rfl) (by go_simp) ?_
  simp only [Ls]
  refine runL 138 (.agg (noV 0 0)) rfl (by rfl) (exec_row 30 (.tmp 14) rfl p14 rfl 30 (noV 0 0) _ hp14 (by exact Tryd.underlying30) rfl (noV_sz _ _)) ?_
  simp only [Ls]
  refine runL 139 (.agg (noV 0 0)) rfl (by rfl) (exec_build 30 _ rfl (noV 0 0) (by kernel_rfl)) ?_
  simp only [Ls]
  refine runL 140 (.bool true) rfl (by rfl) (exec_eqV 30 (by kernel_rfl) (.tmp 138) (.tmp 139) _ rfl (noV 0 0) (noV 0 0) rfl rfl true (by rw [eqNoD]; simp)) ?_
  simp only [Ls]
  refine runL 141 (.bool true) rfl (by rfl) (by go_simp) ?_
  simp only [Ls]
  refine runL 142 (.bool true) rfl (by rfl) (by go_simp) ?_
  simp only [Ls]
  refine runL 143 (.agg (va .u8 z)) rfl (by rfl) (exec_row 33 (.tmp 15) rfl p15 rfl 33 (va .u8 z) _ hp15 (by exact Tryd.underlying33) rfl (sz_api_Block _ hzl)) ?_
  simp only [Ls]
  refine runL 144 (.agg (va .u8 z)) rfl (by rfl) (exec_build 33 _ rfl (va .u8 z) (by rw [← hzq.out]; kernel_rfl)) ?_
  simp only [Ls]
  refine runL 145 (.bool true) rfl (by rfl) (exec_eqB 33 32 (by kernel_rfl) (by kernel_rfl) (.tmp 143) (.tmp 144) _ rfl z z hzl hzl rfl rfl true (by simp)) ?_
  simp only [Ls]
  refine runL 146 (.bool true) rfl (by rfl) (by go_simp) ?_
  simp only [Ls]
  refine runL 147 (.bool true) rfl (by rfl) (by go_simp) ?_
  simp only [Ls]
  refine callL 148 rfl (by rfl) (fun K hK => wp_callF 8 #[] (by go_simp) (lives09_any _ (gl.out _ hW)) ?_)
  rintro e w17 ⟨rfl, bx⟩
  replace hp3 := blB hp3 bx
  replace hp4 := blB hp4 bx
  replace hp10 := blB hp10 bx
  replace hp11 := blB hp11 bx
  replace hp14 := blB hp14 bx
  replace hp15 := blB hp15 bx
  replace hW := trB hW hB0 bx
  clear bx
  refine ⟨_, rfl, hK.out _ _ ?_⟩
  clear hK K
  simp only [Ls]
  refine runL 149 (.bool true) rfl (by rfl) (by go_simp) ?_
  simp only [Ls]
  refine runL 6 (.bool true) rfl (by rfl) (by go_simp) ?_
  simp only [Ls]
  refine nilL ?_
  go_wp2_with fail
  go_ret
  exact ⟨rfl, hW⟩
end Go.Proofs.YtcfddmplnoknlaaDoor
