/-
  The walks of seals.Parse, combined, Seal, Open. (Printed by mkseal09.py.)
-/
import Derived.Test.YtcfddmplnoknlaaDoorY16
namespace Go.Proofs.YtcfddmplnoknlaaDoor
set_option maxRecDepth 16384
open Go.RowKit Sh
theorem Blk.wholeU {W : World} {g : Nat} {T : TypeId} {x : List Nat} (hb : Blk W g T (va .u8 x)) : W.rangeAt g 0 (nv .u8 x) := fun j v hv => by
 rw [Nat.zero_add, hb.cell]; simpa [va] using hv
theorem Blk.rightReads {W : World} {g n m : Nat} {T : TypeId} {x y : List Nat} (hb : Blk W g T (va .u8 (x ++ y))) (hn : x.length = n) (hm : y.length = m) : Reads W (g + 1) 1 (some ⟨g, n, none⟩) m (nv .u8 y) :=
 ⟨by rw [nv_len, hm, Nat.mul_one], fun _ => ⟨_, rfl, Nat.lt_succ_self _, fun j v hv => by rw [Addr.add_mid]; exact (hb.right hn) j v hv⟩⟩
theorem szBk (l : List Nat) (h : l.length = 32) : (Tryd.prog.info? 33).map (·.size) = some (nv .u8 l).length := by rw [nv_len, h]; kernel_rfl
theorem xor_to0 (key : List Nat) (s c : Nat) (d x : List Nat) (hx : kxor key s c 0 d = x) (hkl : key.length = 16) (hkb : Byt key) (hs : s < 4294967296) (hdl : d.length = 32) (hdb : Byt d) (A : Option Addr) (cc B : Nat) (w : World) (hr : Reads w B 1 A 32 (nv .u8 d)) (hBw : B ≤ w.heap.size) :
  Calls Tryd.prog 49 #[.agg (va .u8 key), .agg (noV s c), .int .i64 0, .slice A 32 cc] w fun e' w' => ∃ g, e' = .returned (.tuple #[.slice (some ⟨g, 0, none⟩) 32 32, .int .i64 0]) ∧ Blk w' g 5 (va .u8 x) ∧ w.heap.size ≤ g ∧ Below w.heap.size w w' := by
 subst hx; exact xor_ok key s c 0 32 d hkl hkb hs hdl hdb (by decide) (by decide) A cc B w hr hBw
theorem verify_to (key m tag : List Nat) (b : Bool) (hb : decide (hm key m = tag) = b) (A : Option Addr) (n c B : Nat) (A2 : Option Addr) (n2 c2 B2 : Nat) (hk : Byt key) (hnc : n ≤ c) (hn : n < 100000) (hm0 : Byt m) (hnc2 : n2 ≤ c2) (hn2 : n2 < 100000) (ht : Byt tag) (htl : tag.length = 32) (w : World) (hg : Glob w)
  (hr : Reads w B 1 A n (nv .u8 key)) (hB : B ≤ w.heap.size) (hr2 : Reads w B2 1 A2 n2 (nv .u8 m)) (hB2 : B2 ≤ w.heap.size) :
  Calls Tryd.prog 33 #[.slice A n c, .slice A2 n2 c2, .agg (va .u8 tag)] w fun e w' => e = .returned (.bool b) ∧ Below w.heap.size w w' := by
 subst hb; exact verify_any key m tag A n c B A2 n2 c2 B2 hk hnc hn hm0 hnc2 hn2 ht htl w hg hr hB hr2 hB2

set_option maxRecDepth 8000 in
set_option maxHeartbeats 4000000 in
theorem combined_any (ke km : List Nat) (hel : ke.length = 16) (_hml : km.length = 32) (heb : Byt ke) (_hmb : Byt km) (s c : Nat) (d x : List Nat) (hx : kxor ke s c 0 d = x) (hxl : x.length = 32) (hs : s < 4294967296) (hdl : d.length = 32) (hdb : Byt d) (w : World) :
  Calls Tryd.prog 30 #[.agg (va .u8 (ke ++ km)), .agg (noV s c), .agg (va .u8 d)] w fun e w' => e = .returned (.agg (va .u8 x)) ∧ Below w.heap.size w w' := by
 obtain ⟨B0, hB0e, hW, hB0⟩ := stB w
 rw [hB0e]
 have hxq := Lib.hid hx
 clear hx
 have hB0q := Lib.hid hB0e
 clear hB0e
 go_enter Tryd.func30, Tryd.ntmps30
 go_upto_region 0 with fail
 refine wl_lit ?_
 refine runWL 3 (.pointer (some ⟨w.heap.size, 0, none⟩)) (w.alloc (.cells (va .u8 (ke ++ km)) 26)) rfl (by rfl) (exec_box 26 (.tmp 0) rfl (.agg (va .u8 (ke ++ km))) rfl) ?_
 simp only [Ls]
 have lw_p3 := Nat.le_trans hB0 hW.size
 have hp3 := Blk.new w 26 (va .u8 (ke ++ km))
 replace hW := alB hW hB0 (.cells (va .u8 (ke ++ km)) 26)
 generalize w.alloc (.cells (va .u8 (ke ++ km)) 26) = w1 at *
 generalize w.heap.size = p3 at hp3 lw_p3  ⊢
 refine runWL 4 (.pointer (some ⟨w1.heap.size, 0, none⟩)) (w1.alloc (.cells (noV s c) 30)) rfl (by rfl) (exec_box 30 (.tmp 1) rfl (.agg (noV s c)) rfl) ?_
 simp only [Ls]
 have lp3_p4 := hp3.lt
 have lw_p4 := Nat.le_trans hB0 hW.size
 have hp4 := Blk.new w1 30 (noV s c)
 have bx := bAl w1 (.cells (noV s c) 30)
 replace hp3 := blB hp3 bx
 replace hW := trB hW hB0 bx
 clear bx
 generalize w1.alloc (.cells (noV s c) 30) = w2 at *
 generalize w1.heap.size = p4 at hp4 lw_p4 lp3_p4 ⊢
 refine runWL 5 (.pointer (some ⟨w2.heap.size, 0, none⟩)) (w2.alloc (.cells (va .u8 d) 33)) rfl (by rfl) (exec_box 33 (.tmp 2) rfl (.agg (va .u8 d)) rfl) ?_
 simp only [Ls]
 have lp3_p5 := hp3.lt
 have lp4_p5 := hp4.lt
 have lw_p5 := Nat.le_trans hB0 hW.size
 have hp5 := Blk.new w2 33 (va .u8 d)
 have bx := bAl w2 (.cells (va .u8 d) 33)
 replace hp3 := blB hp3 bx
 replace hp4 := blB hp4 bx
 replace hW := trB hW hB0 bx
 clear bx
 generalize w2.alloc (.cells (va .u8 d) 33) = w3 at *
 generalize w2.heap.size = p5 at hp5 lw_p5 lp3_p5 lp4_p5 ⊢
 refine runWL 6 (.pointer (some ⟨w3.heap.size, 0, none⟩)) (w3.alloc (.cells (va .u8 (List.replicate 32 0)) 33)) rfl (by rfl) (exec_allocV 33 rfl _ (zv_api_Block _)) ?_
 simp only [Ls]
 have lp3_p6 := hp3.lt
 have lp4_p6 := hp4.lt
 have lp5_p6 := hp5.lt
 have lw_p6 := Nat.le_trans hB0 hW.size
 have hp6 := Blk.new w3 33 (va .u8 (List.replicate 32 0))
 have bx := bAl w3 (.cells (va .u8 (List.replicate 32 0)) 33)
 replace hp3 := blB hp3 bx
 replace hp4 := blB hp4 bx
 replace hp5 := blB hp5 bx
 replace hW := trB hW hB0 bx
 clear bx
 generalize w3.alloc (.cells (va .u8 (List.replicate 32 0)) 33) = w4 at *
 generalize w3.heap.size = p6 at hp6 lw_p6 lp3_p6 lp4_p6 lp5_p6 ⊢
 refine nilL ?_
 go_upto_region 1 with fail
 refine wp_region_held_drew (S := fun wr => Blk wr p3 26 (va .u8 (ke ++ km)) ∧ Blk wr p4 30 (noV s c) ∧ Blk wr p5 33 (va .u8 d) ∧ Blk wr p6 33 (va .u8 (List.replicate 32 0)) ∧ Below B0 w wr) (by kernel_rfl) ⟨hp3.drew, hp4.drew, hp5.drew, hp6.drew, below_drewN hW 1⟩ (fun hH => ?_)
 clear hp3 hp4 hp5 hp6 hW
 obtain ⟨hp3, hp4, hp5, hp6, hW⟩ := hH
 generalize w4.drew = w5 at *
 refine takeH 9 0 10 (.pointer (some ⟨p3, 0, none⟩)) rfl rfl (by kernel_rfl) (by kernel_rfl) (by kernel_rfl) (fun _ _ _ h => h) (Or.inl ⟨by rfl, fun w _ => by go_simp⟩) ⟨hp3, hp4, hp5, hp6, hW⟩ ?_
 simp only [Ls]
 refine takeH 8 1 11 (.agg (va .u8 ke)) rfl rfl (by kernel_rfl) (by kernel_rfl) (by kernel_rfl) (fun _ _ _ h => h) (Or.inl ⟨by rfl, fun _ h => exec_mid 22 (.tmp 10) rfl p3 0 rfl (nv .u8 ke) _ (h.1.left) Tryd.underlying22 rfl (sz16D _ hel)⟩) ⟨hp3, hp4, hp5, hp6, hW⟩ ?_
 simp only [Ls]
 refine takeH 7 2 12 (.agg (noV s c)) rfl rfl (by kernel_rfl) (by kernel_rfl) (by kernel_rfl) (fun _ _ _ h => h) (Or.inl ⟨by rfl, fun _ h => exec_row 30 (.tmp 4) rfl p4 rfl 30 (noV s c) _ h.2.1 (by exact Tryd.underlying30) rfl (noV_sz _ _)⟩) ⟨hp3, hp4, hp5, hp6, hW⟩ ?_
 simp only [Ls]
 refine takeH 6 3 13 (.slice (some ⟨p5, 0, none⟩) 32 32) rfl rfl (by kernel_rfl) (by kernel_rfl) (by kernel_rfl) (fun _ _ _ h => h) (Or.inl ⟨by rfl, fun w _ => by go_simp⟩) ⟨hp3, hp4, hp5, hp6, hW⟩ ?_
 simp only [Ls]
 refine wpAnyH_ready (by kernel_rfl) (by simp) (readyCons 5 4 14 rfl rfl (by rfl) (fun K hK => wp_callF 49 #[.agg (va .u8 ke), .agg (noV s c), .int .i64 0, .slice (some ⟨p5, 0, none⟩) 32 32] (by go_simp) (xor_to0 ke s c d x hxq.out hel heb hs hdl hdb _ 32 _ _ (hp5.readsAll (Nat.lt_succ_self _) hdl) hp5.lt) ?_) AllReadyH.nil)
 rintro e w6 ⟨g1, rfl, hg1, hgg, bx⟩
 have lp3_g1 : p3 < g1 := Nat.lt_of_lt_of_le hp3.lt hgg
 have lp4_g1 : p4 < g1 := Nat.lt_of_lt_of_le hp4.lt hgg
 have lp5_g1 : p5 < g1 := Nat.lt_of_lt_of_le hp5.lt hgg
 have lp6_g1 : p6 < g1 := Nat.lt_of_lt_of_le hp6.lt hgg
 have lw_g1 : B0 ≤ g1 := Nat.le_trans (Nat.le_trans hB0 hW.size) hgg
 replace hp3 := blB hp3 bx
 replace hp4 := blB hp4 bx
 replace hp5 := blB hp5 bx
 replace hp6 := blB hp6 bx
 replace hW := trB hW hB0 bx
 clear hgg
 clear bx
 refine ⟨_, rfl, hK.out _ _ ⟨hp3, hp4, hp5, hp6, hW⟩ (fun _ => ?_)⟩
 clear hK K
 simp only [Ls]
 refine takeH 4 5 9 (.tuple #[.slice (some ⟨g1, 0, none⟩) 32 32, .int .i64 0]) rfl rfl (by kernel_rfl) (by kernel_rfl) (by kernel_rfl) (fun _ _ _ h => h) (Or.inl ⟨by rfl, fun w _ => by go_simp⟩) ⟨hp3, hp4, hp5, hp6, hW⟩ ?_
 simp only [Ls]
 refine takeH 3 6 15 (.slice (some ⟨g1, 0, none⟩) 32 32) rfl rfl (by kernel_rfl) (by kernel_rfl) (by kernel_rfl) (fun _ _ _ h => h) (Or.inl ⟨by rfl, fun w _ => by go_simp⟩) ⟨hp3, hp4, hp5, hp6, hW⟩ ?_
 simp only [Ls]
 refine takeH 2 7 16 (.int .i64 0) rfl rfl (by kernel_rfl) (by kernel_rfl) (by kernel_rfl) (fun _ _ _ h => h) (Or.inl ⟨by rfl, fun w _ => by go_simp⟩) ⟨hp3, hp4, hp5, hp6, hW⟩ ?_
 simp only [Ls]
 refine takeH 1 8 7 (.slice (some ⟨g1, 0, none⟩) 32 32) rfl rfl (by kernel_rfl) (by kernel_rfl) (by kernel_rfl) (fun _ _ _ h => h) (Or.inl ⟨by rfl, fun w _ => by go_simp⟩) ⟨hp3, hp4, hp5, hp6, hW⟩ ?_
 simp only [Ls]
 refine takeH 0 9 8 (.int .i64 0) rfl rfl (by kernel_rfl) (by kernel_rfl) (by kernel_rfl) (fun _ _ _ h => h) (Or.inl ⟨by rfl, fun w _ => by go_simp⟩) ⟨hp3, hp4, hp5, hp6, hW⟩ ?_
 simp only [Ls]
 refine wpAnyH_done (by kernel_rfl) ?_ _
 go_upto_region 2 with fail
 refine wl_lit ?_
 refine runL 17 (.slice (some ⟨g1, 0, none⟩) 32 32) rfl (by rfl) (by go_simp) ?_
 refine runL 18 (.pointer (some ⟨g1, 0, none⟩)) rfl (by rfl) (exec_arrayAt 33 _ rfl _ _ (by exact Tryd.underlying33) _ 32 32 rfl (by decide)) ?_
 refine runL 19 (.agg (va .u8 x)) rfl (by rfl) (exec_mid 33 (.tmp 18) rfl g1 0 rfl (nv .u8 x) _ (hg1.wholeU) Tryd.underlying33 rfl (szBk _ hxl)) ?_
 simp only [Ls]
 refine runSL (w6.setRow p6 (va .u8 x)) rfl (by rfl) (exec_storeRow 33 (.tmp 6) (.tmp 19) rfl p6 rfl (va .u8 x) rfl 33 (va .u8 (List.replicate 32 0)) hp6 (sz_eq (sz_api_Block _ (List.length_replicate)) (sz_api_Block _ hxl)) (sz_api_Block _ hxl) (va_ones .u8 _)) ?_
 replace hp3 := hp3.rowFar (show p6 ≠ p3 from (by omega)) (va .u8 x)
 replace hp4 := hp4.rowFar (show p6 ≠ p4 from (by omega)) (va .u8 x)
 replace hp5 := hp5.rowFar (show p6 ≠ p5 from (by omega)) (va .u8 x)
 replace hg1 := hg1.rowFar (show p6 ≠ g1 from (by omega)) (va .u8 x)
 replace hp6 := hp6.row (va .u8 x)
 replace hW := below_setRow hW lw_p6 (va .u8 x)
 generalize w6.setRow p6 (va .u8 x) = w7 at *
 refine nilL ?_
 go_wp2_with fail
 exact bodyPost_ret (results_cell_row rfl _ _ p6 33 (va .u8 x) (0, 0) _ rfl hp6 (by exact Tryd.underlying33) rfl (sz_api_Block _ hxl)) rfl ⟨rfl, hW⟩
theorem pcell {W : World} {B : Nat} {ad : Addr} {l d : List Nat} (h : Reads W B 1 (some ad) 48 (nv .u8 l)) (hd : l.drop 16 = d) : ∀ j v, (nv .u8 d)[j]? = some v → W.cell? ((ad.add 16).add j) = some v := by
 subst hd
 have hl := h.len
 refine fun j v hv => (h.part (o := 16) (m := 32) (by decide)).cells (by decide) j v ?_
 rw [List.take_of_length_le (by simp; omega)]; exact hv

set_option maxRecDepth 8000 in
set_option maxHeartbeats 4000000 in
theorem spc1_any (l : List Nat) (_hll : l.length = 48) (hlb : Byt l) (ad : Addr) (cc B B0 p1 p2 p3 p4 p6 i s c : Nat) (d : List Nat) (hi : mI l = i) (hi2 : i < 4096) (hs : mS l = s) (hc : mC l = c) (hd : mD l = d) (hdl : d.length = 32) (hcc : 48 ≤ cc) (w : World) (rd : Hid (∀ W, Below B0 w W → Reads W B 1 (some ad) 48 (nv .u8 l))) (hB : B ≤ B0)
  (hp6 : Blk w p6 27 #[.int .u32 (i : Int)]) (hp2 : Blk w p2 3 #[.int .i64 0]) (hp1 : Blk w p1 34 #[.slice (some ad) 48 cc]) (hp3 : Blk w p3 30 (noV 0 0)) (hp4 : Blk w p4 33 (va .u8 (List.replicate 32 0)))
  (lw_p2 : B0 ≤ p2) (lw_p3 : B0 ≤ p3) (lw_p4 : B0 ≤ p4) (l12 : p1 < p2) (l23 : p2 < p3) (l34 : p3 < p4) (l46 : p4 < p6) :
  Calls Tryd.prog 25 #[.pointer (some ⟨p6, 0, none⟩), .pointer (some ⟨p2, 0, none⟩), .pointer (some ⟨p1, 0, none⟩), .pointer (some ⟨p3, 0, none⟩), .pointer (some ⟨p4, 0, none⟩)] w fun e w' => e = .returned (.int .i64 0) ∧ Blk w' p2 3 #[.int .i64 (i : Int)] ∧ Blk w' p3 30 (noV s c) ∧ Blk w' p4 33 (va .u8 d) ∧ Below B0 w w' := by
 have hW : Below B0 w w := Below.refl _ _
 have hB0 : B0 ≤ w.heap.size := by have := hp6.lt; omega
 have hwi : IntKind.i64.wrap (i : Int) = (i : Int) := IntWalk.i64_in _ (by omega)
 have hc4 : cc ≠ 4 := by omega
 have hc16 : cc ≠ 16 := by omega
 have hccI : (48 : Int) ≤ (cc : Int) := by omega
 have hc4I : (4 : Int) ≤ (cc : Int) := by omega
 have hc16I : (16 : Int) ≤ (cc : Int) := by omega
 have hqS : beV (((l.drop 4).take 12).take 4) = s := hs
 have hqC : beV (((l.drop 4).take 12).drop 4) = c := hc
 have hqb : Byt ((l.drop 4).take 12) := (hlb.drop 4).take 12
 have hqB : B ≤ w.heap.size := by omega
 have hqd : l.drop 16 = d := hd
 have hqSq := Lib.hid hqS
 have hqCq := Lib.hid hqC
 have hqdq := Lib.hid hqd
 clear hi hs hc hd hqS hqC hqd
 go_enter Tryd.func25, Tryd.ntmps25
 go_upto_region 0 with fail
 refine wl_lit ?_
 refine runL 5 (.int .i64 0) rfl (by rfl) (by go_simp) ?_
 simp only [Ls]
 refine nilL ?_
 go_upto_region 1 with fail
 refine wl_lit ?_
 refine runL 6 (.int .u32 (i : Int)) rfl (by rfl) (exec_cell 27 (.tmp 0) rfl p6 0 rfl (.int .u32 (i : Int)) _ Tryd.underlying27 rfl (hp6.cellIs 0 rfl)) ?_
 refine runL 7 (.int .i64 (i : Int)) rfl (by rfl) (by go_simp) ?_
 simp only [Ls]
 refine runSL (w.setCell ⟨p2, 0, none⟩ (.int .i64 (i : Int))) rfl (by rfl) (exec_storeCell 3 (.tmp 1) (.tmp 7) rfl p2 0 rfl (.int .i64 (i : Int)) rfl rfl rfl 3 (#[.int .i64 0]) hp2 (show 0 < 1 by decide) (by kernel_rfl)) ?_
 replace hp1 := hp1.far (p := ⟨p2, 0, none⟩) (show p1 ≠ p2 from (by omega)) (.int .i64 (i : Int))
 replace hp3 := hp3.far (p := ⟨p2, 0, none⟩) (show p3 ≠ p2 from (by omega)) (.int .i64 (i : Int))
 replace hp4 := hp4.far (p := ⟨p2, 0, none⟩) (show p4 ≠ p2 from (by omega)) (.int .i64 (i : Int))
 replace hp6 := hp6.far (p := ⟨p2, 0, none⟩) (show p6 ≠ p2 from (by omega)) (.int .i64 (i : Int))
 replace hp2 : Blk (w.setCell ⟨p2, 0, none⟩ (.int .i64 (i : Int))) p2 3 (#[.int .i64 (i : Int)]) := hp2.set_ 0 (.int .i64 (i : Int))
 replace hW := hW.setCell (p := ⟨p2, 0, none⟩) lw_p2 (.int .i64 (i : Int))
 generalize w.setCell ⟨p2, 0, none⟩ (.int .i64 (i : Int)) = w1 at *
 refine nilL ?_
 go_upto_region 2 with fail
 refine wl_lit ?_
 refine runL 9 (.slice (some ad) 48 cc) rfl (by rfl) (exec_cell 34 (.tmp 2) rfl p1 0 rfl (.slice (some ad) 48 cc) _ Tryd.underlying34 rfl (hp1.cellIs 0 rfl)) ?_
 refine runL 10 (.slice (some (ad.add 4)) 12 (cc - 4)) rfl (by rfl) (by go_simp) ?_
 simp only [Ls]
 refine callL 11 rfl (by rfl) (fun K hK => wp_callF 26 #[.slice (some (ad.add 4)) 12 (cc - 4)] (by go_simp) (nget_ok _ (cc - 4) B s c (by omega) ((l.drop 4).take 12) hqb hqSq.out hqCq.out _ ((rd.out _ hW).part (o := 4) (m := 12) (by decide)) (Nat.le_trans hB (Nat.le_trans hB0 hW.size))) ?_)
 rintro e w2 ⟨rfl, bx⟩
 replace hp1 := blB hp1 bx
 replace hp2 := blB hp2 bx
 replace hp3 := blB hp3 bx
 replace hp4 := blB hp4 bx
 replace hp6 := blB hp6 bx
 replace hW := trB hW hB0 bx
 clear bx
 refine ⟨_, rfl, hK.out _ _ ?_⟩
 clear hK K
 refine runL 8 (.tuple #[.agg (noV s c), .int .i64 0]) rfl (by rfl) (by go_simp) ?_
 refine runL 12 (.agg (noV s c)) rfl (by rfl) (by go_simp) ?_
 refine runL 13 (.int .i64 0) rfl (by rfl) (by go_simp) ?_
 simp only [Ls]
 refine runSL (w2.setRow p3 (noV s c)) rfl (by rfl) (exec_storeRow 30 (.tmp 3) (.tmp 12) rfl p3 rfl (noV s c) rfl 30 (noV 0 0) hp3 (sz_eq (noV_sz _ _) (noV_sz _ _)) (noV_sz _ _) (noV_one _ _)) ?_
 replace hp1 := hp1.rowFar (show p3 ≠ p1 from (by omega)) (noV s c)
 replace hp2 := hp2.rowFar (show p3 ≠ p2 from (by omega)) (noV s c)
 replace hp4 := hp4.rowFar (show p3 ≠ p4 from (by omega)) (noV s c)
 replace hp6 := hp6.rowFar (show p3 ≠ p6 from (by omega)) (noV s c)
 replace hp3 := hp3.row (noV s c)
 replace hW := below_setRow hW lw_p3 (noV s c)
 generalize w2.setRow p3 (noV s c) = w3 at *
 refine nilL ?_
 go_upto_region 3 with fail
 refine wl_lit ?_
 refine runL 14 (.slice (some ad) 48 cc) rfl (by rfl) (exec_cell 34 (.tmp 2) rfl p1 0 rfl (.slice (some ad) 48 cc) _ Tryd.underlying34 rfl (hp1.cellIs 0 rfl)) ?_
 refine runL 15 (.slice (some (ad.add 16)) 32 (cc - 16)) rfl (by rfl) (by go_simp) ?_
 refine runL 16 (.pointer (some (ad.add 16))) rfl (by rfl) (exec_arrayAt 33 _ rfl _ _ (by exact Tryd.underlying33) _ 32 (cc - 16) rfl (by decide)) ?_
 refine runL 17 (.agg (va .u8 d)) rfl (by rfl) (exec_midA 33 (.tmp 16) rfl (ad.add 16) rfl (nv .u8 d) _ (pcell (hW |> rd.out _) hqdq.out) Tryd.underlying33 rfl (szBk _ hdl)) ?_
 simp only [Ls]
 refine runSL (w3.setRow p4 (va .u8 d)) rfl (by rfl) (exec_storeRow 33 (.tmp 4) (.tmp 17) rfl p4 rfl (va .u8 d) rfl 33 (va .u8 (List.replicate 32 0)) hp4 (sz_eq (sz_api_Block _ (List.length_replicate)) (sz_api_Block _ hdl)) (sz_api_Block _ hdl) (va_ones .u8 _)) ?_
 replace hp1 := hp1.rowFar (show p4 ≠ p1 from (by omega)) (va .u8 d)
 replace hp2 := hp2.rowFar (show p4 ≠ p2 from (by omega)) (va .u8 d)
 replace hp3 := hp3.rowFar (show p4 ≠ p3 from (by omega)) (va .u8 d)
 replace hp6 := hp6.rowFar (show p4 ≠ p6 from (by omega)) (va .u8 d)
 replace hp4 := hp4.row (va .u8 d)
 replace hW := below_setRow hW lw_p4 (va .u8 d)
 generalize w3.setRow p4 (va .u8 d) = w4 at *
 refine nilL ?_
 go_upto_region 4 with fail
 refine wl_lit ?_
 refine runL 5 (.int .i64 0) rfl (by rfl) (by go_simp) ?_
 simp only [Ls]
 refine nilL ?_
 go_wp2_with fail
 go_ret
 exact ⟨rfl, hp2, hp3, hp4, hW⟩
set_option maxRecDepth 8000 in
set_option maxHeartbeats 4000000 in
theorem sparse_len (n : Nat) (e : Int) (he : (n < 48 ∧ e = 6) ∨ (48 < n ∧ e = 5)) (A : Option Addr) (cc : Nat) (w : World) :
  Calls Tryd.prog 12 #[.slice A n cc] w fun e' w' => e' = .returned (.tuple #[.int .i64 0, .agg (noV 0 0), .agg (va .u8 (List.replicate 32 0)), .int .i64 e]) ∧ Below w.heap.size w w' := by
 obtain ⟨B0, hB0e, hW, hB0⟩ := stB w
 rw [hB0e]
 have hB0q := Lib.hid hB0e
 clear hB0e
 rcases he with ⟨h1, rfl⟩ | ⟨h1, rfl⟩
 ·
  have h1I : (n : Int) < 48 := by omega
  go_enter Tryd.func12, Tryd.ntmps12
  go_upto_region 0 with fail
  refine wl_lit ?_
  refine runWL 1 (.pointer (some ⟨w.heap.size, 0, none⟩)) (w.alloc (.cells (#[.slice A n cc]) 34)) rfl (by rfl) (exec_box 34 (.tmp 0) rfl (.slice A n cc) rfl) ?_
  simp only [Ls]
  have lw_p1 := Nat.le_trans hB0 hW.size
  have hp1 := Blk.new w 34 (#[.slice A n cc])
  replace hW := alB hW hB0 (.cells (#[.slice A n cc]) 34)
  generalize w.alloc (.cells (#[.slice A n cc]) 34) = w1 at *
  generalize w.heap.size = p1 at hp1 lw_p1  ⊢
  refine runWL 2 (.pointer (some ⟨w1.heap.size, 0, none⟩)) (w1.alloc (.cells (#[.int .i64 0]) 3)) rfl (by rfl) (exec_allocV 3 rfl _ (zv_int _)) ?_
  simp only [Ls]
  have lp1_p2 := hp1.lt
  have lw_p2 := Nat.le_trans hB0 hW.size
  have hp2 := Blk.new w1 3 (#[.int .i64 0])
  have bx := bAl w1 (.cells (#[.int .i64 0]) 3)
  replace hp1 := blB hp1 bx
  replace hW := trB hW hB0 bx
  clear bx
  generalize w1.alloc (.cells (#[.int .i64 0]) 3) = w2 at *
  generalize w1.heap.size = p2 at hp2 lw_p2 lp1_p2 ⊢
  refine runWL 3 (.pointer (some ⟨w2.heap.size, 0, none⟩)) (w2.alloc (.cells (noV 0 0) 30)) rfl (by rfl) (exec_allocV 30 rfl _ (zv_Nonce _)) ?_
  simp only [Ls]
  have lp1_p3 := hp1.lt
  have lp2_p3 := hp2.lt
  have lw_p3 := Nat.le_trans hB0 hW.size
  have hp3 := Blk.new w2 30 (noV 0 0)
  have bx := bAl w2 (.cells (noV 0 0) 30)
  replace hp1 := blB hp1 bx
  replace hp2 := blB hp2 bx
  replace hW := trB hW hB0 bx
  clear bx
  generalize w2.alloc (.cells (noV 0 0) 30) = w3 at *
  generalize w2.heap.size = p3 at hp3 lw_p3 lp1_p3 lp2_p3 ⊢
  refine runWL 4 (.pointer (some ⟨w3.heap.size, 0, none⟩)) (w3.alloc (.cells (va .u8 (List.replicate 32 0)) 33)) rfl (by rfl) (exec_allocV 33 rfl _ (zv_api_Block _)) ?_
  simp only [Ls]
  have lp1_p4 := hp1.lt
  have lp2_p4 := hp2.lt
  have lp3_p4 := hp3.lt
  have lw_p4 := Nat.le_trans hB0 hW.size
  have hp4 := Blk.new w3 33 (va .u8 (List.replicate 32 0))
  have bx := bAl w3 (.cells (va .u8 (List.replicate 32 0)) 33)
  replace hp1 := blB hp1 bx
  replace hp2 := blB hp2 bx
  replace hp3 := blB hp3 bx
  replace hW := trB hW hB0 bx
  clear bx
  generalize w3.alloc (.cells (va .u8 (List.replicate 32 0)) 33) = w4 at *
  generalize w3.heap.size = p4 at hp4 lw_p4 lp1_p4 lp2_p4 lp3_p4 ⊢
  refine runL 5 (.int .i64 0) rfl (by rfl) (by go_simp) ?_
  simp only [Ls]
  refine nilL ?_
  go_upto_region 1 with fail
  refine wl_lit ?_
  refine runL 9 (.slice A n cc) rfl (by rfl) (exec_cell 34 (.tmp 1) rfl p1 0 rfl (.slice A n cc) _ Tryd.underlying34 rfl (hp1.cellIs 0 rfl)) ?_
  refine runL 10 (.int .i64 n) rfl (by rfl) (by go_simp) ?_
  refine runL 11 (.bool true) rfl (by rfl) (by go_simp) ?_
  refine runL 8 (.bool true) rfl (by rfl) (by go_simp) ?_
  simp only [Ls]
  refine nilL ?_
  go_upto_region 2 with fail
  refine wp_region_held_drew (S := fun wr => Blk wr p1 34 (#[.slice A n cc]) ∧ Blk wr p2 3 (#[.int .i64 0]) ∧ Blk wr p3 30 (noV 0 0) ∧ Blk wr p4 33 (va .u8 (List.replicate 32 0)) ∧ Below B0 w wr) (by kernel_rfl) ⟨hp1.drew, hp2.drew, hp3.drew, hp4.drew, below_drewN hW 1⟩ (fun hH => ?_)
  clear hp1 hp2 hp3 hp4 hW
  obtain ⟨hp1, hp2, hp3, hp4, hW⟩ := hH
  generalize w4.drew = w5 at *
  refine takeH 5 0 12 (.agg (noV 0 0)) rfl rfl (by kernel_rfl) (by kernel_rfl) (by kernel_rfl) (fun _ _ _ h => h) (Or.inl ⟨by rfl, fun _ h => exec_row 30 (.tmp 3) rfl p3 rfl 30 (noV 0 0) _ h.2.2.1 (by exact Tryd.underlying30) rfl (noV_sz _ _)⟩) ⟨hp1, hp2, hp3, hp4, hW⟩ ?_
  simp only [Ls]
  refine takeH 4 1 13 (.agg (va .u8 (List.replicate 32 0))) rfl rfl (by kernel_rfl) (by kernel_rfl) (by kernel_rfl) (fun _ _ _ h => h) (Or.inl ⟨by rfl, fun _ h => exec_row 33 (.tmp 4) rfl p4 rfl 33 (va .u8 (List.replicate 32 0)) _ h.2.2.2.1 (by exact Tryd.underlying33) rfl (sz_api_Block _ (List.length_replicate))⟩) ⟨hp1, hp2, hp3, hp4, hW⟩ ?_
  simp only [Ls]
  refine wpAnyH_ready (by kernel_rfl) (by simp) (readyRunS 3 2 (w5.setCell ⟨p2, 0, none⟩ (.int .i64 0)) rfl rfl (by rfl) (exec_storeCell 3 (.tmp 2) _ rfl p2 0 rfl (.int .i64 0) rfl rfl rfl 3 (#[.int .i64 0]) hp2 (show 0 < 1 by decide) (by kernel_rfl)) ⟨hp1.far (p := ⟨p2, 0, none⟩) (show p1 ≠ p2 from (by omega)) _, hp2.set_ 0 _, hp3.far (p := ⟨p2, 0, none⟩) (show p3 ≠ p2 from (by omega)) _, hp4.far (p := ⟨p2, 0, none⟩) (show p4 ≠ p2 from (by omega)) _, hW.setCell (p := ⟨p2, 0, none⟩) lw_p2 _⟩ (fun _ => ?_) AllReadyH.nil)
  replace hp1 := hp1.far (p := ⟨p2, 0, none⟩) (show p1 ≠ p2 from (by omega)) (.int .i64 0)
  replace hp3 := hp3.far (p := ⟨p2, 0, none⟩) (show p3 ≠ p2 from (by omega)) (.int .i64 0)
  replace hp4 := hp4.far (p := ⟨p2, 0, none⟩) (show p4 ≠ p2 from (by omega)) (.int .i64 0)
  replace hp2 : Blk (w5.setCell ⟨p2, 0, none⟩ (.int .i64 0)) p2 3 (#[.int .i64 0]) := hp2.set_ 0 (.int .i64 0)
  replace hW := hW.setCell (p := ⟨p2, 0, none⟩) lw_p2 (.int .i64 0)
  generalize w5.setCell ⟨p2, 0, none⟩ (.int .i64 0) = w6 at *
  refine wpAnyH_ready (by kernel_rfl) (by simp) (readyRunS 2 3 (w6.setRow p3 (noV 0 0)) rfl rfl (by rfl) (exec_storeRow 30 (.tmp 3) (.tmp 12) rfl p3 rfl (noV 0 0) rfl 30 (noV 0 0) hp3 (sz_eq (noV_sz _ _) (noV_sz _ _)) (noV_sz _ _) (noV_one _ _)) ⟨hp1.rowFar (show p3 ≠ p1 from (by omega)) _, hp2.rowFar (show p3 ≠ p2 from (by omega)) _, hp3.row _, hp4.rowFar (show p3 ≠ p4 from (by omega)) _, below_setRow hW lw_p3 _⟩ (fun _ => ?_) AllReadyH.nil)
  replace hp1 := hp1.rowFar (show p3 ≠ p1 from (by omega)) (noV 0 0)
  replace hp2 := hp2.rowFar (show p3 ≠ p2 from (by omega)) (noV 0 0)
  replace hp4 := hp4.rowFar (show p3 ≠ p4 from (by omega)) (noV 0 0)
  replace hp3 := hp3.row (noV 0 0)
  replace hW := below_setRow hW lw_p3 (noV 0 0)
  generalize w6.setRow p3 (noV 0 0) = w7 at *
  refine wpAnyH_ready (by kernel_rfl) (by simp) (readyRunS 1 4 (w7.setRow p4 (va .u8 (List.replicate 32 0))) rfl rfl (by rfl) (exec_storeRow 33 (.tmp 4) (.tmp 13) rfl p4 rfl (va .u8 (List.replicate 32 0)) rfl 33 (va .u8 (List.replicate 32 0)) hp4 (sz_eq (sz_api_Block _ (List.length_replicate)) (sz_api_Block _ (List.length_replicate))) (sz_api_Block _ (List.length_replicate)) (va_ones .u8 _)) ⟨hp1.rowFar (show p4 ≠ p1 from (by omega)) _, hp2.rowFar (show p4 ≠ p2 from (by omega)) _, hp3.rowFar (show p4 ≠ p3 from (by omega)) _, hp4.row _, below_setRow hW lw_p4 _⟩ (fun _ => ?_) AllReadyH.nil)
  replace hp1 := hp1.rowFar (show p4 ≠ p1 from (by omega)) (va .u8 (List.replicate 32 0))
  replace hp2 := hp2.rowFar (show p4 ≠ p2 from (by omega)) (va .u8 (List.replicate 32 0))
  replace hp3 := hp3.rowFar (show p4 ≠ p3 from (by omega)) (va .u8 (List.replicate 32 0))
  replace hp4 := hp4.row (va .u8 (List.replicate 32 0))
  replace hW := below_setRow hW lw_p4 (va .u8 (List.replicate 32 0))
  generalize w7.setRow p4 (va .u8 (List.replicate 32 0)) = w8 at *
  refine takeH 0 5 5 (.int .i64 6) rfl rfl (by kernel_rfl) (by kernel_rfl) (by kernel_rfl) (fun _ _ _ h => h) (Or.inl ⟨by rfl, fun w _ => by go_simp⟩) ⟨hp1, hp2, hp3, hp4, hW⟩ ?_
  simp only [Ls]
  refine wpAnyH_done (by kernel_rfl) ?_ _
  go_wp2_with fail
  exact bodyPost_ret (results_cell_row_row_tmp rfl _ p2 p3 p4 (.int .i64 0) (.int .i64 6) _ _ _ _ _ _ _ rfl (hp2.cellIs 0 rfl) Tryd.underlying3 rfl rfl hp3 (by exact Tryd.underlying30) rfl (noV_sz _ _) rfl hp4 (by exact Tryd.underlying33) rfl (sz_api_Block _ (List.length_replicate)) rfl) rfl ⟨rfl, hW⟩
 ·
  have h1I : ¬ (n : Int) < 48 := by omega
  have h2I : (48 : Int) < (n : Int) := by omega
  go_enter Tryd.func12, Tryd.ntmps12
  go_upto_region 0 with fail
  refine wl_lit ?_
  refine runWL 1 (.pointer (some ⟨w.heap.size, 0, none⟩)) (w.alloc (.cells (#[.slice A n cc]) 34)) rfl (by rfl) (exec_box 34 (.tmp 0) rfl (.slice A n cc) rfl) ?_
  simp only [Ls]
  have lw_p1 := Nat.le_trans hB0 hW.size
  have hp1 := Blk.new w 34 (#[.slice A n cc])
  replace hW := alB hW hB0 (.cells (#[.slice A n cc]) 34)
  generalize w.alloc (.cells (#[.slice A n cc]) 34) = w1 at *
  generalize w.heap.size = p1 at hp1 lw_p1  ⊢
  refine runWL 2 (.pointer (some ⟨w1.heap.size, 0, none⟩)) (w1.alloc (.cells (#[.int .i64 0]) 3)) rfl (by rfl) (exec_allocV 3 rfl _ (zv_int _)) ?_
  simp only [Ls]
  have lp1_p2 := hp1.lt
  have lw_p2 := Nat.le_trans hB0 hW.size
  have hp2 := Blk.new w1 3 (#[.int .i64 0])
  have bx := bAl w1 (.cells (#[.int .i64 0]) 3)
  replace hp1 := blB hp1 bx
  replace hW := trB hW hB0 bx
  clear bx
  generalize w1.alloc (.cells (#[.int .i64 0]) 3) = w2 at *
  generalize w1.heap.size = p2 at hp2 lw_p2 lp1_p2 ⊢
  refine runWL 3 (.pointer (some ⟨w2.heap.size, 0, none⟩)) (w2.alloc (.cells (noV 0 0) 30)) rfl (by rfl) (exec_allocV 30 rfl _ (zv_Nonce _)) ?_
  simp only [Ls]
  have lp1_p3 := hp1.lt
  have lp2_p3 := hp2.lt
  have lw_p3 := Nat.le_trans hB0 hW.size
  have hp3 := Blk.new w2 30 (noV 0 0)
  have bx := bAl w2 (.cells (noV 0 0) 30)
  replace hp1 := blB hp1 bx
  replace hp2 := blB hp2 bx
  replace hW := trB hW hB0 bx
  clear bx
  generalize w2.alloc (.cells (noV 0 0) 30) = w3 at *
  generalize w2.heap.size = p3 at hp3 lw_p3 lp1_p3 lp2_p3 ⊢
  refine runWL 4 (.pointer (some ⟨w3.heap.size, 0, none⟩)) (w3.alloc (.cells (va .u8 (List.replicate 32 0)) 33)) rfl (by rfl) (exec_allocV 33 rfl _ (zv_api_Block _)) ?_
  simp only [Ls]
  have lp1_p4 := hp1.lt
  have lp2_p4 := hp2.lt
  have lp3_p4 := hp3.lt
  have lw_p4 := Nat.le_trans hB0 hW.size
  have hp4 := Blk.new w3 33 (va .u8 (List.replicate 32 0))
  have bx := bAl w3 (.cells (va .u8 (List.replicate 32 0)) 33)
  replace hp1 := blB hp1 bx
  replace hp2 := blB hp2 bx
  replace hp3 := blB hp3 bx
  replace hW := trB hW hB0 bx
  clear bx
  generalize w3.alloc (.cells (va .u8 (List.replicate 32 0)) 33) = w4 at *
  generalize w3.heap.size = p4 at hp4 lw_p4 lp1_p4 lp2_p4 lp3_p4 ⊢
  refine runL 5 (.int .i64 0) rfl (by rfl) (by go_simp) ?_
  simp only [Ls]
  refine nilL ?_
  go_upto_region 1 with fail
  refine wl_lit ?_
  refine runL 9 (.slice A n cc) rfl (by rfl) (exec_cell 34 (.tmp 1) rfl p1 0 rfl (.slice A n cc) _ Tryd.underlying34 rfl (hp1.cellIs 0 rfl)) ?_
  refine runL 10 (.int .i64 n) rfl (by rfl) (by go_simp) ?_
  refine runL 11 (.bool false) rfl (by rfl) (by go_simp) ?_
  refine runL 8 (.bool false) rfl (by rfl) (by go_simp) ?_
  simp only [Ls]
  refine nilL ?_
  go_upto_region 3 with fail
  refine wl_lit ?_
  refine runL 15 (.slice A n cc) rfl (by rfl) (exec_cell 34 (.tmp 1) rfl p1 0 rfl (.slice A n cc) _ Tryd.underlying34 rfl (hp1.cellIs 0 rfl)) ?_
  refine runL 16 (.int .i64 n) rfl (by rfl) (by go_simp) ?_
  refine runL 17 (.bool true) rfl (by rfl) (by go_simp) ?_
  refine runL 14 (.bool true) rfl (by rfl) (by go_simp) ?_
  simp only [Ls]
  refine nilL ?_
  go_upto_region 4 with fail
  refine wp_region_held_drew (S := fun wr => Blk wr p1 34 (#[.slice A n cc]) ∧ Blk wr p2 3 (#[.int .i64 0]) ∧ Blk wr p3 30 (noV 0 0) ∧ Blk wr p4 33 (va .u8 (List.replicate 32 0)) ∧ Below B0 w wr) (by kernel_rfl) ⟨hp1.drew, hp2.drew, hp3.drew, hp4.drew, below_drewN hW 1⟩ (fun hH => ?_)
  clear hp1 hp2 hp3 hp4 hW
  obtain ⟨hp1, hp2, hp3, hp4, hW⟩ := hH
  generalize w4.drew = w5 at *
  refine takeH 5 0 18 (.agg (noV 0 0)) rfl rfl (by kernel_rfl) (by kernel_rfl) (by kernel_rfl) (fun _ _ _ h => h) (Or.inl ⟨by rfl, fun _ h => exec_row 30 (.tmp 3) rfl p3 rfl 30 (noV 0 0) _ h.2.2.1 (by exact Tryd.underlying30) rfl (noV_sz _ _)⟩) ⟨hp1, hp2, hp3, hp4, hW⟩ ?_
  simp only [Ls]
  refine takeH 4 1 19 (.agg (va .u8 (List.replicate 32 0))) rfl rfl (by kernel_rfl) (by kernel_rfl) (by kernel_rfl) (fun _ _ _ h => h) (Or.inl ⟨by rfl, fun _ h => exec_row 33 (.tmp 4) rfl p4 rfl 33 (va .u8 (List.replicate 32 0)) _ h.2.2.2.1 (by exact Tryd.underlying33) rfl (sz_api_Block _ (List.length_replicate))⟩) ⟨hp1, hp2, hp3, hp4, hW⟩ ?_
  simp only [Ls]
  refine wpAnyH_ready (by kernel_rfl) (by simp) (readyRunS 3 2 (w5.setCell ⟨p2, 0, none⟩ (.int .i64 0)) rfl rfl (by rfl) (exec_storeCell 3 (.tmp 2) _ rfl p2 0 rfl (.int .i64 0) rfl rfl rfl 3 (#[.int .i64 0]) hp2 (show 0 < 1 by decide) (by kernel_rfl)) ⟨hp1.far (p := ⟨p2, 0, none⟩) (show p1 ≠ p2 from (by omega)) _, hp2.set_ 0 _, hp3.far (p := ⟨p2, 0, none⟩) (show p3 ≠ p2 from (by omega)) _, hp4.far (p := ⟨p2, 0, none⟩) (show p4 ≠ p2 from (by omega)) _, hW.setCell (p := ⟨p2, 0, none⟩) lw_p2 _⟩ (fun _ => ?_) AllReadyH.nil)
  replace hp1 := hp1.far (p := ⟨p2, 0, none⟩) (show p1 ≠ p2 from (by omega)) (.int .i64 0)
  replace hp3 := hp3.far (p := ⟨p2, 0, none⟩) (show p3 ≠ p2 from (by omega)) (.int .i64 0)
  replace hp4 := hp4.far (p := ⟨p2, 0, none⟩) (show p4 ≠ p2 from (by omega)) (.int .i64 0)
  replace hp2 : Blk (w5.setCell ⟨p2, 0, none⟩ (.int .i64 0)) p2 3 (#[.int .i64 0]) := hp2.set_ 0 (.int .i64 0)
  replace hW := hW.setCell (p := ⟨p2, 0, none⟩) lw_p2 (.int .i64 0)
  generalize w5.setCell ⟨p2, 0, none⟩ (.int .i64 0) = w6 at *
  refine wpAnyH_ready (by kernel_rfl) (by simp) (readyRunS 2 3 (w6.setRow p3 (noV 0 0)) rfl rfl (by rfl) (exec_storeRow 30 (.tmp 3) (.tmp 18) rfl p3 rfl (noV 0 0) rfl 30 (noV 0 0) hp3 (sz_eq (noV_sz _ _) (noV_sz _ _)) (noV_sz _ _) (noV_one _ _)) ⟨hp1.rowFar (show p3 ≠ p1 from (by omega)) _, hp2.rowFar (show p3 ≠ p2 from (by omega)) _, hp3.row _, hp4.rowFar (show p3 ≠ p4 from (by omega)) _, below_setRow hW lw_p3 _⟩ (fun _ => ?_) AllReadyH.nil)
  replace hp1 := hp1.rowFar (show p3 ≠ p1 from (by omega)) (noV 0 0)
  replace hp2 := hp2.rowFar (show p3 ≠ p2 from (by omega)) (noV 0 0)
  replace hp4 := hp4.rowFar (show p3 ≠ p4 from (by omega)) (noV 0 0)
  replace hp3 := hp3.row (noV 0 0)
  replace hW := below_setRow hW lw_p3 (noV 0 0)
  generalize w6.setRow p3 (noV 0 0) = w7 at *
  refine wpAnyH_ready (by kernel_rfl) (by simp) (readyRunS 1 4 (w7.setRow p4 (va .u8 (List.replicate 32 0))) rfl rfl (by rfl) (exec_storeRow 33 (.tmp 4) (.tmp 19) rfl p4 rfl (va .u8 (List.replicate 32 0)) rfl 33 (va .u8 (List.replicate 32 0)) hp4 (sz_eq (sz_api_Block _ (List.length_replicate)) (sz_api_Block _ (List.length_replicate))) (sz_api_Block _ (List.length_replicate)) (va_ones .u8 _)) ⟨hp1.rowFar (show p4 ≠ p1 from (by omega)) _, hp2.rowFar (show p4 ≠ p2 from (by omega)) _, hp3.rowFar (show p4 ≠ p3 from (by omega)) _, hp4.row _, below_setRow hW lw_p4 _⟩ (fun _ => ?_) AllReadyH.nil)
  replace hp1 := hp1.rowFar (show p4 ≠ p1 from (by omega)) (va .u8 (List.replicate 32 0))
  replace hp2 := hp2.rowFar (show p4 ≠ p2 from (by omega)) (va .u8 (List.replicate 32 0))
  replace hp3 := hp3.rowFar (show p4 ≠ p3 from (by omega)) (va .u8 (List.replicate 32 0))
  replace hp4 := hp4.row (va .u8 (List.replicate 32 0))
  replace hW := below_setRow hW lw_p4 (va .u8 (List.replicate 32 0))
  generalize w7.setRow p4 (va .u8 (List.replicate 32 0)) = w8 at *
  refine takeH 0 5 5 (.int .i64 5) rfl rfl (by kernel_rfl) (by kernel_rfl) (by kernel_rfl) (fun _ _ _ h => h) (Or.inl ⟨by rfl, fun w _ => by go_simp⟩) ⟨hp1, hp2, hp3, hp4, hW⟩ ?_
  simp only [Ls]
  refine wpAnyH_done (by kernel_rfl) ?_ _
  go_wp2_with fail
  exact bodyPost_ret (results_cell_row_row_tmp rfl _ p2 p3 p4 (.int .i64 0) (.int .i64 5) _ _ _ _ _ _ _ rfl (hp2.cellIs 0 rfl) Tryd.underlying3 rfl rfl hp3 (by exact Tryd.underlying30) rfl (noV_sz _ _) rfl hp4 (by exact Tryd.underlying33) rfl (sz_api_Block _ (List.length_replicate)) rfl) rfl ⟨rfl, hW⟩
theorem get32_to4 (ad : Addr) (cc B : Nat) (l : List Nat) (hlb : Byt l) (i : Nat) (hi : mI l = i) (w : World) (hr : Reads w B 1 (some ad) 48 (nv .u8 l)) :
  Calls Tryd.prog 24 #[.slice (some ad) 4 cc] w fun e w' => e = .returned (.tuple #[.int .u32 (i : Int), .int .i64 0]) ∧ Below w.heap.size w w' := by
 subst hi
 have h := hr.part (o := 0) (m := 4) (by decide)
 rw [List.drop_zero, show ad.add 0 = ad from rfl] at h
 refine (get32_any (some ad) cc B (l.take 4) (hlb.take 4) w h).mono ?_
 rintro e w1 ⟨rfl, rfl⟩
 exact ⟨rfl, Below.refl _ _⟩

set_option maxRecDepth 8000 in
set_option maxHeartbeats 4000000 in
theorem sparse_far (l : List Nat) (_hll : l.length = 48) (hlb : Byt l) (A : Option Addr) (cc B : Nat) (hcc : 48 ≤ cc) (w : World) (hr : Reads w B 1 A 48 (nv .u8 l)) (hBw : B ≤ w.heap.size) (i : Nat) (hi : mI l = i) (hi2 : 4096 ≤ i) (hi3 : i < 4294967296) :
  Calls Tryd.prog 12 #[.slice A 48 cc] w fun e' w' => e' = .returned (.tuple #[.int .i64 0, .agg (noV 0 0), .agg (va .u8 (List.replicate 32 0)), .int .i64 1]) ∧ Below w.heap.size w w' := by
 obtain ⟨ad, rfl, hbl, _⟩ := hr.num (i := 0) (by omega)
 have hiq := Lib.hid hi
 have hwi : IntKind.i64.wrap (i : Int) = (i : Int) := IntWalk.i64_in _ (by omega)
 clear hi hbl
 obtain ⟨B0, hB0e, hW, hB0⟩ := stB w
 rw [hB0e]
 have hBB0 : B ≤ B0 := by omega
 have rd := reads_of hr hBB0
 have hccI : (48 : Int) ≤ (cc : Int) := by omega
 have hc4I : (4 : Int) ≤ (cc : Int) := by omega
 clear hr
 have hB0q := Lib.hid hB0e
 clear hB0e
 go_enter Tryd.func12, Tryd.ntmps12
 go_upto_region 0 with fail
 refine wl_lit ?_
 refine runWL 1 (.pointer (some ⟨w.heap.size, 0, none⟩)) (w.alloc (.cells (#[.slice (some ad) 48 cc]) 34)) rfl (by rfl) (exec_box 34 (.tmp 0) rfl (.slice (some ad) 48 cc) rfl) ?_
 simp only [Ls]
 have lw_p1 := Nat.le_trans hB0 hW.size
 have hp1 := Blk.new w 34 (#[.slice (some ad) 48 cc])
 replace hW := alB hW hB0 (.cells (#[.slice (some ad) 48 cc]) 34)
 generalize w.alloc (.cells (#[.slice (some ad) 48 cc]) 34) = w1 at *
 generalize w.heap.size = p1 at hp1 lw_p1  ⊢
 refine runWL 2 (.pointer (some ⟨w1.heap.size, 0, none⟩)) (w1.alloc (.cells (#[.int .i64 0]) 3)) rfl (by rfl) (exec_allocV 3 rfl _ (zv_int _)) ?_
 simp only [Ls]
 have lp1_p2 := hp1.lt
 have lw_p2 := Nat.le_trans hB0 hW.size
 have hp2 := Blk.new w1 3 (#[.int .i64 0])
 have bx := bAl w1 (.cells (#[.int .i64 0]) 3)
 replace hp1 := blB hp1 bx
 replace hW := trB hW hB0 bx
 clear bx
 generalize w1.alloc (.cells (#[.int .i64 0]) 3) = w2 at *
 generalize w1.heap.size = p2 at hp2 lw_p2 lp1_p2 ⊢
 refine runWL 3 (.pointer (some ⟨w2.heap.size, 0, none⟩)) (w2.alloc (.cells (noV 0 0) 30)) rfl (by rfl) (exec_allocV 30 rfl _ (zv_Nonce _)) ?_
 simp only [Ls]
 have lp1_p3 := hp1.lt
 have lp2_p3 := hp2.lt
 have lw_p3 := Nat.le_trans hB0 hW.size
 have hp3 := Blk.new w2 30 (noV 0 0)
 have bx := bAl w2 (.cells (noV 0 0) 30)
 replace hp1 := blB hp1 bx
 replace hp2 := blB hp2 bx
 replace hW := trB hW hB0 bx
 clear bx
 generalize w2.alloc (.cells (noV 0 0) 30) = w3 at *
 generalize w2.heap.size = p3 at hp3 lw_p3 lp1_p3 lp2_p3 ⊢
 refine runWL 4 (.pointer (some ⟨w3.heap.size, 0, none⟩)) (w3.alloc (.cells (va .u8 (List.replicate 32 0)) 33)) rfl (by rfl) (exec_allocV 33 rfl _ (zv_api_Block _)) ?_
 simp only [Ls]
 have lp1_p4 := hp1.lt
 have lp2_p4 := hp2.lt
 have lp3_p4 := hp3.lt
 have lw_p4 := Nat.le_trans hB0 hW.size
 have hp4 := Blk.new w3 33 (va .u8 (List.replicate 32 0))
 have bx := bAl w3 (.cells (va .u8 (List.replicate 32 0)) 33)
 replace hp1 := blB hp1 bx
 replace hp2 := blB hp2 bx
 replace hp3 := blB hp3 bx
 replace hW := trB hW hB0 bx
 clear bx
 generalize w3.alloc (.cells (va .u8 (List.replicate 32 0)) 33) = w4 at *
 generalize w3.heap.size = p4 at hp4 lw_p4 lp1_p4 lp2_p4 lp3_p4 ⊢
 refine runL 5 (.int .i64 0) rfl (by rfl) (by go_simp) ?_
 simp only [Ls]
 refine nilL ?_
 go_upto_region 1 with fail
 refine wl_lit ?_
 refine runL 9 (.slice (some ad) 48 cc) rfl (by rfl) (exec_cell 34 (.tmp 1) rfl p1 0 rfl (.slice (some ad) 48 cc) _ Tryd.underlying34 rfl (hp1.cellIs 0 rfl)) ?_
 refine runL 10 (.int .i64 48) rfl (by rfl) (by go_simp) ?_
 refine runL 11 (.bool false) rfl (by rfl) (by go_simp) ?_
 refine runL 8 (.bool false) rfl (by rfl) (by go_simp) ?_
 simp only [Ls]
 refine nilL ?_
 go_upto_region 3 with fail
 refine wl_lit ?_
 refine runL 15 (.slice (some ad) 48 cc) rfl (by rfl) (exec_cell 34 (.tmp 1) rfl p1 0 rfl (.slice (some ad) 48 cc) _ Tryd.underlying34 rfl (hp1.cellIs 0 rfl)) ?_
 refine runL 16 (.int .i64 48) rfl (by rfl) (by go_simp) ?_
 refine runL 17 (.bool false) rfl (by rfl) (by go_simp) ?_
 refine runL 14 (.bool false) rfl (by rfl) (by go_simp) ?_
 simp only [Ls]
 refine nilL ?_
 go_upto_region 5 with fail
 refine wl_lit ?_
 refine runL 21 (.slice (some ad) 48 cc) rfl (by rfl) (exec_cell 34 (.tmp 1) rfl p1 0 rfl (.slice (some ad) 48 cc) _ Tryd.underlying34 rfl (hp1.cellIs 0 rfl)) ?_
 refine runL 22 (.slice (some ad) 4 cc) rfl (by rfl) (by go_simp) ?_
 simp only [Ls]
 refine callL 23 rfl (by rfl) (fun K hK => wp_callF 24 #[.slice (some ad) 4 cc] (by go_simp) (get32_to4 ad cc B l hlb i hiq.out _ (rd.out _ hW)) ?_)
 rintro e w5 ⟨rfl, bx⟩
 replace hp1 := blB hp1 bx
 replace hp2 := blB hp2 bx
 replace hp3 := blB hp3 bx
 replace hp4 := blB hp4 bx
 replace hW := trB hW hB0 bx
 clear bx
 refine ⟨_, rfl, hK.out _ _ ?_⟩
 clear hK K
 refine runL 20 (.tuple #[.int .u32 (i : Int), .int .i64 0]) rfl (by rfl) (by go_simp) ?_
 refine runL 24 (.int .u32 (i : Int)) rfl (by rfl) (by go_simp) ?_
 refine runL 25 (.int .i64 0) rfl (by rfl) (by go_simp) ?_
 simp only [Ls]
 refine runWL 6 (.pointer (some ⟨w5.heap.size, 0, none⟩)) (w5.alloc (.cells (#[.int .u32 0]) 27)) rfl (by rfl) (exec_allocV 27 rfl _ (zv_u32 _)) ?_
 simp only [Ls]
 have lp1_p6 := hp1.lt
 have lp2_p6 := hp2.lt
 have lp3_p6 := hp3.lt
 have lp4_p6 := hp4.lt
 have lw_p6 := Nat.le_trans hB0 hW.size
 have hp6 := Blk.new w5 27 (#[.int .u32 0])
 have bx := bAl w5 (.cells (#[.int .u32 0]) 27)
 replace hp1 := blB hp1 bx
 replace hp2 := blB hp2 bx
 replace hp3 := blB hp3 bx
 replace hp4 := blB hp4 bx
 replace hW := trB hW hB0 bx
 clear bx
 generalize w5.alloc (.cells (#[.int .u32 0]) 27) = w6 at *
 generalize w5.heap.size = p6 at hp6 lw_p6 lp1_p6 lp2_p6 lp3_p6 lp4_p6 ⊢
 refine runSL (w6.setCell ⟨p6, 0, none⟩ (.int .u32 (i : Int))) rfl (by rfl) (exec_storeCell 27 (.tmp 6) (.tmp 24) rfl p6 0 rfl (.int .u32 (i : Int)) rfl rfl rfl 27 (#[.int .u32 0]) hp6 (show 0 < 1 by decide) (by kernel_rfl)) ?_
 replace hp1 := hp1.far (p := ⟨p6, 0, none⟩) (show p1 ≠ p6 from (by omega)) (.int .u32 (i : Int))
 replace hp2 := hp2.far (p := ⟨p6, 0, none⟩) (show p2 ≠ p6 from (by omega)) (.int .u32 (i : Int))
 replace hp3 := hp3.far (p := ⟨p6, 0, none⟩) (show p3 ≠ p6 from (by omega)) (.int .u32 (i : Int))
 replace hp4 := hp4.far (p := ⟨p6, 0, none⟩) (show p4 ≠ p6 from (by omega)) (.int .u32 (i : Int))
 replace hp6 : Blk (w6.setCell ⟨p6, 0, none⟩ (.int .u32 (i : Int))) p6 27 (#[.int .u32 (i : Int)]) := hp6.set_ 0 (.int .u32 (i : Int))
 replace hW := hW.setCell (p := ⟨p6, 0, none⟩) lw_p6 (.int .u32 (i : Int))
 generalize w6.setCell ⟨p6, 0, none⟩ (.int .u32 (i : Int)) = w7 at *
 refine runL 7 (.int .i64 0) rfl (by rfl) (by go_simp) ?_
 simp only [Ls]
 refine nilL ?_
 go_upto_region 6 with fail
 refine wl_lit ?_
 refine runL 26 (.int .u32 (i : Int)) rfl (by rfl) (exec_cell 27 (.tmp 6) rfl p6 0 rfl (.int .u32 (i : Int)) _ Tryd.underlying27 rfl (hp6.cellIs 0 rfl)) ?_
 refine runL 27 (.int .i64 (i : Int)) rfl (by rfl) (by go_simp) ?_
 refine runL 28 (.func (.func 25) #[] #[.pointer (some ⟨p6, 0, none⟩), .pointer (some ⟨p2, 0, none⟩), .pointer (some ⟨p1, 0, none⟩), .pointer (some ⟨p3, 0, none⟩), .pointer (some ⟨p4, 0, none⟩)]) rfl (by rfl) (exec_makeFunc _ _ rfl _ rfl) ?_
 simp only [Ls]
 refine callL 29 rfl (by rfl) (fun K hK => wp_callF 21 #[.int .i64 (i : Int), .func (.func 25) #[] #[.pointer (some ⟨p6, 0, none⟩), .pointer (some ⟨p2, 0, none⟩), .pointer (some ⟨p1, 0, none⟩), .pointer (some ⟨p3, 0, none⟩), .pointer (some ⟨p4, 0, none⟩)]] (by go_simp) (indexed_bad (i : Int) (.inr (by omega)) _ _) ?_)
 rintro e w8 ⟨rfl, bx⟩
 replace hp1 := blB hp1 bx
 replace hp2 := blB hp2 bx
 replace hp3 := blB hp3 bx
 replace hp4 := blB hp4 bx
 replace hp6 := blB hp6 bx
 replace hW := trB hW hB0 bx
 clear bx
 refine ⟨_, rfl, hK.out _ _ ?_⟩
 clear hK K
 refine runL 5 (.int .i64 1) rfl (by rfl) (by go_simp) ?_
 simp only [Ls]
 refine nilL ?_
 go_upto_region 7 with fail
 refine wp_region_held_drew (S := fun wr => Blk wr p1 34 (#[.slice (some ad) 48 cc]) ∧ Blk wr p2 3 (#[.int .i64 0]) ∧ Blk wr p3 30 (noV 0 0) ∧ Blk wr p4 33 (va .u8 (List.replicate 32 0)) ∧ Blk wr p6 27 (#[.int .u32 (i : Int)]) ∧ Below B0 w wr) (by kernel_rfl) ⟨hp1.drew, hp2.drew, hp3.drew, hp4.drew, hp6.drew, below_drewN hW 1⟩ (fun hH => ?_)
 clear hp1 hp2 hp3 hp4 hp6 hW
 obtain ⟨hp1, hp2, hp3, hp4, hp6, hW⟩ := hH
 generalize w8.drew = w9 at *
 refine takeH 7 0 30 (.int .i64 0) rfl rfl (by kernel_rfl) (by kernel_rfl) (by kernel_rfl) (fun _ _ _ h => h) (Or.inl ⟨by rfl, fun _ h => exec_cell 3 (.tmp 2) rfl p2 0 rfl (.int .i64 0) _ Tryd.underlying3 rfl (h.2.1.cellIs 0 rfl)⟩) ⟨hp1, hp2, hp3, hp4, hp6, hW⟩ ?_
 simp only [Ls]
 refine takeH 6 1 31 (.agg (noV 0 0)) rfl rfl (by kernel_rfl) (by kernel_rfl) (by kernel_rfl) (fun _ _ _ h => h) (Or.inl ⟨by rfl, fun _ h => exec_row 30 (.tmp 3) rfl p3 rfl 30 (noV 0 0) _ h.2.2.1 (by exact Tryd.underlying30) rfl (noV_sz _ _)⟩) ⟨hp1, hp2, hp3, hp4, hp6, hW⟩ ?_
 simp only [Ls]
 refine takeH 5 2 32 (.agg (va .u8 (List.replicate 32 0))) rfl rfl (by kernel_rfl) (by kernel_rfl) (by kernel_rfl) (fun _ _ _ h => h) (Or.inl ⟨by rfl, fun _ h => exec_row 33 (.tmp 4) rfl p4 rfl 33 (va .u8 (List.replicate 32 0)) _ h.2.2.2.1 (by exact Tryd.underlying33) rfl (sz_api_Block _ (List.length_replicate))⟩) ⟨hp1, hp2, hp3, hp4, hp6, hW⟩ ?_
 simp only [Ls]
 refine takeH 4 3 33 (.int .i64 1) rfl rfl (by kernel_rfl) (by kernel_rfl) (by kernel_rfl) (fun _ _ _ h => h) (Or.inl ⟨by rfl, fun w _ => by go_simp⟩) ⟨hp1, hp2, hp3, hp4, hp6, hW⟩ ?_
 simp only [Ls]
 refine wpAnyH_ready (by kernel_rfl) (by simp) (readyRunS 3 4 (w9.setCell ⟨p2, 0, none⟩ (.int .i64 0)) rfl rfl (by rfl) (exec_storeCell 3 (.tmp 2) (.tmp 30) rfl p2 0 rfl (.int .i64 0) rfl rfl rfl 3 (#[.int .i64 0]) hp2 (show 0 < 1 by decide) (by kernel_rfl)) ⟨hp1.far (p := ⟨p2, 0, none⟩) (show p1 ≠ p2 from (by omega)) _, hp2.set_ 0 _, hp3.far (p := ⟨p2, 0, none⟩) (show p3 ≠ p2 from (by omega)) _, hp4.far (p := ⟨p2, 0, none⟩) (show p4 ≠ p2 from (by omega)) _, hp6.far (p := ⟨p2, 0, none⟩) (show p6 ≠ p2 from (by omega)) _, hW.setCell (p := ⟨p2, 0, none⟩) lw_p2 _⟩ (fun _ => ?_) AllReadyH.nil)
 replace hp1 := hp1.far (p := ⟨p2, 0, none⟩) (show p1 ≠ p2 from (by omega)) (.int .i64 0)
 replace hp3 := hp3.far (p := ⟨p2, 0, none⟩) (show p3 ≠ p2 from (by omega)) (.int .i64 0)
 replace hp4 := hp4.far (p := ⟨p2, 0, none⟩) (show p4 ≠ p2 from (by omega)) (.int .i64 0)
 replace hp6 := hp6.far (p := ⟨p2, 0, none⟩) (show p6 ≠ p2 from (by omega)) (.int .i64 0)
 replace hp2 : Blk (w9.setCell ⟨p2, 0, none⟩ (.int .i64 0)) p2 3 (#[.int .i64 0]) := hp2.set_ 0 (.int .i64 0)
 replace hW := hW.setCell (p := ⟨p2, 0, none⟩) lw_p2 (.int .i64 0)
 generalize w9.setCell ⟨p2, 0, none⟩ (.int .i64 0) = w10 at *
 refine wpAnyH_ready (by kernel_rfl) (by simp) (readyRunS 2 5 (w10.setRow p3 (noV 0 0)) rfl rfl (by rfl) (exec_storeRow 30 (.tmp 3) (.tmp 31) rfl p3 rfl (noV 0 0) rfl 30 (noV 0 0) hp3 (sz_eq (noV_sz _ _) (noV_sz _ _)) (noV_sz _ _) (noV_one _ _)) ⟨hp1.rowFar (show p3 ≠ p1 from (by omega)) _, hp2.rowFar (show p3 ≠ p2 from (by omega)) _, hp3.row _, hp4.rowFar (show p3 ≠ p4 from (by omega)) _, hp6.rowFar (show p3 ≠ p6 from (by omega)) _, below_setRow hW lw_p3 _⟩ (fun _ => ?_) AllReadyH.nil)
 replace hp1 := hp1.rowFar (show p3 ≠ p1 from (by omega)) (noV 0 0)
 replace hp2 := hp2.rowFar (show p3 ≠ p2 from (by omega)) (noV 0 0)
 replace hp4 := hp4.rowFar (show p3 ≠ p4 from (by omega)) (noV 0 0)
 replace hp6 := hp6.rowFar (show p3 ≠ p6 from (by omega)) (noV 0 0)
 replace hp3 := hp3.row (noV 0 0)
 replace hW := below_setRow hW lw_p3 (noV 0 0)
 generalize w10.setRow p3 (noV 0 0) = w11 at *
 refine wpAnyH_ready (by kernel_rfl) (by simp) (readyRunS 1 6 (w11.setRow p4 (va .u8 (List.replicate 32 0))) rfl rfl (by rfl) (exec_storeRow 33 (.tmp 4) (.tmp 32) rfl p4 rfl (va .u8 (List.replicate 32 0)) rfl 33 (va .u8 (List.replicate 32 0)) hp4 (sz_eq (sz_api_Block _ (List.length_replicate)) (sz_api_Block _ (List.length_replicate))) (sz_api_Block _ (List.length_replicate)) (va_ones .u8 _)) ⟨hp1.rowFar (show p4 ≠ p1 from (by omega)) _, hp2.rowFar (show p4 ≠ p2 from (by omega)) _, hp3.rowFar (show p4 ≠ p3 from (by omega)) _, hp4.row _, hp6.rowFar (show p4 ≠ p6 from (by omega)) _, below_setRow hW lw_p4 _⟩ (fun _ => ?_) AllReadyH.nil)
 replace hp1 := hp1.rowFar (show p4 ≠ p1 from (by omega)) (va .u8 (List.replicate 32 0))
 replace hp2 := hp2.rowFar (show p4 ≠ p2 from (by omega)) (va .u8 (List.replicate 32 0))
 replace hp3 := hp3.rowFar (show p4 ≠ p3 from (by omega)) (va .u8 (List.replicate 32 0))
 replace hp6 := hp6.rowFar (show p4 ≠ p6 from (by omega)) (va .u8 (List.replicate 32 0))
 replace hp4 := hp4.row (va .u8 (List.replicate 32 0))
 replace hW := below_setRow hW lw_p4 (va .u8 (List.replicate 32 0))
 generalize w11.setRow p4 (va .u8 (List.replicate 32 0)) = w12 at *
 refine takeH 0 7 5 (.int .i64 1) rfl rfl (by kernel_rfl) (by kernel_rfl) (by kernel_rfl) (fun _ _ _ h => h) (Or.inl ⟨by rfl, fun w _ => by go_simp⟩) ⟨hp1, hp2, hp3, hp4, hp6, hW⟩ ?_
 simp only [Ls]
 refine wpAnyH_done (by kernel_rfl) ?_ _
 go_wp2_with fail
 exact bodyPost_ret (results_cell_row_row_tmp rfl _ p2 p3 p4 (.int .i64 0) (.int .i64 1) _ _ _ _ _ _ _ rfl (hp2.cellIs 0 rfl) Tryd.underlying3 rfl rfl hp3 (by exact Tryd.underlying30) rfl (noV_sz _ _) rfl hp4 (by exact Tryd.underlying33) rfl (sz_api_Block _ (List.length_replicate)) rfl) rfl ⟨rfl, hW⟩
set_option maxRecDepth 8000 in
set_option maxHeartbeats 4000000 in
theorem sparse_ok (l : List Nat) (hll : l.length = 48) (hlb : Byt l) (A : Option Addr) (cc B : Nat) (hcc : 48 ≤ cc) (w : World) (hr : Reads w B 1 A 48 (nv .u8 l)) (hBw : B ≤ w.heap.size) (i s c : Nat) (d : List Nat) (hi : mI l = i) (hi2 : i < 4096) (hs : mS l = s) (hc : mC l = c) (hd : mD l = d) :
  Calls Tryd.prog 12 #[.slice A 48 cc] w fun e' w' => e' = .returned (.tuple #[.int .i64 (i : Int), .agg (noV s c), .agg (va .u8 d), .int .i64 0]) ∧ Below w.heap.size w w' := by
 obtain ⟨ad, rfl, hbl, _⟩ := hr.num (i := 0) (by omega)
 have hdl : d.length = 32 := by rw [← hd, mD, List.length_drop, hll]
 have hiq := Lib.hid hi
 have hsq := Lib.hid hs
 have hcq := Lib.hid hc
 have hdq := Lib.hid hd
 have hwi : IntKind.i64.wrap (i : Int) = (i : Int) := IntWalk.i64_in _ (by omega)
 clear hi hs hc hd hbl
 obtain ⟨B0, hB0e, hW, hB0⟩ := stB w
 rw [hB0e]
 have hBB0 : B ≤ B0 := by omega
 have rd := reads_of hr hBB0
 have hccI : (48 : Int) ≤ (cc : Int) := by omega
 have hc4I : (4 : Int) ≤ (cc : Int) := by omega
 clear hr
 have hB0q := Lib.hid hB0e
 clear hB0e
 go_enter Tryd.func12, Tryd.ntmps12
 go_upto_region 0 with fail
 refine wl_lit ?_
 refine runWL 1 (.pointer (some ⟨w.heap.size, 0, none⟩)) (w.alloc (.cells (#[.slice (some ad) 48 cc]) 34)) rfl (by rfl) (exec_box 34 (.tmp 0) rfl (.slice (some ad) 48 cc) rfl) ?_
 simp only [Ls]
 have lw_p1 := Nat.le_trans hB0 hW.size
 have hp1 := Blk.new w 34 (#[.slice (some ad) 48 cc])
 replace hW := alB hW hB0 (.cells (#[.slice (some ad) 48 cc]) 34)
 generalize w.alloc (.cells (#[.slice (some ad) 48 cc]) 34) = w1 at *
 generalize w.heap.size = p1 at hp1 lw_p1  ⊢
 refine runWL 2 (.pointer (some ⟨w1.heap.size, 0, none⟩)) (w1.alloc (.cells (#[.int .i64 0]) 3)) rfl (by rfl) (exec_allocV 3 rfl _ (zv_int _)) ?_
 simp only [Ls]
 have lp1_p2 := hp1.lt
 have lw_p2 := Nat.le_trans hB0 hW.size
 have hp2 := Blk.new w1 3 (#[.int .i64 0])
 have bx := bAl w1 (.cells (#[.int .i64 0]) 3)
 replace hp1 := blB hp1 bx
 replace hW := trB hW hB0 bx
 clear bx
 generalize w1.alloc (.cells (#[.int .i64 0]) 3) = w2 at *
 generalize w1.heap.size = p2 at hp2 lw_p2 lp1_p2 ⊢
 refine runWL 3 (.pointer (some ⟨w2.heap.size, 0, none⟩)) (w2.alloc (.cells (noV 0 0) 30)) rfl (by rfl) (exec_allocV 30 rfl _ (zv_Nonce _)) ?_
 simp only [Ls]
 have lp1_p3 := hp1.lt
 have lp2_p3 := hp2.lt
 have lw_p3 := Nat.le_trans hB0 hW.size
 have hp3 := Blk.new w2 30 (noV 0 0)
 have bx := bAl w2 (.cells (noV 0 0) 30)
 replace hp1 := blB hp1 bx
 replace hp2 := blB hp2 bx
 replace hW := trB hW hB0 bx
 clear bx
 generalize w2.alloc (.cells (noV 0 0) 30) = w3 at *
 generalize w2.heap.size = p3 at hp3 lw_p3 lp1_p3 lp2_p3 ⊢
 refine runWL 4 (.pointer (some ⟨w3.heap.size, 0, none⟩)) (w3.alloc (.cells (va .u8 (List.replicate 32 0)) 33)) rfl (by rfl) (exec_allocV 33 rfl _ (zv_api_Block _)) ?_
 simp only [Ls]
 have lp1_p4 := hp1.lt
 have lp2_p4 := hp2.lt
 have lp3_p4 := hp3.lt
 have lw_p4 := Nat.le_trans hB0 hW.size
 have hp4 := Blk.new w3 33 (va .u8 (List.replicate 32 0))
 have bx := bAl w3 (.cells (va .u8 (List.replicate 32 0)) 33)
 replace hp1 := blB hp1 bx
 replace hp2 := blB hp2 bx
 replace hp3 := blB hp3 bx
 replace hW := trB hW hB0 bx
 clear bx
 generalize w3.alloc (.cells (va .u8 (List.replicate 32 0)) 33) = w4 at *
 generalize w3.heap.size = p4 at hp4 lw_p4 lp1_p4 lp2_p4 lp3_p4 ⊢
 refine runL 5 (.int .i64 0) rfl (by rfl) (by go_simp) ?_
 simp only [Ls]
 refine nilL ?_
 go_upto_region 1 with fail
 refine wl_lit ?_
 refine runL 9 (.slice (some ad) 48 cc) rfl (by rfl) (exec_cell 34 (.tmp 1) rfl p1 0 rfl (.slice (some ad) 48 cc) _ Tryd.underlying34 rfl (hp1.cellIs 0 rfl)) ?_
 refine runL 10 (.int .i64 48) rfl (by rfl) (by go_simp) ?_
 refine runL 11 (.bool false) rfl (by rfl) (by go_simp) ?_
 refine runL 8 (.bool false) rfl (by rfl) (by go_simp) ?_
 simp only [Ls]
 refine nilL ?_
 go_upto_region 3 with fail
 refine wl_lit ?_
 refine runL 15 (.slice (some ad) 48 cc) rfl (by rfl) (exec_cell 34 (.tmp 1) rfl p1 0 rfl (.slice (some ad) 48 cc) _ Tryd.underlying34 rfl (hp1.cellIs 0 rfl)) ?_
 refine runL 16 (.int .i64 48) rfl (by rfl) (by go_simp) ?_
 refine runL 17 (.bool false) rfl (by rfl) (by go_simp) ?_
 refine runL 14 (.bool false) rfl (by rfl) (by go_simp) ?_
 simp only [Ls]
 refine nilL ?_
 go_upto_region 5 with fail
 refine wl_lit ?_
 refine runL 21 (.slice (some ad) 48 cc) rfl (by rfl) (exec_cell 34 (.tmp 1) rfl p1 0 rfl (.slice (some ad) 48 cc) _ Tryd.underlying34 rfl (hp1.cellIs 0 rfl)) ?_
 refine runL 22 (.slice (some ad) 4 cc) rfl (by rfl) (by go_simp) ?_
 simp only [Ls]
 refine callL 23 rfl (by rfl) (fun K hK => wp_callF 24 #[.slice (some ad) 4 cc] (by go_simp) (get32_to4 ad cc B l hlb i hiq.out _ (rd.out _ hW)) ?_)
 rintro e w5 ⟨rfl, bx⟩
 replace hp1 := blB hp1 bx
 replace hp2 := blB hp2 bx
 replace hp3 := blB hp3 bx
 replace hp4 := blB hp4 bx
 replace hW := trB hW hB0 bx
 clear bx
 refine ⟨_, rfl, hK.out _ _ ?_⟩
 clear hK K
 refine runL 20 (.tuple #[.int .u32 (i : Int), .int .i64 0]) rfl (by rfl) (by go_simp) ?_
 refine runL 24 (.int .u32 (i : Int)) rfl (by rfl) (by go_simp) ?_
 refine runL 25 (.int .i64 0) rfl (by rfl) (by go_simp) ?_
 simp only [Ls]
 refine runWL 6 (.pointer (some ⟨w5.heap.size, 0, none⟩)) (w5.alloc (.cells (#[.int .u32 0]) 27)) rfl (by rfl) (exec_allocV 27 rfl _ (zv_u32 _)) ?_
 simp only [Ls]
 have lp1_p6 := hp1.lt
 have lp2_p6 := hp2.lt
 have lp3_p6 := hp3.lt
 have lp4_p6 := hp4.lt
 have lw_p6 := Nat.le_trans hB0 hW.size
 have hp6 := Blk.new w5 27 (#[.int .u32 0])
 have bx := bAl w5 (.cells (#[.int .u32 0]) 27)
 replace hp1 := blB hp1 bx
 replace hp2 := blB hp2 bx
 replace hp3 := blB hp3 bx
 replace hp4 := blB hp4 bx
 replace hW := trB hW hB0 bx
 clear bx
 generalize w5.alloc (.cells (#[.int .u32 0]) 27) = w6 at *
 generalize w5.heap.size = p6 at hp6 lw_p6 lp1_p6 lp2_p6 lp3_p6 lp4_p6 ⊢
 refine runSL (w6.setCell ⟨p6, 0, none⟩ (.int .u32 (i : Int))) rfl (by rfl) (exec_storeCell 27 (.tmp 6) (.tmp 24) rfl p6 0 rfl (.int .u32 (i : Int)) rfl rfl rfl 27 (#[.int .u32 0]) hp6 (show 0 < 1 by decide) (by kernel_rfl)) ?_
 replace hp1 := hp1.far (p := ⟨p6, 0, none⟩) (show p1 ≠ p6 from (by omega)) (.int .u32 (i : Int))
 replace hp2 := hp2.far (p := ⟨p6, 0, none⟩) (show p2 ≠ p6 from (by omega)) (.int .u32 (i : Int))
 replace hp3 := hp3.far (p := ⟨p6, 0, none⟩) (show p3 ≠ p6 from (by omega)) (.int .u32 (i : Int))
 replace hp4 := hp4.far (p := ⟨p6, 0, none⟩) (show p4 ≠ p6 from (by omega)) (.int .u32 (i : Int))
 replace hp6 : Blk (w6.setCell ⟨p6, 0, none⟩ (.int .u32 (i : Int))) p6 27 (#[.int .u32 (i : Int)]) := hp6.set_ 0 (.int .u32 (i : Int))
 replace hW := hW.setCell (p := ⟨p6, 0, none⟩) lw_p6 (.int .u32 (i : Int))
 generalize w6.setCell ⟨p6, 0, none⟩ (.int .u32 (i : Int)) = w7 at *
 refine runL 7 (.int .i64 0) rfl (by rfl) (by go_simp) ?_
 simp only [Ls]
 refine nilL ?_
 go_upto_region 6 with fail
 refine wl_lit ?_
 refine runL 26 (.int .u32 (i : Int)) rfl (by rfl) (exec_cell 27 (.tmp 6) rfl p6 0 rfl (.int .u32 (i : Int)) _ Tryd.underlying27 rfl (hp6.cellIs 0 rfl)) ?_
 refine runL 27 (.int .i64 (i : Int)) rfl (by rfl) (by go_simp) ?_
 refine runL 28 (.func (.func 25) #[] #[.pointer (some ⟨p6, 0, none⟩), .pointer (some ⟨p2, 0, none⟩), .pointer (some ⟨p1, 0, none⟩), .pointer (some ⟨p3, 0, none⟩), .pointer (some ⟨p4, 0, none⟩)]) rfl (by rfl) (exec_makeFunc _ _ rfl _ rfl) ?_
 simp only [Ls]
 refine callL 29 rfl (by rfl) (fun K hK => wp_callF 21 #[.int .i64 (i : Int), .func (.func 25) #[] #[.pointer (some ⟨p6, 0, none⟩), .pointer (some ⟨p2, 0, none⟩), .pointer (some ⟨p1, 0, none⟩), .pointer (some ⟨p3, 0, none⟩), .pointer (some ⟨p4, 0, none⟩)]] (by go_simp) (indexed_ok i hi2 _ _ _ (by go_simp) (R := fun v w' => v = .int .i64 0 ∧ Blk w' p2 3 #[.int .i64 (i : Int)] ∧ Blk w' p3 30 (noV s c) ∧ Blk w' p4 33 (va .u8 d) ∧ Below B0 _ w') ((spc1_any l hll hlb ad cc B B0 p1 p2 p3 p4 p6 i s c d hiq.out hi2 hsq.out hcq.out hdq.out hdl hcc _ (Lib.hid fun W h => rd.out W (hW.trans h)) hBB0 hp6 hp2 hp1 hp3 hp4 lw_p2 lw_p3 lw_p4 (by omega) (by omega) (by omega) (by omega)).mono (by rintro e w' ⟨rfl, h⟩; exact ⟨_, rfl, rfl, h⟩))) ?_)
 clear hp1 hp2 hp3 hp4 hp6
 rintro e w8 ⟨_, rfl, rfl, hp2, hp3, hp4, bx⟩
 replace hW := hW.trans bx
 clear bx
 refine ⟨_, rfl, hK.out _ _ ?_⟩
 clear hK K
 refine runL 5 (.int .i64 0) rfl (by rfl) (by go_simp) ?_
 simp only [Ls]
 refine nilL ?_
 go_upto_region 7 with fail
 refine wp_region_held_drew (S := fun wr => Blk wr p2 3 (#[.int .i64 (i : Int)]) ∧ Blk wr p3 30 (noV s c) ∧ Blk wr p4 33 (va .u8 d) ∧ Below B0 w wr) (by kernel_rfl) ⟨hp2.drew, hp3.drew, hp4.drew, below_drewN hW 1⟩ (fun hH => ?_)
 clear hp2 hp3 hp4 hW
 obtain ⟨hp2, hp3, hp4, hW⟩ := hH
 generalize w8.drew = w9 at *
 refine takeH 7 0 30 (.int .i64 (i : Int)) rfl rfl (by kernel_rfl) (by kernel_rfl) (by kernel_rfl) (fun _ _ _ h => h) (Or.inl ⟨by rfl, fun _ h => exec_cell 3 (.tmp 2) rfl p2 0 rfl (.int .i64 (i : Int)) _ Tryd.underlying3 rfl (h.1.cellIs 0 rfl)⟩) ⟨hp2, hp3, hp4, hW⟩ ?_
 simp only [Ls]
 refine takeH 6 1 31 (.agg (noV s c)) rfl rfl (by kernel_rfl) (by kernel_rfl) (by kernel_rfl) (fun _ _ _ h => h) (Or.inl ⟨by rfl, fun _ h => exec_row 30 (.tmp 3) rfl p3 rfl 30 (noV s c) _ h.2.1 (by exact Tryd.underlying30) rfl (noV_sz _ _)⟩) ⟨hp2, hp3, hp4, hW⟩ ?_
 simp only [Ls]
 refine takeH 5 2 32 (.agg (va .u8 d)) rfl rfl (by kernel_rfl) (by kernel_rfl) (by kernel_rfl) (fun _ _ _ h => h) (Or.inl ⟨by rfl, fun _ h => exec_row 33 (.tmp 4) rfl p4 rfl 33 (va .u8 d) _ h.2.2.1 (by exact Tryd.underlying33) rfl (sz_api_Block _ hdl)⟩) ⟨hp2, hp3, hp4, hW⟩ ?_
 simp only [Ls]
 refine takeH 4 3 33 (.int .i64 0) rfl rfl (by kernel_rfl) (by kernel_rfl) (by kernel_rfl) (fun _ _ _ h => h) (Or.inl ⟨by rfl, fun w _ => by go_simp⟩) ⟨hp2, hp3, hp4, hW⟩ ?_
 simp only [Ls]
 refine wpAnyH_ready (by kernel_rfl) (by simp) (readyRunS 3 4 (w9.setCell ⟨p2, 0, none⟩ (.int .i64 (i : Int))) rfl rfl (by rfl) (exec_storeCell 3 (.tmp 2) (.tmp 30) rfl p2 0 rfl (.int .i64 (i : Int)) rfl rfl rfl 3 (#[.int .i64 (i : Int)]) hp2 (show 0 < 1 by decide) (by kernel_rfl)) ⟨hp2.set_ 0 _, hp3.far (p := ⟨p2, 0, none⟩) (show p3 ≠ p2 from (by omega)) _, hp4.far (p := ⟨p2, 0, none⟩) (show p4 ≠ p2 from (by omega)) _, hW.setCell (p := ⟨p2, 0, none⟩) lw_p2 _⟩ (fun _ => ?_) AllReadyH.nil)
 replace hp3 := hp3.far (p := ⟨p2, 0, none⟩) (show p3 ≠ p2 from (by omega)) (.int .i64 (i : Int))
 replace hp4 := hp4.far (p := ⟨p2, 0, none⟩) (show p4 ≠ p2 from (by omega)) (.int .i64 (i : Int))
 replace hp2 : Blk (w9.setCell ⟨p2, 0, none⟩ (.int .i64 (i : Int))) p2 3 (#[.int .i64 (i : Int)]) := hp2.set_ 0 (.int .i64 (i : Int))
 replace hW := hW.setCell (p := ⟨p2, 0, none⟩) lw_p2 (.int .i64 (i : Int))
 generalize w9.setCell ⟨p2, 0, none⟩ (.int .i64 (i : Int)) = w10 at *
 refine wpAnyH_ready (by kernel_rfl) (by simp) (readyRunS 2 5 (w10.setRow p3 (noV s c)) rfl rfl (by rfl) (exec_storeRow 30 (.tmp 3) (.tmp 31) rfl p3 rfl (noV s c) rfl 30 (noV s c) hp3 (sz_eq (noV_sz _ _) (noV_sz _ _)) (noV_sz _ _) (noV_one _ _)) ⟨hp2.rowFar (show p3 ≠ p2 from (by omega)) _, hp3.row _, hp4.rowFar (show p3 ≠ p4 from (by omega)) _, below_setRow hW lw_p3 _⟩ (fun _ => ?_) AllReadyH.nil)
 replace hp2 := hp2.rowFar (show p3 ≠ p2 from (by omega)) (noV s c)
 replace hp4 := hp4.rowFar (show p3 ≠ p4 from (by omega)) (noV s c)
 replace hp3 := hp3.row (noV s c)
 replace hW := below_setRow hW lw_p3 (noV s c)
 generalize w10.setRow p3 (noV s c) = w11 at *
 refine wpAnyH_ready (by kernel_rfl) (by simp) (readyRunS 1 6 (w11.setRow p4 (va .u8 d)) rfl rfl (by rfl) (exec_storeRow 33 (.tmp 4) (.tmp 32) rfl p4 rfl (va .u8 d) rfl 33 (va .u8 d) hp4 (sz_eq (sz_api_Block _ hdl) (sz_api_Block _ hdl)) (sz_api_Block _ hdl) (va_ones .u8 _)) ⟨hp2.rowFar (show p4 ≠ p2 from (by omega)) _, hp3.rowFar (show p4 ≠ p3 from (by omega)) _, hp4.row _, below_setRow hW lw_p4 _⟩ (fun _ => ?_) AllReadyH.nil)
 replace hp2 := hp2.rowFar (show p4 ≠ p2 from (by omega)) (va .u8 d)
 replace hp3 := hp3.rowFar (show p4 ≠ p3 from (by omega)) (va .u8 d)
 replace hp4 := hp4.row (va .u8 d)
 replace hW := below_setRow hW lw_p4 (va .u8 d)
 generalize w11.setRow p4 (va .u8 d) = w12 at *
 refine takeH 0 7 5 (.int .i64 0) rfl rfl (by kernel_rfl) (by kernel_rfl) (by kernel_rfl) (fun _ _ _ h => h) (Or.inl ⟨by rfl, fun w _ => by go_simp⟩) ⟨hp2, hp3, hp4, hW⟩ ?_
 simp only [Ls]
 refine wpAnyH_done (by kernel_rfl) ?_ _
 go_wp2_with fail
 exact bodyPost_ret (results_cell_row_row_tmp rfl _ p2 p3 p4 (.int .i64 (i : Int)) (.int .i64 0) _ _ _ _ _ _ _ rfl (hp2.cellIs 0 rfl) Tryd.underlying3 rfl rfl hp3 (by exact Tryd.underlying30) rfl (noV_sz _ _) rfl hp4 (by exact Tryd.underlying33) rfl (sz_api_Block _ hdl) rfl) rfl ⟨rfl, hW⟩
end Go.Proofs.YtcfddmplnoknlaaDoor
