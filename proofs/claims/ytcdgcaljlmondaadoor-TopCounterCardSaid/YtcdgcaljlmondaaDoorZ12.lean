/-
  The walks of derives.Volume, caissonref04.Keys, caissonlaw04.DerivesVolume. (Printed by mkdrv04g.py.)
-/
import Derived.Test.YtcdgcaljlmondaaDoorZ11
namespace Go.Proofs.YtcdgcaljlmondaaDoor
set_option maxRecDepth 16384
open Go.RowKit Sh
theorem sz_derives_Keys (l : List Nat) (h : l.length = 48) : (Tryd.prog.info? 54).map (·.size) = some (va .u8 l).size := by rw [va_size, h]; kernel_rfl
theorem zv_derives_Keys (w : World) : (zeroValue 54).run Tryd.prog w = .ok (.agg (va .u8 (List.replicate 48 0))) w := by kernel_rfl
def kCai : List Nat := [99, 97, 105, 115, 115, 111, 110]
theorem bs_kCai (W : World) : (Instr.buildSlice 27 7 #[(0, .int .u8 99), (1, .int .u8 97), (2, .int .u8 105), (3, .int .u8 115), (4, .int .u8 115), (5, .int .u8 111), (6, .int .u8 110)]).run Tryd.prog W = .ok (.slice (some ⟨W.heap.size, 0, none⟩) 7 7) (W.alloc (.cells (va .u8 kCai) 5)) := by
 obtain ⟨ie, hie, h0, h1, h2⟩ := info_parts byte_info
 refine run_buildSlice W _ 5 7 _ (va .u8 kCai) ie _ Tryd.underlying27 hie h0 (by rw [h1]; decide) (by rw [h1]; decide) ?_
 rw [h1]; kernel_rfl
theorem byt_kCai : Byt kCai := fun x hx => by
 have h : kCai.all (· < 256) = true := by decide
 rw [List.all_eq_true] at h; simpa using h x hx
def kEnc : List Nat := [101, 110, 99, 114, 121, 112, 116]
theorem bs_kEnc (W : World) : (Instr.buildSlice 27 7 #[(0, .int .u8 101), (1, .int .u8 110), (2, .int .u8 99), (3, .int .u8 114), (4, .int .u8 121), (5, .int .u8 112), (6, .int .u8 116)]).run Tryd.prog W = .ok (.slice (some ⟨W.heap.size, 0, none⟩) 7 7) (W.alloc (.cells (va .u8 kEnc) 5)) := by
 obtain ⟨ie, hie, h0, h1, h2⟩ := info_parts byte_info
 refine run_buildSlice W _ 5 7 _ (va .u8 kEnc) ie _ Tryd.underlying27 hie h0 (by rw [h1]; decide) (by rw [h1]; decide) ?_
 rw [h1]; kernel_rfl
theorem byt_kEnc : Byt kEnc := fun x hx => by
 have h : kEnc.all (· < 256) = true := by decide
 rw [List.all_eq_true] at h; simpa using h x hx
def kMac : List Nat := [109, 97, 99]
theorem bs_kMac (W : World) : (Instr.buildSlice 27 3 #[(0, .int .u8 109), (1, .int .u8 97), (2, .int .u8 99)]).run Tryd.prog W = .ok (.slice (some ⟨W.heap.size, 0, none⟩) 3 3) (W.alloc (.cells (va .u8 kMac) 5)) := by
 obtain ⟨ie, hie, h0, h1, h2⟩ := info_parts byte_info
 refine run_buildSlice W _ 5 3 _ (va .u8 kMac) ie _ Tryd.underlying27 hie h0 (by rw [h1]; decide) (by rw [h1]; decide) ?_
 rw [h1]; kernel_rfl
theorem byt_kMac : Byt kMac := fun x hx => by
 have h : kMac.all (· < 256) = true := by decide
 rw [List.all_eq_true] at h; simpa using h x hx

theorem Rs.freeze_ {w : World} {B0 n : Nat} {A : Option Addr} {l : List Nat} {g k m : Nat} (h : Rs w B0 A n l) (_ : Off A g) : Rs (w.freeze ⟨g, k, none⟩ m) B0 A n l := h.map fun _ _ hb => hb.freeze _ _
theorem Rs.off_lt {w : World} {B0 n : Nat} {A : Option Addr} {l : List Nat} {x : Nat} (h : Rs w B0 A n l) (hx : x < B0) : Off A x := fun a ha e => by
  rcases h.2 with ⟨rfl, _⟩ | ⟨g, rfl, hg, hb⟩
  · cases ha
  · cases ha; have e2 : g = x := e; omega
theorem Blk.left {W : World} {g : Nat} {T : TypeId} {x y : List Nat} (hb : Blk W g T (va .u8 (x ++ y))) : W.rangeAt g 0 (nv .u8 x) := fun j v hv => hb.part 0 x.length j v (by simpa using hv)
theorem Blk.right {W : World} {g n : Nat} {T : TypeId} {x y : List Nat} (hb : Blk W g T (va .u8 (x ++ y))) (hn : x.length = n) : W.rangeAt g n (nv .u8 y) := fun j v hv => by
 subst hn
 exact hb.part x.length y.length j v (by simpa using hv)
/-- the keys of a volume -/
def vk (m : List Nat) : List Nat := hm kCai m
def ve (m : List Nat) : List Nat := ex (vk m) kEnc 16
def vm (m : List Nat) : List Nat := ex (vk m) kMac 32
theorem ve_len (m : List Nat) : (ve m).length = 16 := ex_len _ _ _ (by decide)
theorem vm_len (m : List Nat) : (vm m).length = 32 := ex_len _ _ _ (by decide)
set_option maxRecDepth 8000 in
set_option maxHeartbeats 4000000 in
theorem volume_any (m : List Nat) (hml : m.length = 32) (hmb : Byt m) (w : World) (hg : Glob w) :
  Calls Tryd.prog 18 #[.agg (va .u8 m)] w fun e w' => e = .returned (.agg (va .u8 (ve m ++ vm m))) ∧ Below w.heap.size w w' := by
 obtain ⟨B0, hB0e⟩ : ∃ b, w.heap.size = b := ⟨_, rfl⟩
 rw [hB0e]
 have hW : Below B0 w w := by rw [← hB0e]; exact Below.refl _ _
 have hB0 : B0 ≤ w.heap.size := by omega
 have gl := glob_of hg hB0e
 clear hg
 have hB0q := Lib.hid hB0e
 clear hB0e
 obtain ⟨p, hp⟩ : ∃ p, vk m = p := ⟨_, rfl⟩
 obtain ⟨x, hx⟩ : ∃ p, ve m = p := ⟨_, rfl⟩
 obtain ⟨y, hy⟩ : ∃ p, vm m = p := ⟨_, rfl⟩
 have hxl := ve_len m
 have hyl := vm_len m
 have hpl : p.length = 32 := by rw [← hp]; exact hm_len _ _
 have hpb : Byt p := by rw [← hp]; exact hm_byt _ _
 rw [hx] at hxl
 rw [hy] at hyl
 have hxb : Byt x := by rw [← hx]; exact ex_byt _ _ _
 have hyb : Byt y := by rw [← hy]; exact ex_byt _ _ _
 have hpq : Hid (hm kCai m = p) := Lib.hid hp
 have hxq : Hid (ex p kEnc 16 = x) := Lib.hid (by rw [← hp]; exact hx)
 have hyq : Hid (ex p kMac 32 = y) := Lib.hid (by rw [← hp]; exact hy)
 rw [hx, hy]
 clear hp hx hy
 go_enter Tryd.func18, Tryd.ntmps18
 go_upto_region 0 with fail
 refine wl_lit ?_
 refine runWL 1 (.pointer (some ⟨w.heap.size, 0, none⟩)) (w.alloc (.cells (va .u8 (m)) 52)) rfl (by rfl) (exec_box 52 (.tmp 0) rfl (.agg (va .u8 (m))) rfl) ?_
 simp only [ls0, ls1]
 have lw_p1 := Nat.le_trans hB0 hW.size
 have hp1 : Blk (w.alloc (.cells (va .u8 (m)) 52)) w.heap.size 52 (va .u8 (m)) := Blk.new _ _ _
 replace hW := hW.alloc (Nat.le_trans hB0 hW.size) (.cells (va .u8 (m)) 52)
 generalize w.alloc (.cells (va .u8 (m)) 52) = w1 at *
 generalize w.heap.size = p1 at hp1 lw_p1  ⊢
 refine runWL 2 (.pointer (some ⟨w1.heap.size, 0, none⟩)) (w1.alloc (.cells (va .u8 (List.replicate 48 0)) 54)) rfl (by rfl) (exec_allocV 54 rfl _ (zv_derives_Keys _)) ?_
 simp only [ls0, ls1]
 have lp1_p2 := hp1.lt
 have lw_p2 := Nat.le_trans hB0 hW.size
 have hp2 : Blk (w1.alloc (.cells (va .u8 (List.replicate 48 0)) 54)) w1.heap.size 54 (va .u8 (List.replicate 48 0)) := Blk.new _ _ _
 replace hp1 := hp1.alloc (.cells (va .u8 (List.replicate 48 0)) 54)
 replace hW := hW.alloc (Nat.le_trans hB0 hW.size) (.cells (va .u8 (List.replicate 48 0)) 54)
 generalize w1.alloc (.cells (va .u8 (List.replicate 48 0)) 54) = w2 at *
 generalize w1.heap.size = p2 at hp2 lw_p2 lp1_p2 ⊢
 refine nilL ?_
 go_upto_region 1 with fail
 refine wl_lit ?_
 refine runWL 8 (.slice (some ⟨w2.heap.size, 0, none⟩) 7 7) (w2.alloc (.cells (va .u8 (kCai)) 5)) rfl (by rfl) (exec_bslice 27 7 _ rfl _ (by exact bs_kCai _)) ?_
 simp only [ls0, ls1]
 have lp1_q1 := hp1.lt
 have lp2_q1 := hp2.lt
 have lw_q1 := Nat.le_trans hB0 hW.size
 have hq1 : Blk (w2.alloc (.cells (va .u8 (kCai)) 5)) w2.heap.size 5 (va .u8 (kCai)) := Blk.new _ _ _
 replace hp1 := hp1.alloc (.cells (va .u8 (kCai)) 5)
 replace hp2 := hp2.alloc (.cells (va .u8 (kCai)) 5)
 replace hW := hW.alloc (Nat.le_trans hB0 hW.size) (.cells (va .u8 (kCai)) 5)
 generalize w2.alloc (.cells (va .u8 (kCai)) 5) = w3 at *
 generalize w2.heap.size = q1 at hq1 lw_q1 lp1_q1 lp2_q1 ⊢
 refine runWL 9 (.slice (some ⟨q1, 0, none⟩) 7 7) (w3.freeze ⟨q1, 7, none⟩ 1) rfl (by rfl) (exec_convW 27 27 (.tmp 8) rfl (.slice (some ⟨q1, 0, none⟩) 7 7) (.slice (some ⟨q1, 0, none⟩) 7 7) rfl (conv_blk (n := 7) (c := 7) hq1 (rfl))) ?_
 simp only [ls0, ls1]
 replace hp1 := hp1.freeze_ ⟨q1, 7, none⟩ 1 (show q1 ≠ p1 by omega)
 replace hp2 := hp2.freeze_ ⟨q1, 7, none⟩ 1 (show q1 ≠ p2 by omega)
 replace hq1 := hq1.byB.freeze ⟨q1, 7, none⟩ 1
 replace hW := Lib.below_freeze (p := ⟨q1, 7, none⟩) hW lw_q1 1
 generalize w3.freeze ⟨q1, 7, none⟩ 1 = w4 at *
 refine runL 10 (.slice (some ⟨p1, 0, none⟩) 32 32) rfl (by rfl) (by go_simp) ?_
 simp only [ls0, ls1]
 refine callL 11 rfl (by rfl) (fun K hK => wp_callF 48 #[.slice (some ⟨q1, 0, none⟩) 7 7, .slice (some ⟨p1, 0, none⟩) 32 32] (by go_simp) (extract_to kCai m p hpq.out _ 7 7 _ _ 32 32 _ byt_kCai hmb (by decide) (by decide) (by decide) (by decide) _ (gl.out _ hW) (hq1.reads (rfl)) hq1.lt (hp1.readsAll (Nat.lt_succ_self _) (hml)) hp1.lt) ?_)
 rintro e w5 ⟨rfl, bx⟩
 replace hp1 := hp1.below bx hp1.lt
 replace hp2 := hp2.below bx hp2.lt
 replace hq1 := hq1.below bx hq1.lt
 replace hW := hW.trans (bx.mono (Nat.le_trans hB0 hW.size))
 clear bx
 refine ⟨_, rfl, hK.out _ _ ?_⟩
 clear hK K
 simp only [ls0, ls1]
 refine runWL 3 (.pointer (some ⟨w5.heap.size, 0, none⟩)) (w5.alloc (.cells (va .u8 (List.replicate 32 0)) 23)) rfl (by rfl) (exec_allocV 23 rfl _ (zv_api_Digest _)) ?_
 simp only [ls0, ls1]
 have lp1_p3 := hp1.lt
 have lp2_p3 := hp2.lt
 have lq1_p3 := hq1.lt
 have lw_p3 := Nat.le_trans hB0 hW.size
 have hp3 : Blk (w5.alloc (.cells (va .u8 (List.replicate 32 0)) 23)) w5.heap.size 23 (va .u8 (List.replicate 32 0)) := Blk.new _ _ _
 replace hp1 := hp1.alloc (.cells (va .u8 (List.replicate 32 0)) 23)
 replace hp2 := hp2.alloc (.cells (va .u8 (List.replicate 32 0)) 23)
 replace hq1 := hq1.alloc (.cells (va .u8 (List.replicate 32 0)) 23)
 replace hW := hW.alloc (Nat.le_trans hB0 hW.size) (.cells (va .u8 (List.replicate 32 0)) 23)
 generalize w5.alloc (.cells (va .u8 (List.replicate 32 0)) 23) = w6 at *
 generalize w5.heap.size = p3 at hp3 lw_p3 lp1_p3 lp2_p3 lq1_p3 ⊢
 refine runSL (w6.setRow p3 (va .u8 (p))) rfl (by rfl) (exec_storeRow 23 (.tmp 3) (.tmp 11) rfl p3 rfl (va .u8 (p)) rfl 23 (va .u8 (List.replicate 32 0)) hp3 (sz_eq (sz_api_Digest _ (List.length_replicate)) (sz_api_Digest _ (hpl))) (sz_api_Digest _ (hpl)) (va_ones .u8 _)) ?_
 replace hp1 := hp1.rowFar (show p3 ≠ p1 from (by omega)) (va .u8 (p))
 replace hp2 := hp2.rowFar (show p3 ≠ p2 from (by omega)) (va .u8 (p))
 replace hq1 := hq1.rowFar (show p3 ≠ q1 from (by omega)) (va .u8 (p))
 replace hp3 := hp3.row (va .u8 (p))
 replace hW := below_setRow hW lw_p3 (va .u8 (p))
 generalize w6.setRow p3 (va .u8 (p)) = w7 at *
 refine nilL ?_
 go_upto_region 2 with fail
 refine wl_lit ?_
 refine runL 13 (.slice (some ⟨p3, 0, none⟩) 32 32) rfl (by rfl) (by go_simp) ?_
 simp only [ls0, ls1]
 refine runWL 14 (.slice (some ⟨w7.heap.size, 0, none⟩) 7 7) (w7.alloc (.cells (va .u8 (kEnc)) 5)) rfl (by rfl) (exec_bslice 27 7 _ rfl _ (by exact bs_kEnc _)) ?_
 simp only [ls0, ls1]
 have lp1_q2 := hp1.lt
 have lp2_q2 := hp2.lt
 have lq1_q2 := hq1.lt
 have lp3_q2 := hp3.lt
 have lw_q2 := Nat.le_trans hB0 hW.size
 have hq2 : Blk (w7.alloc (.cells (va .u8 (kEnc)) 5)) w7.heap.size 5 (va .u8 (kEnc)) := Blk.new _ _ _
 replace hp1 := hp1.alloc (.cells (va .u8 (kEnc)) 5)
 replace hp2 := hp2.alloc (.cells (va .u8 (kEnc)) 5)
 replace hq1 := hq1.alloc (.cells (va .u8 (kEnc)) 5)
 replace hp3 := hp3.alloc (.cells (va .u8 (kEnc)) 5)
 replace hW := hW.alloc (Nat.le_trans hB0 hW.size) (.cells (va .u8 (kEnc)) 5)
 generalize w7.alloc (.cells (va .u8 (kEnc)) 5) = w8 at *
 generalize w7.heap.size = q2 at hq2 lw_q2 lp1_q2 lp2_q2 lq1_q2 lp3_q2 ⊢
 refine runWL 15 (.slice (some ⟨q2, 0, none⟩) 7 7) (w8.freeze ⟨q2, 7, none⟩ 1) rfl (by rfl) (exec_convW 27 27 (.tmp 14) rfl (.slice (some ⟨q2, 0, none⟩) 7 7) (.slice (some ⟨q2, 0, none⟩) 7 7) rfl (conv_blk (n := 7) (c := 7) hq2 (rfl))) ?_
 simp only [ls0, ls1]
 replace hp1 := hp1.freeze_ ⟨q2, 7, none⟩ 1 (show q2 ≠ p1 by omega)
 replace hp2 := hp2.freeze_ ⟨q2, 7, none⟩ 1 (show q2 ≠ p2 by omega)
 replace hq1 := hq1.freeze ⟨q2, 7, none⟩ 1
 replace hp3 := hp3.freeze_ ⟨q2, 7, none⟩ 1 (show q2 ≠ p3 by omega)
 replace hq2 := hq2.byB.freeze ⟨q2, 7, none⟩ 1
 replace hW := Lib.below_freeze (p := ⟨q2, 7, none⟩) hW lw_q2 1
 generalize w8.freeze ⟨q2, 7, none⟩ 1 = w9 at *
 refine callL 16 rfl (by rfl) (fun K hK => wp_callF 49 #[.slice (some ⟨p3, 0, none⟩) 32 32, .slice (some ⟨q2, 0, none⟩) 7 7, .int .i64 16] (by go_simp) (dexp_to p kEnc 16 x hxq.out (by decide) _ 32 32 _ _ 7 7 _ hpb byt_kEnc (by decide) (by decide) (by decide) (by decide) _ (gl.out _ hW) (hp3.readsAll (Nat.lt_succ_self _) (hpl)) hp3.lt (hq2.reads (rfl)) hq2.lt) ?_)
 rintro e w10 ⟨AX, rfl, hAX, bx⟩
 have nAX_p2 := hAX.off_lt hp2.lt
 replace hAX := hAX.mono (Nat.le_trans hB0 hW.size)
 replace hp1 := hp1.below bx hp1.lt
 replace hp2 := hp2.below bx hp2.lt
 replace hq1 := hq1.below bx hq1.lt
 replace hp3 := hp3.below bx hp3.lt
 replace hq2 := hq2.below bx hq2.lt
 replace hW := hW.trans (bx.mono (Nat.le_trans hB0 hW.size))
 clear bx
 refine ⟨_, rfl, hK.out _ _ ?_⟩
 clear hK K
 simp only [ls0, ls1]
 refine runL 12 (.tuple #[.slice (AX) 16 16, .int .i64 0]) rfl (by rfl) (by go_simp) ?_
 simp only [ls0, ls1]
 refine runL 17 (.slice (AX) 16 16) rfl (by rfl) (by go_simp) ?_
 simp only [ls0, ls1]
 refine runL 18 (.int .i64 0) rfl (by rfl) (by go_simp) ?_
 simp only [ls0, ls1]
 refine runL 4 (.slice (AX) 16 16) rfl (by rfl) (by go_simp) ?_
 simp only [ls0, ls1]
 refine runL 5 (.int .i64 0) rfl (by rfl) (by go_simp) ?_
 simp only [ls0, ls1]
 refine nilL ?_
 go_upto_region 3 with fail
 refine wl_lit ?_
 refine runL 20 (.slice (some ⟨p3, 0, none⟩) 32 32) rfl (by rfl) (by go_simp) ?_
 simp only [ls0, ls1]
 refine runWL 21 (.slice (some ⟨w10.heap.size, 0, none⟩) 3 3) (w10.alloc (.cells (va .u8 (kMac)) 5)) rfl (by rfl) (exec_bslice 27 3 _ rfl _ (by exact bs_kMac _)) ?_
 simp only [ls0, ls1]
 have lp1_q3 := hp1.lt
 have lp2_q3 := hp2.lt
 have lq1_q3 := hq1.lt
 have lp3_q3 := hp3.lt
 have lq2_q3 := hq2.lt
 have nAX_q3 := hAX.new_off
 have lw_q3 := Nat.le_trans hB0 hW.size
 have hq3 : Blk (w10.alloc (.cells (va .u8 (kMac)) 5)) w10.heap.size 5 (va .u8 (kMac)) := Blk.new _ _ _
 replace hp1 := hp1.alloc (.cells (va .u8 (kMac)) 5)
 replace hp2 := hp2.alloc (.cells (va .u8 (kMac)) 5)
 replace hq1 := hq1.alloc (.cells (va .u8 (kMac)) 5)
 replace hp3 := hp3.alloc (.cells (va .u8 (kMac)) 5)
 replace hq2 := hq2.alloc (.cells (va .u8 (kMac)) 5)
 replace hAX := hAX.alloc (.cells (va .u8 (kMac)) 5)
 replace hW := hW.alloc (Nat.le_trans hB0 hW.size) (.cells (va .u8 (kMac)) 5)
 generalize w10.alloc (.cells (va .u8 (kMac)) 5) = w11 at *
 generalize w10.heap.size = q3 at hq3 lw_q3 lp1_q3 lp2_q3 lq1_q3 lp3_q3 lq2_q3 nAX_q3 ⊢
 refine runWL 22 (.slice (some ⟨q3, 0, none⟩) 3 3) (w11.freeze ⟨q3, 3, none⟩ 1) rfl (by rfl) (exec_convW 27 27 (.tmp 21) rfl (.slice (some ⟨q3, 0, none⟩) 3 3) (.slice (some ⟨q3, 0, none⟩) 3 3) rfl (conv_blk (n := 3) (c := 3) hq3 (rfl))) ?_
 simp only [ls0, ls1]
 replace hp1 := hp1.freeze_ ⟨q3, 3, none⟩ 1 (show q3 ≠ p1 by omega)
 replace hp2 := hp2.freeze_ ⟨q3, 3, none⟩ 1 (show q3 ≠ p2 by omega)
 replace hq1 := hq1.freeze ⟨q3, 3, none⟩ 1
 replace hp3 := hp3.freeze_ ⟨q3, 3, none⟩ 1 (show q3 ≠ p3 by omega)
 replace hq2 := hq2.freeze ⟨q3, 3, none⟩ 1
 replace hAX := hAX.freeze_ (k := 3) (m := 1) nAX_q3
 replace hq3 := hq3.byB.freeze ⟨q3, 3, none⟩ 1
 replace hW := Lib.below_freeze (p := ⟨q3, 3, none⟩) hW lw_q3 1
 generalize w11.freeze ⟨q3, 3, none⟩ 1 = w12 at *
 refine callL 23 rfl (by rfl) (fun K hK => wp_callF 49 #[.slice (some ⟨p3, 0, none⟩) 32 32, .slice (some ⟨q3, 0, none⟩) 3 3, .int .i64 32] (by go_simp) (dexp_to p kMac 32 y hyq.out (by decide) _ 32 32 _ _ 3 3 _ hpb byt_kMac (by decide) (by decide) (by decide) (by decide) _ (gl.out _ hW) (hp3.readsAll (Nat.lt_succ_self _) (hpl)) hp3.lt (hq3.reads (rfl)) hq3.lt) ?_)
 rintro e w13 ⟨AY, rfl, hAY, bx⟩
 have nAY_p2 := hAY.off_lt hp2.lt
 replace hAY := hAY.mono (Nat.le_trans hB0 hW.size)
 replace hp1 := hp1.below bx hp1.lt
 replace hp2 := hp2.below bx hp2.lt
 replace hq1 := hq1.below bx hq1.lt
 replace hp3 := hp3.below bx hp3.lt
 replace hq2 := hq2.below bx hq2.lt
 replace hAX := hAX.below bx
 replace hq3 := hq3.below bx hq3.lt
 replace hW := hW.trans (bx.mono (Nat.le_trans hB0 hW.size))
 clear bx
 refine ⟨_, rfl, hK.out _ _ ?_⟩
 clear hK K
 simp only [ls0, ls1]
 refine runL 19 (.tuple #[.slice (AY) 32 32, .int .i64 0]) rfl (by rfl) (by go_simp) ?_
 simp only [ls0, ls1]
 refine runL 24 (.slice (AY) 32 32) rfl (by rfl) (by go_simp) ?_
 simp only [ls0, ls1]
 refine runL 25 (.int .i64 0) rfl (by rfl) (by go_simp) ?_
 simp only [ls0, ls1]
 refine runL 6 (.slice (AY) 32 32) rfl (by rfl) (by go_simp) ?_
 simp only [ls0, ls1]
 refine runL 7 (.int .i64 0) rfl (by rfl) (by go_simp) ?_
 simp only [ls0, ls1]
 refine nilL ?_
 go_upto_region 4 with fail
 refine wl_lit ?_
 refine runL 26 (.pointer (some ⟨p2, 0, none⟩)) rfl (by rfl) (by go_simp) ?_
 simp only [ls0, ls1]
 refine runL 27 (.slice (some ⟨p2, 0, none⟩) 16 16) rfl (by rfl) (by go_simp) ?_
 simp only [ls0, ls1]
 refine runL 28 (.slice (AX) 16 16) rfl (by rfl) (by go_simp) ?_
 simp only [ls0, ls1]
 refine runWL 29 (.int .i64 16) (w13.setRow p2 (va .u8 (x ++ List.replicate 32 0))) rfl (by rfl) (exec_copy _ _ _ _ rfl _ _ _ rfl rfl (copy_row _ _ _ Tryd.underlying27 p2 0 16 16 54 (List.replicate 48 0) hp2 (AX) 16 16 _ (x) hAX.reads (by simp) (by simp) (x ++ List.replicate 32 0) (by rw [List.take_zero]; simp))) ?_
 simp only [ls0, ls1]
 replace hp1 := hp1.rowFar (show p2 ≠ p1 from (by omega)) (va .u8 (x ++ List.replicate 32 0))
 replace hq1 := hq1.rowFar (show p2 ≠ q1 from (by omega)) (va .u8 (x ++ List.replicate 32 0))
 replace hp3 := hp3.rowFar (show p2 ≠ p3 from (by omega)) (va .u8 (x ++ List.replicate 32 0))
 replace hq2 := hq2.rowFar (show p2 ≠ q2 from (by omega)) (va .u8 (x ++ List.replicate 32 0))
 replace hAX := hAX.rowFar nAX_p2 (va .u8 (x ++ List.replicate 32 0))
 replace hq3 := hq3.rowFar (show p2 ≠ q3 from (by omega)) (va .u8 (x ++ List.replicate 32 0))
 replace hAY := hAY.rowFar nAY_p2 (va .u8 (x ++ List.replicate 32 0))
 replace hp2 := hp2.row (va .u8 (x ++ List.replicate 32 0))
 replace hW := below_setRow hW lw_p2 (va .u8 (x ++ List.replicate 32 0))
 generalize w13.setRow p2 (va .u8 (x ++ List.replicate 32 0)) = w14 at *
 refine nilL ?_
 go_upto_region 5 with fail
 refine wl_lit ?_
 refine runL 30 (.pointer (some ⟨p2, 16, none⟩)) rfl (by rfl) (by go_simp) ?_
 simp only [ls0, ls1]
 refine runL 31 (.slice (some ⟨p2, 16, none⟩) 32 32) rfl (by rfl) (by go_simp) ?_
 simp only [ls0, ls1]
 refine runL 32 (.slice (AY) 32 32) rfl (by rfl) (by go_simp) ?_
 simp only [ls0, ls1]
 refine runWL 33 (.int .i64 32) (w14.setRow p2 (va .u8 (x ++ y))) rfl (by rfl) (exec_copy _ _ _ _ rfl _ _ _ rfl rfl (copy_row _ _ _ Tryd.underlying27 p2 16 32 32 54 (x ++ List.replicate 32 0) hp2 (AY) 32 32 _ (y) hAY.reads (by simp) (by simp; omega) (x ++ y) (by simp [hxl]))) ?_
 simp only [ls0, ls1]
 replace hp1 := hp1.rowFar (show p2 ≠ p1 from (by omega)) (va .u8 (x ++ y))
 replace hq1 := hq1.rowFar (show p2 ≠ q1 from (by omega)) (va .u8 (x ++ y))
 replace hp3 := hp3.rowFar (show p2 ≠ p3 from (by omega)) (va .u8 (x ++ y))
 replace hq2 := hq2.rowFar (show p2 ≠ q2 from (by omega)) (va .u8 (x ++ y))
 replace hAX := hAX.rowFar nAX_p2 (va .u8 (x ++ y))
 replace hq3 := hq3.rowFar (show p2 ≠ q3 from (by omega)) (va .u8 (x ++ y))
 replace hAY := hAY.rowFar nAY_p2 (va .u8 (x ++ y))
 replace hp2 := hp2.row (va .u8 (x ++ y))
 replace hW := below_setRow hW lw_p2 (va .u8 (x ++ y))
 generalize w14.setRow p2 (va .u8 (x ++ y)) = w15 at *
 refine nilL ?_
 go_upto_region 6 with fail
 refine wl_lit ?_
 refine runL 34 (.agg (va .u8 (x ++ y))) rfl (by rfl) (exec_row 54 (.tmp 2) rfl p2 rfl 54 (va .u8 (x ++ y)) _ hp2 (by exact Tryd.underlying54) rfl (sz_derives_Keys _ (by simp [hxl, hyl]))) ?_
 simp only [ls0, ls1]
 refine runSL (w15.setRow p2 (va .u8 (x ++ y))) rfl (by rfl) (exec_storeRow 54 (.tmp 2) (.tmp 34) rfl p2 rfl (va .u8 (x ++ y)) rfl 54 (va .u8 (x ++ y)) hp2 (sz_eq (sz_derives_Keys _ (by simp [hxl, hyl])) (sz_derives_Keys _ (by simp [hxl, hyl]))) (sz_derives_Keys _ (by simp [hxl, hyl])) (va_ones .u8 _)) ?_
 replace hp1 := hp1.rowFar (show p2 ≠ p1 from (by omega)) (va .u8 (x ++ y))
 replace hq1 := hq1.rowFar (show p2 ≠ q1 from (by omega)) (va .u8 (x ++ y))
 replace hp3 := hp3.rowFar (show p2 ≠ p3 from (by omega)) (va .u8 (x ++ y))
 replace hq2 := hq2.rowFar (show p2 ≠ q2 from (by omega)) (va .u8 (x ++ y))
 replace hAX := hAX.rowFar nAX_p2 (va .u8 (x ++ y))
 replace hq3 := hq3.rowFar (show p2 ≠ q3 from (by omega)) (va .u8 (x ++ y))
 replace hAY := hAY.rowFar nAY_p2 (va .u8 (x ++ y))
 replace hp2 := hp2.row (va .u8 (x ++ y))
 replace hW := below_setRow hW lw_p2 (va .u8 (x ++ y))
 generalize w15.setRow p2 (va .u8 (x ++ y)) = w16 at *
 refine nilL ?_
 go_wp2_with fail
 exact bodyPost_ret (results_cell_row rfl _ _ p2 54 (va .u8 (x ++ y)) (0, 0) _ rfl hp2 (by exact Tryd.underlying54) rfl (sz_derives_Keys _ (by simp [hxl, hyl]))) rfl ⟨rfl, hW⟩

theorem sz16D (l : List Nat) (h : l.length = 16) : (Tryd.prog.info? 37).map (·.size) = some (nv .u8 l).length := by rw [nv_len, h]; kernel_rfl
end Go.Proofs.YtcdgcaljlmondaaDoor
/-
  The walk of macs.Verify. (Printed by mk03.py.)
-/
namespace Go.Proofs.YtcdgcaljlmondaaDoor
set_option maxRecDepth 16384
open Go.RowKit Sh

theorem or_zero (a b : Nat) : a ||| b = 0 ↔ a = 0 ∧ b = 0 := by
  constructor
  · intro h
    have h1 : a ≤ a ||| b := Nat.left_le_or
    have h2 : b ≤ a ||| b := Nat.right_le_or
    omega
  · rintro ⟨rfl, rfl⟩; rfl
theorem xor_zero (a b : Nat) : a ^^^ b = 0 ↔ a = b := by
  constructor
  · intro h
    have : a ^^^ b ^^^ b = 0 ^^^ b := by rw [h]
    simpa [Nat.xor_assoc] using this
  · rintro rfl; simp
theorem or256 {a b : Nat} (ha : a < 256) (hb : b < 256) : a ||| b < 256 := Nat.or_lt_two_pow (n := 8) ha hb

set_option maxRecDepth 8000 in
set_option maxHeartbeats 2000000 in
theorem verify_any (key m tag : List Nat) (A : Option Addr) (n c B : Nat) (A2 : Option Addr) (n2 c2 B2 : Nat) (hk : Byt key) (hnc : n ≤ c) (hn : n < 100000) (hm0 : Byt m) (hnc2 : n2 ≤ c2) (hn2 : n2 < 100000) (ht : Byt tag) (htl : tag.length = 32) (w : World) (hg : Glob w)
    (hr : Reads w B 1 A n (nv .u8 key)) (hB : B ≤ w.heap.size) (hr2 : Reads w B2 1 A2 n2 (nv .u8 m)) (hB2 : B2 ≤ w.heap.size) :
    Calls Tryd.prog 61 #[.slice A n c, .slice A2 n2 c2, .agg (va .u8 tag)] w fun e w' => e = .returned (.bool (decide (hm key m = tag))) ∧ Below w.heap.size w w' := by
  obtain ⟨B0, hB0e⟩ : ∃ b, w.heap.size = b := ⟨_, rfl⟩
  rw [hB0e]
  have hW : Below B0 w w := by rw [← hB0e]; exact Below.refl _ _
  have hB0 : B0 ≤ w.heap.size := by omega
  have hln2 := hr2.len
  have hBB : B ≤ B0 := by omega
  have hBB2 : B2 ≤ B0 := by omega
  have gl := glob_of hg hB0e
  have rd := reads_of hr hBB
  have rd2 := reads_of hr2 hBB2
  clear hg hr hB hr2 hB2
  have hB0q := Lib.hid hB0e
  clear hB0e
  go_enter Tryd.func61, Tryd.ntmps61
  go_upto_region 0 with fail
  refine wl_lit ?_
  refine runWL 5 (.pointer (some ⟨w.heap.size, 0, none⟩)) (w.alloc (.cells (va .u8 (tag)) 23)) rfl (by rfl) (exec_box 23 (.tmp 2) rfl (.agg (va .u8 (tag))) rfl) ?_
  simp only [ls0, ls1]
  have lw_p5 := Nat.le_trans hB0 hW.size
  have hp5 : Blk (w.alloc (.cells (va .u8 (tag)) 23)) w.heap.size 23 (va .u8 (tag)) := Blk.new _ _ _
  replace hW := hW.alloc (Nat.le_trans hB0 hW.size) (.cells (va .u8 (tag)) 23)
  generalize w.alloc (.cells (va .u8 (tag)) 23) = w1 at *
  generalize w.heap.size = p5 at hp5 lw_p5  ⊢
  refine runL 6 (.bool false) rfl (by rfl) (by go_simp) ?_
  simp only [ls0, ls1]
  refine nilL ?_
  go_upto_region 1 with fail
  refine wl_lit ?_
  refine runL 10 (.slice (A) n c) rfl (by rfl) (by go_simp) ?_
  simp only [ls0, ls1]
  refine runL 11 (.slice (A2) n2 c2) rfl (by rfl) (by go_simp) ?_
  simp only [ls0, ls1]
  refine runWL 12 (.slice (some ⟨w1.heap.size, 0, none⟩) 1 1) (w1.alloc (.cells (#[.slice (A2) n2 c2]) 27)) rfl (by rfl) (exec_bslice 88 1 _ rfl _ (by exact bs_1 (A2) n2 c2 _)) ?_
  simp only [ls0, ls1]
  have lp5_q1 := hp5.lt
  have lw_q1 := Nat.le_trans hB0 hW.size
  have hq1 : Blk (w1.alloc (.cells (#[.slice (A2) n2 c2]) 27)) w1.heap.size 27 (#[.slice (A2) n2 c2]) := Blk.new _ _ _
  replace hp5 := hp5.alloc (.cells (#[.slice (A2) n2 c2]) 27)
  replace hW := hW.alloc (Nat.le_trans hB0 hW.size) (.cells (#[.slice (A2) n2 c2]) 27)
  generalize w1.alloc (.cells (#[.slice (A2) n2 c2]) 27) = w2 at *
  generalize w1.heap.size = q1 at hq1 lw_q1 lp5_q1 ⊢
  refine callL 13 rfl (by rfl) (fun K hK => wp_callF 56 #[.slice (A) n c, .slice (some ⟨q1, 0, none⟩) 1 1] (by go_simp) (macof_any key A n c B [m] _ 1 1 _ hk hnc hn (by omega) (by simp [hln2]; omega) _ (gl.out _ hW) (rd.out _ hW) (Nat.le_trans hBB (Nat.le_trans hB0 hW.size)) (parts_one (Nat.le_trans hBB2 (Nat.le_trans hB0 hW.size)) hq1 (rd2.out _ hW) hnc2 hm0) (Nat.le_refl _)) ?_)
  rintro e w3 ⟨rfl, bx⟩
  replace hp5 := hp5.below bx hp5.lt
  replace hq1 := hq1.below bx hq1.lt
  replace hW := hW.trans (bx.mono (Nat.le_trans hB0 hW.size))
  clear bx
  refine ⟨_, rfl, hK.out _ _ ?_⟩
  clear hK K
  simp only [ls0, ls1]
  refine runWL 7 (.pointer (some ⟨w3.heap.size, 0, none⟩)) (w3.alloc (.cells (va .u8 (List.replicate 32 0)) 23)) rfl (by rfl) (exec_allocV 23 rfl _ (zv_api_Digest _)) ?_
  simp only [ls0, ls1]
  have lp5_p7 := hp5.lt
  have lq1_p7 := hq1.lt
  have lw_p7 := Nat.le_trans hB0 hW.size
  have hp7 : Blk (w3.alloc (.cells (va .u8 (List.replicate 32 0)) 23)) w3.heap.size 23 (va .u8 (List.replicate 32 0)) := Blk.new _ _ _
  replace hp5 := hp5.alloc (.cells (va .u8 (List.replicate 32 0)) 23)
  replace hq1 := hq1.alloc (.cells (va .u8 (List.replicate 32 0)) 23)
  replace hW := hW.alloc (Nat.le_trans hB0 hW.size) (.cells (va .u8 (List.replicate 32 0)) 23)
  generalize w3.alloc (.cells (va .u8 (List.replicate 32 0)) 23) = w4 at *
  generalize w3.heap.size = p7 at hp7 lw_p7 lp5_p7 lq1_p7 ⊢
  refine runSL (w4.setRow p7 (va .u8 (hm key [m].flatten))) rfl (by rfl) (exec_storeRow 23 (.tmp 7) (.tmp 13) rfl p7 rfl (va .u8 (hm key [m].flatten)) rfl 23 (va .u8 (List.replicate 32 0)) hp7 (sz_eq (sz_api_Digest _ (List.length_replicate)) (sz_api_Digest _ (hm_len _ _))) (sz_api_Digest _ (hm_len _ _)) (va_ones .u8 _)) ?_
  replace hp5 := hp5.rowFar (show p7 ≠ p5 from (by omega)) (va .u8 (hm key [m].flatten))
  replace hq1 := hq1.rowFar (show p7 ≠ q1 from (by omega)) (va .u8 (hm key [m].flatten))
  replace hp7 := hp7.row (va .u8 (hm key [m].flatten))
  replace hW := below_setRow hW lw_p7 (va .u8 (hm key [m].flatten))
  generalize w4.setRow p7 (va .u8 (hm key [m].flatten)) = w5 at *
  refine nilL ?_
  simp only [List.flatten_cons, List.flatten_nil, List.append_nil] at hp7
  clear hq1
  go_wp2
  go_loopw [8, 14] (fun v s wr => ∃ (i d : Nat), i ≤ 32 ∧ s = .int .i64 (i : Int) ∧ v = .int .u8 (d : Int) ∧ d < 256 ∧ (d = 0 ↔ ∀ j, j < i → (hm key m).getD j 0 = tag.getD j 0) ∧ Blk wr p5 23 (va .u8 tag) ∧ Blk wr p7 23 (va .u8 (hm key m)) ∧ Below B0 w wr) (fun _ s _ => 32 - (intOf s).toNat)
  case atStart => exact ⟨0, 0, by omega, rfl, rfl, by omega, by simp, hp5, hp7, hW⟩
  case round =>
    clear hp5 hp7 hW
    obtain ⟨i, d, hi, rfl, rfl, hd, hdz, hp5, hp7, hW⟩ := hrel
    have hdzq := Lib.hid hdz
    clear hdz
    by_cases hlt : i < 32
    ·
      have hltI : (i : Int) < 32 := by omega
      have hx := (hm_byt key m).get i
      have hy := ht.get i
      obtain ⟨x, hxe⟩ : ∃ x, (hm key m).getD i 0 = x := ⟨_, rfl⟩
      obtain ⟨y, hye⟩ : ∃ y, tag.getD i 0 = y := ⟨_, rfl⟩
      rw [hxe] at hx
      rw [hye] at hy
      have hxq := Lib.hid hxe
      have hyq := Lib.hid hye
      have hxr : bits BinOp.xor IntKind.u8 (x : Int) (y : Int) = ((x ^^^ y : Nat) : Int) := u8_xor_nat x y hx hy
      have hor : bits BinOp.or IntKind.u8 (d : Int) ((x ^^^ y : Nat) : Int) = ((d ||| (x ^^^ y) : Nat) : Int) := u8_or_nat _ _ hd (xor256 hx hy)
      clear hxe hye
      go_upto_region 6 with fail
      refine wp_region_held_drew (S := fun wr => Blk wr p5 23 (va .u8 (tag)) ∧ Blk wr p7 23 (va .u8 (hm key m)) ∧ Below B0 w wr) (by kernel_rfl) ⟨hp5.drew, hp7.drew, below_drewN hW 1⟩ (fun hH => ?_)
      clear hp5 hp7 hW
      obtain ⟨hp5, hp7, hW⟩ := hH
      generalize wr.drew = w6 at *
      refine takeH 9 0 17 (.int .u8 (d : Int)) rfl rfl (by kernel_rfl) (by kernel_rfl) (by kernel_rfl) (fun _ _ _ h => h) (Or.inl ⟨by rfl, fun w _ => by go_simp⟩) ⟨hp5, hp7, hW⟩ ?_
      simp only [ls0, ls1]
      refine takeH 8 1 18 (.int .i64 (i : Int)) rfl rfl (by kernel_rfl) (by kernel_rfl) (by kernel_rfl) (fun _ _ _ h => h) (Or.inl ⟨by rfl, fun w _ => by go_simp⟩) ⟨hp5, hp7, hW⟩ ?_
      simp only [ls0, ls1]
      refine takeH 7 2 19 (.pointer (some ⟨p7, i, none⟩)) rfl rfl (by kernel_rfl) (by kernel_rfl) (by kernel_rfl) (fun _ _ _ h => h) (Or.inl ⟨by rfl, fun w _ => by go_simp⟩) ⟨hp5, hp7, hW⟩ ?_
      simp only [ls0, ls1]
      refine takeH 6 3 20 (.int .u8 ((x : Nat) : Int)) rfl rfl (by kernel_rfl) (by kernel_rfl) (by kernel_rfl) (fun _ _ _ h => h) (Or.inl ⟨by rfl, fun _ h => exec_cell 5 (.tmp 19) rfl p7 i rfl (.int .u8 ((x : Nat) : Int)) _ Tryd.underlying5 rfl (by rw [← hxq.out]; exact h.2.1.num (by rw [hm_len]; exact hlt))⟩) ⟨hp5, hp7, hW⟩ ?_
      simp only [ls0, ls1]
      refine takeH 5 4 21 (.int .i64 (i : Int)) rfl rfl (by kernel_rfl) (by kernel_rfl) (by kernel_rfl) (fun _ _ _ h => h) (Or.inl ⟨by rfl, fun w _ => by go_simp⟩) ⟨hp5, hp7, hW⟩ ?_
      simp only [ls0, ls1]
      refine takeH 4 5 22 (.pointer (some ⟨p5, i, none⟩)) rfl rfl (by kernel_rfl) (by kernel_rfl) (by kernel_rfl) (fun _ _ _ h => h) (Or.inl ⟨by rfl, fun w _ => by go_simp⟩) ⟨hp5, hp7, hW⟩ ?_
      simp only [ls0, ls1]
      refine takeH 3 6 23 (.int .u8 ((y : Nat) : Int)) rfl rfl (by kernel_rfl) (by kernel_rfl) (by kernel_rfl) (fun _ _ _ h => h) (Or.inl ⟨by rfl, fun _ h => exec_cell 5 (.tmp 22) rfl p5 i rfl (.int .u8 ((y : Nat) : Int)) _ Tryd.underlying5 rfl (by rw [← hyq.out]; exact h.1.num (by rw [htl]; exact hlt))⟩) ⟨hp5, hp7, hW⟩ ?_
      simp only [ls0, ls1]
      refine takeH 2 7 24 (.int .u8 (((x ^^^ y : Nat) : Int))) rfl rfl (by kernel_rfl) (by kernel_rfl) (by kernel_rfl) (fun _ _ _ h => h) (Or.inl ⟨by rfl, fun w _ => by go_simp⟩) ⟨hp5, hp7, hW⟩ ?_
      simp only [ls0, ls1]
      refine takeH 1 8 25 (.int .u8 (((d ||| (x ^^^ y) : Nat) : Int))) rfl rfl (by kernel_rfl) (by kernel_rfl) (by kernel_rfl) (fun _ _ _ h => h) (Or.inl ⟨by rfl, fun w _ => by go_simp⟩) ⟨hp5, hp7, hW⟩ ?_
      simp only [ls0, ls1]
      refine takeH 0 9 8 (.int .u8 (((d ||| (x ^^^ y) : Nat) : Int))) rfl rfl (by kernel_rfl) (by kernel_rfl) (by kernel_rfl) (fun _ _ _ h => h) (Or.inl ⟨by rfl, fun w _ => by go_simp⟩) ⟨hp5, hp7, hW⟩ ?_
      simp only [ls0, ls1]
      refine wpAnyH_done (by kernel_rfl) ?_ _
      have hz2 : d ||| (x ^^^ y) = 0 ↔ ∀ j, j < i + 1 → (hm key m).getD j 0 = tag.getD j 0 := by
        rw [or_zero, xor_zero, hdzq.out]
        constructor
        · rintro ⟨h1, h2⟩ j hj
          by_cases e : j = i
          · subst e; rw [hxq.out, hyq.out]; exact h2
          · exact h1 j (by omega)
        · intro h
          exact ⟨fun j hj => h j (by omega), by rw [← hxq.out, ← hyq.out]; exact h i (by omega)⟩
      have hzq := Lib.hid hz2
      have hdd := Lib.hid (or256 hd (xor256 hx hy))
      clear hz2
      go_wp2
      go_roundw
      case rel => exact ⟨i + 1, _, by omega, by go_num, rfl, hdd.out, hzq.out, hp5, hp7, hW⟩
      case measure => simp [intOf]; omega
    ·
      obtain rfl : i = 32 := by omega
      have hdq : d = 0 ↔ hm key m = tag := by
        rw [hdzq.out]
        constructor
        · intro h
          exact ext_getD (by rw [hm_len, htl]) (fun j hj => h j (by rw [hm_len] at hj; exact hj))
        · rintro h j _; rw [h]
      by_cases hE : hm key m = tag
      ·
        obtain rfl := hdq.2 hE
        have hEq := Lib.hid (decide_eq_true hE)
        clear hdq hdzq hE
        go_upto_region 8 with fail
        refine wl_lit ?_
        refine runL 27 (.int .u8 ((0 : Nat) : Int)) rfl (by rfl) (by go_simp) ?_
        simp only [ls0, ls1]
        refine runL 28 (.bool true) rfl (by rfl) (by go_simp) ?_
        simp only [ls0, ls1]
        refine runL 6 (.bool true) rfl (by rfl) (by go_simp) ?_
        simp only [ls0, ls1]
        refine nilL ?_
        go_wp2_with fail
        go_ret
        exact ⟨by rw [hEq.out]; rfl, hW⟩
      ·
        have hdn : ¬ d = 0 := fun h => hE (hdq.1 h)
        have hdI : ¬ (d : Int) = 0 := by omega
        have hEq := Lib.hid (decide_eq_false hE)
        clear hdq hdzq hE
        go_upto_region 8 with fail
        refine wl_lit ?_
        refine runL 27 (.int .u8 (d : Int)) rfl (by rfl) (by go_simp) ?_
        simp only [ls0, ls1]
        refine runL 28 (.bool false) rfl (by rfl) (by go_simp) ?_
        simp only [ls0, ls1]
        refine runL 6 (.bool false) rfl (by rfl) (by go_simp) ?_
        simp only [ls0, ls1]
        refine nilL ?_
        go_wp2_with fail
        go_ret
        exact ⟨by rw [hEq.out]; rfl, hW⟩
end Go.Proofs.YtcdgcaljlmondaaDoor
/-
  The walks of seals.indexed, message, Message, combined, Seal, Open. (Printed by mkseal09.py.)
-/
namespace Go.Proofs.YtcdgcaljlmondaaDoor
set_option maxRecDepth 16384
open Go.RowKit Sh
theorem sz_api_Block (l : List Nat) (h : l.length = 32) : (Tryd.prog.info? 64).map (·.size) = some (va .u8 l).size := by rw [va_size, h]; kernel_rfl
theorem zv_api_Block (w : World) : (zeroValue 64).run Tryd.prog w = .ok (.agg (va .u8 (List.replicate 32 0))) w := by kernel_rfl
section
variable {P : Program} {w : World}
theorem exec_makeFunc {op : Oper} {a : Act} (f : FuncId) (cs : List Operand) (ho : op.op = .makeFunc (.func f) #[] cs.toArray) (vs : Array Value) (hv : (cs.map a.eval).toArray = vs) :
  (execOp a.eval op).run P w = .ok (.value (.func (.func f) #[] vs)) w := by
 subst hv
 unfold execOp
 simp [ho, Instr.makeFunc]
theorem exec_callV {op : Oper} {a : Act} (cl : Call) (ho : op.op = .call cl) (x : Operand) (hc : cl.callee = .value x) (ha : cl.args = #[]) (fn : FuncId) (caps : Array Value) (hx : a.eval x = .func (.func fn) #[] caps) (hfn : (callFunc fn caps).run P w = .ok (.enter fn caps) w) :
  (execOp a.eval op).run P w = .ok (.enter fn caps) w := by
 unfold execOp
 simp [ho, resolve, hc, ha, hx, Deferred.ofValue, invoke, hfn]
theorem exec_arrayAt {op : Oper} {a : Act} (arr : TypeId) (x : Operand) (ho : op.op = .sliceToArrayPointer arr x) (n : Nat) (e : TypeId) (hu : P.underlying arr = some (.array n e)) (A : Option Addr) (len c : Nat) (hx : a.eval x = .slice A len c) (hn : n ≤ len) :
  (execOp a.eval op).run P w = .ok (.value (.pointer A)) w := by
 have h1 := run_underlying (w := w) hu
 have h : (Instr.arrayAt arr (.slice A len c)).run P w = .ok (.pointer A) w := by
  simp [Instr.arrayAt, h1, Nat.not_lt.2 hn]
 unfold execOp
 simp only [ho, hx, Sem.run_bind, h, Result.andThen_ok, Sem.run_pure]
/-- a row at an address whatever it is -/
theorem exec_midA {op : Oper} {a : Act} (ty : TypeId) (x : Operand) (ho : op.op = .load ty x) (ad : Addr) (hx : a.eval x = .pointer (some ad)) (cs : List Value) (d : TypeDesc) (hc : ∀ j v, cs[j]? = some v → w.cell? (ad.add j) = some v)
  (hu : P.underlying ty = some d) (hd : d.isRow = true) (hi : (P.info? ty).map (·.size) = some cs.length) : (execOp a.eval op).run P w = .ok (.value (.agg cs.toArray)) w := by
 have hl : (loadCells ad cs.length).run P w = .ok cs.toArray w := run_loadCells_list (P := P) w ad cs hc
 have h : (loadVar ty ad).run P w = .ok (.agg cs.toArray) w := by
  cases hq : P.info? ty with
  | none => simp [hq] at hi
  | some i =>
   have hs : i.size = cs.length := by simpa [hq] using hi
   have hagg : (isAgg ty).run P w = .ok true w := by
    unfold isAgg
    rw [Sem.run_bind, run_underlying hu w]
    cases d <;> simp_all
   simp [loadVar, Sem.run_bind, hagg, sizeOf, typeInfo, hq, hs, hl]
 unfold execOp
 simp only [ho, hx, Instr.loadAt, Instr.sureAddr, Sem.run_bind, Sem.run_pure, Result.andThen_ok, h]
theorem Reads.cells {B n : Nat} {ad : Addr} {xs : List Value} (h : Reads w B 1 (some ad) n xs) (hn : 0 < n) : ∀ j v, xs[j]? = some v → w.cell? (ad.add j) = some v := by
 obtain ⟨ad', e, _, hc⟩ := h.2 hn
 injection e with e
 subst e
 exact hc
end
theorem nput_to (s c : Nat) (hs : s < 4294967296) (w : World) :
  Calls Tryd.prog 14 #[.agg (noV s c)] w fun e w' => ∃ g, e = .returned (.slice (some ⟨g, 0, none⟩) 12 12) ∧ Blk w' g 5 (va .u8 (noB s c)) ∧ w.heap.size ≤ g ∧ Below w.heap.size w w' := nput_any s c hs w

set_option maxRecDepth 8000 in
set_option maxHeartbeats 4000000 in
theorem indexed_ok (i : Nat) (hi : i < 4096) (fn : FuncId) (caps : Array Value) (w : World) (hfn : (callFunc fn caps).run Tryd.prog w = .ok (.enter fn caps) w) {R : Value → World → Prop} (h : Calls Tryd.prog fn caps w fun e w' => ∃ v, e = .returned v ∧ R v w') :
  Calls Tryd.prog 53 #[.int .i64 (i : Int), .func (.func fn) #[] caps] w fun e w' => ∃ v, e = .returned v ∧ R v w' := by
 have h1 : ¬ (i : Int) < 0 := by omega
 have h2 : ¬ 4096 ≤ (i : Int) := by omega
 have hq := Lib.hid h
 have hfq := Lib.hid hfn
 clear h hfn
 go_enter Tryd.func53, Tryd.ntmps53
 go_upto_region 0 with fail
 refine wl_lit ?_
 refine runL 4 (.int .i64 0) rfl (by rfl) (by go_simp) ?_
 simp only [ls0, ls1]
 refine nilL ?_
 go_upto_region 1 with fail
 refine wl_lit ?_
 refine runL 5 (.int .i64 (i : Int)) rfl (by rfl) (by go_simp) ?_
 simp only [ls0, ls1]
 refine runL 6 (.bool false) rfl (by rfl) (by go_simp) ?_
 simp only [ls0, ls1]
 refine runL 7 (.bool false) rfl (by rfl) (by go_simp) ?_
 simp only [ls0, ls1]
 refine runL 8 (.int .i64 (i : Int)) rfl (by rfl) (by go_simp) ?_
 simp only [ls0, ls1]
 refine runL 9 (.bool false) rfl (by rfl) (by go_simp) ?_
 simp only [ls0, ls1]
 refine runL 10 (.bool false) rfl (by rfl) (by go_simp) ?_
 simp only [ls0, ls1]
 refine nilL ?_
 go_upto_region 3 with fail
 refine wl_lit ?_
 refine runL 11 (.func (.func fn) #[] caps) rfl (by rfl) (by go_simp) ?_
 simp only [ls0, ls1]
 refine callL 12 rfl (by rfl) (fun K hK => wp_callF fn caps (exec_callV _ rfl _ rfl rfl _ _ rfl hfq.out) hq.out ?_)
 rintro e w1 ⟨v, rfl, hR⟩
 refine ⟨_, rfl, hK.out _ _ ?_⟩
 clear hK K
 simp only [ls0, ls1]
 refine runL 4 v rfl (by rfl) (by go_simp) ?_
 simp only [ls0, ls1]
 refine nilL ?_
 have hRq := Lib.hid hR
 clear hR
 go_wp2_with fail
 go_ret
 exact ⟨_, rfl, hRq.out⟩
set_option maxRecDepth 8000 in
set_option maxHeartbeats 4000000 in
theorem smsg_any (i s c : Nat) (d : List Nat) (hi : i < 4096) (hs : s < 4294967296) (hdl : d.length = 32) (hdb : Byt d) (w : World) :
  Calls Tryd.prog 57 #[.int .i64 (i : Int), .agg (noV s c), .agg (va .u8 d)] w fun e w' => ∃ g, e = .returned (.slice (some ⟨g, 0, none⟩) 48 48) ∧ Blk w' g 5 (va .u8 (msg i s c d)) ∧ w.heap.size ≤ g ∧ Below w.heap.size w w' := by
 obtain ⟨B0, hB0e⟩ : ∃ b, w.heap.size = b := ⟨_, rfl⟩
 rw [hB0e]
 have hW : Below B0 w w := by rw [← hB0e]; exact Below.refl _ _
 have hB0 : B0 ≤ w.heap.size := by omega
 have hB0q := Lib.hid hB0e
 clear hB0e
 have hw32 : IntKind.u32.wrap (i : Int) = (i : Int) := by simp [IntKind.wrap, IntKind.bits, IntKind.signed]; omega
 have hi32 : i < 4294967296 := by omega
 go_enter Tryd.func57, Tryd.ntmps57
 go_upto_region 0 with fail
 refine wl_lit ?_
 refine runWL 4 (.pointer (some ⟨w.heap.size, 0, none⟩)) (w.alloc (.cells (noV s c) 40)) rfl (by rfl) (exec_box 40 (.tmp 1) rfl (.agg (noV s c)) rfl) ?_
 simp only [ls0, ls1]
 have lw_p4 := Nat.le_trans hB0 hW.size
 have hp4 : Blk (w.alloc (.cells (noV s c) 40)) w.heap.size 40 (noV s c) := Blk.new _ _ _
 replace hW := hW.alloc (Nat.le_trans hB0 hW.size) (.cells (noV s c) 40)
 generalize w.alloc (.cells (noV s c) 40) = w1 at *
 generalize w.heap.size = p4 at hp4 lw_p4  ⊢
 refine runWL 5 (.pointer (some ⟨w1.heap.size, 0, none⟩)) (w1.alloc (.cells (va .u8 (d)) 64)) rfl (by rfl) (exec_box 64 (.tmp 2) rfl (.agg (va .u8 (d))) rfl) ?_
 simp only [ls0, ls1]
 have lp4_p5 := hp4.lt
 have lw_p5 := Nat.le_trans hB0 hW.size
 have hp5 : Blk (w1.alloc (.cells (va .u8 (d)) 64)) w1.heap.size 64 (va .u8 (d)) := Blk.new _ _ _
 replace hp4 := hp4.alloc (.cells (va .u8 (d)) 64)
 replace hW := hW.alloc (Nat.le_trans hB0 hW.size) (.cells (va .u8 (d)) 64)
 generalize w1.alloc (.cells (va .u8 (d)) 64) = w2 at *
 generalize w1.heap.size = p5 at hp5 lw_p5 lp4_p5 ⊢
 refine runL 6 (.slice none 0 0) rfl (by rfl) (by go_simp) ?_
 simp only [ls0, ls1]
 refine nilL ?_
 go_upto_region 1 with fail
 refine wp_region_held_drew (S := fun wr => Blk wr p4 40 (noV s c) ∧ Blk wr p5 64 (va .u8 (d)) ∧ Below B0 w wr) (by kernel_rfl) ⟨hp4.drew, hp5.drew, below_drewN hW 1⟩ (fun hH => ?_)
 clear hp4 hp5 hW
 obtain ⟨hp4, hp5, hW⟩ := hH
 generalize w2.drew = w3 at *
 refine takeH 8 0 7 (.int .i64 (i : Int)) rfl rfl (by kernel_rfl) (by kernel_rfl) (by kernel_rfl) (fun _ _ _ h => h) (Or.inl ⟨by rfl, fun w _ => by go_simp⟩) ⟨hp4, hp5, hW⟩ ?_
 simp only [ls0, ls1]
 refine takeH 7 1 8 (.int .u32 (i : Int)) rfl rfl (by kernel_rfl) (by kernel_rfl) (by kernel_rfl) (fun _ _ _ h => h) (Or.inl ⟨by rfl, fun w _ => by go_simp⟩) ⟨hp4, hp5, hW⟩ ?_
 simp only [ls0, ls1]
 refine takeH 6 3 10 (.agg (noV s c)) rfl rfl (by kernel_rfl) (by kernel_rfl) (by kernel_rfl) (fun _ _ _ h => h) (Or.inl ⟨by rfl, fun _ h => exec_row 40 (.tmp 4) rfl p4 rfl 40 (noV s c) _ h.1 (by exact Tryd.underlying40) rfl (noV_sz _ _)⟩) ⟨hp4, hp5, hW⟩ ?_
 simp only [ls0, ls1]
 refine takeH 5 5 12 (.slice (some ⟨p5, 0, none⟩) 32 32) rfl rfl (by kernel_rfl) (by kernel_rfl) (by kernel_rfl) (fun _ _ _ h => h) (Or.inl ⟨by rfl, fun w _ => by go_simp⟩) ⟨hp4, hp5, hW⟩ ?_
 simp only [ls0, ls1]
 refine wpAnyH_ready (by kernel_rfl) (by simp) (readyCons 4 2 9 rfl rfl (by rfl) (fun K hK => wp_callF 15 #[.int .u32 (i : Int)] (by go_simp) (put32_to i (beB i 4) rfl hi32 _) ?_) AllReadyH.nil)
 rintro e w4 ⟨g1, rfl, hg1, hgg, bx⟩
 have lp4_g1 : p4 < g1 := Nat.lt_of_lt_of_le hp4.lt hgg
 have lp5_g1 : p5 < g1 := Nat.lt_of_lt_of_le hp5.lt hgg
 have lw_g1 : B0 ≤ g1 := Nat.le_trans (Nat.le_trans hB0 hW.size) hgg
 replace hp4 := hp4.below bx hp4.lt
 replace hp5 := hp5.below bx hp5.lt
 replace hW := hW.trans (bx.mono (Nat.le_trans hB0 hW.size))
 clear hgg
 clear bx
 refine ⟨_, rfl, hK.out _ _ ⟨hp4, hp5, hW⟩ (fun _ => ?_)⟩
 clear hK K
 simp only [ls0, ls1]
 refine wpAnyH_ready (by kernel_rfl) (by simp) (readyCons 3 4 11 rfl rfl (by rfl) (fun K hK => wp_callF 14 #[.agg (noV s c)] (by go_simp) (nput_to s c hs _) ?_) AllReadyH.nil)
 rintro e w5 ⟨g2, rfl, hg2, hgg, bx⟩
 have lp4_g2 : p4 < g2 := Nat.lt_of_lt_of_le hp4.lt hgg
 have lp5_g2 : p5 < g2 := Nat.lt_of_lt_of_le hp5.lt hgg
 have lg1_g2 : g1 < g2 := Nat.lt_of_lt_of_le hg1.lt hgg
 have lw_g2 : B0 ≤ g2 := Nat.le_trans (Nat.le_trans hB0 hW.size) hgg
 replace hp4 := hp4.below bx hp4.lt
 replace hp5 := hp5.below bx hp5.lt
 replace hg1 := hg1.below bx hg1.lt
 replace hW := hW.trans (bx.mono (Nat.le_trans hB0 hW.size))
 clear hgg
 clear bx
 refine ⟨_, rfl, hK.out _ _ ⟨hp4, hp5, hW⟩ (fun _ => ?_)⟩
 clear hK K
 simp only [ls0, ls1]
 refine wpAnyH_ready (by kernel_rfl) (by simp) (readyRun 2 6 13 (.slice (some ⟨w5.heap.size, 0, none⟩) 3 3) (w5.alloc (.cells (#[.slice (some ⟨g1, 0, none⟩) 4 4, .slice (some ⟨g2, 0, none⟩) 12 12, .slice (some ⟨p5, 0, none⟩) 32 32]) 27)) rfl rfl (by rfl) (exec_bslice 88 3 _ rfl _ (by exact bs_3 (some ⟨g1, 0, none⟩) 4 4 (some ⟨g2, 0, none⟩) 12 12 (some ⟨p5, 0, none⟩) 32 32 _)) ⟨hp4.alloc _, hp5.alloc _, hW.alloc (Nat.le_trans hB0 hW.size) _⟩ (fun _ => ?_) AllReadyH.nil)
 simp only [ls0, ls1]
 have lp4_q1 := hp4.lt
 have lp5_q1 := hp5.lt
 have lg1_q1 := hg1.lt
 have lg2_q1 := hg2.lt
 have lw_q1 := Nat.le_trans hB0 hW.size
 have hq1 : Blk (w5.alloc (.cells (#[.slice (some ⟨g1, 0, none⟩) 4 4, .slice (some ⟨g2, 0, none⟩) 12 12, .slice (some ⟨p5, 0, none⟩) 32 32]) 27)) w5.heap.size 27 (#[.slice (some ⟨g1, 0, none⟩) 4 4, .slice (some ⟨g2, 0, none⟩) 12 12, .slice (some ⟨p5, 0, none⟩) 32 32]) := Blk.new _ _ _
 replace hp4 := hp4.alloc (.cells (#[.slice (some ⟨g1, 0, none⟩) 4 4, .slice (some ⟨g2, 0, none⟩) 12 12, .slice (some ⟨p5, 0, none⟩) 32 32]) 27)
 replace hp5 := hp5.alloc (.cells (#[.slice (some ⟨g1, 0, none⟩) 4 4, .slice (some ⟨g2, 0, none⟩) 12 12, .slice (some ⟨p5, 0, none⟩) 32 32]) 27)
 replace hg1 := hg1.alloc (.cells (#[.slice (some ⟨g1, 0, none⟩) 4 4, .slice (some ⟨g2, 0, none⟩) 12 12, .slice (some ⟨p5, 0, none⟩) 32 32]) 27)
 replace hg2 := hg2.alloc (.cells (#[.slice (some ⟨g1, 0, none⟩) 4 4, .slice (some ⟨g2, 0, none⟩) 12 12, .slice (some ⟨p5, 0, none⟩) 32 32]) 27)
 replace hW := hW.alloc (Nat.le_trans hB0 hW.size) (.cells (#[.slice (some ⟨g1, 0, none⟩) 4 4, .slice (some ⟨g2, 0, none⟩) 12 12, .slice (some ⟨p5, 0, none⟩) 32 32]) 27)
 generalize w5.alloc (.cells (#[.slice (some ⟨g1, 0, none⟩) 4 4, .slice (some ⟨g2, 0, none⟩) 12 12, .slice (some ⟨p5, 0, none⟩) 32 32]) 27) = w6 at *
 generalize w5.heap.size = q1 at hq1 lw_q1 lp4_q1 lp5_q1 lg1_q1 lg2_q1 ⊢
 refine wpAnyH_ready (by kernel_rfl) (by simp) (readyCons 1 7 14 rfl rfl (by rfl) (fun K hK => wp_callF 9 #[.slice (some ⟨q1, 0, none⟩) 3 3] (by go_simp) (join_to [beB i 4, noB s c, d] (msg i s c d) 3 3 _ 48 _ _ (parts_three hg1.lt hg2.lt hp5.lt hq1 (hg1.readsAll (Nat.lt_succ_self _) (beB_len _ _)) (Nat.le_refl _) (beB_byt _ _) (hg2.readsAll (Nat.lt_succ_self _) (noB_len _ _)) (Nat.le_refl _) (noB_byt _ _) (hp5.readsAll (Nat.lt_succ_self _) (hdl)) (Nat.le_refl _) hdb) (by simp [msg]) (by omega) (Nat.le_refl _) (msg_len hdl) (by omega)) ?_) AllReadyH.nil)
 rintro e w7 ⟨g4, rfl, hg4, hgg, bx⟩
 have lp4_g4 : p4 < g4 := Nat.lt_of_lt_of_le hp4.lt hgg
 have lp5_g4 : p5 < g4 := Nat.lt_of_lt_of_le hp5.lt hgg
 have lg1_g4 : g1 < g4 := Nat.lt_of_lt_of_le hg1.lt hgg
 have lg2_g4 : g2 < g4 := Nat.lt_of_lt_of_le hg2.lt hgg
 have lq1_g4 : q1 < g4 := Nat.lt_of_lt_of_le hq1.lt hgg
 have lw_g4 : B0 ≤ g4 := Nat.le_trans (Nat.le_trans hB0 hW.size) hgg
 replace hp4 := hp4.below bx hp4.lt
 replace hp5 := hp5.below bx hp5.lt
 replace hg1 := hg1.below bx hg1.lt
 replace hg2 := hg2.below bx hg2.lt
 replace hq1 := hq1.below bx hq1.lt
 replace hW := hW.trans (bx.mono (Nat.le_trans hB0 hW.size))
 clear hgg
 clear bx
 refine ⟨_, rfl, hK.out _ _ ⟨hp4, hp5, hW⟩ (fun _ => ?_)⟩
 clear hK K
 simp only [ls0, ls1]
 refine takeH 0 8 6 (.slice (some ⟨g4, 0, none⟩) 48 48) rfl rfl (by kernel_rfl) (by kernel_rfl) (by kernel_rfl) (fun _ _ _ h => h) (Or.inl ⟨by rfl, fun w _ => by go_simp⟩) ⟨hp4, hp5, hW⟩ ?_
 simp only [ls0, ls1]
 refine wpAnyH_done (by kernel_rfl) ?_ _
 go_wp2_with fail
 go_ret
 exact ⟨_, rfl, hg4, lw_g4, hW⟩
end Go.Proofs.YtcdgcaljlmondaaDoor
/-
  The walks of seals.Parse, combined, Seal, Open. (Printed by mkseal09.py.)
-/
namespace Go.Proofs.YtcdgcaljlmondaaDoor
set_option maxRecDepth 16384
open Go.RowKit Sh
theorem Blk.wholeU {W : World} {g : Nat} {T : TypeId} {x : List Nat} (hb : Blk W g T (va .u8 x)) : W.rangeAt g 0 (nv .u8 x) := fun j v hv => by
 rw [Nat.zero_add, hb.cell]; simpa [va] using hv
theorem Blk.rightReads {W : World} {g n m : Nat} {T : TypeId} {x y : List Nat} (hb : Blk W g T (va .u8 (x ++ y))) (hn : x.length = n) (hm : y.length = m) : Reads W (g + 1) 1 (some ⟨g, n, none⟩) m (nv .u8 y) :=
 ⟨by rw [nv_len, hm, Nat.mul_one], fun _ => ⟨_, rfl, Nat.lt_succ_self _, fun j v hv => by rw [Addr.add_mid]; exact (hb.right hn) j v hv⟩⟩
theorem szBk (l : List Nat) (h : l.length = 32) : (Tryd.prog.info? 64).map (·.size) = some (nv .u8 l).length := by rw [nv_len, h]; kernel_rfl
theorem xor_to0 (key : List Nat) (s c : Nat) (d x : List Nat) (hx : kxor key s c 0 d = x) (hkl : key.length = 16) (hkb : Byt key) (hs : s < 4294967296) (hdl : d.length = 32) (hdb : Byt d) (A : Option Addr) (cc B : Nat) (w : World) (hr : Reads w B 1 A 32 (nv .u8 d)) (hBw : B ≤ w.heap.size) :
  Calls Tryd.prog 16 #[.agg (va .u8 key), .agg (noV s c), .int .i64 0, .slice A 32 cc] w fun e' w' => ∃ g, e' = .returned (.tuple #[.slice (some ⟨g, 0, none⟩) 32 32, .int .i64 0]) ∧ Blk w' g 5 (va .u8 x) ∧ w.heap.size ≤ g ∧ Below w.heap.size w w' := by
 subst hx; exact xor_ok key s c 0 32 d hkl hkb hs hdl hdb (by decide) (by decide) A cc B w hr hBw
theorem verify_to (key m tag : List Nat) (b : Bool) (hb : decide (hm key m = tag) = b) (A : Option Addr) (n c B : Nat) (A2 : Option Addr) (n2 c2 B2 : Nat) (hk : Byt key) (hnc : n ≤ c) (hn : n < 100000) (hm0 : Byt m) (hnc2 : n2 ≤ c2) (hn2 : n2 < 100000) (ht : Byt tag) (htl : tag.length = 32) (w : World) (hg : Glob w)
  (hr : Reads w B 1 A n (nv .u8 key)) (hB : B ≤ w.heap.size) (hr2 : Reads w B2 1 A2 n2 (nv .u8 m)) (hB2 : B2 ≤ w.heap.size) :
  Calls Tryd.prog 61 #[.slice A n c, .slice A2 n2 c2, .agg (va .u8 tag)] w fun e w' => e = .returned (.bool b) ∧ Below w.heap.size w w' := by
 subst hb; exact verify_any key m tag A n c B A2 n2 c2 B2 hk hnc hn hm0 hnc2 hn2 ht htl w hg hr hB hr2 hB2

set_option maxRecDepth 8000 in
set_option maxHeartbeats 4000000 in
theorem combined_any (ke km : List Nat) (hel : ke.length = 16) (_hml : km.length = 32) (heb : Byt ke) (_hmb : Byt km) (s c : Nat) (d x : List Nat) (hx : kxor ke s c 0 d = x) (hxl : x.length = 32) (hs : s < 4294967296) (hdl : d.length = 32) (hdb : Byt d) (w : World) :
  Calls Tryd.prog 55 #[.agg (va .u8 (ke ++ km)), .agg (noV s c), .agg (va .u8 d)] w fun e w' => e = .returned (.agg (va .u8 x)) ∧ Below w.heap.size w w' := by
 obtain ⟨B0, hB0e⟩ : ∃ b, w.heap.size = b := ⟨_, rfl⟩
 rw [hB0e]
 have hW : Below B0 w w := by rw [← hB0e]; exact Below.refl _ _
 have hB0 : B0 ≤ w.heap.size := by omega
 have hxq := Lib.hid hx
 clear hx
 have hB0q := Lib.hid hB0e
 clear hB0e
 go_enter Tryd.func55, Tryd.ntmps55
 go_upto_region 0 with fail
 refine wl_lit ?_
 refine runWL 3 (.pointer (some ⟨w.heap.size, 0, none⟩)) (w.alloc (.cells (va .u8 (ke ++ km)) 54)) rfl (by rfl) (exec_box 54 (.tmp 0) rfl (.agg (va .u8 (ke ++ km))) rfl) ?_
 simp only [ls0, ls1]
 have lw_p3 := Nat.le_trans hB0 hW.size
 have hp3 : Blk (w.alloc (.cells (va .u8 (ke ++ km)) 54)) w.heap.size 54 (va .u8 (ke ++ km)) := Blk.new _ _ _
 replace hW := hW.alloc (Nat.le_trans hB0 hW.size) (.cells (va .u8 (ke ++ km)) 54)
 generalize w.alloc (.cells (va .u8 (ke ++ km)) 54) = w1 at *
 generalize w.heap.size = p3 at hp3 lw_p3  ⊢
 refine runWL 4 (.pointer (some ⟨w1.heap.size, 0, none⟩)) (w1.alloc (.cells (noV s c) 40)) rfl (by rfl) (exec_box 40 (.tmp 1) rfl (.agg (noV s c)) rfl) ?_
 simp only [ls0, ls1]
 have lp3_p4 := hp3.lt
 have lw_p4 := Nat.le_trans hB0 hW.size
 have hp4 : Blk (w1.alloc (.cells (noV s c) 40)) w1.heap.size 40 (noV s c) := Blk.new _ _ _
 replace hp3 := hp3.alloc (.cells (noV s c) 40)
 replace hW := hW.alloc (Nat.le_trans hB0 hW.size) (.cells (noV s c) 40)
 generalize w1.alloc (.cells (noV s c) 40) = w2 at *
 generalize w1.heap.size = p4 at hp4 lw_p4 lp3_p4 ⊢
 refine runWL 5 (.pointer (some ⟨w2.heap.size, 0, none⟩)) (w2.alloc (.cells (va .u8 (d)) 64)) rfl (by rfl) (exec_box 64 (.tmp 2) rfl (.agg (va .u8 (d))) rfl) ?_
 simp only [ls0, ls1]
 have lp3_p5 := hp3.lt
 have lp4_p5 := hp4.lt
 have lw_p5 := Nat.le_trans hB0 hW.size
 have hp5 : Blk (w2.alloc (.cells (va .u8 (d)) 64)) w2.heap.size 64 (va .u8 (d)) := Blk.new _ _ _
 replace hp3 := hp3.alloc (.cells (va .u8 (d)) 64)
 replace hp4 := hp4.alloc (.cells (va .u8 (d)) 64)
 replace hW := hW.alloc (Nat.le_trans hB0 hW.size) (.cells (va .u8 (d)) 64)
 generalize w2.alloc (.cells (va .u8 (d)) 64) = w3 at *
 generalize w2.heap.size = p5 at hp5 lw_p5 lp3_p5 lp4_p5 ⊢
 refine runWL 6 (.pointer (some ⟨w3.heap.size, 0, none⟩)) (w3.alloc (.cells (va .u8 (List.replicate 32 0)) 64)) rfl (by rfl) (exec_allocV 64 rfl _ (zv_api_Block _)) ?_
 simp only [ls0, ls1]
 have lp3_p6 := hp3.lt
 have lp4_p6 := hp4.lt
 have lp5_p6 := hp5.lt
 have lw_p6 := Nat.le_trans hB0 hW.size
 have hp6 : Blk (w3.alloc (.cells (va .u8 (List.replicate 32 0)) 64)) w3.heap.size 64 (va .u8 (List.replicate 32 0)) := Blk.new _ _ _
 replace hp3 := hp3.alloc (.cells (va .u8 (List.replicate 32 0)) 64)
 replace hp4 := hp4.alloc (.cells (va .u8 (List.replicate 32 0)) 64)
 replace hp5 := hp5.alloc (.cells (va .u8 (List.replicate 32 0)) 64)
 replace hW := hW.alloc (Nat.le_trans hB0 hW.size) (.cells (va .u8 (List.replicate 32 0)) 64)
 generalize w3.alloc (.cells (va .u8 (List.replicate 32 0)) 64) = w4 at *
 generalize w3.heap.size = p6 at hp6 lw_p6 lp3_p6 lp4_p6 lp5_p6 ⊢
 refine nilL ?_
 go_upto_region 1 with fail
 refine wp_region_held_drew (S := fun wr => Blk wr p3 54 (va .u8 (ke ++ km)) ∧ Blk wr p4 40 (noV s c) ∧ Blk wr p5 64 (va .u8 (d)) ∧ Blk wr p6 64 (va .u8 (List.replicate 32 0)) ∧ Below B0 w wr) (by kernel_rfl) ⟨hp3.drew, hp4.drew, hp5.drew, hp6.drew, below_drewN hW 1⟩ (fun hH => ?_)
 clear hp3 hp4 hp5 hp6 hW
 obtain ⟨hp3, hp4, hp5, hp6, hW⟩ := hH
 generalize w4.drew = w5 at *
 refine takeH 9 0 10 (.pointer (some ⟨p3, 0, none⟩)) rfl rfl (by kernel_rfl) (by kernel_rfl) (by kernel_rfl) (fun _ _ _ h => h) (Or.inl ⟨by rfl, fun w _ => by go_simp⟩) ⟨hp3, hp4, hp5, hp6, hW⟩ ?_
 simp only [ls0, ls1]
 refine takeH 8 1 11 (.agg (va .u8 (ke))) rfl rfl (by kernel_rfl) (by kernel_rfl) (by kernel_rfl) (fun _ _ _ h => h) (Or.inl ⟨by rfl, fun _ h => exec_mid 37 (.tmp 10) rfl p3 0 rfl (nv .u8 ke) _ (h.1.left) Tryd.underlying37 rfl (sz16D _ hel)⟩) ⟨hp3, hp4, hp5, hp6, hW⟩ ?_
 simp only [ls0, ls1]
 refine takeH 7 2 12 (.agg (noV s c)) rfl rfl (by kernel_rfl) (by kernel_rfl) (by kernel_rfl) (fun _ _ _ h => h) (Or.inl ⟨by rfl, fun _ h => exec_row 40 (.tmp 4) rfl p4 rfl 40 (noV s c) _ h.2.1 (by exact Tryd.underlying40) rfl (noV_sz _ _)⟩) ⟨hp3, hp4, hp5, hp6, hW⟩ ?_
 simp only [ls0, ls1]
 refine takeH 6 3 13 (.slice (some ⟨p5, 0, none⟩) 32 32) rfl rfl (by kernel_rfl) (by kernel_rfl) (by kernel_rfl) (fun _ _ _ h => h) (Or.inl ⟨by rfl, fun w _ => by go_simp⟩) ⟨hp3, hp4, hp5, hp6, hW⟩ ?_
 simp only [ls0, ls1]
 refine wpAnyH_ready (by kernel_rfl) (by simp) (readyCons 5 4 14 rfl rfl (by rfl) (fun K hK => wp_callF 16 #[.agg (va .u8 (ke)), .agg (noV s c), .int .i64 0, .slice (some ⟨p5, 0, none⟩) 32 32] (by go_simp) (xor_to0 ke s c d x hxq.out hel heb hs hdl hdb _ 32 _ _ (hp5.readsAll (Nat.lt_succ_self _) (hdl)) hp5.lt) ?_) AllReadyH.nil)
 rintro e w6 ⟨g1, rfl, hg1, hgg, bx⟩
 have lp3_g1 : p3 < g1 := Nat.lt_of_lt_of_le hp3.lt hgg
 have lp4_g1 : p4 < g1 := Nat.lt_of_lt_of_le hp4.lt hgg
 have lp5_g1 : p5 < g1 := Nat.lt_of_lt_of_le hp5.lt hgg
 have lp6_g1 : p6 < g1 := Nat.lt_of_lt_of_le hp6.lt hgg
 have lw_g1 : B0 ≤ g1 := Nat.le_trans (Nat.le_trans hB0 hW.size) hgg
 replace hp3 := hp3.below bx hp3.lt
 replace hp4 := hp4.below bx hp4.lt
 replace hp5 := hp5.below bx hp5.lt
 replace hp6 := hp6.below bx hp6.lt
 replace hW := hW.trans (bx.mono (Nat.le_trans hB0 hW.size))
 clear hgg
 clear bx
 refine ⟨_, rfl, hK.out _ _ ⟨hp3, hp4, hp5, hp6, hW⟩ (fun _ => ?_)⟩
 clear hK K
 simp only [ls0, ls1]
 refine takeH 4 5 9 (.tuple #[.slice (some ⟨g1, 0, none⟩) 32 32, .int .i64 0]) rfl rfl (by kernel_rfl) (by kernel_rfl) (by kernel_rfl) (fun _ _ _ h => h) (Or.inl ⟨by rfl, fun w _ => by go_simp⟩) ⟨hp3, hp4, hp5, hp6, hW⟩ ?_
 simp only [ls0, ls1]
 refine takeH 3 6 15 (.slice (some ⟨g1, 0, none⟩) 32 32) rfl rfl (by kernel_rfl) (by kernel_rfl) (by kernel_rfl) (fun _ _ _ h => h) (Or.inl ⟨by rfl, fun w _ => by go_simp⟩) ⟨hp3, hp4, hp5, hp6, hW⟩ ?_
 simp only [ls0, ls1]
 refine takeH 2 7 16 (.int .i64 0) rfl rfl (by kernel_rfl) (by kernel_rfl) (by kernel_rfl) (fun _ _ _ h => h) (Or.inl ⟨by rfl, fun w _ => by go_simp⟩) ⟨hp3, hp4, hp5, hp6, hW⟩ ?_
 simp only [ls0, ls1]
 refine takeH 1 8 7 (.slice (some ⟨g1, 0, none⟩) 32 32) rfl rfl (by kernel_rfl) (by kernel_rfl) (by kernel_rfl) (fun _ _ _ h => h) (Or.inl ⟨by rfl, fun w _ => by go_simp⟩) ⟨hp3, hp4, hp5, hp6, hW⟩ ?_
 simp only [ls0, ls1]
 refine takeH 0 9 8 (.int .i64 0) rfl rfl (by kernel_rfl) (by kernel_rfl) (by kernel_rfl) (fun _ _ _ h => h) (Or.inl ⟨by rfl, fun w _ => by go_simp⟩) ⟨hp3, hp4, hp5, hp6, hW⟩ ?_
 simp only [ls0, ls1]
 refine wpAnyH_done (by kernel_rfl) ?_ _
 go_upto_region 2 with fail
 refine wl_lit ?_
 refine runL 17 (.slice (some ⟨g1, 0, none⟩) 32 32) rfl (by rfl) (by go_simp) ?_
 simp only [ls0, ls1]
 refine runL 18 (.pointer (some ⟨g1, 0, none⟩)) rfl (by rfl) (exec_arrayAt 64 _ rfl _ _ (by exact Tryd.underlying64) _ 32 32 rfl (by decide)) ?_
 simp only [ls0, ls1]
 refine runL 19 (.agg (va .u8 (x))) rfl (by rfl) (exec_mid 64 (.tmp 18) rfl g1 0 rfl (nv .u8 x) _ (hg1.wholeU) Tryd.underlying64 rfl (szBk _ hxl)) ?_
 simp only [ls0, ls1]
 refine runSL (w6.setRow p6 (va .u8 (x))) rfl (by rfl) (exec_storeRow 64 (.tmp 6) (.tmp 19) rfl p6 rfl (va .u8 (x)) rfl 64 (va .u8 (List.replicate 32 0)) hp6 (sz_eq (sz_api_Block _ (List.length_replicate)) (sz_api_Block _ (hxl))) (sz_api_Block _ (hxl)) (va_ones .u8 _)) ?_
 replace hp3 := hp3.rowFar (show p6 ≠ p3 from (by omega)) (va .u8 (x))
 replace hp4 := hp4.rowFar (show p6 ≠ p4 from (by omega)) (va .u8 (x))
 replace hp5 := hp5.rowFar (show p6 ≠ p5 from (by omega)) (va .u8 (x))
 replace hg1 := hg1.rowFar (show p6 ≠ g1 from (by omega)) (va .u8 (x))
 replace hp6 := hp6.row (va .u8 (x))
 replace hW := below_setRow hW lw_p6 (va .u8 (x))
 generalize w6.setRow p6 (va .u8 (x)) = w7 at *
 refine nilL ?_
 go_wp2_with fail
 exact bodyPost_ret (results_cell_row rfl _ _ p6 64 (va .u8 (x)) (0, 0) _ rfl hp6 (by exact Tryd.underlying64) rfl (sz_api_Block _ (hxl))) rfl ⟨rfl, hW⟩
end Go.Proofs.YtcdgcaljlmondaaDoor
