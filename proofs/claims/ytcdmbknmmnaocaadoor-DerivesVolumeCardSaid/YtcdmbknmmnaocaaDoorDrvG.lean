/-
  The walks of derives.Volume, caissonref04.Keys, caissonlaw04.DerivesVolume. (Printed by mkdrv04g.py.)
-/
import Derived.Test.YtcdmbknmmnaocaaDoorDrvE
namespace Go.Proofs.YtcdmbknmmnaocaaDoor
open Go.RowKit Sh
theorem szG16 (l : List Nat) (h : l.length = 16) : (Tryd.prog.info? 37).map (·.size) = some (va .u8 l).size := by rw [va_size, h]; kernel_rfl
theorem zvG16 (w : World) : (zeroValue 37).run Tryd.prog w = .ok (.agg (va .u8 (List.replicate 16 0))) w := by kernel_rfl
theorem sz_api_Key (l : List Nat) (h : l.length = 32) : (Tryd.prog.info? 36).map (·.size) = some (va .u8 l).size := by rw [va_size, h]; kernel_rfl
theorem zv_api_Key (w : World) : (zeroValue 36).run Tryd.prog w = .ok (.agg (va .u8 (List.replicate 32 0))) w := by kernel_rfl
theorem sz_derives_Keys (l : List Nat) (h : l.length = 48) : (Tryd.prog.info? 39).map (·.size) = some (va .u8 l).size := by rw [va_size, h]; kernel_rfl
theorem zv_derives_Keys (w : World) : (zeroValue 39).run Tryd.prog w = .ok (.agg (va .u8 (List.replicate 48 0))) w := by kernel_rfl
def kCai : List Nat := [99, 97, 105, 115, 115, 111, 110]
theorem bs_kCai (W : World) : (Instr.buildSlice 22 7 #[(0, .int .u8 99), (1, .int .u8 97), (2, .int .u8 105), (3, .int .u8 115), (4, .int .u8 115), (5, .int .u8 111), (6, .int .u8 110)]).run Tryd.prog W = .ok (.slice (some ⟨W.heap.size, 0, none⟩) 7 7) (W.alloc (.cells (va .u8 kCai) 5)) := by
  obtain ⟨ie, hie, h0, h1, h2⟩ := info_parts byte_info
  refine run_buildSlice W _ 5 7 _ (va .u8 kCai) ie _ Tryd.underlying22 hie h0 (by rw [h1]; decide) (by rw [h1]; decide) ?_
  rw [h1]; kernel_rfl
theorem byt_kCai : Byt kCai := fun x hx => by
  have h : kCai.all (· < 256) = true := by decide
  rw [List.all_eq_true] at h; simpa using h x hx
def kEnc : List Nat := [101, 110, 99, 114, 121, 112, 116]
theorem bs_kEnc (W : World) : (Instr.buildSlice 22 7 #[(0, .int .u8 101), (1, .int .u8 110), (2, .int .u8 99), (3, .int .u8 114), (4, .int .u8 121), (5, .int .u8 112), (6, .int .u8 116)]).run Tryd.prog W = .ok (.slice (some ⟨W.heap.size, 0, none⟩) 7 7) (W.alloc (.cells (va .u8 kEnc) 5)) := by
  obtain ⟨ie, hie, h0, h1, h2⟩ := info_parts byte_info
  refine run_buildSlice W _ 5 7 _ (va .u8 kEnc) ie _ Tryd.underlying22 hie h0 (by rw [h1]; decide) (by rw [h1]; decide) ?_
  rw [h1]; kernel_rfl
theorem byt_kEnc : Byt kEnc := fun x hx => by
  have h : kEnc.all (· < 256) = true := by decide
  rw [List.all_eq_true] at h; simpa using h x hx
def kMac : List Nat := [109, 97, 99]
theorem bs_kMac (W : World) : (Instr.buildSlice 22 3 #[(0, .int .u8 109), (1, .int .u8 97), (2, .int .u8 99)]).run Tryd.prog W = .ok (.slice (some ⟨W.heap.size, 0, none⟩) 3 3) (W.alloc (.cells (va .u8 kMac) 5)) := by
  obtain ⟨ie, hie, h0, h1, h2⟩ := info_parts byte_info
  refine run_buildSlice W _ 5 3 _ (va .u8 kMac) ie _ Tryd.underlying22 hie h0 (by rw [h1]; decide) (by rw [h1]; decide) ?_
  rw [h1]; kernel_rfl
theorem byt_kMac : Byt kMac := fun x hx => by
  have h : kMac.all (· < 256) = true := by decide
  rw [List.all_eq_true] at h; simpa using h x hx

theorem Rs.freeze_ {w : World} {B0 n : Nat} {A : Option Addr} {l : List Nat} {g k m : Nat} (h : Rs w B0 A n l) (_ : Off A g) : Rs (w.freeze ⟨g, k, none⟩ m) B0 A n l := h.map fun _ _ hb => hb.freeze _ _
theorem Rs.off_lt {w : World} {B0 n : Nat} {A : Option Addr} {l : List Nat} {x : Nat} (h : Rs w B0 A n l) (hx : x < B0) : Off A x := fun a ha e => by
  rcases h.2 with ⟨rfl, _⟩ | ⟨g, rfl, hg, hb⟩
  · cases ha
  · cases ha; have e2 : g = x := e; omega
theorem results_row_row {P : Program} {fn : Func} {p q : Tmp} {ty sy : TypeId} (h : fn.results = #[.cell p ty, .cell q sy]) (tmps : Array Value) (w : World) (g : Nat) (t : TypeId) (cs : Array Value) (d : TypeDesc) (g2 : Nat) (t2 : TypeId) (cs2 : Array Value) (d2 : TypeDesc)
    (hp : tmps.getD p undef = .pointer (some ⟨g, 0, none⟩)) (hg : Blk w g t cs)
    (hu : P.underlying ty = some d) (hd : (match d with | .struct _ | .array _ _ => true | _ => false) = true) (hi : (P.info? ty).map (·.size) = some cs.size)
    (hp2 : tmps.getD q undef = .pointer (some ⟨g2, 0, none⟩)) (hg2 : Blk w g2 t2 cs2)
    (hu2 : P.underlying sy = some d2) (hd2 : (match d2 with | .struct _ | .array _ _ => true | _ => false) = true) (hi2 : (P.info? sy).map (·.size) = some cs2.size) :
    (results fn tmps).run P w = .ok (.tuple #[.agg cs, .agg cs2]) w := by
  have hp' : tmps[p]?.getD undef = .pointer (some ⟨g, 0, none⟩) := by simpa using hp
  have hq' : tmps[q]?.getD undef = .pointer (some ⟨g2, 0, none⟩) := by simpa using hp2
  simp [results, h, hp', hq', asAddr, run_loadVar_row w g t ty cs (0, 0) d hg hu hd hi, run_loadVar_row w g2 t2 sy cs2 (0, 0) d2 hg2 hu2 hd2 hi2]
theorem Blk.left {W : World} {g : Nat} {T : TypeId} {x y : List Nat} (hb : Blk W g T (va .u8 (x ++ y))) : W.rangeAt g 0 (nv .u8 x) := fun j v hv => hb.part 0 x.length j v (by simpa using hv)
theorem Blk.right {W : World} {g n : Nat} {T : TypeId} {x y : List Nat} (hb : Blk W g T (va .u8 (x ++ y))) (hn : x.length = n) : W.rangeAt g n (nv .u8 y) := fun j v hv => by
  subst hn
  exact hb.part x.length y.length j v (by simpa using hv)
/-- the keys of a volume -/
def vk (m : List Nat) : List Nat := hm kCai m
def ve (m : List Nat) : List Nat := ex (vk m) kEnc 16
def vm (m : List Nat) : List Nat := ex (vk m) kMac 32
theorem ve_len (m : List Nat) : (ve m).length = 16 := ex_len _ _ _ (by decide)
theorem vm_len (m : List Nat) : (vm m).length = 32 := ex_len _ _ _ (by decide)
set_option maxRecDepth 8000 in
set_option maxHeartbeats 4000000 in
theorem volume_any (m : List Nat) (hml : m.length = 32) (hmb : Byt m) (w : World) (hg : Glob w) :
    Calls Tryd.prog 14 #[.agg (va .u8 m)] w fun e w' => e = .returned (.agg (va .u8 (ve m ++ vm m))) ∧ Below w.heap.size w w' := by
  obtain ⟨B0, hB0e⟩ : ∃ b, w.heap.size = b := ⟨_, rfl⟩
  rw [hB0e]
  have hW : Below B0 w w := by rw [← hB0e]; exact Below.refl _ _
  have hB0 : B0 ≤ w.heap.size := by omega
  have gl := glob_of hg hB0e
  clear hg
  have hB0q := Lib.hid hB0e
  clear hB0e
  obtain ⟨p, hp⟩ : ∃ p, vk m = p := ⟨_, rfl⟩
  obtain ⟨x, hx⟩ : ∃ p, ve m = p := ⟨_, rfl⟩
  obtain ⟨y, hy⟩ : ∃ p, vm m = p := ⟨_, rfl⟩
  have hxl := ve_len m
  have hyl := vm_len m
  have hpl : p.length = 32 := by rw [← hp]; exact hm_len _ _
  have hpb : Byt p := by rw [← hp]; exact hm_byt _ _
  rw [hx] at hxl
  rw [hy] at hyl
  have hxb : Byt x := by rw [← hx]; exact ex_byt _ _ _
  have hyb : Byt y := by rw [← hy]; exact ex_byt _ _ _
  have hpq : Hid (hm kCai m = p) := Lib.hid hp
  have hxq : Hid (ex p kEnc 16 = x) := Lib.hid (by rw [← hp]; exact hx)
  have hyq : Hid (ex p kMac 32 = y) := Lib.hid (by rw [← hp]; exact hy)
  rw [hx, hy]
  clear hp hx hy
  go_enter Tryd.func14, Tryd.ntmps14
  go_upto_region 0 with fail
  refine wl_lit ?_
  refine runWL 1 (.pointer (some ⟨w.heap.size, 0, none⟩)) (w.alloc (.cells (va .u8 (m)) 36)) rfl (by rfl) (exec_box 36 (.tmp 0) rfl (.agg (va .u8 (m))) rfl) ?_
  simp only [List.set_cons_zero, List.set_cons_succ]
  have lw_p1 := Nat.le_trans hB0 hW.size
  have hp1 : Blk (w.alloc (.cells (va .u8 (m)) 36)) w.heap.size 36 (va .u8 (m)) := Blk.new _ _ _
  replace hW := hW.alloc (Nat.le_trans hB0 hW.size) (.cells (va .u8 (m)) 36)
  generalize w.alloc (.cells (va .u8 (m)) 36) = w1 at *
  generalize w.heap.size = p1 at hp1 lw_p1  ⊢
  refine runWL 2 (.pointer (some ⟨w1.heap.size, 0, none⟩)) (w1.alloc (.cells (va .u8 (List.replicate 48 0)) 39)) rfl (by rfl) (exec_allocV 39 rfl _ (zv_derives_Keys _)) ?_
  simp only [List.set_cons_zero, List.set_cons_succ]
  have lp1_p2 := hp1.lt
  have lw_p2 := Nat.le_trans hB0 hW.size
  have hp2 : Blk (w1.alloc (.cells (va .u8 (List.replicate 48 0)) 39)) w1.heap.size 39 (va .u8 (List.replicate 48 0)) := Blk.new _ _ _
  replace hp1 := hp1.alloc (.cells (va .u8 (List.replicate 48 0)) 39)
  replace hW := hW.alloc (Nat.le_trans hB0 hW.size) (.cells (va .u8 (List.replicate 48 0)) 39)
  generalize w1.alloc (.cells (va .u8 (List.replicate 48 0)) 39) = w2 at *
  generalize w1.heap.size = p2 at hp2 lw_p2 lp1_p2 ⊢
  refine nilL ?_
  go_upto_region 1 with fail
  refine wl_lit ?_
  refine runWL 8 (.slice (some ⟨w2.heap.size, 0, none⟩) 7 7) (w2.alloc (.cells (va .u8 (kCai)) 5)) rfl (by rfl) (exec_bslice 22 7 _ rfl _ (by exact bs_kCai _)) ?_
  simp only [List.set_cons_zero, List.set_cons_succ]
  have lp1_q1 := hp1.lt
  have lp2_q1 := hp2.lt
  have lw_q1 := Nat.le_trans hB0 hW.size
  have hq1 : Blk (w2.alloc (.cells (va .u8 (kCai)) 5)) w2.heap.size 5 (va .u8 (kCai)) := Blk.new _ _ _
  replace hp1 := hp1.alloc (.cells (va .u8 (kCai)) 5)
  replace hp2 := hp2.alloc (.cells (va .u8 (kCai)) 5)
  replace hW := hW.alloc (Nat.le_trans hB0 hW.size) (.cells (va .u8 (kCai)) 5)
  generalize w2.alloc (.cells (va .u8 (kCai)) 5) = w3 at *
  generalize w2.heap.size = q1 at hq1 lw_q1 lp1_q1 lp2_q1 ⊢
  refine runWL 9 (.slice (some ⟨q1, 0, none⟩) 7 7) (w3.freeze ⟨q1, 7, none⟩ 1) rfl (by rfl) (exec_convW 22 22 (.tmp 8) rfl (.slice (some ⟨q1, 0, none⟩) 7 7) (.slice (some ⟨q1, 0, none⟩) 7 7) rfl (conv_blk (n := 7) (c := 7) hq1 (rfl))) ?_
  simp only [List.set_cons_zero, List.set_cons_succ]
  replace hp1 := hp1.freeze_ ⟨q1, 7, none⟩ 1 (show q1 ≠ p1 by omega)
  replace hp2 := hp2.freeze_ ⟨q1, 7, none⟩ 1 (show q1 ≠ p2 by omega)
  replace hq1 := hq1.byB.freeze ⟨q1, 7, none⟩ 1
  replace hW := Lib.below_freeze (p := ⟨q1, 7, none⟩) hW lw_q1 1
  generalize w3.freeze ⟨q1, 7, none⟩ 1 = w4 at *
  refine runL 10 (.slice (some ⟨p1, 0, none⟩) 32 32) rfl (by rfl) (by go_simp) ?_
  simp only [List.set_cons_zero, List.set_cons_succ]
  refine callL 11 rfl (by rfl) (fun K hK => wp_callF 9 #[.slice (some ⟨q1, 0, none⟩) 7 7, .slice (some ⟨p1, 0, none⟩) 32 32] (by go_simp) (extract_to kCai m p hpq.out _ 7 7 _ _ 32 32 _ byt_kCai hmb (by decide) (by decide) (by decide) (by decide) _ (gl.out _ hW) (hq1.reads (rfl)) hq1.lt (hp1.readsAll (Nat.lt_succ_self _) (hml)) hp1.lt) ?_)
  rintro e w5 ⟨rfl, bx⟩
  replace hp1 := hp1.below bx hp1.lt
  replace hp2 := hp2.below bx hp2.lt
  replace hq1 := hq1.below bx hq1.lt
  replace hW := hW.trans (bx.mono (Nat.le_trans hB0 hW.size))
  clear bx
  refine ⟨_, rfl, hK.out _ _ ?_⟩
  clear hK K
  simp only [List.set_cons_zero, List.set_cons_succ]
  refine runWL 3 (.pointer (some ⟨w5.heap.size, 0, none⟩)) (w5.alloc (.cells (va .u8 (List.replicate 32 0)) 25)) rfl (by rfl) (exec_allocV 25 rfl _ (zv_api_Digest _)) ?_
  simp only [List.set_cons_zero, List.set_cons_succ]
  have lp1_p3 := hp1.lt
  have lp2_p3 := hp2.lt
  have lq1_p3 := hq1.lt
  have lw_p3 := Nat.le_trans hB0 hW.size
  have hp3 : Blk (w5.alloc (.cells (va .u8 (List.replicate 32 0)) 25)) w5.heap.size 25 (va .u8 (List.replicate 32 0)) := Blk.new _ _ _
  replace hp1 := hp1.alloc (.cells (va .u8 (List.replicate 32 0)) 25)
  replace hp2 := hp2.alloc (.cells (va .u8 (List.replicate 32 0)) 25)
  replace hq1 := hq1.alloc (.cells (va .u8 (List.replicate 32 0)) 25)
  replace hW := hW.alloc (Nat.le_trans hB0 hW.size) (.cells (va .u8 (List.replicate 32 0)) 25)
  generalize w5.alloc (.cells (va .u8 (List.replicate 32 0)) 25) = w6 at *
  generalize w5.heap.size = p3 at hp3 lw_p3 lp1_p3 lp2_p3 lq1_p3 ⊢
  refine runSL (w6.setRow p3 (va .u8 (p))) rfl (by rfl) (exec_storeRow 25 (.tmp 3) (.tmp 11) rfl p3 rfl (va .u8 (p)) rfl 25 (va .u8 (List.replicate 32 0)) hp3 (sz_eq (sz_api_Digest _ (List.length_replicate)) (sz_api_Digest _ (hpl))) (sz_api_Digest _ (hpl)) (va_ones .u8 _)) ?_
  replace hp1 := hp1.rowFar (show p3 ≠ p1 from (by omega)) (va .u8 (p))
  replace hp2 := hp2.rowFar (show p3 ≠ p2 from (by omega)) (va .u8 (p))
  replace hq1 := hq1.rowFar (show p3 ≠ q1 from (by omega)) (va .u8 (p))
  replace hp3 := hp3.row (va .u8 (p))
  replace hW := below_setRow hW lw_p3 (va .u8 (p))
  generalize w6.setRow p3 (va .u8 (p)) = w7 at *
  refine nilL ?_
  go_upto_region 2 with fail
  refine wl_lit ?_
  refine runL 13 (.slice (some ⟨p3, 0, none⟩) 32 32) rfl (by rfl) (by go_simp) ?_
  simp only [List.set_cons_zero, List.set_cons_succ]
  refine runWL 14 (.slice (some ⟨w7.heap.size, 0, none⟩) 7 7) (w7.alloc (.cells (va .u8 (kEnc)) 5)) rfl (by rfl) (exec_bslice 22 7 _ rfl _ (by exact bs_kEnc _)) ?_
  simp only [List.set_cons_zero, List.set_cons_succ]
  have lp1_q2 := hp1.lt
  have lp2_q2 := hp2.lt
  have lq1_q2 := hq1.lt
  have lp3_q2 := hp3.lt
  have lw_q2 := Nat.le_trans hB0 hW.size
  have hq2 : Blk (w7.alloc (.cells (va .u8 (kEnc)) 5)) w7.heap.size 5 (va .u8 (kEnc)) := Blk.new _ _ _
  replace hp1 := hp1.alloc (.cells (va .u8 (kEnc)) 5)
  replace hp2 := hp2.alloc (.cells (va .u8 (kEnc)) 5)
  replace hq1 := hq1.alloc (.cells (va .u8 (kEnc)) 5)
  replace hp3 := hp3.alloc (.cells (va .u8 (kEnc)) 5)
  replace hW := hW.alloc (Nat.le_trans hB0 hW.size) (.cells (va .u8 (kEnc)) 5)
  generalize w7.alloc (.cells (va .u8 (kEnc)) 5) = w8 at *
  generalize w7.heap.size = q2 at hq2 lw_q2 lp1_q2 lp2_q2 lq1_q2 lp3_q2 ⊢
  refine runWL 15 (.slice (some ⟨q2, 0, none⟩) 7 7) (w8.freeze ⟨q2, 7, none⟩ 1) rfl (by rfl) (exec_convW 22 22 (.tmp 14) rfl (.slice (some ⟨q2, 0, none⟩) 7 7) (.slice (some ⟨q2, 0, none⟩) 7 7) rfl (conv_blk (n := 7) (c := 7) hq2 (rfl))) ?_
  simp only [List.set_cons_zero, List.set_cons_succ]
  replace hp1 := hp1.freeze_ ⟨q2, 7, none⟩ 1 (show q2 ≠ p1 by omega)
  replace hp2 := hp2.freeze_ ⟨q2, 7, none⟩ 1 (show q2 ≠ p2 by omega)
  replace hq1 := hq1.freeze ⟨q2, 7, none⟩ 1
  replace hp3 := hp3.freeze_ ⟨q2, 7, none⟩ 1 (show q2 ≠ p3 by omega)
  replace hq2 := hq2.byB.freeze ⟨q2, 7, none⟩ 1
  replace hW := Lib.below_freeze (p := ⟨q2, 7, none⟩) hW lw_q2 1
  generalize w8.freeze ⟨q2, 7, none⟩ 1 = w9 at *
  refine callL 16 rfl (by rfl) (fun K hK => wp_callF 11 #[.slice (some ⟨p3, 0, none⟩) 32 32, .slice (some ⟨q2, 0, none⟩) 7 7, .int .i64 16] (by go_simp) (dexp_to p kEnc 16 x hxq.out (by decide) _ 32 32 _ _ 7 7 _ hpb byt_kEnc (by decide) (by decide) (by decide) (by decide) _ (gl.out _ hW) (hp3.readsAll (Nat.lt_succ_self _) (hpl)) hp3.lt (hq2.reads (rfl)) hq2.lt) ?_)
  rintro e w10 ⟨AX, rfl, hAX, bx⟩
  have nAX_p2 := hAX.off_lt hp2.lt
  replace hAX := hAX.mono (Nat.le_trans hB0 hW.size)
  replace hp1 := hp1.below bx hp1.lt
  replace hp2 := hp2.below bx hp2.lt
  replace hq1 := hq1.below bx hq1.lt
  replace hp3 := hp3.below bx hp3.lt
  replace hq2 := hq2.below bx hq2.lt
  replace hW := hW.trans (bx.mono (Nat.le_trans hB0 hW.size))
  clear bx
  refine ⟨_, rfl, hK.out _ _ ?_⟩
  clear hK K
  simp only [List.set_cons_zero, List.set_cons_succ]
  refine runL 12 (.tuple #[.slice (AX) 16 16, .int .i64 0]) rfl (by rfl) (by go_simp) ?_
  simp only [List.set_cons_zero, List.set_cons_succ]
  refine runL 17 (.slice (AX) 16 16) rfl (by rfl) (by go_simp) ?_
  simp only [List.set_cons_zero, List.set_cons_succ]
  refine runL 18 (.int .i64 0) rfl (by rfl) (by go_simp) ?_
  simp only [List.set_cons_zero, List.set_cons_succ]
  refine runL 4 (.slice (AX) 16 16) rfl (by rfl) (by go_simp) ?_
  simp only [List.set_cons_zero, List.set_cons_succ]
  refine runL 5 (.int .i64 0) rfl (by rfl) (by go_simp) ?_
  simp only [List.set_cons_zero, List.set_cons_succ]
  refine nilL ?_
  go_upto_region 3 with fail
  refine wl_lit ?_
  refine runL 20 (.slice (some ⟨p3, 0, none⟩) 32 32) rfl (by rfl) (by go_simp) ?_
  simp only [List.set_cons_zero, List.set_cons_succ]
  refine runWL 21 (.slice (some ⟨w10.heap.size, 0, none⟩) 3 3) (w10.alloc (.cells (va .u8 (kMac)) 5)) rfl (by rfl) (exec_bslice 22 3 _ rfl _ (by exact bs_kMac _)) ?_
  simp only [List.set_cons_zero, List.set_cons_succ]
  have lp1_q3 := hp1.lt
  have lp2_q3 := hp2.lt
  have lq1_q3 := hq1.lt
  have lp3_q3 := hp3.lt
  have lq2_q3 := hq2.lt
  have nAX_q3 := hAX.new_off
  have lw_q3 := Nat.le_trans hB0 hW.size
  have hq3 : Blk (w10.alloc (.cells (va .u8 (kMac)) 5)) w10.heap.size 5 (va .u8 (kMac)) := Blk.new _ _ _
  replace hp1 := hp1.alloc (.cells (va .u8 (kMac)) 5)
  replace hp2 := hp2.alloc (.cells (va .u8 (kMac)) 5)
  replace hq1 := hq1.alloc (.cells (va .u8 (kMac)) 5)
  replace hp3 := hp3.alloc (.cells (va .u8 (kMac)) 5)
  replace hq2 := hq2.alloc (.cells (va .u8 (kMac)) 5)
  replace hAX := hAX.alloc (.cells (va .u8 (kMac)) 5)
  replace hW := hW.alloc (Nat.le_trans hB0 hW.size) (.cells (va .u8 (kMac)) 5)
  generalize w10.alloc (.cells (va .u8 (kMac)) 5) = w11 at *
  generalize w10.heap.size = q3 at hq3 lw_q3 lp1_q3 lp2_q3 lq1_q3 lp3_q3 lq2_q3 nAX_q3 ⊢
  refine runWL 22 (.slice (some ⟨q3, 0, none⟩) 3 3) (w11.freeze ⟨q3, 3, none⟩ 1) rfl (by rfl) (exec_convW 22 22 (.tmp 21) rfl (.slice (some ⟨q3, 0, none⟩) 3 3) (.slice (some ⟨q3, 0, none⟩) 3 3) rfl (conv_blk (n := 3) (c := 3) hq3 (rfl))) ?_
  simp only [List.set_cons_zero, List.set_cons_succ]
  replace hp1 := hp1.freeze_ ⟨q3, 3, none⟩ 1 (show q3 ≠ p1 by omega)
  replace hp2 := hp2.freeze_ ⟨q3, 3, none⟩ 1 (show q3 ≠ p2 by omega)
  replace hq1 := hq1.freeze ⟨q3, 3, none⟩ 1
  replace hp3 := hp3.freeze_ ⟨q3, 3, none⟩ 1 (show q3 ≠ p3 by omega)
  replace hq2 := hq2.freeze ⟨q3, 3, none⟩ 1
  replace hAX := hAX.freeze_ (k := 3) (m := 1) nAX_q3
  replace hq3 := hq3.byB.freeze ⟨q3, 3, none⟩ 1
  replace hW := Lib.below_freeze (p := ⟨q3, 3, none⟩) hW lw_q3 1
  generalize w11.freeze ⟨q3, 3, none⟩ 1 = w12 at *
  refine callL 23 rfl (by rfl) (fun K hK => wp_callF 11 #[.slice (some ⟨p3, 0, none⟩) 32 32, .slice (some ⟨q3, 0, none⟩) 3 3, .int .i64 32] (by go_simp) (dexp_to p kMac 32 y hyq.out (by decide) _ 32 32 _ _ 3 3 _ hpb byt_kMac (by decide) (by decide) (by decide) (by decide) _ (gl.out _ hW) (hp3.readsAll (Nat.lt_succ_self _) (hpl)) hp3.lt (hq3.reads (rfl)) hq3.lt) ?_)
  rintro e w13 ⟨AY, rfl, hAY, bx⟩
  have nAY_p2 := hAY.off_lt hp2.lt
  replace hAY := hAY.mono (Nat.le_trans hB0 hW.size)
  replace hp1 := hp1.below bx hp1.lt
  replace hp2 := hp2.below bx hp2.lt
  replace hq1 := hq1.below bx hq1.lt
  replace hp3 := hp3.below bx hp3.lt
  replace hq2 := hq2.below bx hq2.lt
  replace hAX := hAX.below bx
  replace hq3 := hq3.below bx hq3.lt
  replace hW := hW.trans (bx.mono (Nat.le_trans hB0 hW.size))
  clear bx
  refine ⟨_, rfl, hK.out _ _ ?_⟩
  clear hK K
  simp only [List.set_cons_zero, List.set_cons_succ]
  refine runL 19 (.tuple #[.slice (AY) 32 32, .int .i64 0]) rfl (by rfl) (by go_simp) ?_
  simp only [List.set_cons_zero, List.set_cons_succ]
  refine runL 24 (.slice (AY) 32 32) rfl (by rfl) (by go_simp) ?_
  simp only [List.set_cons_zero, List.set_cons_succ]
  refine runL 25 (.int .i64 0) rfl (by rfl) (by go_simp) ?_
  simp only [List.set_cons_zero, List.set_cons_succ]
  refine runL 6 (.slice (AY) 32 32) rfl (by rfl) (by go_simp) ?_
  simp only [List.set_cons_zero, List.set_cons_succ]
  refine runL 7 (.int .i64 0) rfl (by rfl) (by go_simp) ?_
  simp only [List.set_cons_zero, List.set_cons_succ]
  refine nilL ?_
  go_upto_region 4 with fail
  refine wl_lit ?_
  refine runL 26 (.pointer (some ⟨p2, 0, none⟩)) rfl (by rfl) (by go_simp) ?_
  simp only [List.set_cons_zero, List.set_cons_succ]
  refine runL 27 (.slice (some ⟨p2, 0, none⟩) 16 16) rfl (by rfl) (by go_simp) ?_
  simp only [List.set_cons_zero, List.set_cons_succ]
  refine runL 28 (.slice (AX) 16 16) rfl (by rfl) (by go_simp) ?_
  simp only [List.set_cons_zero, List.set_cons_succ]
  refine runWL 29 (.int .i64 16) (w13.setRow p2 (va .u8 (x ++ List.replicate 32 0))) rfl (by rfl) (exec_copy _ _ _ _ rfl _ _ _ rfl rfl (copy_row _ _ _ Tryd.underlying22 p2 0 16 16 39 (List.replicate 48 0) hp2 (AX) 16 16 _ (x) hAX.reads (by simp) (by simp) (x ++ List.replicate 32 0) (by rw [List.take_zero]; simp [hxl]))) ?_
  simp only [List.set_cons_zero, List.set_cons_succ]
  replace hp1 := hp1.rowFar (show p2 ≠ p1 from (by omega)) (va .u8 (x ++ List.replicate 32 0))
  replace hq1 := hq1.rowFar (show p2 ≠ q1 from (by omega)) (va .u8 (x ++ List.replicate 32 0))
  replace hp3 := hp3.rowFar (show p2 ≠ p3 from (by omega)) (va .u8 (x ++ List.replicate 32 0))
  replace hq2 := hq2.rowFar (show p2 ≠ q2 from (by omega)) (va .u8 (x ++ List.replicate 32 0))
  replace hAX := hAX.rowFar nAX_p2 (va .u8 (x ++ List.replicate 32 0))
  replace hq3 := hq3.rowFar (show p2 ≠ q3 from (by omega)) (va .u8 (x ++ List.replicate 32 0))
  replace hAY := hAY.rowFar nAY_p2 (va .u8 (x ++ List.replicate 32 0))
  replace hp2 := hp2.row (va .u8 (x ++ List.replicate 32 0))
  replace hW := below_setRow hW lw_p2 (va .u8 (x ++ List.replicate 32 0))
  generalize w13.setRow p2 (va .u8 (x ++ List.replicate 32 0)) = w14 at *
  refine nilL ?_
  go_upto_region 5 with fail
  refine wl_lit ?_
  refine runL 30 (.pointer (some ⟨p2, 16, none⟩)) rfl (by rfl) (by go_simp) ?_
  simp only [List.set_cons_zero, List.set_cons_succ]
  refine runL 31 (.slice (some ⟨p2, 16, none⟩) 32 32) rfl (by rfl) (by go_simp) ?_
  simp only [List.set_cons_zero, List.set_cons_succ]
  refine runL 32 (.slice (AY) 32 32) rfl (by rfl) (by go_simp) ?_
  simp only [List.set_cons_zero, List.set_cons_succ]
  refine runWL 33 (.int .i64 32) (w14.setRow p2 (va .u8 (x ++ y))) rfl (by rfl) (exec_copy _ _ _ _ rfl _ _ _ rfl rfl (copy_row _ _ _ Tryd.underlying22 p2 16 32 32 39 (x ++ List.replicate 32 0) hp2 (AY) 32 32 _ (y) hAY.reads (by simp) (by simp; omega) (x ++ y) (by simp [hxl, hyl]))) ?_
  simp only [List.set_cons_zero, List.set_cons_succ]
  replace hp1 := hp1.rowFar (show p2 ≠ p1 from (by omega)) (va .u8 (x ++ y))
  replace hq1 := hq1.rowFar (show p2 ≠ q1 from (by omega)) (va .u8 (x ++ y))
  replace hp3 := hp3.rowFar (show p2 ≠ p3 from (by omega)) (va .u8 (x ++ y))
  replace hq2 := hq2.rowFar (show p2 ≠ q2 from (by omega)) (va .u8 (x ++ y))
  replace hAX := hAX.rowFar nAX_p2 (va .u8 (x ++ y))
  replace hq3 := hq3.rowFar (show p2 ≠ q3 from (by omega)) (va .u8 (x ++ y))
  replace hAY := hAY.rowFar nAY_p2 (va .u8 (x ++ y))
  replace hp2 := hp2.row (va .u8 (x ++ y))
  replace hW := below_setRow hW lw_p2 (va .u8 (x ++ y))
  generalize w14.setRow p2 (va .u8 (x ++ y)) = w15 at *
  refine nilL ?_
  go_upto_region 6 with fail
  refine wl_lit ?_
  refine runL 34 (.agg (va .u8 (x ++ y))) rfl (by rfl) (exec_row 39 (.tmp 2) rfl p2 rfl 39 (va .u8 (x ++ y)) _ hp2 (by exact Tryd.underlying39) rfl (sz_derives_Keys _ (by simp [hxl, hyl]))) ?_
  simp only [List.set_cons_zero, List.set_cons_succ]
  refine runSL (w15.setRow p2 (va .u8 (x ++ y))) rfl (by rfl) (exec_storeRow 39 (.tmp 2) (.tmp 34) rfl p2 rfl (va .u8 (x ++ y)) rfl 39 (va .u8 (x ++ y)) hp2 (sz_eq (sz_derives_Keys _ (by simp [hxl, hyl])) (sz_derives_Keys _ (by simp [hxl, hyl]))) (sz_derives_Keys _ (by simp [hxl, hyl])) (va_ones .u8 _)) ?_
  replace hp1 := hp1.rowFar (show p2 ≠ p1 from (by omega)) (va .u8 (x ++ y))
  replace hq1 := hq1.rowFar (show p2 ≠ q1 from (by omega)) (va .u8 (x ++ y))
  replace hp3 := hp3.rowFar (show p2 ≠ p3 from (by omega)) (va .u8 (x ++ y))
  replace hq2 := hq2.rowFar (show p2 ≠ q2 from (by omega)) (va .u8 (x ++ y))
  replace hAX := hAX.rowFar nAX_p2 (va .u8 (x ++ y))
  replace hq3 := hq3.rowFar (show p2 ≠ q3 from (by omega)) (va .u8 (x ++ y))
  replace hAY := hAY.rowFar nAY_p2 (va .u8 (x ++ y))
  replace hp2 := hp2.row (va .u8 (x ++ y))
  replace hW := below_setRow hW lw_p2 (va .u8 (x ++ y))
  generalize w15.setRow p2 (va .u8 (x ++ y)) = w16 at *
  refine nilL ?_
  go_wp2_with fail
  exact bodyPost_ret (results_cell_row rfl _ _ p2 39 (va .u8 (x ++ y)) (0, 0) _ rfl hp2 (by exact Tryd.underlying39) rfl (sz_derives_Keys _ (by simp [hxl, hyl]))) rfl ⟨rfl, hW⟩

/-- the first i bytes of l, zeros behind -/
def cpk (l : List Nat) (n i : Nat) : List Nat := (List.range n).map fun j => if j < i then l.getD j 0 else 0
theorem cpk_len (l : List Nat) (n i : Nat) : (cpk l n i).length = n := by simp [cpk]
theorem cpk_zero (l : List Nat) (n : Nat) : cpk l n 0 = List.replicate n 0 := by
  apply ext_getD (by simp [cpk])
  intro j hj
  rw [cpk_len] at hj
  rw [cpk, getD_map_range _ _ _ hj, if_neg (by omega), List.getD_eq_getElem?_getD, List.getElem?_replicate, if_pos hj]; rfl
theorem cpk_all (l : List Nat) (n : Nat) (h : l.length = n) : cpk l n n = l := by
  apply ext_getD (by rw [cpk_len, h])
  intro j hj
  rw [cpk_len] at hj
  rw [cpk, getD_map_range _ _ _ hj, if_pos hj]
theorem cpk_step (l : List Nat) (n i : Nat) (hi : i < n) : (cpk l n i).set i (l.getD i 0) = cpk l n (i + 1) := by
  apply ext_getD (by rw [List.length_set, cpk_len, cpk_len])
  intro j hj
  rw [List.length_set, cpk_len] at hj
  by_cases e : i = j
  · subst e
    rw [List.getD_eq_getElem?_getD, List.getElem?_set_self (by rw [cpk_len]; exact hi), cpk, getD_map_range _ _ _ hj, if_pos (by omega)]; rfl
  · rw [List.getD_eq_getElem?_getD, List.getElem?_set_ne e, ← List.getD_eq_getElem?_getD, cpk, cpk, getD_map_range _ _ _ hj, getD_map_range _ _ _ hj]
    by_cases h : j < i
    · rw [if_pos h, if_pos (by omega)]
    · rw [if_neg h, if_neg (by omega)]
set_option maxRecDepth 8000 in
set_option maxHeartbeats 4000000 in
theorem rkeys_any (m : List Nat) (hml : m.length = 32) (hmb : Byt m) (w : World) :
    Calls Tryd.prog 15 #[.agg (va .u8 m)] w fun e w' => e = .returned (.tuple #[.agg (va .u8 (ve m)), .agg (va .u8 (vm m))]) ∧ Below w.heap.size w w' := by
  obtain ⟨B0, hB0e⟩ : ∃ b, w.heap.size = b := ⟨_, rfl⟩
  rw [hB0e]
  have hW : Below B0 w w := by rw [← hB0e]; exact Below.refl _ _
  have hB0 : B0 ≤ w.heap.size := by omega
  have hB0q := Lib.hid hB0e
  clear hB0e
  obtain ⟨p, hp⟩ : ∃ p, vk m = p := ⟨_, rfl⟩
  obtain ⟨x, hx⟩ : ∃ p, ve m = p := ⟨_, rfl⟩
  obtain ⟨y, hy⟩ : ∃ p, vm m = p := ⟨_, rfl⟩
  have hxl := ve_len m
  have hyl := vm_len m
  have hpl : p.length = 32 := by rw [← hp]; exact hm_len _ _
  have hpb : Byt p := by rw [← hp]; exact hm_byt _ _
  rw [hx] at hxl
  rw [hy] at hyl
  have hxb : Byt x := by rw [← hx]; exact ex_byt _ _ _
  have hyb : Byt y := by rw [← hy]; exact ex_byt _ _ _
  have hpq : Hid (hm kCai m = p) := Lib.hid hp
  have hxq : Hid (ex p kEnc 16 = x) := Lib.hid (by rw [← hp]; exact hx)
  have hyq : Hid (ex p kMac 32 = y) := Lib.hid (by rw [← hp]; exact hy)
  rw [hx, hy]
  clear hp hx hy
  go_enter Tryd.func15, Tryd.ntmps15
  go_upto_region 0 with fail
  refine wl_lit ?_
  refine runWL 1 (.pointer (some ⟨w.heap.size, 0, none⟩)) (w.alloc (.cells (va .u8 (m)) 36)) rfl (by rfl) (exec_box 36 (.tmp 0) rfl (.agg (va .u8 (m))) rfl) ?_
  simp only [List.set_cons_zero, List.set_cons_succ]
  have lw_p1 := Nat.le_trans hB0 hW.size
  have hp1 : Blk (w.alloc (.cells (va .u8 (m)) 36)) w.heap.size 36 (va .u8 (m)) := Blk.new _ _ _
  replace hW := hW.alloc (Nat.le_trans hB0 hW.size) (.cells (va .u8 (m)) 36)
  generalize w.alloc (.cells (va .u8 (m)) 36) = w1 at *
  generalize w.heap.size = p1 at hp1 lw_p1  ⊢
  refine runWL 2 (.pointer (some ⟨w1.heap.size, 0, none⟩)) (w1.alloc (.cells (va .u8 (List.replicate 16 0)) 37)) rfl (by rfl) (exec_allocV 37 rfl _ (zvG16 _)) ?_
  simp only [List.set_cons_zero, List.set_cons_succ]
  have lp1_p2 := hp1.lt
  have lw_p2 := Nat.le_trans hB0 hW.size
  have hp2 : Blk (w1.alloc (.cells (va .u8 (List.replicate 16 0)) 37)) w1.heap.size 37 (va .u8 (List.replicate 16 0)) := Blk.new _ _ _
  replace hp1 := hp1.alloc (.cells (va .u8 (List.replicate 16 0)) 37)
  replace hW := hW.alloc (Nat.le_trans hB0 hW.size) (.cells (va .u8 (List.replicate 16 0)) 37)
  generalize w1.alloc (.cells (va .u8 (List.replicate 16 0)) 37) = w2 at *
  generalize w1.heap.size = p2 at hp2 lw_p2 lp1_p2 ⊢
  refine runWL 3 (.pointer (some ⟨w2.heap.size, 0, none⟩)) (w2.alloc (.cells (va .u8 (List.replicate 32 0)) 36)) rfl (by rfl) (exec_allocV 36 rfl _ (zv_api_Key _)) ?_
  simp only [List.set_cons_zero, List.set_cons_succ]
  have lp1_p3 := hp1.lt
  have lp2_p3 := hp2.lt
  have lw_p3 := Nat.le_trans hB0 hW.size
  have hp3 : Blk (w2.alloc (.cells (va .u8 (List.replicate 32 0)) 36)) w2.heap.size 36 (va .u8 (List.replicate 32 0)) := Blk.new _ _ _
  replace hp1 := hp1.alloc (.cells (va .u8 (List.replicate 32 0)) 36)
  replace hp2 := hp2.alloc (.cells (va .u8 (List.replicate 32 0)) 36)
  replace hW := hW.alloc (Nat.le_trans hB0 hW.size) (.cells (va .u8 (List.replicate 32 0)) 36)
  generalize w2.alloc (.cells (va .u8 (List.replicate 32 0)) 36) = w3 at *
  generalize w2.heap.size = p3 at hp3 lw_p3 lp1_p3 lp2_p3 ⊢
  refine nilL ?_
  go_upto_region 1 with fail
  refine wl_lit ?_
  refine runWL 11 (.slice (some ⟨w3.heap.size, 0, none⟩) 7 7) (w3.alloc (.cells (va .u8 (kCai)) 5)) rfl (by rfl) (exec_bslice 22 7 _ rfl _ (by exact bs_kCai _)) ?_
  simp only [List.set_cons_zero, List.set_cons_succ]
  have lp1_q1 := hp1.lt
  have lp2_q1 := hp2.lt
  have lp3_q1 := hp3.lt
  have lw_q1 := Nat.le_trans hB0 hW.size
  have hq1 : Blk (w3.alloc (.cells (va .u8 (kCai)) 5)) w3.heap.size 5 (va .u8 (kCai)) := Blk.new _ _ _
  replace hp1 := hp1.alloc (.cells (va .u8 (kCai)) 5)
  replace hp2 := hp2.alloc (.cells (va .u8 (kCai)) 5)
  replace hp3 := hp3.alloc (.cells (va .u8 (kCai)) 5)
  replace hW := hW.alloc (Nat.le_trans hB0 hW.size) (.cells (va .u8 (kCai)) 5)
  generalize w3.alloc (.cells (va .u8 (kCai)) 5) = w4 at *
  generalize w3.heap.size = q1 at hq1 lw_q1 lp1_q1 lp2_q1 lp3_q1 ⊢
  refine runWL 12 (.slice (some ⟨q1, 0, none⟩) 7 7) (w4.freeze ⟨q1, 7, none⟩ 1) rfl (by rfl) (exec_convW 22 22 (.tmp 11) rfl (.slice (some ⟨q1, 0, none⟩) 7 7) (.slice (some ⟨q1, 0, none⟩) 7 7) rfl (conv_blk (n := 7) (c := 7) hq1 (rfl))) ?_
  simp only [List.set_cons_zero, List.set_cons_succ]
  replace hp1 := hp1.freeze_ ⟨q1, 7, none⟩ 1 (show q1 ≠ p1 by omega)
  replace hp2 := hp2.freeze_ ⟨q1, 7, none⟩ 1 (show q1 ≠ p2 by omega)
  replace hp3 := hp3.freeze_ ⟨q1, 7, none⟩ 1 (show q1 ≠ p3 by omega)
  replace hq1 := hq1.byB.freeze ⟨q1, 7, none⟩ 1
  replace hW := Lib.below_freeze (p := ⟨q1, 7, none⟩) hW lw_q1 1
  generalize w4.freeze ⟨q1, 7, none⟩ 1 = w5 at *
  refine runL 13 (.slice (some ⟨p1, 0, none⟩) 32 32) rfl (by rfl) (by go_simp) ?_
  simp only [List.set_cons_zero, List.set_cons_succ]
  refine callL 14 rfl (by rfl) (fun K hK => wp_callF 10 #[.slice (some ⟨q1, 0, none⟩) 7 7, .slice (some ⟨p1, 0, none⟩) 32 32] (by go_simp) (rhm_any kCai m _ 7 7 _ _ 32 32 _ byt_kCai (by decide) hmb (by decide) _ (hq1.reads (rfl)) hq1.lt (hp1.readsAll (Nat.lt_succ_self _) (hml)) hp1.lt) ?_)
  rintro e w6 ⟨rfl, bx⟩
  rw [hpq.out]
  replace hp1 := hp1.below bx hp1.lt
  replace hp2 := hp2.below bx hp2.lt
  replace hp3 := hp3.below bx hp3.lt
  replace hq1 := hq1.below bx hq1.lt
  replace hW := hW.trans (bx.mono (Nat.le_trans hB0 hW.size))
  clear bx
  refine ⟨_, rfl, hK.out _ _ ?_⟩
  clear hK K
  simp only [List.set_cons_zero, List.set_cons_succ]
  refine runWL 4 (.pointer (some ⟨w6.heap.size, 0, none⟩)) (w6.alloc (.cells (va .u8 (List.replicate 32 0)) 25)) rfl (by rfl) (exec_allocV 25 rfl _ (zv_api_Digest _)) ?_
  simp only [List.set_cons_zero, List.set_cons_succ]
  have lp1_p4 := hp1.lt
  have lp2_p4 := hp2.lt
  have lp3_p4 := hp3.lt
  have lq1_p4 := hq1.lt
  have lw_p4 := Nat.le_trans hB0 hW.size
  have hp4 : Blk (w6.alloc (.cells (va .u8 (List.replicate 32 0)) 25)) w6.heap.size 25 (va .u8 (List.replicate 32 0)) := Blk.new _ _ _
  replace hp1 := hp1.alloc (.cells (va .u8 (List.replicate 32 0)) 25)
  replace hp2 := hp2.alloc (.cells (va .u8 (List.replicate 32 0)) 25)
  replace hp3 := hp3.alloc (.cells (va .u8 (List.replicate 32 0)) 25)
  replace hq1 := hq1.alloc (.cells (va .u8 (List.replicate 32 0)) 25)
  replace hW := hW.alloc (Nat.le_trans hB0 hW.size) (.cells (va .u8 (List.replicate 32 0)) 25)
  generalize w6.alloc (.cells (va .u8 (List.replicate 32 0)) 25) = w7 at *
  generalize w6.heap.size = p4 at hp4 lw_p4 lp1_p4 lp2_p4 lp3_p4 lq1_p4 ⊢
  refine runSL (w7.setRow p4 (va .u8 (p))) rfl (by rfl) (exec_storeRow 25 (.tmp 4) (.tmp 14) rfl p4 rfl (va .u8 (p)) rfl 25 (va .u8 (List.replicate 32 0)) hp4 (sz_eq (sz_api_Digest _ (List.length_replicate)) (sz_api_Digest _ (hpl))) (sz_api_Digest _ (hpl)) (va_ones .u8 _)) ?_
  replace hp1 := hp1.rowFar (show p4 ≠ p1 from (by omega)) (va .u8 (p))
  replace hp2 := hp2.rowFar (show p4 ≠ p2 from (by omega)) (va .u8 (p))
  replace hp3 := hp3.rowFar (show p4 ≠ p3 from (by omega)) (va .u8 (p))
  replace hq1 := hq1.rowFar (show p4 ≠ q1 from (by omega)) (va .u8 (p))
  replace hp4 := hp4.row (va .u8 (p))
  replace hW := below_setRow hW lw_p4 (va .u8 (p))
  generalize w7.setRow p4 (va .u8 (p)) = w8 at *
  refine nilL ?_
  go_upto_region 2 with fail
  refine wl_lit ?_
  refine runWL 5 (.pointer (some ⟨w8.heap.size, 0, none⟩)) (w8.alloc (.cells (va .u8 (List.replicate 16 0)) 37)) rfl (by rfl) (exec_allocV 37 rfl _ (zvG16 _)) ?_
  simp only [List.set_cons_zero, List.set_cons_succ]
  have lp1_p5 := hp1.lt
  have lp2_p5 := hp2.lt
  have lp3_p5 := hp3.lt
  have lq1_p5 := hq1.lt
  have lp4_p5 := hp4.lt
  have lw_p5 := Nat.le_trans hB0 hW.size
  have hp5 : Blk (w8.alloc (.cells (va .u8 (List.replicate 16 0)) 37)) w8.heap.size 37 (va .u8 (List.replicate 16 0)) := Blk.new _ _ _
  replace hp1 := hp1.alloc (.cells (va .u8 (List.replicate 16 0)) 37)
  replace hp2 := hp2.alloc (.cells (va .u8 (List.replicate 16 0)) 37)
  replace hp3 := hp3.alloc (.cells (va .u8 (List.replicate 16 0)) 37)
  replace hq1 := hq1.alloc (.cells (va .u8 (List.replicate 16 0)) 37)
  replace hp4 := hp4.alloc (.cells (va .u8 (List.replicate 16 0)) 37)
  replace hW := hW.alloc (Nat.le_trans hB0 hW.size) (.cells (va .u8 (List.replicate 16 0)) 37)
  generalize w8.alloc (.cells (va .u8 (List.replicate 16 0)) 37) = w9 at *
  generalize w8.heap.size = p5 at hp5 lw_p5 lp1_p5 lp2_p5 lp3_p5 lq1_p5 lp4_p5 ⊢
  refine nilL ?_
  go_upto_region 3 with fail
  refine wl_lit ?_
  refine runWL 6 (.pointer (some ⟨w9.heap.size, 0, none⟩)) (w9.alloc (.cells (va .u8 (List.replicate 32 0)) 36)) rfl (by rfl) (exec_allocV 36 rfl _ (zv_api_Key _)) ?_
  simp only [List.set_cons_zero, List.set_cons_succ]
  have lp1_p6 := hp1.lt
  have lp2_p6 := hp2.lt
  have lp3_p6 := hp3.lt
  have lq1_p6 := hq1.lt
  have lp4_p6 := hp4.lt
  have lp5_p6 := hp5.lt
  have lw_p6 := Nat.le_trans hB0 hW.size
  have hp6 : Blk (w9.alloc (.cells (va .u8 (List.replicate 32 0)) 36)) w9.heap.size 36 (va .u8 (List.replicate 32 0)) := Blk.new _ _ _
  replace hp1 := hp1.alloc (.cells (va .u8 (List.replicate 32 0)) 36)
  replace hp2 := hp2.alloc (.cells (va .u8 (List.replicate 32 0)) 36)
  replace hp3 := hp3.alloc (.cells (va .u8 (List.replicate 32 0)) 36)
  replace hq1 := hq1.alloc (.cells (va .u8 (List.replicate 32 0)) 36)
  replace hp4 := hp4.alloc (.cells (va .u8 (List.replicate 32 0)) 36)
  replace hp5 := hp5.alloc (.cells (va .u8 (List.replicate 32 0)) 36)
  replace hW := hW.alloc (Nat.le_trans hB0 hW.size) (.cells (va .u8 (List.replicate 32 0)) 36)
  generalize w9.alloc (.cells (va .u8 (List.replicate 32 0)) 36) = w10 at *
  generalize w9.heap.size = p6 at hp6 lw_p6 lp1_p6 lp2_p6 lp3_p6 lq1_p6 lp4_p6 lp5_p6 ⊢
  refine nilL ?_
  go_upto_region 4 with fail
  refine wl_lit ?_
  refine runL 15 (.slice (some ⟨p4, 0, none⟩) 32 32) rfl (by rfl) (by go_simp) ?_
  simp only [List.set_cons_zero, List.set_cons_succ]
  refine runWL 16 (.slice (some ⟨w10.heap.size, 0, none⟩) 7 7) (w10.alloc (.cells (va .u8 (kEnc)) 5)) rfl (by rfl) (exec_bslice 22 7 _ rfl _ (by exact bs_kEnc _)) ?_
  simp only [List.set_cons_zero, List.set_cons_succ]
  have lp1_q2 := hp1.lt
  have lp2_q2 := hp2.lt
  have lp3_q2 := hp3.lt
  have lq1_q2 := hq1.lt
  have lp4_q2 := hp4.lt
  have lp5_q2 := hp5.lt
  have lp6_q2 := hp6.lt
  have lw_q2 := Nat.le_trans hB0 hW.size
  have hq2 : Blk (w10.alloc (.cells (va .u8 (kEnc)) 5)) w10.heap.size 5 (va .u8 (kEnc)) := Blk.new _ _ _
  replace hp1 := hp1.alloc (.cells (va .u8 (kEnc)) 5)
  replace hp2 := hp2.alloc (.cells (va .u8 (kEnc)) 5)
  replace hp3 := hp3.alloc (.cells (va .u8 (kEnc)) 5)
  replace hq1 := hq1.alloc (.cells (va .u8 (kEnc)) 5)
  replace hp4 := hp4.alloc (.cells (va .u8 (kEnc)) 5)
  replace hp5 := hp5.alloc (.cells (va .u8 (kEnc)) 5)
  replace hp6 := hp6.alloc (.cells (va .u8 (kEnc)) 5)
  replace hW := hW.alloc (Nat.le_trans hB0 hW.size) (.cells (va .u8 (kEnc)) 5)
  generalize w10.alloc (.cells (va .u8 (kEnc)) 5) = w11 at *
  generalize w10.heap.size = q2 at hq2 lw_q2 lp1_q2 lp2_q2 lp3_q2 lq1_q2 lp4_q2 lp5_q2 lp6_q2 ⊢
  refine runWL 17 (.slice (some ⟨q2, 0, none⟩) 7 7) (w11.freeze ⟨q2, 7, none⟩ 1) rfl (by rfl) (exec_convW 22 22 (.tmp 16) rfl (.slice (some ⟨q2, 0, none⟩) 7 7) (.slice (some ⟨q2, 0, none⟩) 7 7) rfl (conv_blk (n := 7) (c := 7) hq2 (rfl))) ?_
  simp only [List.set_cons_zero, List.set_cons_succ]
  replace hp1 := hp1.freeze_ ⟨q2, 7, none⟩ 1 (show q2 ≠ p1 by omega)
  replace hp2 := hp2.freeze_ ⟨q2, 7, none⟩ 1 (show q2 ≠ p2 by omega)
  replace hp3 := hp3.freeze_ ⟨q2, 7, none⟩ 1 (show q2 ≠ p3 by omega)
  replace hq1 := hq1.freeze ⟨q2, 7, none⟩ 1
  replace hp4 := hp4.freeze_ ⟨q2, 7, none⟩ 1 (show q2 ≠ p4 by omega)
  replace hp5 := hp5.freeze_ ⟨q2, 7, none⟩ 1 (show q2 ≠ p5 by omega)
  replace hp6 := hp6.freeze_ ⟨q2, 7, none⟩ 1 (show q2 ≠ p6 by omega)
  replace hq2 := hq2.byB.freeze ⟨q2, 7, none⟩ 1
  replace hW := Lib.below_freeze (p := ⟨q2, 7, none⟩) hW lw_q2 1
  generalize w11.freeze ⟨q2, 7, none⟩ 1 = w12 at *
  refine callL 18 rfl (by rfl) (fun K hK => wp_callF 13 #[.slice (some ⟨p4, 0, none⟩) 32 32, .slice (some ⟨q2, 0, none⟩) 7 7, .int .i64 16] (by go_simp) (rexp_any p kEnc 16 (by decide) _ 32 32 _ _ 7 7 _ hpb byt_kEnc (by decide) (by decide) (by decide) (by decide) _ (hp4.readsAll (Nat.lt_succ_self _) (hpl)) hp4.lt (hq2.reads (rfl)) hq2.lt) ?_)
  rintro e w13 ⟨AX, cAX, rfl, hAX, bx⟩
  have nAX_p5 := hAX.off_lt hp5.lt
  have nAX_p6 := hAX.off_lt hp6.lt
  have nAX_p2 := hAX.off_lt hp2.lt
  have nAX_p3 := hAX.off_lt hp3.lt
  replace hAX := hAX.mono (Nat.le_trans hB0 hW.size)
  replace hp1 := hp1.below bx hp1.lt
  replace hp2 := hp2.below bx hp2.lt
  replace hp3 := hp3.below bx hp3.lt
  replace hq1 := hq1.below bx hq1.lt
  replace hp4 := hp4.below bx hp4.lt
  replace hp5 := hp5.below bx hp5.lt
  replace hp6 := hp6.below bx hp6.lt
  replace hq2 := hq2.below bx hq2.lt
  replace hW := hW.trans (bx.mono (Nat.le_trans hB0 hW.size))
  clear bx
  rw [hxq.out] at hAX
  refine ⟨_, rfl, hK.out _ _ ?_⟩
  clear hK K
  simp only [List.set_cons_zero, List.set_cons_succ]
  refine runL 7 (.slice (AX) 16 cAX) rfl (by rfl) (by go_simp) ?_
  simp only [List.set_cons_zero, List.set_cons_succ]
  refine nilL ?_
  go_upto_region 5 with fail
  refine wl_lit ?_
  refine runL 19 (.slice (some ⟨p4, 0, none⟩) 32 32) rfl (by rfl) (by go_simp) ?_
  simp only [List.set_cons_zero, List.set_cons_succ]
  refine runWL 20 (.slice (some ⟨w13.heap.size, 0, none⟩) 3 3) (w13.alloc (.cells (va .u8 (kMac)) 5)) rfl (by rfl) (exec_bslice 22 3 _ rfl _ (by exact bs_kMac _)) ?_
  simp only [List.set_cons_zero, List.set_cons_succ]
  have lp1_q3 := hp1.lt
  have lp2_q3 := hp2.lt
  have lp3_q3 := hp3.lt
  have lq1_q3 := hq1.lt
  have lp4_q3 := hp4.lt
  have lp5_q3 := hp5.lt
  have lp6_q3 := hp6.lt
  have lq2_q3 := hq2.lt
  have nAX_q3 := hAX.new_off
  have lw_q3 := Nat.le_trans hB0 hW.size
  have hq3 : Blk (w13.alloc (.cells (va .u8 (kMac)) 5)) w13.heap.size 5 (va .u8 (kMac)) := Blk.new _ _ _
  replace hp1 := hp1.alloc (.cells (va .u8 (kMac)) 5)
  replace hp2 := hp2.alloc (.cells (va .u8 (kMac)) 5)
  replace hp3 := hp3.alloc (.cells (va .u8 (kMac)) 5)
  replace hq1 := hq1.alloc (.cells (va .u8 (kMac)) 5)
  replace hp4 := hp4.alloc (.cells (va .u8 (kMac)) 5)
  replace hp5 := hp5.alloc (.cells (va .u8 (kMac)) 5)
  replace hp6 := hp6.alloc (.cells (va .u8 (kMac)) 5)
  replace hq2 := hq2.alloc (.cells (va .u8 (kMac)) 5)
  replace hAX := hAX.alloc (.cells (va .u8 (kMac)) 5)
  replace hW := hW.alloc (Nat.le_trans hB0 hW.size) (.cells (va .u8 (kMac)) 5)
  generalize w13.alloc (.cells (va .u8 (kMac)) 5) = w14 at *
  generalize w13.heap.size = q3 at hq3 lw_q3 lp1_q3 lp2_q3 lp3_q3 lq1_q3 lp4_q3 lp5_q3 lp6_q3 lq2_q3 nAX_q3 ⊢
  refine runWL 21 (.slice (some ⟨q3, 0, none⟩) 3 3) (w14.freeze ⟨q3, 3, none⟩ 1) rfl (by rfl) (exec_convW 22 22 (.tmp 20) rfl (.slice (some ⟨q3, 0, none⟩) 3 3) (.slice (some ⟨q3, 0, none⟩) 3 3) rfl (conv_blk (n := 3) (c := 3) hq3 (rfl))) ?_
  simp only [List.set_cons_zero, List.set_cons_succ]
  replace hp1 := hp1.freeze_ ⟨q3, 3, none⟩ 1 (show q3 ≠ p1 by omega)
  replace hp2 := hp2.freeze_ ⟨q3, 3, none⟩ 1 (show q3 ≠ p2 by omega)
  replace hp3 := hp3.freeze_ ⟨q3, 3, none⟩ 1 (show q3 ≠ p3 by omega)
  replace hq1 := hq1.freeze ⟨q3, 3, none⟩ 1
  replace hp4 := hp4.freeze_ ⟨q3, 3, none⟩ 1 (show q3 ≠ p4 by omega)
  replace hp5 := hp5.freeze_ ⟨q3, 3, none⟩ 1 (show q3 ≠ p5 by omega)
  replace hp6 := hp6.freeze_ ⟨q3, 3, none⟩ 1 (show q3 ≠ p6 by omega)
  replace hq2 := hq2.freeze ⟨q3, 3, none⟩ 1
  replace hAX := hAX.freeze_ (k := 3) (m := 1) nAX_q3
  replace hq3 := hq3.byB.freeze ⟨q3, 3, none⟩ 1
  replace hW := Lib.below_freeze (p := ⟨q3, 3, none⟩) hW lw_q3 1
  generalize w14.freeze ⟨q3, 3, none⟩ 1 = w15 at *
  refine callL 22 rfl (by rfl) (fun K hK => wp_callF 13 #[.slice (some ⟨p4, 0, none⟩) 32 32, .slice (some ⟨q3, 0, none⟩) 3 3, .int .i64 32] (by go_simp) (rexp_any p kMac 32 (by decide) _ 32 32 _ _ 3 3 _ hpb byt_kMac (by decide) (by decide) (by decide) (by decide) _ (hp4.readsAll (Nat.lt_succ_self _) (hpl)) hp4.lt (hq3.reads (rfl)) hq3.lt) ?_)
  rintro e w16 ⟨AY, cAY, rfl, hAY, bx⟩
  have nAY_p5 := hAY.off_lt hp5.lt
  have nAY_p6 := hAY.off_lt hp6.lt
  have nAY_p2 := hAY.off_lt hp2.lt
  have nAY_p3 := hAY.off_lt hp3.lt
  replace hAY := hAY.mono (Nat.le_trans hB0 hW.size)
  replace hp1 := hp1.below bx hp1.lt
  replace hp2 := hp2.below bx hp2.lt
  replace hp3 := hp3.below bx hp3.lt
  replace hq1 := hq1.below bx hq1.lt
  replace hp4 := hp4.below bx hp4.lt
  replace hp5 := hp5.below bx hp5.lt
  replace hp6 := hp6.below bx hp6.lt
  replace hq2 := hq2.below bx hq2.lt
  replace hAX := hAX.below bx
  replace hq3 := hq3.below bx hq3.lt
  replace hW := hW.trans (bx.mono (Nat.le_trans hB0 hW.size))
  clear bx
  rw [hyq.out] at hAY
  refine ⟨_, rfl, hK.out _ _ ?_⟩
  clear hK K
  simp only [List.set_cons_zero, List.set_cons_succ]
  refine runL 8 (.slice (AY) 32 cAY) rfl (by rfl) (by go_simp) ?_
  simp only [List.set_cons_zero, List.set_cons_succ]
  refine nilL ?_
  clear hp1
  clear hq1
  clear hp4
  clear hq2
  clear hq3
  obtain ⟨gx, rfl, hgxB, hgxl⟩ := (hAX.form).resolve_left (fun h => by have := h.2.1; omega)
  obtain ⟨gy, rfl, hgyB, hgyl⟩ := (hAY.form).resolve_left (fun h => by have := h.2.1; omega)
  have hgx := hAX.byB
  have hgy := hAY.byB
  have lgx_p5 : gx ≠ p5 := fun e => nAX_p5 _ rfl e
  have lgx_p6 : gx ≠ p6 := fun e => nAX_p6 _ rfl e
  have lgx_p2 : gx ≠ p2 := fun e => nAX_p2 _ rfl e
  have lgx_p3 : gx ≠ p3 := fun e => nAX_p3 _ rfl e
  have lgy_p5 : gy ≠ p5 := fun e => nAY_p5 _ rfl e
  have lgy_p6 : gy ≠ p6 := fun e => nAY_p6 _ rfl e
  have lgy_p2 : gy ≠ p2 := fun e => nAY_p2 _ rfl e
  have lgy_p3 : gy ≠ p3 := fun e => nAY_p3 _ rfl e
  clear hAX hAY
  go_upto_region 6 with fail
  refine wl_lit ?_
  refine runL 9 (.int .i64 0) rfl (by rfl) (by go_simp) ?_
  simp only [List.set_cons_zero, List.set_cons_succ]
  refine nilL ?_
  rw [show List.replicate 16 0 = cpk x 16 0 from (cpk_zero x 16).symm] at hp5
  rw [show List.replicate 32 0 = cpk y 32 0 from (cpk_zero y 32).symm] at hp6
  go_wp2
  go_loopw [9] (fun s wr => ∃ i : Nat, i ≤ 16 ∧ s = .int .i64 (i : Int) ∧ Blk wr p2 37 (va .u8 (List.replicate 16 0)) ∧ Blk wr p3 36 (va .u8 (List.replicate 32 0)) ∧ Blk wr p5 37 (va .u8 (cpk x 16 i)) ∧ Blk wr p6 36 (va .u8 (cpk y 32 0)) ∧ ByB wr gx x ∧ ByB wr gy y ∧ Below B0 w wr) (fun s _ => 16 - (intOf s).toNat)
  case atStart => exact ⟨0, by omega, rfl, hp2, hp3, hp5, hp6, hgx, hgy, hW⟩
  case round =>
    clear hp2 hp3 hp5 hp6 hgx hgy hW
    obtain ⟨i, hi, rfl, hp2, hp3, hp5, hp6, hgx, hgy, hW⟩ := hrel
    by_cases hlt : i < 16
    ·
      have hltI : (i : Int) < 16 := by omega
      have hwi : IntKind.i64.wrap ((i : Int) + 1) = ((i + 1 : Nat) : Int) := by rw [IntWalk.i64_in _ (by omega)]; omega
      have hst := Lib.hid (cpk_step x 16 i hlt)
      obtain ⟨u, hu⟩ : ∃ u, x.getD i 0 = u := ⟨_, rfl⟩
      rw [hu] at hst
      have huq := Lib.hid hu
      clear hu
      go_upto_region 9 with fail
      refine wl_lit ?_
      refine runL 27 (.int .i64 (i : Int)) rfl (by rfl) (by go_simp) ?_
      simp only [List.set_cons_zero, List.set_cons_succ]
      refine runL 28 (.slice (some ⟨gx, 0, none⟩) 16 cAX) rfl (by rfl) (by go_simp) ?_
      simp only [List.set_cons_zero, List.set_cons_succ]
      refine runL 29 (.int .i64 (i : Int)) rfl (by rfl) (by go_simp) ?_
      simp only [List.set_cons_zero, List.set_cons_succ]
      refine runL 30 (.pointer (some ⟨gx, i, none⟩)) rfl (by rfl) (by go_simp) ?_
      simp only [List.set_cons_zero, List.set_cons_succ]
      refine runL 31 (.int .u8 ((u : Nat) : Int)) rfl (by rfl) (exec_cell 5 (.tmp 30) rfl gx i rfl (.int .u8 ((u : Nat) : Int)) _ Tryd.underlying5 rfl (by rw [← huq.out]; exact hgx.num (by rw [hxl]; exact hlt))) ?_
      simp only [List.set_cons_zero, List.set_cons_succ]
      refine runL 32 (.pointer (some ⟨p5, i, none⟩)) rfl (by rfl) (by go_simp) ?_
      simp only [List.set_cons_zero, List.set_cons_succ]
      refine runSL (wr.setCell ⟨p5, i, none⟩ (.int .u8 ((u : Nat) : Int))) rfl (by rfl) (exec_storeCell 5 (.tmp 32) (.tmp 31) rfl p5 i rfl (.int .u8 ((u : Nat) : Int)) rfl rfl rfl 37 (va .u8 (cpk x 16 i)) hp5 (by rw [va_size, ((cpk_len _ _ _))]; exact (by exact hlt)) (by kernel_rfl)) ?_
      replace hp2 := hp2.far (p := ⟨p5, i, none⟩) (show p2 ≠ p5 from (by omega)) (.int .u8 ((u : Nat) : Int))
      replace hp3 := hp3.far (p := ⟨p5, i, none⟩) (show p3 ≠ p5 from (by omega)) (.int .u8 ((u : Nat) : Int))
      replace hp6 := hp6.far (p := ⟨p5, i, none⟩) (show p6 ≠ p5 from (by omega)) (.int .u8 ((u : Nat) : Int))
      replace hgx := hgx.far (p := ⟨p5, i, none⟩) (show gx ≠ p5 from (by omega)) (.int .u8 ((u : Nat) : Int))
      replace hgy := hgy.far (p := ⟨p5, i, none⟩) (show gy ≠ p5 from (by omega)) (.int .u8 ((u : Nat) : Int))
      replace hp5 : Blk (wr.setCell ⟨p5, i, none⟩ (.int .u8 ((u : Nat) : Int))) p5 37 (va .u8 (cpk x 16 (i + 1))) := by rw [← hst.out]; exact hp5.setNum i (u)
      replace hW := hW.setCell (p := ⟨p5, i, none⟩) lw_p5 (.int .u8 ((u : Nat) : Int))
      generalize wr.setCell ⟨p5, i, none⟩ (.int .u8 ((u : Nat) : Int)) = w17 at *
      refine nilL ?_
      go_wp2
      go_roundw
      case rel => exact ⟨i + 1, by omega, by go_num, hp2, hp3, hp5, hp6, hgx, hgy, hW⟩
      case measure => simp [intOf]; omega
    ·
      have hi2 : i = 16 := by omega
      have hltIx : ¬ (i : Int) < 16 := by omega
      have hz : cpk x 16 i = x := by rw [hi2]; exact cpk_all x 16 hxl
      rw [hz] at hp5
      clear hz hi2 hlt hi
      go_upto_region 10 with fail
      refine wl_lit ?_
      refine runL 10 (.int .i64 0) rfl (by rfl) (by go_simp) ?_
      simp only [List.set_cons_zero, List.set_cons_succ]
      refine nilL ?_
      go_wp2
      go_loopw [10] (fun s wr => ∃ i : Nat, i ≤ 32 ∧ s = .int .i64 (i : Int) ∧ Blk wr p2 37 (va .u8 (List.replicate 16 0)) ∧ Blk wr p3 36 (va .u8 (List.replicate 32 0)) ∧ Blk wr p5 37 (va .u8 (x)) ∧ Blk wr p6 36 (va .u8 (cpk y 32 i)) ∧ ByB wr gx x ∧ ByB wr gy y ∧ Below B0 w wr) (fun s _ => 32 - (intOf s).toNat)
      case atStart => exact ⟨0, by omega, rfl, hp2, hp3, hp5, hp6, hgx, hgy, hW⟩
      case round =>
        clear hp2 hp3 hp5 hp6 hgx hgy hW
        obtain ⟨i, hi, rfl, hp2, hp3, hp5, hp6, hgx, hgy, hW⟩ := hrel
        by_cases hlt : i < 32
        ·
          have hltI : (i : Int) < 32 := by omega
          have hwi : IntKind.i64.wrap ((i : Int) + 1) = ((i + 1 : Nat) : Int) := by rw [IntWalk.i64_in _ (by omega)]; omega
          have hst := Lib.hid (cpk_step y 32 i hlt)
          obtain ⟨u, hu⟩ : ∃ u, y.getD i 0 = u := ⟨_, rfl⟩
          rw [hu] at hst
          have huq := Lib.hid hu
          clear hu
          go_upto_region 13 with fail
          refine wl_lit ?_
          refine runL 37 (.int .i64 (i : Int)) rfl (by rfl) (by go_simp) ?_
          simp only [List.set_cons_zero, List.set_cons_succ]
          refine runL 38 (.slice (some ⟨gy, 0, none⟩) 32 cAY) rfl (by rfl) (by go_simp) ?_
          simp only [List.set_cons_zero, List.set_cons_succ]
          refine runL 39 (.int .i64 (i : Int)) rfl (by rfl) (by go_simp) ?_
          simp only [List.set_cons_zero, List.set_cons_succ]
          refine runL 40 (.pointer (some ⟨gy, i, none⟩)) rfl (by rfl) (by go_simp) ?_
          simp only [List.set_cons_zero, List.set_cons_succ]
          refine runL 41 (.int .u8 ((u : Nat) : Int)) rfl (by rfl) (exec_cell 5 (.tmp 40) rfl gy i rfl (.int .u8 ((u : Nat) : Int)) _ Tryd.underlying5 rfl (by rw [← huq.out]; exact hgy.num (by rw [hyl]; exact hlt))) ?_
          simp only [List.set_cons_zero, List.set_cons_succ]
          refine runL 42 (.pointer (some ⟨p6, i, none⟩)) rfl (by rfl) (by go_simp) ?_
          simp only [List.set_cons_zero, List.set_cons_succ]
          refine runSL (wr.setCell ⟨p6, i, none⟩ (.int .u8 ((u : Nat) : Int))) rfl (by rfl) (exec_storeCell 5 (.tmp 42) (.tmp 41) rfl p6 i rfl (.int .u8 ((u : Nat) : Int)) rfl rfl rfl 36 (va .u8 (cpk y 32 i)) hp6 (by rw [va_size, ((cpk_len _ _ _))]; exact (by exact hlt)) (by kernel_rfl)) ?_
          replace hp2 := hp2.far (p := ⟨p6, i, none⟩) (show p2 ≠ p6 from (by omega)) (.int .u8 ((u : Nat) : Int))
          replace hp3 := hp3.far (p := ⟨p6, i, none⟩) (show p3 ≠ p6 from (by omega)) (.int .u8 ((u : Nat) : Int))
          replace hp5 := hp5.far (p := ⟨p6, i, none⟩) (show p5 ≠ p6 from (by omega)) (.int .u8 ((u : Nat) : Int))
          replace hgx := hgx.far (p := ⟨p6, i, none⟩) (show gx ≠ p6 from (by omega)) (.int .u8 ((u : Nat) : Int))
          replace hgy := hgy.far (p := ⟨p6, i, none⟩) (show gy ≠ p6 from (by omega)) (.int .u8 ((u : Nat) : Int))
          replace hp6 : Blk (wr.setCell ⟨p6, i, none⟩ (.int .u8 ((u : Nat) : Int))) p6 36 (va .u8 (cpk y 32 (i + 1))) := by rw [← hst.out]; exact hp6.setNum i (u)
          replace hW := hW.setCell (p := ⟨p6, i, none⟩) lw_p6 (.int .u8 ((u : Nat) : Int))
          generalize wr.setCell ⟨p6, i, none⟩ (.int .u8 ((u : Nat) : Int)) = w18 at *
          refine nilL ?_
          go_wp2
          go_roundw
          case rel => exact ⟨i + 1, by omega, by go_num, hp2, hp3, hp5, hp6, hgx, hgy, hW⟩
          case measure => simp [intOf]; omega
        ·
          have hi2 : i = 32 := by omega
          have hltIy : ¬ (i : Int) < 32 := by omega
          have hz : cpk y 32 i = y := by rw [hi2]; exact cpk_all y 32 hyl
          rw [hz] at hp6
          clear hz hi2 hlt hi
          go_upto_region 14 with fail
          replace hp2 := hp2.drew
          replace hp3 := hp3.drew
          refine wp_region_held_drew (S := fun wr => Blk wr p5 37 (va .u8 (x)) ∧ Blk wr p6 36 (va .u8 (y)) ∧ ByB wr gx (x) ∧ ByB wr gy (y) ∧ Below B0 w wr) (by kernel_rfl) ⟨hp5.drew, hp6.drew, hgx.drew_, hgy.drew_, below_drewN hW 1⟩ (fun hH => ?_)
          clear hp5 hp6 hgx hgy hW
          obtain ⟨hp5, hp6, hgx, hgy, hW⟩ := hH
          generalize wr.drew = w19 at *
          refine takeH 3 0 43 (.agg (va .u8 (x))) rfl rfl (by kernel_rfl) (by kernel_rfl) (by kernel_rfl) (fun _ _ _ h => h) (Or.inl ⟨by rfl, fun _ h => exec_row 37 (.tmp 5) rfl p5 rfl 37 (va .u8 (x)) _ h.1 (by exact Tryd.underlying37) rfl (szG16 _ (hxl))⟩) ⟨hp5, hp6, hgx, hgy, hW⟩ ?_
          simp only [List.set_cons_zero, List.set_cons_succ]
          refine takeH 2 1 44 (.agg (va .u8 (y))) rfl rfl (by kernel_rfl) (by kernel_rfl) (by kernel_rfl) (fun _ _ _ h => h) (Or.inl ⟨by rfl, fun _ h => exec_row 36 (.tmp 6) rfl p6 rfl 36 (va .u8 (y)) _ h.2.1 (by exact Tryd.underlying36) rfl (sz_api_Key _ (hyl))⟩) ⟨hp5, hp6, hgx, hgy, hW⟩ ?_
          simp only [List.set_cons_zero, List.set_cons_succ]
          refine wpAnyH_ready (by kernel_rfl) (by simp) (readyRunS 1 2 (w19.setRow p2 (va .u8 (x))) rfl rfl (by rfl) (exec_storeRow 37 (.tmp 2) (.tmp 43) rfl p2 rfl (va .u8 (x)) rfl 37 (va .u8 (List.replicate 16 0)) hp2 (sz_eq (szG16 _ (List.length_replicate)) (szG16 _ (hxl))) (szG16 _ (hxl)) (va_ones .u8 _)) ⟨hp5.rowFar (show p2 ≠ p5 from (by omega)) _, hp6.rowFar (show p2 ≠ p6 from (by omega)) _, hgx.rowFar (show p2 ≠ gx from (by omega)) _, hgy.rowFar (show p2 ≠ gy from (by omega)) _, below_setRow hW lw_p2 _⟩ (fun _ => ?_) AllReadyH.nil)
          replace hp3 := hp3.rowFar (show p2 ≠ p3 from (by omega)) (va .u8 (x))
          replace hp5 := hp5.rowFar (show p2 ≠ p5 from (by omega)) (va .u8 (x))
          replace hp6 := hp6.rowFar (show p2 ≠ p6 from (by omega)) (va .u8 (x))
          replace hgx := hgx.rowFar (show p2 ≠ gx from (by omega)) (va .u8 (x))
          replace hgy := hgy.rowFar (show p2 ≠ gy from (by omega)) (va .u8 (x))
          replace hp2 := hp2.row (va .u8 (x))
          replace hW := below_setRow hW lw_p2 (va .u8 (x))
          generalize w19.setRow p2 (va .u8 (x)) = w20 at *
          refine wpAnyH_ready (by kernel_rfl) (by simp) (readyRunS 0 3 (w20.setRow p3 (va .u8 (y))) rfl rfl (by rfl) (exec_storeRow 36 (.tmp 3) (.tmp 44) rfl p3 rfl (va .u8 (y)) rfl 36 (va .u8 (List.replicate 32 0)) hp3 (sz_eq (sz_api_Key _ (List.length_replicate)) (sz_api_Key _ (hyl))) (sz_api_Key _ (hyl)) (va_ones .u8 _)) ⟨hp5.rowFar (show p3 ≠ p5 from (by omega)) _, hp6.rowFar (show p3 ≠ p6 from (by omega)) _, hgx.rowFar (show p3 ≠ gx from (by omega)) _, hgy.rowFar (show p3 ≠ gy from (by omega)) _, below_setRow hW lw_p3 _⟩ (fun _ => ?_) AllReadyH.nil)
          replace hp2 := hp2.rowFar (show p3 ≠ p2 from (by omega)) (va .u8 (y))
          replace hp5 := hp5.rowFar (show p3 ≠ p5 from (by omega)) (va .u8 (y))
          replace hp6 := hp6.rowFar (show p3 ≠ p6 from (by omega)) (va .u8 (y))
          replace hgx := hgx.rowFar (show p3 ≠ gx from (by omega)) (va .u8 (y))
          replace hgy := hgy.rowFar (show p3 ≠ gy from (by omega)) (va .u8 (y))
          replace hp3 := hp3.row (va .u8 (y))
          replace hW := below_setRow hW lw_p3 (va .u8 (y))
          generalize w20.setRow p3 (va .u8 (y)) = w21 at *
          refine wpAnyH_done (by kernel_rfl) ?_ _
          go_wp2_with fail
          exact bodyPost_ret (results_row_row rfl _ _ p2 37 (va .u8 x) _ p3 36 (va .u8 y) _ rfl hp2 (by exact Tryd.underlying37) rfl (szG16 _ hxl) rfl hp3 (by exact Tryd.underlying36) rfl (sz_api_Key _ hyl)) rfl ⟨rfl, hW⟩

theorem sz16D (l : List Nat) (h : l.length = 16) : (Tryd.prog.info? 37).map (·.size) = some (nv .u8 l).length := by rw [nv_len, h]; kernel_rfl
theorem szKD (l : List Nat) (h : l.length = 32) : (Tryd.prog.info? 36).map (·.size) = some (nv .u8 l).length := by rw [nv_len, h]; kernel_rfl
set_option maxRecDepth 8000 in
set_option maxHeartbeats 4000000 in
theorem lawDVolume_any (m : List Nat) (hml : m.length = 32) (hmb : Byt m) (w : World) (hg : Glob w) :
    Calls Tryd.prog 6 #[.agg (va .u8 m)] w fun e w' => e = .returned (.bool true) ∧ Below w.heap.size w w' := by
  obtain ⟨B0, hB0e⟩ : ∃ b, w.heap.size = b := ⟨_, rfl⟩
  rw [hB0e]
  have hW : Below B0 w w := by rw [← hB0e]; exact Below.refl _ _
  have hB0 : B0 ≤ w.heap.size := by omega
  have gl := glob_of hg hB0e
  clear hg
  have hB0q := Lib.hid hB0e
  clear hB0e
  obtain ⟨x, hx⟩ : ∃ p, ve m = p := ⟨_, rfl⟩
  obtain ⟨y, hy⟩ : ∃ p, vm m = p := ⟨_, rfl⟩
  have hxl := ve_len m
  have hyl := vm_len m
  rw [hx] at hxl
  rw [hy] at hyl
  have hxq := Lib.hid hx
  have hyq := Lib.hid hy
  clear hx hy
  go_enter Tryd.func6, Tryd.ntmps6
  go_upto_region 0 with fail
  refine wl_lit ?_
  refine runWL 1 (.pointer (some ⟨w.heap.size, 0, none⟩)) (w.alloc (.cells (va .u8 (m)) 36)) rfl (by rfl) (exec_box 36 (.tmp 0) rfl (.agg (va .u8 (m))) rfl) ?_
  simp only [List.set_cons_zero, List.set_cons_succ]
  have lw_p1 := Nat.le_trans hB0 hW.size
  have hp1 : Blk (w.alloc (.cells (va .u8 (m)) 36)) w.heap.size 36 (va .u8 (m)) := Blk.new _ _ _
  replace hW := hW.alloc (Nat.le_trans hB0 hW.size) (.cells (va .u8 (m)) 36)
  generalize w.alloc (.cells (va .u8 (m)) 36) = w1 at *
  generalize w.heap.size = p1 at hp1 lw_p1  ⊢
  refine runL 2 (.bool false) rfl (by rfl) (by go_simp) ?_
  simp only [List.set_cons_zero, List.set_cons_succ]
  refine nilL ?_
  go_upto_region 1 with fail
  refine wl_lit ?_
  refine runL 6 (.agg (va .u8 (m))) rfl (by rfl) (exec_row 36 (.tmp 1) rfl p1 rfl 36 (va .u8 (m)) _ hp1 (by exact Tryd.underlying36) rfl (sz_api_Key _ (hml))) ?_
  simp only [List.set_cons_zero, List.set_cons_succ]
  refine callL 7 rfl (by rfl) (fun K hK => wp_callF 14 #[.agg (va .u8 (m))] (by go_simp) (volume_any m hml hmb _ (gl.out _ hW)) ?_)
  rintro e w2 ⟨rfl, bx⟩
  rw [hxq.out, hyq.out]
  replace hp1 := hp1.below bx hp1.lt
  replace hW := hW.trans (bx.mono (Nat.le_trans hB0 hW.size))
  clear bx
  refine ⟨_, rfl, hK.out _ _ ?_⟩
  clear hK K
  simp only [List.set_cons_zero, List.set_cons_succ]
  refine runWL 3 (.pointer (some ⟨w2.heap.size, 0, none⟩)) (w2.alloc (.cells (va .u8 (List.replicate 48 0)) 39)) rfl (by rfl) (exec_allocV 39 rfl _ (zv_derives_Keys _)) ?_
  simp only [List.set_cons_zero, List.set_cons_succ]
  have lp1_p3 := hp1.lt
  have lw_p3 := Nat.le_trans hB0 hW.size
  have hp3 : Blk (w2.alloc (.cells (va .u8 (List.replicate 48 0)) 39)) w2.heap.size 39 (va .u8 (List.replicate 48 0)) := Blk.new _ _ _
  replace hp1 := hp1.alloc (.cells (va .u8 (List.replicate 48 0)) 39)
  replace hW := hW.alloc (Nat.le_trans hB0 hW.size) (.cells (va .u8 (List.replicate 48 0)) 39)
  generalize w2.alloc (.cells (va .u8 (List.replicate 48 0)) 39) = w3 at *
  generalize w2.heap.size = p3 at hp3 lw_p3 lp1_p3 ⊢
  refine runSL (w3.setRow p3 (va .u8 (x ++ y))) rfl (by rfl) (exec_storeRow 39 (.tmp 3) (.tmp 7) rfl p3 rfl (va .u8 (x ++ y)) rfl 39 (va .u8 (List.replicate 48 0)) hp3 (sz_eq (sz_derives_Keys _ (List.length_replicate)) (sz_derives_Keys _ ((by simp [hxl, hyl])))) (sz_derives_Keys _ ((by simp [hxl, hyl]))) (va_ones .u8 _)) ?_
  replace hp1 := hp1.rowFar (show p3 ≠ p1 from (by omega)) (va .u8 (x ++ y))
  replace hp3 := hp3.row (va .u8 (x ++ y))
  replace hW := below_setRow hW lw_p3 (va .u8 (x ++ y))
  generalize w3.setRow p3 (va .u8 (x ++ y)) = w4 at *
  refine nilL ?_
  go_upto_region 2 with fail
  refine wl_lit ?_
  refine runL 9 (.agg (va .u8 (m))) rfl (by rfl) (exec_row 36 (.tmp 1) rfl p1 rfl 36 (va .u8 (m)) _ hp1 (by exact Tryd.underlying36) rfl (sz_api_Key _ (hml))) ?_
  simp only [List.set_cons_zero, List.set_cons_succ]
  refine callL 10 rfl (by rfl) (fun K hK => wp_callF 15 #[.agg (va .u8 (m))] (by go_simp) (rkeys_any m hml hmb _) ?_)
  rintro e w5 ⟨rfl, bx⟩
  rw [hxq.out, hyq.out]
  replace hp1 := hp1.below bx hp1.lt
  replace hp3 := hp3.below bx hp3.lt
  replace hW := hW.trans (bx.mono (Nat.le_trans hB0 hW.size))
  clear bx
  refine ⟨_, rfl, hK.out _ _ ?_⟩
  clear hK K
  simp only [List.set_cons_zero, List.set_cons_succ]
  refine runL 8 (.tuple #[.agg (va .u8 (x)), .agg (va .u8 (y))]) rfl (by rfl) (by go_simp) ?_
  simp only [List.set_cons_zero, List.set_cons_succ]
  refine runL 11 (.agg (va .u8 (x))) rfl (by rfl) (by go_simp) ?_
  simp only [List.set_cons_zero, List.set_cons_succ]
  refine runL 12 (.agg (va .u8 (y))) rfl (by rfl) (by go_simp) ?_
  simp only [List.set_cons_zero, List.set_cons_succ]
  refine runWL 4 (.pointer (some ⟨w5.heap.size, 0, none⟩)) (w5.alloc (.cells (va .u8 (List.replicate 16 0)) 37)) rfl (by rfl) (exec_allocV 37 rfl _ (zvG16 _)) ?_
  simp only [List.set_cons_zero, List.set_cons_succ]
  have lp1_p4 := hp1.lt
  have lp3_p4 := hp3.lt
  have lw_p4 := Nat.le_trans hB0 hW.size
  have hp4 : Blk (w5.alloc (.cells (va .u8 (List.replicate 16 0)) 37)) w5.heap.size 37 (va .u8 (List.replicate 16 0)) := Blk.new _ _ _
  replace hp1 := hp1.alloc (.cells (va .u8 (List.replicate 16 0)) 37)
  replace hp3 := hp3.alloc (.cells (va .u8 (List.replicate 16 0)) 37)
  replace hW := hW.alloc (Nat.le_trans hB0 hW.size) (.cells (va .u8 (List.replicate 16 0)) 37)
  generalize w5.alloc (.cells (va .u8 (List.replicate 16 0)) 37) = w6 at *
  generalize w5.heap.size = p4 at hp4 lw_p4 lp1_p4 lp3_p4 ⊢
  refine runWL 5 (.pointer (some ⟨w6.heap.size, 0, none⟩)) (w6.alloc (.cells (va .u8 (List.replicate 32 0)) 36)) rfl (by rfl) (exec_allocV 36 rfl _ (zv_api_Key _)) ?_
  simp only [List.set_cons_zero, List.set_cons_succ]
  have lp1_p5 := hp1.lt
  have lp3_p5 := hp3.lt
  have lp4_p5 := hp4.lt
  have lw_p5 := Nat.le_trans hB0 hW.size
  have hp5 : Blk (w6.alloc (.cells (va .u8 (List.replicate 32 0)) 36)) w6.heap.size 36 (va .u8 (List.replicate 32 0)) := Blk.new _ _ _
  replace hp1 := hp1.alloc (.cells (va .u8 (List.replicate 32 0)) 36)
  replace hp3 := hp3.alloc (.cells (va .u8 (List.replicate 32 0)) 36)
  replace hp4 := hp4.alloc (.cells (va .u8 (List.replicate 32 0)) 36)
  replace hW := hW.alloc (Nat.le_trans hB0 hW.size) (.cells (va .u8 (List.replicate 32 0)) 36)
  generalize w6.alloc (.cells (va .u8 (List.replicate 32 0)) 36) = w7 at *
  generalize w6.heap.size = p5 at hp5 lw_p5 lp1_p5 lp3_p5 lp4_p5 ⊢
  refine runSL (w7.setRow p4 (va .u8 (x))) rfl (by rfl) (exec_storeRow 37 (.tmp 4) (.tmp 11) rfl p4 rfl (va .u8 (x)) rfl 37 (va .u8 (List.replicate 16 0)) hp4 (sz_eq (szG16 _ (List.length_replicate)) (szG16 _ (hxl))) (szG16 _ (hxl)) (va_ones .u8 _)) ?_
  replace hp1 := hp1.rowFar (show p4 ≠ p1 from (by omega)) (va .u8 (x))
  replace hp3 := hp3.rowFar (show p4 ≠ p3 from (by omega)) (va .u8 (x))
  replace hp5 := hp5.rowFar (show p4 ≠ p5 from (by omega)) (va .u8 (x))
  replace hp4 := hp4.row (va .u8 (x))
  replace hW := below_setRow hW lw_p4 (va .u8 (x))
  generalize w7.setRow p4 (va .u8 (x)) = w8 at *
  refine runSL (w8.setRow p5 (va .u8 (y))) rfl (by rfl) (exec_storeRow 36 (.tmp 5) (.tmp 12) rfl p5 rfl (va .u8 (y)) rfl 36 (va .u8 (List.replicate 32 0)) hp5 (sz_eq (sz_api_Key _ (List.length_replicate)) (sz_api_Key _ (hyl))) (sz_api_Key _ (hyl)) (va_ones .u8 _)) ?_
  replace hp1 := hp1.rowFar (show p5 ≠ p1 from (by omega)) (va .u8 (y))
  replace hp3 := hp3.rowFar (show p5 ≠ p3 from (by omega)) (va .u8 (y))
  replace hp4 := hp4.rowFar (show p5 ≠ p4 from (by omega)) (va .u8 (y))
  replace hp5 := hp5.row (va .u8 (y))
  replace hW := below_setRow hW lw_p5 (va .u8 (y))
  generalize w8.setRow p5 (va .u8 (y)) = w9 at *
  refine nilL ?_
  go_upto_region 3 with fail
  refine wl_lit ?_
  refine runL 13 (.pointer (some ⟨p3, 0, none⟩)) rfl (by rfl) (by go_simp) ?_
  simp only [List.set_cons_zero, List.set_cons_succ]
  refine runL 14 (.agg (va .u8 (x))) rfl (by rfl) (exec_mid 37 (.tmp 13) rfl p3 0 rfl (nv .u8 x) _ (hp3.left) Tryd.underlying37 rfl (sz16D _ hxl)) ?_
  simp only [List.set_cons_zero, List.set_cons_succ]
  refine runL 15 (.agg (va .u8 (x))) rfl (by rfl) (exec_row 37 (.tmp 4) rfl p4 rfl 37 (va .u8 (x)) _ hp4 (by exact Tryd.underlying37) rfl (szG16 _ (hxl))) ?_
  simp only [List.set_cons_zero, List.set_cons_succ]
  refine runL 16 (.bool true) rfl (by rfl) (exec_eqB 37 16 (by kernel_rfl) (by kernel_rfl) (.tmp 14) (.tmp 15) _ rfl (x) (x) (hxl) (hxl) rfl rfl true (by simp)) ?_
  simp only [List.set_cons_zero, List.set_cons_succ]
  refine runL 17 (.bool true) rfl (by rfl) (by go_simp) ?_
  simp only [List.set_cons_zero, List.set_cons_succ]
  refine runL 18 (.pointer (some ⟨p3, 16, none⟩)) rfl (by rfl) (by go_simp) ?_
  simp only [List.set_cons_zero, List.set_cons_succ]
  refine runL 19 (.agg (va .u8 (y))) rfl (by rfl) (exec_mid 36 (.tmp 18) rfl p3 16 rfl (nv .u8 y) _ (hp3.right hxl) Tryd.underlying36 rfl (szKD _ hyl)) ?_
  simp only [List.set_cons_zero, List.set_cons_succ]
  refine runL 20 (.agg (va .u8 (y))) rfl (by rfl) (exec_row 36 (.tmp 5) rfl p5 rfl 36 (va .u8 (y)) _ hp5 (by exact Tryd.underlying36) rfl (sz_api_Key _ (hyl))) ?_
  simp only [List.set_cons_zero, List.set_cons_succ]
  refine runL 21 (.bool true) rfl (by rfl) (exec_eqB 36 32 (by kernel_rfl) (by kernel_rfl) (.tmp 19) (.tmp 20) _ rfl (y) (y) (hyl) (hyl) rfl rfl true (by simp)) ?_
  simp only [List.set_cons_zero, List.set_cons_succ]
  refine runL 22 (.bool true) rfl (by rfl) (by go_simp) ?_
  simp only [List.set_cons_zero, List.set_cons_succ]
  refine runL 23 (.bool true) rfl (by rfl) (by go_simp) ?_
  simp only [List.set_cons_zero, List.set_cons_succ]
  refine callL 24 rfl (by rfl) (fun K hK => wp_callF 8 #[] (by go_simp) (lives04_any _ (gl.out _ hW)) ?_)
  rintro e w10 ⟨rfl, bx⟩
  replace hp1 := hp1.below bx hp1.lt
  replace hp3 := hp3.below bx hp3.lt
  replace hp4 := hp4.below bx hp4.lt
  replace hp5 := hp5.below bx hp5.lt
  replace hW := hW.trans (bx.mono (Nat.le_trans hB0 hW.size))
  clear bx
  refine ⟨_, rfl, hK.out _ _ ?_⟩
  clear hK K
  simp only [List.set_cons_zero, List.set_cons_succ]
  refine runL 25 (.bool true) rfl (by rfl) (by go_simp) ?_
  simp only [List.set_cons_zero, List.set_cons_succ]
  refine runL 2 (.bool true) rfl (by rfl) (by go_simp) ?_
  simp only [List.set_cons_zero, List.set_cons_succ]
  refine nilL ?_
  go_wp2_with fail
  go_ret
  exact ⟨rfl, hW⟩
end Go.Proofs.YtcdmbknmmnaocaaDoor
