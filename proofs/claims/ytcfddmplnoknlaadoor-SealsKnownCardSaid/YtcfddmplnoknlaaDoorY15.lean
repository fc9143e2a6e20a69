/-
  The walks of derives.Volume, caissonref04.Keys, caissonlaw04.DerivesVolume. (Printed by mkdrv04g.py.)
-/
import Derived.Test.YtcfddmplnoknlaaDoorY14
namespace Go.Proofs.YtcfddmplnoknlaaDoor
set_option maxRecDepth 16384
open Go.RowKit Sh
theorem szG16 (l : List Nat) (h : l.length = 16) : (Tryd.prog.info? 22).map (·.size) = some (va .u8 l).size := by rw [va_size, h]; kernel_rfl
theorem zvG16 (w : World) : (zeroValue 22).run Tryd.prog w = .ok (.agg (va .u8 (List.replicate 16 0))) w := by kernel_rfl
theorem sz_api_Key (l : List Nat) (h : l.length = 32) : (Tryd.prog.info? 24).map (·.size) = some (va .u8 l).size := by rw [va_size, h]; kernel_rfl
theorem zv_api_Key (w : World) : (zeroValue 24).run Tryd.prog w = .ok (.agg (va .u8 (List.replicate 32 0))) w := by kernel_rfl
theorem sz_derives_Keys (l : List Nat) (h : l.length = 48) : (Tryd.prog.info? 26).map (·.size) = some (va .u8 l).size := by rw [va_size, h]; kernel_rfl
theorem zv_derives_Keys (w : World) : (zeroValue 26).run Tryd.prog w = .ok (.agg (va .u8 (List.replicate 48 0))) w := by kernel_rfl
def kCai : List Nat := [99, 97, 105, 115, 115, 111, 110]
theorem bs_kCai (W : World) : (Instr.buildSlice 34 7 #[(0, .int .u8 99), (1, .int .u8 97), (2, .int .u8 105), (3, .int .u8 115), (4, .int .u8 115), (5, .int .u8 111), (6, .int .u8 110)]).run Tryd.prog W = .ok (.slice (some ⟨W.heap.size, 0, none⟩) 7 7) (W.alloc (.cells (va .u8 kCai) 5)) := by
 obtain ⟨ie, hie, h0, h1, h2⟩ := info_parts byte_info
 refine run_buildSlice W _ 5 7 _ (va .u8 kCai) ie _ Tryd.underlying34 hie h0 (by rw [h1]; decide) (by rw [h1]; decide) ?_
 rw [h1]; kernel_rfl
theorem byt_kCai : Byt kCai := fun x hx => by
 have h : kCai.all (· < 256) = true := by decide
 rw [List.all_eq_true] at h; simpa using h x hx
def kEnc : List Nat := [101, 110, 99, 114, 121, 112, 116]
theorem bs_kEnc (W : World) : (Instr.buildSlice 34 7 #[(0, .int .u8 101), (1, .int .u8 110), (2, .int .u8 99), (3, .int .u8 114), (4, .int .u8 121), (5, .int .u8 112), (6, .int .u8 116)]).run Tryd.prog W = .ok (.slice (some ⟨W.heap.size, 0, none⟩) 7 7) (W.alloc (.cells (va .u8 kEnc) 5)) := by
 obtain ⟨ie, hie, h0, h1, h2⟩ := info_parts byte_info
 refine run_buildSlice W _ 5 7 _ (va .u8 kEnc) ie _ Tryd.underlying34 hie h0 (by rw [h1]; decide) (by rw [h1]; decide) ?_
 rw [h1]; kernel_rfl
theorem byt_kEnc : Byt kEnc := fun x hx => by
 have h : kEnc.all (· < 256) = true := by decide
 rw [List.all_eq_true] at h; simpa using h x hx
def kMac : List Nat := [109, 97, 99]
theorem bs_kMac (W : World) : (Instr.buildSlice 34 3 #[(0, .int .u8 109), (1, .int .u8 97), (2, .int .u8 99)]).run Tryd.prog W = .ok (.slice (some ⟨W.heap.size, 0, none⟩) 3 3) (W.alloc (.cells (va .u8 kMac) 5)) := by
 obtain ⟨ie, hie, h0, h1, h2⟩ := info_parts byte_info
 refine run_buildSlice W _ 5 3 _ (va .u8 kMac) ie _ Tryd.underlying34 hie h0 (by rw [h1]; decide) (by rw [h1]; decide) ?_
 rw [h1]; kernel_rfl
theorem byt_kMac : Byt kMac := fun x hx => by
 have h : kMac.all (· < 256) = true := by decide
 rw [List.all_eq_true] at h; simpa using h x hx

theorem Rs.freeze_ {w : World} {B0 n : Nat} {A : Option Addr} {l : List Nat} {g k m : Nat} (h : Rs w B0 A n l) (_ : Off A g) : Rs (w.freeze ⟨g, k, none⟩ m) B0 A n l := h.map fun _ _ hb => hb.freeze _ _
theorem Rs.off_lt {w : World} {B0 n : Nat} {A : Option Addr} {l : List Nat} {x : Nat} (h : Rs w B0 A n l) (hx : x < B0) : Off A x := fun a ha e => by
  rcases h.2 with ⟨rfl, _⟩ | ⟨g, rfl, hg, hb⟩
  · cases ha
  · cases ha; have e2 : g = x := e; omega
theorem results_row_row {P : Program} {fn : Func} {p q : Tmp} {ty sy : TypeId} (h : fn.results = #[.cell p ty, .cell q sy]) (tmps : Array Value) (w : World) (g : Nat) (t : TypeId) (cs : Array Value) (d : TypeDesc) (g2 : Nat) (t2 : TypeId) (cs2 : Array Value) (d2 : TypeDesc)
  (hp : tmps.getD p undef = .pointer (some ⟨g, 0, none⟩)) (hg : Blk w g t cs)
  (hu : P.underlying ty = some d) (hd : (match d with | .struct _ | .array _ _ => true | _ => false) = true) (hi : (P.info? ty).map (·.size) = some cs.size)
  (hp2 : tmps.getD q undef = .pointer (some ⟨g2, 0, none⟩)) (hg2 : Blk w g2 t2 cs2)
  (hu2 : P.underlying sy = some d2) (hd2 : (match d2 with | .struct _ | .array _ _ => true | _ => false) = true) (hi2 : (P.info? sy).map (·.size) = some cs2.size) :
  (results fn tmps).run P w = .ok (.tuple #[.agg cs, .agg cs2]) w := by
 have hp' : tmps[p]?.getD undef = .pointer (some ⟨g, 0, none⟩) := by simpa using hp
 have hq' : tmps[q]?.getD undef = .pointer (some ⟨g2, 0, none⟩) := by simpa using hp2
 simp [results, h, hp', hq', asAddr, run_loadVar_row w g t ty cs (0, 0) d hg hu hd hi, run_loadVar_row w g2 t2 sy cs2 (0, 0) d2 hg2 hu2 hd2 hi2]
theorem Blk.left {W : World} {g : Nat} {T : TypeId} {x y : List Nat} (hb : Blk W g T (va .u8 (x ++ y))) : W.rangeAt g 0 (nv .u8 x) := fun j v hv => hb.part 0 x.length j v (by simpa using hv)
theorem Blk.right {W : World} {g n : Nat} {T : TypeId} {x y : List Nat} (hb : Blk W g T (va .u8 (x ++ y))) (hn : x.length = n) : W.rangeAt g n (nv .u8 y) := fun j v hv => by
 subst hn
 exact hb.part x.length y.length j v (by simpa using hv)
def vk (m : List Nat) : List Nat := hm kCai m
def ve (m : List Nat) : List Nat := ex (vk m) kEnc 16
def vm (m : List Nat) : List Nat := ex (vk m) kMac 32
theorem ve_len (m : List Nat) : (ve m).length = 16 := ex_len _ _ _ (by decide)
theorem vm_len (m : List Nat) : (vm m).length = 32 := ex_len _ _ _ (by decide)
set_option maxRecDepth 8000 in
set_option maxHeartbeats 4000000 in
theorem volume_any (m : List Nat) (hml : m.length = 32) (hmb : Byt m) (w : World) (hg : Glob w) :
  Calls Tryd.prog 19 #[.agg (va .u8 m)] w fun e w' => e = .returned (.agg (va .u8 (ve m ++ vm m))) ∧ Below w.heap.size w w' := by
 obtain ⟨B0, hB0e, hW, hB0⟩ := stB w
 rw [hB0e]
 have gl := glob_of hg hB0e
 clear hg
 have hB0q := Lib.hid hB0e
 clear hB0e
 obtain ⟨p, hp⟩ : ∃ p, vk m = p := ⟨_, rfl⟩
 obtain ⟨x, hx⟩ : ∃ p, ve m = p := ⟨_, rfl⟩
 obtain ⟨y, hy⟩ : ∃ p, vm m = p := ⟨_, rfl⟩
 have hxl := ve_len m
 have hyl := vm_len m
 have hpl : p.length = 32 := by rw [← hp]; exact hm_len _ _
 have hpb : Byt p := by rw [← hp]; exact hm_byt _ _
 rw [hx] at hxl
 rw [hy] at hyl
 have hxb : Byt x := by rw [← hx]; exact ex_byt _ _ _
 have hyb : Byt y := by rw [← hy]; exact ex_byt _ _ _
 have hpq : Hid (hm kCai m = p) := Lib.hid hp
 have hxq : Hid (ex p kEnc 16 = x) := Lib.hid (by rw [← hp]; exact hx)
 have hyq : Hid (ex p kMac 32 = y) := Lib.hid (by rw [← hp]; exact hy)
 rw [hx, hy]
 clear hp hx hy
 go_enter Tryd.func19, Tryd.ntmps19
 go_upto_region 0 with fail
 refine wl_lit ?_
 refine runWL 1 (.pointer (some ⟨w.heap.size, 0, none⟩)) (w.alloc (.cells (va .u8 m) 24)) rfl (by rfl) (exec_box 24 (.tmp 0) rfl (.agg (va .u8 m)) rfl) ?_
 simp only [Ls]
 have lw_p1 := Nat.le_trans hB0 hW.size
 have hp1 := Blk.new w 24 (va .u8 m)
 replace hW := alB hW hB0 (.cells (va .u8 m) 24)
 generalize w.alloc (.cells (va .u8 m) 24) = w1 at *
 generalize w.heap.size = p1 at hp1 lw_p1  ⊢
 refine runWL 2 (.pointer (some ⟨w1.heap.size, 0, none⟩)) (w1.alloc (.cells (va .u8 (List.replicate 48 0)) 26)) rfl (by rfl) (exec_allocV 26 rfl _ (zv_derives_Keys _)) ?_
 simp only [Ls]
 have lp1_p2 := hp1.lt
 have lw_p2 := Nat.le_trans hB0 hW.size
 have hp2 := Blk.new w1 26 (va .u8 (List.replicate 48 0))
 have bx := bAl w1 (.cells (va .u8 (List.replicate 48 0)) 26)
 replace hp1 := blB hp1 bx
 replace hW := trB hW hB0 bx
 clear bx
 generalize w1.alloc (.cells (va .u8 (List.replicate 48 0)) 26) = w2 at *
 generalize w1.heap.size = p2 at hp2 lw_p2 lp1_p2 ⊢
 refine nilL ?_
 go_upto_region 1 with fail
 refine wl_lit ?_
 refine runWL 8 (.slice (some ⟨w2.heap.size, 0, none⟩) 7 7) (w2.alloc (.cells (va .u8 kCai) 5)) rfl (by rfl) (exec_bslice 34 7 _ rfl _ (by exact bs_kCai _)) ?_
 simp only [Ls]
 have lp1_q1 := hp1.lt
 have lp2_q1 := hp2.lt
 have lw_q1 := Nat.le_trans hB0 hW.size
 have hq1 : Blk (w2.alloc (.cells (va .u8 kCai) 5)) w2.heap.size 5 (va .u8 kCai) := Blk.new _ _ _
 have bx := bAl w2 (.cells (va .u8 kCai) 5)
 replace hp1 := blB hp1 bx
 replace hp2 := blB hp2 bx
 replace hW := trB hW hB0 bx
 clear bx
 generalize w2.alloc (.cells (va .u8 kCai) 5) = w3 at *
 generalize w2.heap.size = q1 at hq1 lw_q1 lp1_q1 lp2_q1 ⊢
 refine runWL 9 (.slice (some ⟨q1, 0, none⟩) 7 7) (w3.freeze ⟨q1, 7, none⟩ 1) rfl (by rfl) (exec_convW 34 34 (.tmp 8) rfl (.slice (some ⟨q1, 0, none⟩) 7 7) (.slice (some ⟨q1, 0, none⟩) 7 7) rfl (conv_blk (n := 7) (c := 7) hq1 rfl)) ?_
 simp only [Ls]
 replace hp1 := hp1.freeze_ ⟨q1, 7, none⟩ 1 (show q1 ≠ p1 by omega)
 replace hp2 := hp2.freeze_ ⟨q1, 7, none⟩ 1 (show q1 ≠ p2 by omega)
 replace hq1 := hq1.byB.freeze ⟨q1, 7, none⟩ 1
 replace hW := Lib.below_freeze (p := ⟨q1, 7, none⟩) hW lw_q1 1
 generalize w3.freeze ⟨q1, 7, none⟩ 1 = w4 at *
 refine runL 10 (.slice (some ⟨p1, 0, none⟩) 32 32) rfl (by rfl) (by go_simp) ?_
 simp only [Ls]
 refine callL 11 rfl (by rfl) (fun K hK => wp_callF 37 #[.slice (some ⟨q1, 0, none⟩) 7 7, .slice (some ⟨p1, 0, none⟩) 32 32] (by go_simp) (extract_to kCai m p hpq.out _ 7 7 _ _ 32 32 _ byt_kCai hmb (by decide) (by decide) (by decide) (by decide) _ (gl.out _ hW) (hq1.reads rfl) hq1.lt (hp1.readsAll (Nat.lt_succ_self _) hml) hp1.lt) ?_)
 rintro e w5 ⟨rfl, bx⟩
 replace hp1 := blB hp1 bx
 replace hp2 := blB hp2 bx
 replace hq1 := hq1.below bx hq1.lt
 replace hW := trB hW hB0 bx
 clear bx
 refine ⟨_, rfl, hK.out _ _ ?_⟩
 clear hK K
 simp only [Ls]
 refine runWL 3 (.pointer (some ⟨w5.heap.size, 0, none⟩)) (w5.alloc (.cells (va .u8 (List.replicate 32 0)) 45)) rfl (by rfl) (exec_allocV 45 rfl _ (zv_api_Digest _)) ?_
 simp only [Ls]
 have lp1_p3 := hp1.lt
 have lp2_p3 := hp2.lt
 have lq1_p3 := hq1.lt
 have lw_p3 := Nat.le_trans hB0 hW.size
 have hp3 := Blk.new w5 45 (va .u8 (List.replicate 32 0))
 have bx := bAl w5 (.cells (va .u8 (List.replicate 32 0)) 45)
 replace hp1 := blB hp1 bx
 replace hp2 := blB hp2 bx
 clear bx
 replace hq1 := hq1.alloc (.cells (va .u8 (List.replicate 32 0)) 45)
 replace hW := alB hW hB0 (.cells (va .u8 (List.replicate 32 0)) 45)
 generalize w5.alloc (.cells (va .u8 (List.replicate 32 0)) 45) = w6 at *
 generalize w5.heap.size = p3 at hp3 lw_p3 lp1_p3 lp2_p3 lq1_p3 ⊢
 refine runSL (w6.setRow p3 (va .u8 p)) rfl (by rfl) (exec_storeRow 45 (.tmp 3) (.tmp 11) rfl p3 rfl (va .u8 p) rfl 45 (va .u8 (List.replicate 32 0)) hp3 (sz_eq (sz_api_Digest _ (List.length_replicate)) (sz_api_Digest _ hpl)) (sz_api_Digest _ hpl) (va_ones .u8 _)) ?_
 replace hp1 := hp1.rowFar (show p3 ≠ p1 from (by omega)) (va .u8 p)
 replace hp2 := hp2.rowFar (show p3 ≠ p2 from (by omega)) (va .u8 p)
 replace hq1 := hq1.rowFar (show p3 ≠ q1 from (by omega)) (va .u8 p)
 replace hp3 := hp3.row (va .u8 p)
 replace hW := below_setRow hW lw_p3 (va .u8 p)
 generalize w6.setRow p3 (va .u8 p) = w7 at *
 refine nilL ?_
 go_upto_region 2 with fail
 refine wl_lit ?_
 refine runL 13 (.slice (some ⟨p3, 0, none⟩) 32 32) rfl (by rfl) (by go_simp) ?_
 simp only [Ls]
 refine runWL 14 (.slice (some ⟨w7.heap.size, 0, none⟩) 7 7) (w7.alloc (.cells (va .u8 kEnc) 5)) rfl (by rfl) (exec_bslice 34 7 _ rfl _ (by exact bs_kEnc _)) ?_
 simp only [Ls]
 have lp1_q2 := hp1.lt
 have lp2_q2 := hp2.lt
 have lq1_q2 := hq1.lt
 have lp3_q2 := hp3.lt
 have lw_q2 := Nat.le_trans hB0 hW.size
 have hq2 : Blk (w7.alloc (.cells (va .u8 kEnc) 5)) w7.heap.size 5 (va .u8 kEnc) := Blk.new _ _ _
 have bx := bAl w7 (.cells (va .u8 kEnc) 5)
 replace hp1 := blB hp1 bx
 replace hp2 := blB hp2 bx
 clear bx
 replace hq1 := hq1.alloc (.cells (va .u8 kEnc) 5)
 have bx := bAl w7 (.cells (va .u8 kEnc) 5)
 replace hp3 := blB hp3 bx
 replace hW := trB hW hB0 bx
 clear bx
 generalize w7.alloc (.cells (va .u8 kEnc) 5) = w8 at *
 generalize w7.heap.size = q2 at hq2 lw_q2 lp1_q2 lp2_q2 lq1_q2 lp3_q2 ⊢
 refine runWL 15 (.slice (some ⟨q2, 0, none⟩) 7 7) (w8.freeze ⟨q2, 7, none⟩ 1) rfl (by rfl) (exec_convW 34 34 (.tmp 14) rfl (.slice (some ⟨q2, 0, none⟩) 7 7) (.slice (some ⟨q2, 0, none⟩) 7 7) rfl (conv_blk (n := 7) (c := 7) hq2 rfl)) ?_
 simp only [Ls]
 replace hp1 := hp1.freeze_ ⟨q2, 7, none⟩ 1 (show q2 ≠ p1 by omega)
 replace hp2 := hp2.freeze_ ⟨q2, 7, none⟩ 1 (show q2 ≠ p2 by omega)
 replace hq1 := hq1.freeze ⟨q2, 7, none⟩ 1
 replace hp3 := hp3.freeze_ ⟨q2, 7, none⟩ 1 (show q2 ≠ p3 by omega)
 replace hq2 := hq2.byB.freeze ⟨q2, 7, none⟩ 1
 replace hW := Lib.below_freeze (p := ⟨q2, 7, none⟩) hW lw_q2 1
 generalize w8.freeze ⟨q2, 7, none⟩ 1 = w9 at *
 refine callL 16 rfl (by rfl) (fun K hK => wp_callF 38 #[.slice (some ⟨p3, 0, none⟩) 32 32, .slice (some ⟨q2, 0, none⟩) 7 7, .int .i64 16] (by go_simp) (dexp_to p kEnc 16 x hxq.out (by decide) _ 32 32 _ _ 7 7 _ hpb byt_kEnc (by decide) (by decide) (by decide) (by decide) _ (gl.out _ hW) (hp3.readsAll (Nat.lt_succ_self _) hpl) hp3.lt (hq2.reads rfl) hq2.lt) ?_)
 rintro e w10 ⟨AX, rfl, hAX, bx⟩
 have nAX_p2 := hAX.off_lt hp2.lt
 replace hAX := hAX.mono (Nat.le_trans hB0 hW.size)
 replace hp1 := blB hp1 bx
 replace hp2 := blB hp2 bx
 replace hq1 := hq1.below bx hq1.lt
 replace hp3 := blB hp3 bx
 replace hq2 := hq2.below bx hq2.lt
 replace hW := trB hW hB0 bx
 clear bx
 refine ⟨_, rfl, hK.out _ _ ?_⟩
 clear hK K
 refine runL 12 (.tuple #[.slice AX 16 16, .int .i64 0]) rfl (by rfl) (by go_simp) ?_
 refine runL 17 (.slice AX 16 16) rfl (by rfl) (by go_simp) ?_
 refine runL 18 (.int .i64 0) rfl (by rfl) (by go_simp) ?_
 refine runL 4 (.slice AX 16 16) rfl (by rfl) (by go_simp) ?_
 refine runL 5 (.int .i64 0) rfl (by rfl) (by go_simp) ?_
 simp only [Ls]
 refine nilL ?_
 go_upto_region 3 with fail
 refine wl_lit ?_
 refine runL 20 (.slice (some ⟨p3, 0, none⟩) 32 32) rfl (by rfl) (by go_simp) ?_
 simp only [Ls]
 refine runWL 21 (.slice (some ⟨w10.heap.size, 0, none⟩) 3 3) (w10.alloc (.cells (va .u8 kMac) 5)) rfl (by rfl) (exec_bslice 34 3 _ rfl _ (by exact bs_kMac _)) ?_
 simp only [Ls]
 have lp1_q3 := hp1.lt
 have lp2_q3 := hp2.lt
 have lq1_q3 := hq1.lt
 have lp3_q3 := hp3.lt
 have lq2_q3 := hq2.lt
 have nAX_q3 := hAX.new_off
 have lw_q3 := Nat.le_trans hB0 hW.size
 have hq3 : Blk (w10.alloc (.cells (va .u8 kMac) 5)) w10.heap.size 5 (va .u8 kMac) := Blk.new _ _ _
 have bx := bAl w10 (.cells (va .u8 kMac) 5)
 replace hp1 := blB hp1 bx
 replace hp2 := blB hp2 bx
 clear bx
 replace hq1 := hq1.alloc (.cells (va .u8 kMac) 5)
 replace hp3 := hp3.alloc (.cells (va .u8 kMac) 5)
 replace hq2 := hq2.alloc (.cells (va .u8 kMac) 5)
 replace hAX := hAX.alloc (.cells (va .u8 kMac) 5)
 replace hW := alB hW hB0 (.cells (va .u8 kMac) 5)
 generalize w10.alloc (.cells (va .u8 kMac) 5) = w11 at *
 generalize w10.heap.size = q3 at hq3 lw_q3 lp1_q3 lp2_q3 lq1_q3 lp3_q3 lq2_q3 nAX_q3 ⊢
 refine runWL 22 (.slice (some ⟨q3, 0, none⟩) 3 3) (w11.freeze ⟨q3, 3, none⟩ 1) rfl (by rfl) (exec_convW 34 34 (.tmp 21) rfl (.slice (some ⟨q3, 0, none⟩) 3 3) (.slice (some ⟨q3, 0, none⟩) 3 3) rfl (conv_blk (n := 3) (c := 3) hq3 rfl)) ?_
 simp only [Ls]
 replace hp1 := hp1.freeze_ ⟨q3, 3, none⟩ 1 (show q3 ≠ p1 by omega)
 replace hp2 := hp2.freeze_ ⟨q3, 3, none⟩ 1 (show q3 ≠ p2 by omega)
 replace hq1 := hq1.freeze ⟨q3, 3, none⟩ 1
 replace hp3 := hp3.freeze_ ⟨q3, 3, none⟩ 1 (show q3 ≠ p3 by omega)
 replace hq2 := hq2.freeze ⟨q3, 3, none⟩ 1
 replace hAX := hAX.freeze_ (k := 3) (m := 1) nAX_q3
 replace hq3 := hq3.byB.freeze ⟨q3, 3, none⟩ 1
 replace hW := Lib.below_freeze (p := ⟨q3, 3, none⟩) hW lw_q3 1
 generalize w11.freeze ⟨q3, 3, none⟩ 1 = w12 at *
 refine callL 23 rfl (by rfl) (fun K hK => wp_callF 38 #[.slice (some ⟨p3, 0, none⟩) 32 32, .slice (some ⟨q3, 0, none⟩) 3 3, .int .i64 32] (by go_simp) (dexp_to p kMac 32 y hyq.out (by decide) _ 32 32 _ _ 3 3 _ hpb byt_kMac (by decide) (by decide) (by decide) (by decide) _ (gl.out _ hW) (hp3.readsAll (Nat.lt_succ_self _) hpl) hp3.lt (hq3.reads rfl) hq3.lt) ?_)
 rintro e w13 ⟨AY, rfl, hAY, bx⟩
 have nAY_p2 := hAY.off_lt hp2.lt
 replace hAY := hAY.mono (Nat.le_trans hB0 hW.size)
 replace hp1 := blB hp1 bx
 replace hp2 := blB hp2 bx
 replace hq1 := hq1.below bx hq1.lt
 replace hp3 := blB hp3 bx
 replace hq2 := hq2.below bx hq2.lt
 replace hAX := hAX.below bx
 replace hq3 := hq3.below bx hq3.lt
 replace hW := trB hW hB0 bx
 clear bx
 refine ⟨_, rfl, hK.out _ _ ?_⟩
 clear hK K
 refine runL 19 (.tuple #[.slice AY 32 32, .int .i64 0]) rfl (by rfl) (by go_simp) ?_
 refine runL 24 (.slice AY 32 32) rfl (by rfl) (by go_simp) ?_
 refine runL 25 (.int .i64 0) rfl (by rfl) (by go_simp) ?_
 refine runL 6 (.slice AY 32 32) rfl (by rfl) (by go_simp) ?_
 refine runL 7 (.int .i64 0) rfl (by rfl) (by go_simp) ?_
 simp only [Ls]
 refine nilL ?_
 go_upto_region 4 with fail
 refine wl_lit ?_
 refine runL 26 (.pointer (some ⟨p2, 0, none⟩)) rfl (by rfl) (by go_simp) ?_
 refine runL 27 (.slice (some ⟨p2, 0, none⟩) 16 16) rfl (by rfl) (by go_simp) ?_
 refine runL 28 (.slice AX 16 16) rfl (by rfl) (by go_simp) ?_
 simp only [Ls]
 refine runWL 29 (.int .i64 16) (w13.setRow p2 (va .u8 (x ++ List.replicate 32 0))) rfl (by rfl) (exec_copy _ _ _ _ rfl _ _ _ rfl rfl (copy_row _ _ _ Tryd.underlying34 p2 0 16 16 26 (List.replicate 48 0) hp2 AX 16 16 _ x hAX.reads (by simp) (by simp) (x ++ List.replicate 32 0) (by rw [List.take_zero]; simp))) ?_
 simp only [Ls]
 replace hp1 := hp1.rowFar (show p2 ≠ p1 from (by omega)) (va .u8 (x ++ List.replicate 32 0))
 replace hq1 := hq1.rowFar (show p2 ≠ q1 from (by omega)) (va .u8 (x ++ List.replicate 32 0))
 replace hp3 := hp3.rowFar (show p2 ≠ p3 from (by omega)) (va .u8 (x ++ List.replicate 32 0))
 replace hq2 := hq2.rowFar (show p2 ≠ q2 from (by omega)) (va .u8 (x ++ List.replicate 32 0))
 replace hAX := hAX.rowFar nAX_p2 (va .u8 (x ++ List.replicate 32 0))
 replace hq3 := hq3.rowFar (show p2 ≠ q3 from (by omega)) (va .u8 (x ++ List.replicate 32 0))
 replace hAY := hAY.rowFar nAY_p2 (va .u8 (x ++ List.replicate 32 0))
 replace hp2 := hp2.row (va .u8 (x ++ List.replicate 32 0))
 replace hW := below_setRow hW lw_p2 (va .u8 (x ++ List.replicate 32 0))
 generalize w13.setRow p2 (va .u8 (x ++ List.replicate 32 0)) = w14 at *
 refine nilL ?_
 go_upto_region 5 with fail
 refine wl_lit ?_
 refine runL 30 (.pointer (some ⟨p2, 16, none⟩)) rfl (by rfl) (by go_simp) ?_
 refine runL 31 (.slice (some ⟨p2, 16, none⟩) 32 32) rfl (by rfl) (by go_simp) ?_
 refine runL 32 (.slice AY 32 32) rfl (by rfl) (by go_simp) ?_
 simp only [Ls]
 refine runWL 33 (.int .i64 32) (w14.setRow p2 (va .u8 (x ++ y))) rfl (by rfl) (exec_copy _ _ _ _ rfl _ _ _ rfl rfl (copy_row _ _ _ Tryd.underlying34 p2 16 32 32 26 (x ++ List.replicate 32 0) hp2 AY 32 32 _ y hAY.reads (by simp) (by simp; omega) (x ++ y) (by simp [hxl]))) ?_
 simp only [Ls]
 replace hp1 := hp1.rowFar (show p2 ≠ p1 from (by omega)) (va .u8 (x ++ y))
 replace hq1 := hq1.rowFar (show p2 ≠ q1 from (by omega)) (va .u8 (x ++ y))
 replace hp3 := hp3.rowFar (show p2 ≠ p3 from (by omega)) (va .u8 (x ++ y))
 replace hq2 := hq2.rowFar (show p2 ≠ q2 from (by omega)) (va .u8 (x ++ y))
 replace hAX := hAX.rowFar nAX_p2 (va .u8 (x ++ y))
 replace hq3 := hq3.rowFar (show p2 ≠ q3 from (by omega)) (va .u8 (x ++ y))
 replace hAY := hAY.rowFar nAY_p2 (va .u8 (x ++ y))
 replace hp2 := hp2.row (va .u8 (x ++ y))
 replace hW := below_setRow hW lw_p2 (va .u8 (x ++ y))
 generalize w14.setRow p2 (va .u8 (x ++ y)) = w15 at *
 refine nilL ?_
 go_upto_region 6 with fail
 refine wl_lit ?_
 refine runL 34 (.agg (va .u8 (x ++ y))) rfl (by rfl) (exec_row 26 (.tmp 2) rfl p2 rfl 26 (va .u8 (x ++ y)) _ hp2 (by exact Tryd.underlying26) rfl (sz_derives_Keys _ (by simp [hxl, hyl]))) ?_
 simp only [Ls]
 refine runSL (w15.setRow p2 (va .u8 (x ++ y))) rfl (by rfl) (exec_storeRow 26 (.tmp 2) (.tmp 34) rfl p2 rfl (va .u8 (x ++ y)) rfl 26 (va .u8 (x ++ y)) hp2 (sz_eq (sz_derives_Keys _ (by simp [hxl, hyl])) (sz_derives_Keys _ (by simp [hxl, hyl]))) (sz_derives_Keys _ (by simp [hxl, hyl])) (va_ones .u8 _)) ?_
 replace hp1 := hp1.rowFar (show p2 ≠ p1 from (by omega)) (va .u8 (x ++ y))
 replace hq1 := hq1.rowFar (show p2 ≠ q1 from (by omega)) (va .u8 (x ++ y))
 replace hp3 := hp3.rowFar (show p2 ≠ p3 from (by omega)) (va .u8 (x ++ y))
 replace hq2 := hq2.rowFar (show p2 ≠ q2 from (by omega)) (va .u8 (x ++ y))
 replace hAX := hAX.rowFar nAX_p2 (va .u8 (x ++ y))
 replace hq3 := hq3.rowFar (show p2 ≠ q3 from (by omega)) (va .u8 (x ++ y))
 replace hAY := hAY.rowFar nAY_p2 (va .u8 (x ++ y))
 replace hp2 := hp2.row (va .u8 (x ++ y))
 replace hW := below_setRow hW lw_p2 (va .u8 (x ++ y))
 generalize w15.setRow p2 (va .u8 (x ++ y)) = w16 at *
 refine nilL ?_
 go_wp2_with fail
 exact bodyPost_ret (results_cell_row rfl _ _ p2 26 (va .u8 (x ++ y)) (0, 0) _ rfl hp2 (by exact Tryd.underlying26) rfl (sz_derives_Keys _ (by simp [hxl, hyl]))) rfl ⟨rfl, hW⟩

def cpk (l : List Nat) (n i : Nat) : List Nat := (List.range n).map fun j => if j < i then l.getD j 0 else 0
theorem cpk_len (l : List Nat) (n i : Nat) : (cpk l n i).length = n := by simp [cpk]
theorem cpk_zero (l : List Nat) (n : Nat) : cpk l n 0 = List.replicate n 0 := by
 apply ext_getD (by simp [cpk])
 intro j hj
 rw [cpk_len] at hj
 rw [cpk, getD_map_range _ _ _ hj, if_neg (by omega), List.getD_eq_getElem?_getD, List.getElem?_replicate, if_pos hj]; rfl
theorem cpk_all (l : List Nat) (n : Nat) (h : l.length = n) : cpk l n n = l := by
 apply ext_getD (by rw [cpk_len, h])
 intro j hj
 rw [cpk_len] at hj
 rw [cpk, getD_map_range _ _ _ hj, if_pos hj]
theorem cpk_step (l : List Nat) (n i : Nat) (hi : i < n) : (cpk l n i).set i (l.getD i 0) = cpk l n (i + 1) := by
  apply ext_getD (by rw [List.length_set, cpk_len, cpk_len])
  intro j hj
  rw [List.length_set, cpk_len] at hj
  by_cases e : i = j
  · subst e
    rw [List.getD_eq_getElem?_getD, List.getElem?_set_self (by rw [cpk_len]; exact hi), cpk, getD_map_range _ _ _ hj, if_pos (by omega)]; rfl
  · rw [List.getD_eq_getElem?_getD, List.getElem?_set_ne e, ← List.getD_eq_getElem?_getD, cpk, cpk, getD_map_range _ _ _ hj, getD_map_range _ _ _ hj]
    by_cases h : j < i
    · rw [if_pos h, if_pos (by omega)]
    · rw [if_neg h, if_neg (by omega)]
set_option maxRecDepth 8000 in
set_option maxHeartbeats 4000000 in
theorem rkeys_any (m : List Nat) (hml : m.length = 32) (hmb : Byt m) (w : World) :
  Calls Tryd.prog 18 #[.agg (va .u8 m)] w fun e w' => e = .returned (.tuple #[.agg (va .u8 (ve m)), .agg (va .u8 (vm m))]) ∧ Below w.heap.size w w' := by
 obtain ⟨B0, hB0e, hW, hB0⟩ := stB w
 rw [hB0e]
 have hB0q := Lib.hid hB0e
 clear hB0e
 obtain ⟨p, hp⟩ : ∃ p, vk m = p := ⟨_, rfl⟩
 obtain ⟨x, hx⟩ : ∃ p, ve m = p := ⟨_, rfl⟩
 obtain ⟨y, hy⟩ : ∃ p, vm m = p := ⟨_, rfl⟩
 have hxl := ve_len m
 have hyl := vm_len m
 have hpl : p.length = 32 := by rw [← hp]; exact hm_len _ _
 have hpb : Byt p := by rw [← hp]; exact hm_byt _ _
 rw [hx] at hxl
 rw [hy] at hyl
 have hxb : Byt x := by rw [← hx]; exact ex_byt _ _ _
 have hyb : Byt y := by rw [← hy]; exact ex_byt _ _ _
 have hpq : Hid (hm kCai m = p) := Lib.hid hp
 have hxq : Hid (ex p kEnc 16 = x) := Lib.hid (by rw [← hp]; exact hx)
 have hyq : Hid (ex p kMac 32 = y) := Lib.hid (by rw [← hp]; exact hy)
 rw [hx, hy]
 clear hp hx hy
 go_enter Tryd.func18, Tryd.ntmps18
 go_upto_region 0 with fail
 refine wl_lit ?_
 refine runWL 1 (.pointer (some ⟨w.heap.size, 0, none⟩)) (w.alloc (.cells (va .u8 m) 24)) rfl (by rfl) (exec_box 24 (.tmp 0) rfl (.agg (va .u8 m)) rfl) ?_
 simp only [Ls]
 have lw_p1 := Nat.le_trans hB0 hW.size
 have hp1 := Blk.new w 24 (va .u8 m)
 replace hW := alB hW hB0 (.cells (va .u8 m) 24)
 generalize w.alloc (.cells (va .u8 m) 24) = w1 at *
 generalize w.heap.size = p1 at hp1 lw_p1  ⊢
 refine runWL 2 (.pointer (some ⟨w1.heap.size, 0, none⟩)) (w1.alloc (.cells (va .u8 (List.replicate 16 0)) 22)) rfl (by rfl) (exec_allocV 22 rfl _ (zvG16 _)) ?_
 simp only [Ls]
 have lp1_p2 := hp1.lt
 have lw_p2 := Nat.le_trans hB0 hW.size
 have hp2 := Blk.new w1 22 (va .u8 (List.replicate 16 0))
 have bx := bAl w1 (.cells (va .u8 (List.replicate 16 0)) 22)
 replace hp1 := blB hp1 bx
 replace hW := trB hW hB0 bx
 clear bx
 generalize w1.alloc (.cells (va .u8 (List.replicate 16 0)) 22) = w2 at *
 generalize w1.heap.size = p2 at hp2 lw_p2 lp1_p2 ⊢
 refine runWL 3 (.pointer (some ⟨w2.heap.size, 0, none⟩)) (w2.alloc (.cells (va .u8 (List.replicate 32 0)) 24)) rfl (by rfl) (exec_allocV 24 rfl _ (zv_api_Key _)) ?_
 simp only [Ls]
 have lp1_p3 := hp1.lt
 have lp2_p3 := hp2.lt
 have lw_p3 := Nat.le_trans hB0 hW.size
 have hp3 := Blk.new w2 24 (va .u8 (List.replicate 32 0))
 have bx := bAl w2 (.cells (va .u8 (List.replicate 32 0)) 24)
 replace hp1 := blB hp1 bx
 replace hp2 := blB hp2 bx
 replace hW := trB hW hB0 bx
 clear bx
 generalize w2.alloc (.cells (va .u8 (List.replicate 32 0)) 24) = w3 at *
 generalize w2.heap.size = p3 at hp3 lw_p3 lp1_p3 lp2_p3 ⊢
 refine nilL ?_
 go_upto_region 1 with fail
 refine wl_lit ?_
 refine runWL 11 (.slice (some ⟨w3.heap.size, 0, none⟩) 7 7) (w3.alloc (.cells (va .u8 kCai) 5)) rfl (by rfl) (exec_bslice 34 7 _ rfl _ (by exact bs_kCai _)) ?_
 simp only [Ls]
 have lp1_q1 := hp1.lt
 have lp2_q1 := hp2.lt
 have lp3_q1 := hp3.lt
 have lw_q1 := Nat.le_trans hB0 hW.size
 have hq1 : Blk (w3.alloc (.cells (va .u8 kCai) 5)) w3.heap.size 5 (va .u8 kCai) := Blk.new _ _ _
 have bx := bAl w3 (.cells (va .u8 kCai) 5)
 replace hp1 := blB hp1 bx
 replace hp2 := blB hp2 bx
 replace hp3 := blB hp3 bx
 replace hW := trB hW hB0 bx
 clear bx
 generalize w3.alloc (.cells (va .u8 kCai) 5) = w4 at *
 generalize w3.heap.size = q1 at hq1 lw_q1 lp1_q1 lp2_q1 lp3_q1 ⊢
 refine runWL 12 (.slice (some ⟨q1, 0, none⟩) 7 7) (w4.freeze ⟨q1, 7, none⟩ 1) rfl (by rfl) (exec_convW 34 34 (.tmp 11) rfl (.slice (some ⟨q1, 0, none⟩) 7 7) (.slice (some ⟨q1, 0, none⟩) 7 7) rfl (conv_blk (n := 7) (c := 7) hq1 rfl)) ?_
 simp only [Ls]
 replace hp1 := hp1.freeze_ ⟨q1, 7, none⟩ 1 (show q1 ≠ p1 by omega)
 replace hp2 := hp2.freeze_ ⟨q1, 7, none⟩ 1 (show q1 ≠ p2 by omega)
 replace hp3 := hp3.freeze_ ⟨q1, 7, none⟩ 1 (show q1 ≠ p3 by omega)
 replace hq1 := hq1.byB.freeze ⟨q1, 7, none⟩ 1
 replace hW := Lib.below_freeze (p := ⟨q1, 7, none⟩) hW lw_q1 1
 generalize w4.freeze ⟨q1, 7, none⟩ 1 = w5 at *
 refine runL 13 (.slice (some ⟨p1, 0, none⟩) 32 32) rfl (by rfl) (by go_simp) ?_
 simp only [Ls]
 refine callL 14 rfl (by rfl) (fun K hK => wp_callF 35 #[.slice (some ⟨q1, 0, none⟩) 7 7, .slice (some ⟨p1, 0, none⟩) 32 32] (by go_simp) (rhm_any kCai m _ 7 7 _ _ 32 32 _ byt_kCai (by decide) hmb (by decide) _ (hq1.reads rfl) hq1.lt (hp1.readsAll (Nat.lt_succ_self _) hml) hp1.lt) ?_)
 rintro e w6 ⟨rfl, bx⟩
 rw [hpq.out]
 replace hp1 := blB hp1 bx
 replace hp2 := blB hp2 bx
 replace hp3 := blB hp3 bx
 replace hq1 := hq1.below bx hq1.lt
 replace hW := trB hW hB0 bx
 clear bx
 refine ⟨_, rfl, hK.out _ _ ?_⟩
 clear hK K
 simp only [Ls]
 refine runWL 4 (.pointer (some ⟨w6.heap.size, 0, none⟩)) (w6.alloc (.cells (va .u8 (List.replicate 32 0)) 45)) rfl (by rfl) (exec_allocV 45 rfl _ (zv_api_Digest _)) ?_
 simp only [Ls]
 have lp1_p4 := hp1.lt
 have lp2_p4 := hp2.lt
 have lp3_p4 := hp3.lt
 have lq1_p4 := hq1.lt
 have lw_p4 := Nat.le_trans hB0 hW.size
 have hp4 := Blk.new w6 45 (va .u8 (List.replicate 32 0))
 have bx := bAl w6 (.cells (va .u8 (List.replicate 32 0)) 45)
 replace hp1 := blB hp1 bx
 replace hp2 := blB hp2 bx
 replace hp3 := blB hp3 bx
 clear bx
 replace hq1 := hq1.alloc (.cells (va .u8 (List.replicate 32 0)) 45)
 replace hW := alB hW hB0 (.cells (va .u8 (List.replicate 32 0)) 45)
 generalize w6.alloc (.cells (va .u8 (List.replicate 32 0)) 45) = w7 at *
 generalize w6.heap.size = p4 at hp4 lw_p4 lp1_p4 lp2_p4 lp3_p4 lq1_p4 ⊢
 refine runSL (w7.setRow p4 (va .u8 p)) rfl (by rfl) (exec_storeRow 45 (.tmp 4) (.tmp 14) rfl p4 rfl (va .u8 p) rfl 45 (va .u8 (List.replicate 32 0)) hp4 (sz_eq (sz_api_Digest _ (List.length_replicate)) (sz_api_Digest _ hpl)) (sz_api_Digest _ hpl) (va_ones .u8 _)) ?_
 replace hp1 := hp1.rowFar (show p4 ≠ p1 from (by omega)) (va .u8 p)
 replace hp2 := hp2.rowFar (show p4 ≠ p2 from (by omega)) (va .u8 p)
 replace hp3 := hp3.rowFar (show p4 ≠ p3 from (by omega)) (va .u8 p)
 replace hq1 := hq1.rowFar (show p4 ≠ q1 from (by omega)) (va .u8 p)
 replace hp4 := hp4.row (va .u8 p)
 replace hW := below_setRow hW lw_p4 (va .u8 p)
 generalize w7.setRow p4 (va .u8 p) = w8 at *
 refine nilL ?_
 go_upto_region 2 with fail
 refine wl_lit ?_
 refine runWL 5 (.pointer (some ⟨w8.heap.size, 0, none⟩)) (w8.alloc (.cells (va .u8 (List.replicate 16 0)) 22)) rfl (by rfl) (exec_allocV 22 rfl _ (zvG16 _)) ?_
 simp only [Ls]
 have lp1_p5 := hp1.lt
 have lp2_p5 := hp2.lt
 have lp3_p5 := hp3.lt
 have lq1_p5 := hq1.lt
 have lp4_p5 := hp4.lt
 have lw_p5 := Nat.le_trans hB0 hW.size
 have hp5 := Blk.new w8 22 (va .u8 (List.replicate 16 0))
 have bx := bAl w8 (.cells (va .u8 (List.replicate 16 0)) 22)
 replace hp1 := blB hp1 bx
 replace hp2 := blB hp2 bx
 replace hp3 := blB hp3 bx
 clear bx
 replace hq1 := hq1.alloc (.cells (va .u8 (List.replicate 16 0)) 22)
 have bx := bAl w8 (.cells (va .u8 (List.replicate 16 0)) 22)
 replace hp4 := blB hp4 bx
 replace hW := trB hW hB0 bx
 clear bx
 generalize w8.alloc (.cells (va .u8 (List.replicate 16 0)) 22) = w9 at *
 generalize w8.heap.size = p5 at hp5 lw_p5 lp1_p5 lp2_p5 lp3_p5 lq1_p5 lp4_p5 ⊢
 refine nilL ?_
 go_upto_region 3 with fail
 refine wl_lit ?_
 refine runWL 6 (.pointer (some ⟨w9.heap.size, 0, none⟩)) (w9.alloc (.cells (va .u8 (List.replicate 32 0)) 24)) rfl (by rfl) (exec_allocV 24 rfl _ (zv_api_Key _)) ?_
 simp only [Ls]
 have lp1_p6 := hp1.lt
 have lp2_p6 := hp2.lt
 have lp3_p6 := hp3.lt
 have lq1_p6 := hq1.lt
 have lp4_p6 := hp4.lt
 have lp5_p6 := hp5.lt
 have lw_p6 := Nat.le_trans hB0 hW.size
 have hp6 := Blk.new w9 24 (va .u8 (List.replicate 32 0))
 have bx := bAl w9 (.cells (va .u8 (List.replicate 32 0)) 24)
 replace hp1 := blB hp1 bx
 replace hp2 := blB hp2 bx
 replace hp3 := blB hp3 bx
 clear bx
 replace hq1 := hq1.alloc (.cells (va .u8 (List.replicate 32 0)) 24)
 have bx := bAl w9 (.cells (va .u8 (List.replicate 32 0)) 24)
 replace hp4 := blB hp4 bx
 replace hp5 := blB hp5 bx
 replace hW := trB hW hB0 bx
 clear bx
 generalize w9.alloc (.cells (va .u8 (List.replicate 32 0)) 24) = w10 at *
 generalize w9.heap.size = p6 at hp6 lw_p6 lp1_p6 lp2_p6 lp3_p6 lq1_p6 lp4_p6 lp5_p6 ⊢
 refine nilL ?_
 go_upto_region 4 with fail
 refine wl_lit ?_
 refine runL 15 (.slice (some ⟨p4, 0, none⟩) 32 32) rfl (by rfl) (by go_simp) ?_
 simp only [Ls]
 refine runWL 16 (.slice (some ⟨w10.heap.size, 0, none⟩) 7 7) (w10.alloc (.cells (va .u8 kEnc) 5)) rfl (by rfl) (exec_bslice 34 7 _ rfl _ (by exact bs_kEnc _)) ?_
 simp only [Ls]
 have lp1_q2 := hp1.lt
 have lp2_q2 := hp2.lt
 have lp3_q2 := hp3.lt
 have lq1_q2 := hq1.lt
 have lp4_q2 := hp4.lt
 have lp5_q2 := hp5.lt
 have lp6_q2 := hp6.lt
 have lw_q2 := Nat.le_trans hB0 hW.size
 have hq2 : Blk (w10.alloc (.cells (va .u8 kEnc) 5)) w10.heap.size 5 (va .u8 kEnc) := Blk.new _ _ _
 have bx := bAl w10 (.cells (va .u8 kEnc) 5)
 replace hp1 := blB hp1 bx
 replace hp2 := blB hp2 bx
 replace hp3 := blB hp3 bx
 clear bx
 replace hq1 := hq1.alloc (.cells (va .u8 kEnc) 5)
 have bx := bAl w10 (.cells (va .u8 kEnc) 5)
 replace hp4 := blB hp4 bx
 replace hp5 := blB hp5 bx
 replace hp6 := blB hp6 bx
 replace hW := trB hW hB0 bx
 clear bx
 generalize w10.alloc (.cells (va .u8 kEnc) 5) = w11 at *
 generalize w10.heap.size = q2 at hq2 lw_q2 lp1_q2 lp2_q2 lp3_q2 lq1_q2 lp4_q2 lp5_q2 lp6_q2 ⊢
 refine runWL 17 (.slice (some ⟨q2, 0, none⟩) 7 7) (w11.freeze ⟨q2, 7, none⟩ 1) rfl (by rfl) (exec_convW 34 34 (.tmp 16) rfl (.slice (some ⟨q2, 0, none⟩) 7 7) (.slice (some ⟨q2, 0, none⟩) 7 7) rfl (conv_blk (n := 7) (c := 7) hq2 rfl)) ?_
 simp only [Ls]
 replace hp1 := hp1.freeze_ ⟨q2, 7, none⟩ 1 (show q2 ≠ p1 by omega)
 replace hp2 := hp2.freeze_ ⟨q2, 7, none⟩ 1 (show q2 ≠ p2 by omega)
 replace hp3 := hp3.freeze_ ⟨q2, 7, none⟩ 1 (show q2 ≠ p3 by omega)
 replace hq1 := hq1.freeze ⟨q2, 7, none⟩ 1
 replace hp4 := hp4.freeze_ ⟨q2, 7, none⟩ 1 (show q2 ≠ p4 by omega)
 replace hp5 := hp5.freeze_ ⟨q2, 7, none⟩ 1 (show q2 ≠ p5 by omega)
 replace hp6 := hp6.freeze_ ⟨q2, 7, none⟩ 1 (show q2 ≠ p6 by omega)
 replace hq2 := hq2.byB.freeze ⟨q2, 7, none⟩ 1
 replace hW := Lib.below_freeze (p := ⟨q2, 7, none⟩) hW lw_q2 1
 generalize w11.freeze ⟨q2, 7, none⟩ 1 = w12 at *
 refine callL 18 rfl (by rfl) (fun K hK => wp_callF 36 #[.slice (some ⟨p4, 0, none⟩) 32 32, .slice (some ⟨q2, 0, none⟩) 7 7, .int .i64 16] (by go_simp) (rexp_any p kEnc 16 (by decide) _ 32 32 _ _ 7 7 _ hpb byt_kEnc (by decide) (by decide) (by decide) (by decide) _ (hp4.readsAll (Nat.lt_succ_self _) hpl) hp4.lt (hq2.reads rfl) hq2.lt) ?_)
 rintro e w13 ⟨AX, cAX, rfl, hAX, bx⟩
 have nAX_p5 := hAX.off_lt hp5.lt
 have nAX_p6 := hAX.off_lt hp6.lt
 have nAX_p2 := hAX.off_lt hp2.lt
 have nAX_p3 := hAX.off_lt hp3.lt
 replace hAX := hAX.mono (Nat.le_trans hB0 hW.size)
 replace hp1 := blB hp1 bx
 replace hp2 := blB hp2 bx
 replace hp3 := blB hp3 bx
 replace hq1 := hq1.below bx hq1.lt
 replace hp4 := blB hp4 bx
 replace hp5 := blB hp5 bx
 replace hp6 := blB hp6 bx
 replace hq2 := hq2.below bx hq2.lt
 replace hW := trB hW hB0 bx
 clear bx
 rw [hxq.out] at hAX
 refine ⟨_, rfl, hK.out _ _ ?_⟩
 clear hK K
 refine runL 7 (.slice AX 16 cAX) rfl (by rfl) (by go_simp) ?_
 simp only [Ls]
 refine nilL ?_
 go_upto_region 5 with fail
 refine wl_lit ?_
 refine runL 19 (.slice (some ⟨p4, 0, none⟩) 32 32) rfl (by rfl) (by go_simp) ?_
 simp only [Ls]
 refine runWL 20 (.slice (some ⟨w13.heap.size, 0, none⟩) 3 3) (w13.alloc (.cells (va .u8 kMac) 5)) rfl (by rfl) (exec_bslice 34 3 _ rfl _ (by exact bs_kMac _)) ?_
 simp only [Ls]
 have lp1_q3 := hp1.lt
 have lp2_q3 := hp2.lt
 have lp3_q3 := hp3.lt
 have lq1_q3 := hq1.lt
 have lp4_q3 := hp4.lt
 have lp5_q3 := hp5.lt
 have lp6_q3 := hp6.lt
 have lq2_q3 := hq2.lt
 have nAX_q3 := hAX.new_off
 have lw_q3 := Nat.le_trans hB0 hW.size
 have hq3 : Blk (w13.alloc (.cells (va .u8 kMac) 5)) w13.heap.size 5 (va .u8 kMac) := Blk.new _ _ _
 have bx := bAl w13 (.cells (va .u8 kMac) 5)
 replace hp1 := blB hp1 bx
 replace hp2 := blB hp2 bx
 replace hp3 := blB hp3 bx
 clear bx
 replace hq1 := hq1.alloc (.cells (va .u8 kMac) 5)
 have bx := bAl w13 (.cells (va .u8 kMac) 5)
 replace hp4 := blB hp4 bx
 replace hp5 := blB hp5 bx
 replace hp6 := blB hp6 bx
 clear bx
 replace hq2 := hq2.alloc (.cells (va .u8 kMac) 5)
 replace hAX := hAX.alloc (.cells (va .u8 kMac) 5)
 replace hW := alB hW hB0 (.cells (va .u8 kMac) 5)
 generalize w13.alloc (.cells (va .u8 kMac) 5) = w14 at *
 generalize w13.heap.size = q3 at hq3 lw_q3 lp1_q3 lp2_q3 lp3_q3 lq1_q3 lp4_q3 lp5_q3 lp6_q3 lq2_q3 nAX_q3 ⊢
 refine runWL 21 (.slice (some ⟨q3, 0, none⟩) 3 3) (w14.freeze ⟨q3, 3, none⟩ 1) rfl (by rfl) (exec_convW 34 34 (.tmp 20) rfl (.slice (some ⟨q3, 0, none⟩) 3 3) (.slice (some ⟨q3, 0, none⟩) 3 3) rfl (conv_blk (n := 3) (c := 3) hq3 rfl)) ?_
 simp only [Ls]
 replace hp1 := hp1.freeze_ ⟨q3, 3, none⟩ 1 (show q3 ≠ p1 by omega)
 replace hp2 := hp2.freeze_ ⟨q3, 3, none⟩ 1 (show q3 ≠ p2 by omega)
 replace hp3 := hp3.freeze_ ⟨q3, 3, none⟩ 1 (show q3 ≠ p3 by omega)
 replace hq1 := hq1.freeze ⟨q3, 3, none⟩ 1
 replace hp4 := hp4.freeze_ ⟨q3, 3, none⟩ 1 (show q3 ≠ p4 by omega)
 replace hp5 := hp5.freeze_ ⟨q3, 3, none⟩ 1 (show q3 ≠ p5 by omega)
 replace hp6 := hp6.freeze_ ⟨q3, 3, none⟩ 1 (show q3 ≠ p6 by omega)
 replace hq2 := hq2.freeze ⟨q3, 3, none⟩ 1
 replace hAX := hAX.freeze_ (k := 3) (m := 1) nAX_q3
 replace hq3 := hq3.byB.freeze ⟨q3, 3, none⟩ 1
 replace hW := Lib.below_freeze (p := ⟨q3, 3, none⟩) hW lw_q3 1
 generalize w14.freeze ⟨q3, 3, none⟩ 1 = w15 at *
 refine callL 22 rfl (by rfl) (fun K hK => wp_callF 36 #[.slice (some ⟨p4, 0, none⟩) 32 32, .slice (some ⟨q3, 0, none⟩) 3 3, .int .i64 32] (by go_simp) (rexp_any p kMac 32 (by decide) _ 32 32 _ _ 3 3 _ hpb byt_kMac (by decide) (by decide) (by decide) (by decide) _ (hp4.readsAll (Nat.lt_succ_self _) hpl) hp4.lt (hq3.reads rfl) hq3.lt) ?_)
 rintro e w16 ⟨AY, cAY, rfl, hAY, bx⟩
 have nAY_p5 := hAY.off_lt hp5.lt
 have nAY_p6 := hAY.off_lt hp6.lt
 have nAY_p2 := hAY.off_lt hp2.lt
 have nAY_p3 := hAY.off_lt hp3.lt
 replace hAY := hAY.mono (Nat.le_trans hB0 hW.size)
 replace hp1 := blB hp1 bx
 replace hp2 := blB hp2 bx
 replace hp3 := blB hp3 bx
 replace hq1 := hq1.below bx hq1.lt
 replace hp4 := blB hp4 bx
 replace hp5 := blB hp5 bx
 replace hp6 := blB hp6 bx
 replace hq2 := hq2.below bx hq2.lt
 replace hAX := hAX.below bx
 replace hq3 := hq3.below bx hq3.lt
 replace hW := trB hW hB0 bx
 clear bx
 rw [hyq.out] at hAY
 refine ⟨_, rfl, hK.out _ _ ?_⟩
 clear hK K
 refine runL 8 (.slice AY 32 cAY) rfl (by rfl) (by go_simp) ?_
 simp only [Ls]
 refine nilL ?_
 clear hp1
 clear hq1
 clear hp4
 clear hq2
 clear hq3
 obtain ⟨gx, rfl, hgxB, hgxl⟩ := (hAX.form).resolve_left (fun h => by have := h.2.1; omega)
 obtain ⟨gy, rfl, hgyB, hgyl⟩ := (hAY.form).resolve_left (fun h => by have := h.2.1; omega)
 have hgx := hAX.byB
 have hgy := hAY.byB
 have lgx_p5 : gx ≠ p5 := fun e => nAX_p5 _ rfl e
 have lgx_p6 : gx ≠ p6 := fun e => nAX_p6 _ rfl e
 have lgx_p2 : gx ≠ p2 := fun e => nAX_p2 _ rfl e
 have lgx_p3 : gx ≠ p3 := fun e => nAX_p3 _ rfl e
 have lgy_p5 : gy ≠ p5 := fun e => nAY_p5 _ rfl e
 have lgy_p6 : gy ≠ p6 := fun e => nAY_p6 _ rfl e
 have lgy_p2 : gy ≠ p2 := fun e => nAY_p2 _ rfl e
 have lgy_p3 : gy ≠ p3 := fun e => nAY_p3 _ rfl e
 clear hAX hAY
 go_upto_region 6 with fail
 refine wl_lit ?_
 refine runL 9 (.int .i64 0) rfl (by rfl) (by go_simp) ?_
 simp only [Ls]
 refine nilL ?_
 rw [show List.replicate 16 0 = cpk x 16 0 from (cpk_zero x 16).symm] at hp5
 rw [show List.replicate 32 0 = cpk y 32 0 from (cpk_zero y 32).symm] at hp6
 go_wp2
 go_loopw [9] (fun s wr => ∃ i : Nat, i ≤ 16 ∧ s = .int .i64 (i : Int) ∧ Blk wr p2 22 (va .u8 (List.replicate 16 0)) ∧ Blk wr p3 24 (va .u8 (List.replicate 32 0)) ∧ Blk wr p5 22 (va .u8 (cpk x 16 i)) ∧ Blk wr p6 24 (va .u8 (cpk y 32 0)) ∧ ByB wr gx x ∧ ByB wr gy y ∧ Below B0 w wr) (fun s _ => 16 - (intOf s).toNat)
 case atStart => exact ⟨0, by omega, rfl, hp2, hp3, hp5, hp6, hgx, hgy, hW⟩
 case round =>
  clear hp2 hp3 hp5 hp6 hgx hgy hW
  obtain ⟨i, hi, rfl, hp2, hp3, hp5, hp6, hgx, hgy, hW⟩ := hrel
  by_cases hlt : i < 16
  ·
   have hltI : (i : Int) < 16 := by omega
   have hwi : IntKind.i64.wrap ((i : Int) + 1) = ((i + 1 : Nat) : Int) := by rw [IntWalk.i64_in _ (by omega)]; omega
   have hst := Lib.hid (cpk_step x 16 i hlt)
   obtain ⟨u, hu⟩ : ∃ u, x.getD i 0 = u := ⟨_, rfl⟩
   rw [hu] at hst
   have huq := Lib.hid hu
   clear hu
   go_upto_region 9 with fail
   refine wl_lit ?_
   refine runL 27 (.int .i64 (i : Int)) rfl (by rfl) (by go_simp) ?_
   refine runL 28 (.slice (some ⟨gx, 0, none⟩) 16 cAX) rfl (by rfl) (by go_simp) ?_
   refine runL 29 (.int .i64 (i : Int)) rfl (by rfl) (by go_simp) ?_
   refine runL 30 (.pointer (some ⟨gx, i, none⟩)) rfl (by rfl) (by go_simp) ?_
   refine runL 31 (.int .u8 ((u : Nat) : Int)) rfl (by rfl) (exec_cell 5 (.tmp 30) rfl gx i rfl (.int .u8 ((u : Nat) : Int)) _ Tryd.underlying5 rfl (by rw [← huq.out]; exact hgx.num (by rw [hxl]; exact hlt))) ?_
   refine runL 32 (.pointer (some ⟨p5, i, none⟩)) rfl (by rfl) (by go_simp) ?_
   simp only [Ls]
   refine runSL (wr.setCell ⟨p5, i, none⟩ (.int .u8 ((u : Nat) : Int))) rfl (by rfl) (exec_storeCell 5 (.tmp 32) (.tmp 31) rfl p5 i rfl (.int .u8 ((u : Nat) : Int)) rfl rfl rfl 22 (va .u8 (cpk x 16 i)) hp5 (by rw [va_size, ((cpk_len _ _ _))]; exact (by exact hlt)) (by kernel_rfl)) ?_
   replace hp2 := hp2.far (p := ⟨p5, i, none⟩) (show p2 ≠ p5 from (by omega)) (.int .u8 ((u : Nat) : Int))
   replace hp3 := hp3.far (p := ⟨p5, i, none⟩) (show p3 ≠ p5 from (by omega)) (.int .u8 ((u : Nat) : Int))
   replace hp6 := hp6.far (p := ⟨p5, i, none⟩) (show p6 ≠ p5 from (by omega)) (.int .u8 ((u : Nat) : Int))
   replace hgx := hgx.far (p := ⟨p5, i, none⟩) (show gx ≠ p5 from (by omega)) (.int .u8 ((u : Nat) : Int))
   replace hgy := hgy.far (p := ⟨p5, i, none⟩) (show gy ≠ p5 from (by omega)) (.int .u8 ((u : Nat) : Int))
   replace hp5 : Blk (wr.setCell ⟨p5, i, none⟩ (.int .u8 ((u : Nat) : Int))) p5 22 (va .u8 (cpk x 16 (i + 1))) := by rw [← hst.out]; exact hp5.setNum i (u)
   replace hW := hW.setCell (p := ⟨p5, i, none⟩) lw_p5 (.int .u8 ((u : Nat) : Int))
   generalize wr.setCell ⟨p5, i, none⟩ (.int .u8 ((u : Nat) : Int)) = w17 at *
   refine nilL ?_
   go_wp2
   go_roundw
   case rel => exact ⟨i + 1, by omega, by go_num, hp2, hp3, hp5, hp6, hgx, hgy, hW⟩
   case measure => simp [intOf]; omega
  ·
   have hi2 : i = 16 := by omega
   have hltIx : ¬ (i : Int) < 16 := by omega
   have hz : cpk x 16 i = x := by rw [hi2]; exact cpk_all x 16 hxl
   rw [hz] at hp5
   clear hz hi2 hlt hi
   go_upto_region 10 with fail
   refine wl_lit ?_
   refine runL 10 (.int .i64 0) rfl (by rfl) (by go_simp) ?_
   simp only [Ls]
   refine nilL ?_
   go_wp2
   go_loopw [10] (fun s wr => ∃ i : Nat, i ≤ 32 ∧ s = .int .i64 (i : Int) ∧ Blk wr p2 22 (va .u8 (List.replicate 16 0)) ∧ Blk wr p3 24 (va .u8 (List.replicate 32 0)) ∧ Blk wr p5 22 (va .u8 x) ∧ Blk wr p6 24 (va .u8 (cpk y 32 i)) ∧ ByB wr gx x ∧ ByB wr gy y ∧ Below B0 w wr) (fun s _ => 32 - (intOf s).toNat)
   case atStart => exact ⟨0, by omega, rfl, hp2, hp3, hp5, hp6, hgx, hgy, hW⟩
   case round =>
    clear hp2 hp3 hp5 hp6 hgx hgy hW
    obtain ⟨i, hi, rfl, hp2, hp3, hp5, hp6, hgx, hgy, hW⟩ := hrel
    by_cases hlt : i < 32
    ·
     have hltI : (i : Int) < 32 := by omega
     have hwi : IntKind.i64.wrap ((i : Int) + 1) = ((i + 1 : Nat) : Int) := by rw [IntWalk.i64_in _ (by omega)]; omega
     have hst := Lib.hid (cpk_step y 32 i hlt)
     obtain ⟨u, hu⟩ : ∃ u, y.getD i 0 = u := ⟨_, rfl⟩
     rw [hu] at hst
     have huq := Lib.hid hu
     clear hu
     go_upto_region 13 with fail
     refine wl_lit ?_
     refine runL 37 (.int .i64 (i : Int)) rfl (by rfl) (by go_simp) ?_
     refine runL 38 (.slice (some ⟨gy, 0, none⟩) 32 cAY) rfl (by rfl) (by go_simp) ?_
     refine runL 39 (.int .i64 (i : Int)) rfl (by rfl) (by go_simp) ?_
     refine runL 40 (.pointer (some ⟨gy, i, none⟩)) rfl (by rfl) (by go_simp) ?_
     refine runL 41 (.int .u8 ((u : Nat) : Int)) rfl (by rfl) (exec_cell 5 (.tmp 40) rfl gy i rfl (.int .u8 ((u : Nat) : Int)) _ Tryd.underlying5 rfl (by rw [← huq.out]; exact hgy.num (by rw [hyl]; exact hlt))) ?_
     refine runL 42 (.pointer (some ⟨p6, i, none⟩)) rfl (by rfl) (by go_simp) ?_
     simp only [Ls]
     refine runSL (wr.setCell ⟨p6, i, none⟩ (.int .u8 ((u : Nat) : Int))) rfl (by rfl) (exec_storeCell 5 (.tmp 42) (.tmp 41) rfl p6 i rfl (.int .u8 ((u : Nat) : Int)) rfl rfl rfl 24 (va .u8 (cpk y 32 i)) hp6 (by rw [va_size, ((cpk_len _ _ _))]; exact (by exact hlt)) (by kernel_rfl)) ?_
     replace hp2 := hp2.far (p := ⟨p6, i, none⟩) (show p2 ≠ p6 from (by omega)) (.int .u8 ((u : Nat) : Int))
     replace hp3 := hp3.far (p := ⟨p6, i, none⟩) (show p3 ≠ p6 from (by omega)) (.int .u8 ((u : Nat) : Int))
     replace hp5 := hp5.far (p := ⟨p6, i, none⟩) (show p5 ≠ p6 from (by omega)) (.int .u8 ((u : Nat) : Int))
     replace hgx := hgx.far (p := ⟨p6, i, none⟩) (show gx ≠ p6 from (by omega)) (.int .u8 ((u : Nat) : Int))
     replace hgy := hgy.far (p := ⟨p6, i, none⟩) (show gy ≠ p6 from (by omega)) (.int .u8 ((u : Nat) : Int))
     replace hp6 : Blk (wr.setCell ⟨p6, i, none⟩ (.int .u8 ((u : Nat) : Int))) p6 24 (va .u8 (cpk y 32 (i + 1))) := by rw [← hst.out]; exact hp6.setNum i (u)
     replace hW := hW.setCell (p := ⟨p6, i, none⟩) lw_p6 (.int .u8 ((u : Nat) : Int))
     generalize wr.setCell ⟨p6, i, none⟩ (.int .u8 ((u : Nat) : Int)) = w18 at *
     refine nilL ?_
     go_wp2
     go_roundw
     case rel => exact ⟨i + 1, by omega, by go_num, hp2, hp3, hp5, hp6, hgx, hgy, hW⟩
     case measure => simp [intOf]; omega
    ·
     have hi2 : i = 32 := by omega
     have hltIy : ¬ (i : Int) < 32 := by omega
     have hz : cpk y 32 i = y := by rw [hi2]; exact cpk_all y 32 hyl
     rw [hz] at hp6
     clear hz hi2 hlt hi
     go_upto_region 14 with fail
     replace hp2 := hp2.drew
     replace hp3 := hp3.drew
     refine wp_region_held_drew (S := fun wr => Blk wr p5 22 (va .u8 x) ∧ Blk wr p6 24 (va .u8 y) ∧ ByB wr gx x ∧ ByB wr gy y ∧ Below B0 w wr) (by kernel_rfl) ⟨hp5.drew, hp6.drew, hgx.drew_, hgy.drew_, below_drewN hW 1⟩ (fun hH => ?_)
     clear hp5 hp6 hgx hgy hW
     obtain ⟨hp5, hp6, hgx, hgy, hW⟩ := hH
     generalize wr.drew = w19 at *
     refine takeH 3 0 43 (.agg (va .u8 x)) rfl rfl (by kernel_rfl) (by kernel_rfl) (by kernel_rfl) (fun _ _ _ h => h) (Or.inl ⟨by rfl, fun _ h => exec_row 22 (.tmp 5) rfl p5 rfl 22 (va .u8 x) _ h.1 (by exact Tryd.underlying22) rfl (szG16 _ hxl)⟩) ⟨hp5, hp6, hgx, hgy, hW⟩ ?_
     simp only [Ls]
     refine takeH 2 1 44 (.agg (va .u8 y)) rfl rfl (by kernel_rfl) (by kernel_rfl) (by kernel_rfl) (fun _ _ _ h => h) (Or.inl ⟨by rfl, fun _ h => exec_row 24 (.tmp 6) rfl p6 rfl 24 (va .u8 y) _ h.2.1 (by exact Tryd.underlying24) rfl (sz_api_Key _ hyl)⟩) ⟨hp5, hp6, hgx, hgy, hW⟩ ?_
     simp only [Ls]
     refine wpAnyH_ready (by kernel_rfl) (by simp) (readyRunS 1 2 (w19.setRow p2 (va .u8 x)) rfl rfl (by rfl) (exec_storeRow 22 (.tmp 2) (.tmp 43) rfl p2 rfl (va .u8 x) rfl 22 (va .u8 (List.replicate 16 0)) hp2 (sz_eq (szG16 _ (List.length_replicate)) (szG16 _ hxl)) (szG16 _ hxl) (va_ones .u8 _)) ⟨hp5.rowFar (show p2 ≠ p5 from (by omega)) _, hp6.rowFar (show p2 ≠ p6 from (by omega)) _, hgx.rowFar (show p2 ≠ gx from (by omega)) _, hgy.rowFar (show p2 ≠ gy from (by omega)) _, below_setRow hW lw_p2 _⟩ (fun _ => ?_) AllReadyH.nil)
     replace hp3 := hp3.rowFar (show p2 ≠ p3 from (by omega)) (va .u8 x)
     replace hp5 := hp5.rowFar (show p2 ≠ p5 from (by omega)) (va .u8 x)
     replace hp6 := hp6.rowFar (show p2 ≠ p6 from (by omega)) (va .u8 x)
     replace hgx := hgx.rowFar (show p2 ≠ gx from (by omega)) (va .u8 x)
     replace hgy := hgy.rowFar (show p2 ≠ gy from (by omega)) (va .u8 x)
     replace hp2 := hp2.row (va .u8 x)
     replace hW := below_setRow hW lw_p2 (va .u8 x)
     generalize w19.setRow p2 (va .u8 x) = w20 at *
     refine wpAnyH_ready (by kernel_rfl) (by simp) (readyRunS 0 3 (w20.setRow p3 (va .u8 y)) rfl rfl (by rfl) (exec_storeRow 24 (.tmp 3) (.tmp 44) rfl p3 rfl (va .u8 y) rfl 24 (va .u8 (List.replicate 32 0)) hp3 (sz_eq (sz_api_Key _ (List.length_replicate)) (sz_api_Key _ hyl)) (sz_api_Key _ hyl) (va_ones .u8 _)) ⟨hp5.rowFar (show p3 ≠ p5 from (by omega)) _, hp6.rowFar (show p3 ≠ p6 from (by omega)) _, hgx.rowFar (show p3 ≠ gx from (by omega)) _, hgy.rowFar (show p3 ≠ gy from (by omega)) _, below_setRow hW lw_p3 _⟩ (fun _ => ?_) AllReadyH.nil)
     replace hp2 := hp2.rowFar (show p3 ≠ p2 from (by omega)) (va .u8 y)
     replace hp5 := hp5.rowFar (show p3 ≠ p5 from (by omega)) (va .u8 y)
     replace hp6 := hp6.rowFar (show p3 ≠ p6 from (by omega)) (va .u8 y)
     replace hgx := hgx.rowFar (show p3 ≠ gx from (by omega)) (va .u8 y)
     replace hgy := hgy.rowFar (show p3 ≠ gy from (by omega)) (va .u8 y)
     replace hp3 := hp3.row (va .u8 y)
     replace hW := below_setRow hW lw_p3 (va .u8 y)
     generalize w20.setRow p3 (va .u8 y) = w21 at *
     refine wpAnyH_done (by kernel_rfl) ?_ _
     go_wp2_with fail
     exact bodyPost_ret (results_row_row rfl _ _ p2 22 (va .u8 x) _ p3 24 (va .u8 y) _ rfl hp2 (by exact Tryd.underlying22) rfl (szG16 _ hxl) rfl hp3 (by exact Tryd.underlying24) rfl (sz_api_Key _ hyl)) rfl ⟨rfl, hW⟩

theorem sz16D (l : List Nat) (h : l.length = 16) : (Tryd.prog.info? 22).map (·.size) = some (nv .u8 l).length := by rw [nv_len, h]; kernel_rfl
theorem szKD (l : List Nat) (h : l.length = 32) : (Tryd.prog.info? 24).map (·.size) = some (nv .u8 l).length := by rw [nv_len, h]; kernel_rfl
end Go.Proofs.YtcfddmplnoknlaaDoor
namespace Go.Proofs.YtcfddmplnoknlaaDoor
set_option maxRecDepth 16384
open Go.RowKit Sh

theorem or_zero (a b : Nat) : a ||| b = 0 ↔ a = 0 ∧ b = 0 := by
  constructor
  · intro h
    have h1 : a ≤ a ||| b := Nat.left_le_or
    have h2 : b ≤ a ||| b := Nat.right_le_or
    omega
  · rintro ⟨rfl, rfl⟩; rfl
theorem xor_zero (a b : Nat) : a ^^^ b = 0 ↔ a = b := by
  constructor
  · intro h
    have : a ^^^ b ^^^ b = 0 ^^^ b := by rw [h]
    simpa [Nat.xor_assoc] using this
  · rintro rfl; simp
theorem or256 {a b : Nat} (ha : a < 256) (hb : b < 256) : a ||| b < 256 := Nat.or_lt_two_pow (n := 8) ha hb

set_option maxRecDepth 8000 in
set_option maxHeartbeats 2000000 in
theorem verify_any (key m tag : List Nat) (A : Option Addr) (n c B : Nat) (A2 : Option Addr) (n2 c2 B2 : Nat) (hk : Byt key) (hnc : n ≤ c) (hn : n < 100000) (hm0 : Byt m) (hnc2 : n2 ≤ c2) (hn2 : n2 < 100000) (ht : Byt tag) (htl : tag.length = 32) (w : World) (hg : Glob w)
    (hr : Reads w B 1 A n (nv .u8 key)) (hB : B ≤ w.heap.size) (hr2 : Reads w B2 1 A2 n2 (nv .u8 m)) (hB2 : B2 ≤ w.heap.size) :
    Calls Tryd.prog 33 #[.slice A n c, .slice A2 n2 c2, .agg (va .u8 tag)] w fun e w' => e = .returned (.bool (decide (hm key m = tag))) ∧ Below w.heap.size w w' := by
  obtain ⟨B0, hB0e, hW, hB0⟩ := stB w
  rw [hB0e]
  have hln2 := hr2.len
  have hBB : B ≤ B0 := by omega
  have hBB2 : B2 ≤ B0 := by omega
  have gl := glob_of hg hB0e
  have rd := reads_of hr hBB
  have rd2 := reads_of hr2 hBB2
  clear hg hr hB hr2 hB2
  have hB0q := Lib.hid hB0e
  clear hB0e
  go_enter Tryd.func33, Tryd.ntmps33
  go_upto_region 0 with fail
  refine wl_lit ?_
  refine runWL 5 (.pointer (some ⟨w.heap.size, 0, none⟩)) (w.alloc (.cells (va .u8 tag) 45)) rfl (by rfl) (exec_box 45 (.tmp 2) rfl (.agg (va .u8 tag)) rfl) ?_
  simp only [Ls]
  have lw_p5 := Nat.le_trans hB0 hW.size
  have hp5 := Blk.new w 45 (va .u8 tag)
  replace hW := alB hW hB0 (.cells (va .u8 tag) 45)
  generalize w.alloc (.cells (va .u8 tag) 45) = w1 at *
  generalize w.heap.size = p5 at hp5 lw_p5  ⊢
  refine runL 6 (.bool false) rfl (by rfl) (by go_simp) ?_
  simp only [Ls]
  refine nilL ?_
  go_upto_region 1 with fail
  refine wl_lit ?_
  refine runL 10 (.slice A n c) rfl (by rfl) (by go_simp) ?_
  refine runL 11 (.slice A2 n2 c2) rfl (by rfl) (by go_simp) ?_
  simp only [Ls]
  refine runWL 12 (.slice (some ⟨w1.heap.size, 0, none⟩) 1 1) (w1.alloc (.cells (#[.slice A2 n2 c2]) 34)) rfl (by rfl) (exec_bslice 90 1 _ rfl _ (by exact bs_1 A2 n2 c2 _)) ?_
  simp only [Ls]
  have lp5_q1 := hp5.lt
  have lw_q1 := Nat.le_trans hB0 hW.size
  have hq1 : Blk (w1.alloc (.cells (#[.slice A2 n2 c2]) 34)) w1.heap.size 34 (#[.slice A2 n2 c2]) := Blk.new _ _ _
  have bx := bAl w1 (.cells (#[.slice A2 n2 c2]) 34)
  replace hp5 := blB hp5 bx
  replace hW := trB hW hB0 bx
  clear bx
  generalize w1.alloc (.cells (#[.slice A2 n2 c2]) 34) = w2 at *
  generalize w1.heap.size = q1 at hq1 lw_q1 lp5_q1 ⊢
  refine callL 13 rfl (by rfl) (fun K hK => wp_callF 31 #[.slice A n c, .slice (some ⟨q1, 0, none⟩) 1 1] (by go_simp) (macof_any key A n c B [m] _ 1 1 _ hk hnc hn (by omega) (by simp [hln2]; omega) _ (gl.out _ hW) (rd.out _ hW) (Nat.le_trans hBB (Nat.le_trans hB0 hW.size)) (parts_one (Nat.le_trans hBB2 (Nat.le_trans hB0 hW.size)) hq1 (rd2.out _ hW) hnc2 hm0) (Nat.le_refl _)) ?_)
  rintro e w3 ⟨rfl, bx⟩
  replace hp5 := blB hp5 bx
  replace hq1 := hq1.below bx hq1.lt
  replace hW := trB hW hB0 bx
  clear bx
  refine ⟨_, rfl, hK.out _ _ ?_⟩
  clear hK K
  simp only [Ls]
  refine runWL 7 (.pointer (some ⟨w3.heap.size, 0, none⟩)) (w3.alloc (.cells (va .u8 (List.replicate 32 0)) 45)) rfl (by rfl) (exec_allocV 45 rfl _ (zv_api_Digest _)) ?_
  simp only [Ls]
  have lp5_p7 := hp5.lt
  have lq1_p7 := hq1.lt
  have lw_p7 := Nat.le_trans hB0 hW.size
  have hp7 := Blk.new w3 45 (va .u8 (List.replicate 32 0))
  replace hp5 := hp5.alloc (.cells (va .u8 (List.replicate 32 0)) 45)
  replace hq1 := hq1.alloc (.cells (va .u8 (List.replicate 32 0)) 45)
  replace hW := alB hW hB0 (.cells (va .u8 (List.replicate 32 0)) 45)
  generalize w3.alloc (.cells (va .u8 (List.replicate 32 0)) 45) = w4 at *
  generalize w3.heap.size = p7 at hp7 lw_p7 lp5_p7 lq1_p7 ⊢
  refine runSL (w4.setRow p7 (va .u8 (hm key [m].flatten))) rfl (by rfl) (exec_storeRow 45 (.tmp 7) (.tmp 13) rfl p7 rfl (va .u8 (hm key [m].flatten)) rfl 45 (va .u8 (List.replicate 32 0)) hp7 (sz_eq (sz_api_Digest _ (List.length_replicate)) (sz_api_Digest _ (hm_len _ _))) (sz_api_Digest _ (hm_len _ _)) (va_ones .u8 _)) ?_
  replace hp5 := hp5.rowFar (show p7 ≠ p5 from (by omega)) (va .u8 (hm key [m].flatten))
  replace hq1 := hq1.rowFar (show p7 ≠ q1 from (by omega)) (va .u8 (hm key [m].flatten))
  replace hp7 := hp7.row (va .u8 (hm key [m].flatten))
  replace hW := below_setRow hW lw_p7 (va .u8 (hm key [m].flatten))
  generalize w4.setRow p7 (va .u8 (hm key [m].flatten)) = w5 at *
  refine nilL ?_
  simp only [List.flatten_cons, List.flatten_nil, List.append_nil] at hp7
  clear hq1
  go_wp2
  go_loopw [8, 14] (fun v s wr => ∃ (i d : Nat), i ≤ 32 ∧ s = .int .i64 (i : Int) ∧ v = .int .u8 (d : Int) ∧ d < 256 ∧ (d = 0 ↔ ∀ j, j < i → (hm key m).getD j 0 = tag.getD j 0) ∧ Blk wr p5 45 (va .u8 tag) ∧ Blk wr p7 45 (va .u8 (hm key m)) ∧ Below B0 w wr) (fun _ s _ => 32 - (intOf s).toNat)
  case atStart => exact ⟨0, 0, by omega, rfl, rfl, by omega, by simp, hp5, hp7, hW⟩
  case round =>
    clear hp5 hp7 hW
    obtain ⟨i, d, hi, rfl, rfl, hd, hdz, hp5, hp7, hW⟩ := hrel
    have hdzq := Lib.hid hdz
    clear hdz
    by_cases hlt : i < 32
    ·
      have hltI : (i : Int) < 32 := by omega
      have hx := (hm_byt key m).get i
      have hy := ht.get i
      obtain ⟨x, hxe⟩ : ∃ x, (hm key m).getD i 0 = x := ⟨_, rfl⟩
      obtain ⟨y, hye⟩ : ∃ y, tag.getD i 0 = y := ⟨_, rfl⟩
      rw [hxe] at hx
      rw [hye] at hy
      have hxq := Lib.hid hxe
      have hyq := Lib.hid hye
      have hxr : bits BinOp.xor IntKind.u8 (x : Int) (y : Int) = ((x ^^^ y : Nat) : Int) := u8_xor_nat x y hx hy
      have hor : bits BinOp.or IntKind.u8 (d : Int) ((x ^^^ y : Nat) : Int) = ((d ||| (x ^^^ y) : Nat) : Int) := u8_or_nat _ _ hd (xor256 hx hy)
      clear hxe hye
      go_upto_region 6 with fail
      refine wp_region_held_drew (S := fun wr => Blk wr p5 45 (va .u8 tag) ∧ Blk wr p7 45 (va .u8 (hm key m)) ∧ Below B0 w wr) (by kernel_rfl) ⟨hp5.drew, hp7.drew, below_drewN hW 1⟩ (fun hH => ?_)
      clear hp5 hp7 hW
      obtain ⟨hp5, hp7, hW⟩ := hH
      generalize wr.drew = w6 at *
      refine takeH 9 0 17 (.int .u8 (d : Int)) rfl rfl (by kernel_rfl) (by kernel_rfl) (by kernel_rfl) (fun _ _ _ h => h) (Or.inl ⟨by rfl, fun w _ => by go_simp⟩) ⟨hp5, hp7, hW⟩ ?_
      simp only [Ls]
      refine takeH 8 1 18 (.int .i64 (i : Int)) rfl rfl (by kernel_rfl) (by kernel_rfl) (by kernel_rfl) (fun _ _ _ h => h) (Or.inl ⟨by rfl, fun w _ => by go_simp⟩) ⟨hp5, hp7, hW⟩ ?_
      simp only [Ls]
      refine takeH 7 2 19 (.pointer (some ⟨p7, i, none⟩)) rfl rfl (by kernel_rfl) (by kernel_rfl) (by kernel_rfl) (fun _ _ _ h => h) (Or.inl ⟨by rfl, fun w _ => by go_simp⟩) ⟨hp5, hp7, hW⟩ ?_
      simp only [Ls]
      refine takeH 6 3 20 (.int .u8 ((x : Nat) : Int)) rfl rfl (by kernel_rfl) (by kernel_rfl) (by kernel_rfl) (fun _ _ _ h => h) (Or.inl ⟨by rfl, fun _ h => exec_cell 5 (.tmp 19) rfl p7 i rfl (.int .u8 ((x : Nat) : Int)) _ Tryd.underlying5 rfl (by rw [← hxq.out]; exact h.2.1.num (by rw [hm_len]; exact hlt))⟩) ⟨hp5, hp7, hW⟩ ?_
      simp only [Ls]
      refine takeH 5 4 21 (.int .i64 (i : Int)) rfl rfl (by kernel_rfl) (by kernel_rfl) (by kernel_rfl) (fun _ _ _ h => h) (Or.inl ⟨by rfl, fun w _ => by go_simp⟩) ⟨hp5, hp7, hW⟩ ?_
      simp only [Ls]
      refine takeH 4 5 22 (.pointer (some ⟨p5, i, none⟩)) rfl rfl (by kernel_rfl) (by kernel_rfl) (by kernel_rfl) (fun _ _ _ h => h) (Or.inl ⟨by rfl, fun w _ => by go_simp⟩) ⟨hp5, hp7, hW⟩ ?_
      simp only [Ls]
      refine takeH 3 6 23 (.int .u8 ((y : Nat) : Int)) rfl rfl (by kernel_rfl) (by kernel_rfl) (by kernel_rfl) (fun _ _ _ h => h) (Or.inl ⟨by rfl, fun _ h => exec_cell 5 (.tmp 22) rfl p5 i rfl (.int .u8 ((y : Nat) : Int)) _ Tryd.underlying5 rfl (by rw [← hyq.out]; exact h.1.num (by rw [htl]; exact hlt))⟩) ⟨hp5, hp7, hW⟩ ?_
      simp only [Ls]
      refine takeH 2 7 24 (.int .u8 (((x ^^^ y : Nat) : Int))) rfl rfl (by kernel_rfl) (by kernel_rfl) (by kernel_rfl) (fun _ _ _ h => h) (Or.inl ⟨by rfl, fun w _ => by go_simp⟩) ⟨hp5, hp7, hW⟩ ?_
      simp only [Ls]
      refine takeH 1 8 25 (.int .u8 (((d ||| (x ^^^ y) : Nat) : Int))) rfl rfl (by kernel_rfl) (by kernel_rfl) (by kernel_rfl) (fun _ _ _ h => h) (Or.inl ⟨by rfl, fun w _ => by go_simp⟩) ⟨hp5, hp7, hW⟩ ?_
      simp only [Ls]
      refine takeH 0 9 8 (.int .u8 (((d ||| (x ^^^ y) : Nat) : Int))) rfl rfl (by kernel_rfl) (by kernel_rfl) (by kernel_rfl) (fun _ _ _ h => h) (Or.inl ⟨by rfl, fun w _ => by go_simp⟩) ⟨hp5, hp7, hW⟩ ?_
      simp only [Ls]
      refine wpAnyH_done (by kernel_rfl) ?_ _
      have hz2 : d ||| (x ^^^ y) = 0 ↔ ∀ j, j < i + 1 → (hm key m).getD j 0 = tag.getD j 0 := by
        rw [or_zero, xor_zero, hdzq.out]
        constructor
        · rintro ⟨h1, h2⟩ j hj
          by_cases e : j = i
          · subst e; rw [hxq.out, hyq.out]; exact h2
          · exact h1 j (by omega)
        · intro h
          exact ⟨fun j hj => h j (by omega), by rw [← hxq.out, ← hyq.out]; exact h i (by omega)⟩
      have hzq := Lib.hid hz2
      have hdd := Lib.hid (or256 hd (xor256 hx hy))
      clear hz2
      go_wp2
      go_roundw
      case rel => exact ⟨i + 1, _, by omega, by go_num, rfl, hdd.out, hzq.out, hp5, hp7, hW⟩
      case measure => simp [intOf]; omega
    ·
      obtain rfl : i = 32 := by omega
      have hdq : d = 0 ↔ hm key m = tag := by
        rw [hdzq.out]
        constructor
        · intro h
          exact ext_getD (by rw [hm_len, htl]) (fun j hj => h j (by rw [hm_len] at hj; exact hj))
        · rintro h j _; rw [h]
      by_cases hE : hm key m = tag
      ·
        obtain rfl := hdq.2 hE
        have hEq := Lib.hid (decide_eq_true hE)
        clear hdq hdzq hE
        go_upto_region 8 with fail
        refine wl_lit ?_
        refine runL 27 (.int .u8 ((0 : Nat) : Int)) rfl (by rfl) (by go_simp) ?_
        refine runL 28 (.bool true) rfl (by rfl) (by go_simp) ?_
        refine runL 6 (.bool true) rfl (by rfl) (by go_simp) ?_
        simp only [Ls]
        refine nilL ?_
        go_wp2_with fail
        go_ret
        exact ⟨by rw [hEq.out]; rfl, hW⟩
      ·
        have hdn : ¬ d = 0 := fun h => hE (hdq.1 h)
        have hdI : ¬ (d : Int) = 0 := by omega
        have hEq := Lib.hid (decide_eq_false hE)
        clear hdq hdzq hE
        go_upto_region 8 with fail
        refine wl_lit ?_
        refine runL 27 (.int .u8 (d : Int)) rfl (by rfl) (by go_simp) ?_
        refine runL 28 (.bool false) rfl (by rfl) (by go_simp) ?_
        refine runL 6 (.bool false) rfl (by rfl) (by go_simp) ?_
        simp only [Ls]
        refine nilL ?_
        go_wp2_with fail
        go_ret
        exact ⟨by rw [hEq.out]; rfl, hW⟩
end Go.Proofs.YtcfddmplnoknlaaDoor
