/-
  The walk of digests.Compress.
-/
import Derived.Test.YtcdmbknmmnaocaaDoorDig1
import Derived.Test.YtcdmbknmmnaocaaDoorQuiet
namespace Go.Proofs.YtcdmbknmmnaocaaDoor
open Go.RowKit Sh

/-- the package-level tables hold what their text says -/
structure Glob (w : World) : Prop where
  k : w.rangeAt 1 0 (nv .u32 kL)
  h : w.rangeAt 0 0 (nv .u32 hL)
  lk : 1 < w.heap.size
  lh : 0 < w.heap.size
theorem Glob.below {w w' : World} (g : Glob w) (h : Below w.heap.size w w') : Glob w' :=
  ⟨range_below g.k h g.lk, range_below g.h h g.lh, Nat.lt_of_lt_of_le g.lk h.size, Nat.lt_of_lt_of_le g.lh h.size⟩
theorem Glob.alloc {w : World} (g : Glob w) (o : Obj) : Glob (w.alloc o) := g.below ((Below.refl _ _).alloc (Nat.le_refl _) o)
theorem Glob.drew_ {w : World} (g : Glob w) : Glob w.drew := ⟨g.k, g.h, g.lk, g.lh⟩

theorem u32_info : (Tryd.prog.info? 53).map (fun i => (i.zero, i.size, i.bytes)) = some (some (.int .u32 0), 1, 4) := by kernel_rfl
theorem rotr_q (x : Nat) (n : Int) (m : Nat) (hm : n = (m : Int)) (hx : x < 4294967296) (h1 : 1 ≤ m) (hn : m ≤ 31) (w : World) (a q : Nat) :
    Calls Tryd.prog 41 #[.int .u32 (x : Int), .int .i64 n] (w.drewN (a + q)) fun e w'' => e = .returned (.int .u32 (rotr x m : Nat)) ∧ ∃ j, w'' = w.drewN (a + j) :=
  quiet_add_left (rotr_lit x n m hm hx h1 hn _)
theorem not32_eq (x : Nat) (hx : x < 4294967296) : bits BinOp.xor IntKind.u32 IntKind.u32.max (x : Int) = ((4294967295 - x : Nat) : Int) := by
  rw [show IntKind.u32.max = ((4294967295 : Nat) : Int) from rfl, u32_xor_nat _ _ (by omega) hx]
  congr 1
  apply Nat.eq_of_testBit_eq
  intro i
  rw [Nat.testBit_xor, not32_testBit x i hx, show (4294967295 : Nat) = 2 ^ 32 - 1 from rfl, Nat.testBit_two_pow_sub_one]
  by_cases hi : i < 32
  · simp [hi]
  · rw [hi_false x i hx (by omega)]; simp [hi]
theorem bs1_eq (x : Nat) (hx : x < 4294967296) : bits BinOp.xor IntKind.u32 (bits BinOp.xor IntKind.u32 (rotr x 6 : Nat) (rotr x 11 : Nat)) (rotr x 25 : Nat) = ((bs1 x : Nat) : Int) := by
  rw [u32_xor_nat _ _ (rotr_lt x 6 hx) (rotr_lt x 11 hx), u32_xor_nat _ _ (xor32 (rotr_lt x 6 hx) (rotr_lt x 11 hx)) (rotr_lt x 25 hx)]; rfl
theorem bs0_eq (x : Nat) (hx : x < 4294967296) : bits BinOp.xor IntKind.u32 (bits BinOp.xor IntKind.u32 (rotr x 2 : Nat) (rotr x 13 : Nat)) (rotr x 22 : Nat) = ((bs0 x : Nat) : Int) := by
  rw [u32_xor_nat _ _ (rotr_lt x 2 hx) (rotr_lt x 13 hx), u32_xor_nat _ _ (xor32 (rotr_lt x 2 hx) (rotr_lt x 13 hx)) (rotr_lt x 22 hx)]; rfl
theorem ch_eq (e f g : Nat) (he : e < 4294967296) (hf : f < 4294967296) (hg : g < 4294967296) :
    bits BinOp.xor IntKind.u32 (bits BinOp.and IntKind.u32 (e : Int) (f : Int)) (bits BinOp.and IntKind.u32 (bits BinOp.xor IntKind.u32 IntKind.u32.max (e : Int)) (g : Int)) = ((ch e f g : Nat) : Int) := by
  rw [not32_eq e he, u32_and_nat _ _ he hf, u32_and_nat _ _ (by omega) hg, u32_xor_nat _ _ (and32 he) (and32 (by omega))]; rfl
theorem mj_eq (a b c : Nat) (ha : a < 4294967296) (hb : b < 4294967296) (hc : c < 4294967296) :
    bits BinOp.xor IntKind.u32 (bits BinOp.xor IntKind.u32 (bits BinOp.and IntKind.u32 (a : Int) (b : Int)) (bits BinOp.and IntKind.u32 (a : Int) (c : Int))) (bits BinOp.and IntKind.u32 (b : Int) (c : Int)) = ((mj a b c : Nat) : Int) := by
  rw [u32_and_nat _ _ ha hb, u32_and_nat _ _ ha hc, u32_and_nat _ _ hb hc, u32_xor_nat _ _ (and32 ha) (and32 ha), u32_xor_nat _ _ (xor32 (and32 ha) (and32 ha)) (and32 hb)]; rfl
def z8 : List Nat := List.replicate 8 0
/-- the blocks of Compress: the state that came in, the schedule, the state that is worked on, the result -/
structure CmpMem (G T : Nat) (b : List Nat) (h0 h1 h2 h3 h4 h5 h6 h7 x0 x1 x2 x3 x4 x5 x6 x7 : Nat) (w wr : World) : Prop where
  a : Blk wr G 54 #[Value.int .u32 (h0 : Nat), Value.int .u32 (h1 : Nat), Value.int .u32 (h2 : Nat), Value.int .u32 (h3 : Nat), Value.int .u32 (h4 : Nat), Value.int .u32 (h5 : Nat), Value.int .u32 (h6 : Nat), Value.int .u32 (h7 : Nat)]
  s : Blk wr T 65 (va .u32 (wL b))
  x : Blk wr (T + 1) 54 #[Value.int .u32 (x0 : Nat), Value.int .u32 (x1 : Nat), Value.int .u32 (x2 : Nat), Value.int .u32 (x3 : Nat), Value.int .u32 (x4 : Nat), Value.int .u32 (x5 : Nat), Value.int .u32 (x6 : Nat), Value.int .u32 (x7 : Nat)]
  r : Blk wr (G + 1 + 1) 54 (va .u32 z8)
  lt : G + 1 + 1 < T
  bel : Below G w wr

theorem CmpMem.drewN_ {G T : Nat} {b : List Nat} {h0 h1 h2 h3 h4 h5 h6 h7 x0 x1 x2 x3 x4 x5 x6 x7 : Nat} {w wr : World} (h : CmpMem G T b h0 h1 h2 h3 h4 h5 h6 h7 x0 x1 x2 x3 x4 x5 x6 x7 w wr) (n : Nat) : CmpMem G T b h0 h1 h2 h3 h4 h5 h6 h7 x0 x1 x2 x3 x4 x5 x6 x7 w (wr.drewN n) :=
  ⟨h.a, h.s, h.x, h.r, h.lt, below_drewN h.bel n⟩
theorem CmpMem.round {G T : Nat} {b : List Nat} {h0 h1 h2 h3 h4 h5 h6 h7 x0 x1 x2 x3 x4 x5 x6 x7 : Nat} {w wr : World} (h : CmpMem G T b h0 h1 h2 h3 h4 h5 h6 h7 x0 x1 x2 x3 x4 x5 x6 x7 w wr) (y0 y4 : Nat) :
    CmpMem G T b h0 h1 h2 h3 h4 h5 h6 h7 y0 x0 x1 x2 y4 x4 x5 x6 w ((((((((wr.setCell ⟨T + 1, 0, none⟩ (.int .u32 (y0 : Nat))).setCell ⟨T + 1, 1, none⟩ (.int .u32 (x0 : Nat))).setCell ⟨T + 1, 2, none⟩ (.int .u32 (x1 : Nat))).setCell ⟨T + 1, 3, none⟩ (.int .u32 (x2 : Nat))).setCell ⟨T + 1, 4, none⟩ (.int .u32 (y4 : Nat))).setCell ⟨T + 1, 5, none⟩ (.int .u32 (x4 : Nat))).setCell ⟨T + 1, 6, none⟩ (.int .u32 (x5 : Nat))).setCell ⟨T + 1, 7, none⟩ (.int .u32 (x6 : Nat))) := by
  have h1 : G ≠ T + 1 := by have := h.lt; omega
  have h2 : T ≠ T + 1 := by omega
  have h3 : G + 1 + 1 ≠ T + 1 := by have := h.lt; omega
  have hB : G ≤ T + 1 := by have := h.lt; omega
  have hs := ((((((((h.x.set_ 0 (.int .u32 (y0 : Nat))).set_ 1 (.int .u32 (x0 : Nat))).set_ 2 (.int .u32 (x1 : Nat))).set_ 3 (.int .u32 (x2 : Nat))).set_ 4 (.int .u32 (y4 : Nat))).set_ 5 (.int .u32 (x4 : Nat))).set_ 6 (.int .u32 (x5 : Nat))).set_ 7 (.int .u32 (x6 : Nat)))
  simp only [List.setIfInBounds_toArray, List.set_cons_zero, List.set_cons_succ] at hs
  exact ⟨((((((((h.a.far (p := ⟨T + 1, 0, none⟩) h1 _).far (p := ⟨T + 1, 1, none⟩) h1 _).far (p := ⟨T + 1, 2, none⟩) h1 _).far (p := ⟨T + 1, 3, none⟩) h1 _).far (p := ⟨T + 1, 4, none⟩) h1 _).far (p := ⟨T + 1, 5, none⟩) h1 _).far (p := ⟨T + 1, 6, none⟩) h1 _).far (p := ⟨T + 1, 7, none⟩) h1 _), ((((((((h.s.far (p := ⟨T + 1, 0, none⟩) h2 _).far (p := ⟨T + 1, 1, none⟩) h2 _).far (p := ⟨T + 1, 2, none⟩) h2 _).far (p := ⟨T + 1, 3, none⟩) h2 _).far (p := ⟨T + 1, 4, none⟩) h2 _).far (p := ⟨T + 1, 5, none⟩) h2 _).far (p := ⟨T + 1, 6, none⟩) h2 _).far (p := ⟨T + 1, 7, none⟩) h2 _), hs, ((((((((h.r.far (p := ⟨T + 1, 0, none⟩) h3 _).far (p := ⟨T + 1, 1, none⟩) h3 _).far (p := ⟨T + 1, 2, none⟩) h3 _).far (p := ⟨T + 1, 3, none⟩) h3 _).far (p := ⟨T + 1, 4, none⟩) h3 _).far (p := ⟨T + 1, 5, none⟩) h3 _).far (p := ⟨T + 1, 6, none⟩) h3 _).far (p := ⟨T + 1, 7, none⟩) h3 _), h.lt, ((((((((h.bel.setCell (p := ⟨T + 1, 0, none⟩) hB _).setCell (p := ⟨T + 1, 1, none⟩) hB _).setCell (p := ⟨T + 1, 2, none⟩) hB _).setCell (p := ⟨T + 1, 3, none⟩) hB _).setCell (p := ⟨T + 1, 4, none⟩) hB _).setCell (p := ⟨T + 1, 5, none⟩) hB _).setCell (p := ⟨T + 1, 6, none⟩) hB _).setCell (p := ⟨T + 1, 7, none⟩) hB _)⟩

/-- the blocks while the states are added -/
structure SumMem (G T : Nat) (l x : List Nat) (w wr : World) : Prop where
  a : Blk wr G 54 (va .u32 l)
  x : Blk wr (T + 1) 54 (va .u32 x)
  r : Blk wr (G + 1 + 1) 54 (va .u32 z8)
  lt : G + 1 + 1 < T
  bel : Below G w wr

set_option maxRecDepth 100000 in
set_option maxHeartbeats 800000 in
theorem compress8 (h0 h1 h2 h3 h4 h5 h6 h7 : Nat) (b : List Nat) (hh : W32 [h0, h1, h2, h3, h4, h5, h6, h7]) (hb : Byt b) (hl : b.length = 64) (w : World) (hg : Glob w) :
    Calls Tryd.prog 32 #[.agg #[Value.int .u32 (h0 : Nat), Value.int .u32 (h1 : Nat), Value.int .u32 (h2 : Nat), Value.int .u32 (h3 : Nat), Value.int .u32 (h4 : Nat), Value.int .u32 (h5 : Nat), Value.int .u32 (h6 : Nat), Value.int .u32 (h7 : Nat)], .agg (va .u8 b)] w fun e w' => e = .returned (.agg (va .u32 (comp [h0, h1, h2, h3, h4, h5, h6, h7] b))) ∧ Below w.heap.size w w' := by
  have hzv := zvW
  go_enter Tryd.func32, Tryd.ntmps32
  have hB : Blk ((w.alloc (Obj.cells #[Value.int .u32 (h0 : Nat), Value.int .u32 (h1 : Nat), Value.int .u32 (h2 : Nat), Value.int .u32 (h3 : Nat), Value.int .u32 (h4 : Nat), Value.int .u32 (h5 : Nat), Value.int .u32 (h6 : Nat), Value.int .u32 (h7 : Nat)] 54)).alloc (Obj.cells (va .u8 b) 55)) (w.heap.size + 1) 55 (va .u8 b) := by
    have := Blk.new (w.alloc (Obj.cells #[Value.int .u32 (h0 : Nat), Value.int .u32 (h1 : Nat), Value.int .u32 (h2 : Nat), Value.int .u32 (h3 : Nat), Value.int .u32 (h4 : Nat), Value.int .u32 (h5 : Nat), Value.int .u32 (h6 : Nat), Value.int .u32 (h7 : Nat)] 54)) 55 (va .u8 b)
    simpa using this
  have hsz0 : (Tryd.prog.info? 55).map (·.size) = some (va .u8 b).size := by rw [va_size, hl]; kernel_rfl
  have hsz := Lib.hid hsz0
  have hB1 := Lib.hid hB
  clear hsz0 hB
  have hA : Blk (w.alloc (Obj.cells #[Value.int .u32 (h0 : Nat), Value.int .u32 (h1 : Nat), Value.int .u32 (h2 : Nat), Value.int .u32 (h3 : Nat), Value.int .u32 (h4 : Nat), Value.int .u32 (h5 : Nat), Value.int .u32 (h6 : Nat), Value.int .u32 (h7 : Nat)] 54)) w.heap.size 54 #[Value.int .u32 (h0 : Nat), Value.int .u32 (h1 : Nat), Value.int .u32 (h2 : Nat), Value.int .u32 (h3 : Nat), Value.int .u32 (h4 : Nat), Value.int .u32 (h5 : Nat), Value.int .u32 (h6 : Nat), Value.int .u32 (h7 : Nat)] := Blk.new _ _ _
  have hA1 := Lib.hid hA
  clear hA
  go_wp2_with (first
    | (refine wpList_load_row rfl 55 (.tmp 3) rfl (w.heap.size + 1) rfl 55 (va .u8 b) (0, 0) _ (hB1.out.alloc _) Tryd.underlying55 rfl hsz.out ?_)
    | (go_at_call 40; fail))
  refine (schedule_any b hb hl _).mono ?_
  rintro e w1 ⟨rfl, b1⟩
  have hst := run_storeNew (P := Tryd.prog) w1 65 (va .u32 z64) .u32 (wL b) (by rw [va_size, z64_len, wL_len])
  have hA2 := (((hA1.out.alloc (Obj.cells (va .u8 b) 55)).alloc (Obj.cells #[Value.int .u32 0, Value.int .u32 0, Value.int .u32 0, Value.int .u32 0, Value.int .u32 0, Value.int .u32 0, Value.int .u32 0, Value.int .u32 0] 54)).below b1 (by simp; omega)).alloc (Obj.cells (va .u32 (wL b)) 65)
  have c0 := hA2.cell 0
  have c1 := hA2.cell 1
  have c2 := hA2.cell 2
  have c3 := hA2.cell 3
  have c4 := hA2.cell 4
  have c5 := hA2.cell 5
  have c6 := hA2.cell 6
  have c7 := hA2.cell 7
  simp only [List.getElem?_toArray, List.getElem?_cons_zero, List.getElem?_cons_succ] at c0 c1 c2 c3 c4 c5 c6 c7
  have hA3 := Lib.hid hA2
  clear hA2
  have hgk : Hid (Glob ((w1.alloc (Obj.cells (va .u32 (wL b)) 65)).alloc (Obj.cells #[Value.int .u32 (h0 : Nat), Value.int .u32 (h1 : Nat), Value.int .u32 (h2 : Nat), Value.int .u32 (h3 : Nat), Value.int .u32 (h4 : Nat), Value.int .u32 (h5 : Nat), Value.int .u32 (h6 : Nat), Value.int .u32 (h7 : Nat)] 54))) :=
    Lib.hid ((((((hg.alloc _).alloc _).alloc _).below b1).alloc _).alloc _)
  have hsk0 : (Tryd.prog.info? 65).map (·.size) = some (nv .u32 kL).length := by rw [nv_len, kL_len]; kernel_rfl
  have hsk := Lib.hid hsk0
  clear hsk0
  go_wp2_with (refine wpList_load_mid rfl 65 (.global 1) rfl 1 0 rfl (nv .u32 kL) _ hgk.out.k Tryd.underlying65 rfl hsk.out ?_)
  have hm : CmpMem w.heap.size w1.heap.size b h0 h1 h2 h3 h4 h5 h6 h7 h0 h1 h2 h3 h4 h5 h6 h7 w ((w1.alloc (Obj.cells (va .u32 (wL b)) 65)).alloc (Obj.cells #[Value.int .u32 (h0 : Nat), Value.int .u32 (h1 : Nat), Value.int .u32 (h2 : Nat), Value.int .u32 (h3 : Nat), Value.int .u32 (h4 : Nat), Value.int .u32 (h5 : Nat), Value.int .u32 (h6 : Nat), Value.int .u32 (h7 : Nat)] 54)) := by
    refine ⟨hA3.out.alloc _, (Blk.new _ _ _).alloc _, ?_, ((?_ : Blk w1 (w.heap.size + 1 + 1) 54 (va .u32 z8)).alloc _).alloc _, by have := b1.size; simp at this; omega, ?_⟩
    · have := Blk.new (w1.alloc (Obj.cells (va .u32 (wL b)) 65)) 54 #[Value.int .u32 (h0 : Nat), Value.int .u32 (h1 : Nat), Value.int .u32 (h2 : Nat), Value.int .u32 (h3 : Nat), Value.int .u32 (h4 : Nat), Value.int .u32 (h5 : Nat), Value.int .u32 (h6 : Nat), Value.int .u32 (h7 : Nat)]
      simpa using this
    · have := Blk.new ((w.alloc (Obj.cells #[Value.int .u32 (h0 : Nat), Value.int .u32 (h1 : Nat), Value.int .u32 (h2 : Nat), Value.int .u32 (h3 : Nat), Value.int .u32 (h4 : Nat), Value.int .u32 (h5 : Nat), Value.int .u32 (h6 : Nat), Value.int .u32 (h7 : Nat)] 54)).alloc (Obj.cells (va .u8 b) 55)) 54 (va .u32 z8)
      have h2 := this.below b1 (by simp)
      simpa using h2
    · have h3 := b1.mono (B' := w.heap.size) (by simp; omega)
      have h4 : Below w.heap.size w w1 := ((((Below.refl _ _).alloc (Nat.le_refl _) _).alloc (by simp) _).alloc (by simp; omega) _).trans h3
      exact (h4.alloc h4.size _).alloc (by have := h4.size; simp; omega) _
  clear c0 c1 c2 c3 c4 c5 c6 c7 hA1 hA3 hB1 hgk hsk hsz hzv hst
  generalize w1.heap.size = T at *
  obtain ⟨iu, hiu, hiu0, hiu1, hiu2⟩ := info_parts u32_info
  go_loopw [18] (fun s wr => ∃ (k x0 x1 x2 x3 x4 x5 x6 x7 : Nat), k ≤ 64 ∧ s = .int .i64 (k : Int) ∧ rnds [h0, h1, h2, h3, h4, h5, h6, h7] b k = [x0, x1, x2, x3, x4, x5, x6, x7] ∧ CmpMem w.heap.size T b h0 h1 h2 h3 h4 h5 h6 h7 x0 x1 x2 x3 x4 x5 x6 x7 w wr) (fun s _ => 64 - (intOf s).toNat)
  case atStart => exact ⟨0, h0, h1, h2, h3, h4, h5, h6, h7, by omega, rfl, rfl, hm⟩
  case round =>
    clear hm b1
    obtain ⟨k, x0, x1, x2, x3, x4, x5, x6, x7, hk, rfl, hx, hmem⟩ := hrel
    have hlt := rnds_lt [h0, h1, h2, h3, h4, h5, h6, h7] b hh k
    rw [hx] at hlt
    have l0 : x0 < 4294967296 := hlt 0
    have l1 : x1 < 4294967296 := hlt 1
    have l2 : x2 < 4294967296 := hlt 2
    have l3 : x3 < 4294967296 := hlt 3
    have l4 : x4 < 4294967296 := hlt 4
    have l5 : x5 < 4294967296 := hlt 5
    have l6 : x6 < 4294967296 := hlt 6
    have l7 : x7 < 4294967296 := hlt 7
    clear hlt
    have hx' := Lib.hid hx
    clear hx
    by_cases hlt : k < 64
    · have hlt' : (k : Int) < 64 := by omega
      have hix := run_index_num (P := Tryd.prog) (kk := .i64) (l := kL) (i := k) Tryd.underlying65 Tryd.underlying53 hiu hiu1 kL_len hlt
      have hix' : ∀ u : World, (Instr.index 65 (.agg (nv .u32 kL).toArray) (.int .i64 (k : Int))).run Tryd.prog u = .ok (.int .u32 (kAt k : Nat)) u := fun u => by
        have e := hix u
        rw [show kL.getD k 0 = kAt k from getD_map_range _ _ _ hlt] at e
        exact e
      clear hix
      have c0 := hmem.x.cell 0
      have c1 := hmem.x.cell 1
      have c2 := hmem.x.cell 2
      have c3 := hmem.x.cell 3
      have c4 := hmem.x.cell 4
      have c5 := hmem.x.cell 5
      have c6 := hmem.x.cell 6
      have c7 := hmem.x.cell 7
      simp only [List.getElem?_toArray, List.getElem?_cons_zero, List.getElem?_cons_succ] at c0 c1 c2 c3 c4 c5 c6 c7
      have cw := hmem.s.num (i := k) (by rw [wL_len]; exact hlt)
      rw [wL_get b k hlt] at cw
      have lk := kAt_lt k
      have lw := wAt_lt b hb k
      generalize hkk : kAt k = kk at *
      generalize hww : wAt b k = ww at *
      have hmem' := Lib.hid hmem
      have hkk' := Lib.hid hkk
      have hww' := Lib.hid hww
      clear hmem hkk hww
      have f0 := hmem'.out.x.frozen 0
      have f1 := hmem'.out.x.frozen 1
      have f2 := hmem'.out.x.frozen 2
      have f3 := hmem'.out.x.frozen 3
      have f4 := hmem'.out.x.frozen 4
      have f5 := hmem'.out.x.frozen 5
      have f6 := hmem'.out.x.frozen 6
      have f7 := hmem'.out.x.frozen 7
      have e1 := bs1_eq x4 l4
      have e2 := ch_eq x4 x5 x6 l4 l5 l6
      have e3 := bs0_eq x0 l0
      have e4 := mj_eq x0 x1 x2 l0 l1 l2
      go_wp2
      go_quiet (fail)
      go_wp2
      go_quiet ((go_at_call 41; (first | (with_reducible exact rotr_q _ 6 6 rfl l4 (by omega) (by omega) _ _ _) | (with_reducible exact rotr_q _ 11 11 rfl l4 (by omega) (by omega) _ _ _) | (with_reducible exact rotr_q _ 25 25 rfl l4 (by omega) (by omega) _ _ _))))
      clear e1 e2
      go_wp2
      go_quiet ((go_at_call 41; (first | (with_reducible exact rotr_q _ 2 2 rfl l0 (by omega) (by omega) _ _ _) | (with_reducible exact rotr_q _ 13 13 rfl l0 (by omega) (by omega) _ _ _) | (with_reducible exact rotr_q _ 22 22 rfl l0 (by omega) (by omega) _ _ _))))
      clear e3 e4
      go_wp2
      go_roundw
      case rel =>
        rw [ch_eq x4 x5 x6 l4 l5 l6]
        have hy : rnds [h0, h1, h2, h3, h4, h5, h6, h7] b (k + 1) = [(t1 kk ww [x0, x1, x2, x3, x4, x5, x6, x7] + t2 [x0, x1, x2, x3, x4, x5, x6, x7]) % 4294967296, x0, x1, x2, (x3 + t1 kk ww [x0, x1, x2, x3, x4, x5, x6, x7]) % 4294967296, x4, x5, x6] := by
          show rnd (kAt k) (wAt b k) (rnds [h0, h1, h2, h3, h4, h5, h6, h7] b k) = _
          rw [hx'.out, hkk'.out, hww'.out]; rfl
        refine ⟨k + 1, _, _, _, _, _, _, _, _, by omega, by go_num, hy, ?_⟩
        have v0 : ((x7 : Int) + (bs1 x4 : Nat) + (ch x4 x5 x6 : Nat) + (kk : Int) + (ww : Int) + ((bs0 x0 : Nat) + (mj x0 x1 x2 : Nat))) % 4294967296 = (((t1 kk ww [x0, x1, x2, x3, x4, x5, x6, x7] + t2 [x0, x1, x2, x3, x4, x5, x6, x7]) % 4294967296 : Nat) : Int) := by
          simp only [t1, t2, List.getD_cons_zero, List.getD_cons_succ]; omega
        have v4 : ((x3 : Int) + ((x7 : Int) + (bs1 x4 : Nat) + (ch x4 x5 x6 : Nat) + (kk : Int) + (ww : Int))) % 4294967296 = (((x3 + t1 kk ww [x0, x1, x2, x3, x4, x5, x6, x7]) % 4294967296 : Nat) : Int) := by
          simp only [t1, List.getD_cons_zero, List.getD_cons_succ]; omega
        rw [v0, v4]
        exact (hmem'.out.drewN_ _).round _ _
      case measure => simp [intOf]; omega
    · have hm2 : SumMem w.heap.size T (addTo [h0, h1, h2, h3, h4, h5, h6, h7] [x0, x1, x2, x3, x4, x5, x6, x7] 0) [x0, x1, x2, x3, x4, x5, x6, x7] w wr := by
        rw [addTo_zero _ _ rfl]
        exact ⟨hmem.a, hmem.x, hmem.r, hmem.lt, hmem.bel⟩
      have hfin : comp [h0, h1, h2, h3, h4, h5, h6, h7] b = addTo [h0, h1, h2, h3, h4, h5, h6, h7] [x0, x1, x2, x3, x4, x5, x6, x7] 8 := by
        obtain rfl : k = 64 := by omega
        rw [addTo_all]; unfold comp; rw [hx'.out]
      have hfin' := Lib.hid hfin
      have ek : (k : Int) = 64 := by omega
      have hxl : [x0, x1, x2, x3, x4, x5, x6, x7].length = 8 := rfl
      have hw32 : W32 [x0, x1, x2, x3, x4, x5, x6, x7] := by have := rnds_lt [h0, h1, h2, h3, h4, h5, h6, h7] b hh k; rwa [hx'.out] at this
      clear hx' hmem hlt hk hfin l0 l1 l2 l3 l4 l5 l6 l7
      generalize [x0, x1, x2, x3, x4, x5, x6, x7] = x at *
      have hxh : [h0, h1, h2, h3, h4, h5, h6, h7].length = 8 := rfl
      generalize hHL : [h0, h1, h2, h3, h4, h5, h6, h7] = h at *
      go_wp2
      clear ek
      go_loopw [99] (fun s wr => ∃ i : Nat, i ≤ 8 ∧ s = .int .i64 (i : Int) ∧ SumMem w.heap.size T (addTo h x i) x w wr) (fun s _ => 8 - (intOf s).toNat)
      case atStart => exact ⟨0, by omega, rfl, hm2⟩
      case round =>
        obtain ⟨i, hi, rfl, hmem⟩ := hrel
        clear hm2
        by_cases hlt : i < 8
        · have hlt' : (i : Int) < 8 := by omega
          have ca := hmem.a.num (i := i) (by rw [addTo_len]; exact hlt)
          rw [addTo_get _ _ _ hlt] at ca
          have cx := hmem.x.num (i := i) (by rw [hxl]; exact hlt)
          have fa := hmem.a.frozen i
          have hst := hmem.a.setNum i ((h.getD i 0 + x.getD i 0) % 4294967296)
          rw [addTo_step _ _ _ hlt] at hst
          have hst' := Lib.hid hst
          clear hst
          generalize h.getD i 0 = p at *
          generalize x.getD i 0 = q at *
          go_wp2
          go_region
          all_goals go_wp2
          all_goals go_roundw
          case rel =>
            have hv : ((p : Int) + (q : Int)) % 4294967296 = (((p + q) % 4294967296 : Nat) : Int) := by omega
            refine ⟨i + 1, by omega, by go_num, ?_⟩
            rw [hv]
            exact ⟨hst'.out, hmem.x.far (p := ⟨w.heap.size, i, none⟩) (by have := hmem.lt; simp; omega) _, hmem.r.far (p := ⟨w.heap.size, i, none⟩) (by simp; omega) _, hmem.lt, (hmem.bel.drew).setCell (Nat.le_refl _) _⟩
          case measure => simp [intOf]; omega
        · have ei : (i : Int) = 8 := by omega
          obtain rfl : i = 8 := by omega
          have hsz0 : (Tryd.prog.info? 54).map (·.size) = some (va .u32 (addTo h x 8)).size := by rw [va_size, addTo_len]; kernel_rfl
          have hsz := Lib.hid hsz0
          have hvs : (va .u32 (addTo h x 8)).size = 8 := by rw [va_size, addTo_len]
          have hst := run_storeBlk (P := Tryd.prog) hmem.r .u32 (addTo h x 8) (by rw [va_size, addTo_len]; rfl)
          have hmem' := Lib.hid hmem
          clear hsz0 hmem
          go_wp2_with (refine wpList_load_row rfl 54 (.tmp 2) rfl w.heap.size rfl 54 (va .u32 (addTo h x 8)) (0, 0) _ hmem'.out.a Tryd.underlying54 rfl hsz.out ?_)
          exact bodyPost_ret (results_cell_row rfl _ _ (w.heap.size + 1 + 1) 54 (va .u32 (addTo h x 8)) (0, 0) _ rfl (hmem'.out.r.row _) Tryd.underlying54 rfl hsz.out) rfl ⟨by rw [hHL, hfin'.out], below_setRow hmem'.out.bel (by omega) _⟩

/-- Compress: the state after a block -/
theorem compress_any (h b : List Nat) (hl8 : h.length = 8) (hh : W32 h) (hb : Byt b) (hl : b.length = 64) (w : World) (hg : Glob w) :
    Calls Tryd.prog 32 #[.agg (va .u32 h), .agg (va .u8 b)] w fun e w' => e = .returned (.agg (va .u32 (comp h b))) ∧ Below w.heap.size w w' := by
  match h, hl8 with
  | [h0, h1, h2, h3, h4, h5, h6, h7], _ => exact compress8 h0 h1 h2 h3 h4 h5 h6 h7 b hh hb hl w hg
end Go.Proofs.YtcdmbknmmnaocaaDoor
