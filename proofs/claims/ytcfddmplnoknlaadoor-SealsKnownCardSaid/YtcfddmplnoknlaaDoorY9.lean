/-
  The walk of streams.Xor. (Printed by mkxor07c.py.)
-/
import Derived.Test.YtcfddmplnoknlaaDoorY8
import Derived.Shelf.Abstract
import Derived.ControlIn
import Derived.StillTailTactics
namespace Go.Proofs.YtcfddmplnoknlaaDoor
set_option maxRecDepth 16384
open Go.RowKit Sh
attribute [local go_sem] Oper.semAt_some
section
variable {A B : World} {lo : Nat}
theorem Holds.setCell (h : Holds lo A B) {p : Addr} (hp : p.block < lo) (v : Value) : Holds lo A (B.setCell p v) :=
 ⟨Nat.le_trans h.size (by simp [World.setCell]), fun b o hb ho hc => (Below.heap_setCell B p v b (by omega)).trans (h.cells b o hb ho hc)⟩
theorem Blk.putObj {g l : Nat} {T : TypeId} {cs : Array Value} {o : Obj} (o' : Obj) (h : Blk A g T cs) (hl : A.heap[l]? = some o) (ho : o.isCells = false) : Blk (A.putObj l o') g T cs :=
 Blk.held (lo := 0) h (Holds.put o' hl ho) (Nat.zero_le _)
theorem below_putObj {B0 l : Nat} (h : Below B0 A B) (hl : B0 ≤ l) (o : Obj) : Below B0 A (B.putObj l o) :=
 h.trans ⟨rfl, rfl, rfl, by simp, fun k hk => World.putObj_heap_other (by omega)⟩
end
theorem zv_bs (w : World) : (zeroValue 34).run Tryd.prog w = .ok (.slice none 0 0) w := by kernel_rfl
theorem zv_errno (w : World) : (zeroValue 36).run Tryd.prog w = .ok (.int .i64 0) w := by kernel_rfl
theorem zv_int (w : World) : (zeroValue 3).run Tryd.prog w = .ok (.int .i64 0) w := by kernel_rfl
theorem results_cell_cell {P : Program} {fn : Func} {p q : Tmp} {ty sy : TypeId} (h : fn.results = #[.cell p ty, .cell q sy]) (tmps : Array Value) (w : World) (g g2 : Nat) (v v2 : Value) (d d2 : TypeDesc)
  (hp : tmps.getD p undef = .pointer (some ⟨g, 0, none⟩)) (hg : w.cell? ⟨g, 0, none⟩ = some v) (hu : P.underlying ty = some d) (hd : (match d with | .struct _ | .array _ _ => true | _ => false) = false)
  (hp2 : tmps.getD q undef = .pointer (some ⟨g2, 0, none⟩)) (hg2 : w.cell? ⟨g2, 0, none⟩ = some v2) (hu2 : P.underlying sy = some d2) (hd2 : (match d2 with | .struct _ | .array _ _ => true | _ => false) = false) :
  (results fn tmps).run P w = .ok (.tuple #[v, v2]) w := by
 have hp' : tmps[p]?.getD undef = .pointer (some ⟨g, 0, none⟩) := by simpa using hp
 have hq' : tmps[q]?.getD undef = .pointer (some ⟨g2, 0, none⟩) := by simpa using hp2
 simp [results, h, hp', hq', asAddr, run_loadVar_cell ty ⟨g, 0, none⟩ v d hu hd hg, run_loadVar_cell sy ⟨g2, 0, none⟩ v2 d2 hu2 hd2 hg2]
def atk (f k : Nat) : Nat := 16 * k - f % 16
def skk (f k : Nat) : Nat := if k = 0 then f % 16 else 0
theorem atk_next (f k : Nat) : atk f (k + 1) = atk f k + (16 - skk f k) := by unfold atk skk; split <;> omega
theorem skk_le (f k : Nat) : skk f k < 16 := by unfold skk; split <;> omega
theorem xb_at {key : List Nat} {s c f : Nat} {d : List Nat} {k j : Nat} (hj : j < 16 - skk f k) : xb key s c f d (atk f k + j) = d.getD (atk f k + j) 0 ^^^ (sbl key s c (f / 16 + k)).getD (skk f k + j) 0 := by
 have e1 : (f + (atk f k + j)) / 16 = f / 16 + k := by
  unfold atk skk at *
  split at hj <;> omega
 have e2 : (f + (atk f k + j)) % 16 = skk f k + j := by
  unfold atk skk at *
  split at hj <;> simp_all <;> omega
 unfold xb
 rw [e1, e2]

structure XI (key : List Nat) (s c f n : Nat) (d : List Nat) (w : World) (B0 L0 q1 p8 p9 p11 p12 p13 k : Nat) (W : World) : Prop where
 le : atk f k ≤ n
 lo : L0 ≤ W.heap.size
 q : Blk W q1 5 (va .u8 (xmix key s c f d (atk f k)))
 r0 : Blk W p8 34 #[.slice none 0 0]
 r1 : Blk W p9 36 #[.int .i64 0]
 o : Blk W p11 34 #[.slice (some ⟨q1, 0, none⟩) n n]
 a : Blk W p12 3 #[.int .i64 ((atk f k : Nat) : Int)]
 sk : Blk W p13 3 #[.int .i64 ((skk f k : Nat) : Int)]
 bel : Below B0 w W
structure XX (key : List Nat) (s c f n : Nat) (d : List Nat) (w : World) (B0 q1 p8 p9 : Nat) (W : World) : Prop where
 q : Blk W q1 5 (va .u8 (kxor key s c f d))
 r0 : Blk W p8 34 #[.slice (some ⟨q1, 0, none⟩) n n]
 r1 : Blk W p9 36 #[.int .i64 0]
 bel : Below B0 w W
section
variable {key : List Nat} {s c f n : Nat} {d : List Nat} {w : World} {B0 L0 q1 p8 p9 p11 p12 p13 k : Nat} {A B : World}
theorem XI.turn (h : XI key s c f n d w B0 L0 q1 p8 p9 p11 p12 p13 k A) (hs : A.heap.size ≤ B.heap.size) (hb : ∀ g T cs, g < L0 → Blk A g T cs → Blk B g T cs) (hw : Below B0 w B) (b1 : q1 < L0) (b8 : p8 < L0) (b9 : p9 < L0) (b11 : p11 < L0) (b12 : p12 < L0) (b13 : p13 < L0) :
  XI key s c f n d w B0 L0 q1 p8 p9 p11 p12 p13 k B :=
 ⟨h.le, Nat.le_trans h.lo hs, hb _ _ _ b1 h.q, hb _ _ _ b8 h.r0, hb _ _ _ b9 h.r1, hb _ _ _ b11 h.o, hb _ _ _ b12 h.a, hb _ _ _ b13 h.sk, hw⟩
end

set_option maxRecDepth 8000 in
set_option maxHeartbeats 4000000 in
/-- what is done -/
theorem xor_ok (key : List Nat) (s c f n : Nat) (d : List Nat) (hkl : key.length = 16) (hkb : Byt key) (hs : s < 4294967296) (hdl : d.length = n) (hdb : Byt d) (hn : 0 < n) (hlim : f + n ≤ 1048576) (A : Option Addr) (cc B : Nat) (w : World) (hr : Reads w B 1 A n (nv .u8 d)) (hBw : B ≤ w.heap.size) :
    Calls Tryd.prog 49 #[.agg (va .u8 key), .agg (noV s c), .int .i64 (f : Int), .slice A n cc] w fun e' w' => ∃ g, e' = .returned (.tuple #[.slice (some ⟨g, 0, none⟩) n n, .int .i64 0]) ∧ Blk w' g 5 (va .u8 (kxor key s c f d)) ∧ w.heap.size ≤ g ∧ Below w.heap.size w w' := by
  obtain ⟨B0, hB0e, hW, hB0⟩ := stB w
  rw [hB0e]
  have rd := reads_ofS hr (by omega : B ≤ B0)
  clear hr hBw
  have hB0q := Lib.hid hB0e
  clear hB0e
  obtain ⟨q, hq⟩ : ∃ q, f / 16 = q := ⟨_, rfl⟩
  obtain ⟨r, hrm⟩ : ∃ r, f % 16 = r := ⟨_, rfl⟩
  have hq16 : Int.tmod (f : Int) 16 = (r : Int) := by rw [Int.tmod_eq_emod_of_nonneg (by omega)]; omega
  have hd16 : Int.tdiv (f : Int) 16 = (q : Int) := by rw [Int.tdiv_eq_ediv_of_nonneg (by omega)]; omega
  have hq16e : (f : Int) % 16 = (r : Int) := by omega
  have hd16e : (f : Int) / 16 = (q : Int) := by omega
  have hn0 : ¬ (n : Int) = 0 := by omega
  have hnN : ¬ n = 0 := by omega
  have hfI : (f : Int) ≤ 1048576 := by omega
  have hwr : IntKind.u32.wrap (q : Int) = (q : Int) := by simp [IntKind.wrap, IntKind.bits, IntKind.signed]; omega
  have hwq : IntKind.i64.wrap (q : Int) = (q : Int) := IntWalk.i64_in _ (by omega)
  have hwm : IntKind.i64.wrap (r : Int) = (r : Int) := IntWalk.i64_in _ (by omega)
  have hqq := Lib.hid hq
  have hrq := Lib.hid hrm
  have hqb : q ≤ 65536 := by omega
  clear hq hrm
  refine callsIn_wide.1 (callsIn_of_wp_marks (n := 5) Tryd.func49 rfl trivial ?_)
  refine (wpIn_wide (n := 5)).2 ?_
  simp only [Tryd.ntmps49, List.size_toArray, List.length_cons, List.length_nil, Nat.reduceAdd, Nat.reduceSub, Array.replicate_succ, Array.replicate_zero, List.push_toArray, List.append_toArray, List.nil_append, List.cons_append]
  go_upto_region 0 with fail
  refine wl_lit ?_
  refine runWL 4 (.pointer (some ⟨w.heap.size, 0, none⟩)) (w.alloc (.cells (va .u8 key) 22)) rfl (by rfl) (exec_box 22 (.tmp 0) rfl (.agg (va .u8 key)) rfl) ?_
  simp only [Ls]
  have lw_p4 := Nat.le_trans hB0 hW.size
  have hp4 := Blk.new w 22 (va .u8 key)
  replace hW := alB hW hB0 (.cells (va .u8 key) 22)
  generalize w.alloc (.cells (va .u8 key) 22) = w1 at *
  generalize w.heap.size = p4 at hp4 lw_p4  ⊢
  refine runWL 5 (.pointer (some ⟨w1.heap.size, 0, none⟩)) (w1.alloc (.cells (noV s c) 30)) rfl (by rfl) (exec_box 30 (.tmp 1) rfl (.agg (noV s c)) rfl) ?_
  simp only [Ls]
  have lp4_p5 := hp4.lt
  have lw_p5 := Nat.le_trans hB0 hW.size
  have hp5 := Blk.new w1 30 (noV s c)
  have bx := bAl w1 (.cells (noV s c) 30)
  replace hp4 := blB hp4 bx
  replace hW := trB hW hB0 bx
  clear bx
  generalize w1.alloc (.cells (noV s c) 30) = w2 at *
  generalize w1.heap.size = p5 at hp5 lw_p5 lp4_p5 ⊢
  refine runWL 8 (.pointer (some ⟨w2.heap.size, 0, none⟩)) (w2.alloc (.cells (#[.slice none 0 0]) 34)) rfl (by rfl) (exec_allocV 34 rfl _ (zv_bs _)) ?_
  simp only [Ls]
  have lp4_p8 := hp4.lt
  have lp5_p8 := hp5.lt
  have lw_p8 := Nat.le_trans hB0 hW.size
  have hp8 := Blk.new w2 34 (#[.slice none 0 0])
  have bx := bAl w2 (.cells (#[.slice none 0 0]) 34)
  replace hp4 := blB hp4 bx
  replace hp5 := blB hp5 bx
  replace hW := trB hW hB0 bx
  clear bx
  generalize w2.alloc (.cells (#[.slice none 0 0]) 34) = w3 at *
  generalize w2.heap.size = p8 at hp8 lw_p8 lp4_p8 lp5_p8 ⊢
  refine runWL 9 (.pointer (some ⟨w3.heap.size, 0, none⟩)) (w3.alloc (.cells (#[.int .i64 0]) 36)) rfl (by rfl) (exec_allocV 36 rfl _ (zv_errno _)) ?_
  simp only [Ls]
  have lp4_p9 := hp4.lt
  have lp5_p9 := hp5.lt
  have lp8_p9 := hp8.lt
  have lw_p9 := Nat.le_trans hB0 hW.size
  have hp9 := Blk.new w3 36 (#[.int .i64 0])
  have bx := bAl w3 (.cells (#[.int .i64 0]) 36)
  replace hp4 := blB hp4 bx
  replace hp5 := blB hp5 bx
  replace hp8 := blB hp8 bx
  replace hW := trB hW hB0 bx
  clear bx
  generalize w3.alloc (.cells (#[.int .i64 0]) 36) = w4 at *
  generalize w3.heap.size = p9 at hp9 lw_p9 lp4_p9 lp5_p9 lp8_p9 ⊢
  refine nilL ?_
  go_upto_region 1 with fail
  refine wl_lit ?_
  refine runL 17 (.int .i64 (f : Int)) rfl (by rfl) (by go_simp) ?_
  refine runL 18 (.slice A n cc) rfl (by rfl) (by go_simp) ?_
  refine runL 19 (.int .i64 n) rfl (by rfl) (by go_simp) ?_
  simp only [Ls]
  refine callL 20 rfl (by rfl) (fun K hK => wp_callF 67 #[.int .i64 (f : Int), .int .i64 n] (by go_simp) (check_anyS (f : Int) (n : Int) 0 (by unfold chkS; rw [if_neg (by omega), if_neg (by omega)]) (by omega) (by omega) _) ?_)
  rintro e w5 ⟨rfl, bx⟩
  replace hp4 := blB hp4 bx
  replace hp5 := blB hp5 bx
  replace hp8 := blB hp8 bx
  replace hp9 := blB hp9 bx
  replace hW := trB hW hB0 bx
  clear bx
  refine ⟨_, rfl, hK.out _ _ ?_⟩
  clear hK K
  refine runL 10 (.int .i64 0) rfl (by rfl) (by go_simp) ?_
  simp only [Ls]
  refine nilL ?_
  go_upto_region 2 with fail
  refine wl_lit ?_
  refine runL 21 (.int .i64 0) rfl (by rfl) (by go_simp) ?_
  refine runL 22 (.bool false) rfl (by rfl) (by go_simp) ?_
  refine runL 23 (.bool false) rfl (by rfl) (by go_simp) ?_
  refine runL 24 (.slice A n cc) rfl (by rfl) (by go_simp) ?_
  refine runL 25 (.int .i64 n) rfl (by rfl) (by go_simp) ?_
  refine runL 26 (.bool false) rfl (by rfl) (by go_simp) ?_
  refine runL 27 (.bool false) rfl (by rfl) (by go_simp) ?_
  simp only [Ls]
  refine nilL ?_
  go_upto_region 4 with fail
  refine wl_lit ?_
  refine runL 29 (.slice A n cc) rfl (by rfl) (by go_simp) ?_
  refine runL 30 (.int .i64 n) rfl (by rfl) (by go_simp) ?_
  simp only [Ls]
  refine runWL 31 (.slice (some ⟨w5.heap.size, 0, none⟩) n n) (w5.alloc (.cells (va .u8 (List.replicate n 0)) 5)) rfl (by rfl) (exec_makeB _ _ rfl n (by omega) rfl rfl) ?_
  simp only [Ls]
  have lp4_q1 := hp4.lt
  have lp5_q1 := hp5.lt
  have lp8_q1 := hp8.lt
  have lp9_q1 := hp9.lt
  have lw_q1 := Nat.le_trans hB0 hW.size
  have hq1 : Blk (w5.alloc (.cells (va .u8 (List.replicate n 0)) 5)) w5.heap.size 5 (va .u8 (List.replicate n 0)) := Blk.new _ _ _
  have bx := bAl w5 (.cells (va .u8 (List.replicate n 0)) 5)
  replace hp4 := blB hp4 bx
  replace hp5 := blB hp5 bx
  replace hp8 := blB hp8 bx
  replace hp9 := blB hp9 bx
  replace hW := trB hW hB0 bx
  clear bx
  generalize w5.alloc (.cells (va .u8 (List.replicate n 0)) 5) = w6 at *
  generalize w5.heap.size = q1 at hq1 lw_q1 lp4_q1 lp5_q1 lp8_q1 lp9_q1 ⊢
  refine runWL 11 (.pointer (some ⟨w6.heap.size, 0, none⟩)) (w6.alloc (.cells (#[.slice none 0 0]) 34)) rfl (by rfl) (exec_allocV 34 rfl _ (zv_bs _)) ?_
  simp only [Ls]
  have lp4_p11 := hp4.lt
  have lp5_p11 := hp5.lt
  have lp8_p11 := hp8.lt
  have lp9_p11 := hp9.lt
  have lq1_p11 := hq1.lt
  have lw_p11 := Nat.le_trans hB0 hW.size
  have hp11 := Blk.new w6 34 (#[.slice none 0 0])
  have bx := bAl w6 (.cells (#[.slice none 0 0]) 34)
  replace hp4 := blB hp4 bx
  replace hp5 := blB hp5 bx
  replace hp8 := blB hp8 bx
  replace hp9 := blB hp9 bx
  clear bx
  replace hq1 := hq1.alloc (.cells (#[.slice none 0 0]) 34)
  replace hW := alB hW hB0 (.cells (#[.slice none 0 0]) 34)
  generalize w6.alloc (.cells (#[.slice none 0 0]) 34) = w7 at *
  generalize w6.heap.size = p11 at hp11 lw_p11 lp4_p11 lp5_p11 lp8_p11 lp9_p11 lq1_p11 ⊢
  refine runSL (w7.setCell ⟨p11, 0, none⟩ (.slice (some ⟨q1, 0, none⟩) n n)) rfl (by rfl) (exec_storeCell 34 (.tmp 11) (.tmp 31) rfl p11 0 rfl (.slice (some ⟨q1, 0, none⟩) n n) rfl rfl rfl 34 (#[.slice none 0 0]) hp11 (show 0 < 1 by decide) (by kernel_rfl)) ?_
  replace hp4 := hp4.far (p := ⟨p11, 0, none⟩) (show p4 ≠ p11 from (by omega)) (.slice (some ⟨q1, 0, none⟩) n n)
  replace hp5 := hp5.far (p := ⟨p11, 0, none⟩) (show p5 ≠ p11 from (by omega)) (.slice (some ⟨q1, 0, none⟩) n n)
  replace hp8 := hp8.far (p := ⟨p11, 0, none⟩) (show p8 ≠ p11 from (by omega)) (.slice (some ⟨q1, 0, none⟩) n n)
  replace hp9 := hp9.far (p := ⟨p11, 0, none⟩) (show p9 ≠ p11 from (by omega)) (.slice (some ⟨q1, 0, none⟩) n n)
  replace hq1 := hq1.far (p := ⟨p11, 0, none⟩) (show q1 ≠ p11 from (by omega)) (.slice (some ⟨q1, 0, none⟩) n n)
  replace hp11 : Blk (w7.setCell ⟨p11, 0, none⟩ (.slice (some ⟨q1, 0, none⟩) n n)) p11 34 (#[.slice (some ⟨q1, 0, none⟩) n n]) := hp11.set_ 0 (.slice (some ⟨q1, 0, none⟩) n n)
  replace hW := hW.setCell (p := ⟨p11, 0, none⟩) lw_p11 (.slice (some ⟨q1, 0, none⟩) n n)
  generalize w7.setCell ⟨p11, 0, none⟩ (.slice (some ⟨q1, 0, none⟩) n n) = w8 at *
  refine nilL ?_
  go_upto_region 5 with fail
  refine wl_lit ?_
  refine runL 32 (.slice (some ⟨q1, 0, none⟩) n n) rfl (by rfl) (exec_cell 34 (.tmp 11) rfl p11 0 rfl (.slice (some ⟨q1, 0, none⟩) n n) _ Tryd.underlying34 rfl (hp11.cellIs 0 rfl)) ?_
  refine runL 33 (.slice A n cc) rfl (by rfl) (by go_simp) ?_
  simp only [Ls]
  refine runWL 34 (.int .i64 n) (w8.setRow q1 (va .u8 d)) rfl (by rfl) (exec_copy _ _ _ _ rfl _ _ _ rfl rfl (copy_row _ _ _ Tryd.underlying34 q1 0 n n 5 (List.replicate n 0) hq1 A n cc _ d (rd.out _ hW) (by simp) (by simp) d (by rw [List.take_zero]; simp))) ?_
  simp only [Ls]
  replace hp4 := hp4.rowFar (show q1 ≠ p4 from (by omega)) (va .u8 d)
  replace hp5 := hp5.rowFar (show q1 ≠ p5 from (by omega)) (va .u8 d)
  replace hp8 := hp8.rowFar (show q1 ≠ p8 from (by omega)) (va .u8 d)
  replace hp9 := hp9.rowFar (show q1 ≠ p9 from (by omega)) (va .u8 d)
  replace hp11 := hp11.rowFar (show q1 ≠ p11 from (by omega)) (va .u8 d)
  replace hq1 := hq1.row (va .u8 d)
  replace hW := below_setRow hW lw_q1 (va .u8 d)
  generalize w8.setRow q1 (va .u8 d) = w9 at *
  refine nilL ?_
  go_upto_region 6 with fail
  refine wl_lit ?_
  refine runL 35 (.int .i64 (f : Int)) rfl (by rfl) (by go_simp) ?_
  refine runL 36 (.int .i64 (r : Int)) rfl (by rfl) (by go_simp) ?_
  simp only [Ls]
  refine runWL 12 (.pointer (some ⟨w9.heap.size, 0, none⟩)) (w9.alloc (.cells (#[.int .i64 0]) 3)) rfl (by rfl) (exec_allocV 3 rfl _ (zv_int _)) ?_
  simp only [Ls]
  have lp4_p12 := hp4.lt
  have lp5_p12 := hp5.lt
  have lp8_p12 := hp8.lt
  have lp9_p12 := hp9.lt
  have lq1_p12 := hq1.lt
  have lp11_p12 := hp11.lt
  have lw_p12 := Nat.le_trans hB0 hW.size
  have hp12 := Blk.new w9 3 (#[.int .i64 0])
  have bx := bAl w9 (.cells (#[.int .i64 0]) 3)
  replace hp4 := blB hp4 bx
  replace hp5 := blB hp5 bx
  replace hp8 := blB hp8 bx
  replace hp9 := blB hp9 bx
  clear bx
  replace hq1 := hq1.alloc (.cells (#[.int .i64 0]) 3)
  have bx := bAl w9 (.cells (#[.int .i64 0]) 3)
  replace hp11 := blB hp11 bx
  replace hW := trB hW hB0 bx
  clear bx
  generalize w9.alloc (.cells (#[.int .i64 0]) 3) = w10 at *
  generalize w9.heap.size = p12 at hp12 lw_p12 lp4_p12 lp5_p12 lp8_p12 lp9_p12 lq1_p12 lp11_p12 ⊢
  refine runWL 13 (.pointer (some ⟨w10.heap.size, 0, none⟩)) (w10.alloc (.cells (#[.int .i64 0]) 3)) rfl (by rfl) (exec_allocV 3 rfl _ (zv_int _)) ?_
  simp only [Ls]
  have lp4_p13 := hp4.lt
  have lp5_p13 := hp5.lt
  have lp8_p13 := hp8.lt
  have lp9_p13 := hp9.lt
  have lq1_p13 := hq1.lt
  have lp11_p13 := hp11.lt
  have lp12_p13 := hp12.lt
  have lw_p13 := Nat.le_trans hB0 hW.size
  have hp13 := Blk.new w10 3 (#[.int .i64 0])
  have bx := bAl w10 (.cells (#[.int .i64 0]) 3)
  replace hp4 := blB hp4 bx
  replace hp5 := blB hp5 bx
  replace hp8 := blB hp8 bx
  replace hp9 := blB hp9 bx
  clear bx
  replace hq1 := hq1.alloc (.cells (#[.int .i64 0]) 3)
  have bx := bAl w10 (.cells (#[.int .i64 0]) 3)
  replace hp11 := blB hp11 bx
  replace hp12 := blB hp12 bx
  replace hW := trB hW hB0 bx
  clear bx
  generalize w10.alloc (.cells (#[.int .i64 0]) 3) = w11 at *
  generalize w10.heap.size = p13 at hp13 lw_p13 lp4_p13 lp5_p13 lp8_p13 lp9_p13 lq1_p13 lp11_p13 lp12_p13 ⊢
  refine runSL (w11.setCell ⟨p12, 0, none⟩ (.int .i64 0)) rfl (by rfl) (exec_storeCell 3 (.tmp 12) _ rfl p12 0 rfl (.int .i64 0) rfl rfl rfl 3 (#[.int .i64 0]) hp12 (show 0 < 1 by decide) (by kernel_rfl)) ?_
  replace hp4 := hp4.far (p := ⟨p12, 0, none⟩) (show p4 ≠ p12 from (by omega)) (.int .i64 0)
  replace hp5 := hp5.far (p := ⟨p12, 0, none⟩) (show p5 ≠ p12 from (by omega)) (.int .i64 0)
  replace hp8 := hp8.far (p := ⟨p12, 0, none⟩) (show p8 ≠ p12 from (by omega)) (.int .i64 0)
  replace hp9 := hp9.far (p := ⟨p12, 0, none⟩) (show p9 ≠ p12 from (by omega)) (.int .i64 0)
  replace hq1 := hq1.far (p := ⟨p12, 0, none⟩) (show q1 ≠ p12 from (by omega)) (.int .i64 0)
  replace hp11 := hp11.far (p := ⟨p12, 0, none⟩) (show p11 ≠ p12 from (by omega)) (.int .i64 0)
  replace hp13 := hp13.far (p := ⟨p12, 0, none⟩) (show p13 ≠ p12 from (by omega)) (.int .i64 0)
  replace hp12 : Blk (w11.setCell ⟨p12, 0, none⟩ (.int .i64 0)) p12 3 (#[.int .i64 0]) := hp12.set_ 0 (.int .i64 0)
  replace hW := hW.setCell (p := ⟨p12, 0, none⟩) lw_p12 (.int .i64 0)
  generalize w11.setCell ⟨p12, 0, none⟩ (.int .i64 0) = w12 at *
  refine runSL (w12.setCell ⟨p13, 0, none⟩ (.int .i64 (r : Int))) rfl (by rfl) (exec_storeCell 3 (.tmp 13) (.tmp 36) rfl p13 0 rfl (.int .i64 (r : Int)) rfl rfl rfl 3 (#[.int .i64 0]) hp13 (show 0 < 1 by decide) (by kernel_rfl)) ?_
  replace hp4 := hp4.far (p := ⟨p13, 0, none⟩) (show p4 ≠ p13 from (by omega)) (.int .i64 (r : Int))
  replace hp5 := hp5.far (p := ⟨p13, 0, none⟩) (show p5 ≠ p13 from (by omega)) (.int .i64 (r : Int))
  replace hp8 := hp8.far (p := ⟨p13, 0, none⟩) (show p8 ≠ p13 from (by omega)) (.int .i64 (r : Int))
  replace hp9 := hp9.far (p := ⟨p13, 0, none⟩) (show p9 ≠ p13 from (by omega)) (.int .i64 (r : Int))
  replace hq1 := hq1.far (p := ⟨p13, 0, none⟩) (show q1 ≠ p13 from (by omega)) (.int .i64 (r : Int))
  replace hp11 := hp11.far (p := ⟨p13, 0, none⟩) (show p11 ≠ p13 from (by omega)) (.int .i64 (r : Int))
  replace hp12 := hp12.far (p := ⟨p13, 0, none⟩) (show p12 ≠ p13 from (by omega)) (.int .i64 (r : Int))
  replace hp13 : Blk (w12.setCell ⟨p13, 0, none⟩ (.int .i64 (r : Int))) p13 3 (#[.int .i64 (r : Int)]) := hp13.set_ 0 (.int .i64 (r : Int))
  replace hW := hW.setCell (p := ⟨p13, 0, none⟩) lw_p13 (.int .i64 (r : Int))
  generalize w12.setCell ⟨p13, 0, none⟩ (.int .i64 (r : Int)) = w13 at *
  refine nilL ?_
  obtain ⟨L0, hL0⟩ : ∃ L, w13.heap.size = L := ⟨_, rfl⟩
  have bp4 : p4 < L0 := by rw [← hL0]; exact hp4.lt
  have bp5 : p5 < L0 := by rw [← hL0]; exact hp5.lt
  have bp8 : p8 < L0 := by rw [← hL0]; exact hp8.lt
  have bp9 : p9 < L0 := by rw [← hL0]; exact hp9.lt
  have bq1 : q1 < L0 := by rw [← hL0]; exact hq1.lt
  have bp11 : p11 < L0 := by rw [← hL0]; exact hp11.lt
  have bp12 : p12 < L0 := by rw [← hL0]; exact hp12.lt
  have bp13 : p13 < L0 := by rw [← hL0]; exact hp13.lt
  have hBL : B0 ≤ L0 := by rw [← hL0]; exact Nat.le_trans hB0 hW.size
  have hLq := Lib.hid hL0
  clear hL0
  go_upto_region 7 with fail
  refine wl_lit ?_
  refine runL 37 (.agg (va .u8 key)) rfl (by rfl) (exec_row 22 (.tmp 4) rfl p4 rfl 22 (va .u8 key) _ hp4 (by exact Tryd.underlying22) rfl (sz__16_uint8 _ hkl)) ?_
  refine runL 38 (.agg (noV s c)) rfl (by rfl) (exec_row 30 (.tmp 5) rfl p5 rfl 30 (noV s c) _ hp5 (by exact Tryd.underlying30) rfl (noV_sz _ _)) ?_
  refine runL 39 (.int .i64 (f : Int)) rfl (by rfl) (by go_simp) ?_
  refine runL 40 (.int .i64 (q : Int)) rfl (by rfl) (by go_simp) ?_
  refine runL 41 (.int .u32 (q : Int)) rfl (by rfl) (by go_simp) ?_
  simp only [Ls]
  refine callL 42 rfl (by rfl) (fun K hK => wp_callF 68 #[.agg (va .u8 key), .agg (noV s c), .int .u32 (q : Int)] (by go_simp) (blocks_any key s c q hkl _) ?_)
  rintro e w14 ⟨c1, c2, c3, rfl, hc1, hc2, hc3, hg1, hg2, hg3, bx⟩
  have hL1 : L0 ≤ c1 := by rw [← hLq.out]; exact hg1
  have hL2 : L0 ≤ c2 := by rw [← hLq.out]; exact hg2
  have hL3 : L0 ≤ c3 := by rw [← hLq.out]; exact hg3
  have lp4_c1 : p4 < c1 := Nat.lt_of_lt_of_le hp4.lt hg1
  have lp5_c1 : p5 < c1 := Nat.lt_of_lt_of_le hp5.lt hg1
  have lp8_c1 : p8 < c1 := Nat.lt_of_lt_of_le hp8.lt hg1
  have lp9_c1 : p9 < c1 := Nat.lt_of_lt_of_le hp9.lt hg1
  have lq1_c1 : q1 < c1 := Nat.lt_of_lt_of_le hq1.lt hg1
  have lp11_c1 : p11 < c1 := Nat.lt_of_lt_of_le hp11.lt hg1
  have lp12_c1 : p12 < c1 := Nat.lt_of_lt_of_le hp12.lt hg1
  have lp13_c1 : p13 < c1 := Nat.lt_of_lt_of_le hp13.lt hg1
  have lw_c1 : B0 ≤ c1 := Nat.le_trans (Nat.le_trans hB0 hW.size) hg1
  have lp4_c2 : p4 < c2 := Nat.lt_of_lt_of_le hp4.lt hg2
  have lp5_c2 : p5 < c2 := Nat.lt_of_lt_of_le hp5.lt hg2
  have lp8_c2 : p8 < c2 := Nat.lt_of_lt_of_le hp8.lt hg2
  have lp9_c2 : p9 < c2 := Nat.lt_of_lt_of_le hp9.lt hg2
  have lq1_c2 : q1 < c2 := Nat.lt_of_lt_of_le hq1.lt hg2
  have lp11_c2 : p11 < c2 := Nat.lt_of_lt_of_le hp11.lt hg2
  have lp12_c2 : p12 < c2 := Nat.lt_of_lt_of_le hp12.lt hg2
  have lp13_c2 : p13 < c2 := Nat.lt_of_lt_of_le hp13.lt hg2
  have lw_c2 : B0 ≤ c2 := Nat.le_trans (Nat.le_trans hB0 hW.size) hg2
  have lp4_c3 : p4 < c3 := Nat.lt_of_lt_of_le hp4.lt hg3
  have lp5_c3 : p5 < c3 := Nat.lt_of_lt_of_le hp5.lt hg3
  have lp8_c3 : p8 < c3 := Nat.lt_of_lt_of_le hp8.lt hg3
  have lp9_c3 : p9 < c3 := Nat.lt_of_lt_of_le hp9.lt hg3
  have lq1_c3 : q1 < c3 := Nat.lt_of_lt_of_le hq1.lt hg3
  have lp11_c3 : p11 < c3 := Nat.lt_of_lt_of_le hp11.lt hg3
  have lp12_c3 : p12 < c3 := Nat.lt_of_lt_of_le hp12.lt hg3
  have lp13_c3 : p13 < c3 := Nat.lt_of_lt_of_le hp13.lt hg3
  have lw_c3 : B0 ≤ c3 := Nat.le_trans (Nat.le_trans hB0 hW.size) hg3
  replace hp4 := blB hp4 bx
  replace hp5 := blB hp5 bx
  replace hp8 := blB hp8 bx
  replace hp9 := blB hp9 bx
  replace hq1 := blB hq1 bx
  replace hp11 := blB hp11 bx
  replace hp12 := blB hp12 bx
  replace hp13 := blB hp13 bx
  replace hW := trB hW hB0 bx
  clear hg1 hg2 hg3
  clear bx
  refine ⟨_, rfl, hK.out _ _ ?_⟩
  clear hK K
  simp only [Ls]
  refine nilL ?_
  go_wp2_with fail
  have n13 : c1 ≠ c3 := Blk.ne_ hc1 hc3 (by decide)
  have n23 : c2 ≠ c3 := Blk.ne_ hc2 hc3 (by decide)
  have e0 : atk f 0 = 0 := by unfold atk; omega
  have es0 : skk f 0 = r := by unfold skk; rw [if_pos rfl]; exact hrq.out
  have hws : L0 ≤ w14.heap.size := Nat.le_trans hL1 (Nat.le_of_lt hc1.lt)
  refine (wpIn_wide (n := 5)).1 (wp_rangeEndless (gf := 79) (lb := #[.pointer (some ⟨c1, 0, none⟩), .pointer (some ⟨c2, 0, none⟩), .pointer (some ⟨c3, 0, none⟩)]) rfl (enters_of Tryd.func79 (by kernel_rfl) rfl) (blocks_ends key s c q hkl hkb hs c1 c2 c3 L0 (n / 16 + 3) (by omega) _ hc1 hc2 hc3 hL1 hL2 hL3 n13 n23)
    (fun k W => XI key s c f n d w B0 L0 q1 p8 p9 p11 p12 p13 k W) (fun W => XX key s c f n d w B0 q1 p8 p9 W) (n / 16 + 2) (by omega)
    (fun k a₁ W => ∃ bb, L0 ≤ bb ∧ Blk W bb 22 (va .u8 (sbl key s c (q + k))) ∧ a₁ = { tmps := #[.agg (va .u8 key), .agg (noV s c), .int .i64 (f : Int), .slice A n cc, .pointer (some ⟨p4, 0, none⟩), .pointer (some ⟨p5, 0, none⟩), undef, undef, .pointer (some ⟨p8, 0, none⟩), .pointer (some ⟨p9, 0, none⟩), .int .i64 0, .pointer (some ⟨p11, 0, none⟩), .pointer (some ⟨p12, 0, none⟩), .pointer (some ⟨p13, 0, none⟩), .pointer (some ⟨bb, 0, none⟩), undef, undef, .int .i64 (f : Int), .slice A n cc, .int .i64 n, .int .i64 0, .int .i64 0, .bool false, .bool false, .slice A n cc, .int .i64 n, .bool false, .bool false, undef, .slice A n cc, .int .i64 n, .slice (some ⟨q1, 0, none⟩) n n, .slice (some ⟨q1, 0, none⟩) n n, .slice A n cc, .int .i64 n, .int .i64 (f : Int), .int .i64 (r : Int), .agg (va .u8 key), .agg (noV s c), .int .i64 (f : Int), .int .i64 (q : Int), .int .u32 (q : Int), .func (.func 79) #[] #[.pointer (some ⟨c1, 0, none⟩), .pointer (some ⟨c2, 0, none⟩), .pointer (some ⟨c3, 0, none⟩)], .agg (va .u8 (sbl key s c (q + k))), undef, undef, undef, undef, undef, undef, undef, undef, undef, undef, undef, undef, undef, undef, undef, undef, undef, undef, undef, undef, undef, undef, undef], defers := [] } ∧ XI key s c f n d w B0 L0 q1 p8 p9 p11 p12 p13 k W)
    ?hIb ?hIc ?hIp ?hXp ?hAp ?h0 ?hN ?assign ?body ?stop)
  case hIb => exact fun k A B h bx => h.turn bx.size (fun g T cs hg hb => hb.below bx hb.lt) (h.bel.trans (bx.mono (Nat.le_trans hBL h.lo))) bq1 bp8 bp9 bp11 bp12 bp13
  case hIc => exact fun k A v h => h.turn (by simp [World.setCell]) (fun g T cs hg hb => hb.far (p := ⟨c3, 0, none⟩) (show g ≠ c3 by omega) v) (h.bel.setCell (p := ⟨c3, 0, none⟩) (show B0 ≤ c3 by omega) v) bq1 bp8 bp9 bp11 bp12 bp13
  case hIp => exact fun k A l o o' hl h ho hc => h.turn (by simp) (fun g T cs hg hb => hb.putObj o' ho hc) (below_putObj h.bel (by omega) o') bq1 bp8 bp9 bp11 bp12 bp13
  case hXp => exact fun A l o o' hl h ho hc => ⟨h.q.putObj o' ho hc, h.r0.putObj o' ho hc, h.r1.putObj o' ho hc, below_putObj h.bel (by omega) o'⟩
  case hAp =>
    rintro k a₁ A l o o' hl ⟨bb, hb1, hb2, rfl, h⟩ ho hc
    exact ⟨bb, hb1, hb2.putObj o' ho hc, rfl, h.turn (by simp) (fun g T cs hg hb => hb.putObj o' ho hc) (below_putObj h.bel (by omega) o') bq1 bp8 bp9 bp11 bp12 bp13⟩
  case h0 =>
    refine ⟨by rw [e0]; omega, hws, ?_, hp8, hp9, hp11, ?_, ?_, hW⟩
    · rw [e0, xmix_zero]; exact hq1
    · rw [e0]; exact hp12
    · rw [es0]; exact hp13
  case hN =>
    intro k W h
    have := h.le
    unfold atk at this
    omega
  case assign =>
    intro m l k W K hI hK
    simp only [List.setIfInBounds_toArray, List.set_cons_zero, List.set_cons_succ]
    refine wl_litIn (by kernel_rfl) notOut_false ?_
    refine runWL 14 (.pointer (some ⟨W.heap.size, 0, none⟩)) (W.alloc (.cells (va .u8 (List.replicate 16 0)) 22)) rfl (by rfl) (exec_allocV 22 rfl _ (zv__16_uint8 _)) ?_
    simp only [Ls]
    have hbb := Blk.new W 22 (va .u8 (List.replicate 16 0))
    refine runSL ((W.alloc (.cells (va .u8 (List.replicate 16 0)) 22)).setRow W.heap.size (va .u8 (sbl key s c (q + k)))) rfl (by rfl) (exec_storeRow 22 (.tmp 14) (.tmp 43) rfl W.heap.size rfl (va .u8 (sbl key s c (q + k))) rfl 22 _ hbb (sz_eq (sz__16_uint8 _ List.length_replicate) (sz__16_uint8 _ (sbl_len _ _ _ _))) (sz__16_uint8 _ (sbl_len _ _ _ _)) (va_ones .u8 _)) ?_
    refine nilL ?_
    have bx : Below W.heap.size W ((W.alloc (.cells (va .u8 (List.replicate 16 0)) 22)).setRow W.heap.size (va .u8 (sbl key s c (q + k)))) := below_setRow ((Below.refl _ W).alloc (Nat.le_refl _) _) (Nat.le_refl _) _
    exact hK _ _ bx ⟨W.heap.size, hI.lo, hbb.row _, rfl, hI.turn bx.size (fun g T cs hg hb => hb.below bx hb.lt) (hI.bel.trans (bx.mono (Nat.le_trans hBL hI.lo))) bq1 bp8 bp9 bp11 bp12 bp13⟩
  case stop =>
    intro D W hD h hK
    go_wp2_with fail
    refine ⟨by simp, .inl ⟨_, _, rfl, run_takeDeferred hK, ?_⟩⟩
    have h8 := h.r0.putObj (.deferred none) hK rfl
    have h9 := h.r1.putObj (.deferred none) hK rfl
    exact ⟨_, results_cell_cell rfl _ _ p8 p9 (.slice (some ⟨q1, 0, none⟩) n n) (.int .i64 0) _ _ rfl (h8.cellIs 0 rfl) (by exact Tryd.underlying34) rfl rfl (h9.cellIs 0 rfl) (by exact Tryd.underlying36) rfl, q1, rfl, h.q.putObj _ hK rfl, lw_q1, below_putObj h.bel (by omega) _⟩
  case body =>
    clear hp4 hp5 hp8 hp9 hq1 hp11 hp12 hp13 hc1 hc2 hc3 hW
    rintro m l k a₁ W ⟨bb, hbL, hbb, rfl, hI⟩
    obtain ⟨hle, hlo, hq1, hp8, hp9, hp11, hp12, hp13, hW⟩ := hI
    obtain ⟨a0, ha0⟩ : ∃ a, atk f k = a := ⟨_, rfl⟩
    obtain ⟨sk, hsk⟩ : ∃ a, skk f k = a := ⟨_, rfl⟩
    obtain ⟨mm, hmm⟩ : ∃ a, 16 - sk = a := ⟨_, rfl⟩
    have hsk16 : sk < 16 := by rw [← hsk]; exact skk_le f k
    have hnx : atk f (k + 1) = a0 + mm := by rw [atk_next, ha0, hsk, hmm]
    have hsl := sbl_len key s c (q + k)
    have hsb := sbl_byt key s c (q + k) hkb
    have hxk : ∀ j, j < mm → xb key s c f d (a0 + j) = d.getD (a0 + j) 0 ^^^ (sbl key s c (q + k)).getD (sk + j) 0 := fun j hj => by
      have := xb_at (key := key) (s := s) (c := c) (f := f) (d := d) (k := k) (j := j) (by rw [hsk, hmm]; exact hj)
      rwa [ha0, hsk, hqq.out] at this
    rw [ha0] at hle hq1 hp12
    rw [hsk] at hp13
    have hmI : (16 : Int) - (sk : Int) = (mm : Int) := by omega
    have hskI : (sk : Int) ≤ 16 := by omega
    have hnxq := Lib.hid hnx
    have hxkq := Lib.hid hxk
    have hmq := Lib.hid hmm
    have hmN : 16 - sk = mm := hmm
    have hko : KeepsOthers W W := KeepsOthers.refl _
    have hhl : Holds L0 W W := Holds.refl _ _
    have hsk0 : skk f (k + 1) = 0 := by unfold skk; rw [if_neg (by omega)]
    have hskq := Lib.hid hsk0
    clear hnx hxk hmm ha0 hsk hsk0
    have lb_q1 : bb ≠ q1 := by omega
    have hs16 : ¬ 16 = sk := by omega
    clear hlo
    repeat (first | (refine wl_round ?hnd ?_; (case hnd => kernel_rfl)) | gi_step)
    refine runL 44 (.int .i64 ((sk : Nat) : Int)) rfl (by rfl) (exec_cell 3 (.tmp 13) rfl p13 0 rfl (.int .i64 ((sk : Nat) : Int)) _ Tryd.underlying3 rfl (hp13.cellIs 0 rfl)) ?_
    refine runL 45 (.slice (some ⟨bb, sk, none⟩) mm mm) rfl (by rfl) (by go_simp) ?_
    refine runL 46 (.int .i64 mm) rfl (by rfl) (by go_simp) ?_
    refine runL 47 (.int .i64 0) rfl (by rfl) (by go_simp) ?_
    simp only [Ls]
    refine nilL ?_
    repeat gi_step
    gi_loopw [47] (fun i wr => ∃ j : Nat, j ≤ mm ∧ i = .int .i64 (j : Int) ∧ a0 + j ≤ n ∧ Blk wr q1 5 (va .u8 (xmix key s c f d (a0 + j))) ∧ Blk wr p8 34 #[.slice none 0 0] ∧ Blk wr p9 36 #[.int .i64 0] ∧ Blk wr p11 34 #[.slice (some ⟨q1, 0, none⟩) n n] ∧ Blk wr p12 3 #[.int .i64 ((a0 + j : Nat) : Int)] ∧ Blk wr p13 3 #[.int .i64 ((sk : Nat) : Int)] ∧ Blk wr bb 22 (va .u8 (sbl key s c (q + k))) ∧ Below B0 w wr ∧ KeepsOthers W wr ∧ Holds L0 W wr) (fun i _ => 16 - (intOf i).toNat)
    case atStart => exact ⟨0, by omega, rfl, by omega, hq1, hp8, hp9, hp11, hp12, hp13, hbb, hW, hko, hhl⟩
    case round =>
      clear hq1 hp8 hp9 hp11 hp12 hp13 hbb hW hko hhl
      obtain ⟨j, hj, rfl, hjn, hq1, hp8, hp9, hp11, hp12, hp13, hbb, hW, hko, hhl⟩ := hrel
      by_cases hlt : j < mm
      ·
        have hltI : (j : Int) < (mm : Int) := by omega
        obtain ⟨e, he⟩ : ∃ e, a0 + j = e := ⟨_, rfl⟩
        have hx := hxkq.out j hlt
        rw [he] at hq1 hp12 hjn hx
        obtain ⟨y, hye⟩ : ∃ y, (sbl key s c (q + k)).getD (sk + j) 0 = y := ⟨_, rfl⟩
        have hyb := hsb.get (sk + j)
        rw [hye] at hx hyb
        have hyq := Lib.hid hye
        have hsj : sk + j < 16 := by have := hmq.out; omega
        clear hye
        repeat (first | (refine wl_round ?hnd ?_; (case hnd => kernel_rfl)) | gi_step)
        refine runL 48 (.bool true) rfl (by rfl) (by go_simp) ?_
        simp only [Ls]
        refine nilL ?_
        repeat (first | (refine wl_round ?hnd ?_; (case hnd => kernel_rfl)) | gi_step)
        refine runL 49 (.pointer (some ⟨bb, sk + j, none⟩)) rfl (by rfl) (by go_simp) ?_
        refine runL 50 (.int .u8 ((y : Nat) : Int)) rfl (by rfl) (exec_cell 5 (.tmp 49) rfl bb (sk + j) rfl (.int .u8 ((y : Nat) : Int)) _ Tryd.underlying5 rfl (by rw [← hyq.out]; exact hbb.num (by rw [hsl]; exact hsj))) ?_
        refine runL 16 (.int .u8 ((y : Nat) : Int)) rfl (by rfl) (by go_simp) ?_
        simp only [Ls]
        refine nilL ?_
        by_cases hen : e = n
        ·
          have heI : (e : Int) = (n : Int) := by omega
          rw [xmix_all (by omega)] at hq1
          repeat (first | (refine wl_round ?hnd ?_; (case hnd => kernel_rfl)) | gi_step)
          refine runL 51 (.int .i64 ((e : Nat) : Int)) rfl (by rfl) (exec_cell 3 (.tmp 12) rfl p12 0 rfl (.int .i64 ((e : Nat) : Int)) _ Tryd.underlying3 rfl (hp12.cellIs 0 rfl)) ?_
          refine runL 52 (.slice (some ⟨q1, 0, none⟩) n n) rfl (by rfl) (exec_cell 34 (.tmp 11) rfl p11 0 rfl (.slice (some ⟨q1, 0, none⟩) n n) _ Tryd.underlying34 rfl (hp11.cellIs 0 rfl)) ?_
          refine runL 53 (.int .i64 n) rfl (by rfl) (by go_simp) ?_
          refine runL 54 (.bool true) rfl (by rfl) (by go_simp) ?_
          simp only [Ls]
          refine nilL ?_
          repeat (first | (refine wl_round ?hnd ?_; (case hnd => kernel_rfl)) | gi_step)
          refine runL 55 (.slice (some ⟨q1, 0, none⟩) n n) rfl (by rfl) (exec_cell 34 (.tmp 11) rfl p11 0 rfl (.slice (some ⟨q1, 0, none⟩) n n) _ Tryd.underlying34 rfl (hp11.cellIs 0 rfl)) ?_
          simp only [Ls]
          refine runSL (wr.setCell ⟨p8, 0, none⟩ (.slice (some ⟨q1, 0, none⟩) n n)) rfl (by rfl) (exec_storeCell 34 (.tmp 8) (.tmp 55) rfl p8 0 rfl (.slice (some ⟨q1, 0, none⟩) n n) rfl rfl rfl 34 (#[.slice none 0 0]) hp8 (show 0 < 1 by decide) (by kernel_rfl)) ?_
          replace hq1 := hq1.far (p := ⟨p8, 0, none⟩) (show q1 ≠ p8 from (by omega)) (.slice (some ⟨q1, 0, none⟩) n n)
          replace hp9 := hp9.far (p := ⟨p8, 0, none⟩) (show p9 ≠ p8 from (by omega)) (.slice (some ⟨q1, 0, none⟩) n n)
          replace hp11 := hp11.far (p := ⟨p8, 0, none⟩) (show p11 ≠ p8 from (by omega)) (.slice (some ⟨q1, 0, none⟩) n n)
          replace hp12 := hp12.far (p := ⟨p8, 0, none⟩) (show p12 ≠ p8 from (by omega)) (.slice (some ⟨q1, 0, none⟩) n n)
          replace hp13 := hp13.far (p := ⟨p8, 0, none⟩) (show p13 ≠ p8 from (by omega)) (.slice (some ⟨q1, 0, none⟩) n n)
          replace hbb := hbb.far (p := ⟨p8, 0, none⟩) (show bb ≠ p8 from (by omega)) (.slice (some ⟨q1, 0, none⟩) n n)
          replace hp8 : Blk (wr.setCell ⟨p8, 0, none⟩ (.slice (some ⟨q1, 0, none⟩) n n)) p8 34 (#[.slice (some ⟨q1, 0, none⟩) n n]) := hp8.set_ 0 (.slice (some ⟨q1, 0, none⟩) n n)
          replace hW := hW.setCell (p := ⟨p8, 0, none⟩) lw_p8 (.slice (some ⟨q1, 0, none⟩) n n)
          replace hko := hko.trans (KeepsOthers.setCell wr ⟨p8, 0, none⟩ (.slice (some ⟨q1, 0, none⟩) n n))
          replace hhl := hhl.setCell (p := ⟨p8, 0, none⟩) bp8 (.slice (some ⟨q1, 0, none⟩) n n)
          generalize wr.setCell ⟨p8, 0, none⟩ (.slice (some ⟨q1, 0, none⟩) n n) = w15 at *
          refine runSL (w15.setCell ⟨p9, 0, none⟩ (.int .i64 0)) rfl (by rfl) (exec_storeCell 36 (.tmp 9) _ rfl p9 0 rfl (.int .i64 0) rfl rfl rfl 36 (#[.int .i64 0]) hp9 (show 0 < 1 by decide) (by kernel_rfl)) ?_
          replace hq1 := hq1.far (p := ⟨p9, 0, none⟩) (show q1 ≠ p9 from (by omega)) (.int .i64 0)
          replace hp8 := hp8.far (p := ⟨p9, 0, none⟩) (show p8 ≠ p9 from (by omega)) (.int .i64 0)
          replace hp11 := hp11.far (p := ⟨p9, 0, none⟩) (show p11 ≠ p9 from (by omega)) (.int .i64 0)
          replace hp12 := hp12.far (p := ⟨p9, 0, none⟩) (show p12 ≠ p9 from (by omega)) (.int .i64 0)
          replace hp13 := hp13.far (p := ⟨p9, 0, none⟩) (show p13 ≠ p9 from (by omega)) (.int .i64 0)
          replace hbb := hbb.far (p := ⟨p9, 0, none⟩) (show bb ≠ p9 from (by omega)) (.int .i64 0)
          replace hp9 : Blk (w15.setCell ⟨p9, 0, none⟩ (.int .i64 0)) p9 36 (#[.int .i64 0]) := hp9.set_ 0 (.int .i64 0)
          replace hW := hW.setCell (p := ⟨p9, 0, none⟩) lw_p9 (.int .i64 0)
          replace hko := hko.trans (KeepsOthers.setCell w15 ⟨p9, 0, none⟩ (.int .i64 0))
          replace hhl := hhl.setCell (p := ⟨p9, 0, none⟩) bp9 (.int .i64 0)
          generalize w15.setCell ⟨p9, 0, none⟩ (.int .i64 0) = w16 at *
          refine nilL ?_
          iterate 8 (try gi_step)
          exact ⟨hko, hq1, hp8, hp9, hW⟩
        ·
          have heI : ¬ (e : Int) = (n : Int) := by omega
          have hel : e < n := by omega
          have helI : (e : Int) < (n : Int) := by omega
          have hst := xmix_step (key := key) (s := s) (c := c) (f := f) (d := d) (k := e) (by omega)
          have hg := xmix_get (key := key) (s := s) (c := c) (f := f) (d := d) (k := e) (i := e) (by omega)
          rw [if_neg (by omega)] at hg
          obtain ⟨x, hxe⟩ : ∃ x, d.getD e 0 = x := ⟨_, rfl⟩
          have hxb := hdb.get e
          rw [hxe] at hg hx hxb
          rw [hx] at hst
          have hxor : bits BinOp.xor IntKind.u8 (x : Int) (y : Int) = ((x ^^^ y : Nat) : Int) := u8_xor_nat x y hxb hyb
          have hgq := Lib.hid hg
          have hstq := Lib.hid hst
          have hwe : IntKind.i64.wrap ((e : Int) + 1) = ((e + 1 : Nat) : Int) := by rw [IntWalk.i64_in _ (by omega)]; omega
          have hwj : IntKind.i64.wrap ((j : Int) + 1) = ((j + 1 : Nat) : Int) := by rw [IntWalk.i64_in _ (by omega)]; omega
          clear hg hst hx hxe
          repeat (first | (refine wl_round ?hnd ?_; (case hnd => kernel_rfl)) | gi_step)
          refine runL 51 (.int .i64 ((e : Nat) : Int)) rfl (by rfl) (exec_cell 3 (.tmp 12) rfl p12 0 rfl (.int .i64 ((e : Nat) : Int)) _ Tryd.underlying3 rfl (hp12.cellIs 0 rfl)) ?_
          refine runL 52 (.slice (some ⟨q1, 0, none⟩) n n) rfl (by rfl) (exec_cell 34 (.tmp 11) rfl p11 0 rfl (.slice (some ⟨q1, 0, none⟩) n n) _ Tryd.underlying34 rfl (hp11.cellIs 0 rfl)) ?_
          refine runL 53 (.int .i64 n) rfl (by rfl) (by go_simp) ?_
          refine runL 54 (.bool false) rfl (by rfl) (by go_simp) ?_
          simp only [Ls]
          refine nilL ?_
          repeat (first | (refine wl_round ?hnd ?_; (case hnd => kernel_rfl)) | gi_step)
          refine runL 56 (.slice (some ⟨q1, 0, none⟩) n n) rfl (by rfl) (exec_cell 34 (.tmp 11) rfl p11 0 rfl (.slice (some ⟨q1, 0, none⟩) n n) _ Tryd.underlying34 rfl (hp11.cellIs 0 rfl)) ?_
          refine runL 57 (.int .i64 ((e : Nat) : Int)) rfl (by rfl) (exec_cell 3 (.tmp 12) rfl p12 0 rfl (.int .i64 ((e : Nat) : Int)) _ Tryd.underlying3 rfl (hp12.cellIs 0 rfl)) ?_
          refine runL 58 (.pointer (some ⟨q1, e, none⟩)) rfl (by rfl) (by go_simp) ?_
          refine runL 59 (.int .u8 ((x : Nat) : Int)) rfl (by rfl) (exec_cell 5 (.tmp 58) rfl q1 e rfl (.int .u8 ((x : Nat) : Int)) _ Tryd.underlying5 rfl (by rw [← hgq.out]; exact hq1.num (by rw [xmix_len, hdl]; exact hel))) ?_
          refine runL 60 (.int .u8 ((y : Nat) : Int)) rfl (by rfl) (by go_simp) ?_
          refine runL 61 (.int .u8 ((x ^^^ y : Nat) : Int)) rfl (by rfl) (by go_simp) ?_
          refine runL 62 (.pointer (some ⟨q1, e, none⟩)) rfl (by rfl) (by go_simp) ?_
          simp only [Ls]
          refine runSL (wr.setCell ⟨q1, e, none⟩ (.int .u8 ((x ^^^ y : Nat) : Int))) rfl (by rfl) (exec_storeCell 5 (.tmp 62) (.tmp 61) rfl q1 e rfl (.int .u8 ((x ^^^ y : Nat) : Int)) rfl rfl rfl 5 (va .u8 (xmix key s c f d e)) hq1 (by rw [va_size, (((xmix_len _).trans hdl))]; exact (by exact hel)) (by kernel_rfl)) ?_
          replace hp8 := hp8.far (p := ⟨q1, e, none⟩) (show p8 ≠ q1 from (by omega)) (.int .u8 ((x ^^^ y : Nat) : Int))
          replace hp9 := hp9.far (p := ⟨q1, e, none⟩) (show p9 ≠ q1 from (by omega)) (.int .u8 ((x ^^^ y : Nat) : Int))
          replace hp11 := hp11.far (p := ⟨q1, e, none⟩) (show p11 ≠ q1 from (by omega)) (.int .u8 ((x ^^^ y : Nat) : Int))
          replace hp12 := hp12.far (p := ⟨q1, e, none⟩) (show p12 ≠ q1 from (by omega)) (.int .u8 ((x ^^^ y : Nat) : Int))
          replace hp13 := hp13.far (p := ⟨q1, e, none⟩) (show p13 ≠ q1 from (by omega)) (.int .u8 ((x ^^^ y : Nat) : Int))
          replace hbb := hbb.far (p := ⟨q1, e, none⟩) (show bb ≠ q1 from (by omega)) (.int .u8 ((x ^^^ y : Nat) : Int))
          replace hq1 : Blk (wr.setCell ⟨q1, e, none⟩ (.int .u8 ((x ^^^ y : Nat) : Int))) q1 5 (va .u8 (xmix key s c f d (e + 1))) := by rw [← hstq.out]; exact hq1.setNum e (x ^^^ y)
          replace hW := hW.setCell (p := ⟨q1, e, none⟩) lw_q1 (.int .u8 ((x ^^^ y : Nat) : Int))
          replace hko := hko.trans (KeepsOthers.setCell wr ⟨q1, e, none⟩ (.int .u8 ((x ^^^ y : Nat) : Int)))
          replace hhl := hhl.setCell (p := ⟨q1, e, none⟩) bq1 (.int .u8 ((x ^^^ y : Nat) : Int))
          generalize wr.setCell ⟨q1, e, none⟩ (.int .u8 ((x ^^^ y : Nat) : Int)) = w17 at *
          refine nilL ?_
          repeat (first | (refine wl_round ?hnd ?_; (case hnd => kernel_rfl)) | gi_step)
          refine runL 63 (.int .i64 ((e : Nat) : Int)) rfl (by rfl) (exec_cell 3 (.tmp 12) rfl p12 0 rfl (.int .i64 ((e : Nat) : Int)) _ Tryd.underlying3 rfl (hp12.cellIs 0 rfl)) ?_
          refine runL 64 (.int .i64 ((e + 1 : Nat) : Int)) rfl (by rfl) (by go_simp) ?_
          simp only [Ls]
          refine runSL (w17.setCell ⟨p12, 0, none⟩ (.int .i64 ((e + 1 : Nat) : Int))) rfl (by rfl) (exec_storeCell 3 (.tmp 12) (.tmp 64) rfl p12 0 rfl (.int .i64 ((e + 1 : Nat) : Int)) rfl rfl rfl 3 (#[.int .i64 ((e : Nat) : Int)]) hp12 (show 0 < 1 by decide) (by kernel_rfl)) ?_
          replace hq1 := hq1.far (p := ⟨p12, 0, none⟩) (show q1 ≠ p12 from (by omega)) (.int .i64 ((e + 1 : Nat) : Int))
          replace hp8 := hp8.far (p := ⟨p12, 0, none⟩) (show p8 ≠ p12 from (by omega)) (.int .i64 ((e + 1 : Nat) : Int))
          replace hp9 := hp9.far (p := ⟨p12, 0, none⟩) (show p9 ≠ p12 from (by omega)) (.int .i64 ((e + 1 : Nat) : Int))
          replace hp11 := hp11.far (p := ⟨p12, 0, none⟩) (show p11 ≠ p12 from (by omega)) (.int .i64 ((e + 1 : Nat) : Int))
          replace hp13 := hp13.far (p := ⟨p12, 0, none⟩) (show p13 ≠ p12 from (by omega)) (.int .i64 ((e + 1 : Nat) : Int))
          replace hbb := hbb.far (p := ⟨p12, 0, none⟩) (show bb ≠ p12 from (by omega)) (.int .i64 ((e + 1 : Nat) : Int))
          replace hp12 : Blk (w17.setCell ⟨p12, 0, none⟩ (.int .i64 ((e + 1 : Nat) : Int))) p12 3 (#[.int .i64 ((e + 1 : Nat) : Int)]) := hp12.set_ 0 (.int .i64 ((e + 1 : Nat) : Int))
          replace hW := hW.setCell (p := ⟨p12, 0, none⟩) lw_p12 (.int .i64 ((e + 1 : Nat) : Int))
          replace hko := hko.trans (KeepsOthers.setCell w17 ⟨p12, 0, none⟩ (.int .i64 ((e + 1 : Nat) : Int)))
          replace hhl := hhl.setCell (p := ⟨p12, 0, none⟩) bp12 (.int .i64 ((e + 1 : Nat) : Int))
          generalize w17.setCell ⟨p12, 0, none⟩ (.int .i64 ((e + 1 : Nat) : Int)) = w18 at *
          refine nilL ?_
          repeat (first | (refine wl_round ?hnd ?_; (case hnd => kernel_rfl)) | gi_step)
          refine runL 65 (.int .i64 ((j + 1 : Nat) : Int)) rfl (by rfl) (by go_simp) ?_
          refine runL 47 (.int .i64 ((j + 1 : Nat) : Int)) rfl (by rfl) (by go_simp) ?_
          simp only [Ls]
          refine nilL ?_
          iterate 8 (try gi_step)
          go_roundw
          case rel => exact ⟨j + 1, by omega, rfl, by omega, (by rw [show a0 + (j + 1) = e + 1 by omega]; exact hq1), hp8, hp9, hp11, (by rw [show a0 + (j + 1) = e + 1 by omega]; exact hp12), hp13, hbb, hW, hko, hhl⟩
          case measure => simp [intOf]; have := hmq.out; omega
      ·
        obtain rfl : j = mm := by omega
        have hltI : ¬ (j : Int) < (j : Int) := by omega
        repeat (first | (refine wl_round ?hnd ?_; (case hnd => kernel_rfl)) | gi_step)
        refine runL 48 (.bool false) rfl (by rfl) (by go_simp) ?_
        simp only [Ls]
        refine nilL ?_
        repeat (first | (refine wl_round ?hnd ?_; (case hnd => kernel_rfl)) | gi_step)
        refine runSL (wr.setCell ⟨p13, 0, none⟩ (.int .i64 0)) rfl (by rfl) (exec_storeCell 3 (.tmp 13) _ rfl p13 0 rfl (.int .i64 0) rfl rfl rfl 3 (#[.int .i64 ((sk : Nat) : Int)]) hp13 (show 0 < 1 by decide) (by kernel_rfl)) ?_
        replace hq1 := hq1.far (p := ⟨p13, 0, none⟩) (show q1 ≠ p13 from (by omega)) (.int .i64 0)
        replace hp8 := hp8.far (p := ⟨p13, 0, none⟩) (show p8 ≠ p13 from (by omega)) (.int .i64 0)
        replace hp9 := hp9.far (p := ⟨p13, 0, none⟩) (show p9 ≠ p13 from (by omega)) (.int .i64 0)
        replace hp11 := hp11.far (p := ⟨p13, 0, none⟩) (show p11 ≠ p13 from (by omega)) (.int .i64 0)
        replace hp12 := hp12.far (p := ⟨p13, 0, none⟩) (show p12 ≠ p13 from (by omega)) (.int .i64 0)
        replace hbb := hbb.far (p := ⟨p13, 0, none⟩) (show bb ≠ p13 from (by omega)) (.int .i64 0)
        replace hp13 : Blk (wr.setCell ⟨p13, 0, none⟩ (.int .i64 0)) p13 3 (#[.int .i64 0]) := hp13.set_ 0 (.int .i64 0)
        replace hW := hW.setCell (p := ⟨p13, 0, none⟩) lw_p13 (.int .i64 0)
        replace hko := hko.trans (KeepsOthers.setCell wr ⟨p13, 0, none⟩ (.int .i64 0))
        replace hhl := hhl.setCell (p := ⟨p13, 0, none⟩) bp13 (.int .i64 0)
        generalize wr.setCell ⟨p13, 0, none⟩ (.int .i64 0) = w19 at *
        refine nilL ?_
        iterate 8 (try gi_step)
        
        exact ⟨hko, hhl, (by rw [hnxq.out]; exact hjn), Nat.le_trans hbL (Nat.le_of_lt hbb.lt), (by rw [hnxq.out]; exact hq1), hp8, hp9, hp11, (by rw [hnxq.out]; exact hp12), (by rw [hskq.out]; exact hp13), hW⟩
end Go.Proofs.YtcfddmplnoknlaaDoor
namespace Go.Proofs.YtcfddmplnoknlaaDoor
set_option maxRecDepth 16384
open Go.RowKit

def EndlessG (P : Program) (g : Nat) (lb : Array Value) (enc : Nat → Value) (lo M : Nat) (G : World → Prop) (w : World) : Prop :=
 ∀ (n l N : Nat) (J : Nat → World → Prop) (Jx : World → Prop), N ≤ M →
  (∀ k A B, J k A → Below A.heap.size A B → J k B) → (∀ k A, J k A → G A) →
  (∀ k W, J k W → k < N ∧ YieldAt Fence.wide (n - 1) P l #[enc k] W fun e W' =>
   (e = .returned (.bool true) ∧ J (k + 1) W' ∧ Holds lo W W') ∨ (e = .returned (.bool false) ∧ Jx W')) →
  ∀ W, Holds lo w W → J 0 W →
  CallsIn Fence.wide n P g (#[.func (.yield l) #[] #[]] ++ lb) W fun e W' => (∃ v, e = .returned v) ∧ Jx W'

def endPostX (id lo : Nat) (I Ix : World → Prop) (W : World) : Exit → Act → World → Prop
 | .normal, _, W' => KeepsOthers W W' ∧ Holds lo W W' ∧ I W'
 | .exit i, _, W' => i = id ∧ KeepsOthers W W' ∧ Ix W'
 | _, _, _ => False

theorem wp_rangeBreak {P : Program} {n : Nat} {g : Operand} {p : Tmp} {assign body : Code} {Q : Exit → Act → World → Prop} {a : Act} {w : World} {gf : Nat} {lb : Array Value}
    (hg : a.eval g = .func (.func gf) #[] lb) (eg : ∀ args w, (callFunc gf args).run P w = .ok (.enter gf args) w) {enc : Nat → Value} {id lo M : Nat} {G : World → Prop} (hseq : EndlessG P gf lb enc lo M G w)
    (I : Nat → World → Prop) (Ix : World → Prop) (N : Nat) (hNM : N ≤ M) (Ax : Nat → Act → World → Prop)
    (hIb : ∀ k A B, I k A → Below A.heap.size A B → I k B) (hIc : ∀ k A, I k A → G A)
    (hIp : ∀ k A l o o', w.heap.size ≤ l → I k A → A.heap[l]? = some o → o.isCells = false → I k (A.putObj l o'))
    (hXp : ∀ A l o o', w.heap.size ≤ l → Ix A → A.heap[l]? = some o → o.isCells = false → Ix (A.putObj l o'))
    (hAp : ∀ k a₁ A l o o', w.heap.size ≤ l → Ax k a₁ A → A.heap[l]? = some o → o.isCells = false → Ax k a₁ (A.putObj l o'))
    (h0 : I 0 w) (hN : ∀ k W, I k W → k < N)
    (hassign : ∀ (m l k : Nat) (W : World) (K : Act → World → Prop), I k W → (∀ a₁ W1, Below W.heap.size W W1 → Ax k a₁ W1 → K a₁ W1) →
      assign.wpIn (Fence.wide.inRound l) m P (Exit.then K (fun _ _ _ => False)) { tmps := a.tmps.setIfInBounds p (enc k), defers := [] } W)
    (hbody : ∀ (m l k : Nat) (a₁ : Act) (W : World), Ax k a₁ W → body.wpIn (Fence.wide.inRound l) m P (endPostX id lo (I (k + 1)) Ix W) a₁ W)
    (hstop : ∀ (D : Nat) (W : World), w.heap.size ≤ D → Ix W → W.heap[D]? = some (.deferred (some [])) → Q (.exit id) { a with defers := { target := .collected D, args := #[] } :: a.defers } W) :
    (Code.rangeFunc g #[p] assign body).wpIn Fence.wide n P Q a w := by
  refine wpIn_rangeFunc fun fn _ => ?_
  let rec0 : LoopState → Option Code → Loop := fun st pe => { state := st, pending := pe, fn, tmps := a.tmps, params := #[p], assign, body, defers := w.heap.size }
  obtain ⟨rc, hrc⟩ : ∃ rc, rc = rec0 := ⟨_, rfl⟩
  obtain ⟨W1, hW1⟩ : ∃ W1, (w.alloc (.deferred (some []))).alloc (.loop (rc .ready none)) = W1 := ⟨_, rfl⟩
  have hb1 : Below w.heap.size w W1 := by rw [← hW1]; exact ((Below.refl _ w).alloc (Nat.le_refl _) _).alloc (by simp) _
  have hL1 : W1.heap[w.heap.size + 1]? = some (.loop (rc .ready none)) := by
    rw [← hW1]; have := World.alloc_heap_new (w.alloc (.deferred (some []))) (.loop (rc .ready none)); rwa [World.size_alloc] at this
  have hK1 : W1.heap[w.heap.size]? = some (.deferred (some [])) := by
    rw [← hW1]; exact (Below.heap_alloc _ _ _ (by simp)).trans (World.alloc_heap_new w _)
  have hlt1 : ∀ {A : World} {b : Nat} {o : Obj}, A.heap[b]? = some o → b < A.heap.size := fun h => (Array.getElem?_eq_some_iff.1 h).1
  refine ⟨w.heap.size + 1, [{ target := .collected w.heap.size, args := #[] }], W1, { target := .fn (.func gf) lb, args := #[.func (.yield (w.heap.size + 1)) #[] #[]] }, W1, gf,
    #[.func (.yield (w.heap.size + 1)) #[] #[]] ++ lb, W1, ?_, ?_, fun _ _ => trivial, ?_, fun h => by simp [Fence.wide] at h, ?_⟩
  · rw [← hW1, hrc]; exact run_enterLoop_outer _ _ _ _ _
  · simp only [resolve, hg]
    simp [go_sem]
  · simp [invoke, go_sem, eg]
  refine (hseq (n - 1) (w.heap.size + 1) N
    (fun k W => I k W ∧ W.heap[w.heap.size + 1]? = some (.loop (rc .ready none)) ∧ W.heap[w.heap.size]? = some (.deferred (some [])))
    (fun W => Ix W ∧ W.heap[w.heap.size + 1]? = some (.loop (rc .done (some (.exit id)))) ∧ W.heap[w.heap.size]? = some (.deferred (some []))) hNM
    (fun k A B h hb => ⟨hIb k A B h.1 hb, (hb.block _ (hlt1 h.2.1)).trans h.2.1, (hb.block _ (hlt1 h.2.2)).trans h.2.2⟩)
    (fun k A h => hIc k A h.1)
    ?_ W1 (Holds.below hb1) ⟨hIb 0 w W1 h0 hb1, hL1, hK1⟩).mono ?_
  · rintro k W ⟨hi, hl, hk⟩
    refine ⟨hN k W hi, ?_⟩
    have hy := run_yield (P := P) (args := #[enc k]) hl (by rw [hrc]; rfl)
    refine ⟨_, _, _, _, hy, roundIn_of_wpIn trivial ?_⟩
    have e1 : (rc .ready none).assign = assign := by rw [hrc]
    have e2 : (rc .ready none).body = body := by rw [hrc]
    have e3 : ((rc .ready none).params.zip #[enc k]).foldl (fun tmps (t, a) => tmps.setIfInBounds t a) (rc .ready none).tmps = a.tmps.setIfInBounds p (enc k) := by rw [hrc]; simp [rec0]
    rw [e1, e2, e3]
    refine hassign _ _ k W _ hi fun a₁ W2 hb2 hA => ?_
    have hl2 := (hb2.block _ (hlt1 hl)).trans hl
    have hk2 := (hb2.block _ (hlt1 hk)).trans hk
    refine ⟨_, run_beginRound hl2 (by rw [hrc]), ?_⟩
    have hA3 := hAp k a₁ W2 _ _ (.loop { rc .ready none with state := .busy }) (by omega) hA hl2 rfl
    have hh3 : Holds lo W2 (W2.putObj (w.heap.size + 1) (.loop { rc .ready none with state := .busy })) := Holds.put _ hl2 rfl
    have hl3 : (W2.putObj (w.heap.size + 1) (.loop { rc .ready none with state := .busy })).heap[w.heap.size + 1]? = some (.loop { rc .ready none with state := .busy }) := World.putObj_heap_same (hlt1 hl2)
    have hk3 : (W2.putObj (w.heap.size + 1) (.loop { rc .ready none with state := .busy })).heap[w.heap.size]? = some (.deferred (some [])) := (World.putObj_heap_other (by omega)).trans hk2
    refine wpIn_mono (hbody _ _ k a₁ _ hA3) ?_
    generalize W2.putObj (w.heap.size + 1) (.loop { rc .ready none with state := .busy }) = W3 at *
    have hlo3 : Holds lo W W3 := (Holds.below hb2).trans hh3
    rintro e a4 W4 hp
    cases e with
    | normal =>
      obtain ⟨hko, hh, hi4⟩ := hp
      have hl4 := hko.same _ _ hl3 rfl
      have hk4 := hko.same _ _ hk3 rfl
      refine ⟨_, _, run_endRound none hl4, .inl ⟨rfl, ⟨hIp _ _ _ _ _ (by omega) hi4 hl4 rfl, ?_, (World.putObj_heap_other (by omega)).trans hk4⟩, hlo3.trans (hh.trans (Holds.put _ hl4 rfl))⟩⟩
      rw [World.putObj_heap_same (hlt1 hl4), hrc]; rfl
    | exit i =>
      obtain ⟨rfl, hko, hi4⟩ := hp
      have hl4 := hko.same _ _ hl3 rfl
      have hk4 := hko.same _ _ hk3 rfl
      refine ⟨_, _, run_endRound (some (.exit i)) hl4, .inr ⟨rfl, hXp _ _ _ _ (by omega) hi4 hl4 rfl, ?_, (World.putObj_heap_other (by omega)).trans hk4⟩⟩
      rw [World.putObj_heap_same (hlt1 hl4), hrc]; rfl
    | ret => exact hp.elim
    | goto t => exact hp.elim
    | panic ch => exact hp.elim
    | outgrown => exact hp.elim
  · rintro e W2 ⟨⟨v, rfl⟩, hi, hl, hk⟩
    refine ⟨_, _, run_endLoop hl (by rw [hrc]; simp [rec0]), ?_⟩
    have ep : (rc .done (some (.exit id))).pending = some (.exit id) := by rw [hrc]
    rw [ep]
    exact wpIn_exit (hstop _ _ (Nat.le_refl _) (hXp _ _ _ _ (by omega) hi hl rfl) ((World.putObj_heap_other (by omega)).trans hk))

end Go.Proofs.YtcfddmplnoknlaaDoor
namespace Go.Proofs.YtcfddmplnoknlaaDoor.Sh
set_option maxRecDepth 16384

theorem sha_len' (l : List Nat) : (sha l).length = 32 := flat_len _

def xorl (l m : List Nat) (n i : Nat) : List Nat := (List.range n).map fun j => if j < i then l.getD j 0 ^^^ m.getD j 0 else 0
theorem xorl_len (l m : List Nat) (n i : Nat) : (xorl l m n i).length = n := by simp [xorl]
theorem xorl_zero (l m : List Nat) (n : Nat) : xorl l m n 0 = List.replicate n 0 := by
 apply ext_getD (by simp [xorl])
 intro j hj
 rw [xorl_len] at hj
 rw [xorl, getD_map_range _ _ _ hj]; simp [List.getD_eq_getElem?_getD, hj]
theorem xorl_step (l m : List Nat) (n i : Nat) (hi : i < n) : (xorl l m n i).set i (l.getD i 0 ^^^ m.getD i 0) = xorl l m n (i + 1) := by
  apply ext_getD (by rw [List.length_set, xorl_len, xorl_len])
  intro j hj
  rw [List.length_set, xorl_len] at hj
  by_cases e : i = j
  · subst e
    rw [getD_set_eq (by rw [xorl_len]; exact hi), xorl, getD_map_range _ _ _ hj, if_pos (by omega)]
  · rw [getD_set_ne e, xorl, getD_map_range _ _ _ hj, xorl, getD_map_range _ _ _ hj]
    by_cases h : j < i
    · rw [if_pos h, if_pos (by omega)]
    · rw [if_neg h, if_neg (by omega)]
theorem xor256 {a b : Nat} (ha : a < 256) (hb : b < 256) : a ^^^ b < 256 := Nat.xor_lt_two_pow (n := 8) ha hb
def xorB (l m : List Nat) : List Nat := xorl l m l.length l.length
theorem xorB_len (l m : List Nat) : (xorB l m).length = l.length := xorl_len _ _ _ _
theorem xorB_byt (l m : List Nat) (hl : Byt l) (hm : Byt m) : Byt (xorB l m) := fun x hx => by
  obtain ⟨j, _, rfl⟩ := List.mem_map.1 hx
  split
  · exact xor256 (hl.get j) (hm.get j)
  · omega
theorem xorB_get (l m : List Nat) (i : Nat) (hi : i < l.length) : (xorB l m).getD i 0 = l.getD i 0 ^^^ m.getD i 0 := by
 rw [xorB, xorl, getD_map_range _ _ _ hi, if_pos hi]

def kc (key : List Nat) : List Nat := if 64 < key.length then sha key else key
def kb (key : List Nat) : List Nat := kc key ++ List.replicate (64 - (kc key).length) 0
theorem kc_le (key : List Nat) : (kc key).length ≤ 64 := by
  unfold kc; split
  · rw [sha_len']; omega
  · omega
theorem kc_byt (key : List Nat) (h : Byt key) : Byt (kc key) := by
  unfold kc; split
  · exact sha_byt _
  · exact h
theorem kb_len (key : List Nat) : (kb key).length = 64 := by
 have := kc_le key
 simp [kb]; omega
theorem kb_byt (key : List Nat) (h : Byt key) : Byt (kb key) := (kc_byt key h).app (Byt.rep _ _ (by omega))
def kx (key : List Nat) (c : Nat) : List Nat := xorB (kb key) (List.replicate 64 c)
theorem kx_len (key : List Nat) (c : Nat) : (kx key c).length = 64 := by rw [kx, xorB_len, kb_len]
theorem kx_byt (key : List Nat) (c : Nat) (h : Byt key) (hc : c < 256) : Byt (kx key c) := xorB_byt _ _ (kb_byt key h) (Byt.rep _ _ hc)
theorem kx_get (key : List Nat) (c i : Nat) (hi : i < 64) : (kx key c).getD i 0 = (kb key).getD i 0 ^^^ c := by
 rw [kx, xorB_get _ _ _ (by rw [kb_len]; exact hi)]
 congr 1
 rw [List.getD_eq_getElem?_getD, List.getElem?_replicate, if_pos hi]; rfl
def hm (key m : List Nat) : List Nat := sha (kx key 92 ++ sha (kx key 54 ++ m))
theorem hm_len (key m : List Nat) : (hm key m).length = 32 := sha_len' _
theorem hm_byt (key m : List Nat) : Byt (hm key m) := sha_byt _
end Go.Proofs.YtcfddmplnoknlaaDoor.Sh
namespace Go.Proofs.YtcfddmplnoknlaaDoor
set_option maxRecDepth 16384
open Go.RowKit Sh

set_option maxHeartbeats 800000 in
theorem xor_any (l m : List Nat) (A A2 : Option Addr) (n c c2 B : Nat) (hl : Byt l) (hm : Byt m) (hn63 : n < 281474976710656) (w : World) (hr : Reads w B 1 A n (nv .u8 l)) (hr2 : Reads w B 1 A2 n (nv .u8 m)) (hB : B ≤ w.heap.size) :
    Calls Tryd.prog 71 #[.slice A n c, .slice A2 n c2] w fun e w' => ∃ g, e = .returned (.tuple #[.slice (some ⟨g, 0, none⟩) n n, .int .i64 0]) ∧ Blk w' g 5 (va .u8 (xorB l m)) ∧ w.heap.size ≤ g ∧ Below w.heap.size w w' := by
  have hmk := make_bytes n (by omega)
  have hln := hr.len
  have hmm : Blk (w.alloc (.cells (va .u8 (List.replicate n 0)) 5)) w.heap.size 5 (va .u8 (xorl l m n 0)) := by rw [xorl_zero]; exact Blk.new _ _ _
  have hm' := Lib.hid hmm
  have hb0 : Below w.heap.size w (w.alloc (.cells (va .u8 (List.replicate n 0)) 5)) := (Below.refl _ _).alloc (Nat.le_refl _) _
  have hbq := Lib.hid hb0
  have hrq := Lib.hid hr
  have hr2q := Lib.hid hr2
  have hBq := Lib.hid hB
  clear hmm hb0 hr hr2 hB
  go_enter Tryd.func71, Tryd.ntmps71
  go_wp2
  clear hmk
  generalize w.alloc (.cells (va .u8 (List.replicate n 0)) 5) = w1 at *
  go_loopw [25] (fun s wr => ∃ k : Nat, k ≤ n ∧ s = .int .i64 (k : Int) ∧ Blk wr w.heap.size 5 (va .u8 (xorl l m n k)) ∧ Below w.heap.size w wr) (fun s _ => n - (intOf s).toNat)
  case atStart => exact ⟨0, by omega, rfl, hm'.out, hbq.out⟩
  case round =>
    clear hm' hbq
    obtain ⟨k, hk, rfl, hblk, hb⟩ := hrel
    by_cases hlt : k < n
    · have hltI : (k : Int) < (n : Int) := by omega
      have hc := hblk.num (i := k) (by rw [xorl_len]; omega)
      have hf := hblk.frozen k
      obtain ⟨a1, rfl, _, hc1⟩ := (hrq.out.below (hb.mono hBq.out)).num hlt
      obtain ⟨a2, rfl, _, hc2⟩ := (hr2q.out.below (hb.mono hBq.out)).num hlt
      have hx := hl.get k
      have hy := hm.get k
      have hset := Lib.hid (xorl_step l m n k hlt)
      have hbh := Lib.hid hb
      have hblh := Lib.hid hblk
      clear hb hblk
      obtain ⟨u, hu⟩ : ∃ u, (xorl l m n k).getD k 0 = u := ⟨_, rfl⟩
      rw [hu] at hc
      obtain ⟨x, hxe⟩ : ∃ x, l.getD k 0 = x := ⟨_, rfl⟩
      obtain ⟨y, hye⟩ : ∃ y, m.getD k 0 = y := ⟨_, rfl⟩
      rw [hxe] at hc1 hx
      rw [hye] at hc2 hy
      have hxe' := Lib.hid hxe
      have hye' := Lib.hid hye
      have hxr : bits BinOp.xor IntKind.u8 (x : Int) (y : Int) = ((x ^^^ y : Nat) : Int) := u8_xor_nat x y hx hy
      clear hxe hye hu
      go_wp2
      refine wp_region_still_tail 12 (by kernel_rfl) (by kernel_rfl) ?_
      simp only [List.take_succ_cons, List.take_zero, List.drop_succ_cons, List.drop_zero]
      change wpStill _ _ wr.drew _ _ _
      iterate 12 still_step
      refine wpStill_nil ?_
      change wpList _ _ _ _ _ wr.drew
      have hM : Blk (wr.drew.setCell ⟨w.heap.size, k, none⟩ (.int .u8 ((x ^^^ y : Nat) : Int))) w.heap.size 5 (va .u8 (xorl l m n (k + 1))) := by
        have h1 := hblh.out.drew.setNum k (x ^^^ y)
        rw [← hxe'.out, ← hye'.out, hset.out] at h1
        rw [← hxe'.out, ← hye'.out]; exact h1
      have hMq := Lib.hid hM
      have hBB := Lib.hid (hbh.out.drew.setCell (p := ⟨w.heap.size, k, none⟩) (Nat.le_refl _) (.int .u8 ((x ^^^ y : Nat) : Int)))
      clear hM
      go_wp2
      go_roundw
      case rel => exact ⟨k + 1, by omega, by go_num, hMq.out, hBB.out⟩
      case measure => simp [intOf]; omega
    · obtain rfl : n = k := by omega
      go_wp2
      go_ret2
      refine ⟨w.heap.size, rfl, ?_, Nat.le_refl _, hb⟩
      unfold xorB
      rw [hln]; exact hblk
end Go.Proofs.YtcfddmplnoknlaaDoor
