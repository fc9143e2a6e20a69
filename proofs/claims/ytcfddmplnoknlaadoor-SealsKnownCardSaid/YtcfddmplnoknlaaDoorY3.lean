/-
  Words for walks that are printed by hw.py: boxes, skipped operations, single cells, equality of arrays of numbers, slices of byte slices, appends, copies.
-/
import Derived.Test.YtcfddmplnoknlaaDoorY2
import Derived.Deep.MidRow
import Derived.Deep.Cut
import Derived.LoopTactic
import Derived.BigRegion
import Derived.BigQuiet
import Derived.ChangeKeysEq
import Derived.Great.BuildSlice
import Derived.Lib.UnsafeStr
import Derived.Deep.RegionWith
import Derived.Deep.RegionLaw
import Derived.StillTailTactics
namespace Go.Proofs.YtcfddmplnoknlaaDoor
set_option maxRecDepth 16384
open Go.RowKit Sh

section
variable {P : Program} {l : List Oper} {Q : Exit → Act → World → Prop} {S : World → Prop} {ts : List Value} {df : List Deferred} {w : World}
theorem exec_box {op : Oper} {a : Act} (ty : TypeId) (x : Operand) (ho : op.op = .box ty x) (v : Value) (hx : a.eval x = v) :
  (execOp a.eval op).run P w = .ok (.value (.pointer (some ⟨w.heap.size, 0, none⟩))) (w.alloc (.cells v.cells ty)) := by
 unfold execOp
 simp only [ho]
 simp [Instr.box, newVar, newRow, hx]
theorem exec_allocV {op : Oper} {a : Act} (ty : TypeId) (ho : op.op = .alloc ty) (v : Value) (hz : (zeroValue ty).run P w = .ok v w) :
  (execOp a.eval op).run P w = .ok (.value (.pointer (some ⟨w.heap.size, 0, none⟩))) (w.alloc (.cells v.cells ty)) := by
 unfold execOp
 simp only [ho]
 simp [Instr.alloc, hz, newVar, newRow]
theorem skipP {o : Oper} {rest : List Oper} {ops : Array Oper} (d : Nat) (hdst : o.dst = some d) (hw : Region.wanted o (yielded ops ts.toArray) = false)
  (h : wpList P ops Q rest ⟨(ts.set d undef).toArray, df⟩ w) : wpList P ops Q (o :: rest) ⟨ts.toArray, df⟩ w := by
 refine wpList_step fun K hK => ?_
 rw [if_neg (by simp [hw])]
 refine hK _ _ ?_
 rw [hdst]
 simpa [Act.put] using h
theorem run_loadVar_cell (ty : TypeId) (a : Addr) (v : Value) (d : TypeDesc) (hu : P.underlying ty = some d) (hd : (match d with | .struct _ | .array _ _ => true | _ => false) = false) (hc : w.cell? a = some v) : (loadVar ty a).run P w = .ok v w := by
 have hu' := run_underlying (w := w) (P := P) hu
 cases d <;> simp_all [loadVar, isAgg]
theorem exec_cell {op : Oper} {a : Act} (ty : TypeId) (x : Operand) (ho : op.op = .load ty x) (g i : Nat) (hx : a.eval x = .pointer (some ⟨g, i, none⟩)) (v : Value) (d : TypeDesc)
  (hu : P.underlying ty = some d) (hd : (match d with | .struct _ | .array _ _ => true | _ => false) = false) (hc : w.cell? ⟨g, i, none⟩ = some v) : (execOp a.eval op).run P w = .ok (.value v) w := by
 unfold execOp
 simp only [ho, hx, Instr.loadAt, Instr.sureAddr, Sem.run_bind, Sem.run_pure, Result.andThen_ok, run_loadVar_cell ty ⟨g, i, none⟩ v d hu hd hc]
theorem exec_mid {op : Oper} {a : Act} (ty : TypeId) (x : Operand) (ho : op.op = .load ty x) (b o : Nat) (hx : a.eval x = .pointer (some ⟨b, o, none⟩)) (cs : List Value) (d : TypeDesc) (hc : w.rangeAt b o cs)
  (hu : P.underlying ty = some d) (hd : d.isRow = true) (hi : (P.info? ty).map (·.size) = some cs.length) : (execOp a.eval op).run P w = .ok (.value (.agg cs.toArray)) w := by
 unfold execOp
 simp only [ho, hx, Instr.loadAt, Instr.sureAddr, Sem.run_bind, Sem.run_pure, Result.andThen_ok, run_loadVar_mid w b o ty cs d hc hu hd hi]
theorem Blk.range {g : Nat} {t : TypeId} {cs : Array Value} (h : Blk w g t cs) (o n : Nat) : w.rangeAt g o ((cs.toList.drop o).take n) := fun j v hv => by
  rw [List.getElem?_take] at hv
  split at hv
  · rw [List.getElem?_drop] at hv
    rw [h.cell]; simpa using hv
  · cases hv
theorem Blk.cellIs {g : Nat} {t : TypeId} {cs : Array Value} (h : Blk w g t cs) (i : Nat) {v : Value} (hv : cs[i]? = some v) : w.cell? ⟨g, i, none⟩ = some v := by rw [h.cell, hv]
theorem sz_eq {o : Option Nat} {a b : Nat} (h1 : o = some a) (h2 : o = some b) : a = b := by rw [h1] at h2; exact Option.some.inj h2
theorem va_ones (k : IntKind) (l : List Nat) : ∀ v ∈ (va k l).toList, v.oneCell' = true := fun v hv => nv_one k l v (by simpa [va] using hv)
end

/-! blocks of bytes that are marked -/
theorem freeze_size (w : World) (p : Addr) (n : Nat) : (w.freeze p n).heap.size = w.heap.size := by
 unfold World.freeze; split <;> simp
theorem freeze_cell (w : World) (p q : Addr) (n : Nat) : (w.freeze p n).cell? q = w.cell? q := by
  by_cases hn : n = 0
  · unfold World.freeze; rw [if_pos hn]
  · unfold World.freeze World.cell?
    rw [if_neg hn]
    simp only [Array.getElem?_modify]
    by_cases h : p.block = q.block
    · rw [if_pos h]
      cases w.heap[q.block]? with
      | none => rfl
      | some o => cases o <;> rfl
    · rw [if_neg h]
theorem run_convert_mark (W : World) (a : Addr) (n c : Nat) : (convert 34 34 (.slice (some a) n c)).run Tryd.prog W = match W.shape? a.block with
  | some (_, k) => .ok (.slice (some a) n c) (W.freeze ⟨a.block, k, Option.none⟩ 1)
  | Option.none => .ok (.slice (some a) n c) W := by
 have hu := run_underlying (P := Tryd.prog) Tryd.underlying34
 have hu8 := run_underlying (P := Tryd.prog) Tryd.underlying5
 simp [convert, hu, hu8, markStringish]
 cases W.shape? a.block with
 | none => simp [Result.andThen]
 | some x => obtain ⟨t, k⟩ := x; simp [Result.andThen]
structure ByB (W : World) (g : Nat) (l : List Nat) : Prop where
 lt : g < W.heap.size
 c : ∀ j v, (nv .u8 l)[j]? = some v → W.cell? ⟨g, j, Option.none⟩ = some v
theorem ByB.below {W W2 : World} {g B : Nat} {l : List Nat} (h : ByB W g l) (b : Below B W W2) (hB : g < B) : ByB W2 g l :=
 ⟨Nat.lt_of_lt_of_le h.lt b.size, fun j v hv => (b.cell (p := ⟨g, j, Option.none⟩) hB).trans (h.c j v hv)⟩
theorem ByB.alloc {W : World} {g : Nat} {l : List Nat} (h : ByB W g l) (o : Obj) : ByB (W.alloc o) g l := h.below ((Below.refl _ _).alloc (Nat.le_refl _) o) h.lt
theorem ByB.freeze {W : World} {g : Nat} {l : List Nat} (h : ByB W g l) (p : Addr) (n : Nat) : ByB (W.freeze p n) g l := ⟨by rw [freeze_size]; exact h.lt, fun j v hv => by rw [freeze_cell]; exact h.c j v hv⟩
theorem Blk.byB {W : World} {g : Nat} {l : List Nat} (h : Blk W g 5 (va .u8 l)) : ByB W g l := ⟨h.lt, fun j v hv => by rw [h.cell]; simpa [va] using hv⟩
theorem Blk.freeze_ {W : World} {g : Nat} {t : TypeId} {cs : Array Value} (h : Blk W g t cs) (p : Addr) (n : Nat) (hp : p.block ≠ g) : Blk (W.freeze p n) g t cs := by
  unfold Blk World.freeze at *
  split
  · exact h
  · simp only [Array.getElem?_modify]
    rw [if_neg hp]
    exact h
theorem conv_blk {W : World} {g n c : Nat} {l : List Nat} (h : Blk W g 5 (va .u8 l)) (hl : l.length = n) : (convert 34 34 (.slice (some ⟨g, 0, Option.none⟩) n c)).run Tryd.prog W = .ok (.slice (some ⟨g, 0, Option.none⟩) n c) (W.freeze ⟨g, n, Option.none⟩ 1) := by
 rw [run_convert_mark]
 have hs : W.shape? g = some (5, n) := by
  unfold Blk at h
  unfold World.shape?
  rw [h]
  simp [va_size, hl]
 show (match W.shape? g with | some (_, k) => _ | Option.none => _) = _
 rw [hs]

theorem ByB.reads {W : World} {g n : Nat} {l : List Nat} (h : ByB W g l) (hn : l.length = n) : Reads W (g + 1) 1 (some ⟨g, 0, Option.none⟩) n (nv .u8 l) :=
 ⟨by rw [nv_len, hn]; omega, fun _ => ⟨_, rfl, Nat.lt_succ_self _, fun j v hv => by rw [Addr.add_mid, Nat.zero_add]; exact h.c j v hv⟩⟩
theorem ByB.rowFar {W : World} {g g' : Nat} {l : List Nat} (h : ByB W g l) (hne : g' ≠ g) (c : Array Value) : ByB (W.setRow g' c) g l :=
 ⟨by simpa [World.setRow] using h.lt, fun j v hv => (World.cell?_of_block (setRow_other W g' c g hne)).trans (h.c j v hv)⟩
/-! arrays of numbers: equal, or not -/
section
variable {P : Program} {w : World}
theorem eqItems_nums {e : TypeId} {k : IntKind} (d : Nat) (he : P.underlying e = some (.int k)) (l m : List Nat) (hlm : l.length = m.length) (hce : P.cellsOf e = 1) (hp : ∀ (xs : Array Value) (o : Nat) (v : Value), xs[o]? = some v → (part e xs o).run P w = .ok v w) :
    ∀ is : List Nat, (∀ i ∈ is, i < l.length) → (Op.eqItems (d + 1) e (P.cellsOf e) (va k l) (va k m) is).run P w = .ok (is.all fun i => decide (l.getD i 0 = m.getD i 0)) w
  | [], _ => by simp [Op.eqItems]
  | i :: is, h => by
    have ih := eqItems_nums d he l m hlm hce hp is (fun j hj => h j (by simp [hj]))
    have hi := h i (by simp)
    have h1 := hp (va k l) (i * 1) _ (by rw [Nat.mul_one]; exact va_get hi)
    have h2 := hp (va k m) (i * 1) _ (by rw [Nat.mul_one]; exact va_get (by omega))
    rw [hce] at ih ⊢
    have h3 := run_equalIn_int (P := P) w d e k k ((l.getD i 0 : Nat) : Int) ((m.getD i 0 : Nat) : Int) he
    simp only [Op.eqItems, Sem.run_bind, h1, h2, h3, Result.andThen_ok, List.all_cons]
    clear h1 h2 h3
    generalize hx : l.getD i 0 = x
    generalize hy : m.getD i 0 = y
    by_cases e : x = y
    · subst e
      simpa using ih
    · have e2 : ¬ (x : Int) = (y : Int) := by omega
      simp [e, e2]
theorem all_range_getD (l m : List Nat) (n : Nat) (hl : l.length = n) (hm : m.length = n) : ((List.range n).all fun i => decide (l.getD i 0 = m.getD i 0)) = decide (l = m) := by
  by_cases h : l = m
  · subst h; simp
  · rw [decide_eq_false h]
    cases hb : (List.range n).all fun i => decide (l.getD i 0 = m.getD i 0) with
    | false => rfl
    | true =>
      exfalso; apply h
      rw [List.all_eq_true] at hb
      exact ext_getD (by omega) fun i hi => by simpa using hb i (List.mem_range.2 (by omega))
theorem run_equal_nums {t e : TypeId} {k : IntKind} {n : Nat} (hu : P.underlying t = some (.array n e)) (he : P.underlying e = some (.int k)) (hce : P.cellsOf e = 1) (hp : ∀ (w : World) (xs : Array Value) (o : Nat) (v : Value), xs[o]? = some v → (part e xs o).run P w = .ok v w)
  (l m : List Nat) (hl : l.length = n) (hm : m.length = n) (w : World) : (Op.equalIn 10000 t (.agg (va k l)) (.agg (va k m))).run P w = .ok (decide (l = m)) w := by
 obtain ⟨i, hi⟩ := info_of_underlying he
 rw [run_equalIn_array w 9999 _ _ hu hi, eqItems_nums 9998 he l m (by omega) hce (hp w) _ (fun i hi => by rw [hl]; exact List.mem_range.1 hi), all_range_getD l m n hl hm]
theorem part_u8 (w : World) (xs : Array Value) (o : Nat) (v : Value) (h : xs[o]? = some v) : (part 5 xs o).run Tryd.prog w = .ok v w := run_part_plain w (by kernel_rfl) h
theorem eq_bytes (t : TypeId) (n : Nat) (hu : Tryd.prog.underlying t = some (.array n 5)) (l m : List Nat) (hl : l.length = n) (hm : m.length = n) (w : World) :
  (Op.equalIn 10000 t (.agg (va .u8 l)) (.agg (va .u8 m))).run Tryd.prog w = .ok (decide (l = m)) w :=
 run_equal_nums hu (by kernel_rfl) (by kernel_rfl) part_u8 l m hl hm w
theorem exec_eqB {op : Oper} {a : Act} (t : TypeId) (n : Nat) (hu : Tryd.prog.underlying t = some (.array n 5)) (hg : Tryd.prog.eqGuardType Tryd.prog.depth t = false) (x y : Operand) (t2 : TypeId) (ho : op.op = .binOp .eql t x y t2)
  (l m : List Nat) (hl : l.length = n) (hm : m.length = n) (hx : a.eval x = .agg (va .u8 l)) (hy : a.eval y = .agg (va .u8 m)) (b : Bool) (hb : decide (l = m) = b) :
  (execOp a.eval op).run Tryd.prog w = .ok (.value (.bool b)) w := by
 subst hb
 have h := eq_bytes t n hu l m hl hm w
 have hg2 : (eqGuard .eql t x y (.agg (va .u8 l)) (.agg (va .u8 m))).run Tryd.prog w = .ok () w := by simp [eqGuard, hg]
 have hb2 : (binOp .eql t (.agg (va .u8 l)) (.agg (va .u8 m))).run Tryd.prog w = .ok (.bool (decide (l = m))) w := by simp [binOp, Op.equal, h, Op.maxDepth]
 unfold execOp
 simp only [ho, hx, hy, Sem.run_bind, hg2, hb2, Result.andThen_ok, Sem.run_pure]
theorem exec_neB {op : Oper} {a : Act} (t : TypeId) (n : Nat) (hu : Tryd.prog.underlying t = some (.array n 5)) (hg : Tryd.prog.eqGuardType Tryd.prog.depth t = false) (x y : Operand) (t2 : TypeId) (ho : op.op = .binOp .neq t x y t2)
  (l m : List Nat) (hl : l.length = n) (hm : m.length = n) (hx : a.eval x = .agg (va .u8 l)) (hy : a.eval y = .agg (va .u8 m)) (b : Bool) (hb : (!decide (l = m)) = b) :
  (execOp a.eval op).run Tryd.prog w = .ok (.value (.bool b)) w := by
 subst hb
 have h := eq_bytes t n hu l m hl hm w
 have hg2 : (eqGuard .neq t x y (.agg (va .u8 l)) (.agg (va .u8 m))).run Tryd.prog w = .ok () w := by simp [eqGuard, hg]
 have hb2 : (binOp .neq t (.agg (va .u8 l)) (.agg (va .u8 m))).run Tryd.prog w = .ok (.bool (!decide (l = m))) w := by simp [binOp, Op.equal, h, Op.maxDepth]
 unfold execOp
 simp only [ho, hx, hy, Sem.run_bind, hg2, hb2, Result.andThen_ok, Sem.run_pure]

/-! strings of bytes: equal, or not -/
theorem bst_append (l m : List Nat) : bst (l ++ m) = bst l ++ bst m := by
 have key : ∀ (m : List Int) (b : ByteArray), m.foldl (fun r n => r.push (UInt8.ofNat n.toNat)) b = b ++ m.foldl (fun r n => r.push (UInt8.ofNat n.toNat)) ByteArray.empty := by
  intro m
  induction m with
  | nil => intro b; simp
  | cons x m ih =>
   intro b
   simp only [List.foldl_cons]
   rw [ih (b.push _), ih (ByteArray.empty.push _), ← ByteArray.append_assoc]
   congr 1
   apply ByteArray.ext
   simp
 unfold bst
 rw [List.map_append, List.foldl_append, key]
end

/-! reading slices -/
section
variable {W : World}
theorem Reads.string {B n c : Nat} {A : Option Addr} {l : List Nat} (h : Reads W B 1 A n (nv .u8 l)) (src dst : TypeId) (hs : Tryd.prog.underlying src = some (.slice 5)) (hd : Tryd.prog.underlying dst = some .string) :
    (convert src dst (.slice A n c)).run Tryd.prog W = .ok (.string (bst l)) W := by
  have hl := h.len
  rcases A with _ | ad
  · have hn : n = 0 := by
      rcases Nat.eq_zero_or_pos n with h0 | h0
      · exact h0
      · obtain ⟨ad, e, _⟩ := h.2 h0
        cases e
    subst hn
    obtain rfl := List.eq_nil_of_length_eq_zero hl
    have h1 := run_underlying (w := W) hs
    have h2 := run_underlying (w := W) Tryd.underlying5
    have h3 := run_underlying (w := W) hd
    simp [convert, h1, h2, h3, Conv.bytesToString, bst]
  · subst hl
    have hcell : ∀ j v, (nv .u8 l)[j]? = some v → W.cell? (ad.add j) = some v := by
      intro j v hv
      rcases Nat.eq_zero_or_pos l.length with h0 | h0
      · rw [List.eq_nil_of_length_eq_zero h0] at hv; simp [nv] at hv
      · obtain ⟨ad', e, _, hc⟩ := h.2 h0
        injection e with e
        subst e
        exact hc j v hv
    rw [run_convert_bytes_string W src dst 5 _ _ _ hs Tryd.underlying5 hd]
    have h1 := run_loadCells_list (P := Tryd.prog) W ad (nv .u8 l) hcell
    rw [nv_len] at h1
    refine run_bytesToString W ad l.length c (l.map fun x : Nat => (x : Int)) ?_
    rw [h1]; simp [nv]
theorem Reads.part {B n o m : Nat} {ad : Addr} {k : IntKind} {l : List Nat} (h : Reads W B 1 (some ad) n (nv k l)) (hm : o + m ≤ n) : Reads W B 1 (some (ad.add o)) m (nv k ((l.drop o).take m)) := by
  have hl := h.len
  refine ⟨by rw [nv_len]; simp; omega, fun hpos => ?_⟩
  obtain ⟨ad', e, hb, hc⟩ := h.2 (by omega)
  injection e with e
  subst e
  refine ⟨_, rfl, by rw [block_of_add]; exact hb, fun j u hu => ?_⟩
  rw [add_of_add]
  refine hc _ u ?_
  rw [← nv_take, ← nv_drop, List.getElem?_take] at hu
  split at hu
  · rw [List.getElem?_drop] at hu; exact hu
  · cases hu
theorem parts_one {g0 n c B : Nat} {A : Option Addr} {m : List Nat} (hB : B ≤ W.heap.size) (hc : Blk W g0 34 #[.slice A n c]) (hr : Reads W B 1 A n (nv .u8 m)) (hnc : n ≤ c) (hb : Byt m) : Parts W W.heap.size (some ⟨g0, 0, none⟩) 1 [m] :=
 ⟨rfl, fun j hj => by
  obtain rfl : j = 0 := by omega
  exact ⟨_, _, _, _, rfl, hc.lt, by rw [Addr.add_mid]; exact hc.cell 0, hnc, hr.more hB, hb⟩⟩
theorem parts_two {g0 n c n2 c2 B B2 : Nat} {A A2 : Option Addr} {m m2 : List Nat} (hB : B ≤ W.heap.size) (hB2 : B2 ≤ W.heap.size) (hc : Blk W g0 34 #[.slice A n c, .slice A2 n2 c2]) (hr : Reads W B 1 A n (nv .u8 m)) (hnc : n ≤ c) (hb : Byt m)
    (hr2 : Reads W B2 1 A2 n2 (nv .u8 m2)) (hnc2 : n2 ≤ c2) (hb2 : Byt m2) : Parts W W.heap.size (some ⟨g0, 0, none⟩) 2 [m, m2] :=
  ⟨rfl, fun j hj => by
    rcases Nat.lt_or_ge j 1 with h0 | h0
    · obtain rfl : j = 0 := by omega
      exact ⟨_, _, _, _, rfl, hc.lt, by rw [Addr.add_mid]; exact hc.cell 0, hnc, hr.more hB, hb⟩
    · obtain rfl : j = 1 := by omega
      exact ⟨_, _, _, _, rfl, hc.lt, by rw [Addr.add_mid]; exact hc.cell 1, hnc2, hr2.more hB2, hb2⟩⟩
theorem parts_three {g0 n c n2 c2 n3 c3 B B2 B3 : Nat} {A A2 A3 : Option Addr} {m m2 m3 : List Nat} (hB : B ≤ W.heap.size) (hB2 : B2 ≤ W.heap.size) (hB3 : B3 ≤ W.heap.size) (hc : Blk W g0 34 #[.slice A n c, .slice A2 n2 c2, .slice A3 n3 c3]) (hr : Reads W B 1 A n (nv .u8 m)) (hnc : n ≤ c) (hb : Byt m)
    (hr2 : Reads W B2 1 A2 n2 (nv .u8 m2)) (hnc2 : n2 ≤ c2) (hb2 : Byt m2) (hr3 : Reads W B3 1 A3 n3 (nv .u8 m3)) (hnc3 : n3 ≤ c3) (hb3 : Byt m3) : Parts W W.heap.size (some ⟨g0, 0, none⟩) 3 [m, m2, m3] :=
  ⟨rfl, fun j hj => by
    have h3 : j = 0 ∨ j = 1 ∨ j = 2 := by omega
    rcases h3 with rfl | rfl | rfl
    · exact ⟨_, _, _, _, rfl, hc.lt, by rw [Addr.add_mid]; exact hc.cell 0, hnc, hr.more hB, hb⟩
    · exact ⟨_, _, _, _, rfl, hc.lt, by rw [Addr.add_mid]; exact hc.cell 1, hnc2, hr2.more hB2, hb2⟩
    · exact ⟨_, _, _, _, rfl, hc.lt, by rw [Addr.add_mid]; exact hc.cell 2, hnc3, hr3.more hB3, hb3⟩⟩
theorem slice_info : (Tryd.prog.info? 34).map (fun i => (i.zero, i.size, i.bytes)) = some (some (.slice none 0 0), 1, 24) := by kernel_rfl
theorem bs_1 (A0 : Option Addr) (n0 c0 : Nat) (W : World) : (Instr.buildSlice 90 1 #[(0, .slice A0 n0 c0)]).run Tryd.prog W = .ok (.slice (some ⟨W.heap.size, 0, none⟩) 1 1) (W.alloc (.cells #[.slice A0 n0 c0] 34)) := by
 obtain ⟨ie, hie, h0, h1, h2⟩ := info_parts slice_info
 refine run_buildSlice W _ 34 1 _ _ ie _ Tryd.underlying90 hie h0 (by rw [h1]; decide) (by rw [h1]; decide) ?_
 rw [h1]; kernel_rfl
theorem bs_2 (A0 : Option Addr) (n0 c0 : Nat) (A1 : Option Addr) (n1 c1 : Nat) (W : World) : (Instr.buildSlice 90 2 #[(0, .slice A0 n0 c0), (1, .slice A1 n1 c1)]).run Tryd.prog W = .ok (.slice (some ⟨W.heap.size, 0, none⟩) 2 2) (W.alloc (.cells #[.slice A0 n0 c0, .slice A1 n1 c1] 34)) := by
 obtain ⟨ie, hie, h0, h1, h2⟩ := info_parts slice_info
 refine run_buildSlice W _ 34 2 _ _ ie _ Tryd.underlying90 hie h0 (by rw [h1]; decide) (by rw [h1]; decide) ?_
 rw [h1]; kernel_rfl
theorem bs_3 (A0 : Option Addr) (n0 c0 : Nat) (A1 : Option Addr) (n1 c1 : Nat) (A2 : Option Addr) (n2 c2 : Nat) (W : World) : (Instr.buildSlice 90 3 #[(0, .slice A0 n0 c0), (1, .slice A1 n1 c1), (2, .slice A2 n2 c2)]).run Tryd.prog W = .ok (.slice (some ⟨W.heap.size, 0, none⟩) 3 3) (W.alloc (.cells #[.slice A0 n0 c0, .slice A1 n1 c1, .slice A2 n2 c2] 34)) := by
 obtain ⟨ie, hie, h0, h1, h2⟩ := info_parts slice_info
 refine run_buildSlice W _ 34 3 _ _ ie _ Tryd.underlying90 hie h0 (by rw [h1]; decide) (by rw [h1]; decide) ?_
 rw [h1]; kernel_rfl
theorem bs_0 (W : World) : (Instr.buildSlice 34 0 #[]).run Tryd.prog W = .ok (.slice (some ⟨W.heap.size, 0, none⟩) 0 0) (W.alloc (.cells (va .u8 []) 5)) := by
 obtain ⟨ie, hie, h0, h1, h2⟩ := info_parts byte_info
 simp [Instr.buildSlice, run_underlying Tryd.underlying34, sizeOf, typeInfo, hie, Instr.fill, newRow, va, nv]
 congr 2
 apply Array.ext <;> simp
theorem bs_b1 (x : Nat) (W : World) : (Instr.buildSlice 34 1 #[(0, .int .u8 (x : Nat))]).run Tryd.prog W = .ok (.slice (some ⟨W.heap.size, 0, none⟩) 1 1) (W.alloc (.cells (va .u8 [x]) 5)) := by
 obtain ⟨ie, hie, h0, h1, h2⟩ := info_parts byte_info
 refine run_buildSlice W _ 5 1 _ (va .u8 [x]) ie _ Tryd.underlying34 hie h0 (by rw [h1]; decide) (by rw [h1]; decide) ?_
 rw [h1]; kernel_rfl
end

section
variable {P : Program} {l : List Oper} {Q : Exit → Act → World → Prop} {S : World → Prop} {fuel : Nat} {listed : Array Bool} {ts : List Value} {df : List Deferred} {w : World} {md : Region.Mode}
theorem readyRunS (fuel i : Nat) (w2 : World) {o : Oper} {r : List Oper} {rs : List Nat} (hi : l.drop i = o :: r) (hdst : o.dst = none) (hw : Region.wanted o (yielded l.toArray ts.toArray) = true)
  (hrun : (execOp (Act.eval ⟨ts.toArray, df⟩) o).run P w = .ok .skip w2) (hS : S w2)
  (h : S w2 → wpAnyH P md l.toArray Q S fuel (listed.setIfInBounds i true) ⟨ts.toArray, df⟩ w2)
  (hs : AllReadyH P md l.toArray Q S fuel listed ⟨ts.toArray, df⟩ w rs) : AllReadyH P md l.toArray Q S fuel listed ⟨ts.toArray, df⟩ w (i :: rs) := by
 refine AllReadyH.cons (drop_get hi) (fun K hK => ?_) hs
 rw [if_pos hw]
 unfold Oper.wp
 rw [hrun]
 refine hK.out _ _ hS fun hS => ?_
 rw [hdst]
 exact h hS
theorem exec_storeRow {op : Oper} {a : Act} (ty : TypeId) (x y : Operand) (ho : op.op = .store ty x y) (g : Nat) (hx : a.eval x = .pointer (some ⟨g, 0, none⟩)) (c : Array Value) (hy : a.eval y = .agg c) (t : TypeId) (old : Array Value) (hb : Blk w g t old) (hs : old.size = c.size)
  (hin : (P.info? ty).map (·.size) = some c.size) (h1 : ∀ v ∈ c.toList, v.oneCell' = true) : (execOp a.eval op).run P w = .ok .skip (w.setRow g c) := by
 unfold execOp
 simp only [ho, hx, hy, Instr.storeAt, Instr.sureAddr, Sem.run_bind, Sem.run_pure, Result.andThen_ok, run_storeVar_row hb c hs hin h1]
theorem exec_storeCell {op : Oper} {a : Act} (ty : TypeId) (x y : Operand) (ho : op.op = .store ty x y) (g i : Nat) (hx : a.eval x = .pointer (some ⟨g, i, none⟩)) (v : Value) (hy : a.eval y = v) (hv : v.cells = #[v]) (h1 : v.oneCell' = true) (t : TypeId) (old : Array Value) (hb : Blk w g t old) (hi : i < old.size)
  (hin : (P.info? ty).map (·.size) = some 1) : (execOp a.eval op).run P w = .ok .skip (w.setCell ⟨g, i, none⟩ v) := by
 cases hq : P.info? ty with
 | none => simp [hq] at hin
 | some f =>
  have hs : f.size = 1 := by simpa [hq] using hin
  have hc : w.cell? ⟨g, i, none⟩ = some old[i] := by rw [hb.cell]; exact Array.getElem?_eq_getElem hi
  have hf := hb.frozen i
  have e : (storeVar ty ⟨g, i, none⟩ v).run P w = .ok () (w.setCell ⟨g, i, none⟩ v) := by
   have e0 : (⟨g, i, none⟩ : Addr).add 0 = ⟨g, i, none⟩ := rfl
   have e1 := run_store P w ⟨g, i, none⟩ v .plain h1
   simp only [hc, hf] at e1
   simp [storeVar, sizeOf, typeInfo, hq, hs, hv, storeCells, e0, e1]
  unfold execOp
  simp only [ho, hx, hy, Instr.storeAt, Instr.sureAddr, Sem.run_bind, Sem.run_pure, Result.andThen_ok, e]
end
section
variable {w : World}
theorem ByB.drew_ {g : Nat} {l : List Nat} (h : ByB w g l) : ByB w.drew g l := ⟨h.lt, h.c⟩
end
section
variable {P : Program} {w w2 : World}
theorem setRow_self {g : Nat} {t : TypeId} {cs : Array Value} (h : Blk w g t cs) : w.setRow g cs = w := by
  have e : (w.setRow g cs).heap = w.heap := by
    apply Array.ext_getElem?
    intro i
    by_cases hi : g = i
    · subst hi
      rw [h.row cs]; exact h.symm
    · exact setRow_other w g cs i hi
  calc w.setRow g cs = { w with heap := (w.setRow g cs).heap } := rfl
    _ = { w with heap := w.heap } := by rw [e]
    _ = w := rfl
theorem exec_copy {op : Oper} {a : Act} (t1 t2 : TypeId) (x y : Operand) (ho : op.op = .call { callee := .builtin .copy, args := #[x, y], argTypes := #[t1, t2] }) (v1 v2 v : Value) (hx : a.eval x = v1) (hy : a.eval y = v2)
  (h : (Builtin.copy_ #[t1, t2] op.type #[v1, v2]).run P w = .ok v w2) : (execOp a.eval op).run P w = .ok (.value v) w2 := by
 unfold execOp
 simp only [ho, resolve, invoke, builtin, Sem.run_bind, Sem.run_pure, Result.andThen_ok, List.map_toArray, List.map_cons, List.map_nil, hx, hy, h]
theorem exec_append {op : Oper} {a : Act} (t1 t2 : TypeId) (x y : Operand) (ho : op.op = .call { callee := .builtin .append, args := #[x, y], argTypes := #[t1, t2] }) (v1 v2 v : Value) (hx : a.eval x = v1) (hy : a.eval y = v2)
  (h : (Builtin.append_ #[t1, t2] op.type #[v1, v2]).run P w = .ok v w2) : (execOp a.eval op).run P w = .ok (.value v) w2 := by
 unfold execOp
 simp only [ho, resolve, invoke, builtin, Sem.run_bind, Sem.run_pure, Result.andThen_ok, List.map_toArray, List.map_cons, List.map_nil, hx, hy, h]
end
theorem exec_makeB {op : Oper} {a : Act} {w : World} (x y : Operand) (ho : op.op = .makeSlice 34 x y) (n : Nat) (hn : n ≤ 281474976710656) (hx : a.eval x = .int .i64 (n : Int)) (hy : a.eval y = .int .i64 (n : Int)) :
  (execOp a.eval op).run Tryd.prog w = .ok (.value (.slice (some ⟨w.heap.size, 0, none⟩) n n)) (w.alloc (.cells (va .u8 (List.replicate n 0)) 5)) := by
 unfold execOp
 simp only [ho, hx, hy, Sem.run_bind, make_bytes n hn w, Result.andThen_ok, Sem.run_pure]
/-! the same steps behind a wrapper that is not unfolded -/
structure WL (P : Program) (ops : Array Oper) (Q : Exit → Act → World → Prop) (l : List Oper) (a : Act) (w : World) : Prop where
 out : wpList P ops Q l a w
section
variable {P : Program} {Q : Exit → Act → World → Prop} {ts : List Value} {df : List Deferred} {w : World}
theorem wl_lit {id : Nat} {l : List Oper} {a : Act} (h : WL P l.toArray Q l a w) : (Code.region id l.toArray false).wp P Q a w := wp_region_lit h.out
theorem nilL {ops : Array Oper} {a : Act} (h : Q .normal a w) : WL P ops Q [] a w := ⟨wpList_nil h⟩
theorem runL {o : Oper} {rest : List Oper} {ops : Array Oper} (d : Nat) (v : Value) (hdst : o.dst = some d) (hw : Region.wanted o (yielded ops ts.toArray) = true)
  (hrun : (execOp (Act.eval ⟨ts.toArray, df⟩) o).run P w = .ok (.value v) w) (h : WL P ops Q rest ⟨(ts.set d v).toArray, df⟩ w) : WL P ops Q (o :: rest) ⟨ts.toArray, df⟩ w := ⟨runP d v hdst hw hrun h.out⟩
theorem callL {o : Oper} {rest : List Oper} {ops : Array Oper} (d : Nat) (hdst : o.dst = some d) (hw : Region.wanted o (yielded ops ts.toArray) = true)
  (h : ∀ K : Act → World → Prop, Shut (∀ v w, WL P ops Q rest ⟨(ts.set d v).toArray, df⟩ w → K (Act.put ⟨ts.toArray, df⟩ o.dst v) w) → Oper.wp P o ⟨ts.toArray, df⟩ w K Q) : WL P ops Q (o :: rest) ⟨ts.toArray, df⟩ w :=
 ⟨callP d hdst hw fun K hK => h K (fun v w hn => hK v w hn.out)⟩
theorem runWL {o : Oper} {rest : List Oper} {ops : Array Oper} (d : Nat) (v : Value) (w2 : World) (hdst : o.dst = some d) (hw : Region.wanted o (yielded ops ts.toArray) = true)
  (hrun : (execOp (Act.eval ⟨ts.toArray, df⟩) o).run P w = .ok (.value v) w2) (h : WL P ops Q rest ⟨(ts.set d v).toArray, df⟩ w2) : WL P ops Q (o :: rest) ⟨ts.toArray, df⟩ w := ⟨runW d v w2 hdst hw hrun h.out⟩
theorem runSL {o : Oper} {rest : List Oper} {ops : Array Oper} (w2 : World) (hdst : o.dst = none) (hw : Region.wanted o (yielded ops ts.toArray) = true)
  (hrun : (execOp (Act.eval ⟨ts.toArray, df⟩) o).run P w = .ok .skip w2) (h : WL P ops Q rest ⟨ts.toArray, df⟩ w2) : WL P ops Q (o :: rest) ⟨ts.toArray, df⟩ w := ⟨runS w2 hdst hw hrun h.out⟩
theorem skipL {o : Oper} {rest : List Oper} {ops : Array Oper} (d : Nat) (hdst : o.dst = some d) (hw : Region.wanted o (yielded ops ts.toArray) = false)
  (h : WL P ops Q rest ⟨(ts.set d undef).toArray, df⟩ w) : WL P ops Q (o :: rest) ⟨ts.toArray, df⟩ w := ⟨skipP d hdst hw h.out⟩
end
end Go.Proofs.YtcfddmplnoknlaaDoor
namespace Go.Proofs.YtcfddmplnoknlaaDoor
set_option maxRecDepth 16384
open Go.RowKit Sh

theorem copy_reads {w : World} (dT sT ty : TypeId) (hu : Tryd.prog.underlying dT = some (.slice 5)) (g o dLen dCap : Nat) (T : TypeId) (cur : List Nat) (hg : Blk w g T (va .u8 cur)) (A : Option Addr) (n c B : Nat) (m : List Nat) (hr : Reads w B 1 A n (nv .u8 m))
    (hd : n ≤ dLen) (hfit : o + n ≤ cur.length) :
    ∃ w', (Builtin.copy_ #[dT, sT] ty #[.slice (some ⟨g, o, none⟩) dLen dCap, .slice A n c]).run Tryd.prog w = .ok (.int .i64 (n : Int)) w' ∧ Blk w' g T (va .u8 (cur.take o ++ (m ++ cur.drop (o + n)))) ∧ Below g w w' := by
  have hl := hr.len
  have hsz : (Tryd.prog.info? 5).map (·.size) = some 1 := by kernel_rfl
  rcases A with _ | ad
  · have hn : n = 0 := by
      rcases Nat.eq_zero_or_pos n with h0 | h0
      · exact h0
      · obtain ⟨ad, h, _⟩ := hr.2 h0
        cases h
    subst hn
    obtain rfl := List.eq_nil_of_length_eq_zero hl
    refine ⟨w, ?_, ?_, Below.refl _ _⟩
    · cases hq : Tryd.prog.info? 5 with
      | none => simp [hq] at hsz
      | some i =>
        have hi : i.size = 1 := by simpa [hq] using hsz
        simp [Builtin.copy_, run_underlying hu, Builtin.lenOf, Builtin.firstCells, sizeOf, typeInfo, hq, storeCells, goInt]
    · have e : cur.take o ++ ([] ++ cur.drop (o + 0)) = cur := by simp
      rw [e]; exact hg
  · have hcp := run_copy_row (P := Tryd.prog) w dT sT ty 5 g o dLen dCap ad n c (va .u8 cur) T (nv .u8 m) hu hsz hg
      (by rw [nv_len, hl]; exact (Nat.min_eq_left hd).symm)
      (fun j v hv => by
        rcases Nat.eq_zero_or_pos n with h0 | h0
        · rw [List.eq_nil_of_length_eq_zero (hl.trans h0)] at hv; simp [nv] at hv
        · obtain ⟨ad', h, _, hc⟩ := hr.2 h0
          injection h with h
          subst h
          exact hc j v hv)
      (by rw [nv_len, va_size, hl]; exact hfit) (nv_one _ _)
    rw [va_splice, nv_len, hl] at hcp
    exact ⟨_, hcp, hg.row _, below_setRow (Below.refl _ _) (Nat.le_refl _) _⟩

theorem copy_row {w : World} (dT sT ty : TypeId) (hu : Tryd.prog.underlying dT = some (.slice 5)) (g o dLen dCap : Nat) (T : TypeId) (cur : List Nat) (hg : Blk w g T (va .u8 cur)) (A : Option Addr) (n c B : Nat) (m : List Nat) (hr : Reads w B 1 A n (nv .u8 m))
    (hd : n ≤ dLen) (hfit : o + n ≤ cur.length) (new : List Nat) (hnew : cur.take o ++ (m ++ cur.drop (o + n)) = new) :
    (Builtin.copy_ #[dT, sT] ty #[.slice (some ⟨g, o, none⟩) dLen dCap, .slice A n c]).run Tryd.prog w = .ok (.int .i64 (n : Int)) (w.setRow g (va .u8 new)) := by
  subst hnew
  have hl := hr.len
  have hsz : (Tryd.prog.info? 5).map (·.size) = some 1 := by kernel_rfl
  rcases A with _ | ad
  · have hn : n = 0 := by
      rcases Nat.eq_zero_or_pos n with h0 | h0
      · exact h0
      · obtain ⟨ad, h, _⟩ := hr.2 h0
        cases h
    subst hn
    obtain rfl := List.eq_nil_of_length_eq_zero hl
    have e : cur.take o ++ ([] ++ cur.drop (o + 0)) = cur := by simp
    rw [e, setRow_self hg]
    cases hq : Tryd.prog.info? 5 with
    | none => simp [hq] at hsz
    | some i =>
      have hi : i.size = 1 := by simpa [hq] using hsz
      simp [Builtin.copy_, run_underlying hu, Builtin.lenOf, Builtin.firstCells, sizeOf, typeInfo, hq, storeCells, goInt]
  · have hcp := run_copy_row (P := Tryd.prog) w dT sT ty 5 g o dLen dCap ad n c (va .u8 cur) T (nv .u8 m) hu hsz hg
      (by rw [nv_len, hl]; exact (Nat.min_eq_left hd).symm)
      (fun j v hv => by
        rcases Nat.eq_zero_or_pos n with h0 | h0
        · rw [List.eq_nil_of_length_eq_zero (hl.trans h0)] at hv; simp [nv] at hv
        · obtain ⟨ad', h, _, hc⟩ := hr.2 h0
          injection h with h
          subst h
          exact hc j v hv)
      (by rw [nv_len, va_size, hl]; exact hfit) (nv_one _ _)
    rw [va_splice, nv_len, hl] at hcp
    rw [hcp]; rfl
theorem Blk.own {w : World} {g n base : Nat} {t : TypeId} {k : IntKind} {l : List Nat} (h : Blk w g t (va k l)) (hn : l.length = n) (hb : base ≤ g) (hm : n ≤ maxLen) : w.ownsRow base t 1 (.slice (some ⟨g, 0, none⟩) n n) n (nv k l) := by
 subst hn
 exact ⟨by rw [nv_len]; omega, .inr ⟨g, l.length, va k l, rfl, hb, h, Nat.le_refl _, hm, by rw [va_size]; omega, by
  rw [Nat.mul_one, List.take_of_length_le (by simp [va, nv])]; simp [va]⟩⟩
end Go.Proofs.YtcfddmplnoknlaaDoor
namespace Go.Proofs.YtcfddmplnoknlaaDoor
set_option maxRecDepth 16384
open Go.RowKit Sh

def joinl (ms : List (List Nat)) (k : Nat) : List Nat := (ms.take k).flatten ++ List.replicate (ms.flatten.length - (ms.take k).flatten.length) 0
theorem joinl_zero (ms : List (List Nat)) : joinl ms 0 = List.replicate ms.flatten.length 0 := by simp [joinl]
theorem joinl_all (ms : List (List Nat)) (k : Nat) (hk : k = ms.length) : joinl ms k = ms.flatten := by
 subst hk; simp [joinl]
theorem joinl_len (ms : List (List Nat)) (k : Nat) : (joinl ms k).length = ms.flatten.length := by
 have := flat_take_len ms k
 simp only [joinl, List.length_append, List.length_replicate]; omega
theorem flat_step_len (ms : List (List Nat)) (k : Nat) (hk : k < ms.length) : (ms.take k).flatten.length + (ms.getD k []).length ≤ ms.flatten.length := by
 have h := flat_take_len ms (k + 1)
 rw [flat_take_succ ms k hk, List.length_append] at h; exact h
theorem joinl_step (ms : List (List Nat)) (k : Nat) (hk : k < ms.length) :
  (joinl ms k).take (ms.take k).flatten.length ++ (ms.getD k [] ++ (joinl ms k).drop ((ms.take k).flatten.length + (ms.getD k []).length)) = joinl ms (k + 1) := by
 have h1 := flat_step_len ms k hk
 have e : (ms.take (k + 1)).flatten = (ms.take k).flatten ++ ms.getD k [] := flat_take_succ ms k hk
 unfold joinl
 rw [e]
 generalize ms.getD k [] = p at *
 generalize (ms.take k).flatten = a at *
 generalize ms.flatten.length = N at *
 rw [List.take_left, List.drop_append, List.drop_eq_nil_of_le (by omega)]
 simp only [List.nil_append, List.drop_replicate, List.length_append, List.append_assoc]
 congr 3
 omega

set_option maxHeartbeats 1000000 in
theorem join_any (ms : List (List Nat)) (n c B N : Nat) (A : Option Addr) (w : World) (hp : Parts w B A n ms) (hn : n < 4611686018427387904) (hB : B ≤ w.heap.size) (hN : ms.flatten.length = N) (hlen : N < 281474976710656) :
    Calls Tryd.prog 42 #[.slice A n c] w fun e w' => ∃ r, e = .returned r ∧ NewBytes w r ms.flatten w' := by
  have hpn := hp.1
  have hp' := Lib.hid hp
  have hN' := Lib.hid hN
  have hmk := make_bytes N (by omega)
  clear hp hN
  go_enter Tryd.func42, Tryd.ntmps42
  go_wp2
  go_loop [3, 12] (fun s i => ∃ k : Nat, k ≤ n ∧ i = .int .i64 (k : Int) ∧ s = .int .i64 ((ms.take k).flatten.length : Int)) (fun _ i => n - (intOf i).toNat)
  case atStart => exact ⟨0, by omega, rfl, by simp⟩
  case round =>
    obtain ⟨k, hk, rfl, rfl⟩ := hrel
    by_cases hlt : k < n
    · have hlt' : (k : Int) < (n : Int) := by omega
      obtain ⟨ad, Ai, ni, ci, rfl, hadB, hc0, hnc, hr0, hby⟩ := hp'.out.2 k hlt
      have hst := flat_take_succ ms k (by omega)
      have hle := flat_step_len ms k (by omega)
      have hl0 := hr0.len
      have hst' := Lib.hid hst
      have hN1 := hN'.out
      rw [hl0, hN1] at hle
      have hl0' := Lib.hid hl0
      clear hr0 hby hst hl0 hN1
      generalize hS : (ms.take k).flatten.length = S at *
      go_wp2
      go_round
      case rel => exact ⟨k + 1, by omega, by go_num, by rw [hst'.out, List.length_append, hS, hl0'.out]; go_num⟩
      case measure => simp [intOf]; omega
    · obtain rfl : n = k := by omega
      have hall : (ms.take n).flatten.length = N := by rw [List.take_of_length_le (by omega)]; exact hN'.out
      rw [hall]
      have hblk0 : Blk (w.alloc (.cells (va .u8 (List.replicate N 0)) 5)) w.heap.size 5 (va .u8 (joinl ms 0)) := by rw [joinl_zero, hN'.out]; exact Blk.new _ _ _
      have hb0 := Lib.hid hblk0
      clear hall hblk0
      go_wp2
      have hblk := hb0.out
      have hbel : Below w.heap.size w (w.alloc (.cells (va .u8 (List.replicate N 0)) 5)) := (Below.refl _ _).alloc (Nat.le_refl _) _
      generalize w.alloc (.cells (va .u8 (List.replicate N 0)) 5) = w1 at *
      clear hb0 hmk
      go_loopw [7, 25] (fun s i wr => ∃ k : Nat, k ≤ n ∧ i = .int .i64 (k : Int) ∧ s = .int .i64 ((ms.take k).flatten.length : Int) ∧ Blk wr w.heap.size 5 (va .u8 (joinl ms k)) ∧ Below w.heap.size w wr) (fun _ i _ => n - (intOf i).toNat)
      case atStart => exact ⟨0, by omega, rfl, by simp, hblk, hbel⟩
      case round =>
        clear hblk hbel
        obtain ⟨k, hk, rfl, rfl, hblk, hbel⟩ := hrel
        by_cases hlt : k < n
        · have hlt' : (k : Int) < (n : Int) := by omega
          obtain ⟨ad, Ai, ni, ci, rfl, hadB, hc0, hnc, hr0, hby⟩ := hp'.out.2 k hlt
          have hst := flat_take_succ ms k (by omega)
          have hle := flat_step_len ms k (by omega)
          have hl0 := hr0.len
          have hst' := Lib.hid hst
          have hN1 := hN'.out
          have hjs := joinl_step ms k (by omega)
          have hjl := joinl_len ms k
          rw [hl0] at hjs
          rw [hl0, hN1] at hle
          rw [hN1] at hjl
          have hl0' := Lib.hid hl0
          have hrw := hr0.below (hbel.mono hB)
          have hcw := (hbel.cell (p := ad.add k) (by rw [block_of_add]; omega)).trans hc0
          have hrw' := Lib.hid hrw
          have hjs' := Lib.hid hjs
          have hjl' := Lib.hid hjl
          have hb' := Lib.hid hblk
          have hbl' := Lib.hid hbel
          clear hr0 hby hst hl0 hN1 hrw hjs hjl hblk hbel hc0
          generalize hS : (ms.take k).flatten.length = S at *
          by_cases hSN : S < N
          · have hSN' : (S : Int) < (N : Int) := by omega
            go_wp2
            obtain ⟨w', hrun, hb1, hbel1⟩ := copy_reads 34 34 3 Tryd.underlying34 w.heap.size S (N - S) (N - S) 5 (joinl ms k) hb'.out Ai ni ci B _ hrw'.out (by omega) (by rw [hjl'.out]; omega)
            rw [hrun]
            rw [hjs'.out] at hb1
            have hb2 := Lib.hid hb1
            have hbl2 := Lib.hid (hbl'.out.trans hbel1)
            clear hrun hb1 hbel1 hjs'
            go_wp2
            go_roundw
            case rel => exact ⟨k + 1, by omega, by go_num, by rw [hst'.out, List.length_append, hS, hl0'.out]; go_num, hb2.out, hbl2.out⟩
            case measure => simp [intOf]; omega
          · obtain rfl : S = N := by omega
            obtain rfl : ni = 0 := by omega
            go_wp2
            obtain ⟨w', hrun, hb1, hbel1⟩ := copy_reads 34 34 3 Tryd.underlying34 w.heap.size 0 0 0 5 (joinl ms k) hb'.out Ai 0 ci B _ hrw'.out (by omega) (by omega)
            rw [hrun]
            have hm0 : ms.getD k [] = [] := List.eq_nil_of_length_eq_zero hl0'.out
            have e1 := hjs'.out
            rw [hm0, List.take_of_length_le (by rw [hjl'.out]; exact Nat.le_refl _), List.drop_eq_nil_of_le (by rw [hjl'.out]; omega)] at e1
            simp only [List.append_nil] at e1
            rw [hm0] at hb1
            simp only [List.take_zero, List.nil_append, List.drop_zero, Nat.add_zero] at hb1
            rw [e1] at hb1
            have hb2 := Lib.hid hb1
            have hbl2 := Lib.hid (hbl'.out.trans hbel1)
            clear hrun hb1 hbel1 hjs' e1 hm0
            go_wp2
            go_roundw
            case rel => exact ⟨k + 1, by omega, by go_num, by rw [hst'.out, List.length_append, hS, hl0'.out]; go_num, hb2.out, hbl2.out⟩
            case measure => simp [intOf]; omega
        · obtain rfl : n = k := by omega
          go_wp2
          go_ret
          rw [joinl_all ms n hpn.symm] at hblk
          exact ⟨.slice (some ⟨w.heap.size, 0, none⟩) N N, rfl, w.heap.size, by rw [hN'.out], hblk, Nat.le_refl _, hbel⟩

theorem join_to (ms : List (List Nat)) (l : List Nat) (n c B N : Nat) (A : Option Addr) (w : World) (hp : Parts w B A n ms) (hl : ms.flatten = l) (hn : n < 4611686018427387904) (hB : B ≤ w.heap.size) (hN : l.length = N) (hlen : N < 281474976710656) :
  Calls Tryd.prog 42 #[.slice A n c] w fun e w' => ∃ g, e = .returned (.slice (some ⟨g, 0, none⟩) N N) ∧ Blk w' g 5 (va .u8 l) ∧ w.heap.size ≤ g ∧ Below w.heap.size w w' := by
 subst hl hN
 refine (join_any ms n c B _ A w hp hn hB rfl hlen).mono ?_
 rintro e w' ⟨r, rfl, g, rfl, h1, h2, h3⟩
 exact ⟨g, rfl, h1, h2, h3⟩
theorem put32_to (v : Nat) (l : List Nat) (hl : beB v 4 = l) (hv : v < 4294967296) (w : World) :
  Calls Tryd.prog 43 #[.int .u32 (v : Int)] w fun e w' => ∃ g, e = .returned (.slice (some ⟨g, 0, none⟩) 4 4) ∧ Blk w' g 5 (va .u8 l) ∧ w.heap.size ≤ g ∧ Below w.heap.size w w' := by
 subst hl
 refine (put32_any v hv w).mono ?_
 rintro e w' ⟨r, rfl, g, rfl, h1, h2, h3⟩
 exact ⟨g, by rw [beB_len], h1, h2, h3⟩
theorem put64_to (v : Nat) (l : List Nat) (hl : beB v 8 = l) (w : World) :
  Calls Tryd.prog 65 #[.int .u64 (v : Int)] w fun e w' => ∃ g, e = .returned (.slice (some ⟨g, 0, none⟩) 8 8) ∧ Blk w' g 5 (va .u8 l) ∧ w.heap.size ≤ g ∧ Below w.heap.size w w' := by
 subst hl
 refine (put64_any v w).mono ?_
 rintro e w' ⟨r, rfl, g, rfl, h1, h2, h3⟩
 exact ⟨g, by rw [beB_len], h1, h2, h3⟩
end Go.Proofs.YtcfddmplnoknlaaDoor
namespace Go.Proofs.YtcfddmplnoknlaaDoor
set_option maxRecDepth 16384
open Go.RowKit Sh

theorem div_step (v k : Nat) : v / 2 ^ (8 * k) / 256 = v / 2 ^ (8 * (k + 1)) := by
 rw [Nat.div_div_eq_div_mul, show 8 * (k + 1) = 8 * k + 8 from by omega, Nat.pow_add]

set_option maxHeartbeats 400000 in
theorem rput_any (v n : Nat) (hv : v < 18446744073709551616) (h1 : 1 ≤ n) (hn : n ≤ 8) (w : World) :
    Calls Tryd.prog 47 #[.int .u64 (v : Int), .int .i64 (n : Int)] w fun e w' => ∃ r, e = .returned r ∧ NewBytes w r (beB v n) w' := by
  have hmk := make_bytes n (by omega)
  have hm : Blk (w.alloc (.cells (va .u8 (List.replicate n 0)) 5)) w.heap.size 5 (va .u8 (putl v n 0)) := by rw [putl_zero]; exact Blk.new _ _ _
  have hm' := Lib.hid hm
  clear hm
  have hn' : (n : Int) ≤ 8 := by omega
  have h1' : 1 ≤ (n : Int) := by omega
  go_enter Tryd.func47, Tryd.ntmps47
  go_wp2
  have hm := hm'.out
  have hb0 : Below w.heap.size w (w.alloc (.cells (va .u8 (List.replicate n 0)) 5)) := (Below.refl _ _).alloc (Nat.le_refl _) _
  generalize w.alloc (.cells (va .u8 (List.replicate n 0)) 5) = w1 at *
  clear hm' hmk
  go_loopw [0, 6] (fun x s wr => ∃ k : Nat, k ≤ n ∧ x = .int .u64 ((v / 2 ^ (8 * k) : Nat) : Int) ∧ s = .int .i64 ((n : Int) - 1 - (k : Int)) ∧ Blk wr w.heap.size 5 (va .u8 (putl v n k)) ∧ Below w.heap.size w wr) (fun _ s _ => (intOf s + 1).toNat)
  case atStart => exact ⟨0, by omega, by simp, by simp, hm, hb0⟩
  case round =>
    obtain ⟨k, hk, rfl, rfl, hblk, hb⟩ := hrel
    clear hm hb0
    by_cases hlt : k < n
    · have hge : 0 ≤ (n : Int) - 1 - (k : Int) := by omega
      have hc := hblk.num (i := n - 1 - k) (by rw [putl_len]; omega)
      have hf := hblk.frozen (n - 1 - k)
      have hidx : ((n : Int) - 1 - (k : Int)).toNat = n - 1 - k := by omega
      have hset := hblk.setNum (n - 1 - k) (v / 2 ^ (8 * k) % 256)
      rw [putl_step v n k hlt] at hset
      have hset' := Lib.hid hset
      have hst := Lib.hid (div_step v k)
      have hvk : v / 2 ^ (8 * k) < 18446744073709551616 := Nat.lt_of_le_of_lt (Nat.div_le_self _ _) hv
      have hltn : (n : Int) - 1 - (k : Int) < (n : Int) := by omega
      clear hset
      generalize (putl v n k).getD (n - 1 - k) 0 = u at *
      generalize hx : v / 2 ^ (8 * k) = x at *
      go_wp2
      go_roundw
      case rel =>
        have e : (x : Int) % 256 = ((x % 256 : Nat) : Int) := by omega
        refine ⟨k + 1, by omega, ?_, by go_num, by rw [e]; exact hset'.out, hb.setCell (Nat.le_refl _) _⟩
        rw [← hst.out]; simp
      case measure => simp [intOf]; omega
    · obtain rfl : n = k := by omega
      go_wp2
      go_ret
      refine ⟨.slice (some ⟨w.heap.size, 0, none⟩) n n, rfl, w.heap.size, ?_, ?_, Nat.le_refl _, hb⟩
      · rw [beB_len]
      · rw [← putl_all]; exact hblk

set_option maxHeartbeats 400000 in
theorem rput32_any (v : Nat) (hv : v < 4294967296) (w : World) :
  Calls Tryd.prog 27 #[.int .u32 (v : Int)] w fun e w' => ∃ r, e = .returned r ∧ NewBytes w r (beB v 4) w' := by
 go_enter Tryd.func27, Tryd.ntmps27
 go_wp2_with fail
 refine (rput_any v 4 (by omega) (by omega) (by omega) _).mono ?_
 rintro e w1 ⟨r, rfl, hr⟩
 go_wp2
 go_ret
 exact ⟨r, rfl, hr⟩

set_option maxHeartbeats 400000 in
theorem rput64_any (v : Nat) (hv : v < 18446744073709551616) (w : World) :
  Calls Tryd.prog 48 #[.int .u64 (v : Int)] w fun e w' => ∃ r, e = .returned r ∧ NewBytes w r (beB v 8) w' := by
 go_enter Tryd.func48, Tryd.ntmps48
 go_wp2_with fail
 refine (rput_any v 8 hv (by omega) (by omega) _).mono ?_
 rintro e w1 ⟨r, rfl, hr⟩
 go_wp2
 go_ret
 exact ⟨r, rfl, hr⟩

set_option maxHeartbeats 400000 in
theorem rget_any (A : Option Addr) (n c B : Nat) (l : List Nat) (z : Int) (hz : z = (n : Int)) (hn : n ≤ 8) (hl : Byt l) (w : World) (hr : Reads w B 1 A n (nv .u8 l)) :
    Calls Tryd.prog 83 #[.slice A n c, .int .i64 (z : Int)] w fun e w' => e = .returned (.tuple #[.int .u64 (beV l : Nat), .int .i64 0]) ∧ w = w' := by
  subst hz
  have hlen := hr.len
  go_enter Tryd.func83, Tryd.ntmps83
  go_wp2
  go_loop [6, 7] (fun v s => ∃ k : Nat, k ≤ n ∧ s = .int .i64 (k : Int) ∧ v = .int .u64 (beV (l.take k) : Nat)) (fun _ s => n - (intOf s).toNat)
  case atStart => exact ⟨0, by omega, rfl, rfl⟩
  case round =>
    obtain ⟨k, hk, rfl, rfl⟩ := hrel
    have hb := beV_lt (l.take k) (hl.take k)
    by_cases hlt : k < n
    · have hlt' : (k : Int) < (n : Int) := by omega
      obtain ⟨ad, rfl, hbl, hc⟩ := hr.num hlt
      have hx := hl.get k
      have hstep := take_succ_getD l k (by omega)
      generalize hxk : l.getD k 0 = x at *
      have hval : beV (l.take (k + 1)) = beV (l.take k) * 256 + x := by rw [hstep, beV_snoc]
      have hval' := Lib.hid hval
      have hb2 : beV (l.take k) < 72057594037927936 := by
        refine Nat.lt_of_lt_of_le hb (Nat.pow_le_pow_right (n := 2) (j := 56) (by omega) ?_)
        have := List.length_take_le k l; omega
      clear hval hstep hxk hb
      go_wp2
      go_round
      case rel => exact ⟨k + 1, by omega, by go_num, by rw [hval'.out]; go_num⟩
      case measure => simp [intOf]; omega
    · obtain rfl : n = k := by omega
      go_wp2
      go_ret2
      exact ⟨by rw [List.take_of_length_le (by omega)]; rfl, rfl⟩
end Go.Proofs.YtcfddmplnoknlaaDoor
namespace Go.Proofs.YtcfddmplnoknlaaDoor
set_option maxRecDepth 16384
open Go.RowKit Sh

theorem parts_two5 {w : World} {g B c1 c2 n1 n2 : Nat} {t : TypeId} {A1 A2 : Option Addr} {a b : List Nat} (hg : Blk w g t #[.slice A1 n1 c1, .slice A2 n2 c2]) (hgB : g < B) (h1 : Reads w B 1 A1 n1 (nv .u8 a)) (h2 : Reads w B 1 A2 n2 (nv .u8 b)) (hc1 : n1 ≤ c1) (hc2 : n2 ≤ c2) (ha : Byt a) (hb : Byt b) :
    Parts w B (some ⟨g, 0, none⟩) 2 [a, b] := by
  refine ⟨rfl, fun j hj => ?_⟩
  rcases Nat.lt_or_ge j 1 with h0 | h0
  · obtain rfl : j = 0 := by omega
    exact ⟨_, A1, n1, c1, rfl, hgB, by rw [add_none]; exact hg.cell 0, hc1, h1, ha⟩
  · obtain rfl : j = 1 := by omega
    exact ⟨_, A2, n2, c2, rfl, hgB, by rw [add_none]; exact hg.cell 1, hc2, h2, hb⟩

set_option maxHeartbeats 1000000 in
theorem nput_any (s c : Nat) (hs : s < 4294967296) (w : World) :
    Calls Tryd.prog 44 #[.agg (noV s c)] w fun e w' => ∃ g, e = .returned (.slice (some ⟨g, 0, none⟩) 12 12) ∧ Blk w' g 5 (va .u8 (beB s 4 ++ beB c 8)) ∧ w.heap.size ≤ g ∧ Below w.heap.size w w' := by
  unfold noV
  have hB0 : Below w.heap.size w (w.alloc (.cells #[.int .u32 (s : Int), .int .u64 (c : Int)] 30)).drew := below_drewN ((Below.refl _ _).alloc (Nat.le_refl _) _) 1
  have hX0 : Blk (w.alloc (.cells #[.int .u32 (s : Int), .int .u64 (c : Int)] 30)).drew w.heap.size 30 #[.int .u32 (s : Int), .int .u64 (c : Int)] := (Blk.newAt rfl).drew
  obtain ⟨a, ha⟩ : ∃ a, beB s 4 = a := ⟨_, rfl⟩
  obtain ⟨b, hb⟩ : ∃ b, beB c 8 = b := ⟨_, rfl⟩
  have hal : a.length = 4 := by rw [← ha, beB_len]
  have hbl : b.length = 8 := by rw [← hb, beB_len]
  have hab : Byt a := ha ▸ beB_byt s 4
  have hbb : Byt b := hb ▸ beB_byt c 8
  rw [ha, hb]
  have ha' := Lib.hid ha
  have hb' := Lib.hid hb
  have hB := Lib.hid hB0
  have hX := Lib.hid hX0
  clear hB0 hX0 ha hb
  go_enter Tryd.func44, Tryd.ntmps44
  go_wp2
  go_region_with (first
    | (go_at_call 43
       refine (put32_to s a ha'.out hs _).mono ?_
       rintro e wq ⟨g1, rfl, hb1, hg1, b1⟩
       have hg1 := Lib.hid (Nat.le_trans hB.out.size hg1)
       replace hB := Lib.hid (hB.out.trans (b1.mono hB.out.size))
       replace hX := Lib.hid (hX.out.below b1 hX.out.lt)
       have x0 := hX.out.cell 0
       have x1 := hX.out.cell 1
       simp only [List.getElem?_toArray, List.getElem?_cons_zero, List.getElem?_cons_succ] at x0 x1
       try (replace hb2 := hb2.below b1 hb2.lt)
       clear b1)
    | (go_at_call 65
       refine (put64_to c b hb'.out _).mono ?_
       rintro e wq ⟨g2, rfl, hb2, hg2, b2⟩
       have hg2 := Lib.hid (Nat.le_trans hB.out.size hg2)
       replace hB := Lib.hid (hB.out.trans (b2.mono hB.out.size))
       replace hX := Lib.hid (hX.out.below b2 hX.out.lt)
       have x0 := hX.out.cell 0
       have x1 := hX.out.cell 1
       simp only [List.getElem?_toArray, List.getElem?_cons_zero, List.getElem?_cons_succ] at x0 x1
       try (replace hb1 := hb1.below b2 hb1.lt)
       clear b2)
    | (go_at_call 42
       refine (join_to [a, b] (a ++ b) 2 2 (wq.heap.size + 1) 12 _ _ ?hp ?hf ?hn ?hB ?hN ?hl).mono ?_
       case hp => exact parts_two5 (Blk.newAt rfl) (by omega) ((hb1.alloc _).readsAll (by have := hb1.lt; omega) hal) ((hb2.alloc _).readsAll (by have := hb2.lt; omega) hbl) (Nat.le_refl _) (Nat.le_refl _) hab hbb
       case hf => simp
       case hn => omega
       case hB => simp
       case hN => simp [hal, hbl]
       case hl => omega
       rintro e w5 ⟨g5, rfl, hb5, hg5, b5⟩
       have hz := hB.out.size
       have hB5 := Lib.hid ((hB.out.alloc hz _).trans (b5.mono (by simp; omega)))
       have hg5 : w.heap.size ≤ g5 := by simp at hg5; omega
       clear b5 hz))
  all_goals
    go_wp2
    go_ret
    exact ⟨g5, rfl, hb5, hg5, hB5.out⟩

theorem rput32_to5 (v : Nat) (l : List Nat) (hl : beB v 4 = l) (hv : v < 4294967296) (w : World) :
  Calls Tryd.prog 27 #[.int .u32 (v : Int)] w fun e w' => ∃ g, e = .returned (.slice (some ⟨g, 0, none⟩) 4 4) ∧ Blk w' g 5 (va .u8 l) ∧ w.heap.size ≤ g ∧ Below w.heap.size w w' := by
 subst hl
 refine (rput32_any v hv w).mono ?_
 rintro e w' ⟨r, rfl, g, rfl, h1, h2, h3⟩
 exact ⟨g, by rw [beB_len], h1, h2, h3⟩
theorem rput64_to5 (v : Nat) (l : List Nat) (hl : beB v 8 = l) (hv : v < 18446744073709551616) (w : World) :
  Calls Tryd.prog 48 #[.int .u64 (v : Int)] w fun e w' => ∃ g, e = .returned (.slice (some ⟨g, 0, none⟩) 8 8) ∧ Blk w' g 5 (va .u8 l) ∧ w.heap.size ≤ g ∧ Below w.heap.size w w' := by
 subst hl
 refine (rput64_any v hv w).mono ?_
 rintro e w' ⟨r, rfl, g, rfl, h1, h2, h3⟩
 exact ⟨g, by rw [beB_len], h1, h2, h3⟩

set_option maxHeartbeats 1000000 in
theorem rnput_any (s c : Nat) (hs : s < 4294967296) (hc : c < 18446744073709551616) (w : World) :
    Calls Tryd.prog 28 #[.agg (noV s c)] w fun e w' => ∃ v, e = .returned v ∧ w'.ownsRow w.heap.size 5 1 v 12 (nv .u8 (beB s 4 ++ beB c 8)) ∧ Below w.heap.size w w' := by
  unfold noV
  have hB0 : Below w.heap.size w (w.alloc (.cells #[.int .u32 (s : Int), .int .u64 (c : Int)] 30)).drew := below_drewN ((Below.refl _ _).alloc (Nat.le_refl _) _) 1
  have hX0 : Blk (w.alloc (.cells #[.int .u32 (s : Int), .int .u64 (c : Int)] 30)).drew w.heap.size 30 #[.int .u32 (s : Int), .int .u64 (c : Int)] := (Blk.newAt rfl).drew
  obtain ⟨a, ha⟩ : ∃ a, beB s 4 = a := ⟨_, rfl⟩
  obtain ⟨b, hb⟩ : ∃ b, beB c 8 = b := ⟨_, rfl⟩
  have hal : a.length = 4 := by rw [← ha, beB_len]
  have hbl : b.length = 8 := by rw [← hb, beB_len]
  have hab : Byt a := ha ▸ beB_byt s 4
  have hbb : Byt b := hb ▸ beB_byt c 8
  rw [ha, hb]
  have ha' := Lib.hid ha
  have hb' := Lib.hid hb
  have hB := Lib.hid hB0
  have hX := Lib.hid hX0
  clear hB0 hX0 ha hb
  obtain ⟨i0, hi0, hz0, hz1, hz2⟩ := info_parts byte_info
  go_enter Tryd.func28, Tryd.ntmps28
  go_wp2
  go_region_law (first
    | (go_simp; go_at_call 27
       refine (rput32_to5 s a ha'.out hs _).mono ?_
       rintro e wq ⟨g1, rfl, hb1, hg1, b1⟩
       have hg1 := Lib.hid (Nat.le_trans hB.out.size hg1)
       replace hB := Lib.hid (hB.out.trans (b1.mono hB.out.size))
       replace hX := Lib.hid (hX.out.below b1 hX.out.lt)
       have x0 := hX.out.cell 0
       have x1 := hX.out.cell 1
       simp only [List.getElem?_toArray, List.getElem?_cons_zero, List.getElem?_cons_succ] at x0 x1
       try (replace hb2 := hb2.below b1 hb2.lt)
       clear b1)
    | (go_simp; go_at_call 48
       refine (rput64_to5 c b hb'.out hc _).mono ?_
       rintro e wq ⟨g2, rfl, hb2, hg2, b2⟩
       have hg2 := Lib.hid (Nat.le_trans hB.out.size hg2)
       replace hB := Lib.hid (hB.out.trans (b2.mono hB.out.size))
       replace hX := Lib.hid (hX.out.below b2 hX.out.lt)
       have x0 := hX.out.cell 0
       have x1 := hX.out.cell 1
       simp only [List.getElem?_toArray, List.getElem?_cons_zero, List.getElem?_cons_succ] at x0 x1
       try (replace hb1 := hb1.below b2 hb1.lt)
       clear b2)
    | (refine step_append_any _ rfl (.tmp 5) (.tmp 8) 34 rfl w.heap.size 5 i0 (.int .u8 0) 1 1 Tryd.underlying34 hi0 hz0 hz1 hz2 rfl (by omega) (.slice (some ⟨g1, 0, none⟩) 4 4) 4 (nv .u8 a) rfl ?q1 (wq.heap.size) (some ⟨g2, 0, none⟩) 8 8 (nv .u8 b) rfl ?q2 (nv_one _ _) (by decide) (by decide) hB.out.size ?_
       case q1 => exact hb1.own hal hg1.out (by decide)
       case q2 => exact hb2.readsAll hb2.lt hbl
       intro v' w' ho hgr hor))
  all_goals
    rw [nv_app] at ho
    have hB' := Lib.hid (hB.out.grown hgr hB.out.size (fun k hk => by simp [Value.ownBlock] at hk; subst hk; exact hg1.out))
    have ho' := Lib.hid ho
    clear hgr hor ho
    go_wp2
    go_ret
    exact ⟨v', rfl, ho'.out, hB'.out⟩

set_option maxHeartbeats 800000 in
theorem nget_ok (A : Option Addr) (c B x y : Nat) (hc : 12 ≤ c) (l : List Nat) (hl : Byt l) (hx : beV (l.take 4) = x) (hy : beV (l.drop 4) = y) (w : World) (hr : Reads w B 1 A 12 (nv .u8 l)) (hB : B ≤ w.heap.size) :
    Calls Tryd.prog 26 #[.slice A 12 c] w fun e w' => e = .returned (.tuple #[.agg (noV x y), .int .i64 0]) ∧ Below w.heap.size w w' := by
  have hll := hr.len
  obtain ⟨ad, rfl, hbl, _⟩ := hr.num (i := 0) (by omega)
  have hr1 : Reads w B 1 (some ad) 4 (nv .u8 (l.take 4)) := by
    refine ⟨by rw [nv_len]; simp; omega, fun _ => ⟨ad, rfl, hbl, fun j u hu => ?_⟩⟩
    obtain ⟨ad', e, _, h⟩ := hr.2 (by omega)
    injection e with e
    subst e
    refine h j u ?_
    rw [← nv_take] at hu
    rw [List.getElem?_take] at hu
    split at hu
    · exact hu
    · cases hu
  have hr2 := hr.cut (k := 4) (by omega) (show 12 ≤ c from hc)
  rw [nv_drop, Nat.mul_one] at hr2
  have hne : c ≠ 4 := by omega
  rw [if_neg hne] at hr2
  have h1 := Lib.hid hr1
  have h2 := Lib.hid hr2
  have hc12 : (12 : Int) ≤ (c : Int) := by omega
  clear hr hr1 hr2
  go_enter Tryd.func26, Tryd.ntmps26
  have hx' := Lib.hid hx
  have hy' := Lib.hid hy
  clear hx hy
  go_wp2_with fail
  refine (get32_any (some ad) c B (l.take 4) (hl.take 4) _ (h1.out.alloc hB _)).mono ?_
  rintro e w1 ⟨rfl, rfl⟩
  rw [hx'.out]
  go_wp2_with fail
  refine (get64_any (some (ad.add 4)) (c - 4) B (l.drop 4) (fun z hz => hl z (List.mem_of_mem_drop hz)) _ (h2.out.alloc hB _)).mono ?_
  rintro e w1 ⟨rfl, rfl⟩
  rw [hy'.out]
  go_wp2
  exact bodyPost_ret (results_row_tmp rfl _ _ w.heap.size 30 (noV x y) _ _ rfl (Blk.newAt rfl) Tryd.underlying30 rfl (noV_info _ _) rfl) rfl ⟨rfl, (Below.refl _ _).alloc (Nat.le_refl _) _⟩
end Go.Proofs.YtcfddmplnoknlaaDoor
