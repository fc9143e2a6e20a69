/-
  Words for walks that are printed by hw.py: boxes, skipped operations, single cells, equality of arrays of numbers, slices of byte slices, appends, copies.
-/
import Derived.Test.YtcdmbknmmnaocaaDoorHld
import Derived.Test.YtcdmbknmmnaocaaDoorRes
import Derived.Test.YtcdmbknmmnaocaaDoorStr
import Derived.Test.YtcdmbknmmnaocaaDoorParts
import Derived.Deep.MidRow
import Derived.Deep.Cut
import Derived.LoopTactic
import Derived.BigRegion
import Derived.BigQuiet
import Derived.ChangeKeysEq
import Derived.Great.BuildSlice
import Derived.Lib.UnsafeStr
namespace Go.Proofs.YtcdmbknmmnaocaaDoor
open Go.RowKit Sh

section
variable {P : Program} {l : List Oper} {Q : Exit → Act → World → Prop} {S : World → Prop} {ts : List Value} {df : List Deferred} {w : World}
theorem exec_box {op : Oper} {a : Act} (ty : TypeId) (x : Operand) (ho : op.op = .box ty x) (v : Value) (hx : a.eval x = v) :
    (execOp a.eval op).run P w = .ok (.value (.pointer (some ⟨w.heap.size, 0, none⟩))) (w.alloc (.cells v.cells ty)) := by
  unfold execOp
  simp only [ho]
  simp [Instr.box, newVar, newRow, hx]
theorem exec_allocV {op : Oper} {a : Act} (ty : TypeId) (ho : op.op = .alloc ty) (v : Value) (hz : (zeroValue ty).run P w = .ok v w) :
    (execOp a.eval op).run P w = .ok (.value (.pointer (some ⟨w.heap.size, 0, none⟩))) (w.alloc (.cells v.cells ty)) := by
  unfold execOp
  simp only [ho]
  simp [Instr.alloc, hz, newVar, newRow]
/-- an operation whose guard does not hold -/
theorem skipP {o : Oper} {rest : List Oper} {ops : Array Oper} (d : Nat) (hdst : o.dst = some d) (hw : Region.wanted o (yielded ops ts.toArray) = false)
    (h : wpList P ops Q rest ⟨(ts.set d undef).toArray, df⟩ w) : wpList P ops Q (o :: rest) ⟨ts.toArray, df⟩ w := by
  refine wpList_step fun K hK => ?_
  rw [if_neg (by simp [hw])]
  refine hK _ _ ?_
  rw [hdst]
  simpa [Act.put] using h
/-- a single cell -/
theorem run_loadVar_cell (ty : TypeId) (a : Addr) (v : Value) (d : TypeDesc) (hu : P.underlying ty = some d) (hd : (match d with | .struct _ | .array _ _ => true | _ => false) = false) (hc : w.cell? a = some v) : (loadVar ty a).run P w = .ok v w := by
  have hu' := run_underlying (w := w) (P := P) hu
  cases d <;> simp_all [loadVar, isAgg]
theorem exec_cell {op : Oper} {a : Act} (ty : TypeId) (x : Operand) (ho : op.op = .load ty x) (g i : Nat) (hx : a.eval x = .pointer (some ⟨g, i, none⟩)) (v : Value) (d : TypeDesc)
    (hu : P.underlying ty = some d) (hd : (match d with | .struct _ | .array _ _ => true | _ => false) = false) (hc : w.cell? ⟨g, i, none⟩ = some v) : (execOp a.eval op).run P w = .ok (.value v) w := by
  unfold execOp
  simp only [ho, hx, Instr.loadAt, Instr.sureAddr, Sem.run_bind, Sem.run_pure, Result.andThen_ok, run_loadVar_cell ty ⟨g, i, none⟩ v d hu hd hc]
theorem exec_mid {op : Oper} {a : Act} (ty : TypeId) (x : Operand) (ho : op.op = .load ty x) (b o : Nat) (hx : a.eval x = .pointer (some ⟨b, o, none⟩)) (cs : List Value) (d : TypeDesc) (hc : w.rangeAt b o cs)
    (hu : P.underlying ty = some d) (hd : d.isRow = true) (hi : (P.info? ty).map (·.size) = some cs.length) : (execOp a.eval op).run P w = .ok (.value (.agg cs.toArray)) w := by
  unfold execOp
  simp only [ho, hx, Instr.loadAt, Instr.sureAddr, Sem.run_bind, Sem.run_pure, Result.andThen_ok, run_loadVar_mid w b o ty cs d hc hu hd hi]
/-- a part of a block as a range -/
theorem Blk.range {g : Nat} {t : TypeId} {cs : Array Value} (h : Blk w g t cs) (o n : Nat) : w.rangeAt g o ((cs.toList.drop o).take n) := fun j v hv => by
  rw [List.getElem?_take] at hv
  split at hv
  · rw [List.getElem?_drop] at hv
    rw [h.cell]; simpa using hv
  · cases hv
theorem Blk.cellIs {g : Nat} {t : TypeId} {cs : Array Value} (h : Blk w g t cs) (i : Nat) {v : Value} (hv : cs[i]? = some v) : w.cell? ⟨g, i, none⟩ = some v := by rw [h.cell, hv]
/-- a builtin that yields -/
theorem sz_eq {o : Option Nat} {a b : Nat} (h1 : o = some a) (h2 : o = some b) : a = b := by rw [h1] at h2; exact Option.some.inj h2
theorem va_ones (k : IntKind) (l : List Nat) : ∀ v ∈ (va k l).toList, v.oneCell' = true := fun v hv => nv_one k l v (by simpa [va] using hv)
end

/-! blocks of bytes that are marked -/
theorem freeze_heap (w : World) (p : Addr) (n g : Nat) : (w.freeze p n).shape? g = w.shape? g := by
  by_cases hn : n = 0
  · unfold World.freeze; rw [if_pos hn]
  · unfold World.freeze World.shape?
    rw [if_neg hn]
    simp only [Array.getElem?_modify]
    by_cases h : p.block = g
    · subst h
      rw [if_pos rfl]
      cases w.heap[p.block]? with
      | none => rfl
      | some o => cases o <;> rfl
    · rw [if_neg h]
theorem freeze_size (w : World) (p : Addr) (n : Nat) : (w.freeze p n).heap.size = w.heap.size := by
  unfold World.freeze; split <;> simp
theorem freeze_cell (w : World) (p q : Addr) (n : Nat) : (w.freeze p n).cell? q = w.cell? q := by
  by_cases hn : n = 0
  · unfold World.freeze; rw [if_pos hn]
  · unfold World.freeze World.cell?
    rw [if_neg hn]
    simp only [Array.getElem?_modify]
    by_cases h : p.block = q.block
    · rw [if_pos h]
      cases w.heap[q.block]? with
      | none => rfl
      | some o => cases o <;> rfl
    · rw [if_neg h]
theorem run_convert_mark (W : World) (a : Addr) (n c : Nat) : (convert 22 22 (.slice (some a) n c)).run Tryd.prog W = match W.shape? a.block with
    | some (_, k) => .ok (.slice (some a) n c) (W.freeze ⟨a.block, k, Option.none⟩ 1)
    | Option.none => .ok (.slice (some a) n c) W := by
  have hu := run_underlying (P := Tryd.prog) Tryd.underlying22
  have hu8 := run_underlying (P := Tryd.prog) Tryd.underlying5
  simp [convert, hu, hu8, markStringish]
  cases W.shape? a.block with
  | none => simp [Result.andThen]
  | some x => obtain ⟨t, k⟩ := x; simp [Result.andThen]
/-- a block that reads as bytes -/
structure ByB (W : World) (g : Nat) (l : List Nat) : Prop where
  lt : g < W.heap.size
  c : ∀ j v, (nv .u8 l)[j]? = some v → W.cell? ⟨g, j, Option.none⟩ = some v
theorem ByB.below {W W2 : World} {g B : Nat} {l : List Nat} (h : ByB W g l) (b : Below B W W2) (hB : g < B) : ByB W2 g l :=
  ⟨Nat.lt_of_lt_of_le h.lt b.size, fun j v hv => (b.cell (p := ⟨g, j, Option.none⟩) hB).trans (h.c j v hv)⟩
theorem ByB.alloc {W : World} {g : Nat} {l : List Nat} (h : ByB W g l) (o : Obj) : ByB (W.alloc o) g l := h.below ((Below.refl _ _).alloc (Nat.le_refl _) o) h.lt
theorem ByB.freeze {W : World} {g : Nat} {l : List Nat} (h : ByB W g l) (p : Addr) (n : Nat) : ByB (W.freeze p n) g l := ⟨by rw [freeze_size]; exact h.lt, fun j v hv => by rw [freeze_cell]; exact h.c j v hv⟩
theorem Blk.byB {W : World} {g : Nat} {l : List Nat} (h : Blk W g 5 (va .u8 l)) : ByB W g l := ⟨h.lt, fun j v hv => by rw [h.cell]; simpa [va] using hv⟩
theorem Blk.freeze_ {W : World} {g : Nat} {t : TypeId} {cs : Array Value} (h : Blk W g t cs) (p : Addr) (n : Nat) (hp : p.block ≠ g) : Blk (W.freeze p n) g t cs := by
  unfold Blk World.freeze at *
  split
  · exact h
  · simp only [Array.getElem?_modify]
    rw [if_neg hp]
    exact h
theorem conv_blk {W : World} {g n c : Nat} {l : List Nat} (h : Blk W g 5 (va .u8 l)) (hl : l.length = n) : (convert 22 22 (.slice (some ⟨g, 0, Option.none⟩) n c)).run Tryd.prog W = .ok (.slice (some ⟨g, 0, Option.none⟩) n c) (W.freeze ⟨g, n, Option.none⟩ 1) := by
  rw [run_convert_mark]
  have hs : W.shape? g = some (5, n) := by
    unfold Blk at h
    unfold World.shape?
    rw [h]
    simp [va_size, hl]
  show (match W.shape? g with | some (_, k) => _ | Option.none => _) = _
  rw [hs]

theorem ByB.reads {W : World} {g n : Nat} {l : List Nat} (h : ByB W g l) (hn : l.length = n) : Reads W (g + 1) 1 (some ⟨g, 0, Option.none⟩) n (nv .u8 l) :=
  ⟨by rw [nv_len, hn]; omega, fun _ => ⟨_, rfl, Nat.lt_succ_self _, fun j v hv => by rw [Addr.add_mid, Nat.zero_add]; exact h.c j v hv⟩⟩
theorem ByB.readsPre {W : World} {g : Nat} {l : List Nat} (h : ByB W g l) (m : Nat) (hm : m ≤ l.length) : Reads W (g + 1) 1 (some ⟨g, 0, Option.none⟩) m (nv .u8 (l.take m)) :=
  ⟨by rw [nv_len, List.length_take]; omega, fun _ => ⟨_, rfl, Nat.lt_succ_self _, fun j v hv => by
    rw [← nv_take, List.getElem?_take] at hv
    split at hv
    · rw [Addr.add_mid, Nat.zero_add]; exact h.c j v hv
    · cases hv⟩⟩
theorem ByB.rowFar {W : World} {g g' : Nat} {l : List Nat} (h : ByB W g l) (hne : g' ≠ g) (c : Array Value) : ByB (W.setRow g' c) g l :=
  ⟨by simpa [World.setRow] using h.lt, fun j v hv => (World.cell?_of_block (setRow_other W g' c g hne)).trans (h.c j v hv)⟩
/-! arrays of numbers: equal, or not -/
section
variable {P : Program} {w : World}
theorem eqItems_nums {e : TypeId} {k : IntKind} (d : Nat) (he : P.underlying e = some (.int k)) (l m : List Nat) (hlm : l.length = m.length) (hce : P.cellsOf e = 1) (hp : ∀ (xs : Array Value) (o : Nat) (v : Value), xs[o]? = some v → (part e xs o).run P w = .ok v w) :
    ∀ is : List Nat, (∀ i ∈ is, i < l.length) → (Op.eqItems (d + 1) e (P.cellsOf e) (va k l) (va k m) is).run P w = .ok (is.all fun i => decide (l.getD i 0 = m.getD i 0)) w
  | [], _ => by simp [Op.eqItems]
  | i :: is, h => by
    have ih := eqItems_nums d he l m hlm hce hp is (fun j hj => h j (by simp [hj]))
    have hi := h i (by simp)
    have h1 := hp (va k l) (i * 1) _ (by rw [Nat.mul_one]; exact va_get hi)
    have h2 := hp (va k m) (i * 1) _ (by rw [Nat.mul_one]; exact va_get (by omega))
    rw [hce] at ih ⊢
    have h3 := run_equalIn_int (P := P) w d e k k ((l.getD i 0 : Nat) : Int) ((m.getD i 0 : Nat) : Int) he
    simp only [Op.eqItems, Sem.run_bind, h1, h2, h3, Result.andThen_ok, List.all_cons]
    clear h1 h2 h3
    generalize hx : l.getD i 0 = x
    generalize hy : m.getD i 0 = y
    by_cases e : x = y
    · subst e
      simpa using ih
    · have e2 : ¬ (x : Int) = (y : Int) := by omega
      simp [e, e2]
theorem all_range_getD (l m : List Nat) (n : Nat) (hl : l.length = n) (hm : m.length = n) : ((List.range n).all fun i => decide (l.getD i 0 = m.getD i 0)) = decide (l = m) := by
  by_cases h : l = m
  · subst h; simp
  · rw [decide_eq_false h]
    cases hb : (List.range n).all fun i => decide (l.getD i 0 = m.getD i 0) with
    | false => rfl
    | true =>
      exfalso; apply h
      rw [List.all_eq_true] at hb
      exact ext_getD (by omega) fun i hi => by simpa using hb i (List.mem_range.2 (by omega))
theorem run_equal_nums {t e : TypeId} {k : IntKind} {n : Nat} (hu : P.underlying t = some (.array n e)) (he : P.underlying e = some (.int k)) (hce : P.cellsOf e = 1) (hp : ∀ (w : World) (xs : Array Value) (o : Nat) (v : Value), xs[o]? = some v → (part e xs o).run P w = .ok v w)
    (l m : List Nat) (hl : l.length = n) (hm : m.length = n) (w : World) : (Op.equalIn 10000 t (.agg (va k l)) (.agg (va k m))).run P w = .ok (decide (l = m)) w := by
  obtain ⟨i, hi⟩ := info_of_underlying he
  rw [run_equalIn_array w 9999 _ _ hu hi, eqItems_nums 9998 he l m (by omega) hce (hp w) _ (fun i hi => by rw [hl]; exact List.mem_range.1 hi), all_range_getD l m n hl hm]
theorem part_u8 (w : World) (xs : Array Value) (o : Nat) (v : Value) (h : xs[o]? = some v) : (part 5 xs o).run Tryd.prog w = .ok v w := run_part_plain w (by kernel_rfl) h
theorem eq_bytes (t : TypeId) (n : Nat) (hu : Tryd.prog.underlying t = some (.array n 5)) (l m : List Nat) (hl : l.length = n) (hm : m.length = n) (w : World) :
    (Op.equalIn 10000 t (.agg (va .u8 l)) (.agg (va .u8 m))).run Tryd.prog w = .ok (decide (l = m)) w :=
  run_equal_nums hu (by kernel_rfl) (by kernel_rfl) part_u8 l m hl hm w
/-- the compare of two arrays of bytes -/
theorem exec_eqB {op : Oper} {a : Act} (t : TypeId) (n : Nat) (hu : Tryd.prog.underlying t = some (.array n 5)) (hg : Tryd.prog.eqGuardType Tryd.prog.depth t = false) (x y : Operand) (t2 : TypeId) (ho : op.op = .binOp .eql t x y t2)
    (l m : List Nat) (hl : l.length = n) (hm : m.length = n) (hx : a.eval x = .agg (va .u8 l)) (hy : a.eval y = .agg (va .u8 m)) (b : Bool) (hb : decide (l = m) = b) :
    (execOp a.eval op).run Tryd.prog w = .ok (.value (.bool b)) w := by
  subst hb
  have h := eq_bytes t n hu l m hl hm w
  have hg2 : (eqGuard .eql t x y (.agg (va .u8 l)) (.agg (va .u8 m))).run Tryd.prog w = .ok () w := by simp [eqGuard, hg]
  have hb2 : (binOp .eql t (.agg (va .u8 l)) (.agg (va .u8 m))).run Tryd.prog w = .ok (.bool (decide (l = m))) w := by simp [binOp, Op.equal, h, Op.maxDepth]
  unfold execOp
  simp only [ho, hx, hy, Sem.run_bind, hg2, hb2, Result.andThen_ok, Sem.run_pure]
theorem exec_neB {op : Oper} {a : Act} (t : TypeId) (n : Nat) (hu : Tryd.prog.underlying t = some (.array n 5)) (hg : Tryd.prog.eqGuardType Tryd.prog.depth t = false) (x y : Operand) (t2 : TypeId) (ho : op.op = .binOp .neq t x y t2)
    (l m : List Nat) (hl : l.length = n) (hm : m.length = n) (hx : a.eval x = .agg (va .u8 l)) (hy : a.eval y = .agg (va .u8 m)) (b : Bool) (hb : (!decide (l = m)) = b) :
    (execOp a.eval op).run Tryd.prog w = .ok (.value (.bool b)) w := by
  subst hb
  have h := eq_bytes t n hu l m hl hm w
  have hg2 : (eqGuard .neq t x y (.agg (va .u8 l)) (.agg (va .u8 m))).run Tryd.prog w = .ok () w := by simp [eqGuard, hg]
  have hb2 : (binOp .neq t (.agg (va .u8 l)) (.agg (va .u8 m))).run Tryd.prog w = .ok (.bool (!decide (l = m))) w := by simp [binOp, Op.equal, h, Op.maxDepth]
  unfold execOp
  simp only [ho, hx, hy, Sem.run_bind, hg2, hb2, Result.andThen_ok, Sem.run_pure]

/-! strings of bytes: equal, or not -/
theorem bst_append (l m : List Nat) : bst (l ++ m) = bst l ++ bst m := by
  have key : ∀ (m : List Int) (b : ByteArray), m.foldl (fun r n => r.push (UInt8.ofNat n.toNat)) b = b ++ m.foldl (fun r n => r.push (UInt8.ofNat n.toNat)) ByteArray.empty := by
    intro m
    induction m with
    | nil => intro b; simp
    | cons x m ih =>
      intro b
      simp only [List.foldl_cons]
      rw [ih (b.push _), ih (ByteArray.empty.push _), ← ByteArray.append_assoc]
      congr 1
      apply ByteArray.ext
      simp
  unfold bst
  rw [List.map_append, List.foldl_append, key]
end

/-! reading slices -/
section
variable {W : World}
theorem Reads.string {B n c : Nat} {A : Option Addr} {l : List Nat} (h : Reads W B 1 A n (nv .u8 l)) (src dst : TypeId) (hs : Tryd.prog.underlying src = some (.slice 5)) (hd : Tryd.prog.underlying dst = some .string) :
    (convert src dst (.slice A n c)).run Tryd.prog W = .ok (.string (bst l)) W := by
  have hl := h.len
  rcases A with _ | ad
  · have hn : n = 0 := by
      rcases Nat.eq_zero_or_pos n with h0 | h0
      · exact h0
      · obtain ⟨ad, e, _⟩ := h.2 h0
        cases e
    subst hn
    obtain rfl := List.eq_nil_of_length_eq_zero hl
    have h1 := run_underlying (w := W) hs
    have h2 := run_underlying (w := W) Tryd.underlying5
    have h3 := run_underlying (w := W) hd
    simp [convert, h1, h2, h3, Conv.bytesToString, bst]
  · subst hl
    have hcell : ∀ j v, (nv .u8 l)[j]? = some v → W.cell? (ad.add j) = some v := by
      intro j v hv
      rcases Nat.eq_zero_or_pos l.length with h0 | h0
      · rw [List.eq_nil_of_length_eq_zero h0] at hv; simp [nv] at hv
      · obtain ⟨ad', e, _, hc⟩ := h.2 h0
        injection e with e
        subst e
        exact hc j v hv
    rw [run_convert_bytes_string W src dst 5 _ _ _ hs Tryd.underlying5 hd]
    have h1 := run_loadCells_list (P := Tryd.prog) W ad (nv .u8 l) hcell
    rw [nv_len] at h1
    refine run_bytesToString W ad l.length c (l.map fun x : Nat => (x : Int)) ?_
    rw [h1]; simp [nv]
/-- a part of a slice -/
theorem Reads.part {B n o m : Nat} {ad : Addr} {k : IntKind} {l : List Nat} (h : Reads W B 1 (some ad) n (nv k l)) (hm : o + m ≤ n) : Reads W B 1 (some (ad.add o)) m (nv k ((l.drop o).take m)) := by
  have hl := h.len
  refine ⟨by rw [nv_len]; simp; omega, fun hpos => ?_⟩
  obtain ⟨ad', e, hb, hc⟩ := h.2 (by omega)
  injection e with e
  subst e
  refine ⟨_, rfl, by rw [block_of_add]; exact hb, fun j u hu => ?_⟩
  rw [add_of_add]
  refine hc _ u ?_
  rw [← nv_take, ← nv_drop, List.getElem?_take] at hu
  split at hu
  · rw [List.getElem?_drop] at hu; exact hu
  · cases hu
/-- the same slice, spelt by a block -/
theorem parts_one {g0 n c B : Nat} {A : Option Addr} {m : List Nat} (hB : B ≤ W.heap.size) (hc : Blk W g0 22 #[.slice A n c]) (hr : Reads W B 1 A n (nv .u8 m)) (hnc : n ≤ c) (hb : Byt m) : Parts W W.heap.size (some ⟨g0, 0, none⟩) 1 [m] :=
  ⟨rfl, fun j hj => by
    obtain rfl : j = 0 := by omega
    exact ⟨_, _, _, _, rfl, hc.lt, by rw [Addr.add_mid]; exact hc.cell 0, hnc, hr.more hB, hb⟩⟩
theorem parts_two {g0 n c n2 c2 B B2 : Nat} {A A2 : Option Addr} {m m2 : List Nat} (hB : B ≤ W.heap.size) (hB2 : B2 ≤ W.heap.size) (hc : Blk W g0 22 #[.slice A n c, .slice A2 n2 c2]) (hr : Reads W B 1 A n (nv .u8 m)) (hnc : n ≤ c) (hb : Byt m)
    (hr2 : Reads W B2 1 A2 n2 (nv .u8 m2)) (hnc2 : n2 ≤ c2) (hb2 : Byt m2) : Parts W W.heap.size (some ⟨g0, 0, none⟩) 2 [m, m2] :=
  ⟨rfl, fun j hj => by
    rcases Nat.lt_or_ge j 1 with h0 | h0
    · obtain rfl : j = 0 := by omega
      exact ⟨_, _, _, _, rfl, hc.lt, by rw [Addr.add_mid]; exact hc.cell 0, hnc, hr.more hB, hb⟩
    · obtain rfl : j = 1 := by omega
      exact ⟨_, _, _, _, rfl, hc.lt, by rw [Addr.add_mid]; exact hc.cell 1, hnc2, hr2.more hB2, hb2⟩⟩
theorem parts_three {g0 n c n2 c2 n3 c3 B B2 B3 : Nat} {A A2 A3 : Option Addr} {m m2 m3 : List Nat} (hB : B ≤ W.heap.size) (hB2 : B2 ≤ W.heap.size) (hB3 : B3 ≤ W.heap.size) (hc : Blk W g0 22 #[.slice A n c, .slice A2 n2 c2, .slice A3 n3 c3]) (hr : Reads W B 1 A n (nv .u8 m)) (hnc : n ≤ c) (hb : Byt m)
    (hr2 : Reads W B2 1 A2 n2 (nv .u8 m2)) (hnc2 : n2 ≤ c2) (hb2 : Byt m2) (hr3 : Reads W B3 1 A3 n3 (nv .u8 m3)) (hnc3 : n3 ≤ c3) (hb3 : Byt m3) : Parts W W.heap.size (some ⟨g0, 0, none⟩) 3 [m, m2, m3] :=
  ⟨rfl, fun j hj => by
    have h3 : j = 0 ∨ j = 1 ∨ j = 2 := by omega
    rcases h3 with rfl | rfl | rfl
    · exact ⟨_, _, _, _, rfl, hc.lt, by rw [Addr.add_mid]; exact hc.cell 0, hnc, hr.more hB, hb⟩
    · exact ⟨_, _, _, _, rfl, hc.lt, by rw [Addr.add_mid]; exact hc.cell 1, hnc2, hr2.more hB2, hb2⟩
    · exact ⟨_, _, _, _, rfl, hc.lt, by rw [Addr.add_mid]; exact hc.cell 2, hnc3, hr3.more hB3, hb3⟩⟩
theorem slice_info : (Tryd.prog.info? 22).map (fun i => (i.zero, i.size, i.bytes)) = some (some (.slice none 0 0), 1, 24) := by kernel_rfl
/-- literals of byte slices -/
theorem bs_1 (A0 : Option Addr) (n0 c0 : Nat) (W : World) : (Instr.buildSlice 52 1 #[(0, .slice A0 n0 c0)]).run Tryd.prog W = .ok (.slice (some ⟨W.heap.size, 0, none⟩) 1 1) (W.alloc (.cells #[.slice A0 n0 c0] 22)) := by
  obtain ⟨ie, hie, h0, h1, h2⟩ := info_parts slice_info
  refine run_buildSlice W _ 22 1 _ _ ie _ Tryd.underlying52 hie h0 (by rw [h1]; decide) (by rw [h1]; decide) ?_
  rw [h1]; kernel_rfl
theorem bs_2 (A0 : Option Addr) (n0 c0 : Nat) (A1 : Option Addr) (n1 c1 : Nat) (W : World) : (Instr.buildSlice 52 2 #[(0, .slice A0 n0 c0), (1, .slice A1 n1 c1)]).run Tryd.prog W = .ok (.slice (some ⟨W.heap.size, 0, none⟩) 2 2) (W.alloc (.cells #[.slice A0 n0 c0, .slice A1 n1 c1] 22)) := by
  obtain ⟨ie, hie, h0, h1, h2⟩ := info_parts slice_info
  refine run_buildSlice W _ 22 2 _ _ ie _ Tryd.underlying52 hie h0 (by rw [h1]; decide) (by rw [h1]; decide) ?_
  rw [h1]; kernel_rfl
theorem bs_3 (A0 : Option Addr) (n0 c0 : Nat) (A1 : Option Addr) (n1 c1 : Nat) (A2 : Option Addr) (n2 c2 : Nat) (W : World) : (Instr.buildSlice 52 3 #[(0, .slice A0 n0 c0), (1, .slice A1 n1 c1), (2, .slice A2 n2 c2)]).run Tryd.prog W = .ok (.slice (some ⟨W.heap.size, 0, none⟩) 3 3) (W.alloc (.cells #[.slice A0 n0 c0, .slice A1 n1 c1, .slice A2 n2 c2] 22)) := by
  obtain ⟨ie, hie, h0, h1, h2⟩ := info_parts slice_info
  refine run_buildSlice W _ 22 3 _ _ ie _ Tryd.underlying52 hie h0 (by rw [h1]; decide) (by rw [h1]; decide) ?_
  rw [h1]; kernel_rfl
theorem bs_0 (W : World) : (Instr.buildSlice 22 0 #[]).run Tryd.prog W = .ok (.slice (some ⟨W.heap.size, 0, none⟩) 0 0) (W.alloc (.cells (va .u8 []) 5)) := by
  obtain ⟨ie, hie, h0, h1, h2⟩ := info_parts byte_info
  simp [Instr.buildSlice, run_underlying Tryd.underlying22, sizeOf, typeInfo, hie, Instr.fill, newRow, va, nv]
  congr 2
  apply Array.ext <;> simp
theorem bs_b1 (x : Nat) (W : World) : (Instr.buildSlice 22 1 #[(0, .int .u8 (x : Nat))]).run Tryd.prog W = .ok (.slice (some ⟨W.heap.size, 0, none⟩) 1 1) (W.alloc (.cells (va .u8 [x]) 5)) := by
  obtain ⟨ie, hie, h0, h1, h2⟩ := info_parts byte_info
  refine run_buildSlice W _ 5 1 _ (va .u8 [x]) ie _ Tryd.underlying22 hie h0 (by rw [h1]; decide) (by rw [h1]; decide) ?_
  rw [h1]; kernel_rfl
end

section
variable {P : Program} {l : List Oper} {Q : Exit → Act → World → Prop} {S : World → Prop} {fuel : Nat} {listed : Array Bool} {ts : List Value} {df : List Deferred} {w : World} {md : Region.Mode}
/-- one cell is written, among several operations that may come up -/
theorem readyRunS (fuel i : Nat) (w2 : World) {o : Oper} {r : List Oper} {rs : List Nat} (hi : l.drop i = o :: r) (hdst : o.dst = none) (hw : Region.wanted o (yielded l.toArray ts.toArray) = true)
    (hrun : (execOp (Act.eval ⟨ts.toArray, df⟩) o).run P w = .ok .skip w2) (hS : S w2)
    (h : S w2 → wpAnyH P md l.toArray Q S fuel (listed.setIfInBounds i true) ⟨ts.toArray, df⟩ w2)
    (hs : AllReadyH P md l.toArray Q S fuel listed ⟨ts.toArray, df⟩ w rs) : AllReadyH P md l.toArray Q S fuel listed ⟨ts.toArray, df⟩ w (i :: rs) := by
  refine AllReadyH.cons (drop_get hi) (fun K hK => ?_) hs
  rw [if_pos hw]
  unfold Oper.wp
  rw [hrun]
  refine hK.out _ _ hS fun hS => ?_
  rw [hdst]
  exact h hS
theorem exec_storeRow {op : Oper} {a : Act} (ty : TypeId) (x y : Operand) (ho : op.op = .store ty x y) (g : Nat) (hx : a.eval x = .pointer (some ⟨g, 0, none⟩)) (c : Array Value) (hy : a.eval y = .agg c) (t : TypeId) (old : Array Value) (hb : Blk w g t old) (hs : old.size = c.size)
    (hin : (P.info? ty).map (·.size) = some c.size) (h1 : ∀ v ∈ c.toList, v.oneCell' = true) : (execOp a.eval op).run P w = .ok .skip (w.setRow g c) := by
  unfold execOp
  simp only [ho, hx, hy, Instr.storeAt, Instr.sureAddr, Sem.run_bind, Sem.run_pure, Result.andThen_ok, run_storeVar_row hb c hs hin h1]
/-- a single cell is written -/
theorem exec_storeCell {op : Oper} {a : Act} (ty : TypeId) (x y : Operand) (ho : op.op = .store ty x y) (g i : Nat) (hx : a.eval x = .pointer (some ⟨g, i, none⟩)) (v : Value) (hy : a.eval y = v) (hv : v.cells = #[v]) (h1 : v.oneCell' = true) (t : TypeId) (old : Array Value) (hb : Blk w g t old) (hi : i < old.size)
    (hin : (P.info? ty).map (·.size) = some 1) : (execOp a.eval op).run P w = .ok .skip (w.setCell ⟨g, i, none⟩ v) := by
  cases hq : P.info? ty with
  | none => simp [hq] at hin
  | some f =>
    have hs : f.size = 1 := by simpa [hq] using hin
    have hc : w.cell? ⟨g, i, none⟩ = some old[i] := by rw [hb.cell]; exact Array.getElem?_eq_getElem hi
    have hf := hb.frozen i
    have e : (storeVar ty ⟨g, i, none⟩ v).run P w = .ok () (w.setCell ⟨g, i, none⟩ v) := by
      have e0 : (⟨g, i, none⟩ : Addr).add 0 = ⟨g, i, none⟩ := rfl
      have e1 := run_store P w ⟨g, i, none⟩ v .plain h1
      simp only [hc, hf] at e1
      simp [storeVar, sizeOf, typeInfo, hq, hs, hv, storeCells, e0, e1]
    unfold execOp
    simp only [ho, hx, hy, Instr.storeAt, Instr.sureAddr, Sem.run_bind, Sem.run_pure, Result.andThen_ok, e]
end
section
variable {w : World}
theorem ByB.drew_ {g : Nat} {l : List Nat} (h : ByB w g l) : ByB w.drew g l := ⟨h.lt, h.c⟩
end
section
variable {P : Program} {w w2 : World}
theorem setRow_self {g : Nat} {t : TypeId} {cs : Array Value} (h : Blk w g t cs) : w.setRow g cs = w := by
  have e : (w.setRow g cs).heap = w.heap := by
    apply Array.ext_getElem?
    intro i
    by_cases hi : g = i
    · subst hi
      rw [h.row cs]; exact h.symm
    · exact setRow_other w g cs i hi
  calc w.setRow g cs = { w with heap := (w.setRow g cs).heap } := rfl
    _ = { w with heap := w.heap } := by rw [e]
    _ = w := rfl
theorem exec_copy {op : Oper} {a : Act} (t1 t2 : TypeId) (x y : Operand) (ho : op.op = .call { callee := .builtin .copy, args := #[x, y], argTypes := #[t1, t2] }) (v1 v2 v : Value) (hx : a.eval x = v1) (hy : a.eval y = v2)
    (h : (Builtin.copy_ #[t1, t2] op.type #[v1, v2]).run P w = .ok v w2) : (execOp a.eval op).run P w = .ok (.value v) w2 := by
  unfold execOp
  simp only [ho, resolve, invoke, builtin, Sem.run_bind, Sem.run_pure, Result.andThen_ok, List.map_toArray, List.map_cons, List.map_nil, hx, hy, h]
theorem exec_append {op : Oper} {a : Act} (t1 t2 : TypeId) (x y : Operand) (ho : op.op = .call { callee := .builtin .append, args := #[x, y], argTypes := #[t1, t2] }) (v1 v2 v : Value) (hx : a.eval x = v1) (hy : a.eval y = v2)
    (h : (Builtin.append_ #[t1, t2] op.type #[v1, v2]).run P w = .ok v w2) : (execOp a.eval op).run P w = .ok (.value v) w2 := by
  unfold execOp
  simp only [ho, resolve, invoke, builtin, Sem.run_bind, Sem.run_pure, Result.andThen_ok, List.map_toArray, List.map_cons, List.map_nil, hx, hy, h]
end
theorem exec_makeB {op : Oper} {a : Act} {w : World} (x y : Operand) (ho : op.op = .makeSlice 22 x y) (n : Nat) (hn : n ≤ 281474976710656) (hx : a.eval x = .int .i64 (n : Int)) (hy : a.eval y = .int .i64 (n : Int)) :
    (execOp a.eval op).run Tryd.prog w = .ok (.value (.slice (some ⟨w.heap.size, 0, none⟩) n n)) (w.alloc (.cells (va .u8 (List.replicate n 0)) 5)) := by
  unfold execOp
  simp only [ho, hx, hy, Sem.run_bind, make_bytes n hn w, Result.andThen_ok, Sem.run_pure]
/-! the same steps behind a wrapper that is not unfolded -/
structure WL (P : Program) (ops : Array Oper) (Q : Exit → Act → World → Prop) (l : List Oper) (a : Act) (w : World) : Prop where
  out : wpList P ops Q l a w
section
variable {P : Program} {Q : Exit → Act → World → Prop} {ts : List Value} {df : List Deferred} {w : World}
theorem wl_lit {id : Nat} {l : List Oper} {a : Act} (h : WL P l.toArray Q l a w) : (Code.region id l.toArray false).wp P Q a w := wp_region_lit h.out
theorem nilL {ops : Array Oper} {a : Act} (h : Q .normal a w) : WL P ops Q [] a w := ⟨wpList_nil h⟩
theorem runL {o : Oper} {rest : List Oper} {ops : Array Oper} (d : Nat) (v : Value) (hdst : o.dst = some d) (hw : Region.wanted o (yielded ops ts.toArray) = true)
    (hrun : (execOp (Act.eval ⟨ts.toArray, df⟩) o).run P w = .ok (.value v) w) (h : WL P ops Q rest ⟨(ts.set d v).toArray, df⟩ w) : WL P ops Q (o :: rest) ⟨ts.toArray, df⟩ w := ⟨runP d v hdst hw hrun h.out⟩
theorem callL {o : Oper} {rest : List Oper} {ops : Array Oper} (d : Nat) (hdst : o.dst = some d) (hw : Region.wanted o (yielded ops ts.toArray) = true)
    (h : ∀ K : Act → World → Prop, Shut (∀ v w, WL P ops Q rest ⟨(ts.set d v).toArray, df⟩ w → K (Act.put ⟨ts.toArray, df⟩ o.dst v) w) → Oper.wp P o ⟨ts.toArray, df⟩ w K Q) : WL P ops Q (o :: rest) ⟨ts.toArray, df⟩ w :=
  ⟨callP d hdst hw fun K hK => h K (fun v w hn => hK v w hn.out)⟩
theorem runWL {o : Oper} {rest : List Oper} {ops : Array Oper} (d : Nat) (v : Value) (w2 : World) (hdst : o.dst = some d) (hw : Region.wanted o (yielded ops ts.toArray) = true)
    (hrun : (execOp (Act.eval ⟨ts.toArray, df⟩) o).run P w = .ok (.value v) w2) (h : WL P ops Q rest ⟨(ts.set d v).toArray, df⟩ w2) : WL P ops Q (o :: rest) ⟨ts.toArray, df⟩ w := ⟨runW d v w2 hdst hw hrun h.out⟩
theorem runSL {o : Oper} {rest : List Oper} {ops : Array Oper} (w2 : World) (hdst : o.dst = none) (hw : Region.wanted o (yielded ops ts.toArray) = true)
    (hrun : (execOp (Act.eval ⟨ts.toArray, df⟩) o).run P w = .ok .skip w2) (h : WL P ops Q rest ⟨ts.toArray, df⟩ w2) : WL P ops Q (o :: rest) ⟨ts.toArray, df⟩ w := ⟨runS w2 hdst hw hrun h.out⟩
theorem skipL {o : Oper} {rest : List Oper} {ops : Array Oper} (d : Nat) (hdst : o.dst = some d) (hw : Region.wanted o (yielded ops ts.toArray) = false)
    (h : WL P ops Q rest ⟨(ts.set d undef).toArray, df⟩ w) : WL P ops Q (o :: rest) ⟨ts.toArray, df⟩ w := ⟨skipP d hdst hw h.out⟩
end
end Go.Proofs.YtcdmbknmmnaocaaDoor
