/-
  Arrays of bytes, and arrays of these, are equal to themselves.
-/
import Derived.Test.YtpcdckhabaoieaaMem
import Derived.Deep.MidRow
import Derived.ChangeKeysEq
namespace Go.Proofs.Ytpcdckhabaoieaa
open Go.RowKit

theorem eqItems_same {P : Program} {w : World} (d : Nat) (e : TypeId) (c : Nat) (xs : Array Value) : ∀ is : List Nat, (∀ i ∈ is, ∃ a, (part e xs (i * c)).run P w = .ok a w ∧ (Op.equalIn d e a a).run P w = .ok true w) → (Op.eqItems d e c xs xs is).run P w = .ok true w
  | [], _ => by simp [Op.eqItems]
  | i :: is, h => by
    obtain ⟨a, h1, h2⟩ := h i (by simp)
    have ih := eqItems_same d e c xs is (fun j hj => h j (by simp [hj]))
    simp only [Op.eqItems, Sem.run_bind, h1, h2, Result.andThen_ok, Bool.not_true, Bool.false_eq_true, if_false]
    exact ih
theorem u8_under : Try.prog.underlying 5 = some (.int .u8) := by kernel_rfl
theorem same_bytes (t : TypeId) (n : Nat) (l : List Nat) (hl : l.length = n) (hu : Try.prog.underlying t = some (.array n 5)) (d : Nat) (w : World) :
    (Op.equalIn (d + 2) t (.agg (va .u8 l)) (.agg (va .u8 l))).run Try.prog w = .ok true w := by
  obtain ⟨i, hi⟩ := info_of_underlying u8_under
  rw [run_equalIn_array w (d + 1) _ _ hu hi]
  refine eqItems_same _ _ _ _ _ fun j hj => ?_
  have hj' : j < l.length := by rw [hl]; exact List.mem_range.1 hj
  refine ⟨.int .u8 ((l.getD j 0 : Nat) : Int), ?_, ?_⟩
  · have hc : Try.prog.cellsOf 5 = 1 := by kernel_rfl
    rw [hc, Nat.mul_one]
    exact run_part_plain w (by kernel_rfl) (va_get hj')
  · rw [run_equalIn_int w d _ _ _ _ _ u8_under]
    simp
theorem same16 (l : List Nat) (hl : l.length = 16) (w : World) : (Op.equalIn 10000 22 (.agg (va .u8 l)) (.agg (va .u8 l))).run Try.prog w = .ok true w :=
  same_bytes _ 16 l hl (by kernel_rfl) 9998 w
theorem part4 (xs : Array Value) (off : Nat) (w : World) : (part 63 xs off).run Try.prog w = .ok (.agg (xs.extract off (off + 4))) w := by kernel_rfl
theorem va_extract (k : IntKind) (l : List Nat) (a b : Nat) : (va k l).extract a b = va k ((l.drop a).take (b - a)) := by
  simp [va, nv_take, nv_drop]
theorem same176 (l : List Nat) (hl : l.length = 176) (w : World) : (Op.equalIn 10000 75 (.agg (va .u8 l)) (.agg (va .u8 l))).run Try.prog w = .ok true w := by
  have hu : Try.prog.underlying 75 = some (.array 44 63) := by kernel_rfl
  have h4 : Try.prog.underlying 63 = some (.array 4 5) := by kernel_rfl
  obtain ⟨i, hi⟩ := info_of_underlying h4
  rw [run_equalIn_array w 9999 _ _ hu hi]
  refine eqItems_same _ _ _ _ _ fun j hj => ?_
  have hj' : j < 44 := List.mem_range.1 hj
  have hc : Try.prog.cellsOf 63 = 4 := by kernel_rfl
  rw [hc]
  refine ⟨_, part4 _ _ _, ?_⟩
  rw [va_extract]
  exact same_bytes _ 4 _ (by simp [hl]; omega) h4 9997 w

/-! operations under a guard that holds -/
section
variable {P : Program} {ops : Array Oper} {rest : List Oper} {o : Oper} {a : Act} {w : World} {Q : Exit → Act → World → Prop}
theorem wpList_taken (hw : Region.wanted o (yielded ops a.tmps) = true) (h : ∀ K : Act → World → Prop, (∀ a w, wpList P ops Q rest a w → K a w) → o.wp P a w K Q) : wpList P ops Q (o :: rest) a w :=
  wpList_step fun K hK => by rw [if_pos hw]; exact h K hK
theorem wpList_load_midg (hw : Region.wanted o (yielded ops a.tmps) = true) (ty : TypeId) (x : Operand) (ho : o.op = .load ty x)
    (b p : Nat) (hx : a.eval x = .pointer (some ⟨b, p, none⟩)) (cs : List Value) (d : TypeDesc) (hc : w.rangeAt b p cs)
    (hu : P.underlying ty = some d) (hd : d.isRow = true) (hi : (P.info? ty).map (·.size) = some cs.length)
    (h : wpList P ops Q rest (a.put o.dst (.agg cs.toArray)) w) : wpList P ops Q (o :: rest) a w :=
  wpList_taken hw fun _ hK => wp_load_mid ty x ho b p hx cs d hc hu hd hi (hK _ _ h)
theorem wpList_load_rowg (hw : Region.wanted o (yielded ops a.tmps) = true) (ty : TypeId) (x : Operand) (ho : o.op = .load ty x)
    (g : Nat) (hx : a.eval x = .pointer (some ⟨g, 0, none⟩)) (t : TypeId) (cs : Array Value) (d : TypeDesc) (hg : Blk w g t cs)
    (hu : P.underlying ty = some d) (hd : (match d with | .struct _ | .array _ _ => true | _ => false) = true) (hi : (P.info? ty).map (·.size) = some cs.size)
    (h : wpList P ops Q rest (a.put o.dst (.agg cs)) w) : wpList P ops Q (o :: rest) a w :=
  wpList_taken hw fun _ hK => wp_load_row ty x ho g hx t cs (0, 0) d hg hu hd hi (hK _ _ h)
theorem wpList_buildg (hw : Region.wanted o (yielded ops a.tmps) = true) (t : TypeId) (parts : Array (Nat × Operand)) (ho : o.op = .build t parts)
    (cs : Array Value) (hb : P.built t (parts.map fun (i, x) => (i, a.eval x)).toList = some cs)
    (h : wpList P ops Q rest (a.put o.dst (.agg cs)) w) : wpList P ops Q (o :: rest) a w :=
  wpList_taken hw fun _ hK => wp_build t parts ho (by rw [hb]; rfl) (by rw [hb]; exact hK _ _ h)
end
end Go.Proofs.Ytpcdckhabaoieaa
