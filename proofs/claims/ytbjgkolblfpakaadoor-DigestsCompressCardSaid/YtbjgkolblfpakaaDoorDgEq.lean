/-
  Arrays of eight numbers are equal to themselves: the operation.
-/
import Derived.Test.YtbjgkolblfpakaaDoorHld
import Derived.Deep.MidRow
import Derived.ChangeKeysEq
namespace Go.Proofs.YtbjgkolblfpakaaDoor
open Go.RowKit

theorem eqItems_same8 {P : Program} {w : World} (d : Nat) (e : TypeId) (c : Nat) (xs : Array Value) : ∀ is : List Nat, (∀ i ∈ is, ∃ a, (part e xs (i * c)).run P w = .ok a w ∧ (Op.equalIn d e a a).run P w = .ok true w) → (Op.eqItems d e c xs xs is).run P w = .ok true w
  | [], _ => by simp [Op.eqItems]
  | i :: is, h => by
    obtain ⟨a, h1, h2⟩ := h i (by simp)
    have ih := eqItems_same8 d e c xs is (fun j hj => h j (by simp [hj]))
    simp only [Op.eqItems, Sem.run_bind, h1, h2, Result.andThen_ok, Bool.not_true, Bool.false_eq_true, if_false]
    exact ih
theorem same8 (l : List Nat) (hl : l.length = 8) (w : World) : (Op.equalIn 10000 23 (.agg (va .u32 l)) (.agg (va .u32 l))).run Tryd.prog w = .ok true w := by
  have hu : Tryd.prog.underlying 23 = some (.array 8 22) := by kernel_rfl
  have h4 : Tryd.prog.underlying 22 = some (.int .u32) := by kernel_rfl
  obtain ⟨i, hi⟩ := info_of_underlying h4
  rw [run_equalIn_array w 9999 _ _ hu hi]
  refine eqItems_same8 _ _ _ _ _ fun j hj => ?_
  have hj' : j < l.length := by rw [hl]; exact List.mem_range.1 hj
  refine ⟨.int .u32 ((l.getD j 0 : Nat) : Int), ?_, ?_⟩
  · have hc : Tryd.prog.cellsOf 22 = 1 := by kernel_rfl
    rw [hc, Nat.mul_one]
    exact run_part_plain w (by kernel_rfl) (va_get hj')
  · rw [run_equalIn_int w 9998 _ _ _ _ _ h4]
    simp


theorem guard8 (l : List Nat) (w : World) (x y : Nat) : (eqGuard .eql 23 (.tmp x) (.tmp y) (.agg (va .u32 l)) (.agg (va .u32 l))).run Tryd.prog w = .ok () w := by
  have h : Tryd.prog.eqGuardType Tryd.prog.depth 23 = false := by kernel_rfl
  simp [eqGuard, h]
theorem bin8 (l : List Nat) (hl : l.length = 8) (w : World) : (binOp .eql 23 (.agg (va .u32 l)) (.agg (va .u32 l))).run Tryd.prog w = .ok (.bool true) w := by
  have h := same8 l hl w
  simp [binOp, Op.equal, h, Op.maxDepth]
theorem exec_eq8 {op : Oper} {a : Act} {w : World} (x y : Nat) (t2 : TypeId) (ho : op.op = .binOp .eql 23 (.tmp x) (.tmp y) t2) (l : List Nat) (hl : l.length = 8) (hx : a.eval (.tmp x) = .agg (va .u32 l)) (hy : a.eval (.tmp y) = .agg (va .u32 l)) :
    (execOp a.eval op).run Tryd.prog w = .ok (.value (.bool true)) w := by
  unfold execOp
  simp only [ho, hx, hy, Sem.run_bind, guard8 l w x y, bin8 l hl w, Result.andThen_ok, Sem.run_pure]
end Go.Proofs.YtbjgkolblfpakaaDoor
