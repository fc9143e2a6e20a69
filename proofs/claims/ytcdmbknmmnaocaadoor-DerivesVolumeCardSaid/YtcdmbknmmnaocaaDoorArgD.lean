/-
  Arguments of the laws of derives opened: a number, an array of bytes.
-/
import Derived.Test.YtcdmbknmmnaocaaDoorArgB
import Derived.Test.YtcdmbknmmnaocaaDoorCardLib
namespace Go.Proofs.YtcdmbknmmnaocaaDoor
open Go.RowKit Go.WideShapes Go.ChangeShapes Go.Joins Sh
theorem i64_wfD (z : Int) (h : (Lit.int .i64 z).wf = true) : -9223372036854775808 ≤ z ∧ z ≤ 9223372036854775807 := by
  simpa [Lit.wf, IntKind.min, IntKind.max, IntKind.signed, IntKind.bits] using h
section
variable {H : Type} {enc : TypeId × Value → H} {W : World}
theorem open_iD {r0 : Reach} {b0 : Nat} {v : Value} {d : DataW H} {ps : List MemPlace} (hval : Value.okWide Tryd.prog W r0 b0 3 v) (hd : DataW.Trod enc Tryd.prog W 0 (fun _ => true) true 3 v d ps) : ∃ x : Int, v = .int .i64 x ∧ -9223372036854775808 ≤ x ∧ x ≤ 9223372036854775807 := by
  obtain ⟨a, rfl, _, _, hw⟩ := open_int Tryd.underlying3 hval hd
  exact ⟨a, rfl, i64_wfD a hw⟩
theorem open_ba {t : TypeId} {n : Nat} (hu : Tryd.prog.underlying t = some (.array n 5)) (hcn : Tryd.prog.cellsOf t = n) {r0 : Reach} {b0 : Nat} {v : Value} {d : DataW H} {ps : List MemPlace} (hval : Value.okWide Tryd.prog W r0 b0 t v) (hd : DataW.Trod enc Tryd.prog W 0 (fun _ => true) true t v d ps) :
    ∃ l : List Nat, v = .agg (va .u8 l) ∧ l.length = n ∧ Byt l := by
  obtain ⟨zs, rfl, hl, hw, _, _⟩ := open_numarr hu Tryd.underlying5 (by kernel_rfl) hcn hval hd
  obtain ⟨l, rfl, hlt⟩ := nats_of .u8 256 u8_wf zs hw
  exact ⟨l, by rw [vaInts], by simpa using hl, hlt⟩
end
end Go.Proofs.YtcdmbknmmnaocaaDoor
