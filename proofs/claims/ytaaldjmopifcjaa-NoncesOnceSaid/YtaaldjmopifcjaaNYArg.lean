/-
  Arguments that are nonces and slices of bytes, opened.
-/
import Derived.Test.YtaaldjmopifcjaaNon3
import Derived.Test.YtaaldjmopifcjaaNArg
namespace Go.Proofs.Ytaaldjmopifcjaa
open Go.RowKit Go.WideShapes Go.ChangeShapes Go.Joins

section
variable {H : Type} {enc : TypeId × Value → H} {W : World}
theorem open_no {r0 : Reach} {b0 : Nat} {v : Value} {d : DataW H} {ps : List MemPlace} (hval : Value.okWide Try.prog W r0 b0 35 v) (hd : DataW.Trod enc Try.prog W 0 (fun _ => true) true 35 v d ps) :
    ∃ s c : Nat, v = .agg (noV s c) ∧ s < 4294967296 ∧ c < 18446744073709551616 := by
  obtain ⟨c0, c1, y0, y1, m, rfl, _, _, h0, h1⟩ := open_agg2 Try.underlying35 (by kernel_rfl) (by kernel_rfl) hval hd
  obtain ⟨a0, e0, _, w0⟩ := DataW.trod_int Try.underlying33 h0
  obtain ⟨a1, e1, _, w1⟩ := DataW.trod_int Try.underlying23 h1
  simp only [List.cons.injEq, and_true] at e0 e1
  subst e0 e1
  obtain ⟨m0, rfl, b0⟩ := nat_of .u32 4294967296 u32_wf w0
  obtain ⟨m1, rfl, b1⟩ := nat_of .u64 18446744073709551616 u64_wf w1
  exact ⟨m0, m1, rfl, b0, b1⟩
theorem open_bs {r0 : Reach} {b0 : Nat} {v : Value} {d : DataW H} {ps : List MemPlace} (hval : Value.okWide Try.prog W r0 b0 47 v) (hd : DataW.Trod enc Try.prog W 0 (fun _ => true) true 47 v d ps) :
    ∃ (A : Option Addr) (n c : Nat) (l : List Nat), v = .slice A n c ∧ Reads W W.heap.size 1 A n (nv .u8 l) ∧ n ≤ c ∧ ∀ y ∈ l, y < 256 := by
  obtain ⟨a0, len, cap, rfl⟩ := okWide_slice Try.underlying47 hval
  obtain ⟨fuel, hf⟩ := hd
  obtain ⟨A, n, c, l, e0, hr, hc, hl⟩ := open_nats 256 u8_wf Try.underlying47 Try.underlying5 (by kernel_rfl) hf
  simp only [Value.cells, List.cons.injEq, and_true] at e0
  exact ⟨A, n, c, l, e0, hr, hc, hl⟩
end
end Go.Proofs.Ytaaldjmopifcjaa
