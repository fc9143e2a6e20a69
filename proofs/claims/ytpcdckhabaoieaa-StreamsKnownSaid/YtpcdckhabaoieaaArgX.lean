/-
  Arguments of the laws of streams.Xor opened: a number of 16 bits, two slices of bytes in an array.
-/
import Derived.Test.YtpcdckhabaoieaaArgS
namespace Go.Proofs.Ytpcdckhabaoieaa
open Go.RowKit Go.WideShapes Go.ChangeShapes Go.Joins Sh
section
variable {H : Type} {enc : TypeId × Value → H} {W : World}
theorem open_u16 {r0 : Reach} {b0 : Nat} {v : Value} {d : DataW H} {ps : List MemPlace} (hval : Value.okWide Try.prog W r0 b0 46 v) (hd : DataW.Trod enc Try.prog W 0 (fun _ => true) true 46 v d ps) : ∃ x : Nat, v = .int .u16 (x : Int) ∧ x < 65536 := by
  obtain ⟨a, rfl, _, _, hw⟩ := open_int Try.underlying46 hval hd
  obtain ⟨m, rfl, hm⟩ := nat_of .u16 65536 u16_wf hw
  exact ⟨m, rfl, hm⟩
theorem open_b2 {r0 : Reach} {b0 : Nat} {v : Value} {d : DataW H} {ps : List MemPlace} (hval : Value.okWide Try.prog W r0 b0 47 v) (hd : DataW.Trod enc Try.prog W 0 (fun _ => true) true 47 v d ps) :
    ∃ (A : Option Addr) (n c : Nat) (l : List Nat) (A2 : Option Addr) (n2 c2 : Nat) (l2 : List Nat), v = .agg #[.slice A n c, .slice A2 n2 c2] ∧ Reads W W.heap.size 1 A n (nv .u8 l) ∧ n ≤ c ∧ Byt l ∧ Reads W W.heap.size 1 A2 n2 (nv .u8 l2) ∧ n2 ≤ c2 ∧ Byt l2 := by
  have hu : Try.prog.underlying 47 = some (.array 2 39) := Try.underlying47
  simp only [Value.okWide, hu] at hval
  obtain ⟨xs, rfl, hsz, _⟩ := hval
  have hsz2 : xs.size = 2 := hsz.trans (by kernel_rfl)
  obtain ⟨fuel, hf⟩ := hd
  obtain ⟨ys, m, _, _, _, hl, hx⟩ := DataW.trod_array hu hf
  have hc : Try.prog.cellsOf 39 = 1 := by kernel_rfl
  have h0 := hx 0 (by omega)
  have h1 := hx 1 (by omega)
  rw [hc] at h0 h1
  obtain ⟨l⟩ := xs
  have hl2 : l.length = 2 := hsz2
  match l, hl2 with
  | [p, q], _ =>
    rw [List.getElem?_eq_getElem (by omega)] at h0 h1
    obtain ⟨A, n, c, l, e0, hr, hc, hb⟩ := open_nats 256 u8_wf Try.underlying39 Try.underlying5 (by kernel_rfl) (cs := [p]) h0
    obtain ⟨A2, n2, c2, l2, e1, hr2, hc2, hb2⟩ := open_nats 256 u8_wf Try.underlying39 Try.underlying5 (by kernel_rfl) (cs := [q]) h1
    simp only [List.cons.injEq, and_true] at e0 e1
    subst e0 e1
    exact ⟨A, n, c, l, A2, n2, c2, l2, rfl, hr, hc, hb, hr2, hc2, hb2⟩
end
end Go.Proofs.Ytpcdckhabaoieaa
