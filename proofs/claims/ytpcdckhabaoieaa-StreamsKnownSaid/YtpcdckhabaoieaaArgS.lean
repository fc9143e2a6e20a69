/-
  Arguments of the laws of streams opened: a nonce, a range, a key with its nonce.
-/
import Derived.Test.YtpcdckhabaoieaaArgB
import Derived.Test.YtpcdckhabaoieaaStm6
import Derived.Deep.Strs
namespace Go.Proofs.Ytpcdckhabaoieaa
open Go.RowKit Go.WideShapes Go.ChangeShapes Go.Joins Sh
theorem i64_wf (z : Int) (h : (Lit.int .i64 z).wf = true) : -9223372036854775808 ≤ z ∧ z ≤ 9223372036854775807 := by
  simpa [Lit.wf, IntKind.min, IntKind.max, IntKind.signed, IntKind.bits] using h
section
variable {H : Type} {enc : TypeId × Value → H} {W : World}
theorem open_u32 {r0 : Reach} {b0 : Nat} {v : Value} {d : DataW H} {ps : List MemPlace} (hval : Value.okWide Try.prog W r0 b0 23 v) (hd : DataW.Trod enc Try.prog W 0 (fun _ => true) true 23 v d ps) : ∃ x : Nat, v = .int .u32 (x : Int) ∧ x < 4294967296 := by
  obtain ⟨a, rfl, _, _, hw⟩ := open_int Try.underlying23 hval hd
  obtain ⟨m, rfl, hm⟩ := nat_of .u32 4294967296 u32_wf hw
  exact ⟨m, rfl, hm⟩
theorem open_i {r0 : Reach} {b0 : Nat} {v : Value} {d : DataW H} {ps : List MemPlace} (hval : Value.okWide Try.prog W r0 b0 3 v) (hd : DataW.Trod enc Try.prog W 0 (fun _ => true) true 3 v d ps) : ∃ x : Int, v = .int .i64 x ∧ -9223372036854775808 ≤ x ∧ x ≤ 9223372036854775807 := by
  obtain ⟨a, rfl, _, _, hw⟩ := open_int Try.underlying3 hval hd
  exact ⟨a, rfl, i64_wf a hw⟩
theorem trod_no {m : Nat} {cs : List Value} {x : DataW H × List MemPlace} (hl : cs.length = 2) (h : DataW.trod enc Try.prog W 0 (fun _ => true) true m 26 cs = some x) :
    ∃ s c : Nat, cs = (noV s c).toList ∧ s < 4294967296 ∧ c < 18446744073709551616 := by
  match cs, hl with
  | [a, b], _ =>
    obtain ⟨y0, y1, n, _, _, h0, h1⟩ := trod_struct2 Try.underlying26 h
    have h0' : DataW.trod enc Try.prog W 0 (fun _ => true) true n 23 [a] = some y0 := h0
    have h1' : DataW.trod enc Try.prog W 0 (fun _ => true) true n 24 [b] = some y1 := h1
    obtain ⟨s, es, hs⟩ := trod_num 4294967296 u32_wf Try.underlying23 h0'
    obtain ⟨c, ec, hc⟩ := trod_num 18446744073709551616 u64_wf Try.underlying24 h1'
    simp only [List.cons.injEq, and_true] at es ec
    exact ⟨s, c, by rw [es, ec]; rfl, hs, hc⟩
theorem open_no {r0 : Reach} {b0 : Nat} {v : Value} {d : DataW H} {ps : List MemPlace} (hval : Value.okWide Try.prog W r0 b0 26 v) (hd : DataW.Trod enc Try.prog W 0 (fun _ => true) true 26 v d ps) :
    ∃ s c : Nat, v = .agg (noV s c) ∧ s < 4294967296 ∧ c < 18446744073709551616 := by
  obtain ⟨cs, rfl, hsz⟩ := okWide_struct Try.underlying26 hval
  have hsz2 : cs.size = 2 := hsz.trans (by kernel_rfl)
  obtain ⟨fuel, hf⟩ := hd
  obtain ⟨s, c, e, hs, hc⟩ := trod_no (by simpa [Value.cells] using hsz2) hf
  exact ⟨s, c, congrArg Value.agg (Array.toList_inj.1 e), hs, hc⟩
theorem open_rg {r0 : Reach} {b0 : Nat} {v : Value} {d : DataW H} {ps : List MemPlace} (hval : Value.okWide Try.prog W r0 b0 36 v) (hd : DataW.Trod enc Try.prog W 0 (fun _ => true) true 36 v d ps) :
    ∃ s c a b : Nat, v = .agg (rgV s c a b) ∧ s < 4294967296 ∧ c < 18446744073709551616 ∧ a < 4294967296 ∧ b < 4294967296 := by
  obtain ⟨cs, rfl, hsz⟩ := okWide_struct Try.underlying36 hval
  have hsz2 : cs.size = 4 := hsz.trans (by kernel_rfl)
  obtain ⟨fuel, hf⟩ := hd
  obtain ⟨l⟩ := cs
  have hl : l.length = 4 := hsz2
  match l, hl with
    | [p, q, r, t], _ =>
      obtain ⟨y0, y1, y2, n, _, _, h0, h1, h2⟩ := Deep.trod_struct3 Try.underlying36 hf
      have h0' : DataW.trod enc Try.prog W 0 (fun _ => true) true n 26 [p, q] = some y0 := h0
      have h1' : DataW.trod enc Try.prog W 0 (fun _ => true) true n 23 [r] = some y1 := h1
      have h2' : DataW.trod enc Try.prog W 0 (fun _ => true) true n 23 [t] = some y2 := h2
      obtain ⟨s, c, e, hs, hc⟩ := trod_no rfl h0'
      obtain ⟨a, ea, ha⟩ := trod_num 4294967296 u32_wf Try.underlying23 h1'
      obtain ⟨b, eb, hb⟩ := trod_num 4294967296 u32_wf Try.underlying23 h2'
      simp only [List.cons.injEq, and_true, noV] at ea eb e
      exact ⟨s, c, a, b, by rw [ea, eb, e.1, e.2]; rfl, hs, hc, ha, hb⟩
theorem open_key {r0 : Reach} {b0 : Nat} {v : Value} {d : DataW H} {ps : List MemPlace} (hval : Value.okWide Try.prog W r0 b0 28 v) (hd : DataW.Trod enc Try.prog W 0 (fun _ => true) true 28 v d ps) :
    ∃ (key : List Nat) (s c : Nat), v = .agg (kV key s c) ∧ key.length = 16 ∧ Byt key ∧ s < 4294967296 ∧ c < 18446744073709551616 := by
  obtain ⟨cs, rfl, hsz⟩ := okWide_struct Try.underlying28 hval
  have hsz2 : cs.size = 18 := hsz.trans (by kernel_rfl)
  obtain ⟨fuel, hf⟩ := hd
  obtain ⟨y0, y1, n, _, _, h0, h1⟩ := trod_struct2 Try.underlying28 hf
  have e0 : ((Value.agg cs).cells.toList.drop 0).take 16 = cs.toList.take 16 := by simp [Value.cells]
  have e1 : ((Value.agg cs).cells.toList.drop 16).take 2 = cs.toList.drop 16 := by
    rw [List.take_of_length_le (by simp [Value.cells, hsz2])]
    rfl
  have h0' : DataW.trod enc Try.prog W 0 (fun _ => true) true n 22 (cs.toList.take 16) = some y0 := by rw [← e0]; exact h0
  have h1' : DataW.trod enc Try.prog W 0 (fun _ => true) true n 26 (cs.toList.drop 16) = some y1 := by rw [← e1]; exact h1
  obtain ⟨key, hk, hl, hb⟩ := trod_nums (n := 16) 256 u8_wf Try.underlying22 Try.underlying5 (by kernel_rfl) (by simp; omega) h0'
  obtain ⟨s, c, e, hs, hc⟩ := trod_no (by simp; omega) h1'
  refine ⟨key, s, c, ?_, hl, hb, hs, hc⟩
  congr 1
  apply Array.toList_inj.1
  rw [← List.take_append_drop 16 cs.toList, hk, e]
  rfl
end
end Go.Proofs.Ytpcdckhabaoieaa
