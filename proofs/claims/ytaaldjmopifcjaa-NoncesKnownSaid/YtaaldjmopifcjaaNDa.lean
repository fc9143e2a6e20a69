/-
  Arguments that are plain allocators (caissonlaw08.A), opened; what Of makes of them is valid.
-/
import Derived.Test.YtaaldjmopifcjaaNOf
namespace Go.Proofs.Ytaaldjmopifcjaa
open Go.RowKit Go.WideShapes Go.ChangeShapes Go.Joins

theorem u16_wf (z : Int) (h : (Lit.int .u16 z).wf = true) : 0 ≤ z ∧ z < ((65536 : Nat) : Int) := by
  have hx : 0 ≤ z ∧ z ≤ 65535 := by simpa [Lit.wf, IntKind.min, IntKind.max, IntKind.signed, IntKind.bits] using h
  omega

section
variable {H : Type} {enc : TypeId × Value → H} {W : World}
theorem open_da {r0 : Reach} {b0 : Nat} {v : Value} {d : DataW H} {ps : List MemPlace} (hval : Value.okWide Try.prog W r0 b0 45 v) (hd : DataW.Trod enc Try.prog W 0 (fun _ => true) true 45 v d ps) :
    ∃ (A : Option Addr) (n c mk rs rm : Nat) (cs : List Nat), v = .agg (daV A n c mk rs rm) ∧ Reads W W.heap.size 1 A n (nv .u16 cs) ∧ mk < 256 ∧ rs < 256 ∧ rm < 65536 ∧ ∀ x ∈ cs, x < 65536 := by
  obtain ⟨c0, c1, c2, c3, y0, y1, y2, y3, m, rfl, _, _, h0, h1, h2, h3⟩ := open_agg4 Try.underlying45 (by kernel_rfl) (by kernel_rfl) hval hd
  obtain ⟨A, n, c, l, e0, hr, _, hl⟩ := open_nats 65536 u16_wf Try.underlying42 Try.underlying43 (by kernel_rfl) h0
  obtain ⟨a1, e1, _, w1⟩ := DataW.trod_int Try.underlying5 h1
  obtain ⟨a2, e2, _, w2⟩ := DataW.trod_int Try.underlying5 h2
  obtain ⟨a3, e3, _, w3⟩ := DataW.trod_int Try.underlying43 h3
  simp only [List.cons.injEq, and_true] at e0 e1 e2 e3
  subst e0 e1 e2 e3
  obtain ⟨m1, rfl, b1⟩ := nat_of .u8 256 u8_wf w1
  obtain ⟨m2, rfl, b2⟩ := nat_of .u8 256 u8_wf w2
  obtain ⟨m3, rfl, b3⟩ := nat_of .u16 65536 u16_wf w3
  exact ⟨A, n, c, m1, m2, m3, l, rfl, hr, b1, b2, b3, hl⟩
end

theorem ofR_bd (rs : Nat) : 1 ≤ ofR rs ∧ ofR rs ≤ 20 := by unfold ofR; omega
theorem ofM_bd (mk rs : Nat) : ofM mk rs ≤ 180 := by
  unfold ofM
  have h1 := (ofR_bd rs).2
  have h2 : mk % 10 ≤ 9 := by omega
  calc ofR rs * (mk % 10) ≤ 20 * 9 := Nat.mul_le_mul h1 h2
    _ ≤ 180 := by omega
theorem ofL_bd (mk rs rm : Nat) : ofM mk rs ≤ ofL mk rs rm ∧ ofR rs ≤ ofL mk rs rm ∧ ofL mk rs rm < 1000 := by
  have h1 := (ofR_bd rs).2
  have h2 := ofM_bd mk rs
  unfold ofL
  omega
theorem ofC_len (cs : List Nat) (mk rs : Nat) : 1 ≤ (ofC cs mk rs).length ∧ (ofC cs mk rs).length ≤ 8 := by
  cases cs with
  | nil => simp [ofC]
  | cons a l => simp [ofC, ofXs]; omega
theorem ofC_le (cs : List Nat) (mk rs : Nat) : ∀ x ∈ ofC cs mk rs, x ≤ ofM mk rs := by
  intro x hx
  unfold ofC at hx
  split at hx
  · simp at hx; omega
  · unfold ofXs at hx
    obtain ⟨y, _, rfl⟩ := List.mem_map.1 hx
    have := Nat.mod_lt y (show 0 < ofM mk rs + 1 by omega)
    omega
theorem ofC_chk (cs : List Nat) (mk rs rm : Nat) : chk (ofC cs mk rs) (ofM mk rs) (ofL mk rs rm) (ofR rs) = 0 := by
  have h1 := ofC_len cs mk rs
  have h2 := ofL_bd mk rs rm
  have h3 := ofR_bd rs
  rw [chk_tail rfl (by omega), any_miss]
  · rfl
  · intro i hi
    rw [List.getD_eq_getElem?_getD, List.getElem?_eq_getElem hi]
    exact ofC_le cs mk rs _ (List.getElem_mem hi)
end Go.Proofs.Ytaaldjmopifcjaa
