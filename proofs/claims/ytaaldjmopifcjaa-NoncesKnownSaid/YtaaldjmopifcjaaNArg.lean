/-
  Arguments that are allocators, opened.
-/
import Derived.Test.YtaaldjmopifcjaaNon1
import Derived.Test.YtaaldjmopifcjaaArr
import Derived.Test.YtaaldjmopifcjaaRow
namespace Go.Proofs.Ytaaldjmopifcjaa
open Go.RowKit Go.WideShapes Go.ChangeShapes Go.Joins

theorem u64_wf (z : Int) (h : (Lit.int .u64 z).wf = true) : 0 ≤ z ∧ z < ((18446744073709551616 : Nat) : Int) := by
  have hx : 0 ≤ z ∧ z ≤ 18446744073709551615 := by simpa [Lit.wf, IntKind.min, IntKind.max, IntKind.signed, IntKind.bits] using h
  omega

section
variable {H : Type} {enc : TypeId × Value → H} {W : World}
/-- a slice of numbers, opened: what lies below its length reads as natural numbers -/
theorem open_nats {P : Program} {t e : TypeId} {q : IntKind} (M : Nat) (hq : ∀ z : Int, (Lit.int q z).wf = true → 0 ≤ z ∧ z < (M : Int)) (ht : P.underlying t = some (.slice e)) (he : P.underlying e = some (.int q)) (hc : P.cellsOf e = 1) {fuel : Nat} {cs : List Value} {x : DataW H × List MemPlace}
    (h : DataW.trod enc P W 0 (fun _ => true) true fuel t cs = some x) :
    ∃ (A : Option Addr) (n c : Nat) (l : List Nat), cs = [.slice A n c] ∧ Reads W W.heap.size 1 A n (nv q l) ∧ n ≤ c ∧ (∀ y ∈ l, y < M) := by
  rcases open_ints ht he hc h with ⟨rfl, _⟩ | ⟨a, len, cap, zs, rfl, _, hl, _, hz, _, hcell, hwz⟩
  · exact ⟨none, 0, 0, [], rfl, Reads.none_, Nat.le_refl _, fun y hy => by cases hy⟩
  · simp only [if_true] at hz
    obtain ⟨l, hl0, hlt⟩ := nats_of q M hq (zs.take len) (fun z hz' => hwz z (List.mem_of_mem_take hz'))
    have hll : l.length = len := by
      have := congrArg List.length hl0
      rw [List.length_take, List.length_map] at this
      omega
    refine ⟨some a, len, cap, l, rfl, ⟨by rw [nv_len]; omega, fun hn => ⟨a, rfl, ?_, fun j u hu => ?_⟩⟩, hl, hlt⟩
    · have h0 := hcell 0 (by omega)
      have := World.block_lt_of_cell? W (a.add 0) h0
      rwa [block_of_add] at this
    · have hj : j < l.length := by
        rcases Nat.lt_or_ge j l.length with h1 | h1
        · exact h1
        · rw [List.getElem?_eq_none (by rw [nv_len]; exact h1)] at hu; cases hu
      rw [nv_get hj] at hu
      rw [← hu, hcell j (by omega)]
      congr 2
      have h1 : (zs.take len).getD j 0 = (l.map (fun x : Nat => (x : Int))).getD j 0 := by rw [hl0]
      simp only [List.getD_eq_getElem?_getD, List.getElem?_take, List.getElem?_map] at h1
      rw [if_pos (by omega)] at h1
      simp only [List.getD_eq_getElem?_getD]
      rw [h1, List.getElem?_eq_getElem hj]
      rfl

theorem nat_of (q : IntKind) (M : Nat) (hq : ∀ z : Int, (Lit.int q z).wf = true → 0 ≤ z ∧ z < (M : Int)) {z : Int} (h : (Lit.int q z).wf = true) : ∃ a : Nat, z = (a : Int) ∧ a < M := by
  obtain ⟨h0, h1⟩ := hq z h
  exact ⟨z.toNat, by omega, by omega⟩

/-- an allocator, opened -/
theorem open_alloc {r0 : Reach} {b0 : Nat} {v : Value} {d : DataW H} {ps : List MemPlace} (hval : Value.okWide Try.prog W r0 b0 25 v) (hd : DataW.Trod enc Try.prog W 0 (fun _ => true) true 25 v d ps) :
    ∃ (A : Option Addr) (n c m l r : Nat) (cs : List Nat), v = .agg (alV A n c m l r) ∧ Reads W W.heap.size 1 A n (nv .u64 cs) ∧ m < 18446744073709551616 ∧ l < 18446744073709551616 ∧ r < 18446744073709551616 := by
  obtain ⟨c0, c1, c2, c3, y0, y1, y2, y3, m, rfl, _, _, h0, h1, h2, h3⟩ := open_agg4 Try.underlying25 (by kernel_rfl) (by kernel_rfl) hval hd
  obtain ⟨A, n, c, l, e0, hr, _, _⟩ := open_nats 18446744073709551616 u64_wf Try.underlying22 Try.underlying23 (by kernel_rfl) h0
  obtain ⟨a1, e1, _, w1⟩ := DataW.trod_int Try.underlying23 h1
  obtain ⟨a2, e2, _, w2⟩ := DataW.trod_int Try.underlying23 h2
  obtain ⟨a3, e3, _, w3⟩ := DataW.trod_int Try.underlying23 h3
  simp only [List.cons.injEq, and_true] at e0 e1 e2 e3
  subst e0 e1 e2 e3
  obtain ⟨m1, rfl, b1⟩ := nat_of .u64 18446744073709551616 u64_wf w1
  obtain ⟨m2, rfl, b2⟩ := nat_of .u64 18446744073709551616 u64_wf w2
  obtain ⟨m3, rfl, b3⟩ := nat_of .u64 18446744073709551616 u64_wf w3
  exact ⟨A, n, c, m1, m2, m3, l, rfl, hr, b1, b2, b3⟩
end
end Go.Proofs.Ytaaldjmopifcjaa
