/-
  Arguments opened: slices of bytes, slices of these, numbers, arrays of numbers inside structs. (Printed by mkargs.py.)
-/
import Derived.Test.YtcdmbknmmnaocaaDoorParts
import Derived.Test.YtcdmbknmmnaocaaDoorArr
import Derived.Test.YtcdmbknmmnaocaaDoorRow
import Derived.Deep.Slices
namespace Go.Proofs.YtcdmbknmmnaocaaDoor
open Go.RowKit Go.WideShapes Go.ChangeShapes Go.Joins

theorem u16_wf (z : Int) (h : (Lit.int .u16 z).wf = true) : 0 ≤ z ∧ z < ((65536 : Nat) : Int) := by
  have hx : 0 ≤ z ∧ z ≤ 65535 := by simpa [Lit.wf, IntKind.min, IntKind.max, IntKind.signed, IntKind.bits] using h
  omega
theorem u64_wf (z : Int) (h : (Lit.int .u64 z).wf = true) : 0 ≤ z ∧ z < ((18446744073709551616 : Nat) : Int) := by
  have hx : 0 ≤ z ∧ z ≤ 18446744073709551615 := by simpa [Lit.wf, IntKind.min, IntKind.max, IntKind.signed, IntKind.bits] using h
  omega

section
variable {H : Type} {enc : TypeId × Value → H} {W : World}
/-- a slice of numbers, opened: what lies below its length reads as natural numbers -/
theorem open_nats {P : Program} {t e : TypeId} {q : IntKind} (M : Nat) (hq : ∀ z : Int, (Lit.int q z).wf = true → 0 ≤ z ∧ z < (M : Int)) (ht : P.underlying t = some (.slice e)) (he : P.underlying e = some (.int q)) (hc : P.cellsOf e = 1) {fuel : Nat} {cs : List Value} {x : DataW H × List MemPlace}
    (h : DataW.trod enc P W 0 (fun _ => true) true fuel t cs = some x) :
    ∃ (A : Option Addr) (n c : Nat) (l : List Nat), cs = [.slice A n c] ∧ Reads W W.heap.size 1 A n (nv q l) ∧ n ≤ c ∧ (∀ y ∈ l, y < M) := by
  rcases open_ints ht he hc h with ⟨rfl, _⟩ | ⟨a, len, cap, zs, rfl, _, hl, _, hz, _, hcell, hwz⟩
  · exact ⟨none, 0, 0, [], rfl, Reads.none_, Nat.le_refl _, fun y hy => by cases hy⟩
  · simp only [if_true] at hz
    obtain ⟨l, hl0, hlt⟩ := nats_of q M hq (zs.take len) (fun z hz' => hwz z (List.mem_of_mem_take hz'))
    have hll : l.length = len := by
      have := congrArg List.length hl0
      rw [List.length_take, List.length_map] at this
      omega
    refine ⟨some a, len, cap, l, rfl, ⟨by rw [nv_len]; omega, fun hn => ⟨a, rfl, ?_, fun j u hu => ?_⟩⟩, hl, hlt⟩
    · have h0 := hcell 0 (by omega)
      have := World.block_lt_of_cell? W (a.add 0) h0
      rwa [block_of_add] at this
    · have hj : j < l.length := by
        rcases Nat.lt_or_ge j l.length with h1 | h1
        · exact h1
        · rw [List.getElem?_eq_none (by rw [nv_len]; exact h1)] at hu; cases hu
      rw [nv_get hj] at hu
      rw [← hu, hcell j (by omega)]
      congr 2
      have h1 : (zs.take len).getD j 0 = (l.map (fun x : Nat => (x : Int))).getD j 0 := by rw [hl0]
      simp only [List.getD_eq_getElem?_getD, List.getElem?_take, List.getElem?_map] at h1
      rw [if_pos (by omega)] at h1
      simp only [List.getD_eq_getElem?_getD]
      rw [h1, List.getElem?_eq_getElem hj]
      rfl

theorem nat_of (q : IntKind) (M : Nat) (hq : ∀ z : Int, (Lit.int q z).wf = true → 0 ≤ z ∧ z < (M : Int)) {z : Int} (h : (Lit.int q z).wf = true) : ∃ a : Nat, z = (a : Int) ∧ a < M := by
  obtain ⟨h0, h1⟩ := hq z h
  exact ⟨z.toNat, by omega, by omega⟩

theorem open_bs {r0 : Reach} {b0 : Nat} {v : Value} {d : DataW H} {ps : List MemPlace} (hval : Value.okWide Tryd.prog W r0 b0 22 v) (hd : DataW.Trod enc Tryd.prog W 0 (fun _ => true) true 22 v d ps) :
    ∃ (A : Option Addr) (n c : Nat) (l : List Nat), v = .slice A n c ∧ Reads W W.heap.size 1 A n (nv .u8 l) ∧ n ≤ c ∧ ∀ y ∈ l, y < 256 := by
  obtain ⟨a0, len, cap, rfl⟩ := okWide_slice Tryd.underlying22 hval
  obtain ⟨fuel, hf⟩ := hd
  obtain ⟨A, n, c, l, e0, hr, hc, hl⟩ := open_nats 256 u8_wf Tryd.underlying22 Tryd.underlying5 (by kernel_rfl) hf
  simp only [Value.cells, List.cons.injEq, and_true] at e0
  exact ⟨A, n, c, l, e0, hr, hc, hl⟩
theorem open_u8 {r0 : Reach} {b0 : Nat} {v : Value} {d : DataW H} {ps : List MemPlace} (hval : Value.okWide Tryd.prog W r0 b0 5 v) (hd : DataW.Trod enc Tryd.prog W 0 (fun _ => true) true 5 v d ps) : ∃ x : Nat, v = .int .u8 (x : Int) ∧ x < 256 := by
  obtain ⟨a, rfl, _, _, hw⟩ := open_int Tryd.underlying5 hval hd
  obtain ⟨m, rfl, hm⟩ := nat_of .u8 256 u8_wf hw
  exact ⟨m, rfl, hm⟩
/-- an array of numbers among cells -/
theorem trod_nums {P : Program} {t e : TypeId} {n m : Nat} {q : IntKind} {cs : List Value} {x : DataW H × List MemPlace} (M : Nat) (hq : ∀ z : Int, (Lit.int q z).wf = true → 0 ≤ z ∧ z < (M : Int)) (hu : P.underlying t = some (.array n e)) (he : P.underlying e = some (.int q)) (hc1 : P.cellsOf e = 1) (hlen : cs.length = n)
    (h : DataW.trod enc P W 0 (fun _ => true) true m t cs = some x) : ∃ l : List Nat, cs = nv q l ∧ l.length = n ∧ ∀ y ∈ l, y < M := by
  cases m with
  | zero => simp [DataW.trod] at h
  | succ m =>
    rw [DataW.trod_step] at h
    unfold DataW.trodStep at h
    simp only [hu] at h
    split at h
    · rw [hc1] at h
      simp only [Option.map_eq_some_iff] at h
      obtain ⟨ys, hy, _⟩ := h
      obtain ⟨zs, rfl, hl, hw, hc⟩ := mapM_ints he _ ys hy
      rw [List.length_range] at hl
      obtain ⟨l, rfl, hb⟩ := nats_of q M hq zs hw
      refine ⟨l, ?_, by simpa using hl, hb⟩
      apply List.ext_getElem (by rw [nv_len, hlen]; simpa using hl.symm)
      intro i h1 h2
      have h3 : i < l.length := by rw [nv_len] at h2; exact h2
      have h4 := hc i (by rw [List.length_range]; omega) (by simpa using h3)
      simp at h4
      rw [List.getElem?_eq_getElem h1] at h4
      simpa [nv] using Option.some.inj h4
    · cases h
theorem trod_num {P : Program} {t : TypeId} {m : Nat} {q : IntKind} {cs : List Value} {x : DataW H × List MemPlace} (M : Nat) (hq : ∀ z : Int, (Lit.int q z).wf = true → 0 ≤ z ∧ z < (M : Int)) (hu : P.underlying t = some (.int q))
    (h : DataW.trod enc P W 0 (fun _ => true) true m t cs = some x) : ∃ y : Nat, cs = [.int q (y : Int)] ∧ y < M := by
  obtain ⟨a, rfl, _, hw⟩ := DataW.trod_int hu h
  obtain ⟨y, rfl, hy⟩ := nat_of q M hq hw
  exact ⟨y, rfl, hy⟩
theorem open_bss {r0 : Reach} {b0 : Nat} {v : Value} {d : DataW H} {ps : List MemPlace} (hval : Value.okWide Tryd.prog W r0 b0 52 v) (hd : DataW.Trod enc Tryd.prog W 0 (fun _ => true) true 52 v d ps) :
    ∃ (A : Option Addr) (n c : Nat) (ms : List (List Nat)), v = .slice A n c ∧ Parts W W.heap.size A n ms ∧ n ≤ c := by
  obtain ⟨a0, len, cap, rfl⟩ := okWide_slice Tryd.underlying52 hval
  obtain ⟨fuel, hf⟩ := hd
  rcases Deep.open_slice1 Tryd.underlying52 (by kernel_rfl) hf with ⟨hcs, _⟩ | ⟨a, len', cap', m, n, V, D, Pl, hcs, hb, hl, hm, hmm, _, hx⟩
  · simp only [Value.cells, List.cons.injEq, and_true] at hcs
    exact ⟨none, 0, 0, [], hcs, Parts.nil _ _ _, Nat.le_refl _⟩
  · simp only [Value.cells, List.cons.injEq, and_true] at hcs
    simp only [if_true] at hmm
    subst hmm
    have each : ∀ j, j < len' → ∃ l : List Nat, ∃ Ai ni ci, V j = .slice Ai ni ci ∧ ni ≤ ci ∧ Reads W W.heap.size 1 Ai ni (nv .u8 l) ∧ Sh.Byt l := fun j hj => by
      obtain ⟨Ai, ni, ci, l, e0, hr, hc, hlb⟩ := open_nats 256 u8_wf Tryd.underlying22 Tryd.underlying5 (by kernel_rfl) (hx j (by omega)).2
      simp only [List.cons.injEq, and_true] at e0
      exact ⟨l, Ai, ni, ci, e0, hc, hr, hlb⟩
    obtain ⟨L, hL⟩ := Deep.choose_lt each
    refine ⟨some a, len', _, (List.range len').map L, hcs, ⟨by simp, fun j hj => ?_⟩, hl⟩
    obtain ⟨Ai, ni, ci, e1, h1, h2, h3⟩ := hL j hj
    have eL : ((List.range len').map L).getD j [] = L j := by simp [List.getD_eq_getElem?_getD, hj]
    have hc := (hx j (by omega)).1
    rw [e1] at hc
    rw [eL]
    refine ⟨a, Ai, ni, ci, rfl, ?_, hc, h1, h2, h3⟩
    have := World.block_lt_of_cell? W (a.add j) hc
    rwa [block_of_add] at this
end
end Go.Proofs.YtcdmbknmmnaocaaDoor
