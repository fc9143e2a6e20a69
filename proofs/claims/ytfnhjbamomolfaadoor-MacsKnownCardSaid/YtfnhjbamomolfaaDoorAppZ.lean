/-
  append(s, make([]byte, k)...): the own slice grows by k zeros.
-/
import Derived.Test.YtfnhjbamomolfaaDoorOwn
import Derived.Lib.AppendZerosOnto
namespace Go.Proofs.YtfnhjbamomolfaaDoor
open Go.RowKit Sh

theorem zeros_u8 (k : Nat) : Builtin.zeroCells (Value.int .u8 0).cells k = va .u8 (List.replicate k 0) := by
  rw [va_rep]
  apply Array.ext
  · simp [Builtin.zeroCells, Value.cells]
  · intro i h1 h2
    simp [Builtin.zeroCells, Value.cells, Nat.mod_one]
section
variable {w : World} {B0 n c : Nat} {A : Option Addr} {l : List Nat}
theorem own_append_zeros (h : Own w B0 A n c l) (k : Nat) (hB0 : B0 ≤ w.heap.size) (new : List Nat) (hnew : l ++ List.replicate k 0 = new) (N : Nat) (hN : n + k = N) (hmax : N ≤ 100000000) (ty : TypeId) :
    ∃ A' c' w', (Builtin.append_ #[22, 3] ty #[.slice A n c, .int .i64 (k : Int)]).run Tryd.prog w = .ok (.slice A' N c') w' ∧ Own w' B0 A' N c' new ∧ N ≤ c' ∧ w.grownBy w' (Value.slice A n c).ownBlock ∧
      ∀ x, Off A x → x < w.heap.size → Off A' x := by
  subst hnew hN
  obtain ⟨i0, hi0, hz0, hz1, hz2⟩ := info_parts byte_info
  have hw : IntKind.i64.wrap (k : Int) = k := by rw [IntKind.wrap_i64]; omega
  have hneg : ¬ ((k : Int) < 0) := by omega
  have ht := run_underlying (w := w) (P := Tryd.prog) Tryd.underlying22
  have htn := run_underlying (w := w) (P := Tryd.prog) Tryd.underlying3
  have hl := h.len
  have hgrown : ∀ old, old < n + k → Own (w.drew.alloc (.cells ((nv .u8 l).toArray ++ Builtin.zeroCells (Value.int .u8 0).cells k ++ Builtin.zeroCells (Value.int .u8 0).cells (grownCap w (n + k) old 5 - (n + k))) 5)) B0 (some ⟨w.heap.size, 0, none⟩) (n + k) (grownCap w (n + k) old 5) (l ++ List.replicate k 0) ∧
      w.grownBy (w.drew.alloc (.cells ((nv .u8 l).toArray ++ Builtin.zeroCells (Value.int .u8 0).cells k ++ Builtin.zeroCells (Value.int .u8 0).cells (grownCap w (n + k) old 5 - (n + k))) 5)) (Value.slice A n c).ownBlock := by
    intro old ho
    have hge := grownCap_ge w (n + k) old 5
    have hcm : grownCap w (n + k) old 5 ≤ maxLen := grownCap_le_maxLen w (n + k) old 5 (by unfold maxLen; omega)
    refine ⟨⟨by rw [nv_len, List.length_append, List.length_replicate, hl]; omega, .inr ⟨w.heap.size, _, _, rfl, hB0, heap_alloc_new w.drew _, hge, hcm, ?_, ?_⟩⟩, ⟨rfl, rfl, rfl, by simp, fun j hj _ => Below.heap_alloc w.drew _ j hj⟩⟩
    · rw [zeros_u8, zeros_u8]
      simp only [Array.size_append, List.size_toArray, va_size, nv_len, List.length_replicate, hl]
      omega
    · rw [zeros_u8, zeros_u8]
      simp only [va, Array.toList_append, nv_app, Nat.mul_one]
      rw [nv_take, List.take_left' (by rw [List.length_append, List.length_replicate, hl])]
  have hoff : ∀ x, Off A x → x < w.heap.size → Off (some (⟨w.heap.size, 0, none⟩ : Addr)) x := fun x _ hx a ha e => by
    cases ha; simp at e; omega
  by_cases hk0 : k = 0
  · subst hk0
    have hc := h.cap
    refine ⟨A, c, w, ?_, by simpa using h, by omega, World.grownBy.refl _ _, fun x hx _ => hx⟩
    have hw0 : IntKind.i64.wrap 0 = 0 := by decide
    cases A <;> simp [Builtin.append_, ht, htn, sizeOf, typeInfo, hi0, hz0, hz2, asInt, asIntOf, hc, hw0, storeCells]
  · rcases h.2 with ⟨e, h0⟩ | ⟨g, cap, cur, e, hbg, hg, hnc, hcm, hcs, htake⟩
    · injection e with e1 e2 e3
      subst e1 h0 e3
      have hnil : l = [] := List.eq_nil_of_length_eq_zero hl
      subst hnil
      have hr := Lib.run_append_nil_zeros (P := Tryd.prog) w 22 3 ty 5 i0 (.int .u8 0) .i64 .i64 Tryd.underlying22 Tryd.underlying3 hi0 hz0 k (by omega) (by omega) (by omega) (by rw [hz2]; omega)
      have hgr := hgrown 0 (by omega)
      simp only [Nat.zero_add, nv, List.map_nil, List.nil_append] at hgr hr ⊢
      simp only [show (#[] : Array Value) = [].toArray from rfl, Array.empty_append] at hgr
      exact ⟨_, _, _, hr, hgr.1, grownCap_ge _ _ _ _, hgr.2, hoff⟩
    · injection e with e1 e2 e3
      subst e1 e3
      by_cases hroom : n + k ≤ c
      · have hst := run_storeCells_at (P := Tryd.prog) g n 5 (va .u8 (List.replicate k 0)).toList 0 cur w hg (by simp [va_size]; omega) (fun v hv => nv_one .u8 _ v (by simpa [va] using hv))
        refine ⟨some ⟨g, 0, none⟩, c, w.setRow g (cur.toList.take n ++ ((va .u8 (List.replicate k 0)).toList ++ cur.toList.drop (n + (va .u8 (List.replicate k 0)).toList.length))).toArray, ?_, ⟨by rw [nv_len, List.length_append, List.length_replicate, hl]; omega, .inr ⟨g, c, _, rfl, hbg, setRow_heap w g cur _ _ _ hg, hroom, hcm, ?_, ?_⟩⟩, hroom, ⟨rfl, rfl, rfl, by simp [World.setRow], fun j _ hj => setRow_other w g _ j (fun e => hj (by simp [Value.ownBlock, e]))⟩, fun x hx _ => hx⟩
        · have hadd : (⟨g, 0, none⟩ : Addr).add (n * 1) = ⟨g, n, none⟩ := by rw [add_none]; simp
          have hadd2 : (⟨g, 0, none⟩ : Addr).add n = ⟨g, n, none⟩ := by rw [add_none]; simp
          have hzu := zeros_u8 k
          have h48 : ¬ (281474976710656 < (k : Int)) := by omega
          simp only [Nat.add_zero] at hst
          simp [Builtin.append_, ht, htn, sizeOf, typeInfo, zeroValue, hi0, hz0, hz1, hz2, asInt, asIntOf, hw, hneg, hk0, hroom, hzu, hadd2, h48]
          rw [hst]
          simp
        · simp [va_size]; omega
        · rw [Nat.mul_one] at htake
          simp only [Nat.mul_one, htake, va, nv_app]
          rw [← List.append_assoc, nv_app, List.take_left' (by rw [nv_len, List.length_append, List.length_replicate, hl])]
      · have hold : (Builtin.firstCells i0.size n (.slice (some ⟨g, 0, none⟩) n c)).run Tryd.prog w.drew = .ok (nv .u8 l).toArray w.drew :=
          run_firstCells_some w.drew i0.size n ⟨g, 0, none⟩ n c (nv .u8 l) (by rw [nv_len, hl, hz1]; omega) (fun j v hv => World.ownsRow.cells h (g := g) rfl j v hv)
        have hr := Lib.run_append_grow_zeros (P := Tryd.prog) w 22 3 ty 5 i0 (.int .u8 0) .i64 .i64 Tryd.underlying22 Tryd.underlying3 hi0 hz0 (some ⟨g, 0, none⟩) n c (nv .u8 l) hold k (by omega) (by omega) (by omega) (by omega) (by rw [hz2]; omega) (growslice_fits (by omega) (by rw [hz2]; omega))
        have hgr := hgrown c (by omega)
        exact ⟨_, _, _, hr, hgr.1, grownCap_ge _ _ _ _, hgr.2, hoff⟩
end
end Go.Proofs.YtfnhjbamomolfaaDoor
