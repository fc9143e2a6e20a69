/-
  Slices of byte slices.
-/
import Derived.Test.YtcdmbknmmnaocaaDoorWords
namespace Go.Proofs.YtcdmbknmmnaocaaDoor
open Go.RowKit Sh

theorem add_blk (a : Addr) (j : Nat) : (a.add j).block = a.block := by unfold Addr.add; split <;> rfl
/-- a slice of byte slices -/
def Parts (w : World) (B : Nat) (A : Option Addr) (n : Nat) (ms : List (List Nat)) : Prop :=
  ms.length = n ∧ ∀ j, j < n → ∃ ad Ai ni ci, A = some ad ∧ ad.block < B ∧ w.cell? (ad.add j) = some (.slice Ai ni ci) ∧ ni ≤ ci ∧ Reads w B 1 Ai ni (nv .u8 (ms.getD j [])) ∧ Byt (ms.getD j [])
theorem Parts.below {w w' : World} {B : Nat} {A : Option Addr} {n : Nat} {ms : List (List Nat)} (h : Parts w B A n ms) (b : Below B w w') : Parts w' B A n ms :=
  ⟨h.1, fun j hj => by
    obtain ⟨ad, Ai, ni, ci, e, hb, hc, hn, hr, hy⟩ := h.2 j hj
    exact ⟨ad, Ai, ni, ci, e, hb, (b.cell (p := ad.add j) (by rw [add_blk]; exact hb)).trans hc, hn, hr.below b, hy⟩⟩
theorem Parts.nil (w : World) (B : Nat) (A : Option Addr) : Parts w B A 0 [] := ⟨rfl, fun j hj => by omega⟩
theorem flat_take_succ (ms : List (List Nat)) (k : Nat) (hk : k < ms.length) : (ms.take (k + 1)).flatten = (ms.take k).flatten ++ ms.getD k [] := by
  have e : ms.getD k [] = ms[k] := by simp [List.getD_eq_getElem?_getD, hk]
  rw [e, List.take_succ_eq_append_getElem hk, List.flatten_append]
  simp
theorem flat_take_len (ms : List (List Nat)) (k : Nat) : (ms.take k).flatten.length ≤ ms.flatten.length := by
  have h : ms.flatten = (ms.take k).flatten ++ (ms.drop k).flatten := by rw [← List.flatten_append, List.take_append_drop]
  rw [h, List.length_append]; omega

end Go.Proofs.YtcdmbknmmnaocaaDoor
