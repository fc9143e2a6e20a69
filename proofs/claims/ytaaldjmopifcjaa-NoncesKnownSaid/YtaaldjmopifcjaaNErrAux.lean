/-
  What a valid allocator's check says.
-/
import Derived.Test.YtaaldjmopifcjaaNLives
namespace Go.Proofs.Ytaaldjmopifcjaa
open Go.RowKit Sh

theorem chk_zero {cs : List Nat} {n m l r : Nat} (hn : cs.length = n) (h : chk cs m l r = 0) : 1 ≤ n ∧ n ≤ 8 ∧ m ≤ l := by
  refine ⟨?_, ?_, ?_⟩
  all_goals
    rcases Nat.lt_or_ge 0 1 with _ | _
    · refine Decidable.byContradiction fun hc => ?_
      rw [chk_head hn (by omega)] at h
      omega
    · omega
theorem chk_fill (k l r : Nat) (hk : 1 ≤ k) (hk8 : k ≤ 8) : chk (List.replicate k 0) 0 l r = chk [0] 0 l r := by
  have h1 : ∀ j : Nat, (List.replicate j 0).any (fun c => decide (0 < c)) = false := fun j => by
    rw [List.any_eq_false]; intro x hx; have := List.eq_of_mem_replicate hx; subst this; simp
  unfold chk
  rw [h1 k, show ([0] : List Nat) = List.replicate 1 0 from rfl, h1 1]
  simp only [List.length_replicate]
  rw [if_neg (show ¬ k < 1 by omega), if_neg (show ¬ 8 < k by omega)]
  rfl
end Go.Proofs.Ytaaldjmopifcjaa
