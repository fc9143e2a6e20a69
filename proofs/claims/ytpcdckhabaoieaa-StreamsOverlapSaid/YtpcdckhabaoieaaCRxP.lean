/-
  The expanded key by words, plainly: what the reference computes is the expanded key.
-/
import Derived.Test.YtpcdckhabaoieaaCExpP
namespace Go.Proofs.Ytpcdckhabaoieaa.Ci

def pv (key : List Nat) (i j : Nat) : Nat := exF key (4 * (i - 1) + j)
def pvL (key : List Nat) (i : Nat) : List Nat := [pv key i 0, pv key i 1, pv key i 2, pv key i 3]
def tWord (key : List Nat) (i : Nat) : List Nat := if i % 4 = 0 then [Gf.sub (pv key i 1) ^^^ Gf.pw 2 ((i - 1) / 4), Gf.sub (pv key i 2), Gf.sub (pv key i 3), Gf.sub (pv key i 0)] else pvL key i
theorem tWord_len (key : List Nat) (i : Nat) : (tWord key i).length = 4 := by unfold tWord; split <;> rfl
theorem pv_lt {key : List Nat} (h : Byt key) (i j : Nat) : pv key i j < 256 := exF_lt h _
theorem tWord_byt {key : List Nat} (h : Byt key) (i : Nat) : Byt (tWord key i) := by
  have p := pv_lt h i
  intro x hx
  unfold tWord at hx
  split at hx
  · simp only [List.mem_cons, List.not_mem_nil, or_false] at hx
    rcases hx with rfl | rfl | rfl | rfl
    · exact Nat.xor_lt_two_pow (n := 8) (Gf.sub_lt _) (Gf.pw_lt 2 _ (by omega))
    all_goals exact Gf.sub_lt _
  · simp only [pvL, List.mem_cons, List.not_mem_nil, or_false] at hx
    rcases hx with rfl | rfl | rfl | rfl
    all_goals exact p _
theorem pv_first (key : List Nat) (K j : Nat) (hj : j < 4) : pv key (4 * (K + 1)) j = (rowE key K).getD (12 + j) 0 := by
  unfold pv
  rw [show 4 * (4 * (K + 1) - 1) + j = 16 * K + (12 + j) from by omega]
  exact exF_row key K _ (by omega)
theorem pv_next (key : List Nat) (K q j : Nat) (hq : q < 3) (hj : j < 4) : pv key (4 * (K + 1) + (q + 1)) j = col (rowE key K) K j q := by
  unfold pv
  rw [show 4 * (4 * (K + 1) + (q + 1) - 1) + j = 16 * (K + 1) + (4 * q + j) from by omega]
  rw [exF_next key K _ (by omega), show (4 * q + j) % 4 = j from by omega, show (4 * q + j) / 4 = q from by omega]
theorem word_next (key : List Nat) (i k : Nat) (h4 : 4 ≤ i) (hk : k < 4) : exF key (4 * (i - 4) + k) ^^^ (tWord key i).getD k 0 = exF key (4 * i + k) := by
  obtain ⟨K, q, hq, rfl⟩ : ∃ K q, q < 4 ∧ i = 4 * (K + 1) + q := ⟨i / 4 - 1, i % 4, by omega, by omega⟩
  rw [show 4 * (4 * (K + 1) + q - 4) + k = 16 * K + (4 * q + k) from by omega, exF_row key K _ (by omega)]
  rw [show 4 * (4 * (K + 1) + q) + k = 16 * (K + 1) + (4 * q + k) from by omega, exF_next key K _ (by omega)]
  rw [show (4 * q + k) % 4 = k from by omega, show (4 * q + k) / 4 = q from by omega]
  rcases q with _ | q
  · unfold tWord
    rw [if_pos (by omega)]
    simp only [Nat.add_zero]
    rw [pv_first key K 0 (by omega), pv_first key K 1 (by omega), pv_first key K 2 (by omega), pv_first key K 3 (by omega), show (4 * (K + 1) - 1) / 4 = K from by omega]
    simp only [col, Nat.mul_zero, Nat.zero_add]
    rw [Nat.xor_comm]
    refine congrArg (· ^^^ _) ?_
    rcases k with _ | _ | _ | _ | k
    · simp [tw]
    · simp [tw]
    · simp [tw]
    · simp [tw]
    · omega
  · unfold tWord
    rw [if_neg (by omega)]
    simp only [pvL]
    rw [pv_next key K q 0 (by omega) (by omega), pv_next key K q 1 (by omega) (by omega), pv_next key K q 2 (by omega) (by omega), pv_next key K q 3 (by omega) (by omega)]
    simp only [col]
    rw [Nat.xor_comm]
    refine congrArg (· ^^^ _) ?_
    rcases k with _ | _ | _ | _ | k
    · rfl
    · rfl
    · rfl
    · rfl
    · omega
theorem word_key {key : List Nat} (i k : Nat) (hi : i < 4) (hk : k < 4) : exF key (4 * i + k) = key.getD (4 * i + k) 0 := by
  have e := exF_row key 0 (4 * i + k) (by omega)
  rw [show 16 * 0 + (4 * i + k) = 4 * i + k from by omega] at e
  exact e
theorem pvL_part (key z : List Nat) (n i : Nat) (h1 : 1 ≤ i) (hn : 4 * i ≤ n) (hz : 4 * i ≤ z.length) : ((upd (exF key) z n).drop ((i - 1) * 4)).take 4 = pvL key i := by
  apply List.ext_getElem
  · simp [upd_len, pvL]; omega
  · intro j h1' h2
    have hj : j < 4 := h2
    rw [List.getElem_take, List.getElem_drop]
    have e := upd_get (exF key) z n ((i - 1) * 4 + j) (by omega)
    rw [if_pos (by omega)] at e
    have h3 : (i - 1) * 4 + j < (upd (exF key) z n).length := by rw [upd_len]; omega
    rw [List.getD_eq_getElem?_getD, List.getElem?_eq_getElem h3] at e
    simp only [Option.getD_some] at e
    rw [e, show (i - 1) * 4 + j = 4 * (i - 1) + j from by omega]
    rcases j with _ | _ | _ | _ | j
    · rfl
    · rfl
    · rfl
    · rfl
    · omega
/-- the factor's power -/
theorem pow_keep (i : Nat) (h : i % 4 ≠ 0) : (i - 1) / 4 = (i + 1 - 1) / 4 := by omega
theorem pow_next (i : Nat) (h : i % 4 = 0) (h4 : 4 ≤ i) : Gf.gm (Gf.pw 2 ((i - 1) / 4)) 2 = Gf.pw 2 ((i + 1 - 1) / 4) := by
  rw [show (i + 1 - 1) / 4 = (i - 1) / 4 + 1 from by omega]
  rfl
end Go.Proofs.Ytpcdckhabaoieaa.Ci
namespace Go.Proofs.Ytpcdckhabaoieaa
open Go.RowKit
/-! blocks of four bytes -/
def z4 : List Nat := List.replicate 4 0
theorem z4_len : z4.length = 4 := rfl
theorem zero4 (w : World) : (zeroValue 63).run Try.prog w = .ok (.agg (va .u8 z4)) w := by kernel_rfl
theorem fourCells {w : World} {N : Nat} {t : TypeId} {a b c d : Value} (h : Blk w N t #[a, b, c, d]) : w.cell? ⟨N, 0, none⟩ = some a ∧ w.cell? ⟨N, 1, none⟩ = some b ∧ w.cell? ⟨N, 2, none⟩ = some c ∧ w.cell? ⟨N, 3, none⟩ = some d :=
  ⟨h.cell 0, h.cell 1, h.cell 2, h.cell 3⟩
theorem fourFree {w : World} {g : Nat} {t : TypeId} {cs : Array Value} (h : Blk w g t cs) :
    w.frozen? ⟨g, 0, none⟩ = false ∧ w.frozen? ⟨g, 1, none⟩ = false ∧ w.frozen? ⟨g, 2, none⟩ = false ∧ w.frozen? ⟨g, 3, none⟩ = false :=
  ⟨h.frozen 0, h.frozen 1, h.frozen 2, h.frozen 3⟩
end Go.Proofs.Ytpcdckhabaoieaa
