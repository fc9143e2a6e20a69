/-
  The expanded key, plainly.
-/
import Derived.Test.YtpcdckhabaoieaaCLaw2
namespace Go.Proofs.Ytpcdckhabaoieaa.Ci

def tw (b : List Nat) (K j : Nat) : Nat := Gf.sub (b.getD (12 + (j + 1) % 4) 0) ^^^ (if j = 0 then Gf.pw 2 K else 0)
def col (b : List Nat) (K j : Nat) : Nat → Nat
  | 0 => tw b K j ^^^ b.getD j 0
  | q + 1 => col b K j q ^^^ b.getD (4 * (q + 1) + j) 0
def rowE (key : List Nat) : Nat → List Nat
  | 0 => key
  | K + 1 => (List.range 16).map fun i => col (rowE key K) K (i % 4) (i / 4)
def exF (key : List Nat) (n : Nat) : Nat := (rowE key (n / 16)).getD (n % 16) 0
def exL (key : List Nat) : List Nat := (List.range 176).map (exF key)
/-- the word after i steps -/
def wd (b : List Nat) (K i : Nat) : List Nat := (List.range 4).map fun j => match (i + 3 - j) / 4 with
  | 0 => tw b K j
  | q + 1 => col b K j q
theorem wd_step (b : List Nat) (K : Nat) : ∀ i, i < 16 → (wd b K i).set (i % 4) (col b K (i % 4) (i / 4)) = wd b K (i + 1) ∧ (wd b K i).getD (i % 4) 0 ^^^ b.getD i 0 = col b K (i % 4) (i / 4)
  | 0, _ => ⟨rfl, rfl⟩
  | 1, _ => ⟨rfl, rfl⟩
  | 2, _ => ⟨rfl, rfl⟩
  | 3, _ => ⟨rfl, rfl⟩
  | 4, _ => ⟨rfl, rfl⟩
  | 5, _ => ⟨rfl, rfl⟩
  | 6, _ => ⟨rfl, rfl⟩
  | 7, _ => ⟨rfl, rfl⟩
  | 8, _ => ⟨rfl, rfl⟩
  | 9, _ => ⟨rfl, rfl⟩
  | 10, _ => ⟨rfl, rfl⟩
  | 11, _ => ⟨rfl, rfl⟩
  | 12, _ => ⟨rfl, rfl⟩
  | 13, _ => ⟨rfl, rfl⟩
  | 14, _ => ⟨rfl, rfl⟩
  | 15, _ => ⟨rfl, rfl⟩
  | n + 16, h => by omega
theorem wd_zero (b : List Nat) (K : Nat) : wd b K 0 = [Gf.sub (b.getD 13 0) ^^^ Gf.pw 2 K, Gf.sub (b.getD 14 0), Gf.sub (b.getD 15 0), Gf.sub (b.getD 12 0)] := by
  show [_, Gf.sub (b.getD 14 0) ^^^ 0, Gf.sub (b.getD 15 0) ^^^ 0, Gf.sub (b.getD 12 0) ^^^ 0] = _
  simp only [Nat.xor_zero]
  rfl
theorem wd_len (b : List Nat) (K i : Nat) : (wd b K i).length = 4 := by simp [wd]
theorem tw_lt (b : List Nat) (K j : Nat) : tw b K j < 256 := by
  unfold tw
  refine Nat.xor_lt_two_pow (n := 8) (Gf.sub_lt _) ?_
  split
  · exact Gf.pw_lt 2 K (by omega)
  · omega
theorem col_lt {b : List Nat} (hb : Byt b) (K j : Nat) : ∀ q, col b K j q < 256
  | 0 => Nat.xor_lt_two_pow (n := 8) (tw_lt b K j) (hb.get _)
  | q + 1 => Nat.xor_lt_two_pow (n := 8) (col_lt hb K j q) (hb.get _)
theorem wd_byt {b : List Nat} (hb : Byt b) (K i : Nat) : Byt (wd b K i) := byt_map fun j _ => by
  split
  · exact tw_lt b K j
  · exact col_lt hb K j _
theorem rowE_len {key : List Nat} (h : key.length = 16) : ∀ K, (rowE key K).length = 16
  | 0 => h
  | _ + 1 => by simp [rowE]
theorem rowE_byt {key : List Nat} (h : Byt key) : ∀ K, Byt (rowE key K)
  | 0 => h
  | K + 1 => byt_map fun _ _ => col_lt (rowE_byt h K) _ _ _
theorem exF_row (key : List Nat) (K i : Nat) (hi : i < 16) : exF key (16 * K + i) = (rowE key K).getD i 0 := by
  unfold exF
  rw [show (16 * K + i) / 16 = K from by omega, show (16 * K + i) % 16 = i from by omega]
theorem exF_next (key : List Nat) (K i : Nat) (hi : i < 16) : exF key (16 * (K + 1) + i) = col (rowE key K) K (i % 4) (i / 4) := by
  rw [exF_row key (K + 1) i hi]
  simp [rowE, List.getD_eq_getElem?_getD, hi]
theorem exL_len (key : List Nat) : (exL key).length = 176 := by simp [exL]
theorem exF_lt {key : List Nat} (h : Byt key) (n : Nat) : exF key n < 256 := (rowE_byt h _).get _
theorem exL_byt {key : List Nat} (h : Byt key) : Byt (exL key) := byt_map fun n _ => exF_lt h n
/-- a row of what is written -/
theorem upd_row (key z : List Nat) (hz : z.length = 176) (hk : key.length = 16) (K n : Nat) (hn : 16 * (K + 1) ≤ n) (hn2 : n ≤ 176) : ((upd (exF key) z n).drop (K * 16)).take 16 = rowE key K := by
  apply List.ext_getElem
  · simp [upd_len, hz, rowE_len hk]; omega
  · intro i h1 h2
    have hi : i < 16 := by rw [rowE_len hk] at h2; exact h2
    have e := upd_get (exF key) z n (K * 16 + i) (by omega)
    rw [if_pos (by omega), show K * 16 + i = 16 * K + i from by omega, exF_row key K i hi] at e
    rw [List.getElem_take, List.getElem_drop]
    have h3 : K * 16 + i < (upd (exF key) z n).length := by rw [upd_len]; omega
    simp only [List.getD_eq_getElem?_getD, List.getElem?_eq_getElem h2] at e
    rw [show 16 * K + i = K * 16 + i from by omega, List.getElem?_eq_getElem h3] at e
    simpa using e
theorem upd_first (key z : List Nat) (hz : z.length = 176) (hk : key.length = 16) : key ++ z.drop 16 = upd (exF key) z 16 := by
  apply List.ext_getElem
  · simp [upd_len, hz, hk]
  · intro i h1 h2
    have hi : i < 176 := by rw [upd_len] at h2; omega
    simp only [upd, List.getElem_map, List.getElem_range]
    rw [List.getElem_append]
    split
    · rename_i h
      rw [if_pos (by omega)]
      have e := exF_row key 0 i (by omega)
      simp only [Nat.mul_zero, Nat.zero_add] at e
      rw [e]
      show _ = key.getD i 0
      simp [List.getD_eq_getElem?_getD, h]
    · rename_i h
      rw [if_neg (by omega)]
      rw [List.getElem_drop]
      simp [List.getD_eq_getElem?_getD, hk, show 16 + (i - 16) = i from by omega, show i < z.length from by omega]
theorem exL_all (key z : List Nat) (hz : z.length = 176) : upd (exF key) z 176 = exL key := by
  rw [upd_all _ _ _ (by omega), hz]; rfl
end Go.Proofs.Ytpcdckhabaoieaa.Ci
