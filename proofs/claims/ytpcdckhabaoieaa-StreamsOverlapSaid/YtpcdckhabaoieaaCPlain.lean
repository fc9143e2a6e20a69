/-
  Plain words for ciphers: blocks as lists of 16 bytes.
-/
import Derived.Test.YtpcdckhabaoieaaFTo
namespace Go.Proofs.Ytpcdckhabaoieaa.Ci

/-- a list whose first k elements are written anew -/
def upd (f : Nat → Nat) (b : List Nat) (k : Nat) : List Nat := (List.range b.length).map fun i => if i < k then f i else b.getD i 0
theorem upd_len (f : Nat → Nat) (b : List Nat) (k : Nat) : (upd f b k).length = b.length := by simp [upd]
theorem upd_get (f : Nat → Nat) (b : List Nat) (k i : Nat) (hi : i < b.length) : (upd f b k).getD i 0 = if i < k then f i else b.getD i 0 := by
  simp [upd, List.getD_eq_getElem?_getD, hi]
theorem upd_zero (f : Nat → Nat) (b : List Nat) : upd f b 0 = b := by
  apply List.ext_getElem
  · simp [upd]
  · intro i h1 h2
    simp [upd, List.getD_eq_getElem?_getD, h2]
theorem upd_set (f : Nat → Nat) (b : List Nat) (k : Nat) : (upd f b k).set k (f k) = upd f b (k + 1) := by
  apply List.ext_getElem
  · simp [upd]
  · intro i h1 h2
    have hi : i < b.length := by simpa [upd] using h2
    rw [List.getElem_set]
    by_cases e : k = i
    · subst e
      simp [upd]
    · rw [if_neg e]
      simp only [upd, List.getElem_map, List.getElem_range]
      by_cases h : i < k
      · rw [if_pos h, if_pos (by omega)]
      · rw [if_neg h, if_neg (by omega)]
theorem upd_all (f : Nat → Nat) (b : List Nat) (k : Nat) (hk : b.length ≤ k) : upd f b k = (List.range b.length).map f := by
  apply List.map_congr_left
  intro i hi
  rw [if_pos (by have := List.mem_range.1 hi; omega)]

/-- the steps of a round -/
def addK (b key : List Nat) : List Nat := (List.range 16).map fun i => b.getD i 0 ^^^ key.getD i 0
def each (s : Nat → Nat) (b : List Nat) : List Nat := (List.range 16).map fun i => s (b.getD i 0)
def rot (p : Nat) (b : List Nat) : List Nat := (List.range 16).map fun i => b.getD (4 * ((i / 4 + p * (i % 4)) % 4) + i % 4) 0
def mixS (f b : List Nat) (c r : Nat) : Nat → Nat
  | 0 => 0
  | j + 1 => mixS f b c r j ^^^ Gf.gm (f.getD j 0) (b.getD (4 * c + (r + j) % 4) 0)
def mix (f b : List Nat) : List Nat := (List.range 16).map fun i => mixS f b (i / 4) (i % 4) 4

def Byt (l : List Nat) : Prop := ∀ x ∈ l, x < 256
theorem Byt.get {l : List Nat} (h : Byt l) (i : Nat) : l.getD i 0 < 256 := by
  rw [List.getD_eq_getElem?_getD]
  rcases Nat.lt_or_ge i l.length with hi | hi
  · rw [List.getElem?_eq_getElem hi]; exact h _ (List.getElem_mem hi)
  · rw [List.getElem?_eq_none hi]; simp
theorem byt_map {f : Nat → Nat} {n : Nat} (h : ∀ i, i < n → f i < 256) : Byt ((List.range n).map f) := by
  intro x hx
  obtain ⟨i, hi, rfl⟩ := List.mem_map.1 hx
  exact h i (List.mem_range.1 hi)
theorem addK_byt {b k : List Nat} (hb : Byt b) (hk : Byt k) : Byt (addK b k) := byt_map fun i _ => Nat.xor_lt_two_pow (n := 8) (hb.get i) (hk.get i)
theorem rot_byt {p : Nat} {b : List Nat} (hb : Byt b) : Byt (rot p b) := byt_map fun i _ => hb.get _
theorem addK_len (b k : List Nat) : (addK b k).length = 16 := by simp [addK]
theorem each_len (s : Nat → Nat) (b : List Nat) : (each s b).length = 16 := by simp [each]
theorem rot_len (p : Nat) (b : List Nat) : (rot p b).length = 16 := by simp [rot]
theorem mix_len (f b : List Nat) : (mix f b).length = 16 := by simp [mix]
theorem mixS_lt (f b : List Nat) (hf : Byt f) (hb : Byt b) (c r : Nat) : ∀ j, mixS f b c r j < 256
  | 0 => by simp [mixS]
  | j + 1 => by
    unfold mixS
    exact Nat.xor_lt_two_pow (n := 8) (mixS_lt f b hf hb c r j) (Gf.gm_lt _ _ (hf.get j))
theorem mix_byt {f b : List Nat} (hf : Byt f) (hb : Byt b) : Byt (mix f b) := byt_map fun i _ => mixS_lt f b hf hb _ _ 4
end Go.Proofs.Ytpcdckhabaoieaa.Ci
