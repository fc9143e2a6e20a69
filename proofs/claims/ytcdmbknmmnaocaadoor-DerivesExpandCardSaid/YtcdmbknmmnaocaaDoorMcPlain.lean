/-
  Plain HMAC-SHA-256: key blocks, tags, exclusive or. No program here.
-/
import Derived.Test.YtcdmbknmmnaocaaDoorShPlain
namespace Go.Proofs.YtcdmbknmmnaocaaDoor.Sh

theorem sha_len' (l : List Nat) : (sha l).length = 32 := flat_len _

/-- the exclusive or of l and m, done for the first i bytes, zeros behind -/
def xorl (l m : List Nat) (n i : Nat) : List Nat := (List.range n).map fun j => if j < i then l.getD j 0 ^^^ m.getD j 0 else 0
theorem xorl_len (l m : List Nat) (n i : Nat) : (xorl l m n i).length = n := by simp [xorl]
theorem xorl_zero (l m : List Nat) (n : Nat) : xorl l m n 0 = List.replicate n 0 := by
  apply ext_getD (by simp [xorl])
  intro j hj
  rw [xorl_len] at hj
  rw [xorl, getD_map_range _ _ _ hj]; simp [List.getD_eq_getElem?_getD, hj]
theorem xorl_step (l m : List Nat) (n i : Nat) (hi : i < n) : (xorl l m n i).set i (l.getD i 0 ^^^ m.getD i 0) = xorl l m n (i + 1) := by
  apply ext_getD (by rw [List.length_set, xorl_len, xorl_len])
  intro j hj
  rw [List.length_set, xorl_len] at hj
  by_cases e : i = j
  · subst e
    rw [getD_set_eq (by rw [xorl_len]; exact hi), xorl, getD_map_range _ _ _ hj, if_pos (by omega)]
  · rw [getD_set_ne e, xorl, getD_map_range _ _ _ hj, xorl, getD_map_range _ _ _ hj]
    by_cases h : j < i
    · rw [if_pos h, if_pos (by omega)]
    · rw [if_neg h, if_neg (by omega)]
theorem xor256 {a b : Nat} (ha : a < 256) (hb : b < 256) : a ^^^ b < 256 := Nat.xor_lt_two_pow (n := 8) ha hb
def xorB (l m : List Nat) : List Nat := xorl l m l.length l.length
theorem xorB_len (l m : List Nat) : (xorB l m).length = l.length := xorl_len _ _ _ _
theorem xorB_byt (l m : List Nat) (hl : Byt l) (hm : Byt m) : Byt (xorB l m) := fun x hx => by
  obtain ⟨j, _, rfl⟩ := List.mem_map.1 hx
  split
  · exact xor256 (hl.get j) (hm.get j)
  · omega
theorem xorB_get (l m : List Nat) (i : Nat) (hi : i < l.length) : (xorB l m).getD i 0 = l.getD i 0 ^^^ m.getD i 0 := by
  rw [xorB, xorl, getD_map_range _ _ _ hi, if_pos hi]

/-- what a key counts as -/
def kc (key : List Nat) : List Nat := if 64 < key.length then sha key else key
/-- the key block -/
def kb (key : List Nat) : List Nat := kc key ++ List.replicate (64 - (kc key).length) 0
theorem kc_le (key : List Nat) : (kc key).length ≤ 64 := by
  unfold kc; split
  · rw [sha_len']; omega
  · omega
theorem kc_byt (key : List Nat) (h : Byt key) : Byt (kc key) := by
  unfold kc; split
  · exact sha_byt _
  · exact h
theorem kb_len (key : List Nat) : (kb key).length = 64 := by
  have := kc_le key
  simp [kb]; omega
theorem kb_byt (key : List Nat) (h : Byt key) : Byt (kb key) := (kc_byt key h).app (Byt.rep _ _ (by omega))
def kx (key : List Nat) (c : Nat) : List Nat := xorB (kb key) (List.replicate 64 c)
theorem kx_len (key : List Nat) (c : Nat) : (kx key c).length = 64 := by rw [kx, xorB_len, kb_len]
theorem kx_byt (key : List Nat) (c : Nat) (h : Byt key) (hc : c < 256) : Byt (kx key c) := xorB_byt _ _ (kb_byt key h) (Byt.rep _ _ hc)
theorem kx_get (key : List Nat) (c i : Nat) (hi : i < 64) : (kx key c).getD i 0 = (kb key).getD i 0 ^^^ c := by
  rw [kx, xorB_get _ _ _ (by rw [kb_len]; exact hi)]
  congr 1
  rw [List.getD_eq_getElem?_getD, List.getElem?_replicate, if_pos hi]; rfl
/-- the tag -/
def hm (key m : List Nat) : List Nat := sha (kx key 92 ++ sha (kx key 54 ++ m))
theorem hm_len (key m : List Nat) : (hm key m).length = 32 := sha_len' _
theorem hm_byt (key m : List Nat) : Byt (hm key m) := sha_byt _
/-- a key and its key block make the same tags -/
theorem kb_kb (key : List Nat) : kb (kb key) = kb key := by
  have h := kb_len key
  generalize kb key = x at *
  have e : kc x = x := by unfold kc; rw [if_neg (by omega)]
  unfold kb
  rw [e, h]; simp
theorem hm_kb (key m : List Nat) : hm (kb key) m = hm key m := by simp [hm, kx, kb_kb]
theorem kb_zeros (key : List Nat) (n : Nat) (h : key.length + n ≤ 64) : kb (key ++ List.replicate n 0) = kb key := by
  unfold kb kc
  rw [if_neg (by simp; omega), if_neg (by omega), List.append_assoc, List.replicate_append_replicate]
  simp
  congr 1; omega
theorem hm_zeros (key m : List Nat) (n : Nat) (h : key.length + n ≤ 64) : hm (key ++ List.replicate n 0) m = hm key m := by simp [hm, kx, kb_zeros key n h]
end Go.Proofs.YtcdmbknmmnaocaaDoor.Sh
