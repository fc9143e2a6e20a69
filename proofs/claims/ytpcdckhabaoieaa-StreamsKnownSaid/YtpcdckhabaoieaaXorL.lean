/-
  What streams.Xor computes, byte by byte: plain law, no program in sight.
-/
import Derived.Test.YtpcdckhabaoieaaStm1
namespace Go.Proofs.Ytpcdckhabaoieaa
open Sh
/-- byte i of the data with the key stream from f on -/
def xb (key : List Nat) (s c f : Nat) (d : List Nat) (i : Nat) : Nat := d.getD i 0 ^^^ (sbl key s c ((f + i) / 16)).getD ((f + i) % 16) 0
/-- the first k bytes done -/
def xmix (key : List Nat) (s c f : Nat) (d : List Nat) (k : Nat) : List Nat := (List.range d.length).map fun i => if i < k then xb key s c f d i else d.getD i 0
def kxor (key : List Nat) (s c f : Nat) (d : List Nat) : List Nat := (List.range d.length).map (xb key s c f d)
section
variable {key : List Nat} {s c f : Nat} {d : List Nat}
theorem xmix_len (k : Nat) : (xmix key s c f d k).length = d.length := by simp [xmix]
theorem kxor_len : (kxor key s c f d).length = d.length := by simp [kxor]
theorem xmix_get {k i : Nat} (hi : i < d.length) : (xmix key s c f d k).getD i 0 = if i < k then xb key s c f d i else d.getD i 0 := by
  simp [xmix, List.getD_eq_getElem?_getD, hi]
theorem xmix_zero : xmix key s c f d 0 = d := by
  apply List.ext_getElem (by simp [xmix])
  intro i h1 h2
  simp [xmix, List.getD_eq_getElem?_getD, h2]
theorem xmix_all {k : Nat} (h : d.length ≤ k) : xmix key s c f d k = kxor key s c f d := by
  apply List.map_congr_left
  intro i hi
  have := List.mem_range.1 hi
  simp [show i < k by omega]
theorem xmix_step {k : Nat} (hk : k < d.length) : (xmix key s c f d k).set k (xb key s c f d k) = xmix key s c f d (k + 1) := by
  apply List.ext_getElem (by simp [xmix])
  intro i h1 h2
  have hi : i < d.length := by simpa [xmix] using h2
  rw [List.getElem_set]
  by_cases e : k = i
  · subst e; simp [xmix]
  · simp only [xmix, List.getElem_map, List.getElem_range, if_neg e]
    by_cases hl : i < k
    · simp [hl, show i < k + 1 by omega]
    · simp [hl, show ¬ i < k + 1 by omega]
/-- done twice it is undone -/
theorem kxor_twice : kxor key s c f (kxor key s c f d) = d := by
  apply List.ext_getElem (by simp [kxor])
  intro i h1 h2
  simp [kxor, xb, List.getD_eq_getElem?_getD, h2, Nat.xor_assoc]
end
theorem sbl_byt (key : List Nat) (s c k : Nat) (hkb : Byt key) : Byt (sbl key s c k) := Ci.encS_byt (Ci.exL_byt hkb) (cbl_byt _ _ _) 10
theorem xb_byt {key : List Nat} {s c f : Nat} {d : List Nat} (hkb : Byt key) (hdb : Byt d) (i : Nat) : xb key s c f d i < 256 := Nat.xor_lt_two_pow (n := 8) (hdb.get i) ((sbl_byt key s c _ hkb).get _)
theorem kxor_byt {key : List Nat} {s c f : Nat} {d : List Nat} (hkb : Byt key) (hdb : Byt d) : Byt (kxor key s c f d) := Ci.byt_map fun i _ => xb_byt hkb hdb i
theorem xmix_byt {key : List Nat} {s c f : Nat} {d : List Nat} (hkb : Byt key) (hdb : Byt d) (k : Nat) : Byt (xmix key s c f d k) := Ci.byt_map fun i _ => by
  show (if i < k then _ else _) < 256
  split
  · exact xb_byt hkb hdb i
  · exact hdb.get i
end Go.Proofs.Ytpcdckhabaoieaa
