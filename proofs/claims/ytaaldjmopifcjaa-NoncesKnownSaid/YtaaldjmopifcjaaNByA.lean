/-
  Words for the walk of NoncesBytes.
-/
import Derived.Test.YtaaldjmopifcjaaNLives
import Derived.Test.YtaaldjmopifcjaaNStr
import Derived.Test.YtaaldjmopifcjaaHld
import Derived.Test.YtaaldjmopifcjaaNStepAux
namespace Go.Proofs.Ytaaldjmopifcjaa
open Go.RowKit Sh

/-- the blocks of NoncesBytes -/
structure NyMem (G B s1 c1 s2 c2 n : Nat) (A : Option Addr) (l : List Nat) (w wr : World) : Prop where
  a : Blk wr G 35 (noV s1 c1)
  b : Blk wr (G + 1) 35 (noV s2 c2)
  r : Reads wr B 1 A n (nv .u8 l)
  hB : B ≤ G
  bel : Below G w wr
theorem NyMem.below {G B s1 c1 s2 c2 n : Nat} {A : Option Addr} {l : List Nat} {w wr w2 : World} (h : NyMem G B s1 c1 s2 c2 n A l w wr) (c : Below wr.heap.size wr w2) : NyMem G B s1 c1 s2 c2 n A l w w2 := by
  have := h.a.lt
  have := h.hB
  exact ⟨h.a.below c h.a.lt, h.b.below c h.b.lt, h.r.below (c.mono (by omega)), h.hB, h.bel.trans (c.mono (by omega))⟩
theorem NyMem.drew_ {G B s1 c1 s2 c2 n : Nat} {A : Option Addr} {l : List Nat} {w wr : World} (h : NyMem G B s1 c1 s2 c2 n A l w wr) : NyMem G B s1 c1 s2 c2 n A l w wr.drew := ⟨h.a.drew, h.b.drew, h.r.drew, h.hB, below_drewN h.bel 1⟩
theorem nput_to (s c : Nat) (x : List Nat) (hx : noB s c = x) (hs : s < 4294967296) (w : World) :
    Calls Try.prog 19 #[.agg (noV s c)] w fun e w' => ∃ g, e = .returned (.slice (some ⟨g, 0, none⟩) 12 12) ∧ Blk w' g 5 (va .u8 x) ∧ w.heap.size ≤ g ∧ Below w.heap.size w w' := by
  rw [← hx]; exact nput_any s c hs w
theorem rnput_to (s c : Nat) (x : List Nat) (hx : noB s c = x) (hs : s < 4294967296) (hc : c < 18446744073709551616) (w : World) :
    Calls Try.prog 21 #[.agg (noV s c)] w fun e w' => ∃ g cap, e = .returned (.slice (some ⟨g, 0, none⟩) 12 cap) ∧ w'.ownsRow w.heap.size 5 1 (.slice (some ⟨g, 0, none⟩) 12 cap) 12 (nv .u8 x) ∧ Below w.heap.size w w' := by
  rw [← hx]
  refine (rnput_any s c hs hc w).mono ?_
  rintro e w' ⟨v, rfl, ho, b⟩
  obtain ⟨g, cap, rfl, _, _⟩ := ho.form (by omega)
  exact ⟨g, cap, rfl, ho, b⟩
theorem cmpN_neg (a b : Nat) : cmpN b a = -cmpN a b := by
  unfold cmpN
  rcases Nat.lt_trichotomy a b with h | h | h
  · rw [if_neg (by omega), if_pos h, if_pos h]; rfl
  · subst h; rw [if_neg (by omega), if_neg (by omega)]; rfl
  · rw [if_pos h, if_neg (by omega), if_pos h]
theorem cmpN_bd (a b : Nat) : -1 ≤ cmpN a b ∧ cmpN a b ≤ 1 := by
  unfold cmpN
  split
  · omega
  · split <;> omega
theorem ncompare_to (s1 c1 s2 c2 : Nat) (d : Int) (hd : cmpNo s1 c1 s2 c2 = d) (w : World) : Calls Try.prog 22 #[.agg (noV s1 c1), .agg (noV s2 c2)] w fun e w' => e = .returned (.int .i64 d) ∧ Below w.heap.size w w' := by
  rw [← hd]; exact ncompare_any s1 c1 s2 c2 w
theorem bst_gtr (x y : List Nat) (hl : x.length = y.length) (hx : Byt x) (hy : Byt y) (he : beV x = beV y → x = y) : (!decide (beV x < beV y) && !(bst x).toList == (bst y).toList) = decide (beV y < beV x) := by
  rcases Nat.lt_trichotomy (beV x) (beV y) with h | h | h
  · rw [decide_eq_true h, decide_eq_false (by omega)]; rfl
  · rw [he h]; simp
  · rw [decide_eq_false (by omega), decide_eq_true h, bst_ne x y hx hy (fun e => by rw [e] at h; omega)]; rfl
theorem eqNo (s c : Nat) (w : World) : (Op.equalIn 10000 35 (.agg (noV s c)) (.agg (noV s c))).run Try.prog w = .ok true w := by
  unfold noV
  go_simp
theorem str_of {w : World} {g : Nat} {x : List Nat} (h : Blk w g 5 (va .u8 x)) (hx : x.length = 12) : (convert 47 9 (.slice (some ⟨g, 0, none⟩) 12 12)).run Try.prog w = .ok (.string (bst x)) w :=
  run_string_ad 47 9 Try.underlying47 Try.underlying9 ⟨g, 0, none⟩ 12 12 x hx (fun j v hv => by
    have e := h.part 0 12 j v (by rw [List.drop_zero, List.take_of_length_le (by omega)]; exact hv)
    rw [add_none]; exact e)
theorem NyMem.alloc_ {G B s1 c1 s2 c2 n : Nat} {A : Option Addr} {l : List Nat} {w wr : World} {o : Obj} (h : NyMem G B s1 c1 s2 c2 n A l w wr) : NyMem G B s1 c1 s2 c2 n A l w (wr.alloc o) :=
  h.below ((Below.refl _ wr).alloc (Nat.le_refl _) o)
/-- behind the first Get -/
structure NzMem (G B s1 c1 s2 c2 n g K : Nat) (A : Option Addr) (l x : List Nat) (w wr : World) : Prop where
  y : NyMem G B s1 c1 s2 c2 n A l w wr
  xb : Blk wr g 5 (va .u8 x)
  xl : x.length = 12
  k : Blk wr K 35 (noV s1 c1)
theorem NzMem.below {G B s1 c1 s2 c2 n g K : Nat} {A : Option Addr} {l x : List Nat} {w wr w2 : World} (h : NzMem G B s1 c1 s2 c2 n g K A l x w wr) (c : Below wr.heap.size wr w2) : NzMem G B s1 c1 s2 c2 n g K A l x w w2 :=
  ⟨h.y.below c, h.xb.below c h.xb.lt, h.xl, h.k.below c h.k.lt⟩
theorem NzMem.drew_ {G B s1 c1 s2 c2 n g K : Nat} {A : Option Addr} {l x : List Nat} {w wr : World} (h : NzMem G B s1 c1 s2 c2 n g K A l x w wr) : NzMem G B s1 c1 s2 c2 n g K A l x w wr.drew := ⟨h.y.drew_, h.xb.drew, h.xl, h.k.drew⟩
theorem NzMem.str {G B s1 c1 s2 c2 n g K : Nat} {A : Option Addr} {l x : List Nat} {w wr : World} (h : NzMem G B s1 c1 s2 c2 n g K A l x w wr) : (convert 47 9 (.slice (some ⟨g, 0, none⟩) 12 12)).run Try.prog wr = .ok (.string (bst x)) wr := str_of h.xb h.xl
/-- behind the second Get -/
structure NwMem (G B n J zs zc : Nat) (A : Option Addr) (l : List Nat) (w wr : World) : Prop where
  r : Reads wr B 1 A n (nv .u8 l)
  hB : B ≤ G
  j : Blk wr J 35 (noV zs zc)
  jG : G ≤ J
  bel : Below G w wr
theorem NwMem.below {G B n J zs zc : Nat} {A : Option Addr} {l : List Nat} {w wr w2 : World} (h : NwMem G B n J zs zc A l w wr) (c : Below wr.heap.size wr w2) : NwMem G B n J zs zc A l w w2 := by
  have := h.j.lt
  have := h.hB
  have := h.jG
  exact ⟨h.r.below (c.mono (by omega)), h.hB, h.j.below c h.j.lt, h.jG, h.bel.trans (c.mono (by omega))⟩
theorem NwMem.drew_ {G B n J zs zc : Nat} {A : Option Addr} {l : List Nat} {w wr : World} (h : NwMem G B n J zs zc A l w wr) : NwMem G B n J zs zc A l w wr.drew := ⟨h.r.drew, h.hB, h.j.drew, h.jG, below_drewN h.bel 1⟩
theorem NwMem.str {G B J zs zc cp : Nat} {ad : Addr} {l : List Nat} {w wr : World} (h : NwMem G B 12 J zs zc (some ad) l w wr) (hl : l.length = 12) : (convert 47 9 (.slice (some ad) 12 cp)).run Try.prog wr = .ok (.string (bst l)) wr :=
  run_string_ad 47 9 Try.underlying47 Try.underlying9 ad 12 cp l hl (fun j v hv => by
    obtain ⟨_, e, _, hc⟩ := h.r.2 (by omega)
    injection e with e
    subst e
    exact hc j v hv)
end Go.Proofs.Ytaaldjmopifcjaa
