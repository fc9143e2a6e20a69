/-
  Words for the walks of NoncesSteps.
-/
import Derived.Test.YtaaldjmopifcjaaNRow
import Derived.Deep.RegionWith
import Derived.Deep.DeepCutAuto
namespace Go.Proofs.Ytaaldjmopifcjaa
open Go.RowKit Sh

theorem own_lt {w : World} {base : Nat} {e : TypeId} {size n cap g : Nat} {xs : List Value} (h : w.ownsRow base e size (.slice (some ⟨g, 0, none⟩) n cap) n xs) : g < w.heap.size := (h.lt g rfl).2
theorem own_num {w : World} {base : Nat} {e : TypeId} {n cap g : Nat} {k : IntKind} {l : List Nat} (h : w.ownsRow base e 1 (.slice (some ⟨g, 0, none⟩) n cap) n (nv k l)) {i : Nat} (hi : i < n) : w.cell? ⟨g, i, none⟩ = some (.int k ((l.getD i 0 : Nat) : Int)) := by
  have hl : l.length = n := by have := h.1; rw [nv_len] at this; omega
  rw [h.cellAt i (by omega), nv_get (by omega)]
theorem own_frozen {w : World} {base : Nat} {e : TypeId} {n cap g : Nat} {xs : List Value} (h : w.ownsRow base e 1 (.slice (some ⟨g, 0, none⟩) n cap) n xs) (i : Nat) : w.frozen? ⟨g, i, none⟩ = false := h.frozenAt i
theorem nv_set (k : IntKind) (l : List Nat) (i v : Nat) : (nv k l).set i (.int k (v : Int)) = nv k (l.set i v) := by simp [nv, List.map_set]
theorem nv_set_add (k : IntKind) (l : List Nat) (i v : Nat) : (nv k l).set i (.int k ((v : Int) + 1)) = nv k (l.set i (v + 1)) := nv_set k l i (v + 1)

theorem rowOf_lit (A : Option Addr) (n c m l r B : Nat) (cs : List Nat) (hn8 : n ≤ 20) (hcs : ∀ x ∈ cs, x < 18446744073709551616) (w : World) (hr : Reads w B 1 A n (nv .u64 cs)) (hB : B ≤ w.heap.size) :
    Calls Try.prog 18 #[.agg #[.slice A n c, .int .u64 (m : Int), .int .u64 (l : Int), .int .u64 (r : Int)]] w fun e w' => ∃ v, e = .returned v ∧ w'.ownsRow w.heap.size 5 1 v (12 * n) (nv .u8 (rowB cs)) ∧ Below w.heap.size w w' :=
  rowOf_any A n c m l r B cs hn8 hcs w hr hB
theorem own_string {w : World} {base n cap g : Nat} {l : List Nat} (h : w.ownsRow base 5 1 (.slice (some ⟨g, 0, none⟩) n cap) n (nv .u8 l)) : (convert 47 9 (.slice (some ⟨g, 0, none⟩) n cap)).run Try.prog w = .ok (.string (bst l)) w := by
  have hl : l.length = n := by have := h.1; rw [nv_len] at this; omega
  exact run_string_ad 47 9 Try.underlying47 Try.underlying9 ⟨g, 0, none⟩ n cap l hl (fun j v hv => h.cells rfl j v hv)
theorem own_drew {w : World} {base : Nat} {e : TypeId} {size n : Nat} {v : Value} {xs : List Value} (h : w.ownsRow base e size v n xs) : w.drew.ownsRow base e size v n xs := h
theorem reads_set_add {w : World} {base g n cap s v : Nat} {e : TypeId} {l : List Nat} (h : w.ownsRow base e 1 (.slice (some ⟨g, 0, none⟩) n cap) n ((nv .u64 l).set s (.int .u64 ((v : Int) + 1)))) : Reads w w.heap.size 1 (some ⟨g, 0, none⟩) n (nv .u64 (l.set s (v + 1))) := by
  have := Reads.of_own h
  rwa [nv_set_add] at this

theorem of_to (A : Option Addr) (n c mk rs rm M L R B N : Nat) (cs C : List Nat) (hM0 : ofM mk rs = M) (hL0 : ofL mk rs rm = L) (hR0 : ofR rs = R) (hC : ofC cs mk rs = C) (hN : C.length = N) (hN1 : 1 ≤ N) (hcs : ∀ x ∈ cs, x < 65536) (w : World) (hr : Reads w B 1 A n (nv .u16 cs)) (hB : B ≤ w.heap.size) :
    Calls Try.prog 17 #[.agg (daV A n c mk rs rm)] w fun e w' => ∃ g c', e = .returned (.agg (alV (some ⟨g, 0, none⟩) N c' M L R)) ∧ N ≤ c' ∧
      w'.ownsRow w.heap.size 23 1 (.slice (some ⟨g, 0, none⟩) N c') N (nv .u64 C) ∧ w.heap.size ≤ g ∧ g < w'.heap.size ∧ Below w.heap.size w w' := by
  refine (of_any08 A n c mk rs rm M L R B cs hM0 hL0 hR0 hcs w hr hB).mono ?_
  rintro e w' ⟨A', n', c', rfl, ho, b⟩
  rw [hC] at ho
  obtain rfl : n' = N := by have := ho.1; rw [nv_len] at this; omega
  obtain ⟨g, cap, e, hg, hl⟩ := ho.form (by omega)
  injection e with e1 _ e2
  subst e1 e2
  have hcap : n' ≤ c' := by
    rcases ho.2 with ⟨e3, _⟩ | ⟨_, _, _, e3, _, _, h4, _⟩
    · injection e3 with e4; cases e4
    · injection e3 with _ _ e4; omega
  exact ⟨g, c', rfl, hcap, ho, hg, hl, b⟩

/-- k numbers M, then the rest -/
def flst (C : List Nat) (M k : Nat) : List Nat := List.replicate k M ++ C.drop k
theorem flst_zero (C : List Nat) (M : Nat) : flst C M 0 = C := by simp [flst]
theorem flst_all (C : List Nat) (M : Nat) : flst C M C.length = List.replicate C.length M := by simp [flst]
theorem flst_set (C : List Nat) (M k : Nat) (hk : k < C.length) : (flst C M k).set k M = flst C M (k + 1) := by
  unfold flst
  have e : C.drop k = C[k] :: C.drop (k + 1) := List.drop_eq_getElem_cons hk
  rw [List.set_append_right _ _ (by simp), e, List.length_replicate, Nat.sub_self, List.set_cons_zero, List.replicate_succ', List.append_assoc]
  rfl

/-- the blocks of NoncesSteps in its loop -/
structure StpMem (G a5 b13 y16 g1 gY g4 : Nat) (A : Option Addr) (n c mk rs rm N c1 c4 M L R : Nat) (C D : List Nat) (w wr : World) : Prop where
  x : Blk wr G 45 (daV A n c mk rs rm)
  a : Blk wr a5 25 (alV (some ⟨g1, 0, none⟩) N c1 M L R)
  b : Blk wr b13 25 (alV (some ⟨g4, 0, none⟩) N c4 M L R)
  y : Blk wr y16 25 (alV (some ⟨gY, 0, none⟩) N N M L R)
  o1 : ∃ base, wr.ownsRow base 23 1 (.slice (some ⟨g1, 0, none⟩) N c1) N (nv .u64 C)
  gy : Blk wr gY 23 (va .u64 (List.replicate N M))
  o4 : ∃ base, wr.ownsRow base 23 1 (.slice (some ⟨g4, 0, none⟩) N c4) N (nv .u64 D)
  bel : Below G w wr
end Go.Proofs.Ytaaldjmopifcjaa
