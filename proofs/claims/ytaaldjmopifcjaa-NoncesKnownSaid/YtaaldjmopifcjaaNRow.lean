/-
  The walk of rowOf (caissonlaw08).
-/
import Derived.Test.YtaaldjmopifcjaaNOf
import Derived.Test.YtaaldjmopifcjaaNStr
namespace Go.Proofs.Ytaaldjmopifcjaa
open Go.RowKit Sh

def rowB (cs : List Nat) : List Nat := (cs.map (noB 0)).flatten
def rowK (cs : List Nat) (k : Nat) : List Nat := rowB (cs.take k)
theorem rowK_succ (cs : List Nat) (k : Nat) (hk : k < cs.length) : rowK cs (k + 1) = rowK cs k ++ noB 0 (cs.getD k 0) := by
  have e : cs.getD k 0 = cs[k] := by simp [List.getD_eq_getElem?_getD, hk]
  unfold rowK rowB
  rw [List.take_succ_eq_append_getElem hk, List.map_append, List.flatten_append, e]
  simp
theorem own_below {w w' : World} {base B : Nat} {e : TypeId} {size n : Nat} {v : Value} {xs : List Value} (h : w.ownsRow base e size v n xs) (b : Below B w w') (hB : w.heap.size ≤ B) : w'.ownsRow base e size v n xs :=
  h.kept (row := none) ⟨b.os, b.tape, b.output, b.size, fun k hk _ => b.block k (by omega)⟩ (by cases v.ownBlock <;> simp)

/-- the blocks of rowOf -/
structure RoMem (G : Nat) (A : Option Addr) (n c m l r : Nat) (v : Value) (k : Nat) (xs : List Nat) (w wr : World) : Prop where
  a : Blk wr G 25 (alV A n c m l r)
  o : wr.ownsRow G 5 1 v k (nv .u8 xs)
  bel : Below G w wr

set_option maxHeartbeats 2000000 in
theorem rowOf_any (A : Option Addr) (n c m l r B : Nat) (cs : List Nat) (hn8 : n ≤ 20) (hcs : ∀ x ∈ cs, x < 18446744073709551616) (w : World) (hr : Reads w B 1 A n (nv .u64 cs)) (hB : B ≤ w.heap.size) :
    Calls Try.prog 18 #[.agg (alV A n c m l r)] w fun e w' => ∃ v, e = .returned v ∧ w'.ownsRow w.heap.size 5 1 v (12 * n) (nv .u8 (rowB cs)) ∧ Below w.heap.size w w' := by
  obtain ⟨i0, hi0, hz0, hz1, hz2⟩ := info_parts byte_info
  have hlen := Lib.hid hr.len
  have h0 := Lib.hid hr
  have hcs' := Lib.hid hcs
  have hm : RoMem w.heap.size A n c m l r (.slice none 0 0) (12 * 0) (rowK cs 0) w (w.alloc (.cells (alV A n c m l r) 25)) :=
    ⟨Blk.new _ _ _, World.ownsRow_nil _ _ _ _, (Below.refl _ _).alloc (Nat.le_refl _) _⟩
  have hmm := Lib.hid hm
  clear hr hcs hm
  unfold alV
  go_enter Try.func18, Try.ntmps18
  go_wp2
  have hmm2 : ∃ w1, RoMem w.heap.size A n c m l r (.slice none 0 0) (12 * 0) (rowK cs 0) w w1 ∧ w1 = w.alloc (.cells #[.slice A n c, .int .u64 (m : Int), .int .u64 (l : Int), .int .u64 (r : Int)] 25) := ⟨_, hmm.out, rfl⟩
  obtain ⟨w1, hm1, hw1⟩ := hmm2
  rw [← hw1]
  clear hw1 hmm
  have hmm := Lib.hid hm1
  clear hm1
  go_loopw [3, 4] (fun v s wr => ∃ k : Nat, k ≤ n ∧ s = .int .i64 (k : Int) ∧ RoMem w.heap.size A n c m l r v (12 * k) (rowK cs k) w wr) (fun _ s _ => n - (intOf s).toNat)
  case atStart => exact ⟨0, by omega, rfl, hmm.out⟩
  case round =>
    clear hmm
    obtain ⟨k, hkn, rfl, hmem⟩ := hrel
    have hmm := Lib.hid hmem
    obtain ⟨a0, a1, a2, a3⟩ := alV_cells hmem.a
    by_cases hlt : k < n
    · have hltI : (k : Int) < (n : Int) := by omega
      obtain ⟨ad, rfl, hadB, hcx⟩ := (h0.out.below (hmem.bel.mono hB)).num hlt
      have hst := Lib.hid (rowK_succ cs k (by have := hlen.out; omega))
      have hx : cs.getD k 0 < 18446744073709551616 := by
        have : k < cs.length := by have := hlen.out; omega
        rw [List.getD_eq_getElem?_getD, List.getElem?_eq_getElem this]
        exact hcs'.out _ (List.getElem_mem this)
      have hxh := Lib.hid hx
      clear hx
      generalize cs.getD k 0 = x at *
      clear hmem
      go_wp2_with fail
      refine (rnput_any 0 x (by omega) hxh.out _).mono ?_
      rintro e w2 ⟨v2, rfl, ho2, b2⟩
      obtain ⟨g2, c2, rfl, hg2, hlt2⟩ := ho2.form (by omega)
      have hown := Lib.hid (own_below hmm.out.o b2 (Nat.le_refl _))
      have hrd := Lib.hid (Reads.of_own ho2)
      have hA := Lib.hid (hmm.out.a.below b2 hmm.out.a.lt)
      have hW := Lib.hid (hmm.out.bel.trans (b2.mono hmm.out.bel.size))
      clear ho2 b2 hcx a0 a1 a2 a3
      go_wp2_with (
        refine wpList_append_any _ rfl (.tmp 12) (.tmp 19) 47 rfl w.heap.size 5 i0 (.int .u8 0) 1 1 Try.underlying47 hi0 hz0 hz1 hz2 rfl (by omega) u3 (12 * k) (nv .u8 (rowK cs k)) rfl ?q1 w2.heap.size (some ⟨g2, 0, none⟩) 12 c2 (nv .u8 (beB 0 4 ++ beB x 8)) rfl ?q2 (nv_one _ _) ?q3 ?q4 ?q5 ?_
        case q1 => exact hown.out
        case q2 => exact hrd.out
        case q3 => have : maxLen = 9223372036854775807 := rfl; omega
        case q4 => omega
        case q5 => exact hW.out.size
        intro v' w' ho hgr hor
        have hbA := Lib.hid (Blk.grown hA.out hgr (fun e => own_blk_ne hown.out hA.out (by decide) e.symm))
        have hbel := Lib.hid (hW.out.grown hgr hW.out.size (fun k hk => (hown.out.lt k hk).1))
        have ho' := Lib.hid ho
        clear ho hgr hor)
      go_roundw
      case rel =>
        have ho2 := ho'.out
        rw [nv_app] at ho2
        refine ⟨k + 1, by omega, by go_num, ⟨hbA.out, ?_, hbel.out⟩⟩
        rw [hst.out]
        exact ho2
      case measure => simp [intOf]; omega
    · obtain rfl : n = k := by omega
      have hall : rowK cs n = rowB cs := by unfold rowK; rw [List.take_of_length_le (by have := hlen.out; omega)]
      rw [hall] at hmem
      have hmm2 := Lib.hid hmem
      clear hmem hmm hall
      go_wp2
      go_ret
      exact ⟨u3, rfl, hmm2.out.o, hmm2.out.bel⟩
end Go.Proofs.Ytaaldjmopifcjaa
