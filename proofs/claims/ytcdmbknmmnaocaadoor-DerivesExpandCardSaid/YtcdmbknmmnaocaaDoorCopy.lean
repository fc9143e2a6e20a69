/-
  Copies of bytes; a block as an own row.
-/
import Derived.Test.YtcdmbknmmnaocaaDoorParts
import Derived.Test.YtcdmbknmmnaocaaDoorStep
import Derived.Test.YtcdmbknmmnaocaaDoorHw
namespace Go.Proofs.YtcdmbknmmnaocaaDoor
open Go.RowKit Sh

/-- copy of bytes, wherever they lie, into a block -/
theorem copy_reads {w : World} (dT sT ty : TypeId) (hu : Tryd.prog.underlying dT = some (.slice 5)) (g o dLen dCap : Nat) (T : TypeId) (cur : List Nat) (hg : Blk w g T (va .u8 cur)) (A : Option Addr) (n c B : Nat) (m : List Nat) (hr : Reads w B 1 A n (nv .u8 m))
    (hd : n ≤ dLen) (hfit : o + n ≤ cur.length) :
    ∃ w', (Builtin.copy_ #[dT, sT] ty #[.slice (some ⟨g, o, none⟩) dLen dCap, .slice A n c]).run Tryd.prog w = .ok (.int .i64 (n : Int)) w' ∧ Blk w' g T (va .u8 (cur.take o ++ (m ++ cur.drop (o + n)))) ∧ Below g w w' := by
  have hl := hr.len
  have hsz : (Tryd.prog.info? 5).map (·.size) = some 1 := by kernel_rfl
  rcases A with _ | ad
  · have hn : n = 0 := by
      rcases Nat.eq_zero_or_pos n with h0 | h0
      · exact h0
      · obtain ⟨ad, h, _⟩ := hr.2 h0
        cases h
    subst hn
    obtain rfl := List.eq_nil_of_length_eq_zero hl
    refine ⟨w, ?_, ?_, Below.refl _ _⟩
    · cases hq : Tryd.prog.info? 5 with
      | none => simp [hq] at hsz
      | some i =>
        have hi : i.size = 1 := by simpa [hq] using hsz
        simp [Builtin.copy_, run_underlying hu, Builtin.lenOf, Builtin.firstCells, sizeOf, typeInfo, hq, hi, storeCells, goInt]
    · have e : cur.take o ++ ([] ++ cur.drop (o + 0)) = cur := by simp
      rw [e]; exact hg
  · have hcp := run_copy_row (P := Tryd.prog) w dT sT ty 5 g o dLen dCap ad n c (va .u8 cur) T (nv .u8 m) hu hsz hg
      (by rw [nv_len, hl]; exact (Nat.min_eq_left hd).symm)
      (fun j v hv => by
        rcases Nat.eq_zero_or_pos n with h0 | h0
        · rw [List.eq_nil_of_length_eq_zero (hl.trans h0)] at hv; simp [nv] at hv
        · obtain ⟨ad', h, _, hc⟩ := hr.2 h0
          injection h with h
          subst h
          exact hc j v hv)
      (by rw [nv_len, va_size, hl]; exact hfit) (nv_one _ _)
    rw [va_splice, nv_len, hl] at hcp
    exact ⟨_, hcp, hg.row _, below_setRow (Below.refl _ _) (Nat.le_refl _) _⟩

/-- the same, the world behind it told -/
theorem copy_row {w : World} (dT sT ty : TypeId) (hu : Tryd.prog.underlying dT = some (.slice 5)) (g o dLen dCap : Nat) (T : TypeId) (cur : List Nat) (hg : Blk w g T (va .u8 cur)) (A : Option Addr) (n c B : Nat) (m : List Nat) (hr : Reads w B 1 A n (nv .u8 m))
    (hd : n ≤ dLen) (hfit : o + n ≤ cur.length) (new : List Nat) (hnew : cur.take o ++ (m ++ cur.drop (o + n)) = new) :
    (Builtin.copy_ #[dT, sT] ty #[.slice (some ⟨g, o, none⟩) dLen dCap, .slice A n c]).run Tryd.prog w = .ok (.int .i64 (n : Int)) (w.setRow g (va .u8 new)) := by
  subst hnew
  have hl := hr.len
  have hsz : (Tryd.prog.info? 5).map (·.size) = some 1 := by kernel_rfl
  rcases A with _ | ad
  · have hn : n = 0 := by
      rcases Nat.eq_zero_or_pos n with h0 | h0
      · exact h0
      · obtain ⟨ad, h, _⟩ := hr.2 h0
        cases h
    subst hn
    obtain rfl := List.eq_nil_of_length_eq_zero hl
    have e : cur.take o ++ ([] ++ cur.drop (o + 0)) = cur := by simp
    rw [e, setRow_self hg]
    cases hq : Tryd.prog.info? 5 with
    | none => simp [hq] at hsz
    | some i =>
      have hi : i.size = 1 := by simpa [hq] using hsz
      simp [Builtin.copy_, run_underlying hu, Builtin.lenOf, Builtin.firstCells, sizeOf, typeInfo, hq, hi, storeCells, goInt]
  · have hcp := run_copy_row (P := Tryd.prog) w dT sT ty 5 g o dLen dCap ad n c (va .u8 cur) T (nv .u8 m) hu hsz hg
      (by rw [nv_len, hl]; exact (Nat.min_eq_left hd).symm)
      (fun j v hv => by
        rcases Nat.eq_zero_or_pos n with h0 | h0
        · rw [List.eq_nil_of_length_eq_zero (hl.trans h0)] at hv; simp [nv] at hv
        · obtain ⟨ad', h, _, hc⟩ := hr.2 h0
          injection h with h
          subst h
          exact hc j v hv)
      (by rw [nv_len, va_size, hl]; exact hfit) (nv_one _ _)
    rw [va_splice, nv_len, hl] at hcp
    rw [hcp]; rfl
theorem Blk.own {w : World} {g n base : Nat} {t : TypeId} {k : IntKind} {l : List Nat} (h : Blk w g t (va k l)) (hn : l.length = n) (hb : base ≤ g) (hm : n ≤ maxLen) : w.ownsRow base t 1 (.slice (some ⟨g, 0, none⟩) n n) n (nv k l) := by
  subst hn
  exact ⟨by rw [nv_len]; omega, .inr ⟨g, l.length, va k l, rfl, hb, h, Nat.le_refl _, hm, by rw [va_size]; omega, by
    rw [Nat.mul_one, List.take_of_length_le (by simp [va, nv])]; simp [va]⟩⟩
end Go.Proofs.YtcdmbknmmnaocaaDoor
