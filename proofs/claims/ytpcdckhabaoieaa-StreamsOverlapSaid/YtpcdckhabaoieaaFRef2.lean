/-
  Walks through package caissonref05: Inverse, Substitute, Sub.
-/
import Derived.Test.YtpcdckhabaoieaaFRef
namespace Go.Proofs.Ytpcdckhabaoieaa
open Go.RowKit

/-- the reference's Mul, at given bytes -/
theorem rmul_at (a b : Int) (c : Nat) (a0 : 0 ≤ a) (a1 : a ≤ 255) (b0 : 0 ≤ b) (b1 : b ≤ 255) (hc : Gf.gm a.toNat b.toNat = c) (w : World) :
    Calls Try.prog 46 #[.int .u8 a, .int .u8 b] w fun e w' => e = .returned (.int .u8 (c : Int)) ∧ Below w.heap.size w w' := by
  obtain ⟨x, rfl⟩ := Int.eq_ofNat_of_zero_le a0
  obtain ⟨y, rfl⟩ := Int.eq_ofNat_of_zero_le b0
  rw [← hc]
  exact rmul_any x y (by omega) (by omega) w




/-! the reference's Substitute -/
def sbSum (x i : Nat) : Nat → Nat
  | 0 => 99 / 2 ^ i
  | k + 1 => sbSum x i k + x / 2 ^ ((i + (4 + k)) % 8)
def sbOut (x : Nat) : Nat → Nat
  | 0 => 0
  | j + 1 => 2 * sbOut x j + sbSum x (7 - j) 5 % 2
theorem sb_eq : ∀ x, x < 256 → sbOut x 8 = Gf.aff x := by decide +kernel
theorem sbSum_lt (x i k : Nat) (hx : x < 256) : sbSum x i k ≤ 99 + 256 * k := by
  induction k with
  | zero => simp only [sbSum]; have := Nat.div_le_self 99 (2 ^ i); omega
  | succ k ih => simp only [sbSum]; have := Nat.div_le_self x (2 ^ ((i + (4 + k)) % 8)); omega
theorem sbOut_lt (x j : Nat) : sbOut x j < 2 ^ j := by
  induction j with
  | zero => simp [sbOut]
  | succ j ih => simp only [sbOut]; rw [Nat.pow_succ]; omega

set_option maxHeartbeats 400000 in
theorem subst_any (x : Nat) (hx : x < 256) (w : World) :
    Calls Try.prog 48 #[.int .u8 (x : Int)] w fun e w' => e = .returned (.int .u8 (Gf.aff x : Nat)) ∧ w = w' := by
  go_enter Try.func48, Try.ntmps48
  go_wp2
  go_loop [3, 4] (fun o s => ∃ j : Nat, j ≤ 8 ∧ s = .int .i64 (7 - (j : Int)) ∧ o = .int .i64 (sbOut x j : Nat)) (fun _ s => (intOf s + 1).toNat)
  case atStart => exact ⟨0, by omega, rfl, rfl⟩
  case round =>
    obtain ⟨j, hj, rfl, rfl⟩ := hrel
    have ho := sbOut_lt x j
    have ho2 : sbOut x j < 256 := by
      have := Nat.pow_le_pow_right (n := 2) (by omega) hj; omega
    by_cases hlt : j < 8
    · have hlt' : (j : Int) < 8 := by omega
      go_wp2
      go_loop [5, 6] (fun t s => ∃ k : Nat, k ≤ 5 ∧ s = .int .i64 (4 + (k : Int)) ∧ t = .int .i64 (sbSum x (7 - j) k : Nat)) (fun _ s => 9 - (intOf s).toNat)
      case atStart => exact ⟨0, by omega, rfl, by simp only [sbSum]; rw [Int.natCast_ediv, Int.natCast_pow]; rfl⟩
      case round =>
        obtain ⟨k, hk, rfl, rfl⟩ := hrel
        have hs := sbSum_lt x (7 - j) k hx
        by_cases hlk : k < 5
        · have hlk' : (k : Int) < 5 := by omega
          have hmod : (((7 : Int) - (j : Int)) + (4 + (k : Int))) % 8 = (((7 - j + (4 + k)) % 8 : Nat) : Int) := by omega
          obtain ⟨p0, p1⟩ := shr_bounds x ((7 - j + (4 + k)) % 8) hx
          go_wp2
          go_round
          case rel => exact ⟨k + 1, by omega, by go_num, by simp only [sbSum]; rw [Int.natCast_add, Int.natCast_ediv, Int.natCast_pow]; rfl⟩
          case measure => simp [intOf]; omega
        · obtain rfl : k = 5 := by omega
          go_wp2
          go_round
          case rel => exact ⟨j + 1, by omega, by go_num, by simp only [sbOut]; go_num⟩
          case measure => simp [intOf]; omega
    · obtain rfl : j = 8 := by omega
      go_wp2
      go_ret
      exact ⟨ret_int (by rw [sb_eq x hx]), rfl⟩

end Go.Proofs.Ytpcdckhabaoieaa
