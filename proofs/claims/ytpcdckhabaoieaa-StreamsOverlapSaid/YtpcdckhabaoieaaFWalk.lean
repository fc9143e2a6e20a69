/-
  Walks through package fields: what Mul, Power, Inverse, Sub, Back return, for every byte.
-/
import Derived.Test.YtpcdckhabaoieaaAid
import Derived.Test.YtpcdckhabaoieaaFPlain
namespace Go.Proofs.Ytpcdckhabaoieaa
open Go.RowKit

theorem bit_test (b k : Nat) (hb : b < 256) : (bits BinOp.and IntKind.u8 ((b : Int) / 2 ^ k) 1 == 1) = b.testBit k := by
  have e : ((b : Int) / 2 ^ k) = ((b / 2 ^ k : Nat) : Int) := by
    rw [Int.natCast_ediv, Int.natCast_pow]; rfl
  have hlt : b / 2 ^ k < 256 := Nat.lt_of_le_of_lt (Nat.div_le_self _ _) hb
  rw [e, show (1 : Int) = ((1 : Nat) : Int) from rfl, u8_and_nat _ _ hlt (by omega), nat_mask1, Nat.testBit_eq_decide_div_mod_eq]
  rw [Bool.eq_iff_iff]; simp; omega

theorem dbl_eq (a : Nat) (ha : a < 256) : bits BinOp.xor IntKind.u8 ((a : Int) * 2 % 256) ((a : Int) / 128 * 27) = ((Gf.xt a : Nat) : Int) := by
  rw [show ((a : Int) * 2 % 256) = ((a * 2 % 256 : Nat) : Int) from by omega, show ((a : Int) / 128 * 27) = ((a / 128 * 27 : Nat) : Int) from by omega,
    u8_xor_nat _ _ (by omega) (by omega)]
  rfl

set_option maxHeartbeats 400000 in
theorem dbl_any (a : Nat) (ha : a < 256) (p : Addr) (w : World) (hc : w.cell? p = some (.int .u8 (a : Int))) (hf : w.frozen? p = false) :
    Calls Try.prog 47 #[.pointer (some p)] w fun e w' => e = .returned (.tuple #[]) ∧ w' = w.setCell p (.int .u8 (Gf.xt a : Nat)) := by
  have h0 : 0 ≤ (a : Int) := by omega
  have h1 : (a : Int) ≤ 255 := by omega
  go_enter Try.func47, Try.ntmps47
  go_wp2
  go_end0
  exact ⟨rfl, by rw [dbl_eq a ha]⟩

set_option maxHeartbeats 400000 in
theorem mul_nat (a b : Nat) (ha : a < 256) (hb : b < 256) (w : World) :
    Calls Try.prog 42 #[.int .u8 (a : Int), .int .u8 (b : Int)] w fun e w' => e = .returned (.int .u8 (Gf.gm a b : Nat)) ∧ Below w.heap.size w w' := by
  have h0 : 0 ≤ (b : Int) := by omega
  have h1 : (b : Int) ≤ 255 := by omega
  go_enter Try.func42, Try.ntmps42
  go_wp2
  go_loopw [5, 9] (fun o i wr => ∃ k : Nat, k ≤ 8 ∧ i = .int .i64 k ∧ o = .int .u8 (Gf.gmk a b k : Nat) ∧ wr = w.alloc (Obj.cells #[Value.int IntKind.u8 (Gf.itx a k : Nat)] 5)) (fun _ i _ => 8 - (intOf i).toNat)
  case atStart => exact ⟨0, by omega, rfl, rfl, rfl⟩
  case round =>
    obtain ⟨k, hk, rfl, rfl, rfl⟩ := hrel
    have hb0 := Gf.itx_lt a k ha
    have hg0 := Gf.gmk_lt a b k ha
    by_cases hlt : k < 8
    · have ht := bit_test b k hb
      cases hbit : b.testBit k
      all_goals
        rw [hbit] at ht
        have hm := Lib.hid hbit
        clear hbit
        go_wp2_with (go_at_call 47; refine (dbl_any (Gf.itx a k) hb0 _ _ (by go_simp) (by go_simp)).mono ?_; rintro e w' ⟨rfl, rfl⟩)
        go_roundw
        case rel => exact ⟨k + 1, by omega, by go_num, by simp only [Gf.gmk, hm.out]; first | rfl | (rw [u8_xor_nat _ _ hg0 hb0]; rfl), by first | rfl | (go_simp; done)⟩
        case measure => simp [intOf]; omega
    · obtain rfl : k = 8 := by omega
      go_wp2
      go_ret
      exact ⟨rfl, (Below.refl _ _).alloc (Nat.le_refl _) _⟩

/-- Mul at given bytes, with what the product is -/
theorem mul_at (a b : Int) (c : Nat) (a0 : 0 ≤ a) (a1 : a ≤ 255) (b0 : 0 ≤ b) (b1 : b ≤ 255) (hc : Gf.gm a.toNat b.toNat = c) (w : World) :
    Calls Try.prog 42 #[.int .u8 a, .int .u8 b] w fun e w' => e = .returned (.int .u8 (c : Int)) ∧ Below w.heap.size w w' := by
  obtain ⟨x, rfl⟩ := Int.eq_ofNat_of_zero_le a0
  obtain ⟨y, rfl⟩ := Int.eq_ofNat_of_zero_le b0
  rw [← hc]
  exact mul_nat x y (by omega) (by omega) w
end Go.Proofs.Ytpcdckhabaoieaa
