/-
  Walks through package fields: what Mul, Power, Inverse, Sub, Back return, for every byte.
-/
import Derived.Test.YtpcdckhabaoieaaAid
import Derived.Test.YtpcdckhabaoieaaFPlain
namespace Go.Proofs.Ytpcdckhabaoieaa
open Go.RowKit

theorem bit_test (b k : Nat) (hb : b < 256) : (bits BinOp.and IntKind.u8 ((b : Int) / 2 ^ k) 1 == 1) = b.testBit k := by
  have e : ((b : Int) / 2 ^ k) = ((b / 2 ^ k : Nat) : Int) := by
    rw [Int.natCast_ediv, Int.natCast_pow]; rfl
  have hlt : b / 2 ^ k < 256 := Nat.lt_of_le_of_lt (Nat.div_le_self _ _) hb
  rw [e, show (1 : Int) = ((1 : Nat) : Int) from rfl, u8_and_nat _ _ hlt (by omega), nat_mask1, Nat.testBit_eq_decide_div_mod_eq]
  rw [Bool.eq_iff_iff]; simp; omega

theorem dbl_eq (a : Nat) (ha : a < 256) : bits BinOp.xor IntKind.u8 ((a : Int) * 2 % 256) ((a : Int) / 128 * 27) = ((Gf.xt a : Nat) : Int) := by
  rw [show ((a : Int) * 2 % 256) = ((a * 2 % 256 : Nat) : Int) from by omega, show ((a : Int) / 128 * 27) = ((a / 128 * 27 : Nat) : Int) from by omega,
    u8_xor_nat _ _ (by omega) (by omega)]
  rfl

set_option maxHeartbeats 400000 in
theorem dbl_any (a : Nat) (ha : a < 256) (p : Addr) (w : World) (hc : w.cell? p = some (.int .u8 (a : Int))) (hf : w.frozen? p = false) :
    Calls Try.prog 47 #[.pointer (some p)] w fun e w' => e = .returned (.tuple #[]) ∧ w' = w.setCell p (.int .u8 (Gf.xt a : Nat)) := by
  have h0 : 0 ≤ (a : Int) := by omega
  have h1 : (a : Int) ≤ 255 := by omega
  go_enter Try.func47, Try.ntmps47
  go_wp2
  go_end0
  exact ⟨rfl, by rw [dbl_eq a ha]⟩

set_option maxHeartbeats 400000 in
theorem mul_nat (a b : Nat) (ha : a < 256) (hb : b < 256) (w : World) :
    Calls Try.prog 42 #[.int .u8 (a : Int), .int .u8 (b : Int)] w fun e w' => e = .returned (.int .u8 (Gf.gm a b : Nat)) ∧ Below w.heap.size w w' := by
  have h0 : 0 ≤ (b : Int) := by omega
  have h1 : (b : Int) ≤ 255 := by omega
  go_enter Try.func42, Try.ntmps42
  go_wp2
  go_loopw [5, 9] (fun o i wr => ∃ k : Nat, k ≤ 8 ∧ i = .int .i64 k ∧ o = .int .u8 (Gf.gmk a b k : Nat) ∧ wr = w.alloc (Obj.cells #[Value.int IntKind.u8 (Gf.itx a k : Nat)] 5)) (fun _ i _ => 8 - (intOf i).toNat)
  case atStart => exact ⟨0, by omega, rfl, rfl, rfl⟩
  case round =>
    obtain ⟨k, hk, rfl, rfl, rfl⟩ := hrel
    have hb0 := Gf.itx_lt a k ha
    have hg0 := Gf.gmk_lt a b k ha
    by_cases hlt : k < 8
    · have ht := bit_test b k hb
      cases hbit : b.testBit k
      all_goals
        rw [hbit] at ht
        have hm := Lib.hid hbit
        clear hbit
        go_wp2_with (go_at_call 47; refine (dbl_any (Gf.itx a k) hb0 _ _ (by go_simp) (by go_simp)).mono ?_; rintro e w' ⟨rfl, rfl⟩)
        go_roundw
        case rel => exact ⟨k + 1, by omega, by go_num, by simp only [Gf.gmk, hm.out]; first | rfl | (rw [u8_xor_nat _ _ hg0 hb0]; rfl), by first | rfl | (go_simp; done)⟩
        case measure => simp [intOf]; omega
    · obtain rfl : k = 8 := by omega
      go_wp2
      go_ret
      exact ⟨rfl, (Below.refl _ _).alloc (Nat.le_refl _) _⟩

/-- Mul at given bytes, with what the product is -/
theorem mul_at (a b : Int) (c : Nat) (a0 : 0 ≤ a) (a1 : a ≤ 255) (b0 : 0 ≤ b) (b1 : b ≤ 255) (hc : Gf.gm a.toNat b.toNat = c) (w : World) :
    Calls Try.prog 42 #[.int .u8 a, .int .u8 b] w fun e w' => e = .returned (.int .u8 (c : Int)) ∧ Below w.heap.size w w' := by
  obtain ⟨x, rfl⟩ := Int.eq_ofNat_of_zero_le a0
  obtain ⟨y, rfl⟩ := Int.eq_ofNat_of_zero_le b0
  rw [← hc]
  exact mul_nat x y (by omega) (by omega) w
end Go.Proofs.Ytpcdckhabaoieaa

/-
  Walks through package fields: Power, Inverse, Sub, Back, for every byte.
-/
namespace Go.Proofs.Ytpcdckhabaoieaa
open Go.RowKit

set_option maxHeartbeats 400000 in
theorem power_zero (n : Int) (w : World) :
    Calls Try.prog 28 #[.int .u8 0, .int .i64 n] w fun e w' => e = .returned (.int .u8 (Gf.powZ 0 n : Nat)) ∧ Below w.heap.size w w' := by
  by_cases hn : n = 0
  · subst hn
    go_enter Try.func28, Try.ntmps28
    go_wp2
    go_step3
    go_wp2
    try rw [Exit.noGoto_ret]
    go_ret
    exact ⟨rfl, Below.refl _ _⟩
  · have e : Gf.powZ 0 n = 0 := by unfold Gf.powZ; rw [if_pos rfl, if_neg hn]
    have h0 : (n == 0) = false := by simpa using hn
    rw [e]
    clear e hn
    go_enter Try.func28, Try.ntmps28
    go_wp2
    go_step3
    go_wp2
    try rw [Exit.noGoto_ret]
    go_ret
    exact ⟨rfl, Below.refl _ _⟩

set_option maxHeartbeats 400000 in
theorem power_some (a : Nat) (n : Int) (ha : a < 256) (ha0 : a ≠ 0) (w : World) :
    Calls Try.prog 28 #[.int .u8 (a : Int), .int .i64 n] w fun e w' => e = .returned (.int .u8 (Gf.powZ a n : Nat)) ∧ Below w.heap.size w w' := by
  have e : Gf.powZ a n = Gf.pw a (n % 255).toNat := by unfold Gf.powZ; rw [if_neg ha0]
  have h0 : ((a : Int) == 0) = false := by simp; omega
  rw [e]
  clear e
  have hdm := Int.mul_tdiv_add_tmod n 255
  have hlo : -255 < n.tmod 255 := Int.lt_tmod_of_pos n (by omega)
  have hhi : n.tmod 255 < 255 := Int.tmod_lt_of_pos n (by omega)
  obtain ⟨K, hK, hKb⟩ : ∃ K : Nat, (n % 255).toNat = K ∧ K < 255 := ⟨_, rfl, by omega⟩
  have hneg : n.tmod 255 < 0 → n.tmod 255 + 255 = (K : Int) := by omega
  have hpos : ¬ n.tmod 255 < 0 → n.tmod 255 = (K : Int) := by omega
  rw [hK]
  clear hK hdm
  have hw' := Lib.hid hneg
  have hp' := Lib.hid hpos
  clear hneg hpos
  by_cases hk : n.tmod 255 < 0
  all_goals
    go_enter Try.func28, Try.ntmps28
    go_wp2
    go_step3
    go_wp2
    go_step3
    go_wp2
    first | rw [hw'.out (by omega)] | rw [hp'.out (by omega)]
    clear hw' hp' hk hlo hhi
    go_loopw [0, 5, 6] (fun s k o wr => ∃ x y j : Nat, s = .int .u8 (x : Int) ∧ k = .int .i64 (j : Int) ∧ o = .int .u8 (y : Int) ∧ x < 256 ∧ y < 256 ∧ j < 255 ∧ Gf.gm y (Gf.pw x j) = Gf.pw a K ∧ Below w.heap.size w wr) (fun _ k _ _ => (intOf k).toNat)
    case atStart => exact ⟨a, 1, K, rfl, rfl, rfl, ha, by omega, hKb, Gf.one_gm _ (Gf.pw_lt a K ha), Below.refl _ _⟩
    case round =>
      obtain ⟨x, y, j, rfl, rfl, rfl, hx, hy, hj, hinv, hb⟩ := hrel
      have hinv' := Lib.hid hinv
      clear hinv
      by_cases hj0 : j = 0
      · subst hj0
        go_wp2
        try rw [Exit.noGoto_ret]
        go_ret
        exact ⟨ret_int (by rw [← hinv'.out]; simp only [Gf.pw]; rw [Gf.gm_one y hy]), hb⟩
      · have t0 : ((j : Int) == 0) = false := by simp; omega
        have hod := i64_odd j (by omega)
        by_cases hodd : j % 2 = 1
        · have t1 : (bits BinOp.and IntKind.i64 (j : Int) 1 == 1) = true := by rw [hod, hodd]; rfl
          have hi' : Gf.gm (Gf.gm y x) (Gf.pw (Gf.gm x x) (j / 2)) = Gf.pw a K := by rw [Gf.sq_odd y x j hy hx hodd]; exact hinv'.out
          have hi := Lib.hid hi'
          have ho := Lib.hid hodd
          clear hodd hod hi' hinv'
          go_wp2_with fail
          refine (mul_nat y x hy hx _).mono ?_
          rintro e w1 ⟨rfl, hb1⟩
          go_wp2_with fail
          refine (mul_nat x x hx hx _).mono ?_
          rintro e w2 ⟨rfl, hb2⟩
          go_wp2
          go_roundw
          case rel => exact ⟨Gf.gm x x, Gf.gm y x, j / 2, rfl, by go_num, rfl, Gf.gm_lt _ _ hx, Gf.gm_lt _ _ hy, by omega, hi.out, (hb.trans (hb1.mono hb.size)).trans (hb2.mono (Nat.le_trans hb.size hb1.size))⟩
          case measure => simp [intOf]; omega
        · have t1 : (bits BinOp.and IntKind.i64 (j : Int) 1 == 1) = false := by rw [hod]; simp; omega
          have hi' : Gf.gm y (Gf.pw (Gf.gm x x) (j / 2)) = Gf.pw a K := by rw [Gf.sq_even y x j hx (by omega)]; exact hinv'.out
          have hi := Lib.hid hi'
          clear hodd hod hi' hinv'
          go_wp2_with fail
          refine (mul_nat x x hx hx _).mono ?_
          rintro e w2 ⟨rfl, hb2⟩
          go_wp2
          go_roundw
          case rel => exact ⟨Gf.gm x x, y, j / 2, rfl, by go_num, rfl, Gf.gm_lt _ _ hx, hy, by omega, hi.out, hb.trans (hb2.mono hb.size)⟩
          case measure => simp [intOf]; omega

/-- Power, for every byte and every int -/
theorem power_any (a n : Int) (c : Nat) (a0 : 0 ≤ a) (a1 : a ≤ 255) (hc : Gf.powZ a.toNat n = c) (w : World) :
    Calls Try.prog 28 #[.int .u8 a, .int .i64 n] w fun e w' => e = .returned (.int .u8 (c : Int)) ∧ Below w.heap.size w w' := by
  obtain ⟨x, rfl⟩ := Int.eq_ofNat_of_zero_le a0
  rw [← hc]
  by_cases h : x = 0
  · subst h; exact power_zero n w
  · exact power_some x n (by omega) h w

set_option maxHeartbeats 400000 in
theorem inverse_any (a : Int) (c : Nat) (a0 : 0 ≤ a) (a1 : a ≤ 255) (hc : Gf.inv a.toNat = c) (w : World) :
    Calls Try.prog 40 #[.int .u8 a] w fun e w' => e = .returned (.int .u8 (c : Int)) ∧ Below w.heap.size w w' := by
  have hp : Gf.powZ a.toNat 254 = c := by rw [← hc]; exact Gf.powZ_inv _ (by omega)
  have hp' := Lib.hid hp
  clear hp hc
  go_enter Try.func40, Try.ntmps40
  go_wp2_with fail
  refine (power_any a 254 c a0 a1 hp'.out _).mono ?_
  rintro e w1 ⟨rfl, hb⟩
  go_wp2
  go_ret
  exact ⟨rfl, hb⟩

theorem rotl_eq (b i : Nat) (hb : b < 256) :
    bits BinOp.or IntKind.u8 ((b : Int) * 2 ^ i % 256) ((b : Int) / 2 ^ (8 - i)) = ((Gf.rotl8 b i : Nat) : Int) := by
  have e1 : ((b : Int) * 2 ^ i % 256) = ((b * 2 ^ i % 256 : Nat) : Int) := by
    rw [Int.natCast_emod, Int.natCast_mul, Int.natCast_pow]; rfl
  have e2 : ((b : Int) / 2 ^ (8 - i)) = ((b / 2 ^ (8 - i) : Nat) : Int) := by
    rw [Int.natCast_ediv, Int.natCast_pow]; rfl
  rw [e1, e2, u8_or_nat _ _ (Nat.mod_lt _ (by omega)) (Nat.lt_of_le_of_lt (Nat.div_le_self _ _) hb)]
  unfold Gf.rotl8
  rw [Nat.shiftLeft_eq, Nat.shiftRight_eq_div_pow]

set_option maxHeartbeats 400000 in
theorem rot8_any (b : Nat) (i : Nat) (hb : b < 256) (hi : i < 8) (w : World) :
    Calls Try.prog 41 #[.int .u8 (b : Int), .int .i64 (i : Int)] w fun e w' => e = .returned (.int .u8 (Gf.rotl8 b i : Nat)) ∧ w = w' := by
  have hand : bits .and .u64 (i : Int) 7 = (i : Int) := by
    rw [show (7 : Int) = ((7 : Nat) : Int) from rfl, u64_and_nat _ _ (by omega) (by omega), nat_mask3, Nat.mod_eq_of_lt hi]
  go_enter Try.func41, Try.ntmps41
  go_wp2
  go_ret
  exact ⟨ret_int (rotl_eq b i hb), rfl⟩

def afk (b : Nat) : Nat → Nat
  | 0 => b
  | k + 1 => afk b k ^^^ Gf.rotl8 b (k + 1)
theorem rotl8_lt (b i : Nat) (hb : b < 256) : Gf.rotl8 b i < 256 := by
  unfold Gf.rotl8
  exact Nat.or_lt_two_pow (n := 8) (Nat.mod_lt _ (by omega)) (Nat.lt_of_le_of_lt (by rw [Nat.shiftRight_eq_div_pow]; exact Nat.div_le_self _ _) hb)
theorem afk_lt (b k : Nat) (hb : b < 256) : afk b k < 256 := by
  induction k with
  | zero => exact hb
  | succ k ih => exact Gf.xor_lt _ _ ih (rotl8_lt _ _ hb)

set_option maxHeartbeats 400000 in
theorem sub_any (a : Int) (c : Nat) (a0 : 0 ≤ a) (a1 : a ≤ 255) (hc : Gf.sub a.toNat = c) (w : World) :
    Calls Try.prog 27 #[.int .u8 a] w fun e w' => e = .returned (.int .u8 (c : Int)) ∧ Below w.heap.size w w' := by
  have hb0 := Gf.inv_lt a.toNat
  have hc' : afk (Gf.inv a.toNat) 4 ^^^ 99 = c := by rw [← hc, ← Gf.sub_eq _ (by omega)]; rfl
  have hc2 := Lib.hid hc'
  clear hc' hc
  go_enter Try.func27, Try.ntmps27
  go_wp2_with fail
  refine (inverse_any a (Gf.inv a.toNat) a0 a1 rfl _).mono ?_
  rintro e w1 ⟨rfl, hb⟩
  generalize Gf.inv a.toNat = b at *
  go_wp2
  go_loopw [4, 5] (fun o i wr => ∃ k : Nat, k ≤ 4 ∧ i = .int .i64 ((k : Int) + 1) ∧ o = .int .u8 (afk b k : Nat) ∧ wr = w1) (fun _ i _ => 5 - (intOf i).toNat)
  case atStart => exact ⟨0, by omega, rfl, rfl, rfl⟩
  case round =>
    obtain ⟨k, hk, rfl, rfl, rfl⟩ := hrel
    have hg0 := afk_lt b k hb0
    by_cases hlt : k < 4
    · go_wp2_with fail
      refine (rot8_any b (k + 1) hb0 (by omega) _).mono ?_
      rintro e w2 ⟨rfl, rfl⟩
      go_wp2
      go_roundw
      case rel => exact ⟨k + 1, by omega, by go_num, by rw [u8_xor_nat _ _ hg0 (rotl8_lt _ _ hb0)]; rfl, by trivial⟩
      case measure => simp [intOf]; omega
    · obtain rfl : k = 4 := by omega
      go_wp2
      go_ret
      refine ⟨ret_int ?_, hb⟩
      rw [show (99 : Int) = ((99 : Nat) : Int) from rfl, u8_xor_nat _ _ hg0 (by omega), hc2.out]

end Go.Proofs.Ytpcdckhabaoieaa
