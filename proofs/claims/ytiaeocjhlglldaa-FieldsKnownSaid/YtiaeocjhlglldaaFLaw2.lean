/-
  The walk of FieldsPower: it returns true for every byte and any two ints.
-/
import Derived.Test.YtiaeocjhlglldaaFLaw1
namespace Go.Proofs.Ytiaeocjhlglldaa
open Go.RowKit

set_option maxHeartbeats 400000 in
theorem one_any (n : Int) (w : World) :
    Calls Try.prog 13 #[.int .i64 n] w fun e w' => e = .returned (.int .u8 (Gf.powZ 0 n : Nat)) ∧ w = w' := by
  by_cases hn : n = 0
  · subst hn
    go_enter Try.func13, Try.ntmps13
    go_wp2
    go_ret
    exact ⟨rfl, rfl⟩
  · have e : Gf.powZ 0 n = 0 := by unfold Gf.powZ; rw [if_pos rfl, if_neg hn]
    have h0 : (n == 0) = false := by simpa using hn
    rw [e]
    clear e hn
    go_enter Try.func13, Try.ntmps13
    go_wp2
    go_ret
    exact ⟨rfl, rfl⟩

set_option maxHeartbeats 1000000 in
theorem fieldsPower_neg (a : Nat) (m n : Int) (ha : a < 256) (hk : n.tmod 300 < 0) (w : World) :
    Calls Try.prog 4 #[.int .u8 (a : Int), .int .i64 m, .int .i64 n] w fun e w' => e = .returned (.bool true) ∧ Below w.heap.size w w' := by
  have hx0 : -1000 < m.tmod 1000 := Int.lt_tmod_of_pos m (by omega)
  have hx1 : m.tmod 1000 < 1000 := Int.tmod_lt_of_pos m (by omega)
  have hy0 : -1000 < n.tmod 1000 := Int.lt_tmod_of_pos n (by omega)
  have hy1 : n.tmod 1000 < 1000 := Int.tmod_lt_of_pos n (by omega)
  have hz0 : -255 < m.tmod 255 := Int.lt_tmod_of_pos m (by omega)
  have hz1 : m.tmod 255 < 255 := Int.tmod_lt_of_pos m (by omega)
  go_enter Try.func4, Try.ntmps4
  go_wp2
  go_loopw [8, 9] (fun o i wr => o = .int .u8 1 ∧ i = .int .i64 0 ∧ Below w.heap.size w wr) (fun _ _ _ => 0)
  case atStart => exact ⟨rfl, rfl, Below.refl _ _⟩
  case round =>
  obtain ⟨rfl, rfl, bL⟩ := hrel
  by_cases h0 : a = 0
  · subst h0
    go_wp2_with fail
    refine (power_any 0 m _ (by omega) (by omega) rfl _).mono ?_
    rintro e w11 ⟨rfl, b11⟩
    replace b11 := below_trans bL b11
    clear bL
    go_wp2_with fail
    refine (one_any m _).mono ?_
    rintro e w12 ⟨rfl, rfl⟩
    go_wp2_with fail
    refine (lives05 _).mono ?_
    rintro e w13 ⟨rfl, b13⟩
    replace b13 := below_trans b11 b13
    go_wp2
    go_ret
    exact ⟨rfl, b13⟩
  · have t0 : ((a : Int) == 0) = false := by simp; omega
    go_wp2_with fail
    refine (power_to a 255 1 ha (by rw [show (255 : Int) = ((255 : Nat) : Int) from rfl, Gf.powZ_nat a 255 ha, Gf.pw_255 a h0 ha]) _).mono ?_
    rintro e w11 ⟨rfl, b11⟩
    replace b11 := below_trans bL b11
    clear bL
    go_wp2_with fail
    refine (power_to a (m.tmod 1000) _ ha rfl _).mono ?_
    rintro e w12 ⟨rfl, b12⟩
    replace b12 := below_trans b11 b12
    clear b11
    go_wp2_with fail
    refine (power_to a (n.tmod 1000) _ ha rfl _).mono ?_
    rintro e w13 ⟨rfl, b13⟩
    replace b13 := below_trans b12 b13
    clear b12
    go_wp2_with fail
    refine (mul_to (Gf.powZ a (m.tmod 1000)) (Gf.powZ a (n.tmod 1000)) _ (Gf.powZ_lt a _ ha) (Gf.powZ_lt a _ ha) rfl _).mono ?_
    rintro e w14 ⟨rfl, b14⟩
    replace b14 := below_trans b13 b14
    clear b13
    go_wp2_with fail
    refine (power_to a (m.tmod 1000 + n.tmod 1000) (Gf.gm (Gf.powZ a (m.tmod 1000)) (Gf.powZ a (n.tmod 1000))) ha (Gf.pw_add_mod a h0 ha _ _).symm _).mono ?_
    rintro e w15 ⟨rfl, b15⟩
    replace b15 := below_trans b14 b15
    clear b14
    go_wp2_with fail
    refine (power_to a m _ ha rfl _).mono ?_
    rintro e w16 ⟨rfl, b16⟩
    replace b16 := below_trans b15 b16
    clear b15
    go_wp2_with fail
    refine (power_to a (255 - m.tmod 255) _ ha rfl _).mono ?_
    rintro e w17 ⟨rfl, b17⟩
    replace b17 := below_trans b16 b17
    clear b16
    go_wp2_with fail
    refine (mul_to (Gf.powZ a m) (Gf.powZ a (255 - m.tmod 255)) 1 (Gf.powZ_lt a _ ha) (Gf.powZ_lt a _ ha) (Gf.powZ_opp a h0 ha m) _).mono ?_
    rintro e w18 ⟨rfl, b18⟩
    replace b18 := below_trans b17 b18
    clear b17
    go_wp2_with fail
    refine (lives05 _).mono ?_
    rintro e w19 ⟨rfl, b19⟩
    replace b19 := below_trans b18 b19
    clear b18
    go_wp2
    go_ret
    exact ⟨rfl, b19⟩

set_option maxHeartbeats 1000000 in
theorem fieldsPower_zero (a : Nat) (m n : Int) (ha : a < 256) (hk : n.tmod 300 = 0) (w : World) :
    Calls Try.prog 4 #[.int .u8 (a : Int), .int .i64 m, .int .i64 n] w fun e w' => e = .returned (.bool true) ∧ Below w.heap.size w w' := by
  have hx0 : -1000 < m.tmod 1000 := Int.lt_tmod_of_pos m (by omega)
  have hx1 : m.tmod 1000 < 1000 := Int.tmod_lt_of_pos m (by omega)
  have hy0 : -1000 < n.tmod 1000 := Int.lt_tmod_of_pos n (by omega)
  have hy1 : n.tmod 1000 < 1000 := Int.tmod_lt_of_pos n (by omega)
  have hz0 : -255 < m.tmod 255 := Int.lt_tmod_of_pos m (by omega)
  have hz1 : m.tmod 255 < 255 := Int.tmod_lt_of_pos m (by omega)
  go_enter Try.func4, Try.ntmps4
  go_wp2
  go_loopw [8, 9] (fun o i wr => o = .int .u8 1 ∧ i = .int .i64 0 ∧ Below w.heap.size w wr) (fun _ _ _ => 0)
  case atStart => exact ⟨rfl, rfl, Below.refl _ _⟩
  case round =>
  obtain ⟨rfl, rfl, bL⟩ := hrel
  go_wp2_with fail
  refine (power_to a 0 1 ha (by rw [show (0 : Int) = ((0 : Nat) : Int) from rfl, Gf.powZ_nat a 0 ha]; rfl) _).mono ?_
  rintro e w1 ⟨rfl, b1⟩
  replace bL := below_trans bL b1
  clear b1
  by_cases h0 : a = 0
  · subst h0
    go_wp2_with fail
    refine (power_any 0 m _ (by omega) (by omega) rfl _).mono ?_
    rintro e w11 ⟨rfl, b11⟩
    replace b11 := below_trans bL b11
    clear bL
    go_wp2_with fail
    refine (one_any m _).mono ?_
    rintro e w12 ⟨rfl, rfl⟩
    go_wp2_with fail
    refine (lives05 _).mono ?_
    rintro e w13 ⟨rfl, b13⟩
    replace b13 := below_trans b11 b13
    go_wp2
    go_ret
    exact ⟨rfl, b13⟩
  · have t0 : ((a : Int) == 0) = false := by simp; omega
    go_wp2_with fail
    refine (power_to a 255 1 ha (by rw [show (255 : Int) = ((255 : Nat) : Int) from rfl, Gf.powZ_nat a 255 ha, Gf.pw_255 a h0 ha]) _).mono ?_
    rintro e w11 ⟨rfl, b11⟩
    replace b11 := below_trans bL b11
    clear bL
    go_wp2_with fail
    refine (power_to a (m.tmod 1000) _ ha rfl _).mono ?_
    rintro e w12 ⟨rfl, b12⟩
    replace b12 := below_trans b11 b12
    clear b11
    go_wp2_with fail
    refine (power_to a (n.tmod 1000) _ ha rfl _).mono ?_
    rintro e w13 ⟨rfl, b13⟩
    replace b13 := below_trans b12 b13
    clear b12
    go_wp2_with fail
    refine (mul_to (Gf.powZ a (m.tmod 1000)) (Gf.powZ a (n.tmod 1000)) _ (Gf.powZ_lt a _ ha) (Gf.powZ_lt a _ ha) rfl _).mono ?_
    rintro e w14 ⟨rfl, b14⟩
    replace b14 := below_trans b13 b14
    clear b13
    go_wp2_with fail
    refine (power_to a (m.tmod 1000 + n.tmod 1000) (Gf.gm (Gf.powZ a (m.tmod 1000)) (Gf.powZ a (n.tmod 1000))) ha (Gf.pw_add_mod a h0 ha _ _).symm _).mono ?_
    rintro e w15 ⟨rfl, b15⟩
    replace b15 := below_trans b14 b15
    clear b14
    go_wp2_with fail
    refine (power_to a m _ ha rfl _).mono ?_
    rintro e w16 ⟨rfl, b16⟩
    replace b16 := below_trans b15 b16
    clear b15
    go_wp2_with fail
    refine (power_to a (255 - m.tmod 255) _ ha rfl _).mono ?_
    rintro e w17 ⟨rfl, b17⟩
    replace b17 := below_trans b16 b17
    clear b16
    go_wp2_with fail
    refine (mul_to (Gf.powZ a m) (Gf.powZ a (255 - m.tmod 255)) 1 (Gf.powZ_lt a _ ha) (Gf.powZ_lt a _ ha) (Gf.powZ_opp a h0 ha m) _).mono ?_
    rintro e w18 ⟨rfl, b18⟩
    replace b18 := below_trans b17 b18
    clear b17
    go_wp2_with fail
    refine (lives05 _).mono ?_
    rintro e w19 ⟨rfl, b19⟩
    replace b19 := below_trans b18 b19
    clear b18
    go_wp2
    go_ret
    exact ⟨rfl, b19⟩

set_option maxHeartbeats 1000000 in
theorem fieldsPower_pos (a : Nat) (m n : Int) (ha : a < 256) (K : Nat) (hK : 0 < K) (hK3 : K < 300) (hk : n.tmod 300 = (K : Int)) (w : World) :
    Calls Try.prog 4 #[.int .u8 (a : Int), .int .i64 m, .int .i64 n] w fun e w' => e = .returned (.bool true) ∧ Below w.heap.size w w' := by
  have hx0 : -1000 < m.tmod 1000 := Int.lt_tmod_of_pos m (by omega)
  have hx1 : m.tmod 1000 < 1000 := Int.tmod_lt_of_pos m (by omega)
  have hy0 : -1000 < n.tmod 1000 := Int.lt_tmod_of_pos n (by omega)
  have hy1 : n.tmod 1000 < 1000 := Int.tmod_lt_of_pos n (by omega)
  have hz0 : -255 < m.tmod 255 := Int.lt_tmod_of_pos m (by omega)
  have hz1 : m.tmod 255 < 255 := Int.tmod_lt_of_pos m (by omega)
  go_enter Try.func4, Try.ntmps4
  go_wp2
  go_loopw [8, 9] (fun o i wr => ∃ j : Nat, j ≤ K ∧ o = .int .u8 (Gf.pw a j : Nat) ∧ i = .int .i64 (j : Int) ∧ Below w.heap.size w wr) (fun _ i _ => K - (intOf i).toNat)
  case atStart => exact ⟨0, by omega, rfl, rfl, Below.refl _ _⟩
  case round =>
  obtain ⟨j, hj, rfl, rfl, bL⟩ := hrel
  have hpj := Gf.pw_lt a j ha
  by_cases hlt : j < K
  · have hlt' : (j : Int) < (K : Int) := by omega
    go_wp2_with fail
    refine (rmul_to (Gf.pw a j) a _ hpj ha rfl _).mono ?_
    rintro e w1 ⟨rfl, b1⟩
    go_wp2
    go_roundw
    case rel => exact ⟨j + 1, by omega, rfl, by go_num, below_trans bL b1⟩
    case measure => simp [intOf]; omega
  obtain rfl : K = j := by omega
  have t1 : 0 < (K : Int) := by omega
  go_wp2_with fail
  refine (power_to a (K : Int) (Gf.pw a K) ha (Gf.powZ_nat a K ha) _).mono ?_
  rintro e w1 ⟨rfl, b1⟩
  replace bL := below_trans bL b1
  clear b1
  go_wp2_with fail
  refine (power_to a (-(K : Int)) (Gf.inv (Gf.pw a K)) ha (Gf.powZ_neg a K ha hK) _).mono ?_
  rintro e w2 ⟨rfl, b1⟩
  replace bL := below_trans bL b1
  clear b1
  go_wp2_with fail
  refine (rinv_to (Gf.pw a K) _ hpj rfl _).mono ?_
  rintro e w3 ⟨rfl, b1⟩
  replace bL := below_trans bL b1
  clear b1
  by_cases h0 : a = 0
  · subst h0
    go_wp2_with fail
    refine (power_any 0 m _ (by omega) (by omega) rfl _).mono ?_
    rintro e w11 ⟨rfl, b11⟩
    replace b11 := below_trans bL b11
    clear bL
    go_wp2_with fail
    refine (one_any m _).mono ?_
    rintro e w12 ⟨rfl, rfl⟩
    go_wp2_with fail
    refine (lives05 _).mono ?_
    rintro e w13 ⟨rfl, b13⟩
    replace b13 := below_trans b11 b13
    go_wp2
    go_ret
    exact ⟨rfl, b13⟩
  · have t0 : ((a : Int) == 0) = false := by simp; omega
    go_wp2_with fail
    refine (power_to a 255 1 ha (by rw [show (255 : Int) = ((255 : Nat) : Int) from rfl, Gf.powZ_nat a 255 ha, Gf.pw_255 a h0 ha]) _).mono ?_
    rintro e w11 ⟨rfl, b11⟩
    replace b11 := below_trans bL b11
    clear bL
    go_wp2_with fail
    refine (power_to a (m.tmod 1000) _ ha rfl _).mono ?_
    rintro e w12 ⟨rfl, b12⟩
    replace b12 := below_trans b11 b12
    clear b11
    go_wp2_with fail
    refine (power_to a (n.tmod 1000) _ ha rfl _).mono ?_
    rintro e w13 ⟨rfl, b13⟩
    replace b13 := below_trans b12 b13
    clear b12
    go_wp2_with fail
    refine (mul_to (Gf.powZ a (m.tmod 1000)) (Gf.powZ a (n.tmod 1000)) _ (Gf.powZ_lt a _ ha) (Gf.powZ_lt a _ ha) rfl _).mono ?_
    rintro e w14 ⟨rfl, b14⟩
    replace b14 := below_trans b13 b14
    clear b13
    go_wp2_with fail
    refine (power_to a (m.tmod 1000 + n.tmod 1000) (Gf.gm (Gf.powZ a (m.tmod 1000)) (Gf.powZ a (n.tmod 1000))) ha (Gf.pw_add_mod a h0 ha _ _).symm _).mono ?_
    rintro e w15 ⟨rfl, b15⟩
    replace b15 := below_trans b14 b15
    clear b14
    go_wp2_with fail
    refine (power_to a m _ ha rfl _).mono ?_
    rintro e w16 ⟨rfl, b16⟩
    replace b16 := below_trans b15 b16
    clear b15
    go_wp2_with fail
    refine (power_to a (255 - m.tmod 255) _ ha rfl _).mono ?_
    rintro e w17 ⟨rfl, b17⟩
    replace b17 := below_trans b16 b17
    clear b16
    go_wp2_with fail
    refine (mul_to (Gf.powZ a m) (Gf.powZ a (255 - m.tmod 255)) 1 (Gf.powZ_lt a _ ha) (Gf.powZ_lt a _ ha) (Gf.powZ_opp a h0 ha m) _).mono ?_
    rintro e w18 ⟨rfl, b18⟩
    replace b18 := below_trans b17 b18
    clear b17
    go_wp2_with fail
    refine (lives05 _).mono ?_
    rintro e w19 ⟨rfl, b19⟩
    replace b19 := below_trans b18 b19
    clear b18
    go_wp2
    go_ret
    exact ⟨rfl, b19⟩

theorem fieldsPower_wf (a m n : Int) (wa : (Lit.int .u8 a).wf = true) (w : World) :
    Calls Try.prog 4 #[.int .u8 a, .int .i64 m, .int .i64 n] w fun e w' => e = .returned (.bool true) ∧ Below w.heap.size w w' := by
  obtain ⟨x, rfl, hx⟩ := byte_of_wf wa
  have h1 : n.tmod 300 < 300 := Int.tmod_lt_of_pos n (by omega)
  rcases Int.lt_trichotomy (n.tmod 300) 0 with h | h | h
  · exact fieldsPower_neg x m n hx h w
  · exact fieldsPower_zero x m n hx h w
  · exact fieldsPower_pos x m n hx (n.tmod 300).toNat (by omega) (by omega) (by omega) w
end Go.Proofs.Ytiaeocjhlglldaa
