/-
  The examples of the chapter on fields (lives), and the walk of FieldsMul: it returns true for all bytes.
-/
import Derived.Test.YtiaeocjhlglldaaFRef2
namespace Go.Proofs.Ytiaeocjhlglldaa
open Go.RowKit

theorem mul_to (a b c : Nat) (ha : a < 256) (hb : b < 256) (hc : Gf.gm a b = c) (w : World) :
    Calls Try.prog 8 #[.int .u8 (a : Int), .int .u8 (b : Int)] w fun e w' => e = .returned (.int .u8 (c : Int)) ∧ Below w.heap.size w w' := by
  rw [← hc]; exact mul_nat a b ha hb w
theorem rmul_to (a b c : Nat) (ha : a < 256) (hb : b < 256) (hc : Gf.gm a b = c) (w : World) :
    Calls Try.prog 9 #[.int .u8 (a : Int), .int .u8 (b : Int)] w fun e w' => e = .returned (.int .u8 (c : Int)) ∧ Below w.heap.size w w' := by
  rw [← hc]; exact rmul_any a b ha hb w
theorem power_to (a : Nat) (n : Int) (c : Nat) (ha : a < 256) (hc : Gf.powZ a n = c) (w : World) :
    Calls Try.prog 11 #[.int .u8 (a : Int), .int .i64 n] w fun e w' => e = .returned (.int .u8 (c : Int)) ∧ Below w.heap.size w w' :=
  power_any a n c (by omega) (by omega) hc w
theorem inverse_to (a c : Nat) (ha : a < 256) (hc : Gf.inv a = c) (w : World) :
    Calls Try.prog 14 #[.int .u8 (a : Int)] w fun e w' => e = .returned (.int .u8 (c : Int)) ∧ Below w.heap.size w w' :=
  inverse_any a c (by omega) (by omega) hc w
theorem rinv_to (a c : Nat) (ha : a < 256) (hc : Gf.inv a = c) (w : World) :
    Calls Try.prog 12 #[.int .u8 (a : Int)] w fun e w' => e = .returned (.int .u8 (c : Int)) ∧ Below w.heap.size w w' :=
  rinv_at a c (by omega) (by omega) hc w
theorem sub_to (a c : Nat) (ha : a < 256) (hc : Gf.sub a = c) (w : World) :
    Calls Try.prog 15 #[.int .u8 (a : Int)] w fun e w' => e = .returned (.int .u8 (c : Int)) ∧ Below w.heap.size w w' :=
  sub_any a c (by omega) (by omega) hc w
theorem rsub_to (a c : Nat) (ha : a < 256) (hc : Gf.sub a = c) (w : World) :
    Calls Try.prog 16 #[.int .u8 (a : Int)] w fun e w' => e = .returned (.int .u8 (c : Int)) ∧ Below w.heap.size w w' :=
  rsub_any a c (by omega) (by omega) hc w
theorem back_to (a c : Nat) (ha : a < 256) (hc : Gf.back a = c) (w : World) :
    Calls Try.prog 17 #[.int .u8 (a : Int)] w fun e w' => e = .returned (.int .u8 (c : Int)) ∧ Below w.heap.size w w' :=
  back_any a c (by omega) (by omega) hc w

set_option maxHeartbeats 800000 in
theorem lives05 (w : World) : Calls Try.prog 10 #[] w fun e w' => e = .returned (.bool true) ∧ Below w.heap.size w w' := by
  go_enter Try.func10, Try.ntmps10
  go_wp2_with fail
  refine (mul_at 87 131 193 (by omega) (by omega) (by omega) (by omega) (by decide +kernel) _).mono ?_
  rintro e w1 ⟨rfl, b1⟩
  go_wp2_with fail
  refine (mul_at 87 19 254 (by omega) (by omega) (by omega) (by omega) (by decide +kernel) _).mono ?_
  rintro e w2 ⟨rfl, b2⟩
  replace b2 := below_trans b1 b2
  clear b1
  go_wp2_with fail
  refine (mul_at 2 128 27 (by omega) (by omega) (by omega) (by omega) (by decide +kernel) _).mono ?_
  rintro e w3 ⟨rfl, b3⟩
  replace b3 := below_trans b2 b3
  clear b2
  go_wp2_with fail
  refine (mul_at 0 255 0 (by omega) (by omega) (by omega) (by omega) (by decide +kernel) _).mono ?_
  rintro e w4 ⟨rfl, b4⟩
  replace b4 := below_trans b3 b4
  clear b3
  go_wp2_with fail
  refine (power_any 3 255 1 (by omega) (by omega) (by decide +kernel) _).mono ?_
  rintro e w5 ⟨rfl, b5⟩
  replace b5 := below_trans b4 b5
  clear b4
  go_wp2_with fail
  refine (power_any 2 8 27 (by omega) (by omega) (by decide +kernel) _).mono ?_
  rintro e w6 ⟨rfl, b6⟩
  replace b6 := below_trans b5 b6
  clear b5
  go_wp2_with fail
  refine (power_any 2 (-1) 141 (by omega) (by omega) (by decide +kernel) _).mono ?_
  rintro e w7 ⟨rfl, b7⟩
  replace b7 := below_trans b6 b7
  clear b6
  go_wp2_with fail
  refine (power_any 0 0 1 (by omega) (by omega) (by decide +kernel) _).mono ?_
  rintro e w8 ⟨rfl, b8⟩
  replace b8 := below_trans b7 b8
  clear b7
  go_wp2_with fail
  refine (power_any 0 (-1) 0 (by omega) (by omega) (by decide +kernel) _).mono ?_
  rintro e w9 ⟨rfl, b9⟩
  replace b9 := below_trans b8 b9
  clear b8
  go_wp2_with fail
  refine (inverse_any 83 202 (by omega) (by omega) (by decide +kernel) _).mono ?_
  rintro e w10 ⟨rfl, b10⟩
  replace b10 := below_trans b9 b10
  clear b9
  go_wp2_with fail
  refine (inverse_any 1 1 (by omega) (by omega) (by decide +kernel) _).mono ?_
  rintro e w11 ⟨rfl, b11⟩
  replace b11 := below_trans b10 b11
  clear b10
  go_wp2_with fail
  refine (inverse_any 0 0 (by omega) (by omega) (by decide +kernel) _).mono ?_
  rintro e w12 ⟨rfl, b12⟩
  replace b12 := below_trans b11 b12
  clear b11
  go_wp2_with fail
  refine (sub_any 0 99 (by omega) (by omega) (by decide +kernel) _).mono ?_
  rintro e w13 ⟨rfl, b13⟩
  replace b13 := below_trans b12 b13
  clear b12
  go_wp2_with fail
  refine (sub_any 83 237 (by omega) (by omega) (by decide +kernel) _).mono ?_
  rintro e w14 ⟨rfl, b14⟩
  replace b14 := below_trans b13 b14
  clear b13
  go_wp2_with fail
  refine (sub_any 1 124 (by omega) (by omega) (by decide +kernel) _).mono ?_
  rintro e w15 ⟨rfl, b15⟩
  replace b15 := below_trans b14 b15
  clear b14
  go_wp2_with fail
  refine (back_any 99 0 (by omega) (by omega) (by decide +kernel) _).mono ?_
  rintro e w16 ⟨rfl, b16⟩
  replace b16 := below_trans b15 b16
  clear b15
  go_wp2_with fail
  refine (back_any 237 83 (by omega) (by omega) (by decide +kernel) _).mono ?_
  rintro e w17 ⟨rfl, b17⟩
  replace b17 := below_trans b16 b17
  clear b16
  go_wp2
  go_ret
  exact ⟨rfl, b17⟩

set_option maxHeartbeats 800000 in
theorem fieldsMul_true (a b c : Nat) (ha : a < 256) (hb : b < 256) (hc : c < 256) (w : World) :
    Calls Try.prog 3 #[.int .u8 (a : Int), .int .u8 (b : Int), .int .u8 (c : Int)] w fun e w' => e = .returned (.bool true) ∧ Below w.heap.size w w' := by
  have hab := Gf.gm_lt a b ha
  have x1 : bits .xor .u8 (b : Int) (c : Int) = ((b ^^^ c : Nat) : Int) := u8_xor_nat b c hb hc
  have x2 : bits .xor .u8 (Gf.gm a b : Int) (Gf.gm a c : Int) = ((Gf.gm a b ^^^ Gf.gm a c : Nat) : Int) := u8_xor_nat _ _ hab (Gf.gm_lt a c ha)
  go_enter Try.func3, Try.ntmps3
  go_wp2_with fail
  refine (mul_nat a b ha hb _).mono ?_
  rintro e w1 ⟨rfl, b1⟩
  go_wp2_with fail
  refine (rmul_any a b ha hb _).mono ?_
  rintro e w2 ⟨rfl, b2⟩
  replace b2 := below_trans b1 b2
  clear b1
  go_wp2_with fail
  refine (mul_to b a (Gf.gm a b) hb ha (Gf.gm_comm b a hb ha) _).mono ?_
  rintro e w3 ⟨rfl, b3⟩
  replace b3 := below_trans b2 b3
  clear b2
  go_wp2_with fail
  refine (mul_to (Gf.gm a b) c _ hab hc rfl _).mono ?_
  rintro e w4 ⟨rfl, b4⟩
  replace b4 := below_trans b3 b4
  clear b3
  go_wp2_with fail
  refine (mul_to b c _ hb hc rfl _).mono ?_
  rintro e w5 ⟨rfl, b5⟩
  replace b5 := below_trans b4 b5
  clear b4
  go_wp2_with fail
  refine (mul_to a (Gf.gm b c) (Gf.gm (Gf.gm a b) c) ha (Gf.gm_lt b c hb) (Gf.gm_assoc a b c ha hb hc).symm _).mono ?_
  rintro e w6 ⟨rfl, b6⟩
  replace b6 := below_trans b5 b6
  clear b5
  go_wp2_with fail
  refine (mul_to a (b ^^^ c) (Gf.gm a b ^^^ Gf.gm a c) ha (Gf.xor_lt b c hb hc) (Gf.gm_right a b c) _).mono ?_
  rintro e w7 ⟨rfl, b7⟩
  replace b7 := below_trans b6 b7
  clear b6
  go_wp2_with fail
  refine (mul_to a c _ ha hc rfl _).mono ?_
  rintro e w8 ⟨rfl, b8⟩
  replace b8 := below_trans b7 b8
  clear b7
  go_wp2_with fail
  refine (mul_at a 1 a (by omega) (by omega) (by omega) (by omega) (Gf.gm_one a ha) _).mono ?_
  rintro e w9 ⟨rfl, b9⟩
  replace b9 := below_trans b8 b9
  clear b8
  go_wp2_with fail
  refine (lives05 _).mono ?_
  rintro e w10 ⟨rfl, b10⟩
  replace b10 := below_trans b9 b10
  clear b9
  go_wp2
  go_ret
  exact ⟨rfl, b10⟩
end Go.Proofs.Ytiaeocjhlglldaa
namespace Go.Proofs.Ytiaeocjhlglldaa
open Go.RowKit
theorem fieldsMul_wf (a b c : Int) (wa : (Lit.int .u8 a).wf = true) (wb : (Lit.int .u8 b).wf = true) (wc : (Lit.int .u8 c).wf = true) (w : World) :
    Calls Try.prog 3 #[.int .u8 a, .int .u8 b, .int .u8 c] w fun e w' => e = .returned (.bool true) ∧ Below w.heap.size w w' := by
  obtain ⟨x, rfl, hx⟩ := byte_of_wf wa
  obtain ⟨y, rfl, hy⟩ := byte_of_wf wb
  obtain ⟨z, rfl, hz⟩ := byte_of_wf wc
  exact fieldsMul_true x y z hx hy hz w
end Go.Proofs.Ytiaeocjhlglldaa
