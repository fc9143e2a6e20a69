/-
  The walks of FieldsInverse and FieldsSub: they return true for any two bytes.
-/
import Derived.Test.YtiaeocjhlglldaaFLaw1
namespace Go.Proofs.Ytiaeocjhlglldaa
open Go.RowKit

set_option maxHeartbeats 1000000 in
theorem fieldsInverse_zero (b : Int) (w : World) :
    Calls Try.prog 5 #[.int .u8 0, .int .u8 b] w fun e w' => e = .returned (.bool true) ∧ Below w.heap.size w w' := by
  go_enter Try.func5, Try.ntmps5
  go_wp2_with fail
  refine (inverse_any 0 0 (by omega) (by omega) (by decide +kernel) _).mono ?_
  rintro e w1 ⟨rfl, b1⟩
  go_wp2_with fail
  refine (rinv_at 0 0 (by omega) (by omega) (by decide +kernel) _).mono ?_
  rintro e w2 ⟨rfl, b2⟩
  replace b2 := below_trans b1 b2
  clear b1
  go_wp2_with fail
  refine (inverse_any 0 0 (by omega) (by omega) (by decide +kernel) _).mono ?_
  rintro e w3 ⟨rfl, b3⟩
  replace b3 := below_trans b2 b3
  clear b2
  go_wp2_with fail
  refine (lives05 _).mono ?_
  rintro e w4 ⟨rfl, b4⟩
  replace b4 := below_trans b3 b4
  clear b3
  go_wp2
  go_ret
  exact ⟨rfl, b4⟩

set_option maxHeartbeats 1000000 in
theorem fieldsInverse_some (a b : Nat) (ha : a < 256) (hb : b < 256) (h0 : a ≠ 0) (w : World) :
    Calls Try.prog 5 #[.int .u8 (a : Int), .int .u8 (b : Int)] w fun e w' => e = .returned (.bool true) ∧ Below w.heap.size w w' := by
  have hi := Gf.inv_lt a
  have t0 : ((a : Int) == 0) = false := by simp; omega
  go_enter Try.func5, Try.ntmps5
  go_wp2_with fail
  refine (inverse_to a _ ha rfl _).mono ?_
  rintro e w1 ⟨rfl, b1⟩
  go_wp2_with fail
  refine (rinv_to a _ ha rfl _).mono ?_
  rintro e w2 ⟨rfl, b2⟩
  replace b2 := below_trans b1 b2
  clear b1
  go_wp2_with fail
  refine (inverse_to (Gf.inv a) a hi (Gf.inv_inv a ha) _).mono ?_
  rintro e w3 ⟨rfl, b3⟩
  replace b3 := below_trans b2 b3
  clear b2
  go_wp2_with fail
  refine (mul_to a (Gf.inv a) 1 ha hi (Gf.gm_inv a h0 ha) _).mono ?_
  rintro e w4 ⟨rfl, b4⟩
  replace b4 := below_trans b3 b4
  clear b3
  go_wp2_with fail
  refine (mul_to b a (Gf.gm b a) hb ha rfl _).mono ?_
  rintro e w5 ⟨rfl, b5⟩
  replace b5 := below_trans b4 b5
  clear b4
  go_wp2_with fail
  refine (mul_to (Gf.gm b a) (Gf.inv a) b (Gf.gm_lt b a hb) hi (Gf.gm_cancel a b h0 ha hb) _).mono ?_
  rintro e w6 ⟨rfl, b6⟩
  replace b6 := below_trans b5 b6
  clear b5
  go_wp2_with fail
  refine (mul_to a b (Gf.gm a b) ha hb rfl _).mono ?_
  rintro e w7 ⟨rfl, b7⟩
  replace b7 := below_trans b6 b7
  clear b6
  go_wp2_with fail
  refine (inverse_to (Gf.gm a b) (Gf.gm (Gf.inv a) (Gf.inv b)) (Gf.gm_lt a b ha) (Gf.inv_gm a b ha hb h0) _).mono ?_
  rintro e w8 ⟨rfl, b8⟩
  replace b8 := below_trans b7 b8
  clear b7
  go_wp2_with fail
  refine (inverse_to b _ hb rfl _).mono ?_
  rintro e w9 ⟨rfl, b9⟩
  replace b9 := below_trans b8 b9
  clear b8
  go_wp2_with fail
  refine (mul_to (Gf.inv a) (Gf.inv b) _ hi (Gf.inv_lt b) rfl _).mono ?_
  rintro e w10 ⟨rfl, b10⟩
  replace b10 := below_trans b9 b10
  clear b9
  go_wp2_with fail
  refine (lives05 _).mono ?_
  rintro e w11 ⟨rfl, b11⟩
  replace b11 := below_trans b10 b11
  clear b10
  go_wp2
  go_ret
  exact ⟨rfl, b11⟩

theorem fieldsInverse_wf (a b : Int) (wa : (Lit.int .u8 a).wf = true) (wb : (Lit.int .u8 b).wf = true) (w : World) :
    Calls Try.prog 5 #[.int .u8 a, .int .u8 b] w fun e w' => e = .returned (.bool true) ∧ Below w.heap.size w w' := by
  obtain ⟨x, rfl, hx⟩ := byte_of_wf wa
  obtain ⟨y, rfl, hy⟩ := byte_of_wf wb
  by_cases h : x = 0
  · subst h; exact fieldsInverse_zero y w
  · exact fieldsInverse_some x y hx hy h w

set_option maxHeartbeats 1000000 in
theorem fieldsSub_true (a b : Nat) (ha : a < 256) (hb : b < 256) (w : World) :
    Calls Try.prog 6 #[.int .u8 (a : Int), .int .u8 (b : Int)] w fun e w' => e = .returned (.bool true) ∧ Below w.heap.size w w' := by
  have hs := Gf.sub_lt a
  have hn := Gf.sub_ne a ha
  have n1 : (((Gf.sub a : Nat) : Int) != (a : Int)) = true := by rw [bne_iff_ne]; omega
  clear hn
  by_cases hab : a = b
  · subst hab
    go_enter Try.func6, Try.ntmps6
    go_wp2_with fail
    refine (sub_to a _ ha rfl _).mono ?_
    rintro e w1 ⟨rfl, b1⟩
    go_wp2_with fail
    refine (rsub_to a _ ha rfl _).mono ?_
    rintro e w2 ⟨rfl, b2⟩
    replace b2 := below_trans b1 b2
    clear b1
    go_wp2_with fail
    refine (back_to (Gf.sub a) a hs (Gf.back_sub a ha) _).mono ?_
    rintro e w3 ⟨rfl, b3⟩
    replace b3 := below_trans b2 b3
    clear b2
    go_wp2_with fail
    refine (back_to a _ ha rfl _).mono ?_
    rintro e w4 ⟨rfl, b4⟩
    replace b4 := below_trans b3 b4
    clear b3
    go_wp2_with fail
    refine (sub_to (Gf.back a) a (Gf.back_lt a) (Gf.sub_back a ha) _).mono ?_
    rintro e w5 ⟨rfl, b5⟩
    replace b5 := below_trans b4 b5
    clear b4
    go_wp2_with fail
    refine (sub_to a _ ha rfl _).mono ?_
    rintro e w6 ⟨rfl, b6⟩
    replace b6 := below_trans b5 b6
    clear b5
    go_wp2_with fail
    refine (lives05 _).mono ?_
    rintro e w7 ⟨rfl, b7⟩
    replace b7 := below_trans b6 b7
    clear b6
    go_wp2
    go_ret
    exact ⟨rfl, b7⟩
  · have hab2 : Gf.sub a ≠ Gf.sub b := fun h => hab ((Gf.sub_inj a b ha hb).1 h)
    have e1 : ((a : Int) == (b : Int)) = false := by rw [beq_eq_false_iff_ne]; omega
    have e2 : (((Gf.sub a : Nat) : Int) == ((Gf.sub b : Nat) : Int)) = false := by rw [beq_eq_false_iff_ne]; omega
    clear hab hab2
    go_enter Try.func6, Try.ntmps6
    go_wp2_with fail
    refine (sub_to a _ ha rfl _).mono ?_
    rintro e w1 ⟨rfl, b1⟩
    go_wp2_with fail
    refine (rsub_to a _ ha rfl _).mono ?_
    rintro e w2 ⟨rfl, b2⟩
    replace b2 := below_trans b1 b2
    clear b1
    go_wp2_with fail
    refine (back_to (Gf.sub a) a hs (Gf.back_sub a ha) _).mono ?_
    rintro e w3 ⟨rfl, b3⟩
    replace b3 := below_trans b2 b3
    clear b2
    go_wp2_with fail
    refine (back_to a _ ha rfl _).mono ?_
    rintro e w4 ⟨rfl, b4⟩
    replace b4 := below_trans b3 b4
    clear b3
    go_wp2_with fail
    refine (sub_to (Gf.back a) a (Gf.back_lt a) (Gf.sub_back a ha) _).mono ?_
    rintro e w5 ⟨rfl, b5⟩
    replace b5 := below_trans b4 b5
    clear b4
    go_wp2_with fail
    refine (sub_to b _ hb rfl _).mono ?_
    rintro e w6 ⟨rfl, b6⟩
    replace b6 := below_trans b5 b6
    clear b5
    go_wp2_with fail
    refine (lives05 _).mono ?_
    rintro e w7 ⟨rfl, b7⟩
    replace b7 := below_trans b6 b7
    clear b6
    go_wp2
    go_ret
    exact ⟨rfl, b7⟩

theorem fieldsSub_wf (a b : Int) (wa : (Lit.int .u8 a).wf = true) (wb : (Lit.int .u8 b).wf = true) (w : World) :
    Calls Try.prog 6 #[.int .u8 a, .int .u8 b] w fun e w' => e = .returned (.bool true) ∧ Below w.heap.size w w' := by
  obtain ⟨x, rfl, hx⟩ := byte_of_wf wa
  obtain ⟨y, rfl, hy⟩ := byte_of_wf wb
  exact fieldsSub_true x y hx hy w
end Go.Proofs.Ytiaeocjhlglldaa
