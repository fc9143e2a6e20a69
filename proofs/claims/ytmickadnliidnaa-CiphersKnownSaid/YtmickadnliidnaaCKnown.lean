/-
  The walk of CiphersKnown.
-/
import Derived.Test.YtmickadnliidnaaCLwExp
import Derived.Test.YtmickadnliidnaaCLwEnc
import Derived.Test.YtmickadnliidnaaCLwBk
namespace Go.Proofs.Ytmickadnliidnaa
open Go.RowKit

def schL (b : List Nat) : List Nat := b ++ (z16 ++ (b ++ List.replicate 128 0))
theorem schL_len {b : List Nat} (h : b.length = 16) : (schL b).length = 176 := by
  simp [schL, h, z16_len]
theorem z16_byt : Ci.Byt z16 := fun x hx => by rw [List.eq_of_mem_replicate hx]; omega
theorem schL_byt {b : List Nat} (h : Ci.Byt b) : Ci.Byt (schL b) := fun x hx => by
  simp only [schL, List.mem_append] at hx
  rcases hx with hx | hx | hx | hx
  · exact h x hx
  · exact z16_byt x hx
  · exact h x hx
  · rw [List.eq_of_mem_replicate hx]; omega
theorem built_z16 : Try.prog.built 22 [] = some (va .u8 z16) := by kernel_rfl
theorem built_sch {b : List Nat} (h : b.length = 16) : Try.prog.built 23 [(0, .agg (va .u8 b)), (1, .agg (va .u8 z16)), (2, .agg (va .u8 b))] = some (va .u8 (schL b)) := by
  obtain ⟨a0, a1, a2, a3, a4, a5, a6, a7, a8, a9, a10, a11, a12, a13, a14, a15, rfl⟩ := list16 h
  kernel_rfl

def encz : List Nat := [102, 233, 75, 212, 239, 138, 44, 59, 136, 76, 250, 89, 202, 52, 43, 46]
theorem ex_encz : Ci.enc (Ci.exL z16) z16 = encz := by decide +kernel
theorem built_encz : Try.prog.built 22 [(0, .int .u8 102), (1, .int .u8 233), (2, .int .u8 75), (3, .int .u8 212), (4, .int .u8 239), (5, .int .u8 138), (6, .int .u8 44), (7, .int .u8 59), (8, .int .u8 136), (9, .int .u8 76), (10, .int .u8 250), (11, .int .u8 89), (12, .int .u8 202), (13, .int .u8 52), (14, .int .u8 43), (15, .int .u8 46)] = some (va .u8 encz) := by kernel_rfl
def oneL (i : Nat) : List Nat := z16.set i (2 ^ (i % 8))
theorem oneL_len (i : Nat) : (oneL i).length = 16 := by simp [oneL, z16_len]
theorem one_lt (i : Nat) : 2 ^ (i % 8) < 256 := by
  have : 2 ^ (i % 8) ≤ 2 ^ 7 := Nat.pow_le_pow_right (by omega) (by omega)
  omega
theorem oneL_byt (i : Nat) : Ci.Byt (oneL i) := fun x hx => by
  rcases List.mem_or_eq_of_mem_set hx with h | h
  · exact z16_byt x h
  · rw [h]; exact one_lt i

set_option maxHeartbeats 1000000 in
theorem known_any (w : World) : Calls Try.prog 7 #[] w fun e w' => e = .returned (.bool true) ∧ Below w.heap.size w w' := by
  have hzv := zero16
  have hsz0 : (Try.prog.info? 22).map (·.size) = some 16 := by kernel_rfl
  have hszq := Lib.hid hsz0
  clear hsz0
  go_enter Try.func7, Try.ntmps7
  go_wp2
  go_loopw [1] (fun s wr => ∃ i : Nat, i ≤ 16 ∧ s = .int .i64 (i : Int) ∧ Below w.heap.size w wr) (fun s _ => 16 - (intOf s).toNat)
  case atStart => exact ⟨0, by omega, rfl, Below.refl _ _⟩
  case round =>
    obtain ⟨i, hi16, rfl, hbel⟩ := hrel
    by_cases hli : i < 16
    · have hliI : (i : Int) < 16 := by omega
      obtain ⟨m, hm⟩ : ∃ m, i % 8 = m := ⟨_, rfl⟩
      have hmI : (i : Int).tmod 8 = (m : Int) := by rw [Int.tmod_eq_emod_of_nonneg (by omega)]; omega
      have hmE : (i : Int) % 8 = (m : Int) := by omega
      have hm8 : (m : Int) < 8 := by omega
      have hz0 : (va .u8 z16)[i]? = some (.int .u8 ((z16.getD i 0 : Nat) : Int)) := va_get (by rw [z16_len]; exact hli)
      obtain ⟨v, hv⟩ : ∃ v, 2 ^ m = v := ⟨_, rfl⟩
      have hvl : v < 256 := by rw [← hv, ← hm]; exact one_lt i
      have hpw : (2 : Int) ^ m % 256 = (v : Int) := by
        rw [show (2 : Int) ^ m = ((2 ^ m : Nat) : Int) from by rw [Int.natCast_pow]; rfl, hv]; omega
      have hone : z16.set i v = oneL i := by unfold oneL; rw [hm, hv]
      have hset := va_set .u8 z16 i v
      rw [hone] at hset
      have hbl := oneL_len i
      have hbb := oneL_byt i
      generalize oneL i = b at *
      generalize z16.getD i 0 = y0 at *
      clear hone hv
      go_upto_region 6 with fail
      have hszb := Lib.hid (show (Try.prog.info? 22).map (·.size) = some (va .u8 b).size by rw [va_size, hbl]; exact hszq.out)
      have hB : Blk (wr.alloc (.cells (va .u8 b) 22)) wr.heap.size 22 (va .u8 b) := Blk.new _ _ _
      have hw2 : Below w.heap.size w (wr.alloc (.cells (va .u8 b) 22)) := hbel.alloc hbel.size _
      have hBq := Lib.hid hB
      have hwq := Lib.hid hw2
      clear hB hw2 hset hz0 hpw hmI hmE hm8 hm hzv hbel
      obtain ⟨Y, hY⟩ : ∃ Y, wr.heap.size = Y := ⟨_, rfl⟩
      rw [hY] at hBq
      rw [hY]
      generalize wr.alloc (.cells (va .u8 b) 22) = w2 at *
      clear hY
      refine wp_region_lit ?_
      refine runP 12 (.agg (va .u8 z16)) rfl (by rfl) (exec_build 22 _ rfl (va .u8 z16) (by exact built_z16)) ?_
      simp only [List.set_cons_zero, List.set_cons_succ]
      refine runP 13 (.agg (va .u8 b)) rfl (by rfl) (exec_row 22 (.tmp 2) rfl Y rfl 22 (va .u8 b) _ hBq.out Try.underlying22 rfl hszb.out) ?_
      simp only [List.set_cons_zero, List.set_cons_succ]
      refine callP 14 rfl (by rfl) (fun K hK => ?_)
      go_simp
      refine (lawEncrypt z16 b z16_len hbl z16_byt hbb _).mono ?_
      rintro e w' ⟨rfl, bx⟩
      dsimp only
      refine hK.out _ _ ?_
      clear hK K
      replace hBq := Lib.hid (hBq.out.below bx hBq.out.lt)
      replace hwq := Lib.hid (hwq.out.trans (bx.mono hwq.out.size))
      clear bx
      simp only [List.set_cons_zero, List.set_cons_succ]
      refine runP 15 (.bool false) rfl (by rfl) (by go_simp) ?_
      simp only [List.set_cons_zero, List.set_cons_succ]
      refine runP 16 (.bool false) rfl (by rfl) (by go_simp) ?_
      simp only [List.set_cons_zero, List.set_cons_succ]
      refine runP 17 (.agg (va .u8 b)) rfl (by rfl) (exec_row 22 (.tmp 2) rfl Y rfl 22 (va .u8 b) _ hBq.out Try.underlying22 rfl hszb.out) ?_
      simp only [List.set_cons_zero, List.set_cons_succ]
      refine runP 18 (.agg (va .u8 z16)) rfl (by rfl) (exec_build 22 _ rfl (va .u8 z16) (by exact built_z16)) ?_
      simp only [List.set_cons_zero, List.set_cons_succ]
      refine callP 19 rfl (by rfl) (fun K hK => ?_)
      go_simp
      refine (lawEncrypt b z16 hbl z16_len hbb z16_byt _).mono ?_
      rintro e w' ⟨rfl, bx⟩
      dsimp only
      refine hK.out _ _ ?_
      clear hK K
      replace hBq := Lib.hid (hBq.out.below bx hBq.out.lt)
      replace hwq := Lib.hid (hwq.out.trans (bx.mono hwq.out.size))
      clear bx
      simp only [List.set_cons_zero, List.set_cons_succ]
      refine runP 20 (.bool false) rfl (by rfl) (by go_simp) ?_
      simp only [List.set_cons_zero, List.set_cons_succ]
      refine runP 21 (.bool false) rfl (by rfl) (by go_simp) ?_
      simp only [List.set_cons_zero, List.set_cons_succ]
      refine runP 22 (.bool false) rfl (by rfl) (by go_simp) ?_
      simp only [List.set_cons_zero, List.set_cons_succ]
      refine runP 23 (.agg (va .u8 b)) rfl (by rfl) (exec_row 22 (.tmp 2) rfl Y rfl 22 (va .u8 b) _ hBq.out Try.underlying22 rfl hszb.out) ?_
      simp only [List.set_cons_zero, List.set_cons_succ]
      refine callP 24 rfl (by rfl) (fun K hK => ?_)
      go_simp
      refine (lawExpand b hbl hbb _).mono ?_
      rintro e w' ⟨rfl, bx⟩
      dsimp only
      refine hK.out _ _ ?_
      clear hK K
      replace hBq := Lib.hid (hBq.out.below bx hBq.out.lt)
      replace hwq := Lib.hid (hwq.out.trans (bx.mono hwq.out.size))
      clear bx
      simp only [List.set_cons_zero, List.set_cons_succ]
      refine runP 25 (.bool false) rfl (by rfl) (by go_simp) ?_
      simp only [List.set_cons_zero, List.set_cons_succ]
      refine runP 26 (.bool false) rfl (by rfl) (by go_simp) ?_
      simp only [List.set_cons_zero, List.set_cons_succ]
      refine runP 27 (.bool false) rfl (by rfl) (by go_simp) ?_
      simp only [List.set_cons_zero, List.set_cons_succ]
      refine runP 28 (.agg (va .u8 b)) rfl (by rfl) (exec_row 22 (.tmp 2) rfl Y rfl 22 (va .u8 b) _ hBq.out Try.underlying22 rfl hszb.out) ?_
      simp only [List.set_cons_zero, List.set_cons_succ]
      refine runP 29 (.agg (va .u8 z16)) rfl (by rfl) (exec_build 22 _ rfl (va .u8 z16) (by exact built_z16)) ?_
      simp only [List.set_cons_zero, List.set_cons_succ]
      refine runP 30 (.agg (va .u8 b)) rfl (by rfl) (exec_row 22 (.tmp 2) rfl Y rfl 22 (va .u8 b) _ hBq.out Try.underlying22 rfl hszb.out) ?_
      simp only [List.set_cons_zero, List.set_cons_succ]
      refine runP 31 (.agg (va .u8 (schL b))) rfl (by rfl) (exec_build 23 _ rfl (va .u8 (schL b)) (by exact built_sch hbl)) ?_
      simp only [List.set_cons_zero, List.set_cons_succ]
      refine runP 32 (.agg (va .u8 b)) rfl (by rfl) (exec_row 22 (.tmp 2) rfl Y rfl 22 (va .u8 b) _ hBq.out Try.underlying22 rfl hszb.out) ?_
      simp only [List.set_cons_zero, List.set_cons_succ]
      refine callP 33 rfl (by rfl) (fun K hK => ?_)
      go_simp
      refine (lawBack (schL b) b (schL_len hbl) hbl (schL_byt hbb) hbb _).mono ?_
      rintro e w' ⟨rfl, bx⟩
      dsimp only
      refine hK.out _ _ ?_
      clear hK K
      replace hBq := Lib.hid (hBq.out.below bx hBq.out.lt)
      replace hwq := Lib.hid (hwq.out.trans (bx.mono hwq.out.size))
      clear bx
      simp only [List.set_cons_zero, List.set_cons_succ]
      refine runP 34 (.bool false) rfl (by rfl) (by go_simp) ?_
      simp only [List.set_cons_zero, List.set_cons_succ]
      refine runP 35 (.bool false) rfl (by rfl) (by go_simp) ?_
      simp only [List.set_cons_zero, List.set_cons_succ]
      refine wpList_nil ?_
      go_wp2
      go_roundw
      case rel => exact ⟨i + 1, by omega, by go_num, hwq.out⟩
      case measure => simp [intOf]; omega
    · have hiI : 16 ≤ (i : Int) := by omega
      have hLl := Ci.exL_len z16
      have hLb := Ci.exL_byt z16_byt
      have hEe := ex_encz
      have hc1 := expand_any z16 z16_len z16_byt
      generalize Ci.exL z16 = L at *
      have hEq := Lib.hid hEe
      have hwq := Lib.hid hbel
      have hsm := same16 encz rfl
      have hc1h := Lib.hid hc1
      have hc2h := Lib.hid (fun w => enc_to L z16 encz hLl z16_len hLb z16_byt hEq.out w)
      clear hzv hbel hEe hc1 hLl hLb
      go_upto_region 8 with fail
      refine wp_region_lit ?_
      refine runP 36 (.agg (va .u8 z16)) rfl (by rfl) (exec_build 22 _ rfl (va .u8 z16) (by exact built_z16)) ?_
      simp only [List.set_cons_zero, List.set_cons_succ]
      refine callP 37 rfl (by rfl) (fun K hK => ?_)
      go_simp
      refine (hc1h.out _).mono ?_
      rintro e w' ⟨rfl, bx⟩
      dsimp only
      refine hK.out _ _ ?_
      clear hK K
      replace hwq := Lib.hid (hwq.out.trans (bx.mono hwq.out.size))
      clear bx
      simp only [List.set_cons_zero, List.set_cons_succ]
      refine runP 38 (.agg (va .u8 z16)) rfl (by rfl) (exec_build 22 _ rfl (va .u8 z16) (by exact built_z16)) ?_
      simp only [List.set_cons_zero, List.set_cons_succ]
      refine callP 39 rfl (by rfl) (fun K hK => ?_)
      go_simp
      refine (hc2h.out _).mono ?_
      rintro e w' ⟨rfl, bx⟩
      dsimp only
      refine hK.out _ _ ?_
      clear hK K
      replace hwq := Lib.hid (hwq.out.trans (bx.mono hwq.out.size))
      clear bx
      simp only [List.set_cons_zero, List.set_cons_succ]
      refine runP 40 (.agg (va .u8 encz)) rfl (by rfl) (exec_build 22 _ rfl (va .u8 encz) (by exact built_encz)) ?_
      simp only [List.set_cons_zero, List.set_cons_succ]
      refine runP 41 (.bool true) rfl (by rfl) (by go_simp) ?_
      simp only [List.set_cons_zero, List.set_cons_succ]
      refine runP 42 (.bool true) rfl (by rfl) (by go_simp) ?_
      simp only [List.set_cons_zero, List.set_cons_succ]
      refine callP 43 rfl (by rfl) (fun K hK => ?_)
      go_simp
      refine (lives_any _).mono ?_
      rintro e w' ⟨rfl, bx⟩
      dsimp only
      refine hK.out _ _ ?_
      clear hK K
      replace hwq := Lib.hid (hwq.out.trans (bx.mono hwq.out.size))
      clear bx
      simp only [List.set_cons_zero, List.set_cons_succ]
      refine runP 44 (.bool true) rfl (by rfl) (by go_simp) ?_
      simp only [List.set_cons_zero, List.set_cons_succ]
      refine runP 0 (.bool true) rfl (by rfl) (by go_simp) ?_
      simp only [List.set_cons_zero]
      refine wpList_nil ?_
      go_wp2_with fail
      go_ret
      exact ⟨rfl, hwq.out⟩
end Go.Proofs.Ytmickadnliidnaa
