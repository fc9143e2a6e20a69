/-
  Walks of nonces.Get and nonces.Compare.
-/
import Derived.Test.YtaaldjmopifcjaaNon5
import Derived.StillTailTactics
namespace Go.Proofs.Ytaaldjmopifcjaa
open Go.RowKit Sh

set_option maxHeartbeats 800000 in
theorem nget_bad (A : Option Addr) (n c : Nat) (d : Int) (hd : (n < 12 ∧ d = 6) ∨ (12 < n ∧ d = 5)) (w : World) :
    Calls Try.prog 20 #[.slice A n c] w fun e w' => e = .returned (.tuple #[.agg (noV 0 0), .int .i64 d]) ∧ Below w.heap.size w w' := by
  go_enter Try.func20, Try.ntmps20
  rcases hd with ⟨h1, rfl⟩ | ⟨h1, rfl⟩
  · have h2 : (n : Int) < 12 := by omega
    go_wp2
    exact bodyPost_ret (results_row_tmp rfl _ _ w.heap.size 35 (noV 0 0) _ _ rfl (Blk.newAt rfl) Try.underlying35 rfl (noV_info _ _) rfl) rfl ⟨rfl, (Below.refl _ _).alloc (Nat.le_refl _) _⟩
  · have h2 : (12 : Int) < (n : Int) := by omega
    go_wp2
    exact bodyPost_ret (results_row_tmp rfl _ _ w.heap.size 35 (noV 0 0) _ _ rfl (Blk.newAt rfl) Try.underlying35 rfl (noV_info _ _) rfl) rfl ⟨rfl, (Below.refl _ _).alloc (Nat.le_refl _) _⟩

set_option maxHeartbeats 800000 in
theorem nget_ok (A : Option Addr) (c B x y : Nat) (hc : 12 ≤ c) (l : List Nat) (hl : Byt l) (hx : beV (l.take 4) = x) (hy : beV (l.drop 4) = y) (w : World) (hr : Reads w B 1 A 12 (nv .u8 l)) (hB : B ≤ w.heap.size) :
    Calls Try.prog 20 #[.slice A 12 c] w fun e w' => e = .returned (.tuple #[.agg (noV x y), .int .i64 0]) ∧ Below w.heap.size w w' := by
  have hll := hr.len
  obtain ⟨ad, rfl, hbl, _⟩ := hr.num (i := 0) (by omega)
  have hr1 : Reads w B 1 (some ad) 4 (nv .u8 (l.take 4)) := by
    refine ⟨by rw [nv_len]; simp; omega, fun _ => ⟨ad, rfl, hbl, fun j u hu => ?_⟩⟩
    obtain ⟨ad', e, _, h⟩ := hr.2 (by omega)
    injection e with e
    subst e
    refine h j u ?_
    rw [← nv_take] at hu
    rw [List.getElem?_take] at hu
    split at hu
    · exact hu
    · cases hu
  have hr2 := hr.cut (k := 4) (by omega) (show 12 ≤ c from hc)
  rw [nv_drop, Nat.mul_one] at hr2
  have hne : c ≠ 4 := by omega
  rw [if_neg hne] at hr2
  have h1 := Lib.hid hr1
  have h2 := Lib.hid hr2
  have hc12 : (12 : Int) ≤ (c : Int) := by omega
  clear hr hr1 hr2
  go_enter Try.func20, Try.ntmps20
  have hx' := Lib.hid hx
  have hy' := Lib.hid hy
  clear hx hy
  go_wp2_with fail
  refine (get32_any (some ad) c B (l.take 4) (hl.take 4) _ (h1.out.alloc hB _)).mono ?_
  rintro e w1 ⟨rfl, rfl⟩
  rw [hx'.out]
  go_wp2_with fail
  refine (get64_any (some (ad.add 4)) (c - 4) B (l.drop 4) (fun z hz => hl z (List.mem_of_mem_drop hz)) _ (h2.out.alloc hB _)).mono ?_
  rintro e w1 ⟨rfl, rfl⟩
  rw [hy'.out]
  go_wp2
  exact bodyPost_ret (results_row_tmp rfl _ _ w.heap.size 35 (noV x y) _ _ rfl (Blk.newAt rfl) Try.underlying35 rfl (noV_info _ _) rfl) rfl ⟨rfl, (Below.refl _ _).alloc (Nat.le_refl _) _⟩

/-- the order of two numbers -/
def cmpN (a b : Nat) : Int := if a < b then -1 else if b < a then 1 else 0

theorem isnan32 (a : Int) (w : World) : Calls Try.prog 38 #[.int .u32 a] w fun e w' => e = .returned (.bool false) ∧ w = w' := by
  go_enter Try.func38, Try.ntmps38
  go_wp2
  go_ret
  exact ⟨rfl, rfl⟩
theorem isnan64 (a : Int) (w : World) : Calls Try.prog 39 #[.int .u64 a] w fun e w' => e = .returned (.bool false) ∧ w = w' := by
  go_enter Try.func39, Try.ntmps39
  go_wp2
  go_ret
  exact ⟨rfl, rfl⟩

set_option maxHeartbeats 800000 in
theorem cmp32 (a b : Nat) (w : World) : Calls Try.prog 33 #[.int .u32 (a : Int), .int .u32 (b : Int)] w fun e w' => e = .returned (.int .i64 (cmpN a b)) ∧ w = w' := by
  unfold cmpN
  by_cases h1 : a < b
  · have h2 : (a : Int) < (b : Int) := by omega
    rw [if_pos h1]
    go_enter Try.func33, Try.ntmps33
    go_wp2_with fail
    refine (isnan32 _ _).mono ?_
    rintro e w1 ⟨rfl, rfl⟩
    go_wp2_with fail
    refine (isnan32 _ _).mono ?_
    rintro e w1 ⟨rfl, rfl⟩
    go_wp2
    go_ret
    exact ⟨rfl, rfl⟩
  · rw [if_neg h1]
    by_cases h3 : b < a
    · have h2 : (b : Int) < (a : Int) := by omega
      rw [if_pos h3]
      go_enter Try.func33, Try.ntmps33
      go_wp2_with fail
      refine (isnan32 _ _).mono ?_
      rintro e w1 ⟨rfl, rfl⟩
      go_wp2_with fail
      refine (isnan32 _ _).mono ?_
      rintro e w1 ⟨rfl, rfl⟩
      go_wp2
      go_ret
      exact ⟨rfl, rfl⟩
    · obtain rfl : a = b := by omega
      rw [if_neg h3]
      go_enter Try.func33, Try.ntmps33
      go_wp2_with fail
      refine (isnan32 _ _).mono ?_
      rintro e w1 ⟨rfl, rfl⟩
      go_wp2_with fail
      refine (isnan32 _ _).mono ?_
      rintro e w1 ⟨rfl, rfl⟩
      go_wp2
      go_ret
      exact ⟨rfl, rfl⟩
set_option maxHeartbeats 800000 in
theorem cmp64 (a b : Nat) (w : World) : Calls Try.prog 34 #[.int .u64 (a : Int), .int .u64 (b : Int)] w fun e w' => e = .returned (.int .i64 (cmpN a b)) ∧ w = w' := by
  unfold cmpN
  by_cases h1 : a < b
  · have h2 : (a : Int) < (b : Int) := by omega
    rw [if_pos h1]
    go_enter Try.func34, Try.ntmps34
    go_wp2_with fail
    refine (isnan64 _ _).mono ?_
    rintro e w1 ⟨rfl, rfl⟩
    go_wp2_with fail
    refine (isnan64 _ _).mono ?_
    rintro e w1 ⟨rfl, rfl⟩
    go_wp2
    go_ret
    exact ⟨rfl, rfl⟩
  · rw [if_neg h1]
    by_cases h3 : b < a
    · have h2 : (b : Int) < (a : Int) := by omega
      rw [if_pos h3]
      go_enter Try.func34, Try.ntmps34
      go_wp2_with fail
      refine (isnan64 _ _).mono ?_
      rintro e w1 ⟨rfl, rfl⟩
      go_wp2_with fail
      refine (isnan64 _ _).mono ?_
      rintro e w1 ⟨rfl, rfl⟩
      go_wp2
      go_ret
      exact ⟨rfl, rfl⟩
    · obtain rfl : a = b := by omega
      rw [if_neg h3]
      go_enter Try.func34, Try.ntmps34
      go_wp2_with fail
      refine (isnan64 _ _).mono ?_
      rintro e w1 ⟨rfl, rfl⟩
      go_wp2_with fail
      refine (isnan64 _ _).mono ?_
      rintro e w1 ⟨rfl, rfl⟩
      go_wp2
      go_ret
      exact ⟨rfl, rfl⟩

/-- the first that is not 0 -/
def or2 (x y : Int) : Int := if x = 0 then y else x
set_option maxHeartbeats 800000 in
theorem or_two (x y : Int) (g : Nat) (w : World) (hg : Blk w g 3 #[.int .i64 x, .int .i64 y]) : Calls Try.prog 32 #[.slice (some ⟨g, 0, none⟩) 2 2] w fun e w' => e = .returned (.int .i64 (or2 x y)) ∧ w = w' := by
  have c0 : w.cell? ⟨g, 0, none⟩ = some (.int .i64 x) := hg.cell 0
  have c1 : w.cell? ⟨g, 1, none⟩ = some (.int .i64 y) := hg.cell 1
  have hcell : ∀ k : Nat, k < 2 → w.cell? ⟨g, k, none⟩ = some (.int .i64 (if k = 0 then x else y)) := fun k hk => by
    rcases Nat.lt_or_ge k 1 with h | h
    · obtain rfl : k = 0 := by omega
      exact c0
    · obtain rfl : k = 1 := by omega
      exact c1
  have hcl := Lib.hid hcell
  clear hcell c0 c1 hg
  go_enter Try.func32, Try.ntmps32
  go_wp2
  go_loop [8] (fun s => ∃ k : Nat, k ≤ 2 ∧ s = .int .i64 (k : Int) ∧ (0 < k → x = 0) ∧ (1 < k → y = 0)) (fun s => 2 - (intOf s).toNat)
  case atStart => exact ⟨0, by omega, rfl, fun h => by omega, fun h => by omega⟩
  case round =>
    obtain ⟨k, hk, rfl, hz1, hz2⟩ := hrel
    by_cases hlt : k < 2
    · have hlt' : (k : Int) < 2 := by omega
      have hc := hcl.out k hlt
      have hz1' := Lib.hid hz1
      have hz2' := Lib.hid hz2
      clear hz1 hz2
      obtain ⟨z, hz⟩ : ∃ z, (if k = 0 then x else y) = z := ⟨_, rfl⟩
      rw [hz] at hc
      have hzz := Lib.hid hz
      clear hz
      by_cases h0 : z = 0
      · subst h0
        go_wp2
        go_round
        case rel =>
          refine ⟨k + 1, by omega, by go_num, fun _ => ?_, fun h => ?_⟩
          · by_cases hk0 : k = 0
            · have := hzz.out; rw [if_pos hk0] at this; exact this
            · exact hz1'.out (by omega)
          · have := hzz.out; rw [if_neg (by omega)] at this; exact this
        case measure => simp [intOf]; omega
      · have hb : (z == 0) = false := by simpa using h0
        go_wp2
        go_ret
        refine ⟨ret_int ?_, rfl⟩
        unfold or2
        by_cases hk0 : k = 0
        · have := hzz.out; rw [if_pos hk0] at this; rw [this, if_neg h0]
        · have := hzz.out; rw [if_neg hk0] at this; rw [if_pos (hz1'.out (by omega)), this]
    · obtain rfl : k = 2 := by omega
      go_wp2
      go_ret
      refine ⟨ret_int ?_, rfl⟩
      have e1 := hz1 (by omega)
      have e2 := hz2 (by omega)
      simp [or2, e1, e2]

/-- the order of two nonces -/
def cmpNo (s1 c1 s2 c2 : Nat) : Int := or2 (cmpN s1 s2) (cmpN c1 c2)

set_option maxHeartbeats 1000000 in
theorem ncompare_any (s1 c1 s2 c2 : Nat) (w : World) : Calls Try.prog 22 #[.agg (noV s1 c1), .agg (noV s2 c2)] w fun e w' => e = .returned (.int .i64 (cmpNo s1 c1 s2 c2)) ∧ Below w.heap.size w w' := by
  unfold noV
  by_cases heq : s1 = s2 ∧ c1 = c2
  · obtain ⟨rfl, rfl⟩ := heq
    have hz : cmpNo s1 c1 s1 c1 = 0 := by simp [cmpNo, or2, cmpN]
    rw [hz]
    go_enter Try.func22, Try.ntmps22
    go_wp2
    go_ret
    exact ⟨rfl, ((Below.refl _ _).alloc (Nat.le_refl _) _).alloc (by simp) _⟩
  · have hB0 : Below w.heap.size w ((w.alloc (.cells #[.int .u32 (s1 : Int), .int .u64 (c1 : Int)] 35)).alloc (.cells #[.int .u32 (s2 : Int), .int .u64 (c2 : Int)] 35)).drew := below_drewN (((Below.refl _ _).alloc (Nat.le_refl _) _).alloc (by simp) _) 1
    have hB := Lib.hid hB0
    clear hB0
    unfold cmpNo
    by_cases hs : s1 = s2
    · have hc : c1 ≠ c2 := fun h => heq ⟨hs, h⟩
      have hb : ((c1 : Int) == (c2 : Int)) = false := by rw [beq_eq_false_iff_ne]; omega
      subst hs
      clear heq hc
      go_enter Try.func22, Try.ntmps22
      go_wp2
      refine wp_region_still_tail 10 (by kernel_rfl) (by kernel_rfl) ?_
      simp only [List.take_succ_cons, List.take_zero, List.drop_succ_cons, List.drop_zero]
      change wpStill _ _ (World.drew ((w.alloc (.cells #[.int .u32 (s1 : Int), .int .u64 (c1 : Int)] 35)).alloc (.cells #[.int .u32 (s1 : Int), .int .u64 (c2 : Int)] 35))) _ _ _
      iterate 4 still_step
      still_call ((cmp32 s1 s1 _).mono (fun e w' h => ⟨h.1, h.2.symm⟩))
      iterate 4 still_step
      still_call ((cmp64 c1 c2 _).mono (fun e w' h => ⟨h.1, h.2.symm⟩))
      try refine wpStill_nil ?_
      change wpList _ _ _ _ _ (World.drew ((w.alloc (.cells #[.int .u32 (s1 : Int), .int .u64 (c1 : Int)] 35)).alloc (.cells #[.int .u32 (s1 : Int), .int .u64 (c2 : Int)] 35)))
      go_wp2_with fail
      refine (or_two (cmpN s1 s1) (cmpN c1 c2) (w.heap.size + 1 + 1) _ ?_).mono ?_
      · exact (Blk.newAt (by simp)).drew
      rintro e w1 ⟨rfl, rfl⟩
      go_wp2
      go_ret
      exact ⟨rfl, below_drewN ((((Below.refl _ _).alloc (Nat.le_refl _) _).alloc (by simp) _).alloc (by simp <;> omega) _) 1⟩
    · have hb : ((s1 : Int) == (s2 : Int)) = false := by rw [beq_eq_false_iff_ne]; omega
      clear heq hs
      go_enter Try.func22, Try.ntmps22
      go_wp2
      refine wp_region_still_tail 10 (by kernel_rfl) (by kernel_rfl) ?_
      simp only [List.take_succ_cons, List.take_zero, List.drop_succ_cons, List.drop_zero]
      change wpStill _ _ (World.drew ((w.alloc (.cells #[.int .u32 (s1 : Int), .int .u64 (c1 : Int)] 35)).alloc (.cells #[.int .u32 (s2 : Int), .int .u64 (c2 : Int)] 35))) _ _ _
      iterate 4 still_step
      still_call ((cmp32 s1 s2 _).mono (fun e w' h => ⟨h.1, h.2.symm⟩))
      iterate 4 still_step
      still_call ((cmp64 c1 c2 _).mono (fun e w' h => ⟨h.1, h.2.symm⟩))
      try refine wpStill_nil ?_
      change wpList _ _ _ _ _ (World.drew ((w.alloc (.cells #[.int .u32 (s1 : Int), .int .u64 (c1 : Int)] 35)).alloc (.cells #[.int .u32 (s2 : Int), .int .u64 (c2 : Int)] 35)))
      go_wp2_with fail
      refine (or_two (cmpN s1 s2) (cmpN c1 c2) (w.heap.size + 1 + 1) _ ?_).mono ?_
      · exact (Blk.newAt (by simp)).drew
      rintro e w1 ⟨rfl, rfl⟩
      go_wp2
      go_ret
      exact ⟨rfl, below_drewN ((((Below.refl _ _).alloc (Nat.le_refl _) _).alloc (by simp) _).alloc (by simp <;> omega) _) 1⟩
end Go.Proofs.Ytaaldjmopifcjaa
