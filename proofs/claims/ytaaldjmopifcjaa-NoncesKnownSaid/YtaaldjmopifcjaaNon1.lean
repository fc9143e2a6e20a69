/-
  Walks of the allocator's Check, of the reference's Check, and of New.
-/
import Derived.Test.YtaaldjmopifcjaaMemB
namespace Go.Proofs.Ytaaldjmopifcjaa
open Go.RowKit

/-- an allocator as a value -/
def alV (A : Option Addr) (n c m l r : Nat) : Array Value := #[.slice A n c, .int .u64 (m : Int), .int .u64 (l : Int), .int .u64 (r : Int)]

/-- its error: 0 or 1 -/
def chk (cs : List Nat) (m l r : Nat) : Nat :=
  if cs.length < 1 then 1 else if 8 < cs.length then 1 else if l < m then 1 else if r < 1 then 1 else if 4294967296 < r then 1 else if l < r then 1 else if cs.any (fun c => decide (m < c)) then 1 else 0

theorem chk_head {cs : List Nat} {n m l r : Nat} (hn : cs.length = n) (h : n < 1 ∨ 8 < n ∨ l < m ∨ r < 1 ∨ 4294967296 < r ∨ l < r) : chk cs m l r = 1 := by
  subst hn
  unfold chk
  repeat' split
  all_goals first | rfl | omega
theorem chk_tail {cs : List Nat} {n m l r : Nat} (hn : cs.length = n) (h : ¬ (n < 1 ∨ 8 < n ∨ l < m ∨ r < 1 ∨ 4294967296 < r ∨ l < r)) : chk cs m l r = if cs.any (fun c => decide (m < c)) then 1 else 0 := by
  subst hn
  unfold chk
  simp only [not_or] at h
  obtain ⟨h1, h2, h3, h4, h5, h6⟩ := h
  rw [if_neg h1, if_neg h2, if_neg h3, if_neg h4, if_neg h5, if_neg h6]
theorem any_hit {cs : List Nat} {m k : Nat} (hk : k < cs.length) (hm : m < cs.getD k 0) : cs.any (fun c => decide (m < c)) = true := by
  rw [List.any_eq_true]
  refine ⟨cs[k], List.getElem_mem hk, ?_⟩
  simp [List.getD_eq_getElem?_getD, hk] at hm
  simpa using hm
theorem any_miss {cs : List Nat} {m : Nat} (h : ∀ i, i < cs.length → cs.getD i 0 ≤ m) : cs.any (fun c => decide (m < c)) = false := by
  rw [List.any_eq_false]
  intro x hx
  obtain ⟨i, hi, rfl⟩ := List.mem_iff_getElem.1 hx
  have := h i hi
  simp [List.getD_eq_getElem?_getD, hi] at this
  simpa using this

set_option maxHeartbeats 800000 in
theorem check_any (A : Option Addr) (n c m l r B : Nat) (cs : List Nat) (w : World) (hr : Reads w B 1 A n (nv .u64 cs)) (hB : B ≤ w.heap.size) :
    Calls Try.prog 11 #[.agg (alV A n c m l r)] w fun e w' => e = .returned (.int .i64 (chk cs m l r : Nat)) ∧ Below w.heap.size w w' := by
  have hN := Lib.hid hr.len
  unfold alV
  go_enter Try.func11, Try.ntmps11
  have hlr := Lib.hid (hr.alloc hB (Obj.cells (alV A n c m l r) 25))
  have hbl := Lib.hid ((Below.refl w.heap.size w).alloc (Nat.le_refl _) (Obj.cells (alV A n c m l r) 25))
  clear hr
  unfold alV at *
  go_wp2
  rotate_left 2
  · go_loop [42] (fun s => ∃ k : Nat, k ≤ n ∧ s = .int .i64 (k : Int) ∧ ∀ i, i < k → cs.getD i 0 ≤ m) (fun s => n - (intOf s).toNat)
    case atStart => exact ⟨0, by omega, rfl, fun i hi => by omega⟩
    case round =>
      obtain ⟨k, hk, rfl, hall⟩ := hrel
      by_cases hlt : k < n
      · have hlt' : (k : Int) < (n : Int) := by omega
        obtain ⟨ad, rfl, hbl2, hc⟩ := hlr.out.num hlt
        have hall' := Lib.hid hall
        clear hall
        by_cases hgt : m < cs.getD k 0
        · have hgt' := Lib.hid hgt
          generalize hx : cs.getD k 0 = x at *
          go_wp2
          go_ret
          refine ⟨ret_int ?_, hbl.out⟩
          rw [chk_tail hN.out (by omega), any_hit (k := k) (by have := hN.out; omega) (by rw [hx]; exact hgt)]; rfl
        · have hgt' := Lib.hid hgt
          obtain ⟨x, hx⟩ : ∃ x, cs.getD k 0 = x := ⟨_, rfl⟩
          rw [hx] at hgt hgt' hc
          have hxe := Lib.hid hx
          clear hx
          go_wp2
          go_round
          case rel =>
            refine ⟨k + 1, by omega, by go_num, fun i hi => ?_⟩
            rcases Nat.lt_or_ge i k with h0 | h0
            · exact hall'.out i h0
            · obtain rfl : i = k := by omega
              rw [hxe.out]; have h2 := hgt'.out; omega
          case measure => simp [intOf]; omega
      · obtain rfl : n = k := by omega
        go_wp2
        go_ret
        refine ⟨ret_int ?_, hbl.out⟩
        rw [chk_tail hN.out (by omega), any_miss (by rw [hN.out]; exact hall)]; rfl
  all_goals
    go_ret
    exact ⟨ret_int (by rw [chk_head hN.out (by omega)]; rfl), hbl.out⟩

set_option maxHeartbeats 800000 in
theorem rcheck_any (A : Option Addr) (n c m l r B : Nat) (cs : List Nat) (w : World) (hr : Reads w B 1 A n (nv .u64 cs)) :
    Calls Try.prog 9 #[.slice A n c, .int .u64 (m : Int), .int .u64 (l : Int), .int .u64 (r : Int)] w fun e w' => e = .returned (.int .i64 (chk cs m l r : Nat)) ∧ w = w' := by
  have hN := Lib.hid hr.len
  go_enter Try.func9, Try.ntmps9
  have hlr := Lib.hid hr
  clear hr
  go_wp2
  all_goals first
    | (go_ret; exact ⟨ret_int (by rw [chk_head hN.out (by omega)]; rfl), rfl⟩)
    | (go_ret; exact ⟨ret_int (by rw [chk_head hN.out (by simp only [beq_iff_eq] at *; omega)]; rfl), rfl⟩)
    | skip
  · go_loop [9] (fun s => ∃ k : Nat, k ≤ n ∧ s = .int .i64 (k : Int) ∧ ∀ i, i < k → cs.getD i 0 ≤ m) (fun s => n - (intOf s).toNat)
    case atStart => exact ⟨0, by omega, rfl, fun i hi => by omega⟩
    case round =>
      obtain ⟨k, hk, rfl, hall⟩ := hrel
      by_cases hlt : k < n
      · have hlt' : (k : Int) < (n : Int) := by omega
        obtain ⟨ad, rfl, hbl2, hc⟩ := hlr.out.num hlt
        have hall' := Lib.hid hall
        clear hall
        by_cases hgt : m < cs.getD k 0
        · have hgt' := Lib.hid hgt
          generalize hx : cs.getD k 0 = x at *
          go_wp2
          go_ret
          refine ⟨ret_int ?_, rfl⟩
          rw [chk_tail hN.out (by omega), any_hit (k := k) (by have := hN.out; omega) (by rw [hx]; exact hgt)]; rfl
        · have hgt' := Lib.hid hgt
          obtain ⟨x, hx⟩ : ∃ x, cs.getD k 0 = x := ⟨_, rfl⟩
          rw [hx] at hgt hgt' hc
          have hxe := Lib.hid hx
          clear hx
          go_wp2
          go_round
          case rel =>
            refine ⟨k + 1, by omega, by go_num, fun i hi => ?_⟩
            rcases Nat.lt_or_ge i k with h0 | h0
            · exact hall'.out i h0
            · obtain rfl : i = k := by omega
              rw [hxe.out]; have h2 := hgt'.out; omega
          case measure => simp [intOf]; omega
      · obtain rfl : n = k := by omega
        go_wp2
        go_ret
        refine ⟨ret_int ?_, rfl⟩
        rw [chk_tail hN.out (by omega), any_miss (by rw [hN.out]; exact hall)]; rfl
end Go.Proofs.Ytaaldjmopifcjaa
