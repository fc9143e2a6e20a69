/-
  Walks of New and own.
-/
import Derived.Test.YtaaldjmopifcjaaNon1
import Derived.Test.YtaaldjmopifcjaaRes
namespace Go.Proofs.Ytaaldjmopifcjaa
open Go.RowKit

theorem u64_info : (Try.prog.info? 23).map (fun i => (i.zero, i.size, i.bytes)) = some (some (.int .u64 0), 1, 8) := by kernel_rfl
/-- make([]uint64, n) -/
theorem make_u64 (n : Nat) (hn : n ≤ 35184372088832) (w : World) :
    (Instr.makeSlice 22 (.int .i64 (n : Int)) (.int .i64 (n : Int))).run Try.prog w = .ok (.slice (some ⟨w.heap.size, 0, none⟩) n n) (w.alloc (.cells (va .u64 (List.replicate n 0)) 23)) := by
  obtain ⟨i0, hi, hz0, hz1, hz2⟩ := info_parts u64_info
  have h := run_make_rowN (P := Try.prog) 22 23 i0 (.int .u64 0) Try.underlying22 hi hz0 .i64 .i64 n n (Nat.le_refl _) (by rw [hz2]; omega) (by omega) w
  rw [h, va_rep, hz1, made_one _ rfl]

theorem alV_size (A : Option Addr) (n c m l r : Nat) : (alV A n c m l r).size = 4 := rfl
theorem alV_one (A : Option Addr) (n c m l r : Nat) : ∀ v ∈ (alV A n c m l r).toList, v.oneCell' = true := by
  intro v hv
  simp [alV] at hv
  rcases hv with rfl | rfl | rfl | rfl <;> rfl
theorem alV_info (A : Option Addr) (n c m l r : Nat) : (Try.prog.info? 25).map (·.size) = some (alV A n c m l r).size := by rw [alV_size]; kernel_rfl

theorem alV_cells {w : World} {g : Nat} {t : TypeId} {A : Option Addr} {n c m l r : Nat} (h : Blk w g t (alV A n c m l r)) :
    w.cell? ⟨g, 0, none⟩ = some (.slice A n c) ∧ w.cell? ⟨g, 1, none⟩ = some (.int .u64 (m : Int)) ∧ w.cell? ⟨g, 2, none⟩ = some (.int .u64 (l : Int)) ∧ w.cell? ⟨g, 3, none⟩ = some (.int .u64 (r : Int)) :=
  ⟨h.cell 0, h.cell 1, h.cell 2, h.cell 3⟩
theorem blk_frozen4 {w : World} {g : Nat} {t : TypeId} {cs : Array Value} (h : Blk w g t cs) :
    w.frozen? ⟨g, 0, none⟩ = false ∧ w.frozen? ⟨g, 1, none⟩ = false ∧ w.frozen? ⟨g, 2, none⟩ = false ∧ w.frozen? ⟨g, 3, none⟩ = false :=
  ⟨h.frozen 0, h.frozen 1, h.frozen 2, h.frozen 3⟩

set_option maxHeartbeats 800000 in
theorem new_good (k l r : Nat) (hk : 1 ≤ k) (hk8 : k ≤ 8) (hc : chk (List.replicate k 0) 0 l r = 0) (w : World) :
    Calls Try.prog 10 #[.int .i64 (k : Int), .int .u64 (l : Int), .int .u64 (r : Int)] w fun e w' =>
      ∃ g, e = .returned (.tuple #[.agg (alV (some ⟨g, 0, none⟩) k k 0 l r), .int .i64 0]) ∧ Blk w' g 23 (va .u64 (List.replicate k 0)) ∧ w.heap.size ≤ g ∧ Below w.heap.size w w' := by
  have hmk := make_u64 k (by omega)
  have h1 : (1 : Int) ≤ (k : Int) := by omega
  have h8 : (k : Int) ≤ 8 := by omega
  go_enter Try.func10, Try.ntmps10
  go_wp2_with fail
  refine (check_any (some ⟨w.heap.size + 1, 0, none⟩) k k 0 l r (w.heap.size + 2) (List.replicate k 0) _ (Blk.readsAll ((Blk.newAt (by simp <;> omega)).alloc _) (by simp) (by simp <;> omega)) (by simp <;> omega)).mono ?_
  rintro e w1 ⟨rfl, b1⟩
  have hA : Blk w1 (w.heap.size + 1 + 1) 25 (alV (some ⟨w.heap.size + 1, 0, none⟩) k k 0 l r) := Blk.below (Blk.newAt (by simp <;> omega)) b1 (by simp <;> omega)
  have hM : Blk w1 (w.heap.size + 1) 23 (va .u64 (List.replicate k 0)) := Blk.below ((Blk.newAt (by simp <;> omega)).alloc _) b1 (by simp <;> omega)
  have hR : Blk w1 w.heap.size 25 (alV none 0 0 0 0 0) := Blk.below (((Blk.newAt rfl).alloc _).alloc _) b1 (by simp <;> omega)
  have hb : Below w.heap.size w w1 := Below.trans ((((Below.refl _ _).alloc (Nat.le_refl _) _).alloc (by simp <;> omega) _).alloc (by simp <;> omega) _) (b1.mono (by simp <;> omega))
  clear b1
  rw [hc]
  have hst := run_storeBlkA (P := Try.prog) hR (alV (some ⟨w.heap.size + 1, 0, none⟩) k k 0 l r) rfl (alV_one _ _ _ _ _ _)
  go_wp2_with (refine wpList_load_row rfl 25 (.tmp 8) rfl (w.heap.size + 1 + 1) rfl 25 (alV (some ⟨w.heap.size + 1, 0, none⟩) k k 0 l r) (0, 0) _ hA Try.underlying25 rfl (alV_info _ _ _ _ _ _) ?_)
  exact bodyPost_ret (results_row_tmp rfl _ _ w.heap.size 25 _ _ _ rfl (hR.row _) Try.underlying25 rfl (alV_info _ _ _ _ _ _) rfl) rfl
    ⟨_, rfl, hM.rowFar (by omega) _, by omega, below_setRow hb (Nat.le_refl _) _⟩

set_option maxHeartbeats 800000 in
theorem new_low (k : Int) (l r : Nat) (hk : k < 1 ∨ 8 < k) (w : World) :
    Calls Try.prog 10 #[.int .i64 k, .int .u64 (l : Int), .int .u64 (r : Int)] w fun e w' =>
      e = .returned (.tuple #[.agg (alV none 0 0 0 0 0), .int .i64 1]) ∧ Below w.heap.size w w' := by
  go_enter Try.func10, Try.ntmps10
  go_wp2
  all_goals
   exact bodyPost_ret (results_row_tmp rfl _ _ w.heap.size 25 (alV none 0 0 0 0 0) _ _ rfl (Blk.newAt rfl) Try.underlying25 rfl (alV_info _ _ _ _ _ _) rfl) rfl
    ⟨rfl, (Below.refl _ _).alloc (Nat.le_refl _) _⟩

/-- copy of numbers into a block that was just made -/
theorem copy_u64_new (u : World) (g : Nat) (hg : u.heap.size = g) (ad : Addr) (n c B : Nat) (cs : List Nat) (hr : Reads u B 1 (some ad) n (nv .u64 cs)) (hn : 1 ≤ n) (hB : B ≤ u.heap.size) :
    (Builtin.copy_ #[22, 22] 3 #[.slice (some ⟨g, 0, none⟩) n n, .slice (some ad) n c]).run Try.prog (u.alloc (.cells (va .u64 (List.replicate n 0)) 23)) = .ok (.int .i64 (n : Int)) (u.alloc (.cells (va .u64 cs) 23)) := by
  subst hg
  have hl := hr.len
  have hr2 := hr.alloc hB (.cells (va .u64 (List.replicate n 0)) 23)
  obtain ⟨ad', e, hb, hc⟩ := hr2.2 (by omega)
  injection e with e
  subst e
  have h := run_copy_row (P := Try.prog) (u.alloc (.cells (va .u64 (List.replicate n 0)) 23)) 22 22 3 23 u.heap.size 0 n n ad n c (va .u64 (List.replicate n 0)) 23 (nv .u64 cs) Try.underlying22 (by kernel_rfl)
    (Blk.new _ _ _) (by rw [nv_len, hl]; exact (Nat.min_self n).symm) hc (by rw [nv_len, va_size]; simp; omega) (nv_one _ _)
  rw [h, nv_len, hl]
  have e2 : ((va .u64 (List.replicate n 0)).toList.take 0 ++ nv .u64 cs ++ (va .u64 (List.replicate n 0)).toList.drop (0 + n)).toArray = va .u64 cs := by
    rw [List.drop_eq_nil_of_le (by simp [va, nv])]
    simp [va]
  rw [e2, World.setRow_alloc_new]
  rfl

set_option maxHeartbeats 800000 in
theorem own_any (ad : Addr) (n c m l r B : Nat) (cs : List Nat) (hn : 1 ≤ n) (hn8 : n ≤ 100) (w : World) (hr : Reads w B 1 (some ad) n (nv .u64 cs)) (hB : B ≤ w.heap.size) :
    Calls Try.prog 24 #[.agg (alV (some ad) n c m l r)] w fun e w' => ∃ g, e = .returned (.agg (alV (some ⟨g, 0, none⟩) n n m l r)) ∧ Blk w' g 23 (va .u64 cs) ∧ w.heap.size ≤ g ∧ Below w.heap.size w w' := by
  have hmk := make_u64 n (by omega)
  have hlr := Lib.hid hr
  clear hr
  unfold alV
  go_enter Try.func24, Try.ntmps24
  go_wp2
  rw [copy_u64_new _ (w.heap.size + 1 + 1) (by simp) ad n c B cs ((hlr.out.alloc hB _).alloc (by simp <;> omega) _) hn (by simp <;> omega)]
  go_wp2
  exact bodyPost_ret (results_cell_row rfl _ _ (w.heap.size + 1) 25 _ (0, 0) _ rfl ((Blk.newAt (by simp)).alloc _) Try.underlying25 rfl (alV_info (some ⟨w.heap.size + 1 + 1, 0, none⟩) n n m l r)) rfl
    ⟨_, rfl, Blk.newAt (by simp), by omega, (((Below.refl _ _).alloc (Nat.le_refl _) _).alloc (by simp <;> omega) _).alloc (by simp <;> omega) _⟩

theorem chk_le (cs : List Nat) (m l r : Nat) : chk cs m l r = 0 ∨ chk cs m l r = 1 := by
  unfold chk
  repeat' split
  all_goals simp

set_option maxHeartbeats 800000 in
theorem icheck_ok (A : Option Addr) (n c m l r B : Nat) (cs : List Nat) (k : Nat) (hk : k < n) (hc : chk cs m l r = 0) (w : World) (hr : Reads w B 1 A n (nv .u64 cs)) (hB : B ≤ w.heap.size) :
    Calls Try.prog 23 #[.agg (alV A n c m l r), .int .i64 (k : Int)] w fun e w' => e = .returned (.int .i64 0) ∧ Below w.heap.size w w' := by
  have hk' : (k : Int) < (n : Int) := by omega
  have hlr := Lib.hid hr
  clear hr
  unfold alV
  go_enter Try.func23, Try.ntmps23
  go_wp2_with fail
  refine (check_any A n c m l r B cs _ (hlr.out.alloc hB _) (by simp <;> omega)).mono ?_
  rintro e w1 ⟨rfl, b1⟩
  rw [hc]
  have hA : Blk w1 w.heap.size 25 (alV A n c m l r) := Blk.below (Blk.newAt rfl) b1 (by simp <;> omega)
  have hc0 := hA.cell 0
  have hb : Below w.heap.size w w1 := ((Below.refl _ _).alloc (Nat.le_refl _) _).trans (b1.mono (by simp <;> omega))
  clear b1 hA
  simp [alV] at hc0
  go_wp2
  go_ret
  exact ⟨rfl, hb⟩

set_option maxHeartbeats 800000 in
theorem icheck_bad (A : Option Addr) (n c m l r B : Nat) (cs : List Nat) (k : Int) (hk : chk cs m l r = 1 ∨ k < 0 ∨ (n : Int) ≤ k) (w : World) (hr : Reads w B 1 A n (nv .u64 cs)) (hB : B ≤ w.heap.size) :
    Calls Try.prog 23 #[.agg (alV A n c m l r), .int .i64 k] w fun e w' => e = .returned (.int .i64 1) ∧ Below w.heap.size w w' := by
  have hlr := Lib.hid hr
  clear hr
  unfold alV
  go_enter Try.func23, Try.ntmps23
  go_wp2_with fail
  refine (check_any A n c m l r B cs _ (hlr.out.alloc hB _) (by simp <;> omega)).mono ?_
  rintro e w1 ⟨rfl, b1⟩
  have hA : Blk w1 w.heap.size 25 (alV A n c m l r) := Blk.below (Blk.newAt rfl) b1 (by simp <;> omega)
  have hc0 := hA.cell 0
  have hb : Below w.heap.size w w1 := ((Below.refl _ _).alloc (Nat.le_refl _) _).trans (b1.mono (by simp <;> omega))
  clear b1 hA
  simp [alV] at hc0
  rcases chk_le cs m l r with h0 | h0
  · have hk2 := hk.resolve_left (by omega)
    rw [h0]
    clear hk
    go_wp2
    all_goals
      go_ret
      exact ⟨rfl, hb⟩
  · rw [h0]
    clear hk
    go_wp2
    go_ret
    exact ⟨rfl, hb⟩
end Go.Proofs.Ytaaldjmopifcjaa
