/-
  The walk of caissonlaw07.same where all agrees. (Printed by mkxor07b.py.)
-/
import Derived.Test.YtpcdckhabaoieaaStmV
namespace Go.Proofs.Ytpcdckhabaoieaa
open Go.RowKit Sh
set_option maxRecDepth 8000 in
set_option maxHeartbeats 2000000 in
theorem same07_any (l : List Nat) (A : Option Addr) (n B : Nat) (A2 : Option Addr) (c2 B2 : Nat) (e : Int) (w : World) (hr : Reads w B 1 A n (nv .u8 l)) (hBw : B ≤ w.heap.size) (hr2 : Reads w B2 1 A2 n (nv .u8 l)) (hB2w : B2 ≤ w.heap.size) :
    Calls Try.prog 16 #[.slice A n n, .int .i64 e, .slice A2 n c2, .int .i64 e] w fun e w' => e = .returned (.bool true) ∧ Below w.heap.size w w' := by
  obtain ⟨B0, hB0e⟩ : ∃ b, w.heap.size = b := ⟨_, rfl⟩
  rw [hB0e]
  have hW : Below B0 w w := by rw [← hB0e]; exact Below.refl _ _
  have hB0 : B0 ≤ w.heap.size := by omega
  have rd := reads_of hr (by omega : B ≤ B0)
  have rd2 := reads_of hr2 (by omega : B2 ≤ B0)
  have hB0q := Lib.hid hB0e
  clear hB0e
  go_enter Try.func16, Try.ntmps16
  go_upto_region 0 with fail
  refine wl_lit ?_
  refine runL 8 (.bool false) rfl (by rfl) (by go_simp) ?_
  simp only [List.set_cons_zero, List.set_cons_succ]
  refine nilL ?_
  go_upto_region 1 with fail
  refine wl_lit ?_
  refine runL 9 (.int .i64 (e)) rfl (by rfl) (by go_simp) ?_
  simp only [List.set_cons_zero, List.set_cons_succ]
  refine runL 10 (.int .i64 (e)) rfl (by rfl) (by go_simp) ?_
  simp only [List.set_cons_zero, List.set_cons_succ]
  refine runL 11 (.bool true) rfl (by rfl) (by go_simp) ?_
  simp only [List.set_cons_zero, List.set_cons_succ]
  refine runL 12 (.bool true) rfl (by rfl) (by go_simp) ?_
  simp only [List.set_cons_zero, List.set_cons_succ]
  refine runL 13 (.slice (A) n n) rfl (by rfl) (by go_simp) ?_
  simp only [List.set_cons_zero, List.set_cons_succ]
  refine runL 14 (.string (bst (l))) rfl (by rfl) (exec_conv 39 9 (.tmp 13) rfl (.slice (A) n n) (.string (bst (l))) rfl (Reads.string (rd.out _ hW) _ _ Try.underlying39 Try.underlying9)) ?_
  simp only [List.set_cons_zero, List.set_cons_succ]
  refine runL 15 (.slice (A2) n c2) rfl (by rfl) (by go_simp) ?_
  simp only [List.set_cons_zero, List.set_cons_succ]
  refine runL 16 (.string (bst (l))) rfl (by rfl) (exec_conv 39 9 (.tmp 15) rfl (.slice (A2) n c2) (.string (bst (l))) rfl (Reads.string (rd2.out _ hW) _ _ Try.underlying39 Try.underlying9)) ?_
  simp only [List.set_cons_zero, List.set_cons_succ]
  refine runL 17 (.bool true) rfl (by rfl) (by go_simp) ?_
  simp only [List.set_cons_zero, List.set_cons_succ]
  refine runL 18 (.bool true) rfl (by rfl) (by go_simp) ?_
  simp only [List.set_cons_zero, List.set_cons_succ]
  refine runL 19 (.bool true) rfl (by rfl) (by go_simp) ?_
  simp only [List.set_cons_zero, List.set_cons_succ]
  refine runL 20 (.slice (A) n n) rfl (by rfl) (by go_simp) ?_
  simp only [List.set_cons_zero, List.set_cons_succ]
  refine runL 21 (.int .i64 (n)) rfl (by rfl) (by go_simp) ?_
  simp only [List.set_cons_zero, List.set_cons_succ]
  refine runL 22 (.slice (A) n n) rfl (by rfl) (by go_simp) ?_
  simp only [List.set_cons_zero, List.set_cons_succ]
  refine runL 23 (.int .i64 (n)) rfl (by rfl) (by go_simp) ?_
  simp only [List.set_cons_zero, List.set_cons_succ]
  refine runL 24 (.bool true) rfl (by rfl) (by go_simp) ?_
  simp only [List.set_cons_zero, List.set_cons_succ]
  refine runL 25 (.bool true) rfl (by rfl) (by go_simp) ?_
  simp only [List.set_cons_zero, List.set_cons_succ]
  refine runL 8 (.bool true) rfl (by rfl) (by go_simp) ?_
  simp only [List.set_cons_zero, List.set_cons_succ]
  refine nilL ?_
  go_wp2_with fail
  go_ret
  exact ⟨rfl, hW⟩
end Go.Proofs.Ytpcdckhabaoieaa
