/-
  The walks of same and lives (caissonlaw08).
-/
import Derived.Test.YtaaldjmopifcjaaNon6
namespace Go.Proofs.Ytaaldjmopifcjaa
open Go.RowKit Sh

set_option maxHeartbeats 1000000 in
theorem same_true (ad ad2 : Addr) (n c2 m l r B : Nat) (cs : List Nat) (hn : 1 ≤ n) (hn8 : n ≤ 100) (w : World) (hr : Reads w B 1 (some ad) n (nv .u64 cs)) (hr2 : Reads w B 1 (some ad2) n (nv .u64 cs)) (hB : B ≤ w.heap.size) :
    Calls Try.prog 12 #[.agg (alV (some ad) n n m l r), .agg (alV (some ad2) n c2 m l r)] w fun e w' => e = .returned (.bool true) ∧ Below w.heap.size w w' := by
  unfold alV
  have h1 := Lib.hid hr
  have h2 := Lib.hid hr2
  clear hr hr2
  go_enter Try.func12, Try.ntmps12
  go_wp2
  have hx : Blk ((w.alloc (.cells #[.slice (some ad) n n, .int .u64 (m : Int), .int .u64 (l : Int), .int .u64 (r : Int)] 25)).alloc (.cells #[.slice (some ad2) n c2, .int .u64 (m : Int), .int .u64 (l : Int), .int .u64 (r : Int)] 25)) w.heap.size 25 (alV (some ad) n n m l r) := (Blk.newAt rfl).alloc _
  have hy : Blk ((w.alloc (.cells #[.slice (some ad) n n, .int .u64 (m : Int), .int .u64 (l : Int), .int .u64 (r : Int)] 25)).alloc (.cells #[.slice (some ad2) n c2, .int .u64 (m : Int), .int .u64 (l : Int), .int .u64 (r : Int)] 25)) (w.heap.size + 1) 25 (alV (some ad2) n c2 m l r) := Blk.newAt (by simp)
  have hb : Below w.heap.size w ((w.alloc (.cells #[.slice (some ad) n n, .int .u64 (m : Int), .int .u64 (l : Int), .int .u64 (r : Int)] 25)).alloc (.cells #[.slice (some ad2) n c2, .int .u64 (m : Int), .int .u64 (l : Int), .int .u64 (r : Int)] 25)) := ((Below.refl _ _).alloc (Nat.le_refl _) _).alloc (by simp) _
  generalize (w.alloc (.cells #[.slice (some ad) n n, .int .u64 (m : Int), .int .u64 (l : Int), .int .u64 (r : Int)] 25)).alloc (.cells #[.slice (some ad2) n c2, .int .u64 (m : Int), .int .u64 (l : Int), .int .u64 (r : Int)] 25) = w1 at *
  have hxx := Lib.hid hx
  have hyy := Lib.hid hy
  have hbb := Lib.hid hb
  clear hx hy hb
  go_loopw [5] (fun s wr => ∃ k : Nat, k ≤ n ∧ s = .int .i64 (k : Int) ∧ ∃ j, wr = w1.drewN j) (fun s _ => n - (intOf s).toNat)
  case atStart => exact ⟨0, by omega, rfl, 0, rfl⟩
  case round =>
    obtain ⟨k, hk, rfl, j, rfl⟩ := hrel
    have hx := hxx.out
    have hy := hyy.out
    obtain ⟨x0, _, _, _⟩ := alV_cells hx
    obtain ⟨y0, _, _, _⟩ := alV_cells hy
    by_cases hlt : k < n
    · have hlt' : (k : Int) < (n : Int) := by omega
      have hq1 := h1.out.below (hbb.out.mono hB)
      have hq2 := h2.out.below (hbb.out.mono hB)
      obtain ⟨ad', e, _, hc1⟩ := hq1.num hlt
      injection e with e
      subst e
      obtain ⟨ad', e, _, hc2⟩ := hq2.num hlt
      injection e with e
      subst e
      clear hx hy hq1 hq2
      go_wp2
      go_region
      go_wp2
      go_roundw
      case rel => exact ⟨k + 1, by omega, by go_num, j + 1, rfl⟩
      case measure => simp [intOf]; omega
    · obtain rfl : n = k := by omega
      go_wp2
      go_ret
      exact ⟨rfl, below_drewN hbb.out j⟩
end Go.Proofs.Ytaaldjmopifcjaa
