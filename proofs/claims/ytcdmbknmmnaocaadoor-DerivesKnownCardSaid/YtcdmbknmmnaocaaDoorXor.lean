/-
  The walk of words.Xor.
-/
import Derived.Test.YtcdmbknmmnaocaaDoorStep
import Derived.Test.YtcdmbknmmnaocaaDoorMcPlain
import Derived.Test.YtcdmbknmmnaocaaDoorWords
import Derived.StillTailTactics
namespace Go.Proofs.YtcdmbknmmnaocaaDoor
open Go.RowKit Sh

set_option maxHeartbeats 800000 in
theorem xor_any (l m : List Nat) (A A2 : Option Addr) (n c c2 B : Nat) (hl : Byt l) (hm : Byt m) (hn63 : n < 281474976710656) (w : World) (hr : Reads w B 1 A n (nv .u8 l)) (hr2 : Reads w B 1 A2 n (nv .u8 m)) (hB : B ≤ w.heap.size) :
    Calls Tryd.prog 34 #[.slice A n c, .slice A2 n c2] w fun e w' => ∃ g, e = .returned (.tuple #[.slice (some ⟨g, 0, none⟩) n n, .int .i64 0]) ∧ Blk w' g 5 (va .u8 (xorB l m)) ∧ w.heap.size ≤ g ∧ Below w.heap.size w w' := by
  have hmk := make_bytes n (by omega)
  have hln := hr.len
  have hmm : Blk (w.alloc (.cells (va .u8 (List.replicate n 0)) 5)) w.heap.size 5 (va .u8 (xorl l m n 0)) := by rw [xorl_zero]; exact Blk.new _ _ _
  have hm' := Lib.hid hmm
  have hb0 : Below w.heap.size w (w.alloc (.cells (va .u8 (List.replicate n 0)) 5)) := (Below.refl _ _).alloc (Nat.le_refl _) _
  have hbq := Lib.hid hb0
  have hrq := Lib.hid hr
  have hr2q := Lib.hid hr2
  have hBq := Lib.hid hB
  clear hmm hb0 hr hr2 hB
  go_enter Tryd.func34, Tryd.ntmps34
  go_wp2
  clear hmk
  generalize w.alloc (.cells (va .u8 (List.replicate n 0)) 5) = w1 at *
  go_loopw [25] (fun s wr => ∃ k : Nat, k ≤ n ∧ s = .int .i64 (k : Int) ∧ Blk wr w.heap.size 5 (va .u8 (xorl l m n k)) ∧ Below w.heap.size w wr) (fun s _ => n - (intOf s).toNat)
  case atStart => exact ⟨0, by omega, rfl, hm'.out, hbq.out⟩
  case round =>
    clear hm' hbq
    obtain ⟨k, hk, rfl, hblk, hb⟩ := hrel
    by_cases hlt : k < n
    · have hltI : (k : Int) < (n : Int) := by omega
      have hc := hblk.num (i := k) (by rw [xorl_len]; omega)
      have hf := hblk.frozen k
      obtain ⟨a1, rfl, _, hc1⟩ := (hrq.out.below (hb.mono hBq.out)).num hlt
      obtain ⟨a2, rfl, _, hc2⟩ := (hr2q.out.below (hb.mono hBq.out)).num hlt
      have hx := hl.get k
      have hy := hm.get k
      have hset := Lib.hid (xorl_step l m n k hlt)
      have hbh := Lib.hid hb
      have hblh := Lib.hid hblk
      clear hb hblk
      obtain ⟨u, hu⟩ : ∃ u, (xorl l m n k).getD k 0 = u := ⟨_, rfl⟩
      rw [hu] at hc
      obtain ⟨x, hxe⟩ : ∃ x, l.getD k 0 = x := ⟨_, rfl⟩
      obtain ⟨y, hye⟩ : ∃ y, m.getD k 0 = y := ⟨_, rfl⟩
      rw [hxe] at hc1 hx
      rw [hye] at hc2 hy
      have hxe' := Lib.hid hxe
      have hye' := Lib.hid hye
      have hxr : bits BinOp.xor IntKind.u8 (x : Int) (y : Int) = ((x ^^^ y : Nat) : Int) := u8_xor_nat x y hx hy
      clear hxe hye hu
      go_wp2
      refine wp_region_still_tail 12 (by kernel_rfl) (by kernel_rfl) ?_
      simp only [List.take_succ_cons, List.take_zero, List.drop_succ_cons, List.drop_zero]
      change wpStill _ _ wr.drew _ _ _
      iterate 12 still_step
      refine wpStill_nil ?_
      change wpList _ _ _ _ _ wr.drew
      have hM : Blk (wr.drew.setCell ⟨w.heap.size, k, none⟩ (.int .u8 ((x ^^^ y : Nat) : Int))) w.heap.size 5 (va .u8 (xorl l m n (k + 1))) := by
        have h1 := hblh.out.drew.setNum k (x ^^^ y)
        rw [← hxe'.out, ← hye'.out, hset.out] at h1
        rw [← hxe'.out, ← hye'.out]; exact h1
      have hMq := Lib.hid hM
      have hBB := Lib.hid (hbh.out.drew.setCell (p := ⟨w.heap.size, k, none⟩) (Nat.le_refl _) (.int .u8 ((x ^^^ y : Nat) : Int)))
      clear hM
      go_wp2
      go_roundw
      case rel => exact ⟨k + 1, by omega, by go_num, hMq.out, hBB.out⟩
      case measure => simp [intOf]; omega
    · obtain rfl : n = k := by omega
      go_wp2
      go_ret2
      refine ⟨w.heap.size, rfl, ?_, Nat.le_refl _, hb⟩
      unfold xorB
      rw [hln]; exact hblk
end Go.Proofs.YtcdmbknmmnaocaaDoor
