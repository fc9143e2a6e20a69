/-
  Walks through package ciphers: add, each, rotate, mix.
-/
import Derived.Test.YtpcdckhabaoieaaZC
import Derived.Test.YtpcdckhabaoieaaStep
import Derived.StillTailTactics
namespace Go.Proofs.Ytpcdckhabaoieaa
open Go.RowKit

/-- a state's block behind a step, and everything below it as it was -/
structure StMem (S : Nat) (b : List Nat) (w wr : World) : Prop where
  s : Blk wr S 67 (va .u8 b)
  bel : Below S w wr

set_option maxHeartbeats 800000 in
theorem add_any (S : Nat) (b key : List Nat) (hbl : b.length = 16) (hkl : key.length = 16) (hb : Ci.Byt b) (hk : Ci.Byt key) (w : World) (hs : Blk w S 67 (va .u8 b)) :
    Calls Try.prog 29 #[.pointer (some ⟨S, 0, none⟩), .agg (va .u8 key)] w fun e w' => e = .returned (.tuple #[]) ∧ StMem S (Ci.addK b key) w w' := by
  have hlt := hs.lt
  have hm : StMem S (Ci.upd (fun i => b.getD i 0 ^^^ key.getD i 0) b 0) w (w.alloc (.cells (va .u8 key) 22)) := by
    rw [Ci.upd_zero]; exact ⟨hs.alloc _, (Below.refl _ _).alloc (by omega) _⟩
  have hkk : Blk (w.alloc (.cells (va .u8 key) 22)) w.heap.size 22 (va .u8 key) := Blk.new _ _ _
  have hmm := Lib.hid hm
  have hkh := Lib.hid hkk
  clear hs hm hkk
  go_enter Try.func29, Try.ntmps29
  go_wp2
  generalize w.alloc (.cells (va .u8 key) 22) = w1 at *
  go_loopw [5] (fun s wr => ∃ k : Nat, k ≤ 16 ∧ s = .int .i64 (k : Int) ∧ StMem S (Ci.upd (fun i => b.getD i 0 ^^^ key.getD i 0) b k) w wr ∧ Blk wr w.heap.size 22 (va .u8 key)) (fun s _ => 16 - (intOf s).toNat)
  case atStart => exact ⟨0, by omega, rfl, hmm.out, hkh.out⟩
  case round =>
    clear hmm hkh
    obtain ⟨k, hk16, rfl, hmem, hkey⟩ := hrel
    by_cases hlt : k < 16
    · have hltI : (k : Int) < 16 := by omega
      have hc := hmem.s.num (i := k) (by rw [Ci.upd_len]; omega)
      have hf := hmem.s.frozen k
      rw [Ci.upd_get _ _ _ _ (by omega), if_neg (by omega)] at hc
      have hc2 := hkey.num (i := k) (by omega)
      have hx := hb.get k
      have hy := hk.get k
      have hset := Lib.hid (Ci.upd_set (fun i => b.getD i 0 ^^^ key.getD i 0) b k)
      have hxy := Lib.hid (rfl : b.getD k 0 ^^^ key.getD k 0 = b.getD k 0 ^^^ key.getD k 0)
      have hmh := Lib.hid hmem
      have hkh := Lib.hid hkey
      clear hmem hkey
      obtain ⟨x, hxe⟩ : ∃ x, b.getD k 0 = x := ⟨_, rfl⟩
      obtain ⟨y, hye⟩ : ∃ y, key.getD k 0 = y := ⟨_, rfl⟩
      rw [hxe] at hc hx
      rw [hye] at hc2 hy
      have hxe' := Lib.hid hxe
      have hye' := Lib.hid hye
      have hxr : bits BinOp.xor IntKind.u8 (x : Int) (y : Int) = ((x ^^^ y : Nat) : Int) := u8_xor_nat x y hx hy
      clear hxe hye hxy
      go_wp2
      refine wp_region_still_tail 13 (by kernel_rfl) (by kernel_rfl) ?_
      simp only [List.take_succ_cons, List.take_zero, List.drop_succ_cons, List.drop_zero]
      change wpStill _ _ wr.drew _ _ _
      iterate 13 still_step
      refine wpStill_nil ?_
      change wpList _ _ _ _ _ wr.drew
      go_wp2
      go_roundw
      case rel =>
        refine ⟨k + 1, by omega, by go_num, ⟨?_, (below_drewN hmh.out.bel 1).setCell (Nat.le_refl _) _⟩, ?_⟩
        · rw [← hset.out, hxe'.out, hye'.out]
          have := hmh.out.s.drew.setNum k (x ^^^ y)
          first | exact this | simpa using this
        · exact hkh.out.drew.far (by simp; omega) _
      case measure => simp [intOf]; omega
    · obtain rfl : k = 16 := by omega
      go_wp2
      go_end0
      refine ⟨rfl, ?_, hmem.bel⟩
      have := hmem.s
      rw [Ci.upd_all _ _ _ (by omega), hbl] at this
      exact this
end Go.Proofs.Ytpcdckhabaoieaa
