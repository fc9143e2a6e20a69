/-
  Walks through package ciphers: each, with Sub and with Back.
-/
import Derived.Test.YtpcdckhabaoieaaCWalk
import Derived.Test.YtpcdckhabaoieaaZC
import Derived.Test.YtpcdckhabaoieaaMemB
import Derived.Deep.RegionWith
namespace Go.Proofs.Ytpcdckhabaoieaa
open Go.RowKit

set_option maxHeartbeats 800000 in
theorem each_sub (S : Nat) (b : List Nat) (hbl : b.length = 16) (hb : Ci.Byt b) (w : World) (hs : Blk w S 67 (va .u8 b)) :
    Calls Try.prog 30 #[.pointer (some ⟨S, 0, none⟩), .func (.func 27) #[] #[]] w fun e w' => e = .returned (.tuple #[]) ∧ StMem S (Ci.each Gf.sub b) w w' := by
  have hlt0 := hs.lt
  have hm : StMem S (Ci.upd (fun i => Gf.sub (b.getD i 0)) b 0) w w := by
    rw [Ci.upd_zero]; exact ⟨hs, Below.refl _ _⟩
  have hmm := Lib.hid hm
  have hsz0 : (Try.prog.info? 22).map (·.size) = some (va .u8 b).size := by rw [va_size, hbl]; kernel_rfl
  have hsz := Lib.hid hsz0
  obtain ⟨ie, hie, _, his, _⟩ := info_parts byte_info
  have hix : ∀ (k : Nat) (W : World), k < 16 → (Instr.index 22 (.agg (va .u8 b)) (.int .i64 (k : Int))).run Try.prog W = .ok (.int .u8 ((b.getD k 0 : Nat) : Int)) W := fun k W hk => run_index_num Try.underlying22 Try.underlying5 hie his hbl hk W
  have hixh := Lib.hid hix
  have hsh := Lib.hid hs
  clear hm hsz0 hix hs
  go_enter Try.func30, Try.ntmps30
  go_wp2_with (refine wpList_load_row rfl 22 (.tmp 8) rfl S rfl 67 (va .u8 b) (0, 0) _ hsh.out Try.underlying22 rfl hsz.out ?_)
  go_loopw [10] (fun s wr => ∃ k : Nat, k ≤ 16 ∧ s = .int .i64 (k : Int) ∧ StMem S (Ci.upd (fun i => Gf.sub (b.getD i 0)) b k) w wr) (fun s _ => 16 - (intOf s).toNat)
  case atStart => exact ⟨0, by omega, rfl, hmm.out⟩
  case round =>
    clear hmm
    obtain ⟨k, hk16, rfl, hmem⟩ := hrel
    by_cases hlt : k < 16
    · have hltI : (k : Int) < 16 := by omega
      have hrun := fun W => hixh.out k W hlt
      have hx := hb.get k
      have hset := Lib.hid (Ci.upd_set (fun i => Gf.sub (b.getD i 0)) b k)
      have hmh := Lib.hid hmem
      obtain ⟨x, hxe⟩ : ∃ x, b.getD k 0 = x := ⟨_, rfl⟩
      simp only [hxe] at hrun
      rw [hxe] at hx
      have hxe' := Lib.hid hxe
      clear hxe hmem
      go_wp2
      go_region_with (first
        | (go_at_call 27
           refine (sub_to x (Gf.sub x) hx rfl _).mono ?_
           rintro e w1 ⟨rfl, b1⟩
           have hS1 := Lib.hid (hmh.out.s.drew.below b1 hmh.out.s.lt)
           have hB1 := Lib.hid ((below_drewN hmh.out.bel 1).trans (b1.mono (Nat.le_of_lt hmh.out.s.lt)))
           have c1 := hS1.out.num (i := k) (by rw [Ci.upd_len]; omega)
           have f1 := hS1.out.frozen k
           clear b1))
      all_goals
        go_wp2
        go_roundw
      all_goals first
        | (refine ⟨k + 1, by omega, by go_num, ⟨?_, hB1.out.setCell (Nat.le_refl _) _⟩⟩
           rw [← hset.out, hxe'.out]
           exact hS1.out.setNum k (Gf.sub x))
        | (simp [intOf]; omega)
    · obtain rfl : k = 16 := by omega
      go_wp2
      go_end0
      refine ⟨rfl, ?_, hmem.bel⟩
      have := hmem.s
      rw [Ci.upd_all _ _ _ (by omega), hbl] at this
      exact this

end Go.Proofs.Ytpcdckhabaoieaa
