/-
  Walks through package ciphers: rotate, by one place and by three.
-/
import Derived.Test.YtpcdckhabaoieaaCWalk
namespace Go.Proofs.Ytpcdckhabaoieaa
open Go.RowKit

def z16 : List Nat := List.replicate 16 0
theorem z16_len : z16.length = 16 := List.length_replicate ..
theorem zero16 (w : World) : (zeroValue 22).run Try.prog w = .ok (.agg (va .u8 z16)) w := by kernel_rfl

set_option maxRecDepth 8000 in
set_option maxHeartbeats 800000 in
theorem rotate1_any (S : Nat) (b : List Nat) (hbl : b.length = 16) (hb : Ci.Byt b) (w : World) (hs : Blk w S 67 (va .u8 b)) :
    Calls Try.prog 31 #[.pointer (some ⟨S, 0, none⟩), .int .i64 1] w fun e w' => e = .returned (.tuple #[]) ∧ StMem S (Ci.rot 1 b) w w' := by
  have hlt0 := hs.lt
  have hm : StMem S (Ci.upd (fun i => b.getD (4 * ((i / 4 + 1 * (i % 4)) % 4) + i % 4) 0) b 0) w (w.alloc (.cells (va .u8 b) 22)) := by
    rw [Ci.upd_zero]; exact ⟨hs.alloc _, (Below.refl _ _).alloc (by omega) _⟩
  have hkk : Blk (w.alloc (.cells (va .u8 b) 22)) w.heap.size 22 (va .u8 b) := Blk.new _ _ _
  have hmm := Lib.hid hm
  have hkh := Lib.hid hkk
  have hsz0 : (Try.prog.info? 22).map (·.size) = some (va .u8 b).size := by rw [va_size, hbl]; kernel_rfl
  have hsz := Lib.hid hsz0
  have hvs : (va .u8 b).size = 16 := by rw [va_size, hbl]
  have hzv := zero16
  have hst := run_storeNew (P := Try.prog) w 22 (va .u8 z16) .u8 b (by rw [va_size, hbl, z16_len])
  have hsh := Lib.hid hs
  clear hm hkk hsz0 hs
  go_enter Try.func31, Try.ntmps31
  go_wp2_with (refine wpList_load_row rfl 22 (.tmp 9) rfl S rfl 67 (va .u8 b) (0, 0) _ hsh.out Try.underlying22 rfl hsz.out ?_)
  clear hst hvs hzv
  generalize w.alloc (.cells (va .u8 b) 22) = w1 at *
  go_loopw [11] (fun s wr => ∃ c : Nat, c ≤ 4 ∧ s = .int .i64 (c : Int) ∧ StMem S (Ci.upd (fun i => b.getD (4 * ((i / 4 + 1 * (i % 4)) % 4) + i % 4) 0) b (4 * c)) w wr ∧ Blk wr w.heap.size 22 (va .u8 b)) (fun s _ => 4 - (intOf s).toNat)
  case atStart => exact ⟨0, by omega, rfl, hmm.out, hkh.out⟩
  case round =>
    clear hmm hkh
    obtain ⟨c, hc4, rfl, hmem, hold⟩ := hrel
    by_cases hlc : c < 4
    · have hlcI : (c : Int) < 4 := by omega
      have hmm := Lib.hid hmem
      have hkh := Lib.hid hold
      clear hmem hold
      go_wp2
      go_loopw [14] (fun s wr => ∃ r : Nat, r ≤ 4 ∧ s = .int .i64 (r : Int) ∧ StMem S (Ci.upd (fun i => b.getD (4 * ((i / 4 + 1 * (i % 4)) % 4) + i % 4) 0) b (4 * c + r)) w wr ∧ Blk wr w.heap.size 22 (va .u8 b)) (fun s _ => 4 - (intOf s).toNat)
      case atStart => exact ⟨0, by omega, rfl, hmm.out, hkh.out⟩
      case round =>
        clear hmm hkh
        obtain ⟨r, hr4, rfl, hmem, hold⟩ := hrel
        by_cases hlr : r < 4
        · have hlrI : (r : Int) < 4 := by omega
          obtain ⟨q, hq⟩ : ∃ q, (c + r) % 4 = q := ⟨_, rfl⟩
          obtain ⟨j, hj⟩ : ∃ j, 4 * q + r = j := ⟨_, rfl⟩
          obtain ⟨i, hi⟩ : ∃ i, 4 * c + r = i := ⟨_, rfl⟩
          have hq4 : q < 4 := by omega
          have hj16 : j < 16 := by omega
          have hi16 : i < 16 := by omega
          have hqe : ((c : Int) + (r : Int)) % 4 = (q : Int) := by omega
          have hqt : ((c : Int) + (r : Int)).tmod 4 = (q : Int) := by rw [Int.tmod_eq_emod_of_nonneg (by omega)]; exact hqe
          have hjI : 4 * (q : Int) + (r : Int) = (j : Int) := by omega
          have hiI : 4 * (c : Int) + (r : Int) = (i : Int) := by omega
          have hj16I : (j : Int) < 16 := by omega
          have hi16I : (i : Int) < 16 := by omega
          have w1 : IntKind.i64.wrap ((r : Int)) = (r : Int) := IntWalk.i64_in _ (by omega)
          have w2 : IntKind.i64.wrap ((c : Int) + (r : Int)) = (c : Int) + (r : Int) := IntWalk.i64_in _ (by omega)
          have w4 : IntKind.i64.wrap (4 * (q : Int)) = 4 * (q : Int) := IntWalk.i64_in _ (by omega)
          have w5 : IntKind.i64.wrap (j : Int) = (j : Int) := IntWalk.i64_in _ (by omega)
          have w6 : IntKind.i64.wrap (4 * (c : Int)) = 4 * (c : Int) := IntWalk.i64_in _ (by omega)
          have w7 : IntKind.i64.wrap (i : Int) = (i : Int) := IntWalk.i64_in _ (by omega)
          rw [hi] at hmem
          have hfi : b.getD (4 * ((i / 4 + 1 * (i % 4)) % 4) + i % 4) 0 = b.getD j 0 := by
            have e1 : i / 4 = c := by omega
            have e2 : i % 4 = r := by omega
            rw [e1, e2]
            have e3 : (c + 1 * r) % 4 = q := by omega
            rw [e3, hj]
          have hc0 := hmem.s.num (i := i) (by rw [Ci.upd_len]; omega)
          have hf := hmem.s.frozen i
          have hc2 := hold.num (i := j) (by omega)
          have hset := Ci.upd_set (fun i => b.getD (4 * ((i / 4 + 1 * (i % 4)) % 4) + i % 4) 0) b i
          rw [hfi] at hset
          obtain ⟨x, hxe⟩ : ∃ x, b.getD j 0 = x := ⟨_, rfl⟩
          rw [hxe] at hc2 hset
          have hset' := Lib.hid hset
          have hih := Lib.hid hi
          have hmh := Lib.hid hmem
          have hkh := Lib.hid hold
          generalize (Ci.upd (fun i => b.getD (4 * ((i / 4 + 1 * (i % 4)) % 4) + i % 4) 0) b i).getD i 0 = y0 at *
          clear hmem hold hset hxe hi hj hq hfi
          go_wp2
          refine wp_region_still_tail 19 (by kernel_rfl) (by kernel_rfl) ?_
          simp only [List.take_succ_cons, List.take_zero, List.drop_succ_cons, List.drop_zero]
          change wpStill _ _ wr.drew _ _ _
          iterate 19 still_step
          refine wpStill_nil ?_
          change wpList _ _ _ _ _ wr.drew
          go_wp2
          go_roundw
          case rel =>
            refine ⟨r + 1, by omega, by go_num, ⟨?_, (below_drewN hmh.out.bel 1).setCell (Nat.le_refl _) _⟩, hkh.out.drew.far (by simp; omega) _⟩
            have e4 : 4 * c + (r + 1) = i + 1 := by rw [← hih.out]; omega
            rw [e4, ← hset'.out]
            exact hmh.out.s.drew.setNum i x
          case measure => simp [intOf]; omega
        · obtain rfl : r = 4 := by omega
          have hmm := Lib.hid hmem
          have hkh := Lib.hid hold
          clear hmem hold
          go_wp2
          go_roundw
          case rel => exact ⟨c + 1, by omega, by go_num, by rw [show 4 * (c + 1) = 4 * c + 4 from by omega]; exact hmm.out, hkh.out⟩
          case measure => simp [intOf]; omega
    · obtain rfl : c = 4 := by omega
      go_wp2
      go_end0
      refine ⟨rfl, ?_, hmem.bel⟩
      have := hmem.s
      rw [Ci.upd_all _ _ _ (by omega), hbl] at this
      exact this

set_option maxRecDepth 8000 in
set_option maxHeartbeats 800000 in
theorem rotate3_any (S : Nat) (b : List Nat) (hbl : b.length = 16) (hb : Ci.Byt b) (w : World) (hs : Blk w S 67 (va .u8 b)) :
    Calls Try.prog 31 #[.pointer (some ⟨S, 0, none⟩), .int .i64 3] w fun e w' => e = .returned (.tuple #[]) ∧ StMem S (Ci.rot 3 b) w w' := by
  have hlt0 := hs.lt
  have hm : StMem S (Ci.upd (fun i => b.getD (4 * ((i / 4 + 3 * (i % 4)) % 4) + i % 4) 0) b 0) w (w.alloc (.cells (va .u8 b) 22)) := by
    rw [Ci.upd_zero]; exact ⟨hs.alloc _, (Below.refl _ _).alloc (by omega) _⟩
  have hkk : Blk (w.alloc (.cells (va .u8 b) 22)) w.heap.size 22 (va .u8 b) := Blk.new _ _ _
  have hmm := Lib.hid hm
  have hkh := Lib.hid hkk
  have hsz0 : (Try.prog.info? 22).map (·.size) = some (va .u8 b).size := by rw [va_size, hbl]; kernel_rfl
  have hsz := Lib.hid hsz0
  have hvs : (va .u8 b).size = 16 := by rw [va_size, hbl]
  have hzv := zero16
  have hst := run_storeNew (P := Try.prog) w 22 (va .u8 z16) .u8 b (by rw [va_size, hbl, z16_len])
  have hsh := Lib.hid hs
  clear hm hkk hsz0 hs
  go_enter Try.func31, Try.ntmps31
  go_wp2_with (refine wpList_load_row rfl 22 (.tmp 9) rfl S rfl 67 (va .u8 b) (0, 0) _ hsh.out Try.underlying22 rfl hsz.out ?_)
  clear hst hvs hzv
  generalize w.alloc (.cells (va .u8 b) 22) = w1 at *
  go_loopw [11] (fun s wr => ∃ c : Nat, c ≤ 4 ∧ s = .int .i64 (c : Int) ∧ StMem S (Ci.upd (fun i => b.getD (4 * ((i / 4 + 3 * (i % 4)) % 4) + i % 4) 0) b (4 * c)) w wr ∧ Blk wr w.heap.size 22 (va .u8 b)) (fun s _ => 4 - (intOf s).toNat)
  case atStart => exact ⟨0, by omega, rfl, hmm.out, hkh.out⟩
  case round =>
    clear hmm hkh
    obtain ⟨c, hc4, rfl, hmem, hold⟩ := hrel
    by_cases hlc : c < 4
    · have hlcI : (c : Int) < 4 := by omega
      have hmm := Lib.hid hmem
      have hkh := Lib.hid hold
      clear hmem hold
      go_wp2
      go_loopw [14] (fun s wr => ∃ r : Nat, r ≤ 4 ∧ s = .int .i64 (r : Int) ∧ StMem S (Ci.upd (fun i => b.getD (4 * ((i / 4 + 3 * (i % 4)) % 4) + i % 4) 0) b (4 * c + r)) w wr ∧ Blk wr w.heap.size 22 (va .u8 b)) (fun s _ => 4 - (intOf s).toNat)
      case atStart => exact ⟨0, by omega, rfl, hmm.out, hkh.out⟩
      case round =>
        clear hmm hkh
        obtain ⟨r, hr4, rfl, hmem, hold⟩ := hrel
        by_cases hlr : r < 4
        · have hlrI : (r : Int) < 4 := by omega
          obtain ⟨q, hq⟩ : ∃ q, (c + 3 * r) % 4 = q := ⟨_, rfl⟩
          obtain ⟨j, hj⟩ : ∃ j, 4 * q + r = j := ⟨_, rfl⟩
          obtain ⟨i, hi⟩ : ∃ i, 4 * c + r = i := ⟨_, rfl⟩
          have hq4 : q < 4 := by omega
          have hj16 : j < 16 := by omega
          have hi16 : i < 16 := by omega
          have hqe : ((c : Int) + 3 * (r : Int)) % 4 = (q : Int) := by omega
          have hqt : ((c : Int) + 3 * (r : Int)).tmod 4 = (q : Int) := by rw [Int.tmod_eq_emod_of_nonneg (by omega)]; exact hqe
          have hjI : 4 * (q : Int) + (r : Int) = (j : Int) := by omega
          have hiI : 4 * (c : Int) + (r : Int) = (i : Int) := by omega
          have hj16I : (j : Int) < 16 := by omega
          have hi16I : (i : Int) < 16 := by omega
          have w1 : IntKind.i64.wrap (3 * (r : Int)) = 3 * (r : Int) := IntWalk.i64_in _ (by omega)
          have w2 : IntKind.i64.wrap ((c : Int) + 3 * (r : Int)) = (c : Int) + 3 * (r : Int) := IntWalk.i64_in _ (by omega)
          have w4 : IntKind.i64.wrap (4 * (q : Int)) = 4 * (q : Int) := IntWalk.i64_in _ (by omega)
          have w5 : IntKind.i64.wrap (j : Int) = (j : Int) := IntWalk.i64_in _ (by omega)
          have w6 : IntKind.i64.wrap (4 * (c : Int)) = 4 * (c : Int) := IntWalk.i64_in _ (by omega)
          have w7 : IntKind.i64.wrap (i : Int) = (i : Int) := IntWalk.i64_in _ (by omega)
          rw [hi] at hmem
          have hfi : b.getD (4 * ((i / 4 + 3 * (i % 4)) % 4) + i % 4) 0 = b.getD j 0 := by
            have e1 : i / 4 = c := by omega
            have e2 : i % 4 = r := by omega
            rw [e1, e2]
            have e3 : (c + 3 * r) % 4 = q := by omega
            rw [e3, hj]
          have hc0 := hmem.s.num (i := i) (by rw [Ci.upd_len]; omega)
          have hf := hmem.s.frozen i
          have hc2 := hold.num (i := j) (by omega)
          have hset := Ci.upd_set (fun i => b.getD (4 * ((i / 4 + 3 * (i % 4)) % 4) + i % 4) 0) b i
          rw [hfi] at hset
          obtain ⟨x, hxe⟩ : ∃ x, b.getD j 0 = x := ⟨_, rfl⟩
          rw [hxe] at hc2 hset
          have hset' := Lib.hid hset
          have hih := Lib.hid hi
          have hmh := Lib.hid hmem
          have hkh := Lib.hid hold
          generalize (Ci.upd (fun i => b.getD (4 * ((i / 4 + 3 * (i % 4)) % 4) + i % 4) 0) b i).getD i 0 = y0 at *
          clear hmem hold hset hxe hi hj hq hfi
          go_wp2
          refine wp_region_still_tail 19 (by kernel_rfl) (by kernel_rfl) ?_
          simp only [List.take_succ_cons, List.take_zero, List.drop_succ_cons, List.drop_zero]
          change wpStill _ _ wr.drew _ _ _
          iterate 19 still_step
          refine wpStill_nil ?_
          change wpList _ _ _ _ _ wr.drew
          go_wp2
          go_roundw
          case rel =>
            refine ⟨r + 1, by omega, by go_num, ⟨?_, (below_drewN hmh.out.bel 1).setCell (Nat.le_refl _) _⟩, hkh.out.drew.far (by simp; omega) _⟩
            have e4 : 4 * c + (r + 1) = i + 1 := by rw [← hih.out]; omega
            rw [e4, ← hset'.out]
            exact hmh.out.s.drew.setNum i x
          case measure => simp [intOf]; omega
        · obtain rfl : r = 4 := by omega
          have hmm := Lib.hid hmem
          have hkh := Lib.hid hold
          clear hmem hold
          go_wp2
          go_roundw
          case rel => exact ⟨c + 1, by omega, by go_num, by rw [show 4 * (c + 1) = 4 * c + 4 from by omega]; exact hmm.out, hkh.out⟩
          case measure => simp [intOf]; omega
    · obtain rfl : c = 4 := by omega
      go_wp2
      go_end0
      refine ⟨rfl, ?_, hmem.bel⟩
      have := hmem.s
      rw [Ci.upd_all _ _ _ (by omega), hbl] at this
      exact this
end Go.Proofs.Ytpcdckhabaoieaa
