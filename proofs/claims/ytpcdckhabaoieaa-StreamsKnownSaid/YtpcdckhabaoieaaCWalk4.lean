/-
  Walks through package ciphers: mix.
-/
import Derived.Test.YtpcdckhabaoieaaCWalk3
import Derived.Test.YtpcdckhabaoieaaMemB
import Derived.Test.YtpcdckhabaoieaaZC
namespace Go.Proofs.Ytpcdckhabaoieaa
open Go.RowKit

set_option maxHeartbeats 1600000 in
theorem mix_any (S : Nat) (f b : List Nat) (hfl : f.length = 4) (hbl : b.length = 16) (hfb : Ci.Byt f) (hb : Ci.Byt b) (w : World) (hs : Blk w S 67 (va .u8 b)) :
    Calls Try.prog 32 #[.pointer (some ⟨S, 0, none⟩), .agg (va .u8 f)] w fun e w' => e = .returned (.tuple #[]) ∧ StMem S (Ci.mix f b) w w' := by
  have hlt0 := hs.lt
  have hm : StMem S (Ci.upd (fun i => Ci.mixS f b (i / 4) (i % 4) 4) b 0) w ((w.alloc (.cells (va .u8 f) 63)).alloc (.cells (va .u8 b) 22)) := by
    rw [Ci.upd_zero]; exact ⟨(hs.alloc _).alloc _, ((Below.refl _ _).alloc (by omega) _).alloc (by simp; omega) _⟩
  have hkk : Blk ((w.alloc (.cells (va .u8 f) 63)).alloc (.cells (va .u8 b) 22)) (w.heap.size + 1) 22 (va .u8 b) := by
    have := Blk.new (w.alloc (.cells (va .u8 f) 63)) 22 (va .u8 b)
    simpa using this
  have hff : Blk ((w.alloc (.cells (va .u8 f) 63)).alloc (.cells (va .u8 b) 22)) w.heap.size 63 (va .u8 f) := (Blk.new _ _ _).alloc _
  have hmm := Lib.hid hm
  have hkh := Lib.hid hkk
  have hfh := Lib.hid hff
  have hsz0 : (Try.prog.info? 22).map (·.size) = some (va .u8 b).size := by rw [va_size, hbl]; kernel_rfl
  have hsz := Lib.hid hsz0
  have hsz40 : (Try.prog.info? 63).map (·.size) = some (va .u8 f).size := by rw [va_size, hfl]; kernel_rfl
  have hsz4 := Lib.hid hsz40
  have hvs : (va .u8 b).size = 16 := by rw [va_size, hbl]
  have hzv := zero16
  have hst := run_storeNew (P := Try.prog) (w.alloc (.cells (va .u8 f) 63)) 22 (va .u8 z16) .u8 b (by rw [va_size, hbl, z16_len])
  rw [show (w.alloc (.cells (va .u8 f) 63)).heap.size = w.heap.size + 1 from by simp] at hst
  have hsh := Lib.hid (hs.alloc (.cells (va .u8 f) 63))
  obtain ⟨ie, hie, _, his, _⟩ := info_parts byte_info
  have hix : ∀ (k : Nat) (W : World), k < 4 → (Instr.index 63 (.agg (va .u8 f)) (.int .i64 (k : Int))).run Try.prog W = .ok (.int .u8 ((f.getD k 0 : Nat) : Int)) W := fun k W hk => run_index_num Try.underlying63 Try.underlying5 hie his hfl hk W
  have hixh := Lib.hid hix
  clear hm hkk hff hsz0 hsz40 hs hix
  go_enter Try.func32, Try.ntmps32
  go_wp2_with (refine wpList_load_row rfl 22 (.tmp 12) rfl S rfl 67 (va .u8 b) (0, 0) _ hsh.out Try.underlying22 rfl hsz.out ?_)
  clear hst hvs hzv
  generalize (w.alloc (.cells (va .u8 f) 63)).alloc (.cells (va .u8 b) 22) = w1 at *
  go_loopw [14] (fun s wr => ∃ c : Nat, c ≤ 4 ∧ s = .int .i64 (c : Int) ∧ StMem S (Ci.upd (fun i => Ci.mixS f b (i / 4) (i % 4) 4) b (4 * c)) w wr ∧ Blk wr (w.heap.size + 1) 22 (va .u8 b) ∧ Blk wr w.heap.size 63 (va .u8 f)) (fun s _ => 4 - (intOf s).toNat)
  case atStart => exact ⟨0, by omega, rfl, hmm.out, hkh.out, hfh.out⟩
  case round =>
    clear hmm hkh hfh hsh
    obtain ⟨c, hc4, rfl, hmem, hold, hfac⟩ := hrel
    by_cases hlc : c < 4
    · have hlcI : (c : Int) < 4 := by omega
      have hmm := Lib.hid hmem
      have hkh := Lib.hid hold
      have hfh := Lib.hid hfac
      clear hmem hold hfac
      go_wp2
      go_loopw [17] (fun s wr => ∃ r : Nat, r ≤ 4 ∧ s = .int .i64 (r : Int) ∧ StMem S (Ci.upd (fun i => Ci.mixS f b (i / 4) (i % 4) 4) b (4 * c + r)) w wr ∧ Blk wr (w.heap.size + 1) 22 (va .u8 b) ∧ Blk wr w.heap.size 63 (va .u8 f)) (fun s _ => 4 - (intOf s).toNat)
      case atStart => exact ⟨0, by omega, rfl, hmm.out, hkh.out, hfh.out⟩
      case round =>
        clear hmm hkh hfh
        obtain ⟨r, hr4, rfl, hmem, hold, hfac⟩ := hrel
        by_cases hlr : r < 4
        · have hlrI : (r : Int) < 4 := by omega
          have hmm := Lib.hid hmem
          have hkh := Lib.hid hold
          have hfh := Lib.hid hfac
          clear hmem hold hfac
          go_wp2_with (refine wpList_load_row rfl 63 (.tmp 3) rfl w.heap.size rfl 63 (va .u8 f) (0, 0) _ hfh.out Try.underlying63 rfl hsz4.out ?_)
          go_loopw [7, 21] (fun v s wx => ∃ j : Nat, j ≤ 4 ∧ s = .int .i64 (j : Int) ∧ v = .int .u8 (Ci.mixS f b c r j : Nat) ∧ StMem S (Ci.upd (fun i => Ci.mixS f b (i / 4) (i % 4) 4) b (4 * c + r)) w wx ∧ Blk wx (w.heap.size + 1) 22 (va .u8 b) ∧ Blk wx w.heap.size 63 (va .u8 f)) (fun _ s _ => 4 - (intOf s).toNat)
          case atStart => exact ⟨0, by omega, rfl, rfl, hmm.out, hkh.out, hfh.out⟩
          case round =>
            clear hmm hkh hfh
            obtain ⟨j, hj4, rfl, rfl, hmem, hold, hfac⟩ := hrel
            by_cases hlj : j < 4
            · have hljI : (j : Int) < 4 := by omega
              have hrun := fun W => hixh.out j W hlj
              obtain ⟨q, hq⟩ : ∃ q, (r + j) % 4 = q := ⟨_, rfl⟩
              obtain ⟨i, hi⟩ : ∃ i, 4 * c + q = i := ⟨_, rfl⟩
              have hq4 : q < 4 := by omega
              have hi16 : i < 16 := by omega
              have hqt : ((r : Int) + (j : Int)).tmod 4 = (q : Int) := by rw [Int.tmod_eq_emod_of_nonneg (by omega)]; omega
              have hqe : ((r : Int) + (j : Int)) % 4 = (q : Int) := by omega
              have hiI : 4 * (c : Int) + (q : Int) = (i : Int) := by omega
              have hi16I : (i : Int) < 16 := by omega
              have hc2 := hold.num (i := i) (by omega)
              have hfx := hfb.get j
              have hbx := hb.get i
              have hmx := Ci.mixS_lt f b hfb hb c r j
              have hstep : Ci.mixS f b c r (j + 1) = Ci.mixS f b c r j ^^^ Gf.gm (f.getD j 0) (b.getD i 0) := by
                show Ci.mixS f b c r j ^^^ Gf.gm (f.getD j 0) (b.getD (4 * c + (r + j) % 4) 0) = _
                rw [hq, hi]
              obtain ⟨x, hxe⟩ : ∃ x, f.getD j 0 = x := ⟨_, rfl⟩
              obtain ⟨y, hye⟩ : ∃ y, b.getD i 0 = y := ⟨_, rfl⟩
              simp only [hxe] at hrun
              rw [hxe] at hfx hstep
              rw [hye] at hbx hc2 hstep
              obtain ⟨z, hze⟩ : ∃ z, Gf.gm x y = z := ⟨_, rfl⟩
              have hz8 : z < 256 := by rw [← hze]; exact Gf.gm_lt _ _ hfx
              rw [hze] at hstep
              have hxor : bits BinOp.xor IntKind.u8 ((Ci.mixS f b c r j : Nat) : Int) (z : Int) = ((Ci.mixS f b c r (j + 1) : Nat) : Int) := by rw [hstep]; exact u8_xor_nat _ _ hmx hz8
              have hxor' := Lib.hid hxor
              generalize Ci.mixS f b c r j = m0 at *
              obtain ⟨m1, hm1⟩ : ∃ m1, Ci.mixS f b c r (j + 1) = m1 := ⟨_, rfl⟩
              rw [hm1] at hxor
              have hm1' := Lib.hid hm1
              clear hm1
              have hze' := Lib.hid hze
              have hmm := Lib.hid hmem
              have hkh := Lib.hid hold
              have hfh := Lib.hid hfac
              clear hmem hold hfac hxe hye hq hi hstep hze hxor'
              go_wp2_with fail
              refine (mul_to x y z hfx hbx hze'.out _).mono ?_
              rintro e w2 ⟨rfl, b2⟩
              have hmm2 := Lib.hid (StMem.mk (S := S) (w := w) (hmm.out.s.below b2 hmm.out.s.lt) (hmm.out.bel.trans (b2.mono (Nat.le_of_lt hmm.out.s.lt))))
              have hkh2 := Lib.hid (hkh.out.below b2 hkh.out.lt)
              have hfh2 := Lib.hid (hfh.out.below b2 hfh.out.lt)
              clear hmm hkh hfh b2 hc2 hrun
              go_wp2
              go_roundw
              case rel => exact ⟨j + 1, by omega, by go_num, by rw [hm1'.out], hmm2.out, hkh2.out, hfh2.out⟩
              case measure => simp [intOf]; omega
            · obtain rfl : j = 4 := by omega
              obtain ⟨i, hi⟩ : ∃ i, 4 * c + r = i := ⟨_, rfl⟩
              have hi16 : i < 16 := by omega
              have hiI : 4 * (c : Int) + (r : Int) = (i : Int) := by omega
              have hi16I : (i : Int) < 16 := by omega
              have hfi : Ci.mixS f b (i / 4) (i % 4) 4 = Ci.mixS f b c r 4 := by
                rw [show i / 4 = c from by omega, show i % 4 = r from by omega]
              have hset := Ci.upd_set (fun i => Ci.mixS f b (i / 4) (i % 4) 4) b i
              simp only [hfi] at hset
              rw [hi] at hmem
              have hc0 := hmem.s.num (i := i) (by rw [Ci.upd_len]; omega)
              have hf0 := hmem.s.frozen i
              generalize (Ci.upd (fun i => Ci.mixS f b (i / 4) (i % 4) 4) b i).getD i 0 = y0 at *
              generalize Ci.mixS f b c r 4 = m4 at *
              have hset' := Lib.hid hset
              have hih := Lib.hid hi
              have hmm := Lib.hid hmem
              have hkh := Lib.hid hold
              have hfh := Lib.hid hfac
              clear hmem hold hfac hset hi hfi
              go_wp2
              go_roundw
              case rel =>
                refine ⟨r + 1, by omega, by go_num, ⟨?_, hmm.out.bel.setCell (Nat.le_refl _) _⟩, hkh.out.far (by simp; omega) _, hfh.out.far (by simp; omega) _⟩
                have e4 : 4 * c + (r + 1) = i + 1 := by rw [← hih.out]; omega
                rw [e4, ← hset'.out]
                exact hmm.out.s.setNum i m4
              case measure => simp [intOf]; omega
        · obtain rfl : r = 4 := by omega
          have hmm := Lib.hid hmem
          have hkh := Lib.hid hold
          have hfh := Lib.hid hfac
          clear hmem hold hfac
          go_wp2
          go_roundw
          case rel => exact ⟨c + 1, by omega, by go_num, by rw [show 4 * (c + 1) = 4 * c + 4 from by omega]; exact hmm.out, hkh.out, hfh.out⟩
          case measure => simp [intOf]; omega
    · obtain rfl : c = 4 := by omega
      go_wp2
      go_end0
      refine ⟨rfl, ?_, hmem.bel⟩
      have := hmem.s
      rw [Ci.upd_all _ _ _ (by omega), hbl] at this
      exact this
end Go.Proofs.Ytpcdckhabaoieaa
