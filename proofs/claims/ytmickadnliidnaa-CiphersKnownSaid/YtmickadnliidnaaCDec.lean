/-
  The walk of ciphers.Decrypt.
-/
import Derived.Test.YtmickadnliidnaaCEnc
namespace Go.Proofs.Ytmickadnliidnaa
open Go.RowKit

namespace Ci
def decS (L b : List Nat) : Nat → List Nat
  | 0 => b
  | j + 1 => each Gf.back (rot 3 (if 10 - j < 10 then mix [14, 11, 13, 9] (addK (decS L b j) (ks L (10 - j))) else addK (decS L b j) (ks L (10 - j))))
def dec (L b : List Nat) : List Nat := addK (decS L b 10) (ks L 0)
theorem fac2_byt : Byt [14, 11, 13, 9] := by intro x hx; simp at hx; omega
theorem back_lt (a : Nat) : Gf.back a < 256 := Nat.mod_lt _ (by omega)
theorem decS_len (L b : List Nat) (hb : b.length = 16) : ∀ j, (decS L b j).length = 16
  | 0 => hb
  | _ + 1 => each_len _ _
theorem decS_byt {L b : List Nat} (hb : Byt b) : ∀ j, Byt (decS L b j)
  | 0 => hb
  | _ + 1 => each_byt back_lt _
end Ci

set_option maxHeartbeats 1600000 in
theorem decrypt_any (L b : List Nat) (hLl : L.length = 176) (hbl : b.length = 16) (hL : Ci.Byt L) (hb : Ci.Byt b) (w : World) :
    Calls Try.prog 15 #[.agg (va .u8 L), .agg (va .u8 b)] w fun e w' => e = .returned (.agg (va .u8 (Ci.dec L b))) ∧ Below w.heap.size w w' := by
  have hsz0 : (Try.prog.info? 22).map (·.size) = some (va .u8 b).size := by rw [va_size, hbl]; kernel_rfl
  have hsz := Lib.hid hsz0
  have hzv := zero16
  have hzs := zeroState
  have hvs : (va .u8 b).size = 16 := by rw [va_size, hbl]
  have hfold := fold_state hbl
  have hst := run_storeNew (P := Try.prog) (((w.alloc (.cells (va .u8 L) 24)).alloc (.cells (va .u8 b) 22)).alloc (.cells (va .u8 z16) 22)) 45 (va .u8 z16) .u8 b (by rw [va_size, hbl, z16_len])
  rw [show (((w.alloc (.cells (va .u8 L) 24)).alloc (.cells (va .u8 b) 22)).alloc (.cells (va .u8 z16) 22)).heap.size = w.heap.size + 1 + 1 + 1 from by simp] at hst
  have hm : EnMem w.heap.size L b w ((((w.alloc (.cells (va .u8 L) 24)).alloc (.cells (va .u8 b) 22)).alloc (.cells (va .u8 z16) 22)).alloc (.cells (va .u8 b) 45)) := by
    refine ⟨(((Blk.new _ _ _).alloc _).alloc _).alloc _, ?_, ?_, ((((Below.refl _ _).alloc (Nat.le_refl _) _).alloc (by simp) _).alloc (by simp <;> omega) _).alloc (by simp <;> omega) _⟩
    · exact Blk.alloc (by have := Blk.new ((w.alloc (.cells (va .u8 L) 24)).alloc (.cells (va .u8 b) 22)) 22 (va .u8 z16); simpa using this) _
    · have := Blk.new (((w.alloc (.cells (va .u8 L) 24)).alloc (.cells (va .u8 b) 22)).alloc (.cells (va .u8 z16) 22)) 45 (va .u8 b)
      simpa using this
  have hmm := Lib.hid hm
  clear hsz0 hm
  go_enter Try.func15, Try.ntmps15
  go_wp2_with (refine wpList_load_row rfl 22 (.tmp 3) rfl (w.heap.size + 1) rfl 22 (va .u8 b) (0, 0) _ ?hq Try.underlying22 rfl hsz.out ?_
               case hq => exact Blk.alloc (by have := Blk.new (w.alloc (.cells (va .u8 L) 24)) 22 (va .u8 b); simpa using this) _)
  clear hst hfold hzs hzv hvs
  generalize (((w.alloc (.cells (va .u8 L) 24)).alloc (.cells (va .u8 b) 22)).alloc (.cells (va .u8 z16) 22)).alloc (.cells (va .u8 b) 45) = w1 at *
  go_loopw [6] (fun s wr => ∃ j : Nat, j ≤ 10 ∧ s = .int .i64 (10 - (j : Int)) ∧ EnMem w.heap.size L (Ci.decS L b j) w wr) (fun s _ => (intOf s).toNat)
  case atStart => exact ⟨0, by omega, rfl, hmm.out⟩
  case round =>
    clear hmm
    obtain ⟨j, hj, rfl, hmem⟩ := hrel
    have hdl := Ci.decS_len L b hbl j
    have hdb := Ci.decS_byt (L := L) hb j
    by_cases hlt : j < 10
    · obtain ⟨k, hk⟩ : ∃ k, 10 - j = k := ⟨_, rfl⟩
      have hkI : 10 - (j : Int) = (k : Int) := by omega
      have hk0 : (0 : Int) < (k : Int) := by omega
      have hk10 : (k : Int) ≤ 10 := by omega
      have hkj := Lib.hid hk
      have hmm := Lib.hid hmem
      clear hmem
      go_wp2_with (refine wpList_load_mid rfl 22 (.tmp 14) rfl w.heap.size (k * 16) rfl (nv .u8 (Ci.ks L k)) _ (hmm.out.key k) Try.underlying22 rfl (by rw [nv_len, Ci.ks_len hLl k (by omega)]; kernel_rfl) ?_)
      refine (add_any (w.heap.size + 1 + 1 + 1) (Ci.decS L b j) (Ci.ks L k) hdl (Ci.ks_len hLl k (by omega)) hdb (Ci.ks_byt hL _) _ hmm.out.s).mono ?_
      rintro e w2 ⟨rfl, hsw2⟩
      have hw2 := Lib.hid (hmm.out.step hsw2)
      clear hsw2 hmm
      by_cases h10 : k < 10
      · have h10I : (k : Int) < 10 := by omega
        go_wp2_with fail
        refine (mix_any (w.heap.size + 1 + 1 + 1) [14, 11, 13, 9] (Ci.addK (Ci.decS L b j) (Ci.ks L k)) rfl (Ci.addK_len _ _) Ci.fac2_byt (Ci.addK_byt hdb (Ci.ks_byt hL _)) _ hw2.out.s).mono ?_
        rintro e w3 ⟨rfl, hs3⟩
        have hm3 := Lib.hid (hw2.out.step hs3)
        clear hs3 hw2
        go_wp2_with fail
        refine (rotate3_any (w.heap.size + 1 + 1 + 1) (Ci.mix [14, 11, 13, 9] (Ci.addK (Ci.decS L b j) (Ci.ks L k))) (Ci.mix_len _ _) (Ci.mix_byt Ci.fac2_byt (Ci.addK_byt hdb (Ci.ks_byt hL _))) _ hm3.out.s).mono ?_
        rintro e w4 ⟨rfl, hs4⟩
        have hm4 := Lib.hid (hm3.out.step hs4)
        clear hs4 hm3
        go_wp2_with fail
        refine (each_back (w.heap.size + 1 + 1 + 1) (Ci.rot 3 (Ci.mix [14, 11, 13, 9] (Ci.addK (Ci.decS L b j) (Ci.ks L k)))) (Ci.rot_len _ _) (Ci.rot_byt (Ci.mix_byt Ci.fac2_byt (Ci.addK_byt hdb (Ci.ks_byt hL _)))) _ hm4.out.s).mono ?_
        rintro e w5 ⟨rfl, hs5⟩
        have hm5 := hm4.out.step hs5
        have he : Ci.each Gf.back (Ci.rot 3 (Ci.mix [14, 11, 13, 9] (Ci.addK (Ci.decS L b j) (Ci.ks L k)))) = Ci.decS L b (j + 1) := by
          show _ = Ci.each Gf.back (Ci.rot 3 (if 10 - j < 10 then _ else _))
          rw [hkj.out, if_pos h10]
        rw [he] at hm5
        have hm6 := Lib.hid hm5
        clear hs5 hm4 hm5 he
        go_wp2
        go_roundw
        case rel => exact ⟨j + 1, by omega, by go_num, hm6.out⟩
        case measure => simp [intOf]; omega
      · have h10I : (10 : Int) ≤ (k : Int) := by omega
        go_wp2_with fail
        refine (rotate3_any (w.heap.size + 1 + 1 + 1) (Ci.addK (Ci.decS L b j) (Ci.ks L k)) (Ci.addK_len _ _) (Ci.addK_byt hdb (Ci.ks_byt hL _)) _ hw2.out.s).mono ?_
        rintro e w4 ⟨rfl, hs4⟩
        have hm4 := Lib.hid (hw2.out.step hs4)
        clear hs4 hw2
        go_wp2_with fail
        refine (each_back (w.heap.size + 1 + 1 + 1) (Ci.rot 3 (Ci.addK (Ci.decS L b j) (Ci.ks L k))) (Ci.rot_len _ _) (Ci.rot_byt (Ci.addK_byt hdb (Ci.ks_byt hL _))) _ hm4.out.s).mono ?_
        rintro e w5 ⟨rfl, hs5⟩
        have hm5 := hm4.out.step hs5
        have he : Ci.each Gf.back (Ci.rot 3 (Ci.addK (Ci.decS L b j) (Ci.ks L k))) = Ci.decS L b (j + 1) := by
          show _ = Ci.each Gf.back (Ci.rot 3 (if 10 - j < 10 then _ else _))
          rw [hkj.out, if_neg h10]
        rw [he] at hm5
        have hm6 := Lib.hid hm5
        clear hs5 hm4 hm5 he
        go_wp2
        go_roundw
        case rel => exact ⟨j + 1, by omega, by go_num, hm6.out⟩
        case measure => simp [intOf]; omega
    · obtain rfl : j = 10 := by omega
      have hmm := Lib.hid hmem
      clear hmem
      go_wp2_with (refine wpList_load_mid rfl 22 (.tmp 23) rfl w.heap.size 0 rfl (nv .u8 (Ci.ks L 0)) _ (hmm.out.key 0) Try.underlying22 rfl (by rw [nv_len, Ci.ks_len hLl 0 (by omega)]; kernel_rfl) ?_)
      refine (add_any (w.heap.size + 1 + 1 + 1) (Ci.decS L b 10) (Ci.ks L 0) hdl (Ci.ks_len hLl 0 (by omega)) hdb (Ci.ks_byt hL _) _ hmm.out.s).mono ?_
      rintro e w2 ⟨rfl, hsw2⟩
      have hw2 := Lib.hid (hmm.out.step hsw2)
      clear hsw2 hmm
      have hel : (Ci.dec L b).length = 16 := Ci.addK_len _ _
      have hsz0 : (Try.prog.info? 22).map (·.size) = some (va .u8 (Ci.dec L b)).size := by rw [va_size, hel]; kernel_rfl
      have hszE := Lib.hid hsz0
      have hst := run_storeBlk (P := Try.prog) hw2.out.r .u8 (Ci.dec L b) (by rw [va_size, z16_len, hel])
      have hvs : (va .u8 (Ci.dec L b)).size = 16 := by rw [va_size, hel]
      have hmm : EnMem w.heap.size L (Ci.dec L b) w w2 := hw2.out
      have hmm2 := Lib.hid hmm
      clear hsz0 hmm hw2 hel
      go_wp2_with (refine wpList_load_row rfl 22 (.tmp 26) rfl (w.heap.size + 1 + 1 + 1) rfl 45 (va .u8 (Ci.dec L b)) (0, 0) _ hmm2.out.s Try.underlying22 rfl hszE.out ?_)
      exact bodyPost_ret (results_cell_row rfl _ _ (w.heap.size + 1 + 1) 22 (va .u8 (Ci.dec L b)) (0, 0) _ rfl (hmm2.out.r.row _) Try.underlying22 rfl hszE.out) rfl ⟨rfl, below_setRow hmm2.out.bel (by omega) _⟩
end Go.Proofs.Ytmickadnliidnaa
