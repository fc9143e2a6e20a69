/-
  The walk of FieldsKnown.
-/
import Derived.Test.YtiaeocjhlglldaaFTab
import Derived.Test.YtiaeocjhlglldaaFLaw2
import Derived.Deep.RegionHeld3
namespace Go.Proofs.Ytiaeocjhlglldaa
open Go.RowKit

def vb (l : List Bool) : Array Value := (l.map Value.bool).toArray
theorem vb_size (l : List Bool) : (vb l).size = l.length := by simp [vb]
theorem vb_get {l : List Bool} {i : Nat} (hi : i < l.length) : (vb l)[i]? = some (.bool (l.getD i false)) := by
  simp [vb, hi, List.getD_eq_getElem?_getD]
theorem vb_set (l : List Bool) (i : Nat) (v : Bool) : (vb l).setIfInBounds i (.bool v) = vb (l.set i v) := by
  simp [vb, List.map_set]
theorem vb_one (l : List Bool) : ∀ v ∈ (vb l).toList, v.oneCell' = true := by
  intro v hv
  obtain ⟨x, _, rfl⟩ := List.mem_map.1 (by simpa [vb] using hv : v ∈ l.map Value.bool)
  rfl
def f256 : List Bool := List.replicate 256 false
theorem f256_len : f256.length = 256 := List.length_replicate ..
theorem zv32 (w : World) : (zeroValue 32).run Try.prog w = .ok (.agg (vb f256)) w := by kernel_rfl

structure KnMem (T : Nat) (sn : List Bool) (k : Nat) (w wr : World) : Prop where
  t : Blk wr T 30 (va .u8 subs)
  b : Blk wr (T + 1) 32 (vb sn)
  l : sn.length = 256
  z : sn.getD 0 false = false
  d : ∀ j, j < k → sn.getD (Gf.pw 3 j) false = true
  h : w.heap.size ≤ T
  bel : Below w.heap.size w wr
theorem KnMem.below {T : Nat} {sn : List Bool} {k : Nat} {w wr w2 : World} (h : KnMem T sn k w wr) (hb : Below wr.heap.size wr w2) : KnMem T sn k w w2 :=
  ⟨h.t.below hb h.t.lt, h.b.below hb h.b.lt, h.l, h.z, h.d, h.h, below_trans h.bel hb⟩
theorem KnMem.drew_ {T : Nat} {sn : List Bool} {k : Nat} {w wr : World} (h : KnMem T sn k w wr) : KnMem T sn k w wr.drew := ⟨h.t, h.b, h.l, h.z, h.d, h.h, h.bel.drew⟩
theorem getDb_set_eq {l : List Bool} {i : Nat} {v : Bool} (h : i < l.length) : (l.set i v).getD i false = v := by
  simp [List.getD_eq_getElem?_getD, h]
theorem getDb_set_ne {l : List Bool} {i j : Nat} {v : Bool} (h : i ≠ j) : (l.set i v).getD j false = l.getD j false := by
  simp [List.getD_eq_getElem?_getD, h]
theorem pw3_ne (k : Nat) : Gf.pw 3 k ≠ 0 := by
  intro h
  have e : Gf.gm (Gf.pw 3 k) (Gf.pw 3 (254 * k)) = 1 := by
    rw [← Gf.pw_add 3 _ _ (by omega), ← Gf.pw_mod 3 (by omega) (by omega), show (k + 254 * k) % 255 = 0 from by omega]; rfl
  rw [h, Gf.gm_zero_left] at e; omega
theorem KnMem.step {T : Nat} {sn : List Bool} {k : Nat} {w wr : World} (h : KnMem T sn k w wr) :
    KnMem T (sn.set (Gf.pw 3 k) true) (k + 1) w (wr.setCell ⟨T + 1, Gf.pw 3 k, none⟩ (.bool true)) := by
  have hp := Gf.pw_lt 3 k (by omega)
  refine ⟨h.t.far (p := ⟨T + 1, Gf.pw 3 k, none⟩) (by simp) _, ?_, by rw [List.length_set]; exact h.l, by rw [getDb_set_ne (pw3_ne k)]; exact h.z, fun j hj => ?_, h.h, h.bel.setCell (by have := h.h; simp; omega) _⟩
  · have := h.b.set_ (Gf.pw 3 k) (.bool true)
    rwa [vb_set] at this
  · by_cases e : Gf.pw 3 k = Gf.pw 3 j
    · rw [e]; exact getDb_set_eq (by rw [h.l, ← e]; exact hp)
    · rw [getDb_set_ne e]; exact h.d j (by
        have : j ≠ k := by rintro rfl; exact e rfl
        omega)
theorem keepT {T k : Nat} {v : Value} {wr W w2 : World} (hT : T < wr.heap.size) (h1 : Below wr.heap.size wr W) (h2 : W.cell? ⟨T, k, none⟩ = some v) (b : Below W.heap.size W w2) :
    Below wr.heap.size wr w2 ∧ w2.cell? ⟨T, k, none⟩ = some v :=
  ⟨below_trans h1 b, (b.cell (p := ⟨T, k, none⟩) (Nat.lt_of_lt_of_le hT h1.size)).trans h2⟩
theorem one_to (n : Int) (c : Nat) (hc : Gf.powZ 0 n = c) (w : World) :
    Calls Try.prog 13 #[.int .i64 n] w fun e w' => e = .returned (.int .u8 (c : Int)) ∧ Below w.heap.size w w' := by
  rw [← hc]; exact (one_any n w).mono fun _ _ h => ⟨h.1, by rw [← h.2]; exact Below.refl _ _⟩
theorem subs_get (k : Nat) (hk : k < 256) : subs.getD k 0 = Gf.sub k := by
  unfold subs; simp [List.getD_eq_getElem?_getD, hk]

set_option maxRecDepth 100000 in
set_option maxHeartbeats 400000 in
theorem fieldsKnown_true (w : World) :
    Calls Try.prog 7 #[] w fun e w' => e = .returned (.bool true) ∧ Below w.heap.size w w' := by
  have hzv := zv30
  have hzb := zv32
  go_enter Try.func7, Try.ntmps7
  go_wp2_with fail
  refine (table_any _).mono ?_
  rintro e w1 ⟨rfl, b1⟩
  have hst := run_storeNew (P := Try.prog) w1 30 (va .u8 z256) .u8 subs (by rw [va_size, subs_len, z256_len])
  have hst2 := run_storeNewA (P := Try.prog) (w1.alloc (.cells (va .u8 subs) 30)) 32 (vb f256) (vb f256) rfl (vb_one _)
  have e1 : (w1.alloc (.cells (va .u8 subs) 30)).heap.size = w1.heap.size + 1 := by simp
  rw [e1] at hst2
  have hm : KnMem w1.heap.size f256 0 w ((w1.alloc (.cells (va .u8 subs) 30)).alloc (.cells (vb f256) 32)) := by
    refine ⟨(Blk.new _ _ _).alloc _, ?_, f256_len, rfl, fun j hj => by omega, b1.size, (b1.alloc b1.size _).alloc (by have := b1.size; simp; omega) _⟩
    have := Blk.new (w1.alloc (.cells (va .u8 subs) 30)) 32 (vb f256)
    rwa [e1] at this
  have hm' := Lib.hid hm
  clear hm e1
  go_wp2
  generalize w1.heap.size = T at *
  clear hst hst2 hzv hzb
  go_loopw [3] (fun s wr => ∃ (k : Nat) (sn : List Bool), k ≤ 256 ∧ s = .int .i64 (k : Int) ∧ KnMem T sn k w wr) (fun s _ => 256 - (intOf s).toNat)
  case atStart => exact ⟨0, f256, by omega, rfl, hm'.out⟩
  case round =>
    clear hm' b1
    obtain ⟨k, sn, hk, rfl, hmem⟩ := hrel
    by_cases hlt : k < 256
    · have hlt' : (k : Int) < 256 := by omega
      have hT := hmem.t.lt
      have hc := hmem.t.num (i := k) (by rw [subs_len]; omega)
      rw [subs_get k hlt] at hc
      have hs := Gf.sub_lt k
      have hinv := Gf.inv_lt k
      have hmem' := Lib.hid hmem
      clear hmem
      have q0 : IntKind.u8.wrap (k : Int) = (k : Int) := IntWalk.u8_in _ (by omega)
      have q1 : IntKind.u8.wrap 0 = 0 := rfl
      have q2 : IntKind.u8.wrap 1 = 1 := rfl
      have hB : Below wr.heap.size wr wr.drew := (Below.refl _ _).drew
      by_cases h0 : k = 0
      · have hc0 : Gf.gm k (Gf.inv k) = 0 := by subst h0; exact Gf.gm_zero_left _
        have hc1 : Gf.powZ 0 (k : Int) = 1 := by subst h0; rfl
        have hc0' := Lib.hid hc0
        have hc1' := Lib.hid hc1
        clear hc0 hc1 h0
        go_wp2_with fail
        go_region_held3 (fun w' => Below wr.heap.size wr w' ∧ w'.cell? ⟨T, k, none⟩ = some (.int .u8 (Gf.sub k : Nat)))
          (first
            | (go_split_ands; (exact keepT hT (by with_reducible assumption) (by with_reducible assumption) b2))
            | go_keep)
          ((first
            | (go_at_call 15; (with_reducible refine (sub_to k _ hlt rfl _).mono ?_); rintro e w2 ⟨rfl, b2⟩)
            | (go_at_call 17; (with_reducible refine (back_to (Gf.sub k) k hs (Gf.back_sub k hlt) _).mono ?_); rintro e w2 ⟨rfl, b2⟩)
            | (go_at_call 14; (with_reducible refine (inverse_to k _ hlt rfl _).mono ?_); rintro e w2 ⟨rfl, b2⟩)
            | (go_at_call 8; (with_reducible refine (mul_to k (Gf.inv k) 0 hlt hinv hc0'.out _).mono ?_); rintro e w2 ⟨rfl, b2⟩)
            | (go_at_call 13; (with_reducible refine (one_to (k : Int) 1 hc1'.out _).mono ?_); rintro e w2 ⟨rfl, b2⟩)))
        have hW : Below wr.heap.size wr w2 := (show Below wr.heap.size wr w2 ∧ w2.cell? ⟨T, k, none⟩ = some (.int .u8 (Gf.sub k : Nat)) by with_reducible assumption).1
        have hm2 := hmem'.out.below hW
        clear hmem' hW
        have hm3 := Lib.hid hm2
        clear hm2
        go_wp2_with fail
        refine (power_any 3 (k : Int) (Gf.pw 3 k) (by omega) (by omega) (Gf.powZ_nat 3 k (by omega)) _).mono ?_
        rintro e w4 ⟨rfl, b4⟩
        have hm4 := hm3.out.below b4
        clear hm3
        have hpk := Gf.pw_lt 3 k (by omega)
        have hcb := hm4.b.cell (Gf.pw 3 k)
        rw [vb_get (by rw [hm4.l]; exact hpk)] at hcb
        have hfb := hm4.b.frozen (Gf.pw 3 k)
        have hm5 := Lib.hid hm4.step
        clear hm4
        go_wp2
        go_roundw
        case rel => exact ⟨k + 1, _, by omega, by go_num, hm5.out⟩
        case measure => simp [intOf]; omega
      · have hc0 : Gf.gm k (Gf.inv k) = 1 := Gf.gm_inv k h0 hlt
        have hc1 : Gf.powZ 0 (k : Int) = 0 := by unfold Gf.powZ; rw [if_pos rfl, if_neg (by omega)]
        have hc0' := Lib.hid hc0
        have hc1' := Lib.hid hc1
        clear hc0 hc1 h0
        go_wp2_with fail
        go_region_held3 (fun w' => Below wr.heap.size wr w' ∧ w'.cell? ⟨T, k, none⟩ = some (.int .u8 (Gf.sub k : Nat)))
          (first
            | (go_split_ands; (exact keepT hT (by with_reducible assumption) (by with_reducible assumption) b2))
            | go_keep)
          ((first
            | (go_at_call 15; (with_reducible refine (sub_to k _ hlt rfl _).mono ?_); rintro e w2 ⟨rfl, b2⟩)
            | (go_at_call 17; (with_reducible refine (back_to (Gf.sub k) k hs (Gf.back_sub k hlt) _).mono ?_); rintro e w2 ⟨rfl, b2⟩)
            | (go_at_call 14; (with_reducible refine (inverse_to k _ hlt rfl _).mono ?_); rintro e w2 ⟨rfl, b2⟩)
            | (go_at_call 8; (with_reducible refine (mul_to k (Gf.inv k) 1 hlt hinv hc0'.out _).mono ?_); rintro e w2 ⟨rfl, b2⟩)
            | (go_at_call 13; (with_reducible refine (one_to (k : Int) 0 hc1'.out _).mono ?_); rintro e w2 ⟨rfl, b2⟩)))
        have hW : Below wr.heap.size wr w2 := (show Below wr.heap.size wr w2 ∧ w2.cell? ⟨T, k, none⟩ = some (.int .u8 (Gf.sub k : Nat)) by with_reducible assumption).1
        have hm2 := hmem'.out.below hW
        clear hmem' hW
        have hm3 := Lib.hid hm2
        clear hm2
        go_wp2_with fail
        refine (power_any 3 (k : Int) (Gf.pw 3 k) (by omega) (by omega) (Gf.powZ_nat 3 k (by omega)) _).mono ?_
        rintro e w4 ⟨rfl, b4⟩
        have hm4 := hm3.out.below b4
        clear hm3
        have hpk := Gf.pw_lt 3 k (by omega)
        have hcb := hm4.b.cell (Gf.pw 3 k)
        rw [vb_get (by rw [hm4.l]; exact hpk)] at hcb
        have hfb := hm4.b.frozen (Gf.pw 3 k)
        have hm5 := Lib.hid hm4.step
        clear hm4
        go_wp2
        go_roundw
        case rel => exact ⟨k + 1, _, by omega, by go_num, hm5.out⟩
        case measure => simp [intOf]; omega
    · have ek : (k : Int) = 256 := by omega
      obtain rfl : k = 256 := by omega
      go_wp2
      have hall : ∀ j, j < 256 → j ≠ 0 → sn.getD j false = true := fun j hj h0 => by
        have := hmem.d (Gf.lg j) (by have := Gf.lg_lt j hj; omega)
        rwa [Gf.pw_ex _ (by have := Gf.lg_lt j hj; omega), Gf.ex_lg j hj h0] at this
      have hall' := Lib.hid hall
      clear hall
      go_loop [4] (fun s => ∃ j : Nat, 1 ≤ j ∧ j ≤ 256 ∧ s = .int .i64 (j : Int)) (fun s => 256 - (intOf s).toNat)
      case atStart => exact ⟨1, by omega, by omega, rfl⟩
      case round =>
        obtain ⟨j, hj1, hj, rfl⟩ := hrel
        by_cases hlt : j < 256
        · have hlt' : (j : Int) < 256 := by omega
          have hcb := hmem.b.cell j
          rw [vb_get (by rw [hmem.l]; omega), hall'.out j hlt (by omega)] at hcb
          go_wp2
          go_round
          case rel => exact ⟨j + 1, by omega, by omega, by go_num⟩
          case measure => simp [intOf]; omega
        · have ej : (j : Int) = 256 := by omega
          have hcb := hmem.b.cell 0
          rw [vb_get (by rw [hmem.l]; omega), hmem.z] at hcb
          have hbel := hmem.bel
          go_wp2_with fail
          refine (power_any 3 (-9223372036854775808) 160 (by omega) (by omega) (by decide +kernel) _).mono ?_
          rintro e x1 ⟨rfl, y1⟩
          replace y1 := below_trans hbel y1
          clear hbel
          go_wp2_with fail
          refine (power_any 3 (-128) 160 (by omega) (by omega) (by decide +kernel) _).mono ?_
          rintro e x2 ⟨rfl, y2⟩
          replace y2 := below_trans y1 y2
          clear y1
          go_wp2_with fail
          refine (power_any 3 9223372036854775807 160 (by omega) (by omega) (by decide +kernel) _).mono ?_
          rintro e x3 ⟨rfl, y3⟩
          replace y3 := below_trans y2 y3
          clear y2
          go_wp2_with fail
          refine (power_any 3 127 160 (by omega) (by omega) (by decide +kernel) _).mono ?_
          rintro e x4 ⟨rfl, y4⟩
          replace y4 := below_trans y3 y4
          clear y3
          go_wp2_with fail
          refine (power_any 0 (-9223372036854775808) 0 (by omega) (by omega) (by decide +kernel) _).mono ?_
          rintro e x5 ⟨rfl, y5⟩
          replace y5 := below_trans y4 y5
          clear y4
          go_wp2_with fail
          refine (lives05 _).mono ?_
          rintro e x6 ⟨rfl, y6⟩
          replace y6 := below_trans y5 y6
          clear y5
          go_wp2
          go_ret
          exact ⟨rfl, y6⟩
end Go.Proofs.Ytiaeocjhlglldaa
