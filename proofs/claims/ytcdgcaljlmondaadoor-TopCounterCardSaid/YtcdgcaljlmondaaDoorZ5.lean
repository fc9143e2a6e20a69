/-
  Walks through package ciphers: mix.
-/
import Derived.Test.YtcdgcaljlmondaaDoorZ4
import Derived.Deep.MidRow
import Derived.Deep.RegionHeld3
import Derived.Deep.LoopGhost
import Derived.Deep.DeepCutAuto
import Derived.ChangeKeysEq
import Derived.BigRegion
namespace Go.Proofs.YtcdgcaljlmondaaDoor
set_option maxRecDepth 16384
open Go.RowKit

set_option maxHeartbeats 1600000 in
theorem mix_any (S : Nat) (f b : List Nat) (hfl : f.length = 4) (hbl : b.length = 16) (hfb : Ci.Byt f) (hb : Ci.Byt b) (w : World) (hs : Blk w S 106 (va .u8 b)) :
    Calls Tryd.prog 41 #[.pointer (some ⟨S, 0, none⟩), .agg (va .u8 f)] w fun e w' => e = .returned (.tuple #[]) ∧ StMem S (Ci.mix f b) w w' := by
  have hlt0 := hs.lt
  have hm : StMem S (Ci.upd (fun i => Ci.mixS f b (i / 4) (i % 4) 4) b 0) w ((w.alloc (.cells (va .u8 f) 102)).alloc (.cells (va .u8 b) 37)) := by
    rw [Ci.upd_zero]; exact ⟨(hs.alloc _).alloc _, ((Below.refl _ _).alloc (by omega) _).alloc (by simp; omega) _⟩
  have hkk : Blk ((w.alloc (.cells (va .u8 f) 102)).alloc (.cells (va .u8 b) 37)) (w.heap.size + 1) 37 (va .u8 b) := by
    have := Blk.new (w.alloc (.cells (va .u8 f) 102)) 37 (va .u8 b)
    simpa using this
  have hff : Blk ((w.alloc (.cells (va .u8 f) 102)).alloc (.cells (va .u8 b) 37)) w.heap.size 102 (va .u8 f) := (Blk.new _ _ _).alloc _
  have hmm := Lib.hid hm
  have hkh := Lib.hid hkk
  have hfh := Lib.hid hff
  have hsz0 : (Tryd.prog.info? 37).map (·.size) = some (va .u8 b).size := by rw [va_size, hbl]; kernel_rfl
  have hsz := Lib.hid hsz0
  have hsz40 : (Tryd.prog.info? 102).map (·.size) = some (va .u8 f).size := by rw [va_size, hfl]; kernel_rfl
  have hsz4 := Lib.hid hsz40
  have hvs : (va .u8 b).size = 16 := by rw [va_size, hbl]
  have hzv := zero16
  have hst := run_storeNew (P := Tryd.prog) (w.alloc (.cells (va .u8 f) 102)) 37 (va .u8 z16) .u8 b (by rw [va_size, hbl, z16_len])
  rw [show (w.alloc (.cells (va .u8 f) 102)).heap.size = w.heap.size + 1 from by simp] at hst
  have hsh := Lib.hid (hs.alloc (.cells (va .u8 f) 102))
  obtain ⟨ie, hie, _, his, _⟩ := info_parts byte_info
  have hix : ∀ (k : Nat) (W : World), k < 4 → (Instr.index 102 (.agg (va .u8 f)) (.int .i64 (k : Int))).run Tryd.prog W = .ok (.int .u8 ((f.getD k 0 : Nat) : Int)) W := fun k W hk => run_index_num Tryd.underlying102 Tryd.underlying5 hie his hfl hk W
  have hixh := Lib.hid hix
  clear hm hkk hff hsz0 hsz40 hs hix
  go_enter Tryd.func41, Tryd.ntmps41
  go_wp2_with (refine wpList_load_row rfl 37 (.tmp 12) rfl S rfl 106 (va .u8 b) (0, 0) _ hsh.out Tryd.underlying37 rfl hsz.out ?_)
  clear hst hvs hzv
  generalize (w.alloc (.cells (va .u8 f) 102)).alloc (.cells (va .u8 b) 37) = w1 at *
  go_loopw [14] (fun s wr => ∃ c : Nat, c ≤ 4 ∧ s = .int .i64 (c : Int) ∧ StMem S (Ci.upd (fun i => Ci.mixS f b (i / 4) (i % 4) 4) b (4 * c)) w wr ∧ Blk wr (w.heap.size + 1) 37 (va .u8 b) ∧ Blk wr w.heap.size 102 (va .u8 f)) (fun s _ => 4 - (intOf s).toNat)
  case atStart => exact ⟨0, by omega, rfl, hmm.out, hkh.out, hfh.out⟩
  case round =>
    clear hmm hkh hfh hsh
    obtain ⟨c, hc4, rfl, hmem, hold, hfac⟩ := hrel
    by_cases hlc : c < 4
    · have hlcI : (c : Int) < 4 := by omega
      have hmm := Lib.hid hmem
      have hkh := Lib.hid hold
      have hfh := Lib.hid hfac
      clear hmem hold hfac
      go_wp2
      go_loopw [17] (fun s wr => ∃ r : Nat, r ≤ 4 ∧ s = .int .i64 (r : Int) ∧ StMem S (Ci.upd (fun i => Ci.mixS f b (i / 4) (i % 4) 4) b (4 * c + r)) w wr ∧ Blk wr (w.heap.size + 1) 37 (va .u8 b) ∧ Blk wr w.heap.size 102 (va .u8 f)) (fun s _ => 4 - (intOf s).toNat)
      case atStart => exact ⟨0, by omega, rfl, hmm.out, hkh.out, hfh.out⟩
      case round =>
        clear hmm hkh hfh
        obtain ⟨r, hr4, rfl, hmem, hold, hfac⟩ := hrel
        by_cases hlr : r < 4
        · have hlrI : (r : Int) < 4 := by omega
          have hmm := Lib.hid hmem
          have hkh := Lib.hid hold
          have hfh := Lib.hid hfac
          clear hmem hold hfac
          go_wp2_with (refine wpList_load_row rfl 102 (.tmp 3) rfl w.heap.size rfl 102 (va .u8 f) (0, 0) _ hfh.out Tryd.underlying102 rfl hsz4.out ?_)
          go_loopw [7, 21] (fun v s wx => ∃ j : Nat, j ≤ 4 ∧ s = .int .i64 (j : Int) ∧ v = .int .u8 (Ci.mixS f b c r j : Nat) ∧ StMem S (Ci.upd (fun i => Ci.mixS f b (i / 4) (i % 4) 4) b (4 * c + r)) w wx ∧ Blk wx (w.heap.size + 1) 37 (va .u8 b) ∧ Blk wx w.heap.size 102 (va .u8 f)) (fun _ s _ => 4 - (intOf s).toNat)
          case atStart => exact ⟨0, by omega, rfl, rfl, hmm.out, hkh.out, hfh.out⟩
          case round =>
            clear hmm hkh hfh
            obtain ⟨j, hj4, rfl, rfl, hmem, hold, hfac⟩ := hrel
            by_cases hlj : j < 4
            · have hljI : (j : Int) < 4 := by omega
              have hrun := fun W => hixh.out j W hlj
              obtain ⟨q, hq⟩ : ∃ q, (r + j) % 4 = q := ⟨_, rfl⟩
              obtain ⟨i, hi⟩ : ∃ i, 4 * c + q = i := ⟨_, rfl⟩
              have hq4 : q < 4 := by omega
              have hi16 : i < 16 := by omega
              have hqt : ((r : Int) + (j : Int)).tmod 4 = (q : Int) := by rw [Int.tmod_eq_emod_of_nonneg (by omega)]; omega
              have hqe : ((r : Int) + (j : Int)) % 4 = (q : Int) := by omega
              have hiI : 4 * (c : Int) + (q : Int) = (i : Int) := by omega
              have hi16I : (i : Int) < 16 := by omega
              have hc2 := hold.num (i := i) (by omega)
              have hfx := hfb.get j
              have hbx := hb.get i
              have hmx := Ci.mixS_lt f b hfb hb c r j
              have hstep : Ci.mixS f b c r (j + 1) = Ci.mixS f b c r j ^^^ Gf.gm (f.getD j 0) (b.getD i 0) := by
                show Ci.mixS f b c r j ^^^ Gf.gm (f.getD j 0) (b.getD (4 * c + (r + j) % 4) 0) = _
                rw [hq, hi]
              obtain ⟨x, hxe⟩ : ∃ x, f.getD j 0 = x := ⟨_, rfl⟩
              obtain ⟨y, hye⟩ : ∃ y, b.getD i 0 = y := ⟨_, rfl⟩
              simp only [hxe] at hrun
              rw [hxe] at hfx hstep
              rw [hye] at hbx hc2 hstep
              obtain ⟨z, hze⟩ : ∃ z, Gf.gm x y = z := ⟨_, rfl⟩
              have hz8 : z < 256 := by rw [← hze]; exact Gf.gm_lt _ _ hfx
              rw [hze] at hstep
              have hxor : bits BinOp.xor IntKind.u8 ((Ci.mixS f b c r j : Nat) : Int) (z : Int) = ((Ci.mixS f b c r (j + 1) : Nat) : Int) := by rw [hstep]; exact u8_xor_nat _ _ hmx hz8
              have hxor' := Lib.hid hxor
              generalize Ci.mixS f b c r j = m0 at *
              obtain ⟨m1, hm1⟩ : ∃ m1, Ci.mixS f b c r (j + 1) = m1 := ⟨_, rfl⟩
              rw [hm1] at hxor
              have hm1' := Lib.hid hm1
              clear hm1
              have hze' := Lib.hid hze
              have hmm := Lib.hid hmem
              have hkh := Lib.hid hold
              have hfh := Lib.hid hfac
              clear hmem hold hfac hxe hye hq hi hstep hze hxor'
              go_wp2_with fail
              refine (mul_to x y z hfx hbx hze'.out _).mono ?_
              rintro e w2 ⟨rfl, b2⟩
              have hmm2 := Lib.hid (StMem.mk (S := S) (w := w) (hmm.out.s.below b2 hmm.out.s.lt) (hmm.out.bel.trans (b2.mono (Nat.le_of_lt hmm.out.s.lt))))
              have hkh2 := Lib.hid (hkh.out.below b2 hkh.out.lt)
              have hfh2 := Lib.hid (hfh.out.below b2 hfh.out.lt)
              clear hmm hkh hfh b2 hc2 hrun
              go_wp2
              go_roundw
              case rel => exact ⟨j + 1, by omega, by go_num, by rw [hm1'.out], hmm2.out, hkh2.out, hfh2.out⟩
              case measure => simp [intOf]; omega
            · obtain rfl : j = 4 := by omega
              obtain ⟨i, hi⟩ : ∃ i, 4 * c + r = i := ⟨_, rfl⟩
              have hi16 : i < 16 := by omega
              have hiI : 4 * (c : Int) + (r : Int) = (i : Int) := by omega
              have hi16I : (i : Int) < 16 := by omega
              have hfi : Ci.mixS f b (i / 4) (i % 4) 4 = Ci.mixS f b c r 4 := by
                rw [show i / 4 = c from by omega, show i % 4 = r from by omega]
              have hset := Ci.upd_set (fun i => Ci.mixS f b (i / 4) (i % 4) 4) b i
              simp only [hfi] at hset
              rw [hi] at hmem
              have hc0 := hmem.s.num (i := i) (by rw [Ci.upd_len]; omega)
              have hf0 := hmem.s.frozen i
              generalize (Ci.upd (fun i => Ci.mixS f b (i / 4) (i % 4) 4) b i).getD i 0 = y0 at *
              generalize Ci.mixS f b c r 4 = m4 at *
              have hset' := Lib.hid hset
              have hih := Lib.hid hi
              have hmm := Lib.hid hmem
              have hkh := Lib.hid hold
              have hfh := Lib.hid hfac
              clear hmem hold hfac hset hi hfi
              go_wp2
              go_roundw
              case rel =>
                refine ⟨r + 1, by omega, by go_num, ⟨?_, hmm.out.bel.setCell (Nat.le_refl _) _⟩, hkh.out.far (by simp; omega) _, hfh.out.far (by simp; omega) _⟩
                have e4 : 4 * c + (r + 1) = i + 1 := by rw [← hih.out]; omega
                rw [e4, ← hset'.out]
                exact hmm.out.s.setNum i m4
              case measure => simp [intOf]; omega
        · obtain rfl : r = 4 := by omega
          have hmm := Lib.hid hmem
          have hkh := Lib.hid hold
          have hfh := Lib.hid hfac
          clear hmem hold hfac
          go_wp2
          go_roundw
          case rel => exact ⟨c + 1, by omega, by go_num, by rw [show 4 * (c + 1) = 4 * c + 4 from by omega]; exact hmm.out, hkh.out, hfh.out⟩
          case measure => simp [intOf]; omega
    · obtain rfl : c = 4 := by omega
      go_wp2
      go_end0
      refine ⟨rfl, ?_, hmem.bel⟩
      have := hmem.s
      rw [Ci.upd_all _ _ _ (by omega), hbl] at this
      exact this
end Go.Proofs.YtcdgcaljlmondaaDoor
/-
  Walks through package ciphers: Encrypt and Decrypt.
-/
namespace Go.Proofs.YtcdgcaljlmondaaDoor
set_option maxRecDepth 16384
open Go.RowKit

namespace Ci
def ks (L : List Nat) (k : Nat) : List Nat := (L.drop (k * 16)).take 16
def encS (L b : List Nat) : Nat → List Nat
 | 0 => addK b (ks L 0)
 | k + 1 => addK (if k + 1 < 10 then mix [2, 3, 1, 1] (rot 1 (each Gf.sub (encS L b k))) else rot 1 (each Gf.sub (encS L b k))) (ks L (k + 1))
def enc (L b : List Nat) : List Nat := encS L b 10
theorem ks_len {L : List Nat} (hL : L.length = 176) (k : Nat) (hk : k ≤ 10) : (ks L k).length = 16 := by simp [ks]; omega
theorem ks_byt {L : List Nat} (hL : Byt L) (k : Nat) : Byt (ks L k) := fun x hx => hL x (List.mem_of_mem_drop (List.mem_of_mem_take hx))
theorem each_byt {s : Nat → Nat} (hs : ∀ a, s a < 256) (b : List Nat) : Byt (each s b) := byt_map fun _ _ => hs _
theorem fac_byt : Byt [2, 3, 1, 1] := by intro x hx; simp at hx; omega
theorem encS_len (L b : List Nat) : ∀ k, (encS L b k).length = 16
 | 0 => addK_len _ _
 | _ + 1 => addK_len _ _
theorem encS_byt {L b : List Nat} (hL : Byt L) (hb : Byt b) : ∀ k, Byt (encS L b k)
  | 0 => addK_byt hb (ks_byt hL 0)
  | k + 1 => by
    refine addK_byt ?_ (ks_byt hL _)
    have h1 : Byt (rot 1 (each Gf.sub (encS L b k))) := rot_byt (each_byt Gf.sub_lt _)
    split
    · exact mix_byt fac_byt h1
    · exact h1
end Ci

theorem list16 {l : List Nat} (h : l.length = 16) : ∃ a0 a1 a2 a3 a4 a5 a6 a7 a8 a9 a10 a11 a12 a13 a14 a15, l = [a0, a1, a2, a3, a4, a5, a6, a7, a8, a9, a10, a11, a12, a13, a14, a15] :=
 match l, h with
 | [a0, a1, a2, a3, a4, a5, a6, a7, a8, a9, a10, a11, a12, a13, a14, a15], _ => ⟨a0, a1, a2, a3, a4, a5, a6, a7, a8, a9, a10, a11, a12, a13, a14, a15, rfl⟩
theorem zeroState (w : World) : (zeroValue 106).run Tryd.prog w = .ok (.agg (va .u8 z16)) w := by kernel_rfl

theorem fold_state {b : List Nat} (h : b.length = 16) : Array.foldl (fun (cs : Array Value) (x : Value × Nat) => cs.setIfInBounds x.snd x.fst) (va .u8 z16) (va .u8 b).zipIdx 0 16 = va .u8 b := by
 obtain ⟨a0, a1, a2, a3, a4, a5, a6, a7, a8, a9, a10, a11, a12, a13, a14, a15, rfl⟩ := list16 h
 kernel_rfl

/-- the blocks of Encrypt and Decrypt -/
structure EnMem (G : Nat) (L b : List Nat) (w wr : World) : Prop where
 k : Blk wr G 42 (va .u8 L)
 r : Blk wr (G + 1 + 1) 37 (va .u8 z16)
 s : Blk wr (G + 1 + 1 + 1) 106 (va .u8 b)
 bel : Below G w wr
theorem EnMem.step {G : Nat} {L b b' : List Nat} {w wr w2 : World} (h : EnMem G L b w wr) (hs : StMem (G + 1 + 1 + 1) b' wr w2) : EnMem G L b' w w2 :=
 ⟨h.k.below hs.bel (by omega), h.r.below hs.bel (by omega), hs.s, h.bel.trans (hs.bel.mono (by omega))⟩
theorem EnMem.key {G : Nat} {L b : List Nat} {w wr : World} (h : EnMem G L b w wr) (k : Nat) : wr.rangeAt G (k * 16) (nv .u8 (Ci.ks L k)) := fun j v hv => h.k.part (k * 16) 16 j v hv

set_option maxHeartbeats 1600000 in
theorem encrypt_any (L b : List Nat) (hLl : L.length = 176) (hbl : b.length = 16) (hL : Ci.Byt L) (hb : Ci.Byt b) (w : World) :
    Calls Tryd.prog 38 #[.agg (va .u8 L), .agg (va .u8 b)] w fun e w' => e = .returned (.agg (va .u8 (Ci.enc L b))) ∧ Below w.heap.size w w' := by
  have hsz0 : (Tryd.prog.info? 37).map (·.size) = some (va .u8 b).size := by rw [va_size, hbl]; kernel_rfl
  have hsz := Lib.hid hsz0
  have hzv := zero16
  have hzs := zeroState
  have hvs : (va .u8 b).size = 16 := by rw [va_size, hbl]
  have hfold := fold_state hbl
  have hmf : ∀ (fn : Fn) (first cap : Array Value) (w : World), (Instr.makeFunc fn first cap).run Tryd.prog w = .ok (.func fn first cap) w := fun _ _ _ _ => rfl
  have hst := run_storeNew (P := Tryd.prog) (((w.alloc (.cells (va .u8 L) 42)).alloc (.cells (va .u8 b) 37)).alloc (.cells (va .u8 z16) 37)) 106 (va .u8 z16) .u8 b (by rw [va_size, hbl, z16_len])
  rw [show (((w.alloc (.cells (va .u8 L) 42)).alloc (.cells (va .u8 b) 37)).alloc (.cells (va .u8 z16) 37)).heap.size = w.heap.size + 1 + 1 + 1 from by simp] at hst
  have hm : EnMem w.heap.size L b w ((((w.alloc (.cells (va .u8 L) 42)).alloc (.cells (va .u8 b) 37)).alloc (.cells (va .u8 z16) 37)).alloc (.cells (va .u8 b) 106)) := by
    refine ⟨(((Blk.new _ _ _).alloc _).alloc _).alloc _, ?_, ?_, ((((Below.refl _ _).alloc (Nat.le_refl _) _).alloc (by simp) _).alloc (by simp <;> omega) _).alloc (by simp <;> omega) _⟩
    · exact Blk.alloc (by have := Blk.new ((w.alloc (.cells (va .u8 L) 42)).alloc (.cells (va .u8 b) 37)) 37 (va .u8 z16); simpa using this) _
    · have := Blk.new (((w.alloc (.cells (va .u8 L) 42)).alloc (.cells (va .u8 b) 37)).alloc (.cells (va .u8 z16) 37)) 106 (va .u8 b)
      simpa using this
  have hmm := Lib.hid hm
  clear hsz0 hm
  go_enter Tryd.func38, Tryd.ntmps38
  go_wp2_with (first
    | (refine wpList_load_row rfl 37 (.tmp 3) rfl (w.heap.size + 1) rfl 37 (va .u8 b) (0, 0) _ ?hq Tryd.underlying37 rfl hsz.out ?_
       case hq => exact Blk.alloc (by have := Blk.new (w.alloc (.cells (va .u8 L) 42)) 37 (va .u8 b); simpa using this) _)
    | (refine wpList_buildv rfl 106 _ rfl (va .u8 b) (built_state hbl) ?_)
    | (refine wpList_load_mid rfl 37 (.tmp 18) rfl w.heap.size 0 rfl (nv .u8 (Ci.ks L 0)) _ (hmm.out.key 0) Tryd.underlying37 rfl (by rw [nv_len, Ci.ks_len hLl 0 (by omega)]; kernel_rfl) ?_))
  refine (add_any (w.heap.size + 1 + 1 + 1) b (Ci.ks L 0) hbl (Ci.ks_len hLl 0 (by omega)) hb (Ci.ks_byt hL 0) _ hmm.out.s).mono ?_
  rintro e w1 ⟨rfl, hs1⟩
  have hm1 := Lib.hid (hmm.out.step hs1)
  clear hs1 hst hfold hzs hzv hvs hmf hmm
  go_wp2
  go_loopw [10] (fun s wr => ∃ k : Nat, k ≤ 10 ∧ s = .int .i64 ((k : Int) + 1) ∧ EnMem w.heap.size L (Ci.encS L b k) w wr) (fun s _ => 11 - (intOf s).toNat)
  case atStart => exact ⟨0, by omega, rfl, hm1.out⟩
  case round =>
    clear hm1
    obtain ⟨k, hk, rfl, hmem⟩ := hrel
    by_cases hlt : k < 10
    · have hltI : (k : Int) + 1 ≤ 10 := by omega
      have hmm := Lib.hid hmem
      clear hmem
      go_wp2_with fail
      refine (each_sub (w.heap.size + 1 + 1 + 1) (Ci.encS L b k) (Ci.encS_len L b k) (Ci.encS_byt hL hb k) _ hmm.out.s).mono ?_
      rintro e w2 ⟨rfl, hs2⟩
      have hm2 := Lib.hid (hmm.out.step hs2)
      clear hs2 hmm
      go_wp2_with fail
      refine (rotate1_any (w.heap.size + 1 + 1 + 1) (Ci.each Gf.sub (Ci.encS L b k)) (Ci.each_len _ _) (Ci.each_byt Gf.sub_lt _) _ hm2.out.s).mono ?_
      rintro e w3 ⟨rfl, hs3⟩
      have hm3 := Lib.hid (hm2.out.step hs3)
      clear hs3 hm2
      by_cases h10 : k + 1 < 10
      · have h10I : (k : Int) + 1 < 10 := by omega
        go_wp2_with fail
        refine (mix_any (w.heap.size + 1 + 1 + 1) [2, 3, 1, 1] (Ci.rot 1 (Ci.each Gf.sub (Ci.encS L b k))) rfl (Ci.rot_len _ _) Ci.fac_byt (Ci.rot_byt (Ci.each_byt Gf.sub_lt _)) _ hm3.out.s).mono ?_
        rintro e w4 ⟨rfl, hs4⟩
        have hm4 := Lib.hid (hm3.out.step hs4)
        clear hs4 hm3
        go_wp2_with (refine wpList_load_mid rfl 37 (.tmp 36) rfl w.heap.size ((k + 1) * 16) rfl (nv .u8 (Ci.ks L (k + 1))) _ (hm4.out.key (k + 1)) Tryd.underlying37 rfl (by rw [nv_len, Ci.ks_len hLl (k + 1) (by omega)]; kernel_rfl) ?_)
        refine (add_any (w.heap.size + 1 + 1 + 1) (Ci.mix [2, 3, 1, 1] (Ci.rot 1 (Ci.each Gf.sub (Ci.encS L b k)))) (Ci.ks L (k + 1)) (Ci.mix_len _ _) (Ci.ks_len hLl (k + 1) (by omega)) (Ci.mix_byt Ci.fac_byt (Ci.rot_byt (Ci.each_byt Gf.sub_lt _))) (Ci.ks_byt hL _) _ hm4.out.s).mono ?_
        rintro e w5 ⟨rfl, hs5⟩
        have hm5 := hm4.out.step hs5
        have he : Ci.addK (Ci.mix [2, 3, 1, 1] (Ci.rot 1 (Ci.each Gf.sub (Ci.encS L b k)))) (Ci.ks L (k + 1)) = Ci.encS L b (k + 1) := by
          show _ = Ci.addK (if k + 1 < 10 then _ else _) _
          rw [if_pos h10]
        rw [he] at hm5
        have hm6 := Lib.hid hm5
        clear hs5 hm4 hm5 he
        go_wp2
        go_roundw
        case rel => exact ⟨k + 1, by omega, by go_num, hm6.out⟩
        case measure => simp [intOf]; omega
      · have h10I : 10 ≤ (k : Int) + 1 := by omega
        go_wp2_with (refine wpList_load_mid rfl 37 (.tmp 36) rfl w.heap.size ((k + 1) * 16) rfl (nv .u8 (Ci.ks L (k + 1))) _ (hm3.out.key (k + 1)) Tryd.underlying37 rfl (by rw [nv_len, Ci.ks_len hLl (k + 1) (by omega)]; kernel_rfl) ?_)
        refine (add_any (w.heap.size + 1 + 1 + 1) (Ci.rot 1 (Ci.each Gf.sub (Ci.encS L b k))) (Ci.ks L (k + 1)) (Ci.rot_len _ _) (Ci.ks_len hLl (k + 1) (by omega)) (Ci.rot_byt (Ci.each_byt Gf.sub_lt _)) (Ci.ks_byt hL _) _ hm3.out.s).mono ?_
        rintro e w5 ⟨rfl, hs5⟩
        have hm5 := hm3.out.step hs5
        have he : Ci.addK (Ci.rot 1 (Ci.each Gf.sub (Ci.encS L b k))) (Ci.ks L (k + 1)) = Ci.encS L b (k + 1) := by
          show _ = Ci.addK (if k + 1 < 10 then _ else _) _
          rw [if_neg h10]
        rw [he] at hm5
        have hm6 := Lib.hid hm5
        clear hs5 hm3 hm5 he
        go_wp2
        go_roundw
        case rel => exact ⟨k + 1, by omega, by go_num, hm6.out⟩
        case measure => simp [intOf]; omega
    · obtain rfl : k = 10 := by omega
      have hel : (Ci.encS L b 10).length = 16 := Ci.encS_len L b 10
      have hsz0 : (Tryd.prog.info? 37).map (·.size) = some (va .u8 (Ci.encS L b 10)).size := by rw [va_size, hel]; kernel_rfl
      have hszE := Lib.hid hsz0
      have hst := run_storeBlk (P := Tryd.prog) hmem.r .u8 (Ci.encS L b 10) (by rw [va_size, z16_len, hel])
      have hvs : (va .u8 (Ci.encS L b 10)).size = 16 := by rw [va_size, hel]
      have hmm := Lib.hid hmem
      clear hsz0 hmem hel
      go_wp2_with (refine wpList_load_row rfl 37 (.tmp 39) rfl (w.heap.size + 1 + 1 + 1) rfl 106 (va .u8 (Ci.encS L b 10)) (0, 0) _ hmm.out.s Tryd.underlying37 rfl hszE.out ?_)
      exact bodyPost_ret (results_cell_row rfl _ _ (w.heap.size + 1 + 1) 37 (va .u8 (Ci.encS L b 10)) (0, 0) _ rfl (hmm.out.r.row _) Tryd.underlying37 rfl hszE.out) rfl ⟨rfl, below_setRow hmm.out.bel (by omega) _⟩
end Go.Proofs.YtcdgcaljlmondaaDoor
/-
  The walk of ciphers.Decrypt.
-/
namespace Go.Proofs.YtcdgcaljlmondaaDoor
set_option maxRecDepth 16384
open Go.RowKit

namespace Ci
def decS (L b : List Nat) : Nat → List Nat
 | 0 => b
 | j + 1 => each Gf.back (rot 3 (if 10 - j < 10 then mix [14, 11, 13, 9] (addK (decS L b j) (ks L (10 - j))) else addK (decS L b j) (ks L (10 - j))))
def dec (L b : List Nat) : List Nat := addK (decS L b 10) (ks L 0)
theorem fac2_byt : Byt [14, 11, 13, 9] := by intro x hx; simp at hx; omega
theorem back_lt (a : Nat) : Gf.back a < 256 := Nat.mod_lt _ (by omega)
theorem decS_len (L b : List Nat) (hb : b.length = 16) : ∀ j, (decS L b j).length = 16
 | 0 => hb
 | _ + 1 => each_len _ _
theorem decS_byt {L b : List Nat} (hb : Byt b) : ∀ j, Byt (decS L b j)
 | 0 => hb
 | _ + 1 => each_byt back_lt _
end Ci

set_option maxHeartbeats 1600000 in
theorem decrypt_any (L b : List Nat) (hLl : L.length = 176) (hbl : b.length = 16) (hL : Ci.Byt L) (hb : Ci.Byt b) (w : World) :
    Calls Tryd.prog 13 #[.agg (va .u8 L), .agg (va .u8 b)] w fun e w' => e = .returned (.agg (va .u8 (Ci.dec L b))) ∧ Below w.heap.size w w' := by
  have hsz0 : (Tryd.prog.info? 37).map (·.size) = some (va .u8 b).size := by rw [va_size, hbl]; kernel_rfl
  have hsz := Lib.hid hsz0
  have hzv := zero16
  have hzs := zeroState
  have hvs : (va .u8 b).size = 16 := by rw [va_size, hbl]
  have hfold := fold_state hbl
  have hst := run_storeNew (P := Tryd.prog) (((w.alloc (.cells (va .u8 L) 42)).alloc (.cells (va .u8 b) 37)).alloc (.cells (va .u8 z16) 37)) 106 (va .u8 z16) .u8 b (by rw [va_size, hbl, z16_len])
  rw [show (((w.alloc (.cells (va .u8 L) 42)).alloc (.cells (va .u8 b) 37)).alloc (.cells (va .u8 z16) 37)).heap.size = w.heap.size + 1 + 1 + 1 from by simp] at hst
  have hm : EnMem w.heap.size L b w ((((w.alloc (.cells (va .u8 L) 42)).alloc (.cells (va .u8 b) 37)).alloc (.cells (va .u8 z16) 37)).alloc (.cells (va .u8 b) 106)) := by
    refine ⟨(((Blk.new _ _ _).alloc _).alloc _).alloc _, ?_, ?_, ((((Below.refl _ _).alloc (Nat.le_refl _) _).alloc (by simp) _).alloc (by simp <;> omega) _).alloc (by simp <;> omega) _⟩
    · exact Blk.alloc (by have := Blk.new ((w.alloc (.cells (va .u8 L) 42)).alloc (.cells (va .u8 b) 37)) 37 (va .u8 z16); simpa using this) _
    · have := Blk.new (((w.alloc (.cells (va .u8 L) 42)).alloc (.cells (va .u8 b) 37)).alloc (.cells (va .u8 z16) 37)) 106 (va .u8 b)
      simpa using this
  have hmm := Lib.hid hm
  clear hsz0 hm
  go_enter Tryd.func13, Tryd.ntmps13
  go_wp2_with (refine wpList_load_row rfl 37 (.tmp 3) rfl (w.heap.size + 1) rfl 37 (va .u8 b) (0, 0) _ ?hq Tryd.underlying37 rfl hsz.out ?_
               case hq => exact Blk.alloc (by have := Blk.new (w.alloc (.cells (va .u8 L) 42)) 37 (va .u8 b); simpa using this) _)
  clear hst hfold hzs hzv hvs
  generalize (((w.alloc (.cells (va .u8 L) 42)).alloc (.cells (va .u8 b) 37)).alloc (.cells (va .u8 z16) 37)).alloc (.cells (va .u8 b) 106) = w1 at *
  go_loopw [6] (fun s wr => ∃ j : Nat, j ≤ 10 ∧ s = .int .i64 (10 - (j : Int)) ∧ EnMem w.heap.size L (Ci.decS L b j) w wr) (fun s _ => (intOf s).toNat)
  case atStart => exact ⟨0, by omega, rfl, hmm.out⟩
  case round =>
    clear hmm
    obtain ⟨j, hj, rfl, hmem⟩ := hrel
    have hdl := Ci.decS_len L b hbl j
    have hdb := Ci.decS_byt (L := L) hb j
    by_cases hlt : j < 10
    · obtain ⟨k, hk⟩ : ∃ k, 10 - j = k := ⟨_, rfl⟩
      have hkI : 10 - (j : Int) = (k : Int) := by omega
      have hk0 : (0 : Int) < (k : Int) := by omega
      have hk10 : (k : Int) ≤ 10 := by omega
      have hkj := Lib.hid hk
      have hmm := Lib.hid hmem
      clear hmem
      go_wp2_with (refine wpList_load_mid rfl 37 (.tmp 14) rfl w.heap.size (k * 16) rfl (nv .u8 (Ci.ks L k)) _ (hmm.out.key k) Tryd.underlying37 rfl (by rw [nv_len, Ci.ks_len hLl k (by omega)]; kernel_rfl) ?_)
      refine (add_any (w.heap.size + 1 + 1 + 1) (Ci.decS L b j) (Ci.ks L k) hdl (Ci.ks_len hLl k (by omega)) hdb (Ci.ks_byt hL _) _ hmm.out.s).mono ?_
      rintro e w2 ⟨rfl, hsw2⟩
      have hw2 := Lib.hid (hmm.out.step hsw2)
      clear hsw2 hmm
      by_cases h10 : k < 10
      · have h10I : (k : Int) < 10 := by omega
        go_wp2_with fail
        refine (mix_any (w.heap.size + 1 + 1 + 1) [14, 11, 13, 9] (Ci.addK (Ci.decS L b j) (Ci.ks L k)) rfl (Ci.addK_len _ _) Ci.fac2_byt (Ci.addK_byt hdb (Ci.ks_byt hL _)) _ hw2.out.s).mono ?_
        rintro e w3 ⟨rfl, hs3⟩
        have hm3 := Lib.hid (hw2.out.step hs3)
        clear hs3 hw2
        go_wp2_with fail
        refine (rotate3_any (w.heap.size + 1 + 1 + 1) (Ci.mix [14, 11, 13, 9] (Ci.addK (Ci.decS L b j) (Ci.ks L k))) (Ci.mix_len _ _) (Ci.mix_byt Ci.fac2_byt (Ci.addK_byt hdb (Ci.ks_byt hL _))) _ hm3.out.s).mono ?_
        rintro e w4 ⟨rfl, hs4⟩
        have hm4 := Lib.hid (hm3.out.step hs4)
        clear hs4 hm3
        go_wp2_with fail
        refine (each_back (w.heap.size + 1 + 1 + 1) (Ci.rot 3 (Ci.mix [14, 11, 13, 9] (Ci.addK (Ci.decS L b j) (Ci.ks L k)))) (Ci.rot_len _ _) (Ci.rot_byt (Ci.mix_byt Ci.fac2_byt (Ci.addK_byt hdb (Ci.ks_byt hL _)))) _ hm4.out.s).mono ?_
        rintro e w5 ⟨rfl, hs5⟩
        have hm5 := hm4.out.step hs5
        have he : Ci.each Gf.back (Ci.rot 3 (Ci.mix [14, 11, 13, 9] (Ci.addK (Ci.decS L b j) (Ci.ks L k)))) = Ci.decS L b (j + 1) := by
          show _ = Ci.each Gf.back (Ci.rot 3 (if 10 - j < 10 then _ else _))
          rw [hkj.out, if_pos h10]
        rw [he] at hm5
        have hm6 := Lib.hid hm5
        clear hs5 hm4 hm5 he
        go_wp2
        go_roundw
        case rel => exact ⟨j + 1, by omega, by go_num, hm6.out⟩
        case measure => simp [intOf]; omega
      · have h10I : (10 : Int) ≤ (k : Int) := by omega
        go_wp2_with fail
        refine (rotate3_any (w.heap.size + 1 + 1 + 1) (Ci.addK (Ci.decS L b j) (Ci.ks L k)) (Ci.addK_len _ _) (Ci.addK_byt hdb (Ci.ks_byt hL _)) _ hw2.out.s).mono ?_
        rintro e w4 ⟨rfl, hs4⟩
        have hm4 := Lib.hid (hw2.out.step hs4)
        clear hs4 hw2
        go_wp2_with fail
        refine (each_back (w.heap.size + 1 + 1 + 1) (Ci.rot 3 (Ci.addK (Ci.decS L b j) (Ci.ks L k))) (Ci.rot_len _ _) (Ci.rot_byt (Ci.addK_byt hdb (Ci.ks_byt hL _))) _ hm4.out.s).mono ?_
        rintro e w5 ⟨rfl, hs5⟩
        have hm5 := hm4.out.step hs5
        have he : Ci.each Gf.back (Ci.rot 3 (Ci.addK (Ci.decS L b j) (Ci.ks L k))) = Ci.decS L b (j + 1) := by
          show _ = Ci.each Gf.back (Ci.rot 3 (if 10 - j < 10 then _ else _))
          rw [hkj.out, if_neg h10]
        rw [he] at hm5
        have hm6 := Lib.hid hm5
        clear hs5 hm4 hm5 he
        go_wp2
        go_roundw
        case rel => exact ⟨j + 1, by omega, by go_num, hm6.out⟩
        case measure => simp [intOf]; omega
    · obtain rfl : j = 10 := by omega
      have hmm := Lib.hid hmem
      clear hmem
      go_wp2_with (refine wpList_load_mid rfl 37 (.tmp 23) rfl w.heap.size 0 rfl (nv .u8 (Ci.ks L 0)) _ (hmm.out.key 0) Tryd.underlying37 rfl (by rw [nv_len, Ci.ks_len hLl 0 (by omega)]; kernel_rfl) ?_)
      refine (add_any (w.heap.size + 1 + 1 + 1) (Ci.decS L b 10) (Ci.ks L 0) hdl (Ci.ks_len hLl 0 (by omega)) hdb (Ci.ks_byt hL _) _ hmm.out.s).mono ?_
      rintro e w2 ⟨rfl, hsw2⟩
      have hw2 := Lib.hid (hmm.out.step hsw2)
      clear hsw2 hmm
      have hel : (Ci.dec L b).length = 16 := Ci.addK_len _ _
      have hsz0 : (Tryd.prog.info? 37).map (·.size) = some (va .u8 (Ci.dec L b)).size := by rw [va_size, hel]; kernel_rfl
      have hszE := Lib.hid hsz0
      have hst := run_storeBlk (P := Tryd.prog) hw2.out.r .u8 (Ci.dec L b) (by rw [va_size, z16_len, hel])
      have hvs : (va .u8 (Ci.dec L b)).size = 16 := by rw [va_size, hel]
      have hmm : EnMem w.heap.size L (Ci.dec L b) w w2 := hw2.out
      have hmm2 := Lib.hid hmm
      clear hsz0 hmm hw2 hel
      go_wp2_with (refine wpList_load_row rfl 37 (.tmp 26) rfl (w.heap.size + 1 + 1 + 1) rfl 106 (va .u8 (Ci.dec L b)) (0, 0) _ hmm2.out.s Tryd.underlying37 rfl hszE.out ?_)
      exact bodyPost_ret (results_cell_row rfl _ _ (w.heap.size + 1 + 1) 37 (va .u8 (Ci.dec L b)) (0, 0) _ rfl (hmm2.out.r.row _) Tryd.underlying37 rfl hszE.out) rfl ⟨rfl, below_setRow hmm2.out.bel (by omega) _⟩
end Go.Proofs.YtcdgcaljlmondaaDoor
/-
  Walks of caissonlaw06.words and caissonlaw06.rising.
-/
namespace Go.Proofs.YtcdgcaljlmondaaDoor
set_option maxRecDepth 16384
open Go.RowKit

def z176 : List Nat := List.replicate 176 0
theorem z176_len : z176.length = 176 := List.length_replicate ..
end Go.Proofs.YtcdgcaljlmondaaDoor
/-
  The expanded key, plainly.
-/
namespace Go.Proofs.YtcdgcaljlmondaaDoor.Ci
set_option maxRecDepth 16384

def tw (b : List Nat) (K j : Nat) : Nat := Gf.sub (b.getD (12 + (j + 1) % 4) 0) ^^^ (if j = 0 then Gf.pw 2 K else 0)
def col (b : List Nat) (K j : Nat) : Nat → Nat
 | 0 => tw b K j ^^^ b.getD j 0
 | q + 1 => col b K j q ^^^ b.getD (4 * (q + 1) + j) 0
def rowE (key : List Nat) : Nat → List Nat
 | 0 => key
 | K + 1 => (List.range 16).map fun i => col (rowE key K) K (i % 4) (i / 4)
def exF (key : List Nat) (n : Nat) : Nat := (rowE key (n / 16)).getD (n % 16) 0
def exL (key : List Nat) : List Nat := (List.range 176).map (exF key)
/-- the word after i steps -/
def wd (b : List Nat) (K i : Nat) : List Nat := (List.range 4).map fun j => match (i + 3 - j) / 4 with
 | 0 => tw b K j
 | q + 1 => col b K j q
theorem wd_step (b : List Nat) (K : Nat) : ∀ i, i < 16 → (wd b K i).set (i % 4) (col b K (i % 4) (i / 4)) = wd b K (i + 1) ∧ (wd b K i).getD (i % 4) 0 ^^^ b.getD i 0 = col b K (i % 4) (i / 4)
 | 0, _ => ⟨rfl, rfl⟩
 | 1, _ => ⟨rfl, rfl⟩
 | 2, _ => ⟨rfl, rfl⟩
 | 3, _ => ⟨rfl, rfl⟩
 | 4, _ => ⟨rfl, rfl⟩
 | 5, _ => ⟨rfl, rfl⟩
 | 6, _ => ⟨rfl, rfl⟩
 | 7, _ => ⟨rfl, rfl⟩
 | 8, _ => ⟨rfl, rfl⟩
 | 9, _ => ⟨rfl, rfl⟩
 | 10, _ => ⟨rfl, rfl⟩
 | 11, _ => ⟨rfl, rfl⟩
 | 12, _ => ⟨rfl, rfl⟩
 | 13, _ => ⟨rfl, rfl⟩
 | 14, _ => ⟨rfl, rfl⟩
 | 15, _ => ⟨rfl, rfl⟩
 | n + 16, h => by omega
theorem wd_zero (b : List Nat) (K : Nat) : wd b K 0 = [Gf.sub (b.getD 13 0) ^^^ Gf.pw 2 K, Gf.sub (b.getD 14 0), Gf.sub (b.getD 15 0), Gf.sub (b.getD 12 0)] := by
 show [_, Gf.sub (b.getD 14 0) ^^^ 0, Gf.sub (b.getD 15 0) ^^^ 0, Gf.sub (b.getD 12 0) ^^^ 0] = _
 simp only [Nat.xor_zero]
 rfl
theorem wd_len (b : List Nat) (K i : Nat) : (wd b K i).length = 4 := by simp [wd]
theorem tw_lt (b : List Nat) (K j : Nat) : tw b K j < 256 := by
  unfold tw
  refine Nat.xor_lt_two_pow (n := 8) (Gf.sub_lt _) ?_
  split
  · exact Gf.pw_lt 2 K (by omega)
  · omega
theorem col_lt {b : List Nat} (hb : Byt b) (K j : Nat) : ∀ q, col b K j q < 256
 | 0 => Nat.xor_lt_two_pow (n := 8) (tw_lt b K j) (hb.get _)
 | q + 1 => Nat.xor_lt_two_pow (n := 8) (col_lt hb K j q) (hb.get _)
theorem wd_byt {b : List Nat} (hb : Byt b) (K i : Nat) : Byt (wd b K i) := byt_map fun j _ => by
  split
  · exact tw_lt b K j
  · exact col_lt hb K j _
theorem rowE_len {key : List Nat} (h : key.length = 16) : ∀ K, (rowE key K).length = 16
 | 0 => h
 | _ + 1 => by simp [rowE]
theorem rowE_byt {key : List Nat} (h : Byt key) : ∀ K, Byt (rowE key K)
 | 0 => h
 | K + 1 => byt_map fun _ _ => col_lt (rowE_byt h K) _ _ _
theorem exF_row (key : List Nat) (K i : Nat) (hi : i < 16) : exF key (16 * K + i) = (rowE key K).getD i 0 := by
 unfold exF
 rw [show (16 * K + i) / 16 = K from by omega, show (16 * K + i) % 16 = i from by omega]
theorem exF_next (key : List Nat) (K i : Nat) (hi : i < 16) : exF key (16 * (K + 1) + i) = col (rowE key K) K (i % 4) (i / 4) := by
 rw [exF_row key (K + 1) i hi]
 simp [rowE, List.getD_eq_getElem?_getD, hi]
theorem exL_len (key : List Nat) : (exL key).length = 176 := by simp [exL]
theorem exF_lt {key : List Nat} (h : Byt key) (n : Nat) : exF key n < 256 := (rowE_byt h _).get _
theorem exL_byt {key : List Nat} (h : Byt key) : Byt (exL key) := byt_map fun n _ => exF_lt h n
/-- a row of what is written -/
theorem upd_row (key z : List Nat) (hz : z.length = 176) (hk : key.length = 16) (K n : Nat) (hn : 16 * (K + 1) ≤ n) (hn2 : n ≤ 176) : ((upd (exF key) z n).drop (K * 16)).take 16 = rowE key K := by
  apply List.ext_getElem
  · simp [upd_len, hz, rowE_len hk]; omega
  · intro i h1 h2
    have hi : i < 16 := by rw [rowE_len hk] at h2; exact h2
    have e := upd_get (exF key) z n (K * 16 + i) (by omega)
    rw [if_pos (by omega), show K * 16 + i = 16 * K + i from by omega, exF_row key K i hi] at e
    rw [List.getElem_take, List.getElem_drop]
    have h3 : K * 16 + i < (upd (exF key) z n).length := by rw [upd_len]; omega
    simp only [List.getD_eq_getElem?_getD, List.getElem?_eq_getElem h2] at e
    rw [show 16 * K + i = K * 16 + i from by omega, List.getElem?_eq_getElem h3] at e
    simpa using e
theorem upd_first (key z : List Nat) (hz : z.length = 176) (hk : key.length = 16) : key ++ z.drop 16 = upd (exF key) z 16 := by
  apply List.ext_getElem
  · simp [upd_len, hz, hk]
  · intro i h1 h2
    have hi : i < 176 := by rw [upd_len] at h2; omega
    simp only [upd, List.getElem_map, List.getElem_range]
    rw [List.getElem_append]
    split
    · rename_i h
      rw [if_pos (by omega)]
      have e := exF_row key 0 i (by omega)
      simp only [Nat.mul_zero, Nat.zero_add] at e
      rw [e]
      show _ = key.getD i 0
      simp [List.getD_eq_getElem?_getD, h]
    · rename_i h
      rw [if_neg (by omega)]
      rw [List.getElem_drop]
      simp [List.getD_eq_getElem?_getD, hk, show 16 + (i - 16) = i from by omega, show i < z.length from by omega]
theorem exL_all (key z : List Nat) (hz : z.length = 176) : upd (exF key) z 176 = exL key := by
 rw [upd_all _ _ _ (by omega), hz]; rfl
end Go.Proofs.YtcdgcaljlmondaaDoor.Ci
/-
  The expanded key by words, plainly: what the reference computes is the expanded key.
-/
namespace Go.Proofs.YtcdgcaljlmondaaDoor.Ci
set_option maxRecDepth 16384

end Go.Proofs.YtcdgcaljlmondaaDoor.Ci
namespace Go.Proofs.YtcdgcaljlmondaaDoor
open Go.RowKit
/-! blocks of four bytes -/
def z4 : List Nat := List.replicate 4 0
theorem z4_len : z4.length = 4 := rfl
theorem zero4 (w : World) : (zeroValue 102).run Tryd.prog w = .ok (.agg (va .u8 z4)) w := by kernel_rfl
theorem fourCells {w : World} {N : Nat} {t : TypeId} {a b c d : Value} (h : Blk w N t #[a, b, c, d]) : w.cell? ⟨N, 0, none⟩ = some a ∧ w.cell? ⟨N, 1, none⟩ = some b ∧ w.cell? ⟨N, 2, none⟩ = some c ∧ w.cell? ⟨N, 3, none⟩ = some d :=
 ⟨h.cell 0, h.cell 1, h.cell 2, h.cell 3⟩
theorem fourFree {w : World} {g : Nat} {t : TypeId} {cs : Array Value} (h : Blk w g t cs) :
  w.frozen? ⟨g, 0, none⟩ = false ∧ w.frozen? ⟨g, 1, none⟩ = false ∧ w.frozen? ⟨g, 2, none⟩ = false ∧ w.frozen? ⟨g, 3, none⟩ = false :=
 ⟨h.frozen 0, h.frozen 1, h.frozen 2, h.frozen 3⟩
end Go.Proofs.YtcdgcaljlmondaaDoor
/-
  The walk of ciphers.Expand.
-/
namespace Go.Proofs.YtcdgcaljlmondaaDoor
set_option maxRecDepth 16384
open Go.RowKit

theorem zeroSched (w : World) : (zeroValue 42).run Tryd.prog w = .ok (.agg (va .u8 z176)) w := by kernel_rfl
theorem run_storeMid {P : Program} {w : World} {g : Nat} {t : TypeId} {cur : Array Value} (h : Blk w g t cur) (o : Nat) (k : IntKind) (l : List Nat) (hf : o + l.length ≤ cur.size) :
  (storeCells ⟨g, o, none⟩ (va k l).toList).run P w = .ok () (w.setRow g (cur.toList.take o ++ (nv k l ++ cur.toList.drop (o + (nv k l).length))).toArray) := by
 have e := run_storeCells_at (P := P) g o t (va k l).toList 0 cur w h (by simp [va_size]; omega) (fun v hv => nv_one k l v (by simpa [va] using hv))
 simpa [va] using e

theorem array_at (g : Nat) (W : World) : (Instr.arrayAt 102 (.slice (some ⟨g, 12, none⟩) 4 4)).run Tryd.prog W = .ok (.pointer (some ⟨g, 12, none⟩)) W := by kernel_rfl
theorem keepX {w0 wa wb : World} {g : Nat} {v0 v1 v2 v3 : Value} (hg : g < w0.heap.size) (hb : Below w0.heap.size w0 wa) (h0 : wa.cell? ⟨g, 0, none⟩ = some v0) (h1 : wa.cell? ⟨g, 1, none⟩ = some v1) (h2 : wa.cell? ⟨g, 2, none⟩ = some v2) (h3 : wa.cell? ⟨g, 3, none⟩ = some v3) (b : Below wa.heap.size wa wb) :
  Below w0.heap.size w0 wb ∧ wb.cell? ⟨g, 0, none⟩ = some v0 ∧ wb.cell? ⟨g, 1, none⟩ = some v1 ∧ wb.cell? ⟨g, 2, none⟩ = some v2 ∧ wb.cell? ⟨g, 3, none⟩ = some v3 := by
 have hs := hb.size
 exact ⟨hb.trans (b.mono hs), (b.cell (p := ⟨g, 0, none⟩) (by simp; omega)).trans h0, (b.cell (p := ⟨g, 1, none⟩) (by simp; omega)).trans h1, (b.cell (p := ⟨g, 2, none⟩) (by simp; omega)).trans h2, (b.cell (p := ⟨g, 3, none⟩) (by simp; omega)).trans h3⟩

/-- what is held in region 7 -/
def Sx (a : World) (g : Nat) (v0 v1 v2 v3 : Value) (w : World) : Prop :=
 Below a.heap.size a w ∧ w.cell? ⟨g, 0, none⟩ = some v0 ∧ w.cell? ⟨g, 1, none⟩ = some v1 ∧ w.cell? ⟨g, 2, none⟩ = some v2 ∧ w.cell? ⟨g, 3, none⟩ = some v3
theorem keepA4 {a w : World} {g : Nat} {v0 v1 v2 v3 : Value} {o : Obj} (hg : g < a.heap.size) (h : Sx a g v0 v1 v2 v3 w) : Sx a g v0 v1 v2 v3 (w.alloc o) := by
 obtain ⟨hb, h0, h1, h2, h3⟩ := h
 have hs := hb.size
 exact ⟨hb.alloc hs o, (World.cell?_alloc_lt w o _ (by simp; omega)).trans h0, (World.cell?_alloc_lt w o _ (by simp; omega)).trans h1, (World.cell?_alloc_lt w o _ (by simp; omega)).trans h2, (World.cell?_alloc_lt w o _ (by simp; omega)).trans h3⟩
theorem keepA4d {a w : World} {g : Nat} {v0 v1 v2 v3 : Value} {o : Obj} (hg : g < a.heap.size) (h : Sx a g v0 v1 v2 v3 w.drew) : Sx a g v0 v1 v2 v3 (w.alloc o).drew := keepA4 (w := w.drew) (o := o) hg h
theorem keepC1 {a w : World} {g N i : Nat} {v0 v1 v2 v3 u : Value} (hg : g < a.heap.size) (hN : a.heap.size ≤ N) (h : Sx a g v0 v1 v2 v3 w) : Sx a g v0 v1 v2 v3 (w.setCell ⟨N, i, none⟩ u) := by
 obtain ⟨hb, h0, h1, h2, h3⟩ := h
 exact ⟨hb.setCell hN u, (cell_set_blk (by omega)).trans h0, (cell_set_blk (by omega)).trans h1, (cell_set_blk (by omega)).trans h2, (cell_set_blk (by omega)).trans h3⟩
theorem keepX4 {a w w' : World} {g : Nat} {v0 v1 v2 v3 : Value} (hg : g < a.heap.size) (h : Sx a g v0 v1 v2 v3 w) (b : Below w.heap.size w w') : Sx a g v0 v1 v2 v3 w' := keepX hg h.1 h.2.1 h.2.2.1 h.2.2.2.1 h.2.2.2.2 b
theorem newBelow {a X w' : World} {g : Nat} {v0 v1 v2 v3 : Value} {cs : Array Value} {t : TypeId} (h : Sx a g v0 v1 v2 v3 X) (b : Below (X.alloc (.cells cs t)).heap.size (X.alloc (.cells cs t)) w') : Blk w' X.heap.size t cs ∧ a.heap.size ≤ X.heap.size := ⟨(Blk.new X t cs).below b (Blk.new X t cs).lt, h.1.size⟩
theorem newBelowd {a X w' : World} {g : Nat} {v0 v1 v2 v3 : Value} {cs : Array Value} {t : TypeId} (h : Sx a g v0 v1 v2 v3 X.drew) (b : Below (X.alloc (.cells cs t)).drew.heap.size (X.alloc (.cells cs t)).drew w') : Blk w' X.heap.size t cs ∧ a.heap.size ≤ X.heap.size := ⟨(Blk.new X t cs).drew.below b (Blk.new X t cs).drew.lt, h.1.size⟩
/-- the blocks of Expand -/
structure XpMem (G : Nat) (key : List Nat) (n : Nat) (w wr : World) : Prop where
 r : Blk wr (G + 1) 42 (va .u8 (Ci.upd (Ci.exF key) z176 n))
 bel : Below G w wr

set_option maxHeartbeats 2000000 in
theorem expand_any (key : List Nat) (hkl : key.length = 16) (hk : Ci.Byt key) (w : World) :
    Calls Tryd.prog 11 #[.agg (va .u8 key)] w fun e w' => e = .returned (.agg (va .u8 (Ci.exL key))) ∧ Below w.heap.size w w' := by
  have hzv := zero16
  have hz4 := zero4
  have hzs := zeroSched
  have hvs : (va .u8 key).size = 16 := by rw [va_size, hkl]
  have hsz0 : (Tryd.prog.info? 37).map (·.size) = some (va .u8 key).size := by rw [va_size, hkl]; kernel_rfl
  have hsz := Lib.hid hsz0
  have hst : (storeCells ⟨w.heap.size + 1, 0, none⟩ (va .u8 key).toList).run Tryd.prog ((w.alloc (.cells (va .u8 key) 37)).alloc (.cells (va .u8 z176) 42)) = .ok () ((w.alloc (.cells (va .u8 key) 37)).alloc (.cells (va .u8 (Ci.upd (Ci.exF key) z176 16)) 42)) := by
    have hb : Blk ((w.alloc (.cells (va .u8 key) 37)).alloc (.cells (va .u8 z176) 42)) (w.alloc (.cells (va .u8 key) 37)).heap.size 42 (va .u8 z176) := Blk.new _ _ _
    have h := run_storeMid (P := Tryd.prog) hb 0 .u8 key (by rw [va_size, hkl, z176_len]; omega)
    have e : ((va .u8 z176).toList.take 0 ++ (nv .u8 key ++ (va .u8 z176).toList.drop (0 + (nv .u8 key).length))).toArray = va .u8 (Ci.upd (Ci.exF key) z176 16) := by
      rw [← Ci.upd_first key z176 z176_len hkl, nv_len, hkl]
      simp [va, nv_drop, nv_app]
    rw [e, World.setRow_alloc_new, show (w.alloc (.cells (va .u8 key) 37)).heap.size = w.heap.size + 1 from by simp] at h
    exact h
  have hm : XpMem w.heap.size key 16 w ((w.alloc (.cells (va .u8 key) 37)).alloc (.cells (va .u8 (Ci.upd (Ci.exF key) z176 16)) 42)) := by
    refine ⟨?_, ((Below.refl _ _).alloc (Nat.le_refl _) _).alloc (by simp) _⟩
    have := Blk.new (w.alloc (.cells (va .u8 key) 37)) 42 (va .u8 (Ci.upd (Ci.exF key) z176 16))
    simpa using this
  have hmm := Lib.hid hm
  clear hsz0 hm
  go_enter Tryd.func11, Tryd.ntmps11
  go_wp2_with (refine wpList_load_row rfl 37 (.tmp 1) rfl w.heap.size rfl 37 (va .u8 key) (0, 0) _ ?hq Tryd.underlying37 rfl hsz.out ?_
               case hq => exact (Blk.new _ _ _).alloc _)
  clear hst hvs hzs
  generalize (w.alloc (.cells (va .u8 key) 37)).alloc (.cells (va .u8 (Ci.upd (Ci.exF key) z176 16)) 42) = w1 at *
  go_loopw [3] (fun s wr => ∃ K : Nat, K ≤ 10 ∧ s = .int .i64 ((K : Int) + 1) ∧ XpMem w.heap.size key (16 * (K + 1)) w wr) (fun s _ => 11 - (intOf s).toNat)
  case atStart => exact ⟨0, by omega, rfl, hmm.out⟩
  case round =>
    clear hmm
    obtain ⟨K, hK, rfl, hmem⟩ := hrel
    by_cases hlt : K < 10
    · have hltI : (K : Int) + 1 ≤ 10 := by omega
      have hKI : (K : Int) < 11 := by omega
      have hrow := hmem.r.part (K * 16) 16
      rw [Ci.upd_row key z176 z176_len hkl K _ (Nat.le_refl _) (by omega)] at hrow
      have hbl := Ci.rowE_len hkl K
      have hbb := Ci.rowE_byt hk K
      generalize hbe : Ci.rowE key K = b at *
      have hnl : (nv .u8 b).length = 16 := by rw [nv_len, hbl]
      have hst := run_storeNew (P := Tryd.prog) wr 37 (va .u8 z16) .u8 b (by rw [va_size, hbl, z16_len])
      have hst2 : (storeCells ⟨wr.heap.size, 0, none⟩ (nv .u8 b)).run Tryd.prog (wr.alloc (.cells (va .u8 z16) 37)) = .ok () (wr.alloc (.cells (va .u8 b) 37)) := by
        have : (va .u8 b).toList = nv .u8 b := by simp [va]
        rw [← this]; exact hst
      have hmm := Lib.hid hmem
      have hrh := Lib.hid hrow
      clear hmem hrow
      have hsl := array_at
      obtain ⟨lst, hle⟩ : ∃ lst, (b.drop 12).take 4 = lst := ⟨_, rfl⟩
      have hll : lst.length = 4 := by rw [← hle]; simp; omega
      have hrl := (Blk.new wr 37 (va .u8 b)).part 12 4
      rw [hle] at hrl
      have hg : ∀ j, j < 4 → lst.getD j 0 = b.getD (12 + j) 0 := fun j hj => by
        rw [← hle]
        simp [hj]
      have hrlh := Lib.hid hrl
      have hghh := Lib.hid hg
      have hnl4 : (nv .u8 lst).length = 4 := by rw [nv_len, hll]
      have hst4 : (storeCells ⟨wr.heap.size + 1, 0, none⟩ (nv .u8 lst)).run Tryd.prog ((wr.alloc (.cells (va .u8 b) 37)).alloc (.cells (va .u8 z4) 102)) = .ok () ((wr.alloc (.cells (va .u8 b) 37)).alloc (.cells (va .u8 lst) 102)) := by
        have h := run_storeNew (P := Tryd.prog) (wr.alloc (.cells (va .u8 b) 37)) 102 (va .u8 z4) .u8 lst (by rw [va_size, hll, z4_len])
        have : (va .u8 lst).toList = nv .u8 lst := by simp [va]
        rw [this, show (wr.alloc (.cells (va .u8 b) 37)).heap.size = wr.heap.size + 1 from by simp] at h
        exact h
      have hbL : Blk ((wr.alloc (.cells (va .u8 b) 37)).alloc (.cells (va .u8 lst) 102)) (wr.heap.size + 1) 102 (va .u8 lst) := by
        have := Blk.new (wr.alloc (.cells (va .u8 b) 37)) 102 (va .u8 lst)
        simpa using this
      have hbX : Blk ((wr.alloc (.cells (va .u8 b) 37)).alloc (.cells (va .u8 lst) 102)) wr.heap.size 37 (va .u8 b) := (Blk.new _ _ _).alloc _
      have hbW : XpMem w.heap.size key (16 * (K + 1)) w ((wr.alloc (.cells (va .u8 b) 37)).alloc (.cells (va .u8 lst) 102)) := ⟨(hmm.out.r.alloc _).alloc _, (hmm.out.bel.alloc hmm.out.bel.size _).alloc (by have := hmm.out.bel.size; simp; omega) _⟩
      have hbLh := Lib.hid hbL
      have hbXh := Lib.hid hbX
      have hbWh := Lib.hid hbW
      have hbeh := Lib.hid hbe
      clear hrl hle hg hbL hbX hbW hbe
      go_wp2_with (first
        | (refine wpList_load_mid rfl 37 (.tmp 16) rfl (w.heap.size + 1) (K * 16) rfl (nv .u8 b) _ hrh.out Tryd.underlying37 rfl (by rw [hnl]; kernel_rfl) ?_)
        | (refine wpList_load_mid rfl 102 (.tmp 19) rfl wr.heap.size 12 rfl (nv .u8 lst) _ hrlh.out Tryd.underlying102 rfl (by rw [hnl4]; kernel_rfl) ?_))
      have hwrs : wr.heap.size + 1 < ((wr.alloc (.cells (va .u8 b) 37)).alloc (.cells (va .u8 lst) 102)).heap.size := hbLh.out.lt
      generalize (wr.alloc (.cells (va .u8 b) 37)).alloc (.cells (va .u8 lst) 102) = w2 at *
      clear hst hst2 hst4 hsl hz4 hzv
      have e0 := hbLh.out.num (i := 0) (by omega)
      have e1 := hbLh.out.num (i := 1) (by omega)
      have e2 := hbLh.out.num (i := 2) (by omega)
      have e3 := hbLh.out.num (i := 3) (by omega)
      rw [hghh.out 0 (by omega)] at e0
      rw [hghh.out 1 (by omega)] at e1
      rw [hghh.out 2 (by omega)] at e2
      rw [hghh.out 3 (by omega)] at e3
      have hx0 := hbb.get (12 + 0)
      have hx1 := hbb.get (12 + 1)
      have hx2 := hbb.get (12 + 2)
      have hx3 := hbb.get (12 + 3)
      have hwz := Ci.wd_zero b K
      obtain ⟨x0, hy0⟩ : ∃ x, b.getD (12 + 0) 0 = x := ⟨_, rfl⟩
      obtain ⟨x1, hy1⟩ : ∃ x, b.getD (12 + 1) 0 = x := ⟨_, rfl⟩
      obtain ⟨x2, hy2⟩ : ∃ x, b.getD (12 + 2) 0 = x := ⟨_, rfl⟩
      obtain ⟨x3, hy3⟩ : ∃ x, b.getD (12 + 3) 0 = x := ⟨_, rfl⟩
      rw [hy0] at e0 hx0
      rw [hy1] at e1 hx1
      rw [hy2] at e2 hx2
      rw [hy3] at e3 hx3
      rw [show b.getD 13 0 = x1 from hy1, show b.getD 14 0 = x2 from hy2, show b.getD 15 0 = x3 from hy3, show b.getD 12 0 = x0 from hy0] at hwz
      obtain ⟨p2, hp2⟩ : ∃ p, Gf.pw 2 K = p := ⟨_, rfl⟩
      have hp2l : p2 < 256 := by rw [← hp2]; exact Gf.pw_lt 2 K (by omega)
      rw [hp2] at hwz
      have hpz := Lib.hid ((Gf.powZ_nat 2 K (by omega)).trans hp2)
      have hxor : bits BinOp.xor IntKind.u8 ((Gf.sub x1 : Nat) : Int) (p2 : Int) = ((Gf.sub x1 ^^^ p2 : Nat) : Int) := u8_xor_nat _ _ (Gf.sub_lt _) hp2l
      have hwzh := Lib.hid hwz
      have hwsh := Lib.hid hwrs
      have hwK : IntKind.i64.wrap (K : Int) = (K : Int) := IntWalk.i64_in _ (by omega)
      have hSp := Lib.hid (show Sx w2 (wr.heap.size + 1) _ _ _ _ w2.drew from ⟨below_drewN (Below.refl _ _) 1, e0, e1, e2, e3⟩)
      clear hwz hy0 hy1 hy2 hy3 hp2 hwrs
      go_upto_region 7 with fail
      go_cut [6] (fun v wx => ∃ N, v = .pointer (some ⟨N, 0, none⟩) ∧ Blk wx N 102 (va .u8 (Ci.wd b K 0)) ∧ w2.heap.size ≤ N ∧ Below w2.heap.size w2 wx)
      case first =>
        go_region_held3 (fun w' => Below w2.heap.size w2 w' ∧ w'.cell? ⟨wr.heap.size + 1, 0, none⟩ = some (.int .u8 (x0 : Int)) ∧ w'.cell? ⟨wr.heap.size + 1, 1, none⟩ = some (.int .u8 (x1 : Int)) ∧ w'.cell? ⟨wr.heap.size + 1, 2, none⟩ = some (.int .u8 (x2 : Int)) ∧ w'.cell? ⟨wr.heap.size + 1, 3, none⟩ = some (.int .u8 (x3 : Int)))
          (first
            | exact hSp.out
            | exact keepA4 hwsh.out hSp.out
            | exact keepA4d hwsh.out hSp.out
            | exact keepC1 hwsh.out hN.out.2 (keepC1 hwsh.out hN.out.2 (keepC1 hwsh.out hN.out.2 (keepC1 hwsh.out hN.out.2 hSp.out)))
            | go_keep)
          ((first
            | (go_at_call 29; (with_reducible refine (sub_to x1 (Gf.sub x1) hx1 rfl _).mono ?_); rintro e wq ⟨rfl, bq⟩; (first | (replace hN := Lib.hid (And.intro (hN.out.1.below bq hN.out.1.lt) hN.out.2); obtain ⟨n0, n1, n2, n3⟩ := fourCells hN.out.1; obtain ⟨m0, m1, m2, m3⟩ := fourFree hN.out.1; replace hSp := Lib.hid (keepX4 hwsh.out hSp.out bq)) | (with_reducible have hN := Lib.hid (newBelow hSp.out bq); obtain ⟨n0, n1, n2, n3⟩ := fourCells hN.out.1; obtain ⟨m0, m1, m2, m3⟩ := fourFree hN.out.1; replace hSp := Lib.hid (keepX4 hwsh.out (keepA4 hwsh.out hSp.out) bq)) | (with_reducible have hN := Lib.hid (newBelowd hSp.out bq); obtain ⟨n0, n1, n2, n3⟩ := fourCells hN.out.1; obtain ⟨m0, m1, m2, m3⟩ := fourFree hN.out.1; replace hSp := Lib.hid (keepX4 hwsh.out (keepA4d hwsh.out hSp.out) bq)) | (replace hSp := Lib.hid (keepX4 hwsh.out hSp.out bq))))
            | (go_at_call 29; (with_reducible refine (sub_to x2 (Gf.sub x2) hx2 rfl _).mono ?_); rintro e wq ⟨rfl, bq⟩; (first | (replace hN := Lib.hid (And.intro (hN.out.1.below bq hN.out.1.lt) hN.out.2); obtain ⟨n0, n1, n2, n3⟩ := fourCells hN.out.1; obtain ⟨m0, m1, m2, m3⟩ := fourFree hN.out.1; replace hSp := Lib.hid (keepX4 hwsh.out hSp.out bq)) | (with_reducible have hN := Lib.hid (newBelow hSp.out bq); obtain ⟨n0, n1, n2, n3⟩ := fourCells hN.out.1; obtain ⟨m0, m1, m2, m3⟩ := fourFree hN.out.1; replace hSp := Lib.hid (keepX4 hwsh.out (keepA4 hwsh.out hSp.out) bq)) | (with_reducible have hN := Lib.hid (newBelowd hSp.out bq); obtain ⟨n0, n1, n2, n3⟩ := fourCells hN.out.1; obtain ⟨m0, m1, m2, m3⟩ := fourFree hN.out.1; replace hSp := Lib.hid (keepX4 hwsh.out (keepA4d hwsh.out hSp.out) bq)) | (replace hSp := Lib.hid (keepX4 hwsh.out hSp.out bq))))
            | (go_at_call 29; (with_reducible refine (sub_to x3 (Gf.sub x3) hx3 rfl _).mono ?_); rintro e wq ⟨rfl, bq⟩; (first | (replace hN := Lib.hid (And.intro (hN.out.1.below bq hN.out.1.lt) hN.out.2); obtain ⟨n0, n1, n2, n3⟩ := fourCells hN.out.1; obtain ⟨m0, m1, m2, m3⟩ := fourFree hN.out.1; replace hSp := Lib.hid (keepX4 hwsh.out hSp.out bq)) | (with_reducible have hN := Lib.hid (newBelow hSp.out bq); obtain ⟨n0, n1, n2, n3⟩ := fourCells hN.out.1; obtain ⟨m0, m1, m2, m3⟩ := fourFree hN.out.1; replace hSp := Lib.hid (keepX4 hwsh.out (keepA4 hwsh.out hSp.out) bq)) | (with_reducible have hN := Lib.hid (newBelowd hSp.out bq); obtain ⟨n0, n1, n2, n3⟩ := fourCells hN.out.1; obtain ⟨m0, m1, m2, m3⟩ := fourFree hN.out.1; replace hSp := Lib.hid (keepX4 hwsh.out (keepA4d hwsh.out hSp.out) bq)) | (replace hSp := Lib.hid (keepX4 hwsh.out hSp.out bq))))
            | (go_at_call 29; (with_reducible refine (sub_to x0 (Gf.sub x0) hx0 rfl _).mono ?_); rintro e wq ⟨rfl, bq⟩; (first | (replace hN := Lib.hid (And.intro (hN.out.1.below bq hN.out.1.lt) hN.out.2); obtain ⟨n0, n1, n2, n3⟩ := fourCells hN.out.1; obtain ⟨m0, m1, m2, m3⟩ := fourFree hN.out.1; replace hSp := Lib.hid (keepX4 hwsh.out hSp.out bq)) | (with_reducible have hN := Lib.hid (newBelow hSp.out bq); obtain ⟨n0, n1, n2, n3⟩ := fourCells hN.out.1; obtain ⟨m0, m1, m2, m3⟩ := fourFree hN.out.1; replace hSp := Lib.hid (keepX4 hwsh.out (keepA4 hwsh.out hSp.out) bq)) | (with_reducible have hN := Lib.hid (newBelowd hSp.out bq); obtain ⟨n0, n1, n2, n3⟩ := fourCells hN.out.1; obtain ⟨m0, m1, m2, m3⟩ := fourFree hN.out.1; replace hSp := Lib.hid (keepX4 hwsh.out (keepA4d hwsh.out hSp.out) bq)) | (replace hSp := Lib.hid (keepX4 hwsh.out hSp.out bq))))
            | (go_at_call 37; (refine (power_to 2 (K : Int) p2 (by omega) hpz.out _).mono ?_); rintro e wq ⟨rfl, bq⟩; (first | (replace hN := Lib.hid (And.intro (hN.out.1.below bq hN.out.1.lt) hN.out.2); obtain ⟨n0, n1, n2, n3⟩ := fourCells hN.out.1; obtain ⟨m0, m1, m2, m3⟩ := fourFree hN.out.1; replace hSp := Lib.hid (keepX4 hwsh.out hSp.out bq)) | (with_reducible have hN := Lib.hid (newBelow hSp.out bq); obtain ⟨n0, n1, n2, n3⟩ := fourCells hN.out.1; obtain ⟨m0, m1, m2, m3⟩ := fourFree hN.out.1; replace hSp := Lib.hid (keepX4 hwsh.out (keepA4 hwsh.out hSp.out) bq)) | (with_reducible have hN := Lib.hid (newBelowd hSp.out bq); obtain ⟨n0, n1, n2, n3⟩ := fourCells hN.out.1; obtain ⟨m0, m1, m2, m3⟩ := fourFree hN.out.1; replace hSp := Lib.hid (keepX4 hwsh.out (keepA4d hwsh.out hSp.out) bq)) | (replace hSp := Lib.hid (keepX4 hwsh.out hSp.out bq))))))
        all_goals
          go_wp2_with fail
          go_meet
        all_goals first
          | exact ⟨_, rfl, by rw [hwzh.out]; exact Blk.new _ _ _, hSp.out.1.size, hSp.out.1.alloc hSp.out.1.size _⟩
          | exact ⟨_, rfl, by rw [hwzh.out]; exact (Blk.new _ _ _).drew, hSp.out.1.size, below_drewN (hSp.out.1.alloc hSp.out.1.size _) 1⟩
          | exact ⟨_, rfl, by rw [hwzh.out]; exact (((hN.out.1.set_ 0 _).set_ 1 _).set_ 2 _).set_ 3 _, hN.out.2, (((hSp.out.1.setCell hN.out.2 _).setCell hN.out.2 _).setCell hN.out.2 _).setCell hN.out.2 _⟩
      case rest =>
        obtain ⟨N, rfl, hbN, hN2, hbC⟩ := hcut
        have hX2 := hbXh.out.below hbC hbXh.out.lt
        have hW2 : XpMem w.heap.size key (16 * (K + 1)) w wc := ⟨hbWh.out.r.below hbC hbWh.out.r.lt, hbWh.out.bel.trans (hbC.mono hbWh.out.bel.size)⟩
        have hNX : wr.heap.size ≠ N := by have := hwsh.out; omega
        have hNR : w.heap.size + 1 ≠ N := by have := hbWh.out.r.lt; omega
        have hXR : w.heap.size + 1 < wr.heap.size := hmm.out.r.lt
        have hNG : w.heap.size ≤ N := by have := hbWh.out.bel.size; omega
        have hNh := Lib.hid hbN
        have hXh := Lib.hid hX2
        have hWh := Lib.hid hW2
        have hne1 := Lib.hid hNX
        have hne2 := Lib.hid hNR
        clear hbN hX2 hW2 hbC hSp hpz hxor e0 e1 e2 e3 hx0 hx1 hx2 hx3 hwzh hp2l hNX hNR hwK
        obtain ⟨X, hXe⟩ : ∃ X, wr.heap.size = X := ⟨_, rfl⟩
        rw [hXe] at hXh hne1
        clear hwsh
        go_wp2
        rw [hXe]
        go_loopw [38] (fun s wx => ∃ i : Nat, i ≤ 16 ∧ s = .int .i64 (i : Int) ∧ Blk wx N 102 (va .u8 (Ci.wd b K i)) ∧ Blk wx X 37 (va .u8 b) ∧ XpMem w.heap.size key (16 * (K + 1) + i) w wx) (fun s _ => 16 - (intOf s).toNat)
        case atStart => exact ⟨0, by omega, rfl, hNh.out, hXh.out, hWh.out⟩
        case round =>
          clear hNh hXh hWh
          obtain ⟨i, hi16, rfl, hN0, hX0, hM0⟩ := hrel
          by_cases hli : i < 16
          · have hliI : (i : Int) < 16 := by omega
            obtain ⟨m, hm⟩ : ∃ m, i % 4 = m := ⟨_, rfl⟩
            have hm4 : m < 4 := by omega
            have hmI : (i : Int).tmod 4 = (m : Int) := by rw [Int.tmod_eq_emod_of_nonneg (by omega)]; omega
            have hmE : (i : Int) % 4 = (m : Int) := by omega
            have hm4I : (m : Int) < 4 := by omega
            obtain ⟨hs1, hs2⟩ := Ci.wd_step b K i hli
            have hnx := Ci.exF_next key K i hli
            rw [hbeh.out] at hnx
            rw [hm] at hs1 hs2 hnx
            obtain ⟨c, hc⟩ : ∃ c, Ci.col b K m (i / 4) = c := ⟨_, rfl⟩
            rw [hc] at hs1 hs2 hnx
            have hc1 := hN0.num (i := m) (by rw [Ci.wd_len]; exact hm4)
            have hf1 := hN0.frozen m
            have hc2 := hX0.num (i := i) (by omega)
            have hu := (Ci.wd_byt hbb K i).get m
            have hy := hbb.get i
            have hxor : bits BinOp.xor IntKind.u8 (((Ci.wd b K i).getD m 0 : Nat) : Int) ((b.getD i 0 : Nat) : Int) = (c : Int) := by rw [u8_xor_nat _ _ hu hy, hs2]
            have hN3 : Blk (wr.drew.setCell ⟨N, m, none⟩ (.int .u8 (c : Int))) N 102 (va .u8 (Ci.wd b K (i + 1))) := by
              have := hN0.drew.setNum m c
              rw [hs1] at this
              exact this
            have hX3 : Blk (wr.drew.setCell ⟨N, m, none⟩ (.int .u8 (c : Int))) X 37 (va .u8 b) := hX0.drew.far hne1.out _
            have hM3 : XpMem w.heap.size key (16 * (K + 1) + i) w (wr.drew.setCell ⟨N, m, none⟩ (.int .u8 (c : Int))) := ⟨hM0.r.drew.far hne2.out _, (below_drewN hM0.bel 1).setCell hNG _⟩
            have hg3 : (Ci.wd b K (i + 1)).getD m 0 = c := by rw [← hs1]; exact getD_set_eq (by rw [Ci.wd_len]; exact hm4)
            have hN3h := Lib.hid hN3
            have hX3h := Lib.hid hX3
            have hM3h := Lib.hid hM3
            have hg3h := Lib.hid hg3
            have hnxh := Lib.hid hnx
            generalize (Ci.wd b K i).getD m 0 = u0 at *
            generalize b.getD i 0 = y0 at *
            clear hN0 hX0 hM0 hN3 hX3 hM3 hs1 hs2 hnx hg3 hc hm
            go_wp2
            refine wp_region_still_tail 9 (by kernel_rfl) (by kernel_rfl) ?_
            simp only [List.take_succ_cons, List.take_zero, List.drop_succ_cons, List.drop_zero]
            change wpStill _ _ wr.drew _ _ _
            iterate 9 still_step
            refine wpStill_nil ?_
            change wpList _ _ _ _ _ wr.drew
            go_wp2
            have hgz := hN3h.out.num (i := m) (by rw [Ci.wd_len]; exact hm4)
            rw [hg3h.out] at hgz
            have hK1 : (0 : Int) ≤ (K : Int) + 1 := by omega
            have hK2 : (K : Int) + 1 < 11 := by omega
            have hi176 : 16 * (K + 1) + i < 176 := by omega
            have hRf := hM3h.out.r.frozen ((K + 1) * 16 + i)
            have hRl : (va .u8 (Ci.upd (Ci.exF key) z176 (16 * (K + 1) + i))).size = 176 := by rw [va_size, Ci.upd_len, z176_len]
            have hRc := hM3h.out.r.num (i := (K + 1) * 16 + i) (by rw [Ci.upd_len, z176_len]; omega)
            generalize (Ci.upd (Ci.exF key) z176 (16 * (K + 1) + i)).getD ((K + 1) * 16 + i) 0 = r0 at hRc
            refine wp_region_still_tail 8 (by kernel_rfl) (by kernel_rfl) ?_
            simp only [List.take_succ_cons, List.take_zero, List.drop_succ_cons, List.drop_zero]
            change wpStill _ _ (wr.drew.setCell ⟨N, m, none⟩ (.int .u8 (c : Int))).drew _ _ _
            generalize hw3 : wr.drew.setCell ⟨N, m, none⟩ (.int .u8 (c : Int)) = w3 at *
            clear hc1 hf1 hc2
            iterate 8 still_step
            refine wpStill_nil ?_
            change wpList _ _ _ _ _ (wr.drew.setCell ⟨N, m, none⟩ (.int .u8 (c : Int))).drew
            rw [hw3]
            clear hw3
            go_wp2
            go_roundw
            case rel =>
              refine ⟨i + 1, by omega, by go_num, hN3h.out.drew.far (by have := hne2.out; simp; omega) _, hX3h.out.drew.far (by simp; omega) _, ⟨?_, (below_drewN hM3h.out.bel 1).setCell (by simp <;> omega) _⟩⟩
              have e5 := hM3h.out.r
              have e6 := hnxh.out
              rw [show 16 * (K + 1) + (i + 1) = (16 * (K + 1) + i) + 1 from rfl, ← Ci.upd_set]
              rw [show 16 * (K + 1) + i = (K + 1) * 16 + i from by omega] at e5 e6 ⊢
              rw [e6]
              exact e5.drew.setNum ((K + 1) * 16 + i) c
            case measure => simp [intOf]; omega
          · obtain rfl : i = 16 := by omega
            have hM0h := Lib.hid hM0
            clear hN0 hX0 hM0
            go_wp2
            go_roundw
            case rel => exact ⟨K + 1, by omega, by go_num, by rw [show 16 * (K + 1 + 1) = 16 * (K + 1) + 16 from by omega]; exact hM0h.out⟩
            case measure => simp [intOf]; omega
    · obtain rfl : K = 10 := by omega
      have hall : Ci.upd (Ci.exF key) z176 (16 * (10 + 1)) = Ci.exL key := Ci.exL_all key z176 z176_len
      obtain ⟨hmr, hmb⟩ := hmem
      rw [hall] at hmr
      have hLl := Ci.exL_len key
      have hsz0 : (Tryd.prog.info? 42).map (·.size) = some (va .u8 (Ci.exL key)).size := by rw [va_size, hLl]; kernel_rfl
      have hszE := Lib.hid hsz0
      have hst := run_storeBlk (P := Tryd.prog) hmr .u8 (Ci.exL key) (by simp [va_size])
      have hvs : (va .u8 (Ci.exL key)).size = 176 := by rw [va_size, hLl]
      have hmrh := Lib.hid hmr
      have hmbh := Lib.hid hmb
      clear hsz0 hmr hmb hall
      go_wp2_with (refine wpList_load_row rfl 42 (.tmp 2) rfl (w.heap.size + 1) rfl 42 (va .u8 (Ci.exL key)) (0, 0) _ hmrh.out Tryd.underlying42 rfl hszE.out ?_)
      exact bodyPost_ret (results_cell_row rfl _ _ (w.heap.size + 1) 42 (va .u8 (Ci.exL key)) (0, 0) _ rfl (hmrh.out.row _) Tryd.underlying42 rfl hszE.out) rfl ⟨rfl, below_setRow hmbh.out (by omega) _⟩
end Go.Proofs.YtcdgcaljlmondaaDoor
/-
  The walk of caissonlaw06.lives: the examples of the chapter hold.
-/
namespace Go.Proofs.YtcdgcaljlmondaaDoor
set_option maxRecDepth 16384
open Go.RowKit

theorem enc_len (L b : List Nat) : (Ci.enc L b).length = 16 := Ci.encS_len L b 10
end Go.Proofs.YtcdgcaljlmondaaDoor
/-
  The reference's rounds, plainly: a matrix whose rows lie one behind the other.
-/
namespace Go.Proofs.YtcdgcaljlmondaaDoor.Ci
set_option maxRecDepth 16384

theorem getD_range (f : Nat → Nat) {i : Nat} (hi : i < 16) : ((List.range 16).map f).getD i 0 = f i := by
 simp [List.getD_eq_getElem?_getD, hi]
theorem ext16 {a b : List Nat} (ha : a.length = 16) (hb : b.length = 16) (h : ∀ i, i < 16 → a.getD i 0 = b.getD i 0) : a = b := by
 apply List.ext_getElem (by omega)
 intro i h1 h2
 have := h i (by omega)
 simpa [List.getD_eq_getElem?_getD, h1, h2] using this
/-- rows rotated, bytes replaced -/
def yR (L b : List Nat) (k : Nat) : List Nat := rot 1 (each Gf.sub (encS L b k))
def xR (L b : List Nat) (k : Nat) : List Nat := if k + 1 < 10 then mix [2, 3, 1, 1] (yR L b k) else yR L b k
theorem yR_len (L b : List Nat) (k : Nat) : (yR L b k).length = 16 := rot_len _ _
theorem xR_len (L b : List Nat) (k : Nat) : (xR L b k).length = 16 := by unfold xR; split; exact mix_len _ _; exact yR_len _ _ _
theorem yR_byt (L b : List Nat) (k : Nat) : Byt (yR L b k) := rot_byt (each_byt Gf.sub_lt _)
theorem encS_next (L b : List Nat) (k : Nat) : encS L b (k + 1) = addK (xR L b k) (ks L (k + 1)) := rfl
/-! the products with 1, 2 and 3 -/
end Go.Proofs.YtcdgcaljlmondaaDoor.Ci
