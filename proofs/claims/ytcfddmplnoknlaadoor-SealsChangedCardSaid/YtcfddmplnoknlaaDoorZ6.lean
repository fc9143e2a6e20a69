/-
  Walks through package ciphers: Encrypt and Decrypt.
-/
import Derived.Test.YtcfddmplnoknlaaDoorZ5
import Derived.Deep.MidRow
import Derived.Deep.RegionHeld3
import Derived.Deep.LoopGhost
import Derived.Deep.DeepCutAuto
import Derived.ChangeKeysEq
namespace Go.Proofs.YtcfddmplnoknlaaDoor
set_option maxRecDepth 16384
open Go.RowKit

namespace Ci
def ks (L : List Nat) (k : Nat) : List Nat := (L.drop (k * 16)).take 16
def encS (L b : List Nat) : Nat → List Nat
 | 0 => addK b (ks L 0)
 | k + 1 => addK (if k + 1 < 10 then mix [2, 3, 1, 1] (rot 1 (each Gf.sub (encS L b k))) else rot 1 (each Gf.sub (encS L b k))) (ks L (k + 1))
def enc (L b : List Nat) : List Nat := encS L b 10
theorem ks_len {L : List Nat} (hL : L.length = 176) (k : Nat) (hk : k ≤ 10) : (ks L k).length = 16 := by simp [ks]; omega
theorem ks_byt {L : List Nat} (hL : Byt L) (k : Nat) : Byt (ks L k) := fun x hx => hL x (List.mem_of_mem_drop (List.mem_of_mem_take hx))
theorem each_byt {s : Nat → Nat} (hs : ∀ a, s a < 256) (b : List Nat) : Byt (each s b) := byt_map fun _ _ => hs _
theorem fac_byt : Byt [2, 3, 1, 1] := by intro x hx; simp at hx; omega
theorem encS_len (L b : List Nat) : ∀ k, (encS L b k).length = 16
 | 0 => addK_len _ _
 | _ + 1 => addK_len _ _
theorem encS_byt {L b : List Nat} (hL : Byt L) (hb : Byt b) : ∀ k, Byt (encS L b k)
  | 0 => addK_byt hb (ks_byt hL 0)
  | k + 1 => by
    refine addK_byt ?_ (ks_byt hL _)
    have h1 : Byt (rot 1 (each Gf.sub (encS L b k))) := rot_byt (each_byt Gf.sub_lt _)
    split
    · exact mix_byt fac_byt h1
    · exact h1
end Ci

theorem list16 {l : List Nat} (h : l.length = 16) : ∃ a0 a1 a2 a3 a4 a5 a6 a7 a8 a9 a10 a11 a12 a13 a14 a15, l = [a0, a1, a2, a3, a4, a5, a6, a7, a8, a9, a10, a11, a12, a13, a14, a15] :=
 match l, h with
 | [a0, a1, a2, a3, a4, a5, a6, a7, a8, a9, a10, a11, a12, a13, a14, a15], _ => ⟨a0, a1, a2, a3, a4, a5, a6, a7, a8, a9, a10, a11, a12, a13, a14, a15, rfl⟩
theorem zeroState (w : World) : (zeroValue 110).run Tryd.prog w = .ok (.agg (va .u8 z16)) w := by kernel_rfl

theorem fold_state {b : List Nat} (h : b.length = 16) : Array.foldl (fun (cs : Array Value) (x : Value × Nat) => cs.setIfInBounds x.snd x.fst) (va .u8 z16) (va .u8 b).zipIdx 0 16 = va .u8 b := by
 obtain ⟨a0, a1, a2, a3, a4, a5, a6, a7, a8, a9, a10, a11, a12, a13, a14, a15, rfl⟩ := list16 h
 kernel_rfl

/-- the blocks of Encrypt and Decrypt -/
structure EnMem (G : Nat) (L b : List Nat) (w wr : World) : Prop where
 k : Blk wr G 79 (va .u8 L)
 r : Blk wr (G + 1 + 1) 22 (va .u8 z16)
 s : Blk wr (G + 1 + 1 + 1) 110 (va .u8 b)
 bel : Below G w wr
theorem EnMem.step {G : Nat} {L b b' : List Nat} {w wr w2 : World} (h : EnMem G L b w wr) (hs : StMem (G + 1 + 1 + 1) b' wr w2) : EnMem G L b' w w2 :=
 ⟨h.k.below hs.bel (by omega), h.r.below hs.bel (by omega), hs.s, h.bel.trans (hs.bel.mono (by omega))⟩
theorem EnMem.key {G : Nat} {L b : List Nat} {w wr : World} (h : EnMem G L b w wr) (k : Nat) : wr.rangeAt G (k * 16) (nv .u8 (Ci.ks L k)) := fun j v hv => h.k.part (k * 16) 16 j v hv

set_option maxHeartbeats 1600000 in
theorem encrypt_any (L b : List Nat) (hLl : L.length = 176) (hbl : b.length = 16) (hL : Ci.Byt L) (hb : Ci.Byt b) (w : World) :
    Calls Tryd.prog 40 #[.agg (va .u8 L), .agg (va .u8 b)] w fun e w' => e = .returned (.agg (va .u8 (Ci.enc L b))) ∧ Below w.heap.size w w' := by
  have hsz0 : (Tryd.prog.info? 22).map (·.size) = some (va .u8 b).size := by rw [va_size, hbl]; kernel_rfl
  have hsz := Lib.hid hsz0
  have hzv := zero16
  have hzs := zeroState
  have hvs : (va .u8 b).size = 16 := by rw [va_size, hbl]
  have hfold := fold_state hbl
  have hmf : ∀ (fn : Fn) (first cap : Array Value) (w : World), (Instr.makeFunc fn first cap).run Tryd.prog w = .ok (.func fn first cap) w := fun _ _ _ _ => rfl
  have hst := run_storeNew (P := Tryd.prog) (((w.alloc (.cells (va .u8 L) 79)).alloc (.cells (va .u8 b) 22)).alloc (.cells (va .u8 z16) 22)) 110 (va .u8 z16) .u8 b (by rw [va_size, hbl, z16_len])
  rw [show (((w.alloc (.cells (va .u8 L) 79)).alloc (.cells (va .u8 b) 22)).alloc (.cells (va .u8 z16) 22)).heap.size = w.heap.size + 1 + 1 + 1 from by simp] at hst
  have hm : EnMem w.heap.size L b w ((((w.alloc (.cells (va .u8 L) 79)).alloc (.cells (va .u8 b) 22)).alloc (.cells (va .u8 z16) 22)).alloc (.cells (va .u8 b) 110)) := by
    refine ⟨(((Blk.new _ _ _).alloc _).alloc _).alloc _, ?_, ?_, ((((Below.refl _ _).alloc (Nat.le_refl _) _).alloc (by simp) _).alloc (by simp <;> omega) _).alloc (by simp <;> omega) _⟩
    · exact Blk.alloc (by have := Blk.new ((w.alloc (.cells (va .u8 L) 79)).alloc (.cells (va .u8 b) 22)) 22 (va .u8 z16); simpa using this) _
    · have := Blk.new (((w.alloc (.cells (va .u8 L) 79)).alloc (.cells (va .u8 b) 22)).alloc (.cells (va .u8 z16) 22)) 110 (va .u8 b)
      simpa using this
  have hmm := Lib.hid hm
  clear hsz0 hm
  go_enter Tryd.func40, Tryd.ntmps40
  go_wp2_with (first
    | (refine wpList_load_row rfl 22 (.tmp 3) rfl (w.heap.size + 1) rfl 22 (va .u8 b) (0, 0) _ ?hq Tryd.underlying22 rfl hsz.out ?_
       case hq => exact Blk.alloc (by have := Blk.new (w.alloc (.cells (va .u8 L) 79)) 22 (va .u8 b); simpa using this) _)
    | (refine wpList_buildv rfl 110 _ rfl (va .u8 b) (built_state hbl) ?_)
    | (refine wpList_load_mid rfl 22 (.tmp 18) rfl w.heap.size 0 rfl (nv .u8 (Ci.ks L 0)) _ (hmm.out.key 0) Tryd.underlying22 rfl (by rw [nv_len, Ci.ks_len hLl 0 (by omega)]; kernel_rfl) ?_))
  refine (add_any (w.heap.size + 1 + 1 + 1) b (Ci.ks L 0) hbl (Ci.ks_len hLl 0 (by omega)) hb (Ci.ks_byt hL 0) _ hmm.out.s).mono ?_
  rintro e w1 ⟨rfl, hs1⟩
  have hm1 := Lib.hid (hmm.out.step hs1)
  clear hs1 hst hfold hzs hzv hvs hmf hmm
  go_wp2
  go_loopw [10] (fun s wr => ∃ k : Nat, k ≤ 10 ∧ s = .int .i64 ((k : Int) + 1) ∧ EnMem w.heap.size L (Ci.encS L b k) w wr) (fun s _ => 11 - (intOf s).toNat)
  case atStart => exact ⟨0, by omega, rfl, hm1.out⟩
  case round =>
    clear hm1
    obtain ⟨k, hk, rfl, hmem⟩ := hrel
    by_cases hlt : k < 10
    · have hltI : (k : Int) + 1 ≤ 10 := by omega
      have hmm := Lib.hid hmem
      clear hmem
      go_wp2_with fail
      refine (each_sub (w.heap.size + 1 + 1 + 1) (Ci.encS L b k) (Ci.encS_len L b k) (Ci.encS_byt hL hb k) _ hmm.out.s).mono ?_
      rintro e w2 ⟨rfl, hs2⟩
      have hm2 := Lib.hid (hmm.out.step hs2)
      clear hs2 hmm
      go_wp2_with fail
      refine (rotate1_any (w.heap.size + 1 + 1 + 1) (Ci.each Gf.sub (Ci.encS L b k)) (Ci.each_len _ _) (Ci.each_byt Gf.sub_lt _) _ hm2.out.s).mono ?_
      rintro e w3 ⟨rfl, hs3⟩
      have hm3 := Lib.hid (hm2.out.step hs3)
      clear hs3 hm2
      by_cases h10 : k + 1 < 10
      · have h10I : (k : Int) + 1 < 10 := by omega
        go_wp2_with fail
        refine (mix_any (w.heap.size + 1 + 1 + 1) [2, 3, 1, 1] (Ci.rot 1 (Ci.each Gf.sub (Ci.encS L b k))) rfl (Ci.rot_len _ _) Ci.fac_byt (Ci.rot_byt (Ci.each_byt Gf.sub_lt _)) _ hm3.out.s).mono ?_
        rintro e w4 ⟨rfl, hs4⟩
        have hm4 := Lib.hid (hm3.out.step hs4)
        clear hs4 hm3
        go_wp2_with (refine wpList_load_mid rfl 22 (.tmp 36) rfl w.heap.size ((k + 1) * 16) rfl (nv .u8 (Ci.ks L (k + 1))) _ (hm4.out.key (k + 1)) Tryd.underlying22 rfl (by rw [nv_len, Ci.ks_len hLl (k + 1) (by omega)]; kernel_rfl) ?_)
        refine (add_any (w.heap.size + 1 + 1 + 1) (Ci.mix [2, 3, 1, 1] (Ci.rot 1 (Ci.each Gf.sub (Ci.encS L b k)))) (Ci.ks L (k + 1)) (Ci.mix_len _ _) (Ci.ks_len hLl (k + 1) (by omega)) (Ci.mix_byt Ci.fac_byt (Ci.rot_byt (Ci.each_byt Gf.sub_lt _))) (Ci.ks_byt hL _) _ hm4.out.s).mono ?_
        rintro e w5 ⟨rfl, hs5⟩
        have hm5 := hm4.out.step hs5
        have he : Ci.addK (Ci.mix [2, 3, 1, 1] (Ci.rot 1 (Ci.each Gf.sub (Ci.encS L b k)))) (Ci.ks L (k + 1)) = Ci.encS L b (k + 1) := by
          show _ = Ci.addK (if k + 1 < 10 then _ else _) _
          rw [if_pos h10]
        rw [he] at hm5
        have hm6 := Lib.hid hm5
        clear hs5 hm4 hm5 he
        go_wp2
        go_roundw
        case rel => exact ⟨k + 1, by omega, by go_num, hm6.out⟩
        case measure => simp [intOf]; omega
      · have h10I : 10 ≤ (k : Int) + 1 := by omega
        go_wp2_with (refine wpList_load_mid rfl 22 (.tmp 36) rfl w.heap.size ((k + 1) * 16) rfl (nv .u8 (Ci.ks L (k + 1))) _ (hm3.out.key (k + 1)) Tryd.underlying22 rfl (by rw [nv_len, Ci.ks_len hLl (k + 1) (by omega)]; kernel_rfl) ?_)
        refine (add_any (w.heap.size + 1 + 1 + 1) (Ci.rot 1 (Ci.each Gf.sub (Ci.encS L b k))) (Ci.ks L (k + 1)) (Ci.rot_len _ _) (Ci.ks_len hLl (k + 1) (by omega)) (Ci.rot_byt (Ci.each_byt Gf.sub_lt _)) (Ci.ks_byt hL _) _ hm3.out.s).mono ?_
        rintro e w5 ⟨rfl, hs5⟩
        have hm5 := hm3.out.step hs5
        have he : Ci.addK (Ci.rot 1 (Ci.each Gf.sub (Ci.encS L b k))) (Ci.ks L (k + 1)) = Ci.encS L b (k + 1) := by
          show _ = Ci.addK (if k + 1 < 10 then _ else _) _
          rw [if_neg h10]
        rw [he] at hm5
        have hm6 := Lib.hid hm5
        clear hs5 hm3 hm5 he
        go_wp2
        go_roundw
        case rel => exact ⟨k + 1, by omega, by go_num, hm6.out⟩
        case measure => simp [intOf]; omega
    · obtain rfl : k = 10 := by omega
      have hel : (Ci.encS L b 10).length = 16 := Ci.encS_len L b 10
      have hsz0 : (Tryd.prog.info? 22).map (·.size) = some (va .u8 (Ci.encS L b 10)).size := by rw [va_size, hel]; kernel_rfl
      have hszE := Lib.hid hsz0
      have hst := run_storeBlk (P := Tryd.prog) hmem.r .u8 (Ci.encS L b 10) (by rw [va_size, z16_len, hel])
      have hvs : (va .u8 (Ci.encS L b 10)).size = 16 := by rw [va_size, hel]
      have hmm := Lib.hid hmem
      clear hsz0 hmem hel
      go_wp2_with (refine wpList_load_row rfl 22 (.tmp 39) rfl (w.heap.size + 1 + 1 + 1) rfl 110 (va .u8 (Ci.encS L b 10)) (0, 0) _ hmm.out.s Tryd.underlying22 rfl hszE.out ?_)
      exact bodyPost_ret (results_cell_row rfl _ _ (w.heap.size + 1 + 1) 22 (va .u8 (Ci.encS L b 10)) (0, 0) _ rfl (hmm.out.r.row _) Tryd.underlying22 rfl hszE.out) rfl ⟨rfl, below_setRow hmm.out.bel (by omega) _⟩
end Go.Proofs.YtcfddmplnoknlaaDoor
/-
  Walks of caissonlaw06.words and caissonlaw06.rising.
-/
namespace Go.Proofs.YtcfddmplnoknlaaDoor
set_option maxRecDepth 16384
open Go.RowKit

def z176 : List Nat := List.replicate 176 0
theorem z176_len : z176.length = 176 := List.length_replicate ..
theorem zeroWords (w : World) : (zeroValue 137).run Tryd.prog w = .ok (.agg (va .u8 z176)) w := by kernel_rfl


end Go.Proofs.YtcfddmplnoknlaaDoor
/-
  The expanded key, plainly.
-/
namespace Go.Proofs.YtcfddmplnoknlaaDoor.Ci
set_option maxRecDepth 16384

def tw (b : List Nat) (K j : Nat) : Nat := Gf.sub (b.getD (12 + (j + 1) % 4) 0) ^^^ (if j = 0 then Gf.pw 2 K else 0)
def col (b : List Nat) (K j : Nat) : Nat → Nat
 | 0 => tw b K j ^^^ b.getD j 0
 | q + 1 => col b K j q ^^^ b.getD (4 * (q + 1) + j) 0
def rowE (key : List Nat) : Nat → List Nat
 | 0 => key
 | K + 1 => (List.range 16).map fun i => col (rowE key K) K (i % 4) (i / 4)
def exF (key : List Nat) (n : Nat) : Nat := (rowE key (n / 16)).getD (n % 16) 0
def exL (key : List Nat) : List Nat := (List.range 176).map (exF key)
/-- the word after i steps -/
def wd (b : List Nat) (K i : Nat) : List Nat := (List.range 4).map fun j => match (i + 3 - j) / 4 with
 | 0 => tw b K j
 | q + 1 => col b K j q
theorem wd_step (b : List Nat) (K : Nat) : ∀ i, i < 16 → (wd b K i).set (i % 4) (col b K (i % 4) (i / 4)) = wd b K (i + 1) ∧ (wd b K i).getD (i % 4) 0 ^^^ b.getD i 0 = col b K (i % 4) (i / 4)
 | 0, _ => ⟨rfl, rfl⟩
 | 1, _ => ⟨rfl, rfl⟩
 | 2, _ => ⟨rfl, rfl⟩
 | 3, _ => ⟨rfl, rfl⟩
 | 4, _ => ⟨rfl, rfl⟩
 | 5, _ => ⟨rfl, rfl⟩
 | 6, _ => ⟨rfl, rfl⟩
 | 7, _ => ⟨rfl, rfl⟩
 | 8, _ => ⟨rfl, rfl⟩
 | 9, _ => ⟨rfl, rfl⟩
 | 10, _ => ⟨rfl, rfl⟩
 | 11, _ => ⟨rfl, rfl⟩
 | 12, _ => ⟨rfl, rfl⟩
 | 13, _ => ⟨rfl, rfl⟩
 | 14, _ => ⟨rfl, rfl⟩
 | 15, _ => ⟨rfl, rfl⟩
 | n + 16, h => by omega
theorem wd_zero (b : List Nat) (K : Nat) : wd b K 0 = [Gf.sub (b.getD 13 0) ^^^ Gf.pw 2 K, Gf.sub (b.getD 14 0), Gf.sub (b.getD 15 0), Gf.sub (b.getD 12 0)] := by
 show [_, Gf.sub (b.getD 14 0) ^^^ 0, Gf.sub (b.getD 15 0) ^^^ 0, Gf.sub (b.getD 12 0) ^^^ 0] = _
 simp only [Nat.xor_zero]
 rfl
theorem wd_len (b : List Nat) (K i : Nat) : (wd b K i).length = 4 := by simp [wd]
theorem tw_lt (b : List Nat) (K j : Nat) : tw b K j < 256 := by
  unfold tw
  refine Nat.xor_lt_two_pow (n := 8) (Gf.sub_lt _) ?_
  split
  · exact Gf.pw_lt 2 K (by omega)
  · omega
theorem col_lt {b : List Nat} (hb : Byt b) (K j : Nat) : ∀ q, col b K j q < 256
 | 0 => Nat.xor_lt_two_pow (n := 8) (tw_lt b K j) (hb.get _)
 | q + 1 => Nat.xor_lt_two_pow (n := 8) (col_lt hb K j q) (hb.get _)
theorem wd_byt {b : List Nat} (hb : Byt b) (K i : Nat) : Byt (wd b K i) := byt_map fun j _ => by
  split
  · exact tw_lt b K j
  · exact col_lt hb K j _
theorem rowE_len {key : List Nat} (h : key.length = 16) : ∀ K, (rowE key K).length = 16
 | 0 => h
 | _ + 1 => by simp [rowE]
theorem rowE_byt {key : List Nat} (h : Byt key) : ∀ K, Byt (rowE key K)
 | 0 => h
 | K + 1 => byt_map fun _ _ => col_lt (rowE_byt h K) _ _ _
theorem exF_row (key : List Nat) (K i : Nat) (hi : i < 16) : exF key (16 * K + i) = (rowE key K).getD i 0 := by
 unfold exF
 rw [show (16 * K + i) / 16 = K from by omega, show (16 * K + i) % 16 = i from by omega]
theorem exF_next (key : List Nat) (K i : Nat) (hi : i < 16) : exF key (16 * (K + 1) + i) = col (rowE key K) K (i % 4) (i / 4) := by
 rw [exF_row key (K + 1) i hi]
 simp [rowE, List.getD_eq_getElem?_getD, hi]
theorem exL_len (key : List Nat) : (exL key).length = 176 := by simp [exL]
theorem exF_lt {key : List Nat} (h : Byt key) (n : Nat) : exF key n < 256 := (rowE_byt h _).get _
theorem exL_byt {key : List Nat} (h : Byt key) : Byt (exL key) := byt_map fun n _ => exF_lt h n
/-- a row of what is written -/
theorem upd_row (key z : List Nat) (hz : z.length = 176) (hk : key.length = 16) (K n : Nat) (hn : 16 * (K + 1) ≤ n) (hn2 : n ≤ 176) : ((upd (exF key) z n).drop (K * 16)).take 16 = rowE key K := by
  apply List.ext_getElem
  · simp [upd_len, hz, rowE_len hk]; omega
  · intro i h1 h2
    have hi : i < 16 := by rw [rowE_len hk] at h2; exact h2
    have e := upd_get (exF key) z n (K * 16 + i) (by omega)
    rw [if_pos (by omega), show K * 16 + i = 16 * K + i from by omega, exF_row key K i hi] at e
    rw [List.getElem_take, List.getElem_drop]
    have h3 : K * 16 + i < (upd (exF key) z n).length := by rw [upd_len]; omega
    simp only [List.getD_eq_getElem?_getD, List.getElem?_eq_getElem h2] at e
    rw [show 16 * K + i = K * 16 + i from by omega, List.getElem?_eq_getElem h3] at e
    simpa using e
theorem upd_first (key z : List Nat) (hz : z.length = 176) (hk : key.length = 16) : key ++ z.drop 16 = upd (exF key) z 16 := by
  apply List.ext_getElem
  · simp [upd_len, hz, hk]
  · intro i h1 h2
    have hi : i < 176 := by rw [upd_len] at h2; omega
    simp only [upd, List.getElem_map, List.getElem_range]
    rw [List.getElem_append]
    split
    · rename_i h
      rw [if_pos (by omega)]
      have e := exF_row key 0 i (by omega)
      simp only [Nat.mul_zero, Nat.zero_add] at e
      rw [e]
      show _ = key.getD i 0
      simp [List.getD_eq_getElem?_getD, h]
    · rename_i h
      rw [if_neg (by omega)]
      rw [List.getElem_drop]
      simp [List.getD_eq_getElem?_getD, hk, show 16 + (i - 16) = i from by omega, show i < z.length from by omega]
theorem exL_all (key z : List Nat) (hz : z.length = 176) : upd (exF key) z 176 = exL key := by
 rw [upd_all _ _ _ (by omega), hz]; rfl
end Go.Proofs.YtcfddmplnoknlaaDoor.Ci
/-
  The expanded key by words, plainly: what the reference computes is the expanded key.
-/
namespace Go.Proofs.YtcfddmplnoknlaaDoor.Ci
set_option maxRecDepth 16384

def pv (key : List Nat) (i j : Nat) : Nat := exF key (4 * (i - 1) + j)
def pvL (key : List Nat) (i : Nat) : List Nat := [pv key i 0, pv key i 1, pv key i 2, pv key i 3]
def tWord (key : List Nat) (i : Nat) : List Nat := if i % 4 = 0 then [Gf.sub (pv key i 1) ^^^ Gf.pw 2 ((i - 1) / 4), Gf.sub (pv key i 2), Gf.sub (pv key i 3), Gf.sub (pv key i 0)] else pvL key i
theorem tWord_len (key : List Nat) (i : Nat) : (tWord key i).length = 4 := by unfold tWord; split <;> rfl
theorem pv_lt {key : List Nat} (h : Byt key) (i j : Nat) : pv key i j < 256 := exF_lt h _
theorem tWord_byt {key : List Nat} (h : Byt key) (i : Nat) : Byt (tWord key i) := by
  have p := pv_lt h i
  intro x hx
  unfold tWord at hx
  split at hx
  · simp only [List.mem_cons, List.not_mem_nil, or_false] at hx
    rcases hx with rfl | rfl | rfl | rfl
    · exact Nat.xor_lt_two_pow (n := 8) (Gf.sub_lt _) (Gf.pw_lt 2 _ (by omega))
    all_goals exact Gf.sub_lt _
  · simp only [pvL, List.mem_cons, List.not_mem_nil, or_false] at hx
    rcases hx with rfl | rfl | rfl | rfl
    all_goals exact p _
theorem pv_first (key : List Nat) (K j : Nat) (hj : j < 4) : pv key (4 * (K + 1)) j = (rowE key K).getD (12 + j) 0 := by
 unfold pv
 rw [show 4 * (4 * (K + 1) - 1) + j = 16 * K + (12 + j) from by omega]
 exact exF_row key K _ (by omega)
theorem pv_next (key : List Nat) (K q j : Nat) (hq : q < 3) (hj : j < 4) : pv key (4 * (K + 1) + (q + 1)) j = col (rowE key K) K j q := by
 unfold pv
 rw [show 4 * (4 * (K + 1) + (q + 1) - 1) + j = 16 * (K + 1) + (4 * q + j) from by omega]
 rw [exF_next key K _ (by omega), show (4 * q + j) % 4 = j from by omega, show (4 * q + j) / 4 = q from by omega]
theorem word_next (key : List Nat) (i k : Nat) (h4 : 4 ≤ i) (hk : k < 4) : exF key (4 * (i - 4) + k) ^^^ (tWord key i).getD k 0 = exF key (4 * i + k) := by
  obtain ⟨K, q, hq, rfl⟩ : ∃ K q, q < 4 ∧ i = 4 * (K + 1) + q := ⟨i / 4 - 1, i % 4, by omega, by omega⟩
  rw [show 4 * (4 * (K + 1) + q - 4) + k = 16 * K + (4 * q + k) from by omega, exF_row key K _ (by omega)]
  rw [show 4 * (4 * (K + 1) + q) + k = 16 * (K + 1) + (4 * q + k) from by omega, exF_next key K _ (by omega)]
  rw [show (4 * q + k) % 4 = k from by omega, show (4 * q + k) / 4 = q from by omega]
  rcases q with _ | q
  · unfold tWord
    rw [if_pos (by omega)]
    simp only [Nat.add_zero]
    rw [pv_first key K 0 (by omega), pv_first key K 1 (by omega), pv_first key K 2 (by omega), pv_first key K 3 (by omega), show (4 * (K + 1) - 1) / 4 = K from by omega]
    simp only [col, Nat.mul_zero, Nat.zero_add]
    rw [Nat.xor_comm]
    refine congrArg (· ^^^ _) ?_
    rcases k with _ | _ | _ | _ | k
    · simp [tw]
    · simp [tw]
    · simp [tw]
    · simp [tw]
    · omega
  · unfold tWord
    rw [if_neg (by omega)]
    simp only [pvL]
    rw [pv_next key K q 0 (by omega) (by omega), pv_next key K q 1 (by omega) (by omega), pv_next key K q 2 (by omega) (by omega), pv_next key K q 3 (by omega) (by omega)]
    simp only [col]
    rw [Nat.xor_comm]
    refine congrArg (· ^^^ _) ?_
    rcases k with _ | _ | _ | _ | k
    · rfl
    · rfl
    · rfl
    · rfl
    · omega
theorem word_key {key : List Nat} (i k : Nat) (hi : i < 4) (hk : k < 4) : exF key (4 * i + k) = key.getD (4 * i + k) 0 := by
 have e := exF_row key 0 (4 * i + k) (by omega)
 rw [show 16 * 0 + (4 * i + k) = 4 * i + k from by omega] at e
 exact e
theorem pvL_part (key z : List Nat) (n i : Nat) (h1 : 1 ≤ i) (hn : 4 * i ≤ n) (hz : 4 * i ≤ z.length) : ((upd (exF key) z n).drop ((i - 1) * 4)).take 4 = pvL key i := by
  apply List.ext_getElem
  · simp [upd_len, pvL]; omega
  · intro j h1' h2
    have hj : j < 4 := h2
    rw [List.getElem_take, List.getElem_drop]
    have e := upd_get (exF key) z n ((i - 1) * 4 + j) (by omega)
    rw [if_pos (by omega)] at e
    have h3 : (i - 1) * 4 + j < (upd (exF key) z n).length := by rw [upd_len]; omega
    rw [List.getD_eq_getElem?_getD, List.getElem?_eq_getElem h3] at e
    simp only [Option.getD_some] at e
    rw [e, show (i - 1) * 4 + j = 4 * (i - 1) + j from by omega]
    rcases j with _ | _ | _ | _ | j
    · rfl
    · rfl
    · rfl
    · rfl
    · omega
/-- the factor's power -/
theorem pow_keep (i : Nat) (h : i % 4 ≠ 0) : (i - 1) / 4 = (i + 1 - 1) / 4 := by omega
theorem pow_next (i : Nat) (h : i % 4 = 0) (h4 : 4 ≤ i) : Gf.gm (Gf.pw 2 ((i - 1) / 4)) 2 = Gf.pw 2 ((i + 1 - 1) / 4) := by
 rw [show (i + 1 - 1) / 4 = (i - 1) / 4 + 1 from by omega]
 rfl
end Go.Proofs.YtcfddmplnoknlaaDoor.Ci
namespace Go.Proofs.YtcfddmplnoknlaaDoor
open Go.RowKit
/-! blocks of four bytes -/
def z4 : List Nat := List.replicate 4 0
theorem z4_len : z4.length = 4 := rfl
theorem zero4 (w : World) : (zeroValue 106).run Tryd.prog w = .ok (.agg (va .u8 z4)) w := by kernel_rfl
theorem fourCells {w : World} {N : Nat} {t : TypeId} {a b c d : Value} (h : Blk w N t #[a, b, c, d]) : w.cell? ⟨N, 0, none⟩ = some a ∧ w.cell? ⟨N, 1, none⟩ = some b ∧ w.cell? ⟨N, 2, none⟩ = some c ∧ w.cell? ⟨N, 3, none⟩ = some d :=
 ⟨h.cell 0, h.cell 1, h.cell 2, h.cell 3⟩
theorem fourFree {w : World} {g : Nat} {t : TypeId} {cs : Array Value} (h : Blk w g t cs) :
  w.frozen? ⟨g, 0, none⟩ = false ∧ w.frozen? ⟨g, 1, none⟩ = false ∧ w.frozen? ⟨g, 2, none⟩ = false ∧ w.frozen? ⟨g, 3, none⟩ = false :=
 ⟨h.frozen 0, h.frozen 1, h.frozen 2, h.frozen 3⟩
end Go.Proofs.YtcfddmplnoknlaaDoor
/-
  The walk of ciphers.Expand.
-/
namespace Go.Proofs.YtcfddmplnoknlaaDoor
set_option maxRecDepth 16384
open Go.RowKit

theorem zeroSched (w : World) : (zeroValue 79).run Tryd.prog w = .ok (.agg (va .u8 z176)) w := by kernel_rfl
theorem run_storeMid {P : Program} {w : World} {g : Nat} {t : TypeId} {cur : Array Value} (h : Blk w g t cur) (o : Nat) (k : IntKind) (l : List Nat) (hf : o + l.length ≤ cur.size) :
  (storeCells ⟨g, o, none⟩ (va k l).toList).run P w = .ok () (w.setRow g (cur.toList.take o ++ (nv k l ++ cur.toList.drop (o + (nv k l).length))).toArray) := by
 have e := run_storeCells_at (P := P) g o t (va k l).toList 0 cur w h (by simp [va_size]; omega) (fun v hv => nv_one k l v (by simpa [va] using hv))
 simpa [va] using e

theorem array_at (g : Nat) (W : World) : (Instr.arrayAt 106 (.slice (some ⟨g, 12, none⟩) 4 4)).run Tryd.prog W = .ok (.pointer (some ⟨g, 12, none⟩)) W := by kernel_rfl
theorem keepX {w0 wa wb : World} {g : Nat} {v0 v1 v2 v3 : Value} (hg : g < w0.heap.size) (hb : Below w0.heap.size w0 wa) (h0 : wa.cell? ⟨g, 0, none⟩ = some v0) (h1 : wa.cell? ⟨g, 1, none⟩ = some v1) (h2 : wa.cell? ⟨g, 2, none⟩ = some v2) (h3 : wa.cell? ⟨g, 3, none⟩ = some v3) (b : Below wa.heap.size wa wb) :
  Below w0.heap.size w0 wb ∧ wb.cell? ⟨g, 0, none⟩ = some v0 ∧ wb.cell? ⟨g, 1, none⟩ = some v1 ∧ wb.cell? ⟨g, 2, none⟩ = some v2 ∧ wb.cell? ⟨g, 3, none⟩ = some v3 := by
 have hs := hb.size
 exact ⟨hb.trans (b.mono hs), (b.cell (p := ⟨g, 0, none⟩) (by simp; omega)).trans h0, (b.cell (p := ⟨g, 1, none⟩) (by simp; omega)).trans h1, (b.cell (p := ⟨g, 2, none⟩) (by simp; omega)).trans h2, (b.cell (p := ⟨g, 3, none⟩) (by simp; omega)).trans h3⟩

/-- what is held in region 7 -/
def Sx (a : World) (g : Nat) (v0 v1 v2 v3 : Value) (w : World) : Prop :=
 Below a.heap.size a w ∧ w.cell? ⟨g, 0, none⟩ = some v0 ∧ w.cell? ⟨g, 1, none⟩ = some v1 ∧ w.cell? ⟨g, 2, none⟩ = some v2 ∧ w.cell? ⟨g, 3, none⟩ = some v3
theorem keepA4 {a w : World} {g : Nat} {v0 v1 v2 v3 : Value} {o : Obj} (hg : g < a.heap.size) (h : Sx a g v0 v1 v2 v3 w) : Sx a g v0 v1 v2 v3 (w.alloc o) := by
 obtain ⟨hb, h0, h1, h2, h3⟩ := h
 have hs := hb.size
 exact ⟨hb.alloc hs o, (World.cell?_alloc_lt w o _ (by simp; omega)).trans h0, (World.cell?_alloc_lt w o _ (by simp; omega)).trans h1, (World.cell?_alloc_lt w o _ (by simp; omega)).trans h2, (World.cell?_alloc_lt w o _ (by simp; omega)).trans h3⟩
theorem keepA4d {a w : World} {g : Nat} {v0 v1 v2 v3 : Value} {o : Obj} (hg : g < a.heap.size) (h : Sx a g v0 v1 v2 v3 w.drew) : Sx a g v0 v1 v2 v3 (w.alloc o).drew := keepA4 (w := w.drew) (o := o) hg h
theorem keepC1 {a w : World} {g N i : Nat} {v0 v1 v2 v3 u : Value} (hg : g < a.heap.size) (hN : a.heap.size ≤ N) (h : Sx a g v0 v1 v2 v3 w) : Sx a g v0 v1 v2 v3 (w.setCell ⟨N, i, none⟩ u) := by
 obtain ⟨hb, h0, h1, h2, h3⟩ := h
 exact ⟨hb.setCell hN u, (cell_set_blk (by omega)).trans h0, (cell_set_blk (by omega)).trans h1, (cell_set_blk (by omega)).trans h2, (cell_set_blk (by omega)).trans h3⟩
theorem keepX4 {a w w' : World} {g : Nat} {v0 v1 v2 v3 : Value} (hg : g < a.heap.size) (h : Sx a g v0 v1 v2 v3 w) (b : Below w.heap.size w w') : Sx a g v0 v1 v2 v3 w' := keepX hg h.1 h.2.1 h.2.2.1 h.2.2.2.1 h.2.2.2.2 b
theorem newBelow {a X w' : World} {g : Nat} {v0 v1 v2 v3 : Value} {cs : Array Value} {t : TypeId} (h : Sx a g v0 v1 v2 v3 X) (b : Below (X.alloc (.cells cs t)).heap.size (X.alloc (.cells cs t)) w') : Blk w' X.heap.size t cs ∧ a.heap.size ≤ X.heap.size := ⟨(Blk.new X t cs).below b (Blk.new X t cs).lt, h.1.size⟩
theorem newBelowd {a X w' : World} {g : Nat} {v0 v1 v2 v3 : Value} {cs : Array Value} {t : TypeId} (h : Sx a g v0 v1 v2 v3 X.drew) (b : Below (X.alloc (.cells cs t)).drew.heap.size (X.alloc (.cells cs t)).drew w') : Blk w' X.heap.size t cs ∧ a.heap.size ≤ X.heap.size := ⟨(Blk.new X t cs).drew.below b (Blk.new X t cs).drew.lt, h.1.size⟩
/-- the blocks of Expand -/
structure XpMem (G : Nat) (key : List Nat) (n : Nat) (w wr : World) : Prop where
 r : Blk wr (G + 1) 79 (va .u8 (Ci.upd (Ci.exF key) z176 n))
 bel : Below G w wr

set_option maxHeartbeats 2000000 in
theorem expand_any (key : List Nat) (hkl : key.length = 16) (hk : Ci.Byt key) (w : World) :
    Calls Tryd.prog 39 #[.agg (va .u8 key)] w fun e w' => e = .returned (.agg (va .u8 (Ci.exL key))) ∧ Below w.heap.size w w' := by
  have hzv := zero16
  have hz4 := zero4
  have hzs := zeroSched
  have hvs : (va .u8 key).size = 16 := by rw [va_size, hkl]
  have hsz0 : (Tryd.prog.info? 22).map (·.size) = some (va .u8 key).size := by rw [va_size, hkl]; kernel_rfl
  have hsz := Lib.hid hsz0
  have hst : (storeCells ⟨w.heap.size + 1, 0, none⟩ (va .u8 key).toList).run Tryd.prog ((w.alloc (.cells (va .u8 key) 22)).alloc (.cells (va .u8 z176) 79)) = .ok () ((w.alloc (.cells (va .u8 key) 22)).alloc (.cells (va .u8 (Ci.upd (Ci.exF key) z176 16)) 79)) := by
    have hb : Blk ((w.alloc (.cells (va .u8 key) 22)).alloc (.cells (va .u8 z176) 79)) (w.alloc (.cells (va .u8 key) 22)).heap.size 79 (va .u8 z176) := Blk.new _ _ _
    have h := run_storeMid (P := Tryd.prog) hb 0 .u8 key (by rw [va_size, hkl, z176_len]; omega)
    have e : ((va .u8 z176).toList.take 0 ++ (nv .u8 key ++ (va .u8 z176).toList.drop (0 + (nv .u8 key).length))).toArray = va .u8 (Ci.upd (Ci.exF key) z176 16) := by
      rw [← Ci.upd_first key z176 z176_len hkl, nv_len, hkl]
      simp [va, nv_drop, nv_app]
    rw [e, World.setRow_alloc_new, show (w.alloc (.cells (va .u8 key) 22)).heap.size = w.heap.size + 1 from by simp] at h
    exact h
  have hm : XpMem w.heap.size key 16 w ((w.alloc (.cells (va .u8 key) 22)).alloc (.cells (va .u8 (Ci.upd (Ci.exF key) z176 16)) 79)) := by
    refine ⟨?_, ((Below.refl _ _).alloc (Nat.le_refl _) _).alloc (by simp) _⟩
    have := Blk.new (w.alloc (.cells (va .u8 key) 22)) 79 (va .u8 (Ci.upd (Ci.exF key) z176 16))
    simpa using this
  have hmm := Lib.hid hm
  clear hsz0 hm
  go_enter Tryd.func39, Tryd.ntmps39
  go_wp2_with (refine wpList_load_row rfl 22 (.tmp 1) rfl w.heap.size rfl 22 (va .u8 key) (0, 0) _ ?hq Tryd.underlying22 rfl hsz.out ?_
               case hq => exact (Blk.new _ _ _).alloc _)
  clear hst hvs hzs
  generalize (w.alloc (.cells (va .u8 key) 22)).alloc (.cells (va .u8 (Ci.upd (Ci.exF key) z176 16)) 79) = w1 at *
  go_loopw [3] (fun s wr => ∃ K : Nat, K ≤ 10 ∧ s = .int .i64 ((K : Int) + 1) ∧ XpMem w.heap.size key (16 * (K + 1)) w wr) (fun s _ => 11 - (intOf s).toNat)
  case atStart => exact ⟨0, by omega, rfl, hmm.out⟩
  case round =>
    clear hmm
    obtain ⟨K, hK, rfl, hmem⟩ := hrel
    by_cases hlt : K < 10
    · have hltI : (K : Int) + 1 ≤ 10 := by omega
      have hKI : (K : Int) < 11 := by omega
      have hrow := hmem.r.part (K * 16) 16
      rw [Ci.upd_row key z176 z176_len hkl K _ (Nat.le_refl _) (by omega)] at hrow
      have hbl := Ci.rowE_len hkl K
      have hbb := Ci.rowE_byt hk K
      generalize hbe : Ci.rowE key K = b at *
      have hnl : (nv .u8 b).length = 16 := by rw [nv_len, hbl]
      have hst := run_storeNew (P := Tryd.prog) wr 22 (va .u8 z16) .u8 b (by rw [va_size, hbl, z16_len])
      have hst2 : (storeCells ⟨wr.heap.size, 0, none⟩ (nv .u8 b)).run Tryd.prog (wr.alloc (.cells (va .u8 z16) 22)) = .ok () (wr.alloc (.cells (va .u8 b) 22)) := by
        have : (va .u8 b).toList = nv .u8 b := by simp [va]
        rw [← this]; exact hst
      have hmm := Lib.hid hmem
      have hrh := Lib.hid hrow
      clear hmem hrow
      have hsl := array_at
      obtain ⟨lst, hle⟩ : ∃ lst, (b.drop 12).take 4 = lst := ⟨_, rfl⟩
      have hll : lst.length = 4 := by rw [← hle]; simp; omega
      have hrl := (Blk.new wr 22 (va .u8 b)).part 12 4
      rw [hle] at hrl
      have hg : ∀ j, j < 4 → lst.getD j 0 = b.getD (12 + j) 0 := fun j hj => by
        rw [← hle]
        simp [hj]
      have hrlh := Lib.hid hrl
      have hghh := Lib.hid hg
      have hnl4 : (nv .u8 lst).length = 4 := by rw [nv_len, hll]
      have hst4 : (storeCells ⟨wr.heap.size + 1, 0, none⟩ (nv .u8 lst)).run Tryd.prog ((wr.alloc (.cells (va .u8 b) 22)).alloc (.cells (va .u8 z4) 106)) = .ok () ((wr.alloc (.cells (va .u8 b) 22)).alloc (.cells (va .u8 lst) 106)) := by
        have h := run_storeNew (P := Tryd.prog) (wr.alloc (.cells (va .u8 b) 22)) 106 (va .u8 z4) .u8 lst (by rw [va_size, hll, z4_len])
        have : (va .u8 lst).toList = nv .u8 lst := by simp [va]
        rw [this, show (wr.alloc (.cells (va .u8 b) 22)).heap.size = wr.heap.size + 1 from by simp] at h
        exact h
      have hbL : Blk ((wr.alloc (.cells (va .u8 b) 22)).alloc (.cells (va .u8 lst) 106)) (wr.heap.size + 1) 106 (va .u8 lst) := by
        have := Blk.new (wr.alloc (.cells (va .u8 b) 22)) 106 (va .u8 lst)
        simpa using this
      have hbX : Blk ((wr.alloc (.cells (va .u8 b) 22)).alloc (.cells (va .u8 lst) 106)) wr.heap.size 22 (va .u8 b) := (Blk.new _ _ _).alloc _
      have hbW : XpMem w.heap.size key (16 * (K + 1)) w ((wr.alloc (.cells (va .u8 b) 22)).alloc (.cells (va .u8 lst) 106)) := ⟨(hmm.out.r.alloc _).alloc _, (hmm.out.bel.alloc hmm.out.bel.size _).alloc (by have := hmm.out.bel.size; simp; omega) _⟩
      have hbLh := Lib.hid hbL
      have hbXh := Lib.hid hbX
      have hbWh := Lib.hid hbW
      have hbeh := Lib.hid hbe
      clear hrl hle hg hbL hbX hbW hbe
      go_wp2_with (first
        | (refine wpList_load_mid rfl 22 (.tmp 16) rfl (w.heap.size + 1) (K * 16) rfl (nv .u8 b) _ hrh.out Tryd.underlying22 rfl (by rw [hnl]; kernel_rfl) ?_)
        | (refine wpList_load_mid rfl 106 (.tmp 19) rfl wr.heap.size 12 rfl (nv .u8 lst) _ hrlh.out Tryd.underlying106 rfl (by rw [hnl4]; kernel_rfl) ?_))
      have hwrs : wr.heap.size + 1 < ((wr.alloc (.cells (va .u8 b) 22)).alloc (.cells (va .u8 lst) 106)).heap.size := hbLh.out.lt
      generalize (wr.alloc (.cells (va .u8 b) 22)).alloc (.cells (va .u8 lst) 106) = w2 at *
      clear hst hst2 hst4 hsl hz4 hzv
      have e0 := hbLh.out.num (i := 0) (by omega)
      have e1 := hbLh.out.num (i := 1) (by omega)
      have e2 := hbLh.out.num (i := 2) (by omega)
      have e3 := hbLh.out.num (i := 3) (by omega)
      rw [hghh.out 0 (by omega)] at e0
      rw [hghh.out 1 (by omega)] at e1
      rw [hghh.out 2 (by omega)] at e2
      rw [hghh.out 3 (by omega)] at e3
      have hx0 := hbb.get (12 + 0)
      have hx1 := hbb.get (12 + 1)
      have hx2 := hbb.get (12 + 2)
      have hx3 := hbb.get (12 + 3)
      have hwz := Ci.wd_zero b K
      obtain ⟨x0, hy0⟩ : ∃ x, b.getD (12 + 0) 0 = x := ⟨_, rfl⟩
      obtain ⟨x1, hy1⟩ : ∃ x, b.getD (12 + 1) 0 = x := ⟨_, rfl⟩
      obtain ⟨x2, hy2⟩ : ∃ x, b.getD (12 + 2) 0 = x := ⟨_, rfl⟩
      obtain ⟨x3, hy3⟩ : ∃ x, b.getD (12 + 3) 0 = x := ⟨_, rfl⟩
      rw [hy0] at e0 hx0
      rw [hy1] at e1 hx1
      rw [hy2] at e2 hx2
      rw [hy3] at e3 hx3
      rw [show b.getD 13 0 = x1 from hy1, show b.getD 14 0 = x2 from hy2, show b.getD 15 0 = x3 from hy3, show b.getD 12 0 = x0 from hy0] at hwz
      obtain ⟨p2, hp2⟩ : ∃ p, Gf.pw 2 K = p := ⟨_, rfl⟩
      have hp2l : p2 < 256 := by rw [← hp2]; exact Gf.pw_lt 2 K (by omega)
      rw [hp2] at hwz
      have hpz := Lib.hid ((Gf.powZ_nat 2 K (by omega)).trans hp2)
      have hxor : bits BinOp.xor IntKind.u8 ((Gf.sub x1 : Nat) : Int) (p2 : Int) = ((Gf.sub x1 ^^^ p2 : Nat) : Int) := u8_xor_nat _ _ (Gf.sub_lt _) hp2l
      have hwzh := Lib.hid hwz
      have hwsh := Lib.hid hwrs
      have hwK : IntKind.i64.wrap (K : Int) = (K : Int) := IntWalk.i64_in _ (by omega)
      have hSp := Lib.hid (show Sx w2 (wr.heap.size + 1) _ _ _ _ w2.drew from ⟨below_drewN (Below.refl _ _) 1, e0, e1, e2, e3⟩)
      clear hwz hy0 hy1 hy2 hy3 hp2 hwrs
      go_upto_region 7 with fail
      go_cut [6] (fun v wx => ∃ N, v = .pointer (some ⟨N, 0, none⟩) ∧ Blk wx N 106 (va .u8 (Ci.wd b K 0)) ∧ w2.heap.size ≤ N ∧ Below w2.heap.size w2 wx)
      case first =>
        go_region_held3 (fun w' => Below w2.heap.size w2 w' ∧ w'.cell? ⟨wr.heap.size + 1, 0, none⟩ = some (.int .u8 (x0 : Int)) ∧ w'.cell? ⟨wr.heap.size + 1, 1, none⟩ = some (.int .u8 (x1 : Int)) ∧ w'.cell? ⟨wr.heap.size + 1, 2, none⟩ = some (.int .u8 (x2 : Int)) ∧ w'.cell? ⟨wr.heap.size + 1, 3, none⟩ = some (.int .u8 (x3 : Int)))
          (first
            | exact hSp.out
            | exact keepA4 hwsh.out hSp.out
            | exact keepA4d hwsh.out hSp.out
            | exact keepC1 hwsh.out hN.out.2 (keepC1 hwsh.out hN.out.2 (keepC1 hwsh.out hN.out.2 (keepC1 hwsh.out hN.out.2 hSp.out)))
            | go_keep)
          ((first
            | (go_at_call 59; (with_reducible refine (sub_to x1 (Gf.sub x1) hx1 rfl _).mono ?_); rintro e wq ⟨rfl, bq⟩; (first | (replace hN := Lib.hid (And.intro (hN.out.1.below bq hN.out.1.lt) hN.out.2); obtain ⟨n0, n1, n2, n3⟩ := fourCells hN.out.1; obtain ⟨m0, m1, m2, m3⟩ := fourFree hN.out.1; replace hSp := Lib.hid (keepX4 hwsh.out hSp.out bq)) | (with_reducible have hN := Lib.hid (newBelow hSp.out bq); obtain ⟨n0, n1, n2, n3⟩ := fourCells hN.out.1; obtain ⟨m0, m1, m2, m3⟩ := fourFree hN.out.1; replace hSp := Lib.hid (keepX4 hwsh.out (keepA4 hwsh.out hSp.out) bq)) | (with_reducible have hN := Lib.hid (newBelowd hSp.out bq); obtain ⟨n0, n1, n2, n3⟩ := fourCells hN.out.1; obtain ⟨m0, m1, m2, m3⟩ := fourFree hN.out.1; replace hSp := Lib.hid (keepX4 hwsh.out (keepA4d hwsh.out hSp.out) bq)) | (replace hSp := Lib.hid (keepX4 hwsh.out hSp.out bq))))
            | (go_at_call 59; (with_reducible refine (sub_to x2 (Gf.sub x2) hx2 rfl _).mono ?_); rintro e wq ⟨rfl, bq⟩; (first | (replace hN := Lib.hid (And.intro (hN.out.1.below bq hN.out.1.lt) hN.out.2); obtain ⟨n0, n1, n2, n3⟩ := fourCells hN.out.1; obtain ⟨m0, m1, m2, m3⟩ := fourFree hN.out.1; replace hSp := Lib.hid (keepX4 hwsh.out hSp.out bq)) | (with_reducible have hN := Lib.hid (newBelow hSp.out bq); obtain ⟨n0, n1, n2, n3⟩ := fourCells hN.out.1; obtain ⟨m0, m1, m2, m3⟩ := fourFree hN.out.1; replace hSp := Lib.hid (keepX4 hwsh.out (keepA4 hwsh.out hSp.out) bq)) | (with_reducible have hN := Lib.hid (newBelowd hSp.out bq); obtain ⟨n0, n1, n2, n3⟩ := fourCells hN.out.1; obtain ⟨m0, m1, m2, m3⟩ := fourFree hN.out.1; replace hSp := Lib.hid (keepX4 hwsh.out (keepA4d hwsh.out hSp.out) bq)) | (replace hSp := Lib.hid (keepX4 hwsh.out hSp.out bq))))
            | (go_at_call 59; (with_reducible refine (sub_to x3 (Gf.sub x3) hx3 rfl _).mono ?_); rintro e wq ⟨rfl, bq⟩; (first | (replace hN := Lib.hid (And.intro (hN.out.1.below bq hN.out.1.lt) hN.out.2); obtain ⟨n0, n1, n2, n3⟩ := fourCells hN.out.1; obtain ⟨m0, m1, m2, m3⟩ := fourFree hN.out.1; replace hSp := Lib.hid (keepX4 hwsh.out hSp.out bq)) | (with_reducible have hN := Lib.hid (newBelow hSp.out bq); obtain ⟨n0, n1, n2, n3⟩ := fourCells hN.out.1; obtain ⟨m0, m1, m2, m3⟩ := fourFree hN.out.1; replace hSp := Lib.hid (keepX4 hwsh.out (keepA4 hwsh.out hSp.out) bq)) | (with_reducible have hN := Lib.hid (newBelowd hSp.out bq); obtain ⟨n0, n1, n2, n3⟩ := fourCells hN.out.1; obtain ⟨m0, m1, m2, m3⟩ := fourFree hN.out.1; replace hSp := Lib.hid (keepX4 hwsh.out (keepA4d hwsh.out hSp.out) bq)) | (replace hSp := Lib.hid (keepX4 hwsh.out hSp.out bq))))
            | (go_at_call 59; (with_reducible refine (sub_to x0 (Gf.sub x0) hx0 rfl _).mono ?_); rintro e wq ⟨rfl, bq⟩; (first | (replace hN := Lib.hid (And.intro (hN.out.1.below bq hN.out.1.lt) hN.out.2); obtain ⟨n0, n1, n2, n3⟩ := fourCells hN.out.1; obtain ⟨m0, m1, m2, m3⟩ := fourFree hN.out.1; replace hSp := Lib.hid (keepX4 hwsh.out hSp.out bq)) | (with_reducible have hN := Lib.hid (newBelow hSp.out bq); obtain ⟨n0, n1, n2, n3⟩ := fourCells hN.out.1; obtain ⟨m0, m1, m2, m3⟩ := fourFree hN.out.1; replace hSp := Lib.hid (keepX4 hwsh.out (keepA4 hwsh.out hSp.out) bq)) | (with_reducible have hN := Lib.hid (newBelowd hSp.out bq); obtain ⟨n0, n1, n2, n3⟩ := fourCells hN.out.1; obtain ⟨m0, m1, m2, m3⟩ := fourFree hN.out.1; replace hSp := Lib.hid (keepX4 hwsh.out (keepA4d hwsh.out hSp.out) bq)) | (replace hSp := Lib.hid (keepX4 hwsh.out hSp.out bq))))
            | (go_at_call 60; (refine (power_to 2 (K : Int) p2 (by omega) hpz.out _).mono ?_); rintro e wq ⟨rfl, bq⟩; (first | (replace hN := Lib.hid (And.intro (hN.out.1.below bq hN.out.1.lt) hN.out.2); obtain ⟨n0, n1, n2, n3⟩ := fourCells hN.out.1; obtain ⟨m0, m1, m2, m3⟩ := fourFree hN.out.1; replace hSp := Lib.hid (keepX4 hwsh.out hSp.out bq)) | (with_reducible have hN := Lib.hid (newBelow hSp.out bq); obtain ⟨n0, n1, n2, n3⟩ := fourCells hN.out.1; obtain ⟨m0, m1, m2, m3⟩ := fourFree hN.out.1; replace hSp := Lib.hid (keepX4 hwsh.out (keepA4 hwsh.out hSp.out) bq)) | (with_reducible have hN := Lib.hid (newBelowd hSp.out bq); obtain ⟨n0, n1, n2, n3⟩ := fourCells hN.out.1; obtain ⟨m0, m1, m2, m3⟩ := fourFree hN.out.1; replace hSp := Lib.hid (keepX4 hwsh.out (keepA4d hwsh.out hSp.out) bq)) | (replace hSp := Lib.hid (keepX4 hwsh.out hSp.out bq))))))
        all_goals
          go_wp2_with fail
          go_meet
        all_goals first
          | exact ⟨_, rfl, by rw [hwzh.out]; exact Blk.new _ _ _, hSp.out.1.size, hSp.out.1.alloc hSp.out.1.size _⟩
          | exact ⟨_, rfl, by rw [hwzh.out]; exact (Blk.new _ _ _).drew, hSp.out.1.size, below_drewN (hSp.out.1.alloc hSp.out.1.size _) 1⟩
          | exact ⟨_, rfl, by rw [hwzh.out]; exact (((hN.out.1.set_ 0 _).set_ 1 _).set_ 2 _).set_ 3 _, hN.out.2, (((hSp.out.1.setCell hN.out.2 _).setCell hN.out.2 _).setCell hN.out.2 _).setCell hN.out.2 _⟩
      case rest =>
        obtain ⟨N, rfl, hbN, hN2, hbC⟩ := hcut
        have hX2 := hbXh.out.below hbC hbXh.out.lt
        have hW2 : XpMem w.heap.size key (16 * (K + 1)) w wc := ⟨hbWh.out.r.below hbC hbWh.out.r.lt, hbWh.out.bel.trans (hbC.mono hbWh.out.bel.size)⟩
        have hNX : wr.heap.size ≠ N := by have := hwsh.out; omega
        have hNR : w.heap.size + 1 ≠ N := by have := hbWh.out.r.lt; omega
        have hXR : w.heap.size + 1 < wr.heap.size := hmm.out.r.lt
        have hNG : w.heap.size ≤ N := by have := hbWh.out.bel.size; omega
        have hNh := Lib.hid hbN
        have hXh := Lib.hid hX2
        have hWh := Lib.hid hW2
        have hne1 := Lib.hid hNX
        have hne2 := Lib.hid hNR
        clear hbN hX2 hW2 hbC hSp hpz hxor e0 e1 e2 e3 hx0 hx1 hx2 hx3 hwzh hp2l hNX hNR hwK
        obtain ⟨X, hXe⟩ : ∃ X, wr.heap.size = X := ⟨_, rfl⟩
        rw [hXe] at hXh hne1
        clear hwsh
        go_wp2
        rw [hXe]
        go_loopw [38] (fun s wx => ∃ i : Nat, i ≤ 16 ∧ s = .int .i64 (i : Int) ∧ Blk wx N 106 (va .u8 (Ci.wd b K i)) ∧ Blk wx X 22 (va .u8 b) ∧ XpMem w.heap.size key (16 * (K + 1) + i) w wx) (fun s _ => 16 - (intOf s).toNat)
        case atStart => exact ⟨0, by omega, rfl, hNh.out, hXh.out, hWh.out⟩
        case round =>
          clear hNh hXh hWh
          obtain ⟨i, hi16, rfl, hN0, hX0, hM0⟩ := hrel
          by_cases hli : i < 16
          · have hliI : (i : Int) < 16 := by omega
            obtain ⟨m, hm⟩ : ∃ m, i % 4 = m := ⟨_, rfl⟩
            have hm4 : m < 4 := by omega
            have hmI : (i : Int).tmod 4 = (m : Int) := by rw [Int.tmod_eq_emod_of_nonneg (by omega)]; omega
            have hmE : (i : Int) % 4 = (m : Int) := by omega
            have hm4I : (m : Int) < 4 := by omega
            obtain ⟨hs1, hs2⟩ := Ci.wd_step b K i hli
            have hnx := Ci.exF_next key K i hli
            rw [hbeh.out] at hnx
            rw [hm] at hs1 hs2 hnx
            obtain ⟨c, hc⟩ : ∃ c, Ci.col b K m (i / 4) = c := ⟨_, rfl⟩
            rw [hc] at hs1 hs2 hnx
            have hc1 := hN0.num (i := m) (by rw [Ci.wd_len]; exact hm4)
            have hf1 := hN0.frozen m
            have hc2 := hX0.num (i := i) (by omega)
            have hu := (Ci.wd_byt hbb K i).get m
            have hy := hbb.get i
            have hxor : bits BinOp.xor IntKind.u8 (((Ci.wd b K i).getD m 0 : Nat) : Int) ((b.getD i 0 : Nat) : Int) = (c : Int) := by rw [u8_xor_nat _ _ hu hy, hs2]
            have hN3 : Blk (wr.drew.setCell ⟨N, m, none⟩ (.int .u8 (c : Int))) N 106 (va .u8 (Ci.wd b K (i + 1))) := by
              have := hN0.drew.setNum m c
              rw [hs1] at this
              exact this
            have hX3 : Blk (wr.drew.setCell ⟨N, m, none⟩ (.int .u8 (c : Int))) X 22 (va .u8 b) := hX0.drew.far hne1.out _
            have hM3 : XpMem w.heap.size key (16 * (K + 1) + i) w (wr.drew.setCell ⟨N, m, none⟩ (.int .u8 (c : Int))) := ⟨hM0.r.drew.far hne2.out _, (below_drewN hM0.bel 1).setCell hNG _⟩
            have hg3 : (Ci.wd b K (i + 1)).getD m 0 = c := by rw [← hs1]; exact getD_set_eq (by rw [Ci.wd_len]; exact hm4)
            have hN3h := Lib.hid hN3
            have hX3h := Lib.hid hX3
            have hM3h := Lib.hid hM3
            have hg3h := Lib.hid hg3
            have hnxh := Lib.hid hnx
            generalize (Ci.wd b K i).getD m 0 = u0 at *
            generalize b.getD i 0 = y0 at *
            clear hN0 hX0 hM0 hN3 hX3 hM3 hs1 hs2 hnx hg3 hc hm
            go_wp2
            refine wp_region_still_tail 9 (by kernel_rfl) (by kernel_rfl) ?_
            simp only [List.take_succ_cons, List.take_zero, List.drop_succ_cons, List.drop_zero]
            change wpStill _ _ wr.drew _ _ _
            iterate 9 still_step
            refine wpStill_nil ?_
            change wpList _ _ _ _ _ wr.drew
            go_wp2
            have hgz := hN3h.out.num (i := m) (by rw [Ci.wd_len]; exact hm4)
            rw [hg3h.out] at hgz
            have hK1 : (0 : Int) ≤ (K : Int) + 1 := by omega
            have hK2 : (K : Int) + 1 < 11 := by omega
            have hi176 : 16 * (K + 1) + i < 176 := by omega
            have hRf := hM3h.out.r.frozen ((K + 1) * 16 + i)
            have hRl : (va .u8 (Ci.upd (Ci.exF key) z176 (16 * (K + 1) + i))).size = 176 := by rw [va_size, Ci.upd_len, z176_len]
            have hRc := hM3h.out.r.num (i := (K + 1) * 16 + i) (by rw [Ci.upd_len, z176_len]; omega)
            generalize (Ci.upd (Ci.exF key) z176 (16 * (K + 1) + i)).getD ((K + 1) * 16 + i) 0 = r0 at hRc
            refine wp_region_still_tail 8 (by kernel_rfl) (by kernel_rfl) ?_
            simp only [List.take_succ_cons, List.take_zero, List.drop_succ_cons, List.drop_zero]
            change wpStill _ _ (wr.drew.setCell ⟨N, m, none⟩ (.int .u8 (c : Int))).drew _ _ _
            generalize hw3 : wr.drew.setCell ⟨N, m, none⟩ (.int .u8 (c : Int)) = w3 at *
            clear hc1 hf1 hc2
            iterate 8 still_step
            refine wpStill_nil ?_
            change wpList _ _ _ _ _ (wr.drew.setCell ⟨N, m, none⟩ (.int .u8 (c : Int))).drew
            rw [hw3]
            clear hw3
            go_wp2
            go_roundw
            case rel =>
              refine ⟨i + 1, by omega, by go_num, hN3h.out.drew.far (by have := hne2.out; simp; omega) _, hX3h.out.drew.far (by simp; omega) _, ⟨?_, (below_drewN hM3h.out.bel 1).setCell (by simp <;> omega) _⟩⟩
              have e5 := hM3h.out.r
              have e6 := hnxh.out
              rw [show 16 * (K + 1) + (i + 1) = (16 * (K + 1) + i) + 1 from rfl, ← Ci.upd_set]
              rw [show 16 * (K + 1) + i = (K + 1) * 16 + i from by omega] at e5 e6 ⊢
              rw [e6]
              exact e5.drew.setNum ((K + 1) * 16 + i) c
            case measure => simp [intOf]; omega
          · obtain rfl : i = 16 := by omega
            have hM0h := Lib.hid hM0
            clear hN0 hX0 hM0
            go_wp2
            go_roundw
            case rel => exact ⟨K + 1, by omega, by go_num, by rw [show 16 * (K + 1 + 1) = 16 * (K + 1) + 16 from by omega]; exact hM0h.out⟩
            case measure => simp [intOf]; omega
    · obtain rfl : K = 10 := by omega
      have hall : Ci.upd (Ci.exF key) z176 (16 * (10 + 1)) = Ci.exL key := Ci.exL_all key z176 z176_len
      obtain ⟨hmr, hmb⟩ := hmem
      rw [hall] at hmr
      have hLl := Ci.exL_len key
      have hsz0 : (Tryd.prog.info? 79).map (·.size) = some (va .u8 (Ci.exL key)).size := by rw [va_size, hLl]; kernel_rfl
      have hszE := Lib.hid hsz0
      have hst := run_storeBlk (P := Tryd.prog) hmr .u8 (Ci.exL key) (by simp [va_size])
      have hvs : (va .u8 (Ci.exL key)).size = 176 := by rw [va_size, hLl]
      have hmrh := Lib.hid hmr
      have hmbh := Lib.hid hmb
      clear hsz0 hmr hmb hall
      go_wp2_with (refine wpList_load_row rfl 79 (.tmp 2) rfl (w.heap.size + 1) rfl 79 (va .u8 (Ci.exL key)) (0, 0) _ hmrh.out Tryd.underlying79 rfl hszE.out ?_)
      exact bodyPost_ret (results_cell_row rfl _ _ (w.heap.size + 1) 79 (va .u8 (Ci.exL key)) (0, 0) _ rfl (hmrh.out.row _) Tryd.underlying79 rfl hszE.out) rfl ⟨rfl, below_setRow hmbh.out (by omega) _⟩
end Go.Proofs.YtcfddmplnoknlaaDoor
/-
  The walk of caissonlaw06.lives: the examples of the chapter hold.
-/
namespace Go.Proofs.YtcfddmplnoknlaaDoor
set_option maxRecDepth 16384
open Go.RowKit

theorem enc_len (L b : List Nat) : (Ci.enc L b).length = 16 := Ci.encS_len L b 10
end Go.Proofs.YtcfddmplnoknlaaDoor
/-
  The reference's rounds, plainly: a matrix whose rows lie one behind the other.
-/
namespace Go.Proofs.YtcfddmplnoknlaaDoor.Ci
set_option maxRecDepth 16384

def T (j : Nat) : Nat := 4 * (j % 4) + j / 4
theorem T_lt {j : Nat} (h : j < 16) : T j < 16 := by unfold T; omega
theorem T_T {j : Nat} (h : j < 16) : T (T j) = j := by unfold T; omega
theorem T_at (c r : Nat) (hr : r < 4) : T (4 * c + r) = 4 * r + c := by unfold T; omega
theorem getD_range (f : Nat → Nat) {i : Nat} (hi : i < 16) : ((List.range 16).map f).getD i 0 = f i := by
 simp [List.getD_eq_getElem?_getD, hi]
/-- a block, by rows -/
def tr (x : List Nat) : List Nat := (List.range 16).map fun j => x.getD (T j) 0
theorem tr_len (x : List Nat) : (tr x).length = 16 := by simp [tr]
theorem tr_get (x : List Nat) {j : Nat} (hj : j < 16) : (tr x).getD j 0 = x.getD (T j) 0 := getD_range _ hj
def updT (f : Nat → Nat) (b : List Nat) (k : Nat) : List Nat := (List.range 16).map fun j => if T j < k then f (T j) else b.getD j 0
theorem updT_len (f : Nat → Nat) (b : List Nat) (k : Nat) : (updT f b k).length = 16 := by simp [updT]
theorem updT_get (f : Nat → Nat) (b : List Nat) (k : Nat) {j : Nat} (hj : j < 16) : (updT f b k).getD j 0 = if T j < k then f (T j) else b.getD j 0 := getD_range _ hj
theorem ext16 {a b : List Nat} (ha : a.length = 16) (hb : b.length = 16) (h : ∀ i, i < 16 → a.getD i 0 = b.getD i 0) : a = b := by
 apply List.ext_getElem (by omega)
 intro i h1 h2
 have := h i (by omega)
 simpa [List.getD_eq_getElem?_getD, h1, h2] using this
theorem set_get (l : List Nat) (p v i : Nat) (hi : i < l.length) : (l.set p v).getD i 0 = if p = i then v else l.getD i 0 := by
  simp only [List.getD_eq_getElem?_getD, List.getElem?_set]
  by_cases h : p = i
  · subst h; simp [hi]
  · simp [h]
theorem updT_zero (f : Nat → Nat) {b : List Nat} (hb : b.length = 16) : updT f b 0 = b :=
 ext16 (updT_len ..) hb fun i hi => by rw [updT_get _ _ _ hi]; simp
theorem updT_set (f : Nat → Nat) (b : List Nat) (k p v : Nat) (hk : k < 16) (hp : T k = p) (hv : f k = v) : (updT f b k).set p v = updT f b (k + 1) := by
  refine ext16 (by simp [updT_len]) (updT_len ..) fun i hi => ?_
  rw [set_get _ _ _ _ (by rw [updT_len]; exact hi), updT_get _ _ _ hi, updT_get _ _ _ hi]
  by_cases h : p = i
  · subst hp h
    rw [if_pos rfl, T_T hk, if_pos (by omega), hv]
  · have : T i ≠ k := fun e => h (by rw [← hp, ← e, T_T hi])
    rw [if_neg h]
    by_cases hl : T i < k
    · rw [if_pos hl, if_pos (by omega)]
    · rw [if_neg hl, if_neg (by omega)]
theorem updT_id (f : Nat → Nat) {b : List Nat} (hb : b.length = 16) (k : Nat) (h : ∀ i, i < 16 → f (T i) = b.getD i 0) : updT f b k = b :=
  ext16 (updT_len ..) hb fun i hi => by
    rw [updT_get _ _ _ hi]
    split
    · exact h i hi
    · rfl
theorem updT_all (f : Nat → Nat) (b x : List Nat) (h : ∀ i, i < 16 → f i = x.getD i 0) : updT f b 16 = tr x :=
 ext16 (updT_len ..) (tr_len _) fun i hi => by rw [updT_get _ _ _ hi, if_pos (T_lt hi), h _ (T_lt hi), tr_get _ hi]
/-- rows rotated, bytes replaced -/
def yR (L b : List Nat) (k : Nat) : List Nat := rot 1 (each Gf.sub (encS L b k))
def xR (L b : List Nat) (k : Nat) : List Nat := if k + 1 < 10 then mix [2, 3, 1, 1] (yR L b k) else yR L b k
theorem yR_byt (L b : List Nat) (k : Nat) : Byt (yR L b k) := rot_byt (each_byt Gf.sub_lt _)
theorem xR_byt (L b : List Nat) (k : Nat) : Byt (xR L b k) := by
  unfold xR; split
  · exact mix_byt fac_byt (yR_byt L b k)
  · exact yR_byt L b k
theorem encS_next (L b : List Nat) (k : Nat) : encS L b (k + 1) = addK (xR L b k) (ks L (k + 1)) := rfl
theorem ks_get (L : List Nat) (k s : Nat) (hs : s < 16) : (ks L k).getD s 0 = L.getD (k * 16 + s) 0 := by
 unfold ks
 simp [List.getD_eq_getElem?_getD, List.getElem?_drop, hs]
theorem encS_get (L b : List Nat) (k s : Nat) (hs : s < 16) : (encS L b (k + 1)).getD s 0 = (xR L b k).getD s 0 ^^^ L.getD ((k + 1) * 16 + s) 0 := by
 rw [encS_next]; unfold addK; rw [getD_range _ hs, ks_get _ _ _ hs]
theorem encS_first (L b : List Nat) (s : Nat) (hs : s < 16) : (encS L b 0).getD s 0 = b.getD s 0 ^^^ L.getD s 0 := by
 show (addK b (ks L 0)).getD s 0 = _
 unfold addK; rw [getD_range _ hs, ks_get _ _ _ hs]; simp
/-- the matrix behind the substitution -/
theorem yR_get (L b : List Nat) (k r c : Nat) (hr : r < 4) (hc : c < 4) : (tr (yR L b k)).getD (4 * r + c) 0 = Gf.sub ((tr (encS L b k)).getD (4 * r + (c + r) % 4) 0) := by
 rw [tr_get _ (by omega), tr_get _ (by omega)]
 have e1 : T (4 * r + c) = 4 * c + r := T_at r c hc
 have e2 : T (4 * r + (c + r) % 4) = 4 * ((c + r) % 4) + r := T_at r _ (by omega)
 rw [e1, e2]
 unfold yR rot each
 rw [getD_range _ (by omega), getD_range _ (by omega)]
 have e3 : (4 * c + r) / 4 = c := by omega
 have e4 : (4 * c + r) % 4 = r := by omega
 rw [e3, e4, Nat.one_mul]
theorem sub_all (L b : List Nat) (k : Nat) (z : List Nat) (hz : z.length = 16) : upd (fun i => (tr (yR L b k)).getD i 0) z 16 = tr (yR L b k) := by
 rw [upd_all _ _ _ (by omega), hz]
 exact ext16 (by simp) (tr_len _) fun i hi => getD_range _ hi
theorem out_all (x z : List Nat) (hx : x.length = 16) (hz : z.length = 16) : upd (fun i => (tr x).getD (T i) 0) z 16 = x := by
 rw [upd_all _ _ _ (by omega), hz]
 exact ext16 (by simp) hx fun i hi => by rw [getD_range _ hi, tr_get _ (T_lt hi), T_T hi]

/-! the products with 1, 2 and 3 -/
theorem gm3 (a : Nat) : Gf.gm a 3 = Gf.gm a 2 ^^^ Gf.gm a 1 := by rw [show (3 : Nat) = 2 ^^^ 1 from rfl, Gf.gm_right]
theorem by3 (a : Nat) (h : a < 256) : Gf.gm 3 a = Gf.gm 2 a ^^^ a := by
 rw [Gf.gm_comm 3 a (by omega) h, gm3, Gf.gm_one a h, Gf.gm_comm a 2 h (by omega)]
theorem by1 (a : Nat) (h : a < 256) : Gf.gm 1 a = a := by rw [Gf.gm_comm 1 a (by omega) h, Gf.gm_one a h]
def dbl (a : Nat) : Nat := Gf.gm 2 a
theorem dbl_lt (a : Nat) : dbl a < 256 := Gf.gm_lt _ _ (by omega)
theorem mixS4 (y : List Nat) (c r p q s t : Nat) (h0 : y.getD (4 * c + (r + 0) % 4) 0 = p) (h1 : y.getD (4 * c + (r + 1) % 4) 0 = q) (h2 : y.getD (4 * c + (r + 2) % 4) 0 = s) (h3 : y.getD (4 * c + (r + 3) % 4) 0 = t) :
  mixS [2, 3, 1, 1] y c r 4 = Gf.gm 2 p ^^^ Gf.gm 3 q ^^^ Gf.gm 1 s ^^^ Gf.gm 1 t := by
 simp only [mixS]
 rw [h0, h1, h2, h3, Nat.zero_xor]
 rfl
theorem mix_at (y : List Nat) (hy : Byt y) (c : Nat) (hc : c < 4) (a0 a1 a2 a3 : Nat) (h0 : y.getD (4 * c) 0 = a0) (h1 : y.getD (4 * c + 1) 0 = a1) (h2 : y.getD (4 * c + 2) 0 = a2) (h3 : y.getD (4 * c + 3) 0 = a3) :
  (mix [2, 3, 1, 1] y).getD (4 * c) 0 = dbl a0 ^^^ dbl a1 ^^^ a1 ^^^ a2 ^^^ a3 ∧
  (mix [2, 3, 1, 1] y).getD (4 * c + 1) 0 = a0 ^^^ dbl a1 ^^^ dbl a2 ^^^ a2 ^^^ a3 ∧
  (mix [2, 3, 1, 1] y).getD (4 * c + 2) 0 = a0 ^^^ a1 ^^^ dbl a2 ^^^ dbl a3 ^^^ a3 ∧
  (mix [2, 3, 1, 1] y).getD (4 * c + 3) 0 = dbl a0 ^^^ a0 ^^^ a1 ^^^ a2 ^^^ dbl a3 := by
 have b0 : a0 < 256 := h0 ▸ hy.get _
 have b1 : a1 < 256 := h1 ▸ hy.get _
 have b2 : a2 < 256 := h2 ▸ hy.get _
 have b3 : a3 < 256 := h3 ▸ hy.get _
 have g : ∀ r, r < 4 → (mix [2, 3, 1, 1] y).getD (4 * c + r) 0 = mixS [2, 3, 1, 1] y c r 4 := fun r hr => by
  unfold mix
  rw [getD_range _ (by omega), show (4 * c + r) / 4 = c from by omega, show (4 * c + r) % 4 = r from by omega]
 have g0 := g 0 (by omega)
 rw [Nat.add_zero, mixS4 y c 0 a0 a1 a2 a3 h0 h1 h2 h3, by3 _ b1, by1 _ b2, by1 _ b3] at g0
 have g1 := g 1 (by omega)
 rw [mixS4 y c 1 a1 a2 a3 a0 h1 h2 h3 h0, by3 _ b2, by1 _ b3, by1 _ b0] at g1
 have g2 := g 2 (by omega)
 rw [mixS4 y c 2 a2 a3 a0 a1 h2 h3 h0 h1, by3 _ b3, by1 _ b0, by1 _ b1] at g2
 have g3 := g 3 (by omega)
 rw [mixS4 y c 3 a3 a0 a1 a2 h3 h0 h1 h2, by3 _ b0, by1 _ b1, by1 _ b2] at g3
 refine ⟨g0.trans ?_, g1.trans ?_, g2.trans ?_, g3.trans ?_⟩ <;> (unfold dbl; ac_rfl)
theorem n_at (g : Nat → Nat) (y : List Nat) (c i : Nat) (hc : c < 4) (hi : i < 4) : (updT g (tr y) (4 * c)).getD (4 * i + c) 0 = y.getD (4 * c + i) 0 := by
 have e : T (4 * i + c) = 4 * c + i := T_at i c hc
 rw [updT_get _ _ _ (by omega), if_neg (by omega), tr_get _ (by omega), e]
theorem n_done (g : Nat → Nat) (b : List Nat) (c r : Nat) (hc : c < 4) (hr : r < 4) : (updT g b (4 * c + 4)).getD (4 * r + c) 0 = g (4 * c + r) := by
 have e : T (4 * r + c) = 4 * c + r := T_at r c hc
 rw [updT_get _ _ _ (by omega), if_pos (by omega), e]
theorem set_col (g : Nat → Nat) (b : List Nat) (c v0 v1 v2 v3 : Nat) (hc : c < 4) (h0 : g (4 * c) = v0) (h1 : g (4 * c + 1) = v1) (h2 : g (4 * c + 2) = v2) (h3 : g (4 * c + 3) = v3) :
  ((((updT g b (4 * c)).set c v0).set (4 + c) v1).set (8 + c) v2).set (12 + c) v3 = updT g b (4 * c + 4) := by
 rw [updT_set g b (4 * c) c v0 (by omega) (by unfold T; omega) h0, updT_set g b (4 * c + 1) (4 + c) v1 (by omega) (by unfold T; omega) h1, updT_set g b (4 * c + 1 + 1) (8 + c) v2 (by omega) (by unfold T; omega) h2, updT_set g b (4 * c + 1 + 1 + 1) (12 + c) v3 (by omega) (by unfold T; omega) h3]
theorem dbl_hi : ∀ a : Fin 256, 127 < a.val → (2 * a.val) % 256 ^^^ 27 = dbl a.val := by decide +kernel
theorem dbl_lo : ∀ a : Fin 256, ¬ 127 < a.val → 2 * a.val = dbl a.val := by decide +kernel
end Go.Proofs.YtcfddmplnoknlaaDoor.Ci
/-
  The walk of caissonref06.double.
-/
namespace Go.Proofs.YtcfddmplnoknlaaDoor
set_option maxRecDepth 16384
open Go.RowKit

theorem double_any (a : Nat) (ha : a < 256) (w : World) :
    Calls Tryd.prog 91 #[.int .u8 (a : Int)] w fun e w' => e = .returned (.int .u8 ((Ci.dbl a : Nat) : Int)) ∧ w' = w := by
  by_cases h : 127 < a
  · have hI : 127 < (a : Int) := by omega
    have e := Ci.dbl_hi ⟨a, ha⟩ h
    simp only at e
    have e2 : bits .xor .u8 ((a : Int) * 2 % 256) 27 = ((Ci.dbl a : Nat) : Int) := by
      rw [show (a : Int) * 2 % 256 = ((2 * a % 256 : Nat) : Int) from by omega, show (27 : Int) = ((27 : Nat) : Int) from rfl, u8_xor_nat _ _ (by omega) (by omega), e]
    clear e
    go_enter Tryd.func91, Tryd.ntmps91
    go_wp2
    go_ret
    exact ⟨rfl, rfl⟩
  · have hI : ¬ 127 < (a : Int) := by omega
    have e := Ci.dbl_lo ⟨a, ha⟩ h
    simp only at e
    have e2 : (a : Int) * 2 = ((Ci.dbl a : Nat) : Int) := by omega
    clear e
    go_enter Tryd.func91, Tryd.ntmps91
    go_wp2
    go_ret
    exact ⟨rfl, rfl⟩
theorem double_to (a D : Nat) (ha : a < 256) (hD : Ci.dbl a = D) (w : World) :
  Calls Tryd.prog 91 #[.int .u8 (a : Int)] w fun e w' => e = .returned (.int .u8 (D : Int)) ∧ w = w' := by
 subst hD
 exact (double_any a ha w).mono fun _ _ h => ⟨h.1, h.2.symm⟩
end Go.Proofs.YtcfddmplnoknlaaDoor
