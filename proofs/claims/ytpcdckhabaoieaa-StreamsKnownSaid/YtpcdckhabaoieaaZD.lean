/-
  Walks through package ciphers: Encrypt and Decrypt.
-/
import Derived.Test.YtpcdckhabaoieaaCWalk2
import Derived.Test.YtpcdckhabaoieaaCWalk4
import Derived.Deep.MidRow
import Derived.Test.YtpcdckhabaoieaaStr
namespace Go.Proofs.Ytpcdckhabaoieaa
open Go.RowKit

namespace Ci
def ks (L : List Nat) (k : Nat) : List Nat := (L.drop (k * 16)).take 16
def encS (L b : List Nat) : Nat → List Nat
  | 0 => addK b (ks L 0)
  | k + 1 => addK (if k + 1 < 10 then mix [2, 3, 1, 1] (rot 1 (each Gf.sub (encS L b k))) else rot 1 (each Gf.sub (encS L b k))) (ks L (k + 1))
def enc (L b : List Nat) : List Nat := encS L b 10
theorem ks_len {L : List Nat} (hL : L.length = 176) (k : Nat) (hk : k ≤ 10) : (ks L k).length = 16 := by simp [ks]; omega
theorem ks_byt {L : List Nat} (hL : Byt L) (k : Nat) : Byt (ks L k) := fun x hx => hL x (List.mem_of_mem_drop (List.mem_of_mem_take hx))
theorem each_byt {s : Nat → Nat} (hs : ∀ a, s a < 256) (b : List Nat) : Byt (each s b) := byt_map fun _ _ => hs _
theorem fac_byt : Byt [2, 3, 1, 1] := by intro x hx; simp at hx; omega
theorem encS_len (L b : List Nat) : ∀ k, (encS L b k).length = 16
  | 0 => addK_len _ _
  | _ + 1 => addK_len _ _
theorem encS_byt {L b : List Nat} (hL : Byt L) (hb : Byt b) : ∀ k, Byt (encS L b k)
  | 0 => addK_byt hb (ks_byt hL 0)
  | k + 1 => by
    refine addK_byt ?_ (ks_byt hL _)
    have h1 : Byt (rot 1 (each Gf.sub (encS L b k))) := rot_byt (each_byt Gf.sub_lt _)
    split
    · exact mix_byt fac_byt h1
    · exact h1
end Ci

theorem list16 {l : List Nat} (h : l.length = 16) : ∃ a0 a1 a2 a3 a4 a5 a6 a7 a8 a9 a10 a11 a12 a13 a14 a15, l = [a0, a1, a2, a3, a4, a5, a6, a7, a8, a9, a10, a11, a12, a13, a14, a15] :=
  match l, h with
  | [a0, a1, a2, a3, a4, a5, a6, a7, a8, a9, a10, a11, a12, a13, a14, a15], _ => ⟨a0, a1, a2, a3, a4, a5, a6, a7, a8, a9, a10, a11, a12, a13, a14, a15, rfl⟩
theorem built_state {b : List Nat} (h : b.length = 16) : Try.prog.built 67 [(0, .agg (va .u8 b))] = some (va .u8 b) := by
  obtain ⟨a0, a1, a2, a3, a4, a5, a6, a7, a8, a9, a10, a11, a12, a13, a14, a15, rfl⟩ := list16 h
  kernel_rfl
theorem zeroState (w : World) : (zeroValue 67).run Try.prog w = .ok (.agg (va .u8 z16)) w := by kernel_rfl

theorem fold_state {b : List Nat} (h : b.length = 16) : Array.foldl (fun (cs : Array Value) (x : Value × Nat) => cs.setIfInBounds x.snd x.fst) (va .u8 z16) (va .u8 b).zipIdx 0 16 = va .u8 b := by
  obtain ⟨a0, a1, a2, a3, a4, a5, a6, a7, a8, a9, a10, a11, a12, a13, a14, a15, rfl⟩ := list16 h
  kernel_rfl

/-- the blocks of Encrypt and Decrypt -/
structure EnMem (G : Nat) (L b : List Nat) (w wr : World) : Prop where
  k : Blk wr G 50 (va .u8 L)
  r : Blk wr (G + 1 + 1) 22 (va .u8 z16)
  s : Blk wr (G + 1 + 1 + 1) 67 (va .u8 b)
  bel : Below G w wr
theorem EnMem.step {G : Nat} {L b b' : List Nat} {w wr w2 : World} (h : EnMem G L b w wr) (hs : StMem (G + 1 + 1 + 1) b' wr w2) : EnMem G L b' w w2 :=
  ⟨h.k.below hs.bel (by omega), h.r.below hs.bel (by omega), hs.s, h.bel.trans (hs.bel.mono (by omega))⟩
theorem EnMem.key {G : Nat} {L b : List Nat} {w wr : World} (h : EnMem G L b w wr) (k : Nat) : wr.rangeAt G (k * 16) (nv .u8 (Ci.ks L k)) := fun j v hv => h.k.part (k * 16) 16 j v hv

set_option maxHeartbeats 1600000 in
theorem encrypt_any (L b : List Nat) (hLl : L.length = 176) (hbl : b.length = 16) (hL : Ci.Byt L) (hb : Ci.Byt b) (w : World) :
    Calls Try.prog 19 #[.agg (va .u8 L), .agg (va .u8 b)] w fun e w' => e = .returned (.agg (va .u8 (Ci.enc L b))) ∧ Below w.heap.size w w' := by
  have hsz0 : (Try.prog.info? 22).map (·.size) = some (va .u8 b).size := by rw [va_size, hbl]; kernel_rfl
  have hsz := Lib.hid hsz0
  have hzv := zero16
  have hzs := zeroState
  have hvs : (va .u8 b).size = 16 := by rw [va_size, hbl]
  have hfold := fold_state hbl
  have hmf : ∀ (fn : Fn) (first cap : Array Value) (w : World), (Instr.makeFunc fn first cap).run Try.prog w = .ok (.func fn first cap) w := fun _ _ _ _ => rfl
  have hst := run_storeNew (P := Try.prog) (((w.alloc (.cells (va .u8 L) 50)).alloc (.cells (va .u8 b) 22)).alloc (.cells (va .u8 z16) 22)) 67 (va .u8 z16) .u8 b (by rw [va_size, hbl, z16_len])
  rw [show (((w.alloc (.cells (va .u8 L) 50)).alloc (.cells (va .u8 b) 22)).alloc (.cells (va .u8 z16) 22)).heap.size = w.heap.size + 1 + 1 + 1 from by simp] at hst
  have hm : EnMem w.heap.size L b w ((((w.alloc (.cells (va .u8 L) 50)).alloc (.cells (va .u8 b) 22)).alloc (.cells (va .u8 z16) 22)).alloc (.cells (va .u8 b) 67)) := by
    refine ⟨(((Blk.new _ _ _).alloc _).alloc _).alloc _, ?_, ?_, ((((Below.refl _ _).alloc (Nat.le_refl _) _).alloc (by simp) _).alloc (by simp <;> omega) _).alloc (by simp <;> omega) _⟩
    · exact Blk.alloc (by have := Blk.new ((w.alloc (.cells (va .u8 L) 50)).alloc (.cells (va .u8 b) 22)) 22 (va .u8 z16); simpa using this) _
    · have := Blk.new (((w.alloc (.cells (va .u8 L) 50)).alloc (.cells (va .u8 b) 22)).alloc (.cells (va .u8 z16) 22)) 67 (va .u8 b)
      simpa using this
  have hmm := Lib.hid hm
  clear hsz0 hm
  go_enter Try.func19, Try.ntmps19
  go_wp2_with (first
    | (refine wpList_load_row rfl 22 (.tmp 3) rfl (w.heap.size + 1) rfl 22 (va .u8 b) (0, 0) _ ?hq Try.underlying22 rfl hsz.out ?_
       case hq => exact Blk.alloc (by have := Blk.new (w.alloc (.cells (va .u8 L) 50)) 22 (va .u8 b); simpa using this) _)
    | (refine wpList_buildv rfl 67 _ rfl (va .u8 b) (built_state hbl) ?_)
    | (refine wpList_load_mid rfl 22 (.tmp 18) rfl w.heap.size 0 rfl (nv .u8 (Ci.ks L 0)) _ (hmm.out.key 0) Try.underlying22 rfl (by rw [nv_len, Ci.ks_len hLl 0 (by omega)]; kernel_rfl) ?_))
  refine (add_any (w.heap.size + 1 + 1 + 1) b (Ci.ks L 0) hbl (Ci.ks_len hLl 0 (by omega)) hb (Ci.ks_byt hL 0) _ hmm.out.s).mono ?_
  rintro e w1 ⟨rfl, hs1⟩
  have hm1 := Lib.hid (hmm.out.step hs1)
  clear hs1 hst hfold hzs hzv hvs hmf hmm
  go_wp2
  go_loopw [10] (fun s wr => ∃ k : Nat, k ≤ 10 ∧ s = .int .i64 ((k : Int) + 1) ∧ EnMem w.heap.size L (Ci.encS L b k) w wr) (fun s _ => 11 - (intOf s).toNat)
  case atStart => exact ⟨0, by omega, rfl, hm1.out⟩
  case round =>
    clear hm1
    obtain ⟨k, hk, rfl, hmem⟩ := hrel
    by_cases hlt : k < 10
    · have hltI : (k : Int) + 1 ≤ 10 := by omega
      have hmm := Lib.hid hmem
      clear hmem
      go_wp2_with fail
      refine (each_sub (w.heap.size + 1 + 1 + 1) (Ci.encS L b k) (Ci.encS_len L b k) (Ci.encS_byt hL hb k) _ hmm.out.s).mono ?_
      rintro e w2 ⟨rfl, hs2⟩
      have hm2 := Lib.hid (hmm.out.step hs2)
      clear hs2 hmm
      go_wp2_with fail
      refine (rotate1_any (w.heap.size + 1 + 1 + 1) (Ci.each Gf.sub (Ci.encS L b k)) (Ci.each_len _ _) (Ci.each_byt Gf.sub_lt _) _ hm2.out.s).mono ?_
      rintro e w3 ⟨rfl, hs3⟩
      have hm3 := Lib.hid (hm2.out.step hs3)
      clear hs3 hm2
      by_cases h10 : k + 1 < 10
      · have h10I : (k : Int) + 1 < 10 := by omega
        go_wp2_with fail
        refine (mix_any (w.heap.size + 1 + 1 + 1) [2, 3, 1, 1] (Ci.rot 1 (Ci.each Gf.sub (Ci.encS L b k))) rfl (Ci.rot_len _ _) Ci.fac_byt (Ci.rot_byt (Ci.each_byt Gf.sub_lt _)) _ hm3.out.s).mono ?_
        rintro e w4 ⟨rfl, hs4⟩
        have hm4 := Lib.hid (hm3.out.step hs4)
        clear hs4 hm3
        go_wp2_with (refine wpList_load_mid rfl 22 (.tmp 36) rfl w.heap.size ((k + 1) * 16) rfl (nv .u8 (Ci.ks L (k + 1))) _ (hm4.out.key (k + 1)) Try.underlying22 rfl (by rw [nv_len, Ci.ks_len hLl (k + 1) (by omega)]; kernel_rfl) ?_)
        refine (add_any (w.heap.size + 1 + 1 + 1) (Ci.mix [2, 3, 1, 1] (Ci.rot 1 (Ci.each Gf.sub (Ci.encS L b k)))) (Ci.ks L (k + 1)) (Ci.mix_len _ _) (Ci.ks_len hLl (k + 1) (by omega)) (Ci.mix_byt Ci.fac_byt (Ci.rot_byt (Ci.each_byt Gf.sub_lt _))) (Ci.ks_byt hL _) _ hm4.out.s).mono ?_
        rintro e w5 ⟨rfl, hs5⟩
        have hm5 := hm4.out.step hs5
        have he : Ci.addK (Ci.mix [2, 3, 1, 1] (Ci.rot 1 (Ci.each Gf.sub (Ci.encS L b k)))) (Ci.ks L (k + 1)) = Ci.encS L b (k + 1) := by
          show _ = Ci.addK (if k + 1 < 10 then _ else _) _
          rw [if_pos h10]
        rw [he] at hm5
        have hm6 := Lib.hid hm5
        clear hs5 hm4 hm5 he
        go_wp2
        go_roundw
        case rel => exact ⟨k + 1, by omega, by go_num, hm6.out⟩
        case measure => simp [intOf]; omega
      · have h10I : 10 ≤ (k : Int) + 1 := by omega
        go_wp2_with (refine wpList_load_mid rfl 22 (.tmp 36) rfl w.heap.size ((k + 1) * 16) rfl (nv .u8 (Ci.ks L (k + 1))) _ (hm3.out.key (k + 1)) Try.underlying22 rfl (by rw [nv_len, Ci.ks_len hLl (k + 1) (by omega)]; kernel_rfl) ?_)
        refine (add_any (w.heap.size + 1 + 1 + 1) (Ci.rot 1 (Ci.each Gf.sub (Ci.encS L b k))) (Ci.ks L (k + 1)) (Ci.rot_len _ _) (Ci.ks_len hLl (k + 1) (by omega)) (Ci.rot_byt (Ci.each_byt Gf.sub_lt _)) (Ci.ks_byt hL _) _ hm3.out.s).mono ?_
        rintro e w5 ⟨rfl, hs5⟩
        have hm5 := hm3.out.step hs5
        have he : Ci.addK (Ci.rot 1 (Ci.each Gf.sub (Ci.encS L b k))) (Ci.ks L (k + 1)) = Ci.encS L b (k + 1) := by
          show _ = Ci.addK (if k + 1 < 10 then _ else _) _
          rw [if_neg h10]
        rw [he] at hm5
        have hm6 := Lib.hid hm5
        clear hs5 hm3 hm5 he
        go_wp2
        go_roundw
        case rel => exact ⟨k + 1, by omega, by go_num, hm6.out⟩
        case measure => simp [intOf]; omega
    · obtain rfl : k = 10 := by omega
      have hel : (Ci.encS L b 10).length = 16 := Ci.encS_len L b 10
      have hsz0 : (Try.prog.info? 22).map (·.size) = some (va .u8 (Ci.encS L b 10)).size := by rw [va_size, hel]; kernel_rfl
      have hszE := Lib.hid hsz0
      have hst := run_storeBlk (P := Try.prog) hmem.r .u8 (Ci.encS L b 10) (by rw [va_size, z16_len, hel])
      have hvs : (va .u8 (Ci.encS L b 10)).size = 16 := by rw [va_size, hel]
      have hmm := Lib.hid hmem
      clear hsz0 hmem hel
      go_wp2_with (refine wpList_load_row rfl 22 (.tmp 39) rfl (w.heap.size + 1 + 1 + 1) rfl 67 (va .u8 (Ci.encS L b 10)) (0, 0) _ hmm.out.s Try.underlying22 rfl hszE.out ?_)
      exact bodyPost_ret (results_cell_row rfl _ _ (w.heap.size + 1 + 1) 22 (va .u8 (Ci.encS L b 10)) (0, 0) _ rfl (hmm.out.r.row _) Try.underlying22 rfl hszE.out) rfl ⟨rfl, below_setRow hmm.out.bel (by omega) _⟩
end Go.Proofs.Ytpcdckhabaoieaa

/-
  The walk of ciphers.Decrypt.
-/
namespace Go.Proofs.Ytpcdckhabaoieaa
open Go.RowKit

namespace Ci
def decS (L b : List Nat) : Nat → List Nat
  | 0 => b
  | j + 1 => each Gf.back (rot 3 (if 10 - j < 10 then mix [14, 11, 13, 9] (addK (decS L b j) (ks L (10 - j))) else addK (decS L b j) (ks L (10 - j))))
def dec (L b : List Nat) : List Nat := addK (decS L b 10) (ks L 0)
theorem fac2_byt : Byt [14, 11, 13, 9] := by intro x hx; simp at hx; omega
theorem back_lt (a : Nat) : Gf.back a < 256 := Nat.mod_lt _ (by omega)
theorem decS_len (L b : List Nat) (hb : b.length = 16) : ∀ j, (decS L b j).length = 16
  | 0 => hb
  | _ + 1 => each_len _ _
theorem decS_byt {L b : List Nat} (hb : Byt b) : ∀ j, Byt (decS L b j)
  | 0 => hb
  | _ + 1 => each_byt back_lt _
end Ci

end Go.Proofs.Ytpcdckhabaoieaa

/-
  Walks of caissonlaw06.words and caissonlaw06.rising.
-/
namespace Go.Proofs.Ytpcdckhabaoieaa
open Go.RowKit

def z176 : List Nat := List.replicate 176 0
theorem z176_len : z176.length = 176 := List.length_replicate ..
theorem zeroWords (w : World) : (zeroValue 75).run Try.prog w = .ok (.agg (va .u8 z176)) w := by kernel_rfl


end Go.Proofs.Ytpcdckhabaoieaa

/-
  The walk of caissonlaw06.rising.
-/
namespace Go.Proofs.Ytpcdckhabaoieaa
open Go.RowKit

def risL (by_ : Nat) : List Nat := (List.range 16).map fun i => by_ * i % 256


end Go.Proofs.Ytpcdckhabaoieaa

/-
  The expanded key, plainly.
-/
namespace Go.Proofs.Ytpcdckhabaoieaa.Ci

def tw (b : List Nat) (K j : Nat) : Nat := Gf.sub (b.getD (12 + (j + 1) % 4) 0) ^^^ (if j = 0 then Gf.pw 2 K else 0)
def col (b : List Nat) (K j : Nat) : Nat → Nat
  | 0 => tw b K j ^^^ b.getD j 0
  | q + 1 => col b K j q ^^^ b.getD (4 * (q + 1) + j) 0
def rowE (key : List Nat) : Nat → List Nat
  | 0 => key
  | K + 1 => (List.range 16).map fun i => col (rowE key K) K (i % 4) (i / 4)
def exF (key : List Nat) (n : Nat) : Nat := (rowE key (n / 16)).getD (n % 16) 0
def exL (key : List Nat) : List Nat := (List.range 176).map (exF key)
/-- the word after i steps -/
def wd (b : List Nat) (K i : Nat) : List Nat := (List.range 4).map fun j => match (i + 3 - j) / 4 with
  | 0 => tw b K j
  | q + 1 => col b K j q
theorem wd_step (b : List Nat) (K : Nat) : ∀ i, i < 16 → (wd b K i).set (i % 4) (col b K (i % 4) (i / 4)) = wd b K (i + 1) ∧ (wd b K i).getD (i % 4) 0 ^^^ b.getD i 0 = col b K (i % 4) (i / 4)
  | 0, _ => ⟨rfl, rfl⟩
  | 1, _ => ⟨rfl, rfl⟩
  | 2, _ => ⟨rfl, rfl⟩
  | 3, _ => ⟨rfl, rfl⟩
  | 4, _ => ⟨rfl, rfl⟩
  | 5, _ => ⟨rfl, rfl⟩
  | 6, _ => ⟨rfl, rfl⟩
  | 7, _ => ⟨rfl, rfl⟩
  | 8, _ => ⟨rfl, rfl⟩
  | 9, _ => ⟨rfl, rfl⟩
  | 10, _ => ⟨rfl, rfl⟩
  | 11, _ => ⟨rfl, rfl⟩
  | 12, _ => ⟨rfl, rfl⟩
  | 13, _ => ⟨rfl, rfl⟩
  | 14, _ => ⟨rfl, rfl⟩
  | 15, _ => ⟨rfl, rfl⟩
  | n + 16, h => by omega
theorem wd_zero (b : List Nat) (K : Nat) : wd b K 0 = [Gf.sub (b.getD 13 0) ^^^ Gf.pw 2 K, Gf.sub (b.getD 14 0), Gf.sub (b.getD 15 0), Gf.sub (b.getD 12 0)] := by
  show [_, Gf.sub (b.getD 14 0) ^^^ 0, Gf.sub (b.getD 15 0) ^^^ 0, Gf.sub (b.getD 12 0) ^^^ 0] = _
  simp only [Nat.xor_zero]
  rfl
theorem wd_len (b : List Nat) (K i : Nat) : (wd b K i).length = 4 := by simp [wd]
theorem tw_lt (b : List Nat) (K j : Nat) : tw b K j < 256 := by
  unfold tw
  refine Nat.xor_lt_two_pow (n := 8) (Gf.sub_lt _) ?_
  split
  · exact Gf.pw_lt 2 K (by omega)
  · omega
theorem col_lt {b : List Nat} (hb : Byt b) (K j : Nat) : ∀ q, col b K j q < 256
  | 0 => Nat.xor_lt_two_pow (n := 8) (tw_lt b K j) (hb.get _)
  | q + 1 => Nat.xor_lt_two_pow (n := 8) (col_lt hb K j q) (hb.get _)
theorem wd_byt {b : List Nat} (hb : Byt b) (K i : Nat) : Byt (wd b K i) := byt_map fun j _ => by
  split
  · exact tw_lt b K j
  · exact col_lt hb K j _
theorem rowE_len {key : List Nat} (h : key.length = 16) : ∀ K, (rowE key K).length = 16
  | 0 => h
  | _ + 1 => by simp [rowE]
theorem rowE_byt {key : List Nat} (h : Byt key) : ∀ K, Byt (rowE key K)
  | 0 => h
  | K + 1 => byt_map fun _ _ => col_lt (rowE_byt h K) _ _ _
theorem exF_row (key : List Nat) (K i : Nat) (hi : i < 16) : exF key (16 * K + i) = (rowE key K).getD i 0 := by
  unfold exF
  rw [show (16 * K + i) / 16 = K from by omega, show (16 * K + i) % 16 = i from by omega]
theorem exF_next (key : List Nat) (K i : Nat) (hi : i < 16) : exF key (16 * (K + 1) + i) = col (rowE key K) K (i % 4) (i / 4) := by
  rw [exF_row key (K + 1) i hi]
  simp [rowE, List.getD_eq_getElem?_getD, hi]
theorem exL_len (key : List Nat) : (exL key).length = 176 := by simp [exL]
theorem exF_lt {key : List Nat} (h : Byt key) (n : Nat) : exF key n < 256 := (rowE_byt h _).get _
theorem exL_byt {key : List Nat} (h : Byt key) : Byt (exL key) := byt_map fun n _ => exF_lt h n
/-- a row of what is written -/
theorem upd_row (key z : List Nat) (hz : z.length = 176) (hk : key.length = 16) (K n : Nat) (hn : 16 * (K + 1) ≤ n) (hn2 : n ≤ 176) : ((upd (exF key) z n).drop (K * 16)).take 16 = rowE key K := by
  apply List.ext_getElem
  · simp [upd_len, hz, rowE_len hk]; omega
  · intro i h1 h2
    have hi : i < 16 := by rw [rowE_len hk] at h2; exact h2
    have e := upd_get (exF key) z n (K * 16 + i) (by omega)
    rw [if_pos (by omega), show K * 16 + i = 16 * K + i from by omega, exF_row key K i hi] at e
    rw [List.getElem_take, List.getElem_drop]
    have h3 : K * 16 + i < (upd (exF key) z n).length := by rw [upd_len]; omega
    simp only [List.getD_eq_getElem?_getD, List.getElem?_eq_getElem h2] at e
    rw [show 16 * K + i = K * 16 + i from by omega, List.getElem?_eq_getElem h3] at e
    simpa using e
theorem upd_first (key z : List Nat) (hz : z.length = 176) (hk : key.length = 16) : key ++ z.drop 16 = upd (exF key) z 16 := by
  apply List.ext_getElem
  · simp [upd_len, hz, hk]
  · intro i h1 h2
    have hi : i < 176 := by rw [upd_len] at h2; omega
    simp only [upd, List.getElem_map, List.getElem_range]
    rw [List.getElem_append]
    split
    · rename_i h
      rw [if_pos (by omega)]
      have e := exF_row key 0 i (by omega)
      simp only [Nat.mul_zero, Nat.zero_add] at e
      rw [e]
      show _ = key.getD i 0
      simp [List.getD_eq_getElem?_getD, h]
    · rename_i h
      rw [if_neg (by omega)]
      rw [List.getElem_drop]
      simp [List.getD_eq_getElem?_getD, hk, show 16 + (i - 16) = i from by omega, show i < z.length from by omega]
theorem exL_all (key z : List Nat) (hz : z.length = 176) : upd (exF key) z 176 = exL key := by
  rw [upd_all _ _ _ (by omega), hz]; rfl
end Go.Proofs.Ytpcdckhabaoieaa.Ci

/-
  The expanded key by words, plainly: what the reference computes is the expanded key.
-/
namespace Go.Proofs.Ytpcdckhabaoieaa.Ci

def pv (key : List Nat) (i j : Nat) : Nat := exF key (4 * (i - 1) + j)
def pvL (key : List Nat) (i : Nat) : List Nat := [pv key i 0, pv key i 1, pv key i 2, pv key i 3]
def tWord (key : List Nat) (i : Nat) : List Nat := if i % 4 = 0 then [Gf.sub (pv key i 1) ^^^ Gf.pw 2 ((i - 1) / 4), Gf.sub (pv key i 2), Gf.sub (pv key i 3), Gf.sub (pv key i 0)] else pvL key i
theorem tWord_len (key : List Nat) (i : Nat) : (tWord key i).length = 4 := by unfold tWord; split <;> rfl
theorem pv_lt {key : List Nat} (h : Byt key) (i j : Nat) : pv key i j < 256 := exF_lt h _
theorem tWord_byt {key : List Nat} (h : Byt key) (i : Nat) : Byt (tWord key i) := by
  have p := pv_lt h i
  intro x hx
  unfold tWord at hx
  split at hx
  · simp only [List.mem_cons, List.not_mem_nil, or_false] at hx
    rcases hx with rfl | rfl | rfl | rfl
    · exact Nat.xor_lt_two_pow (n := 8) (Gf.sub_lt _) (Gf.pw_lt 2 _ (by omega))
    all_goals exact Gf.sub_lt _
  · simp only [pvL, List.mem_cons, List.not_mem_nil, or_false] at hx
    rcases hx with rfl | rfl | rfl | rfl
    all_goals exact p _
theorem pv_first (key : List Nat) (K j : Nat) (hj : j < 4) : pv key (4 * (K + 1)) j = (rowE key K).getD (12 + j) 0 := by
  unfold pv
  rw [show 4 * (4 * (K + 1) - 1) + j = 16 * K + (12 + j) from by omega]
  exact exF_row key K _ (by omega)
theorem pv_next (key : List Nat) (K q j : Nat) (hq : q < 3) (hj : j < 4) : pv key (4 * (K + 1) + (q + 1)) j = col (rowE key K) K j q := by
  unfold pv
  rw [show 4 * (4 * (K + 1) + (q + 1) - 1) + j = 16 * (K + 1) + (4 * q + j) from by omega]
  rw [exF_next key K _ (by omega), show (4 * q + j) % 4 = j from by omega, show (4 * q + j) / 4 = q from by omega]
theorem word_next (key : List Nat) (i k : Nat) (h4 : 4 ≤ i) (hk : k < 4) : exF key (4 * (i - 4) + k) ^^^ (tWord key i).getD k 0 = exF key (4 * i + k) := by
  obtain ⟨K, q, hq, rfl⟩ : ∃ K q, q < 4 ∧ i = 4 * (K + 1) + q := ⟨i / 4 - 1, i % 4, by omega, by omega⟩
  rw [show 4 * (4 * (K + 1) + q - 4) + k = 16 * K + (4 * q + k) from by omega, exF_row key K _ (by omega)]
  rw [show 4 * (4 * (K + 1) + q) + k = 16 * (K + 1) + (4 * q + k) from by omega, exF_next key K _ (by omega)]
  rw [show (4 * q + k) % 4 = k from by omega, show (4 * q + k) / 4 = q from by omega]
  rcases q with _ | q
  · unfold tWord
    rw [if_pos (by omega)]
    simp only [Nat.add_zero]
    rw [pv_first key K 0 (by omega), pv_first key K 1 (by omega), pv_first key K 2 (by omega), pv_first key K 3 (by omega), show (4 * (K + 1) - 1) / 4 = K from by omega]
    simp only [col, Nat.mul_zero, Nat.zero_add]
    rw [Nat.xor_comm]
    refine congrArg (· ^^^ _) ?_
    rcases k with _ | _ | _ | _ | k
    · simp [tw]
    · simp [tw]
    · simp [tw]
    · simp [tw]
    · omega
  · unfold tWord
    rw [if_neg (by omega)]
    simp only [pvL]
    rw [pv_next key K q 0 (by omega) (by omega), pv_next key K q 1 (by omega) (by omega), pv_next key K q 2 (by omega) (by omega), pv_next key K q 3 (by omega) (by omega)]
    simp only [col]
    rw [Nat.xor_comm]
    refine congrArg (· ^^^ _) ?_
    rcases k with _ | _ | _ | _ | k
    · rfl
    · rfl
    · rfl
    · rfl
    · omega
theorem word_key {key : List Nat} (i k : Nat) (hi : i < 4) (hk : k < 4) : exF key (4 * i + k) = key.getD (4 * i + k) 0 := by
  have e := exF_row key 0 (4 * i + k) (by omega)
  rw [show 16 * 0 + (4 * i + k) = 4 * i + k from by omega] at e
  exact e
theorem pvL_part (key z : List Nat) (n i : Nat) (h1 : 1 ≤ i) (hn : 4 * i ≤ n) (hz : 4 * i ≤ z.length) : ((upd (exF key) z n).drop ((i - 1) * 4)).take 4 = pvL key i := by
  apply List.ext_getElem
  · simp [upd_len, pvL]; omega
  · intro j h1' h2
    have hj : j < 4 := h2
    rw [List.getElem_take, List.getElem_drop]
    have e := upd_get (exF key) z n ((i - 1) * 4 + j) (by omega)
    rw [if_pos (by omega)] at e
    have h3 : (i - 1) * 4 + j < (upd (exF key) z n).length := by rw [upd_len]; omega
    rw [List.getD_eq_getElem?_getD, List.getElem?_eq_getElem h3] at e
    simp only [Option.getD_some] at e
    rw [e, show (i - 1) * 4 + j = 4 * (i - 1) + j from by omega]
    rcases j with _ | _ | _ | _ | j
    · rfl
    · rfl
    · rfl
    · rfl
    · omega
/-- the factor's power -/
theorem pow_keep (i : Nat) (h : i % 4 ≠ 0) : (i - 1) / 4 = (i + 1 - 1) / 4 := by omega
theorem pow_next (i : Nat) (h : i % 4 = 0) (h4 : 4 ≤ i) : Gf.gm (Gf.pw 2 ((i - 1) / 4)) 2 = Gf.pw 2 ((i + 1 - 1) / 4) := by
  rw [show (i + 1 - 1) / 4 = (i - 1) / 4 + 1 from by omega]
  rfl
end Go.Proofs.Ytpcdckhabaoieaa.Ci
namespace Go.Proofs.Ytpcdckhabaoieaa
open Go.RowKit
/-! blocks of four bytes -/
def z4 : List Nat := List.replicate 4 0
theorem z4_len : z4.length = 4 := rfl
theorem zero4 (w : World) : (zeroValue 63).run Try.prog w = .ok (.agg (va .u8 z4)) w := by kernel_rfl
theorem fourCells {w : World} {N : Nat} {t : TypeId} {a b c d : Value} (h : Blk w N t #[a, b, c, d]) : w.cell? ⟨N, 0, none⟩ = some a ∧ w.cell? ⟨N, 1, none⟩ = some b ∧ w.cell? ⟨N, 2, none⟩ = some c ∧ w.cell? ⟨N, 3, none⟩ = some d :=
  ⟨h.cell 0, h.cell 1, h.cell 2, h.cell 3⟩
theorem fourFree {w : World} {g : Nat} {t : TypeId} {cs : Array Value} (h : Blk w g t cs) :
    w.frozen? ⟨g, 0, none⟩ = false ∧ w.frozen? ⟨g, 1, none⟩ = false ∧ w.frozen? ⟨g, 2, none⟩ = false ∧ w.frozen? ⟨g, 3, none⟩ = false :=
  ⟨h.frozen 0, h.frozen 1, h.frozen 2, h.frozen 3⟩
end Go.Proofs.Ytpcdckhabaoieaa
