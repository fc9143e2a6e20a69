/-
  Walks through package ciphers: Encrypt and Decrypt.
-/
import Derived.Test.YtpcdckhabaoieaaCWalk2
import Derived.Test.YtpcdckhabaoieaaCWalk4
import Derived.Deep.MidRow
import Derived.Test.YtpcdckhabaoieaaStr
namespace Go.Proofs.Ytpcdckhabaoieaa
open Go.RowKit

namespace Ci
def ks (L : List Nat) (k : Nat) : List Nat := (L.drop (k * 16)).take 16
def encS (L b : List Nat) : Nat → List Nat
  | 0 => addK b (ks L 0)
  | k + 1 => addK (if k + 1 < 10 then mix [2, 3, 1, 1] (rot 1 (each Gf.sub (encS L b k))) else rot 1 (each Gf.sub (encS L b k))) (ks L (k + 1))
def enc (L b : List Nat) : List Nat := encS L b 10
theorem ks_len {L : List Nat} (hL : L.length = 176) (k : Nat) (hk : k ≤ 10) : (ks L k).length = 16 := by simp [ks]; omega
theorem ks_byt {L : List Nat} (hL : Byt L) (k : Nat) : Byt (ks L k) := fun x hx => hL x (List.mem_of_mem_drop (List.mem_of_mem_take hx))
theorem each_byt {s : Nat → Nat} (hs : ∀ a, s a < 256) (b : List Nat) : Byt (each s b) := byt_map fun _ _ => hs _
theorem fac_byt : Byt [2, 3, 1, 1] := by intro x hx; simp at hx; omega
theorem encS_len (L b : List Nat) : ∀ k, (encS L b k).length = 16
  | 0 => addK_len _ _
  | _ + 1 => addK_len _ _
theorem encS_byt {L b : List Nat} (hL : Byt L) (hb : Byt b) : ∀ k, Byt (encS L b k)
  | 0 => addK_byt hb (ks_byt hL 0)
  | k + 1 => by
    refine addK_byt ?_ (ks_byt hL _)
    have h1 : Byt (rot 1 (each Gf.sub (encS L b k))) := rot_byt (each_byt Gf.sub_lt _)
    split
    · exact mix_byt fac_byt h1
    · exact h1
end Ci

theorem list16 {l : List Nat} (h : l.length = 16) : ∃ a0 a1 a2 a3 a4 a5 a6 a7 a8 a9 a10 a11 a12 a13 a14 a15, l = [a0, a1, a2, a3, a4, a5, a6, a7, a8, a9, a10, a11, a12, a13, a14, a15] :=
  match l, h with
  | [a0, a1, a2, a3, a4, a5, a6, a7, a8, a9, a10, a11, a12, a13, a14, a15], _ => ⟨a0, a1, a2, a3, a4, a5, a6, a7, a8, a9, a10, a11, a12, a13, a14, a15, rfl⟩
theorem built_state {b : List Nat} (h : b.length = 16) : Try.prog.built 67 [(0, .agg (va .u8 b))] = some (va .u8 b) := by
  obtain ⟨a0, a1, a2, a3, a4, a5, a6, a7, a8, a9, a10, a11, a12, a13, a14, a15, rfl⟩ := list16 h
  kernel_rfl
theorem zeroState (w : World) : (zeroValue 67).run Try.prog w = .ok (.agg (va .u8 z16)) w := by kernel_rfl

theorem fold_state {b : List Nat} (h : b.length = 16) : Array.foldl (fun (cs : Array Value) (x : Value × Nat) => cs.setIfInBounds x.snd x.fst) (va .u8 z16) (va .u8 b).zipIdx 0 16 = va .u8 b := by
  obtain ⟨a0, a1, a2, a3, a4, a5, a6, a7, a8, a9, a10, a11, a12, a13, a14, a15, rfl⟩ := list16 h
  kernel_rfl

/-- the blocks of Encrypt and Decrypt -/
structure EnMem (G : Nat) (L b : List Nat) (w wr : World) : Prop where
  k : Blk wr G 50 (va .u8 L)
  r : Blk wr (G + 1 + 1) 22 (va .u8 z16)
  s : Blk wr (G + 1 + 1 + 1) 67 (va .u8 b)
  bel : Below G w wr
theorem EnMem.step {G : Nat} {L b b' : List Nat} {w wr w2 : World} (h : EnMem G L b w wr) (hs : StMem (G + 1 + 1 + 1) b' wr w2) : EnMem G L b' w w2 :=
  ⟨h.k.below hs.bel (by omega), h.r.below hs.bel (by omega), hs.s, h.bel.trans (hs.bel.mono (by omega))⟩
theorem EnMem.key {G : Nat} {L b : List Nat} {w wr : World} (h : EnMem G L b w wr) (k : Nat) : wr.rangeAt G (k * 16) (nv .u8 (Ci.ks L k)) := fun j v hv => h.k.part (k * 16) 16 j v hv

set_option maxHeartbeats 1600000 in
theorem encrypt_any (L b : List Nat) (hLl : L.length = 176) (hbl : b.length = 16) (hL : Ci.Byt L) (hb : Ci.Byt b) (w : World) :
    Calls Try.prog 19 #[.agg (va .u8 L), .agg (va .u8 b)] w fun e w' => e = .returned (.agg (va .u8 (Ci.enc L b))) ∧ Below w.heap.size w w' := by
  have hsz0 : (Try.prog.info? 22).map (·.size) = some (va .u8 b).size := by rw [va_size, hbl]; kernel_rfl
  have hsz := Lib.hid hsz0
  have hzv := zero16
  have hzs := zeroState
  have hvs : (va .u8 b).size = 16 := by rw [va_size, hbl]
  have hfold := fold_state hbl
  have hmf : ∀ (fn : Fn) (first cap : Array Value) (w : World), (Instr.makeFunc fn first cap).run Try.prog w = .ok (.func fn first cap) w := fun _ _ _ _ => rfl
  have hst := run_storeNew (P := Try.prog) (((w.alloc (.cells (va .u8 L) 50)).alloc (.cells (va .u8 b) 22)).alloc (.cells (va .u8 z16) 22)) 67 (va .u8 z16) .u8 b (by rw [va_size, hbl, z16_len])
  rw [show (((w.alloc (.cells (va .u8 L) 50)).alloc (.cells (va .u8 b) 22)).alloc (.cells (va .u8 z16) 22)).heap.size = w.heap.size + 1 + 1 + 1 from by simp] at hst
  have hm : EnMem w.heap.size L b w ((((w.alloc (.cells (va .u8 L) 50)).alloc (.cells (va .u8 b) 22)).alloc (.cells (va .u8 z16) 22)).alloc (.cells (va .u8 b) 67)) := by
    refine ⟨(((Blk.new _ _ _).alloc _).alloc _).alloc _, ?_, ?_, ((((Below.refl _ _).alloc (Nat.le_refl _) _).alloc (by simp) _).alloc (by simp <;> omega) _).alloc (by simp <;> omega) _⟩
    · exact Blk.alloc (by have := Blk.new ((w.alloc (.cells (va .u8 L) 50)).alloc (.cells (va .u8 b) 22)) 22 (va .u8 z16); simpa using this) _
    · have := Blk.new (((w.alloc (.cells (va .u8 L) 50)).alloc (.cells (va .u8 b) 22)).alloc (.cells (va .u8 z16) 22)) 67 (va .u8 b)
      simpa using this
  have hmm := Lib.hid hm
  clear hsz0 hm
  go_enter Try.func19, Try.ntmps19
  go_wp2_with (first
    | (refine wpList_load_row rfl 22 (.tmp 3) rfl (w.heap.size + 1) rfl 22 (va .u8 b) (0, 0) _ ?hq Try.underlying22 rfl hsz.out ?_
       case hq => exact Blk.alloc (by have := Blk.new (w.alloc (.cells (va .u8 L) 50)) 22 (va .u8 b); simpa using this) _)
    | (refine wpList_buildv rfl 67 _ rfl (va .u8 b) (built_state hbl) ?_)
    | (refine wpList_load_mid rfl 22 (.tmp 18) rfl w.heap.size 0 rfl (nv .u8 (Ci.ks L 0)) _ (hmm.out.key 0) Try.underlying22 rfl (by rw [nv_len, Ci.ks_len hLl 0 (by omega)]; kernel_rfl) ?_))
  refine (add_any (w.heap.size + 1 + 1 + 1) b (Ci.ks L 0) hbl (Ci.ks_len hLl 0 (by omega)) hb (Ci.ks_byt hL 0) _ hmm.out.s).mono ?_
  rintro e w1 ⟨rfl, hs1⟩
  have hm1 := Lib.hid (hmm.out.step hs1)
  clear hs1 hst hfold hzs hzv hvs hmf hmm
  go_wp2
  go_loopw [10] (fun s wr => ∃ k : Nat, k ≤ 10 ∧ s = .int .i64 ((k : Int) + 1) ∧ EnMem w.heap.size L (Ci.encS L b k) w wr) (fun s _ => 11 - (intOf s).toNat)
  case atStart => exact ⟨0, by omega, rfl, hm1.out⟩
  case round =>
    clear hm1
    obtain ⟨k, hk, rfl, hmem⟩ := hrel
    by_cases hlt : k < 10
    · have hltI : (k : Int) + 1 ≤ 10 := by omega
      have hmm := Lib.hid hmem
      clear hmem
      go_wp2_with fail
      refine (each_sub (w.heap.size + 1 + 1 + 1) (Ci.encS L b k) (Ci.encS_len L b k) (Ci.encS_byt hL hb k) _ hmm.out.s).mono ?_
      rintro e w2 ⟨rfl, hs2⟩
      have hm2 := Lib.hid (hmm.out.step hs2)
      clear hs2 hmm
      go_wp2_with fail
      refine (rotate1_any (w.heap.size + 1 + 1 + 1) (Ci.each Gf.sub (Ci.encS L b k)) (Ci.each_len _ _) (Ci.each_byt Gf.sub_lt _) _ hm2.out.s).mono ?_
      rintro e w3 ⟨rfl, hs3⟩
      have hm3 := Lib.hid (hm2.out.step hs3)
      clear hs3 hm2
      by_cases h10 : k + 1 < 10
      · have h10I : (k : Int) + 1 < 10 := by omega
        go_wp2_with fail
        refine (mix_any (w.heap.size + 1 + 1 + 1) [2, 3, 1, 1] (Ci.rot 1 (Ci.each Gf.sub (Ci.encS L b k))) rfl (Ci.rot_len _ _) Ci.fac_byt (Ci.rot_byt (Ci.each_byt Gf.sub_lt _)) _ hm3.out.s).mono ?_
        rintro e w4 ⟨rfl, hs4⟩
        have hm4 := Lib.hid (hm3.out.step hs4)
        clear hs4 hm3
        go_wp2_with (refine wpList_load_mid rfl 22 (.tmp 36) rfl w.heap.size ((k + 1) * 16) rfl (nv .u8 (Ci.ks L (k + 1))) _ (hm4.out.key (k + 1)) Try.underlying22 rfl (by rw [nv_len, Ci.ks_len hLl (k + 1) (by omega)]; kernel_rfl) ?_)
        refine (add_any (w.heap.size + 1 + 1 + 1) (Ci.mix [2, 3, 1, 1] (Ci.rot 1 (Ci.each Gf.sub (Ci.encS L b k)))) (Ci.ks L (k + 1)) (Ci.mix_len _ _) (Ci.ks_len hLl (k + 1) (by omega)) (Ci.mix_byt Ci.fac_byt (Ci.rot_byt (Ci.each_byt Gf.sub_lt _))) (Ci.ks_byt hL _) _ hm4.out.s).mono ?_
        rintro e w5 ⟨rfl, hs5⟩
        have hm5 := hm4.out.step hs5
        have he : Ci.addK (Ci.mix [2, 3, 1, 1] (Ci.rot 1 (Ci.each Gf.sub (Ci.encS L b k)))) (Ci.ks L (k + 1)) = Ci.encS L b (k + 1) := by
          show _ = Ci.addK (if k + 1 < 10 then _ else _) _
          rw [if_pos h10]
        rw [he] at hm5
        have hm6 := Lib.hid hm5
        clear hs5 hm4 hm5 he
        go_wp2
        go_roundw
        case rel => exact ⟨k + 1, by omega, by go_num, hm6.out⟩
        case measure => simp [intOf]; omega
      · have h10I : 10 ≤ (k : Int) + 1 := by omega
        go_wp2_with (refine wpList_load_mid rfl 22 (.tmp 36) rfl w.heap.size ((k + 1) * 16) rfl (nv .u8 (Ci.ks L (k + 1))) _ (hm3.out.key (k + 1)) Try.underlying22 rfl (by rw [nv_len, Ci.ks_len hLl (k + 1) (by omega)]; kernel_rfl) ?_)
        refine (add_any (w.heap.size + 1 + 1 + 1) (Ci.rot 1 (Ci.each Gf.sub (Ci.encS L b k))) (Ci.ks L (k + 1)) (Ci.rot_len _ _) (Ci.ks_len hLl (k + 1) (by omega)) (Ci.rot_byt (Ci.each_byt Gf.sub_lt _)) (Ci.ks_byt hL _) _ hm3.out.s).mono ?_
        rintro e w5 ⟨rfl, hs5⟩
        have hm5 := hm3.out.step hs5
        have he : Ci.addK (Ci.rot 1 (Ci.each Gf.sub (Ci.encS L b k))) (Ci.ks L (k + 1)) = Ci.encS L b (k + 1) := by
          show _ = Ci.addK (if k + 1 < 10 then _ else _) _
          rw [if_neg h10]
        rw [he] at hm5
        have hm6 := Lib.hid hm5
        clear hs5 hm3 hm5 he
        go_wp2
        go_roundw
        case rel => exact ⟨k + 1, by omega, by go_num, hm6.out⟩
        case measure => simp [intOf]; omega
    · obtain rfl : k = 10 := by omega
      have hel : (Ci.encS L b 10).length = 16 := Ci.encS_len L b 10
      have hsz0 : (Try.prog.info? 22).map (·.size) = some (va .u8 (Ci.encS L b 10)).size := by rw [va_size, hel]; kernel_rfl
      have hszE := Lib.hid hsz0
      have hst := run_storeBlk (P := Try.prog) hmem.r .u8 (Ci.encS L b 10) (by rw [va_size, z16_len, hel])
      have hvs : (va .u8 (Ci.encS L b 10)).size = 16 := by rw [va_size, hel]
      have hmm := Lib.hid hmem
      clear hsz0 hmem hel
      go_wp2_with (refine wpList_load_row rfl 22 (.tmp 39) rfl (w.heap.size + 1 + 1 + 1) rfl 67 (va .u8 (Ci.encS L b 10)) (0, 0) _ hmm.out.s Try.underlying22 rfl hszE.out ?_)
      exact bodyPost_ret (results_cell_row rfl _ _ (w.heap.size + 1 + 1) 22 (va .u8 (Ci.encS L b 10)) (0, 0) _ rfl (hmm.out.r.row _) Try.underlying22 rfl hszE.out) rfl ⟨rfl, below_setRow hmm.out.bel (by omega) _⟩
end Go.Proofs.Ytpcdckhabaoieaa
