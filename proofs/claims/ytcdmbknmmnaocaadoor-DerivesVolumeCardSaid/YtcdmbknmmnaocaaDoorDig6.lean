/-
  The walks of Initial and Of.
-/
import Derived.Test.YtcdmbknmmnaocaaDoorDig5
import Derived.Test.YtcdmbknmmnaocaaDoorParts
namespace Go.Proofs.YtcdmbknmmnaocaaDoor
open Go.RowKit Sh

/-- the blocks of Of -/
structure OfSt (G S : Nat) (l h r : List Nat) (w wr : World) : Prop where
  d : Blk wr G 25 (va .u8 z32)
  s : Blk wr S 58 (stL true h r l.length)
  ok : StOk l h r
  bel : Below G w wr

set_option maxRecDepth 100000 in
set_option maxHeartbeats 1600000 in
theorem of_any (ms : List (List Nat)) (n c B : Nat) (A : Option Addr) (w : World) (hg : Glob w) (hp : Parts w B A n ms) (hn : n < 4611686018427387904) (hB : B ≤ w.heap.size) (hlen : ms.flatten.length < 1152921504606846976) :
    Calls Tryd.prog 26 #[.slice A n c] w fun e w' => e = .returned (.agg (va .u8 (sha ms.flatten))) ∧ Below w.heap.size w w' := by
  have hzv := zvD
  have hzs := zvS
  have hpn := hp.1
  have hp' := Lib.hid hp
  have hB' := Lib.hid hB
  have hlen' := Lib.hid hlen
  clear hp hB hlen
  go_enter Tryd.func26, Tryd.ntmps26
  go_wp2_with fail
  have hgn := hg.alloc (Obj.cells (va .u8 z32) 25)
  refine (new_any _ hgn).mono ?_
  rintro e w1 ⟨rfl, b1⟩
  have hst := run_storeNewA (P := Tryd.prog) w1 58 sEmpty (stL true hL z64 0) (by rw [sEmpty_size, stL_size _ _ _ _ hL_len z64_len]) (stL_one _ _ _ _)
  have hvs : (stL true hL z64 0).size = 74 := stL_size _ _ _ _ hL_len z64_len
  have hbel1 : Below w.heap.size w w1 := ((Below.refl _ _).alloc (Nat.le_refl _) _).trans (b1.mono (by simp))
  have hm0 : OfSt w.heap.size w1.heap.size [] hL z64 w (w1.alloc (.cells (stL true hL z64 0) 58)) :=
    ⟨((Blk.new w _ _).below b1 (by simp)).alloc _, Blk.new _ _ _, stOk_nil, hbel1.alloc hbel1.size _⟩
  have hm1 := Lib.hid hm0
  have hGS : w.heap.size < w1.heap.size := by have := b1.size; simp at this; omega
  have hG1 : 1 < w.heap.size := by have h1 := hg.lk; have h2 := hg.lh; omega
  clear hm0 hbel1 b1 hgn
  go_wp2
  clear hst hvs
  generalize (w1.alloc (.cells (stL true hL z64 0) 58)) = w2 at *
  generalize hSS : w1.heap.size = S at *
  go_loopw [9] (fun s wr => ∃ (k : Nat) (h r : List Nat), k ≤ n ∧ s = .int .i64 (k : Int) ∧ OfSt w.heap.size S (ms.take k).flatten h r w wr) (fun s _ => n - (intOf s).toNat)
  case atStart => exact ⟨0, hL, z64, by omega, rfl, hm1.out⟩
  case round =>
    obtain ⟨k, h, r, hk, rfl, hmem⟩ := hrel
    clear hm1
    obtain ⟨l, hl⟩ : ∃ l, (ms.take k).flatten = l := ⟨_, rfl⟩
    rw [hl] at hmem
    have hmem' := Lib.hid hmem
    have hsz0 : (Tryd.prog.info? 58).map (·.size) = some (stL true h r l.length).size := by rw [stL_size _ _ _ _ hmem.ok.hl hmem.ok.len]; kernel_rfl
    have hsz := Lib.hid hsz0
    have hgw := hg.below hmem.bel
    clear hsz0 hmem
    by_cases hlt : k < n
    · have hlt' : (k : Int) < (n : Int) := by omega
      obtain ⟨ad, Ai, ni, ci, rfl, hadB, hc0, hnc, hr0, hby⟩ := hp'.out.2 k hlt
      have hb2 := hmem'.out.bel.mono hB'.out
      have hc : wr.cell? (ad.add k) = some (.slice Ai ni ci) := (hb2.cell (p := ad.add k) (by rw [add_blk]; exact hadB)).trans hc0
      have hrr := hr0.below hb2
      have hmn := hrr.len
      have hstep := flat_take_succ ms k (by omega)
      have hl2 := flat_take_len ms (k + 1)
      rw [hl] at hstep
      rw [hstep, List.length_append, hmn] at hl2
      have hlw : l.length + ni < 4611686018427387904 := by have := hlen'.out; omega
      have hBw : B ≤ wr.heap.size := Nat.le_trans hB'.out hmem'.out.bel.size
      have hl3 := Lib.hid hl
      have hst2 := Lib.hid hstep
      have hlw' := Lib.hid hlw
      have hBw' := Lib.hid hBw
      have hmn' := Lib.hid hmn
      clear hc0 hr0 hb2 hl2 hl hstep hlw hBw hmn
      go_wp2_with (first
        | (refine wpList_load_row rfl 58 (.tmp 3) rfl S rfl 58 (stL true h r l.length) (0, 0) _ hmem'.out.s Tryd.underlying58 rfl hsz.out ?_)
        | (go_at_call 23; fail))
      refine (write_any l h r (ms.getD k []) Ai ni ci B hmem'.out.ok hby hnc hlw'.out _ hgw hrr hBw'.out).mono ?_
      rintro e w3 ⟨h2, r2, rfl, ok3, b3⟩
      obtain ⟨n3, hn3⟩ : ∃ n3, (l ++ ms.getD k []).length = n3 := ⟨_, rfl⟩
      rw [hn3]
      have hS3 := hmem'.out.s.below b3 hmem'.out.s.lt
      have hD3 := hmem'.out.d.below b3 hmem'.out.d.lt
      have hB3 := hmem'.out.bel.trans (b3.mono hmem'.out.bel.size)
      have hvs : (stL true h2 r2 n3).size = 74 := stL_size _ _ _ _ ok3.hl ok3.len
      have hst := run_storeBlkA4 (P := Tryd.prog) hS3 (stL true h2 r2 n3) (by rw [hvs, stL_size _ _ _ _ hmem'.out.ok.hl hmem'.out.ok.len]) (stL_one _ _ _ _)
      have hm2 : OfSt w.heap.size S (ms.take (k + 1)).flatten h2 r2 w (w3.setRow S (stL true h2 r2 n3)) := by
        rw [hst2.out]
        exact ⟨hD3.rowFar (by omega) _, by rw [hn3]; exact hS3.row _, ok3, below_setRow hB3 (by omega) _⟩
      have hm3 := Lib.hid hm2
      clear hm2 hS3 hD3 hB3 ok3 b3 hn3
      go_wp2
      go_roundw
      case rel => exact ⟨k + 1, h2, r2, by omega, by go_num, hm3.out⟩
      case measure => simp [intOf]; omega
    · obtain rfl : n = k := by omega
      have hfull : l = ms.flatten := by rw [← hl, List.take_of_length_le (by omega)]
      have hf' := Lib.hid hfull
      clear hfull hl
      go_wp2_with (first
        | (refine wpList_load_row rfl 58 (.tmp 3) rfl S rfl 58 (stL true h r l.length) (0, 0) _ hmem'.out.s Tryd.underlying58 rfl hsz.out ?_)
        | (go_at_call 25; fail))
      refine (sum_any l h r hmem'.out.ok (by rw [hf'.out]; exact hlen'.out) _ hgw).mono ?_
      rintro e w3 ⟨rfl, b3⟩
      have hD3 := hmem'.out.d.below b3 hmem'.out.d.lt
      have hB3 := hmem'.out.bel.trans (b3.mono hmem'.out.bel.size)
      have hvs : (va .u8 (sha l)).size = 32 := by rw [va_size, sha_len]
      have hst := run_storeBlk (P := Tryd.prog) hD3 .u8 (sha l) (by rw [va_size, sha_len, z32_len])
      have hsz2 : (Tryd.prog.info? 25).map (·.size) = some (va .u8 (sha l)).size := by rw [hvs]; kernel_rfl
      have hsz3 := Lib.hid hsz2
      clear hsz2
      go_wp2
      exact bodyPost_ret (results_cell_row rfl _ _ w.heap.size 25 (va .u8 (sha l)) (0, 0) _ rfl (hD3.row _) Tryd.underlying25 rfl hsz3.out) rfl
        ⟨by rw [hf'.out], below_setRow hB3 (Nat.le_refl _) _⟩



theorem z8_len : z8.length = 8 := List.length_replicate ..
theorem zv8 (w : World) : (zeroValue 54).run Tryd.prog w = .ok (.agg (va .u32 z8)) w := by kernel_rfl

end Go.Proofs.YtcdmbknmmnaocaaDoor
