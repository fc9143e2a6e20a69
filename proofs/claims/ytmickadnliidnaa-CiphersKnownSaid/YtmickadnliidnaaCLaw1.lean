/-
  Walks of caissonlaw06.words and caissonlaw06.rising.
-/
import Derived.Test.YtmickadnliidnaaCDec
namespace Go.Proofs.Ytmickadnliidnaa
open Go.RowKit

def z176 : List Nat := List.replicate 176 0
theorem z176_len : z176.length = 176 := List.length_replicate ..
theorem zeroWords (w : World) : (zeroValue 27).run Try.prog w = .ok (.agg (va .u8 z176)) w := by kernel_rfl

/-- the blocks of words -/
structure WoMem (G : Nat) (L o : List Nat) (w wr : World) : Prop where
  s : Blk wr G 24 (va .u8 L)
  r : Blk wr (G + 1) 27 (va .u8 z176)
  o : Blk wr (G + 1 + 1) 27 (va .u8 o)
  bel : Below G w wr

set_option maxHeartbeats 1600000 in
theorem words_any (L : List Nat) (hLl : L.length = 176) (w : World) :
    Calls Try.prog 9 #[.agg (va .u8 L)] w fun e w' => e = .returned (.agg (va .u8 L)) ∧ Below w.heap.size w w' := by
  have hzv := zeroWords
  have hm : WoMem w.heap.size L (Ci.upd (fun n => L.getD n 0) z176 (4 * 0 + 0)) w (((w.alloc (.cells (va .u8 L) 24)).alloc (.cells (va .u8 z176) 27)).alloc (.cells (va .u8 z176) 27)) := by
    refine ⟨((Blk.new _ _ _).alloc _).alloc _, ?_, ?_, (((Below.refl _ _).alloc (Nat.le_refl _) _).alloc (by simp) _).alloc (by simp <;> omega) _⟩
    · exact Blk.alloc (by have := Blk.new (w.alloc (.cells (va .u8 L) 24)) 27 (va .u8 z176); simpa using this) _
    · rw [Ci.upd_zero]
      have := Blk.new ((w.alloc (.cells (va .u8 L) 24)).alloc (.cells (va .u8 z176) 27)) 27 (va .u8 z176)
      simpa using this
  have hmm := Lib.hid hm
  clear hm
  go_enter Try.func9, Try.ntmps9
  go_wp2
  clear hzv
  generalize ((w.alloc (.cells (va .u8 L) 24)).alloc (.cells (va .u8 z176) 27)).alloc (.cells (va .u8 z176) 27) = w1 at *
  go_loopw [4] (fun s wr => ∃ i : Nat, i ≤ 44 ∧ s = .int .i64 (i : Int) ∧ WoMem w.heap.size L (Ci.upd (fun n => L.getD n 0) z176 (4 * i + 0)) w wr) (fun s _ => 44 - (intOf s).toNat)
  case atStart => exact ⟨0, by omega, rfl, hmm.out⟩
  case round =>
    clear hmm
    obtain ⟨i, hi, rfl, hmem⟩ := hrel
    by_cases hli : i < 44
    · have hliI : (i : Int) < 44 := by omega
      have hmm := Lib.hid hmem
      clear hmem
      go_wp2
      go_loopw [5] (fun s wr => ∃ k : Nat, k ≤ 4 ∧ s = .int .i64 (k : Int) ∧ WoMem w.heap.size L (Ci.upd (fun n => L.getD n 0) z176 (4 * i + k)) w wr) (fun s _ => 4 - (intOf s).toNat)
      case atStart => exact ⟨0, by omega, rfl, hmm.out⟩
      case round =>
        clear hmm
        obtain ⟨k, hk, rfl, hmem⟩ := hrel
        by_cases hlk : k < 4
        · have hlkI : (k : Int) < 4 := by omega
          obtain ⟨q, hq⟩ : ∃ q, i / 4 = q := ⟨_, rfl⟩
          obtain ⟨j, hj⟩ : ∃ j, 4 * (i % 4) + k = j := ⟨_, rfl⟩
          obtain ⟨n, hn⟩ : ∃ n, 4 * i + k = n := ⟨_, rfl⟩
          obtain ⟨m, hmq⟩ : ∃ m, i % 4 = m := ⟨_, rfl⟩
          have hqt : (i : Int).tdiv 4 = (q : Int) := by rw [Int.tdiv_eq_ediv_of_nonneg (by omega)]; omega
          have hqe : (i : Int) / 4 = (q : Int) := by omega
          have hmt : (i : Int).tmod 4 = (m : Int) := by rw [Int.tmod_eq_emod_of_nonneg (by omega)]; omega
          have hme : (i : Int) % 4 = (m : Int) := by omega
          have hjI : 4 * (m : Int) + (k : Int) = (j : Int) := by omega
          have hq11 : (q : Int) < 11 := by omega
          have hj16 : (j : Int) < 16 := by omega
          have w4 : IntKind.i64.wrap (4 * (m : Int)) = 4 * (m : Int) := IntWalk.i64_in _ (by omega)
          have w5 : IntKind.i64.wrap (j : Int) = (j : Int) := IntWalk.i64_in _ (by omega)
          have w6 : IntKind.i64.wrap (q : Int) = (q : Int) := IntWalk.i64_in _ (by omega)
          rw [hn] at hmem
          have hnl : n < 176 := by omega
          have hc0 := hmem.o.num (i := n) (by rw [Ci.upd_len, z176_len]; omega)
          have hf0 := hmem.o.frozen n
          have hc2 := hmem.s.num (i := n) (by omega)
          have e1 : q * 16 + j = n := by omega
          have e2 : i * 4 + k = n := by omega
          have hc0' : wr.cell? ⟨w.heap.size + 1 + 1, i * 4 + k, none⟩ = some (.int .u8 (((Ci.upd (fun n => L.getD n 0) z176 n).getD n 0 : Nat) : Int)) := by rw [e2]; exact hc0
          have hf0' : wr.frozen? ⟨w.heap.size + 1 + 1, i * 4 + k, none⟩ = false := by rw [e2]; exact hf0
          have hc2' : wr.cell? ⟨w.heap.size, q * 16 + j, none⟩ = some (.int .u8 ((L.getD n 0 : Nat) : Int)) := by rw [e1]; exact hc2
          have hset := Ci.upd_set (fun n => L.getD n 0) z176 n
          obtain ⟨x, hxe⟩ : ∃ x, L.getD n 0 = x := ⟨_, rfl⟩
          simp only [hxe] at hset
          rw [hxe] at hc2'
          have hset' := Lib.hid hset
          have hnh := Lib.hid hn
          have he2 := Lib.hid e2
          have hmm := Lib.hid hmem
          generalize (Ci.upd (fun n => L.getD n 0) z176 n).getD n 0 = y0 at *
          clear hmem hset hxe hq hj hn hmq hc0 hf0 hc2 e1 e2
          go_wp2
          refine wp_region_still_tail 14 (by kernel_rfl) (by kernel_rfl) ?_
          simp only [List.take_succ_cons, List.take_zero, List.drop_succ_cons, List.drop_zero]
          change wpStill _ _ wr.drew _ _ _
          iterate 14 still_step
          refine wpStill_nil ?_
          change wpList _ _ _ _ _ wr.drew
          go_wp2
          go_roundw
          case rel =>
            refine ⟨k + 1, by omega, by go_num, ⟨hmm.out.s.drew.far (by simp <;> omega) _, hmm.out.r.drew.far (by simp <;> omega) _, ?_, (below_drewN hmm.out.bel 1).setCell (by simp <;> omega) _⟩⟩
            have e4 : 4 * i + (k + 1) = n + 1 := by rw [← hnh.out]; omega
            rw [e4, ← hset'.out, he2.out]
            exact hmm.out.o.drew.setNum n x
          case measure => simp [intOf]; omega
        · obtain rfl : k = 4 := by omega
          have hmm := Lib.hid hmem
          clear hmem
          go_wp2
          go_roundw
          case rel => exact ⟨i + 1, by omega, by go_num, by rw [show 4 * (i + 1) + 0 = 4 * i + 4 from by omega]; exact hmm.out⟩
          case measure => simp [intOf]; omega
    · obtain rfl : i = 44 := by omega
      have hall : Ci.upd (fun n => L.getD n 0) z176 (4 * 44 + 0) = L := by
        rw [Ci.upd_all _ _ _ (by have := z176_len; omega), z176_len]
        apply List.ext_getElem
        · simp [hLl]
        · intro a h1 h2
          simp [List.getD_eq_getElem?_getD, h2]
      rw [hall] at hmem
      have hsz0 : (Try.prog.info? 27).map (·.size) = some (va .u8 L).size := by rw [va_size, hLl]; kernel_rfl
      have hszE := Lib.hid hsz0
      have hst := run_storeBlk (P := Try.prog) hmem.r .u8 L (by rw [va_size, z176_len, hLl])
      have hvs : (va .u8 L).size = 176 := by rw [va_size, hLl]
      have hmm := Lib.hid hmem
      clear hsz0 hmem hall
      go_wp2_with (refine wpList_load_row rfl 27 (.tmp 3) rfl (w.heap.size + 1 + 1) rfl 27 (va .u8 L) (0, 0) _ hmm.out.o Try.underlying27 rfl hszE.out ?_)
      exact bodyPost_ret (results_cell_row rfl _ _ (w.heap.size + 1) 27 (va .u8 L) (0, 0) _ rfl (hmm.out.r.row _) Try.underlying27 rfl hszE.out) rfl ⟨rfl, below_setRow hmm.out.bel (by omega) _⟩
end Go.Proofs.Ytmickadnliidnaa
