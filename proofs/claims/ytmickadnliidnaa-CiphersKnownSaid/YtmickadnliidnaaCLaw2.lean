/-
  The walk of caissonlaw06.rising.
-/
import Derived.Test.YtmickadnliidnaaCLaw1
namespace Go.Proofs.Ytmickadnliidnaa
open Go.RowKit

def risL (by_ : Nat) : List Nat := (List.range 16).map fun i => by_ * i % 256

/-- the blocks of rising -/
structure RiMem (G : Nat) (o : List Nat) (w wr : World) : Prop where
  r : Blk wr G 22 (va .u8 z16)
  o : Blk wr (G + 1) 22 (va .u8 o)
  bel : Below G w wr

set_option maxHeartbeats 800000 in
theorem rising_any (b : Nat) (hb : b < 256) (w : World) :
    Calls Try.prog 20 #[.int .u8 (b : Int)] w fun e w' => e = .returned (.agg (va .u8 (risL b))) ∧ Below w.heap.size w w' := by
  have hzv := zero16
  have hm : RiMem w.heap.size (Ci.upd (fun i => b * i % 256) z16 0) w ((w.alloc (.cells (va .u8 z16) 22)).alloc (.cells (va .u8 z16) 22)) := by
    refine ⟨(Blk.new _ _ _).alloc _, ?_, ((Below.refl _ _).alloc (Nat.le_refl _) _).alloc (by simp) _⟩
    rw [Ci.upd_zero]
    have := Blk.new (w.alloc (.cells (va .u8 z16) 22)) 22 (va .u8 z16)
    simpa using this
  have hmm := Lib.hid hm
  clear hm
  go_enter Try.func20, Try.ntmps20
  go_wp2
  clear hzv
  generalize (w.alloc (.cells (va .u8 z16) 22)).alloc (.cells (va .u8 z16) 22) = w1 at *
  go_loopw [4] (fun s wr => ∃ i : Nat, i ≤ 16 ∧ s = .int .i64 (i : Int) ∧ RiMem w.heap.size (Ci.upd (fun i => b * i % 256) z16 i) w wr) (fun s _ => 16 - (intOf s).toNat)
  case atStart => exact ⟨0, by omega, rfl, hmm.out⟩
  case round =>
    clear hmm
    obtain ⟨i, hi, rfl, hmem⟩ := hrel
    by_cases hli : i < 16
    · have hliI : (i : Int) < 16 := by omega
      obtain ⟨v, hv⟩ : ∃ v, b * i % 256 = v := ⟨_, rfl⟩
      have hc0 := hmem.o.num (i := i) (by rw [Ci.upd_len, z16_len]; omega)
      have hf0 := hmem.o.frozen i
      have hset := Ci.upd_set (fun i => b * i % 256) z16 i
      simp only [hv] at hset
      have hwi : IntKind.u8.wrap (i : Int) = (i : Int) := IntWalk.u8_in _ (by omega)
      have hvI : (b : Int) * (i : Int) % 256 = (v : Int) := by rw [← hv]; simp
      have hwv : IntKind.u8.wrap ((b : Int) * (i : Int)) = (v : Int) := hvI
      have hset' := Lib.hid hset
      have hmm := Lib.hid hmem
      generalize (Ci.upd (fun i => b * i % 256) z16 i).getD i 0 = y0 at *
      clear hmem hset hv
      go_wp2
      go_roundw
      case rel =>
        refine ⟨i + 1, by omega, by go_num, ⟨hmm.out.r.far (by simp <;> omega) _, ?_, hmm.out.bel.setCell (by simp <;> omega) _⟩⟩
        rw [← hset'.out]
        exact hmm.out.o.setNum i v
      case measure => simp [intOf]; omega
    · obtain rfl : i = 16 := by omega
      have hall : Ci.upd (fun i => b * i % 256) z16 16 = risL b := by
        rw [Ci.upd_all _ _ _ (by rw [z16_len]; exact Nat.le_refl _), z16_len]; rfl
      rw [hall] at hmem
      have hel : (risL b).length = 16 := by simp [risL]
      have hsz0 : (Try.prog.info? 22).map (·.size) = some (va .u8 (risL b)).size := by rw [va_size, hel]; kernel_rfl
      have hszE := Lib.hid hsz0
      have hst := run_storeBlk (P := Try.prog) hmem.r .u8 (risL b) (by rw [va_size, z16_len, hel])
      have hvs : (va .u8 (risL b)).size = 16 := by rw [va_size, hel]
      have hmm := Lib.hid hmem
      clear hsz0 hmem hall
      go_wp2_with (refine wpList_load_row rfl 22 (.tmp 3) rfl (w.heap.size + 1) rfl 22 (va .u8 (risL b)) (0, 0) _ hmm.out.o Try.underlying22 rfl hszE.out ?_)
      exact bodyPost_ret (results_cell_row rfl _ _ w.heap.size 22 (va .u8 (risL b)) (0, 0) _ rfl (hmm.out.r.row _) Try.underlying22 rfl hszE.out) rfl ⟨rfl, below_setRow hmm.out.bel (Nat.le_refl _) _⟩
end Go.Proofs.Ytmickadnliidnaa
