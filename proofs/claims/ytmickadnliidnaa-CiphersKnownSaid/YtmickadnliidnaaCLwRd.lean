/-
  The walk of CiphersRounds.
-/
import Derived.Test.YtmickadnliidnaaCRd
import Derived.Test.YtmickadnliidnaaHld
namespace Go.Proofs.Ytmickadnliidnaa
open Go.RowKit

/-- the blocks of the laws on round keys -/
structure LrMem (G : Nat) (L b : List Nat) (w wr : World) : Prop where
  b : Blk wr (G + 1) 22 (va .u8 b)
  s : Blk wr (G + 1 + 1) 24 (va .u8 L)
  bel : Below G w wr
theorem LrMem.below {G : Nat} {L b : List Nat} {w wr w2 : World} (h : LrMem G L b w wr) (c : Below wr.heap.size wr w2) : LrMem G L b w w2 :=
  ⟨h.b.below c h.b.lt, h.s.below c h.s.lt, h.bel.trans (c.mono (by have := h.b.lt; omega))⟩
theorem LrMem.drew_ {G : Nat} {L b : List Nat} {w wr : World} (h : LrMem G L b w wr) : LrMem G L b w wr.drew := ⟨h.b.drew, h.s.drew, below_drewN h.bel 1⟩
theorem LrMem.begin (L b : List Nat) (w : World) : LrMem w.heap.size L b w (((w.alloc (.cells (va .u8 L) 23)).alloc (.cells (va .u8 b) 22)).alloc (.cells (va .u8 L) 24)) :=
  ⟨(Blk.newAt (by simp)).alloc _, Blk.newAt (by simp), (((Below.refl _ _).alloc (Nat.le_refl _) _).alloc (by simp) _).alloc (by simp <;> omega) _⟩
theorem sched_under : Try.prog.underlying 23 = some (.array 11 22) := by kernel_rfl

set_option maxHeartbeats 1000000 in
theorem lawRounds (L b : List Nat) (hLl : L.length = 176) (hbl : b.length = 16) (hL : Ci.Byt L) (hb : Ci.Byt b) (w : World) :
    Calls Try.prog 5 #[.agg (va .u8 L), .agg (va .u8 b)] w fun e w' => e = .returned (.bool true) ∧ Below w.heap.size w w' := by
  have hc1 := encrypt_any L b hLl hbl hL hb
  have hc2 := words_any L hLl
  have hc3 := rrounds_any L b hLl hbl hL hb
  have hsm := same16 _ (enc_len L b)
  generalize Ci.enc L b = E at *
  have hc1h := Lib.hid hc1
  have hc2h := Lib.hid hc2
  have hc3h := Lib.hid hc3
  clear hc1 hc2 hc3
  have hzs := zeroSched
  have hsz0 : (Try.prog.info? 22).map (·.size) = some (va .u8 b).size := by rw [va_size, hbl]; kernel_rfl
  have hsz1 : (Try.prog.info? 24).map (·.size) = some (va .u8 L).size := by rw [va_size, hLl]; kernel_rfl
  have hsz2 : (Try.prog.info? 23).map (·.size) = some (va .u8 L).size := by rw [va_size, hLl]; kernel_rfl
  have hst := run_storeNew (P := Try.prog) ((w.alloc (.cells (va .u8 L) 23)).alloc (.cells (va .u8 b) 22)) 24 (va .u8 z176) .u8 L (by rw [va_size, hLl, z176_len])
  rw [show ((w.alloc (.cells (va .u8 L) 23)).alloc (.cells (va .u8 b) 22)).heap.size = w.heap.size + 1 + 1 from by simp] at hst
  have hvs : (va .u8 L).size = 176 := by rw [va_size, hLl]
  have hmm := Lib.hid (LrMem.begin L b w)
  have hs0 := Lib.hid hsz0
  have hs1 := Lib.hid hsz1
  have hs2 := Lib.hid hsz2
  have hbx : Blk ((w.alloc (.cells (va .u8 L) 23)).alloc (.cells (va .u8 b) 22)) w.heap.size 23 (va .u8 L) := (Blk.new _ _ _).alloc _
  have hbxh := Lib.hid hbx
  clear hsz0 hsz1 hsz2 hbx
  go_enter Try.func5, Try.ntmps5
  go_upto_region 2 with (refine wpList_load_row rfl 23 (.tmp 2) rfl w.heap.size rfl 23 (va .u8 L) (0, 0) _ hbxh.out sched_under rfl hs2.out ?_)
  clear hzs hst hbxh
  refine wp_region_held_drew (S := LrMem w.heap.size L b w) (by kernel_rfl) hmm.out.drew_ (fun hH => ?_)
  refine takeH 11 0 7 (.agg (va .u8 L)) rfl rfl (by kernel_rfl) (by kernel_rfl) (by kernel_rfl) (fun _ _ _ h => h) (yieldsIf_load_blk (by rfl) 24 (.tmp 5) rfl (w.heap.size + 1 + 1) rfl 24 (va .u8 L) _ (fun _ h => h.s) Try.underlying24 rfl hs1.out) hH ?_
  simp only [List.set_cons_zero, List.set_cons_succ]
  refine takeH 10 1 8 (.agg (va .u8 b)) rfl rfl (by kernel_rfl) (by kernel_rfl) (by kernel_rfl) (fun _ _ _ h => h) (yieldsIf_load_blk (by rfl) 22 (.tmp 3) rfl (w.heap.size + 1) rfl 22 (va .u8 b) _ (fun _ h => h.b) Try.underlying22 rfl hs0.out) hH ?_
  simp only [List.set_cons_zero, List.set_cons_succ]
  refine takeH 9 3 10 (.agg (va .u8 L)) rfl rfl (by kernel_rfl) (by kernel_rfl) (by kernel_rfl) (fun _ _ _ h => h) (yieldsIf_load_blk (by rfl) 24 (.tmp 5) rfl (w.heap.size + 1 + 1) rfl 24 (va .u8 L) _ (fun _ h => h.s) Try.underlying24 rfl hs1.out) hH ?_
  simp only [List.set_cons_zero, List.set_cons_succ]
  refine takeH 8 5 12 (.agg (va .u8 b)) rfl rfl (by kernel_rfl) (by kernel_rfl) (by kernel_rfl) (fun _ _ _ h => h) (yieldsIf_load_blk (by rfl) 22 (.tmp 3) rfl (w.heap.size + 1) rfl 22 (va .u8 b) _ (fun _ h => h.b) Try.underlying22 rfl hs0.out) hH ?_
  simp only [List.set_cons_zero, List.set_cons_succ]
  refine callH 7 2 9 rfl rfl (by rfl) (by kernel_rfl) (fun K hK => ?_)
  go_simp
  refine (hc1h.out _).mono ?_
  rintro e w' ⟨rfl, bK⟩
  dsimp only
  refine hK.out _ _ (hH.below bK) (fun hH => ?_)
  clear hK K bK
  simp only [List.set_cons_zero, List.set_cons_succ]
  refine callH 6 4 11 rfl rfl (by rfl) (by kernel_rfl) (fun K hK => ?_)
  go_simp
  refine (hc2h.out _).mono ?_
  rintro e w' ⟨rfl, bK⟩
  dsimp only
  refine hK.out _ _ (hH.below bK) (fun hH => ?_)
  clear hK K bK
  simp only [List.set_cons_zero, List.set_cons_succ]
  refine callH 5 6 13 rfl rfl (by rfl) (by kernel_rfl) (fun K hK => ?_)
  go_simp
  refine (hc3h.out _).mono ?_
  rintro e w' ⟨rfl, bK⟩
  dsimp only
  refine hK.out _ _ (hH.below bK) (fun hH => ?_)
  clear hK K bK
  simp only [List.set_cons_zero, List.set_cons_succ]
  refine takeH 4 7 14 (.bool true) rfl rfl (by kernel_rfl) (by kernel_rfl) (by kernel_rfl) (fun _ _ _ h => h) (Or.inl ⟨by rfl, fun w _ => by go_simp⟩) hH ?_
  simp only [List.set_cons_zero, List.set_cons_succ]
  refine takeH 3 8 15 (.bool true) rfl rfl (by kernel_rfl) (by kernel_rfl) (by kernel_rfl) (fun _ _ _ h => h) (Or.inl ⟨by rfl, fun w _ => by go_simp⟩) hH ?_
  simp only [List.set_cons_zero, List.set_cons_succ]
  refine callH 2 9 16 rfl rfl (by rfl) (by kernel_rfl) (fun K hK => ?_)
  go_simp
  refine (lives_any _).mono ?_
  rintro e w' ⟨rfl, bK⟩
  dsimp only
  refine hK.out _ _ (hH.below bK) (fun hH => ?_)
  clear hK K bK
  simp only [List.set_cons_zero, List.set_cons_succ]
  refine takeH 1 10 17 (.bool true) rfl rfl (by kernel_rfl) (by kernel_rfl) (by kernel_rfl) (fun _ _ _ h => h) (Or.inl ⟨by rfl, fun w _ => by go_simp⟩) hH ?_
  simp only [List.set_cons_zero, List.set_cons_succ]
  refine takeH 0 11 4 (.bool true) rfl rfl (by kernel_rfl) (by kernel_rfl) (by kernel_rfl) (fun _ _ _ h => h) (Or.inl ⟨by rfl, fun w _ => by go_simp⟩) hH ?_
  simp only [List.set_cons_zero, List.set_cons_succ]
  refine wpAnyH_done (by kernel_rfl) ?_ _
  go_wp2_with fail
  go_ret
  exact ⟨rfl, hH.bel⟩
end Go.Proofs.Ytmickadnliidnaa
