/-
  The walk of CiphersBack.
-/
import Derived.Test.YtmickadnliidnaaCLwRd
import Derived.Test.YtmickadnliidnaaHld
import Derived.Test.YtmickadnliidnaaCBack
namespace Go.Proofs.Ytmickadnliidnaa
open Go.RowKit

set_option maxHeartbeats 1000000 in
theorem lawBack (L b : List Nat) (hLl : L.length = 176) (hbl : b.length = 16) (hL : Ci.Byt L) (hb : Ci.Byt b) (w : World) :
    Calls Try.prog 6 #[.agg (va .u8 L), .agg (va .u8 b)] w fun e w' => e = .returned (.bool true) ∧ Below w.heap.size w w' := by
  have hEb := Ci.enc_byt hL hb
  have hDb := Ci.dec_byt hL hb
  have hc1 := encrypt_any L b hLl hbl hL hb
  have hc2 := decrypt_any L (Ci.enc L b) hLl (enc_len L b) hL hEb
  have hc3 := decrypt_any L b hLl hbl hL hb
  have hc4 := encrypt_any L (Ci.dec L b) hLl (Ci.dec_len L b) hL hDb
  rw [Ci.dec_enc L b hLl hbl hL hb] at hc2
  rw [Ci.enc_dec L b hLl hbl hL hb] at hc4
  have hsm := same16 b hbl
  generalize Ci.enc L b = E at *
  generalize Ci.dec L b = D at *
  have hc1h := Lib.hid hc1
  have hc2h := Lib.hid hc2
  have hc3h := Lib.hid hc3
  have hc4h := Lib.hid hc4
  clear hc1 hc2 hc3 hc4 hEb hDb
  have hzs := zeroSched
  have hsz0 : (Try.prog.info? 22).map (·.size) = some (va .u8 b).size := by rw [va_size, hbl]; kernel_rfl
  have hsz1 : (Try.prog.info? 24).map (·.size) = some (va .u8 L).size := by rw [va_size, hLl]; kernel_rfl
  have hsz2 : (Try.prog.info? 23).map (·.size) = some (va .u8 L).size := by rw [va_size, hLl]; kernel_rfl
  have hst := run_storeNew (P := Try.prog) ((w.alloc (.cells (va .u8 L) 23)).alloc (.cells (va .u8 b) 22)) 24 (va .u8 z176) .u8 L (by rw [va_size, hLl, z176_len])
  rw [show ((w.alloc (.cells (va .u8 L) 23)).alloc (.cells (va .u8 b) 22)).heap.size = w.heap.size + 1 + 1 from by simp] at hst
  have hvs : (va .u8 L).size = 176 := by rw [va_size, hLl]
  have hmm := Lib.hid (LrMem.begin L b w)
  have hs0 := Lib.hid hsz0
  have hs1 := Lib.hid hsz1
  have hs2 := Lib.hid hsz2
  have hbx : Blk ((w.alloc (.cells (va .u8 L) 23)).alloc (.cells (va .u8 b) 22)) w.heap.size 23 (va .u8 L) := (Blk.new _ _ _).alloc _
  have hbxh := Lib.hid hbx
  clear hsz0 hsz1 hsz2 hbx
  go_enter Try.func6, Try.ntmps6
  go_upto_region 2 with (refine wpList_load_row rfl 23 (.tmp 2) rfl w.heap.size rfl 23 (va .u8 L) (0, 0) _ hbxh.out sched_under rfl hs2.out ?_)
  clear hzs hst hbxh
  refine wp_region_held_drew (S := LrMem w.heap.size L b w) (by kernel_rfl) hmm.out.drew_ (fun hH => ?_)
  refine takeH 19 0 7 (.agg (va .u8 L)) rfl rfl (by kernel_rfl) (by kernel_rfl) (by kernel_rfl) (fun _ _ _ h => h) (yieldsIf_load_blk (by rfl) 24 (.tmp 5) rfl (w.heap.size + 1 + 1) rfl 24 (va .u8 L) _ (fun _ h => h.s) Try.underlying24 rfl hs1.out) hH ?_
  simp only [List.set_cons_zero, List.set_cons_succ]
  refine takeH 18 1 8 (.agg (va .u8 L)) rfl rfl (by kernel_rfl) (by kernel_rfl) (by kernel_rfl) (fun _ _ _ h => h) (yieldsIf_load_blk (by rfl) 24 (.tmp 5) rfl (w.heap.size + 1 + 1) rfl 24 (va .u8 L) _ (fun _ h => h.s) Try.underlying24 rfl hs1.out) hH ?_
  simp only [List.set_cons_zero, List.set_cons_succ]
  refine takeH 17 2 9 (.agg (va .u8 b)) rfl rfl (by kernel_rfl) (by kernel_rfl) (by kernel_rfl) (fun _ _ _ h => h) (yieldsIf_load_blk (by rfl) 22 (.tmp 3) rfl (w.heap.size + 1) rfl 22 (va .u8 b) _ (fun _ h => h.b) Try.underlying22 rfl hs0.out) hH ?_
  simp only [List.set_cons_zero, List.set_cons_succ]
  refine takeH 16 5 12 (.agg (va .u8 b)) rfl rfl (by kernel_rfl) (by kernel_rfl) (by kernel_rfl) (fun _ _ _ h => h) (yieldsIf_load_blk (by rfl) 22 (.tmp 3) rfl (w.heap.size + 1) rfl 22 (va .u8 b) _ (fun _ h => h.b) Try.underlying22 rfl hs0.out) hH ?_
  simp only [List.set_cons_zero, List.set_cons_succ]
  refine callH 15 3 10 rfl rfl (by rfl) (by kernel_rfl) (fun K hK => ?_)
  go_simp
  refine (hc1h.out _).mono ?_
  rintro e w' ⟨rfl, bK⟩
  dsimp only
  refine hK.out _ _ (hH.below bK) (fun hH => ?_)
  clear hK K bK
  simp only [List.set_cons_zero, List.set_cons_succ]
  refine callH 14 4 11 rfl rfl (by rfl) (by kernel_rfl) (fun K hK => ?_)
  go_simp
  refine (hc2h.out _).mono ?_
  rintro e w' ⟨rfl, bK⟩
  dsimp only
  refine hK.out _ _ (hH.below bK) (fun hH => ?_)
  clear hK K bK
  simp only [List.set_cons_zero, List.set_cons_succ]
  refine takeH 13 6 13 (.bool true) rfl rfl (by kernel_rfl) (by kernel_rfl) (by kernel_rfl) (fun _ _ _ h => h) (Or.inl ⟨by rfl, fun w _ => by go_simp⟩) hH ?_
  simp only [List.set_cons_zero, List.set_cons_succ]
  refine takeH 12 7 14 (.bool true) rfl rfl (by kernel_rfl) (by kernel_rfl) (by kernel_rfl) (fun _ _ _ h => h) (Or.inl ⟨by rfl, fun w _ => by go_simp⟩) hH ?_
  simp only [List.set_cons_zero, List.set_cons_succ]
  refine takeH 11 8 15 (.agg (va .u8 L)) rfl rfl (by kernel_rfl) (by kernel_rfl) (by kernel_rfl) (fun _ _ _ h => h) (yieldsIf_load_blk (by rfl) 24 (.tmp 5) rfl (w.heap.size + 1 + 1) rfl 24 (va .u8 L) _ (fun _ h => h.s) Try.underlying24 rfl hs1.out) hH ?_
  simp only [List.set_cons_zero, List.set_cons_succ]
  refine takeH 10 9 16 (.agg (va .u8 L)) rfl rfl (by kernel_rfl) (by kernel_rfl) (by kernel_rfl) (fun _ _ _ h => h) (yieldsIf_load_blk (by rfl) 24 (.tmp 5) rfl (w.heap.size + 1 + 1) rfl 24 (va .u8 L) _ (fun _ h => h.s) Try.underlying24 rfl hs1.out) hH ?_
  simp only [List.set_cons_zero, List.set_cons_succ]
  refine takeH 9 10 17 (.agg (va .u8 b)) rfl rfl (by kernel_rfl) (by kernel_rfl) (by kernel_rfl) (fun _ _ _ h => h) (yieldsIf_load_blk (by rfl) 22 (.tmp 3) rfl (w.heap.size + 1) rfl 22 (va .u8 b) _ (fun _ h => h.b) Try.underlying22 rfl hs0.out) hH ?_
  simp only [List.set_cons_zero, List.set_cons_succ]
  refine takeH 8 13 20 (.agg (va .u8 b)) rfl rfl (by kernel_rfl) (by kernel_rfl) (by kernel_rfl) (fun _ _ _ h => h) (yieldsIf_load_blk (by rfl) 22 (.tmp 3) rfl (w.heap.size + 1) rfl 22 (va .u8 b) _ (fun _ h => h.b) Try.underlying22 rfl hs0.out) hH ?_
  simp only [List.set_cons_zero, List.set_cons_succ]
  refine callH 7 11 18 rfl rfl (by rfl) (by kernel_rfl) (fun K hK => ?_)
  go_simp
  refine (hc3h.out _).mono ?_
  rintro e w' ⟨rfl, bK⟩
  dsimp only
  refine hK.out _ _ (hH.below bK) (fun hH => ?_)
  clear hK K bK
  simp only [List.set_cons_zero, List.set_cons_succ]
  refine callH 6 12 19 rfl rfl (by rfl) (by kernel_rfl) (fun K hK => ?_)
  go_simp
  refine (hc4h.out _).mono ?_
  rintro e w' ⟨rfl, bK⟩
  dsimp only
  refine hK.out _ _ (hH.below bK) (fun hH => ?_)
  clear hK K bK
  simp only [List.set_cons_zero, List.set_cons_succ]
  refine takeH 5 14 21 (.bool true) rfl rfl (by kernel_rfl) (by kernel_rfl) (by kernel_rfl) (fun _ _ _ h => h) (Or.inl ⟨by rfl, fun w _ => by go_simp⟩) hH ?_
  simp only [List.set_cons_zero, List.set_cons_succ]
  refine takeH 4 15 22 (.bool true) rfl rfl (by kernel_rfl) (by kernel_rfl) (by kernel_rfl) (fun _ _ _ h => h) (Or.inl ⟨by rfl, fun w _ => by go_simp⟩) hH ?_
  simp only [List.set_cons_zero, List.set_cons_succ]
  refine takeH 3 16 23 (.bool true) rfl rfl (by kernel_rfl) (by kernel_rfl) (by kernel_rfl) (fun _ _ _ h => h) (Or.inl ⟨by rfl, fun w _ => by go_simp⟩) hH ?_
  simp only [List.set_cons_zero, List.set_cons_succ]
  refine callH 2 17 24 rfl rfl (by rfl) (by kernel_rfl) (fun K hK => ?_)
  go_simp
  refine (lives_any _).mono ?_
  rintro e w' ⟨rfl, bK⟩
  dsimp only
  refine hK.out _ _ (hH.below bK) (fun hH => ?_)
  clear hK K bK
  simp only [List.set_cons_zero, List.set_cons_succ]
  refine takeH 1 18 25 (.bool true) rfl rfl (by kernel_rfl) (by kernel_rfl) (by kernel_rfl) (fun _ _ _ h => h) (Or.inl ⟨by rfl, fun w _ => by go_simp⟩) hH ?_
  simp only [List.set_cons_zero, List.set_cons_succ]
  refine takeH 0 19 4 (.bool true) rfl rfl (by kernel_rfl) (by kernel_rfl) (by kernel_rfl) (fun _ _ _ h => h) (Or.inl ⟨by rfl, fun w _ => by go_simp⟩) hH ?_
  simp only [List.set_cons_zero, List.set_cons_succ]
  refine wpAnyH_done (by kernel_rfl) ?_ _
  go_wp2_with fail
  go_ret
  exact ⟨rfl, hH.bel⟩
end Go.Proofs.Ytmickadnliidnaa
