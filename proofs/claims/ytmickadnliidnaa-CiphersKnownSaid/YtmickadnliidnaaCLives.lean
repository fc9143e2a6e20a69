/-
  The walk of caissonlaw06.lives: the examples of the chapter hold.
-/
import Derived.Test.YtmickadnliidnaaCExam
import Derived.Test.YtmickadnliidnaaCExp
import Derived.Test.YtmickadnliidnaaRes
import Derived.Test.YtmickadnliidnaaCEq
namespace Go.Proofs.Ytmickadnliidnaa
open Go.RowKit

theorem enc_len (L b : List Nat) : (Ci.enc L b).length = 16 := Ci.encS_len L b 10
theorem enc_to (L b c : List Nat) (hLl : L.length = 176) (hbl : b.length = 16) (hL : Ci.Byt L) (hb : Ci.Byt b) (hc : Ci.enc L b = c) (w : World) :
    Calls Try.prog 12 #[.agg (va .u8 L), .agg (va .u8 b)] w fun e w' => e = .returned (.agg (va .u8 c)) ∧ Below w.heap.size w w' := by
  rw [← hc]; exact encrypt_any L b hLl hbl hL hb w
theorem risL_len (n : Nat) : (risL n).length = 16 := by simp [risL]
theorem risL_byt (n : Nat) : Ci.Byt (risL n) := Ci.byt_map fun _ _ => Nat.mod_lt _ (by omega)
theorem key0_byt : Ci.Byt key0 := by unfold Ci.Byt key0; decide
theorem blk0_byt : Ci.Byt blk0 := by unfold Ci.Byt blk0; decide

set_option maxRecDepth 8000 in
set_option maxHeartbeats 2000000 in
theorem lives_any (w : World) :
    Calls Try.prog 11 #[] w fun e w' => e = .returned (.bool true) ∧ Below w.heap.size w w' := by
  have hzv := zero16
  have hzs := zeroSched
  have hsm1 := same16 enc1 rfl
  have hsm2 : ∀ w : World, (Op.equalIn 10000 22 (.agg (nv .u8 row1).toArray) (.agg (va .u8 row1))).run Try.prog w = .ok true w := same16 row1 rfl
  have hsm3 : ∀ w : World, (Op.equalIn 10000 22 (.agg (nv .u8 row10).toArray) (.agg (va .u8 row10))).run Try.prog w = .ok true w := same16 row10 rfl
  have hsm4 := same16 enc0 rfl
  have hsz0 : (Try.prog.info? 22).map (·.size) = some (va .u8 key0).size := by kernel_rfl
  have hsz := Lib.hid hsz0
  have hst := run_storeNew (P := Try.prog) w 22 (va .u8 z16) .u8 key0 (by rfl)
  have hvs : (va .u8 key0).size = 16 := rfl
  clear hsz0
  go_enter Try.func11, Try.ntmps11
  go_wp2_with (first
    | (refine wpList_buildv rfl 22 _ rfl (va .u8 key0) (by kernel_rfl) ?_)
    | (refine wpList_load_row rfl 22 (.tmp 1) rfl w.heap.size rfl 22 (va .u8 key0) (0, 0) _ (Blk.new _ _ _) Try.underlying22 rfl hsz.out ?_))
  refine (expand_any key0 rfl key0_byt _).mono ?_
  rintro e w1 ⟨rfl, b1⟩
  have hw1 : Below w.heap.size w w1 := ((Below.refl _ _).alloc (Nat.le_refl _) _).trans (b1.mono (by simp))
  have hLl := Ci.exL_len key0
  have hLb := Ci.exL_byt key0_byt
  have hr1 := ex_row1
  have hr2 := ex_row10
  have he0 := ex_enc0
  generalize Ci.exL key0 = L at *
  have hst1 := run_storeNew (P := Try.prog) w1 24 (va .u8 z176) .u8 L (by rw [va_size, hLl, z176_len])
  have hvs1 : (va .u8 L).size = 176 := by rw [va_size, hLl]
  have hB : Blk (w1.alloc (.cells (va .u8 L) 24)) w1.heap.size 24 (va .u8 L) := Blk.new _ _ _
  have hw2 : Below w.heap.size w (w1.alloc (.cells (va .u8 L) 24)) := hw1.alloc hw1.size _
  have hBh := Lib.hid hB
  have hw2h := Lib.hid hw2
  have hr1h := Lib.hid hr1
  have hr2h := Lib.hid hr2
  have he0h := Lib.hid he0
  clear b1 hB hw1 hw2 hr1 hr2 he0 hst hsz
  go_wp2_with fail
  refine (rising_any 1 (by omega) _).mono ?_
  rintro e w3 ⟨rfl, b3⟩
  obtain ⟨g, hg⟩ : ∃ g, w1.heap.size = g := ⟨_, rfl⟩
  rw [hg] at hBh ⊢
  generalize w1.alloc (.cells (va .u8 L) 24) = w2 at *
  clear hst1
  replace hBh := Lib.hid (hBh.out.below b3 hBh.out.lt)
  replace hw2h := Lib.hid (hw2h.out.trans (b3.mono hw2h.out.size))
  clear b3
  go_wp2_with fail
  refine (expand_any (risL 1) (risL_len 1) (risL_byt 1) _).mono ?_
  rintro e w4 ⟨rfl, b4⟩
  replace hBh := Lib.hid (hBh.out.below b4 hBh.out.lt)
  replace hw2h := Lib.hid (hw2h.out.trans (b4.mono hw2h.out.size))
  clear b4
  have hMl := Ci.exL_len (risL 1)
  have hMb := Ci.exL_byt (risL_byt 1)
  have he1 := Lib.hid ex_enc1
  generalize Ci.exL (risL 1) = M at *
  go_wp2_with fail
  refine (rising_any 17 (by omega) _).mono ?_
  rintro e w5 ⟨rfl, b5⟩
  replace hBh := Lib.hid (hBh.out.below b5 hBh.out.lt)
  replace hw2h := Lib.hid (hw2h.out.trans (b5.mono hw2h.out.size))
  clear b5
  go_wp2_with fail
  refine (enc_to M (risL 17) enc1 hMl (risL_len 17) hMb (risL_byt 17) he1.out _).mono ?_
  rintro e w6 ⟨rfl, b6⟩
  replace hBh := Lib.hid (hBh.out.below b6 hBh.out.lt)
  replace hw2h := Lib.hid (hw2h.out.trans (b6.mono hw2h.out.size))
  clear b6 hMb hMl he1
  go_upto_region 5 with (first
    | (refine wpList_buildv rfl 22 _ rfl (va .u8 enc1) (by kernel_rfl) ?_))
  have hp1 := hBh.out.part 16 16
  have hp2 := hBh.out.part 160 16
  rw [hr1h.out] at hp1
  rw [hr2h.out] at hp2
  have hp1h := Lib.hid hp1
  have hp2h := Lib.hid hp2
  have hn1 : (Try.prog.info? 22).map (·.size) = some (nv .u8 row1).length := by kernel_rfl
  have hn2 : (Try.prog.info? 22).map (·.size) = some (nv .u8 row10).length := by kernel_rfl
  have hn1h := Lib.hid hn1
  have hn2h := Lib.hid hn2
  have hszz : (Try.prog.info? 24).map (·.size) = some (va .u8 L).size := by rw [va_size, hLl]; kernel_rfl
  have hszL := Lib.hid hszz
  clear hp1 hp2 hn1 hn2 hr1h hr2h hszz
  go_upto_region 7 with (first
    | (refine wpList_load_mid rfl 22 (.tmp 12) rfl g 16 rfl (nv .u8 row1) _ hp1h.out Try.underlying22 rfl hn1h.out ?_)
    | (refine wpList_load_midg (by rfl) 22 (.tmp 17) rfl g 160 rfl (nv .u8 row10) _ hp2h.out Try.underlying22 rfl hn2h.out ?_)
    | (refine wpList_buildv rfl 22 _ rfl (va .u8 row1) (by kernel_rfl) ?_)
    | (refine wpList_buildg (by rfl) 22 _ rfl (va .u8 row10) (by kernel_rfl) ?_))
  go_wp2_with (first
    | (refine wpList_load_row rfl 24 (.tmp 2) rfl g rfl 24 (va .u8 L) (0, 0) _ hBh.out Try.underlying24 rfl hszL.out ?_)
    | (refine wpList_buildv rfl 22 _ rfl (va .u8 blk0) (by kernel_rfl) ?_))
  refine (enc_to L blk0 enc0 hLl rfl hLb blk0_byt he0h.out _).mono ?_
  rintro e w7 ⟨rfl, b7⟩
  replace hw2h := Lib.hid (hw2h.out.trans (b7.mono hw2h.out.size))
  clear b7
  go_wp2_with (refine wpList_buildv rfl 22 _ rfl (va .u8 enc0) (by kernel_rfl) ?_)
  go_ret
  exact ⟨rfl, hw2h.out⟩
end Go.Proofs.Ytmickadnliidnaa
