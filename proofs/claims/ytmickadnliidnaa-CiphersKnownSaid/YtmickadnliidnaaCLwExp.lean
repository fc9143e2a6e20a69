/-
  The walk of CiphersExpand.
-/
import Derived.Test.YtmickadnliidnaaCLives
import Derived.Test.YtmickadnliidnaaCRx
import Derived.Test.YtmickadnliidnaaHld
namespace Go.Proofs.Ytmickadnliidnaa
open Go.RowKit

/-- the blocks of the law -/
structure LwMem (G : Nat) (key L : List Nat) (X : Nat) (w wr : World) : Prop where
  k : Blk wr G 22 (va .u8 key)
  s : Blk wr X 24 (va .u8 L)
  bel : Below G w wr
theorem LwMem.below {G X : Nat} {key L : List Nat} {w wr w2 : World} (h : LwMem G key L X w wr) (b : Below wr.heap.size wr w2) : LwMem G key L X w w2 :=
  ⟨h.k.below b h.k.lt, h.s.below b h.s.lt, h.bel.trans (b.mono (by have := h.k.lt; omega))⟩
theorem LwMem.drew_ {G X : Nat} {key L : List Nat} {w wr : World} (h : LwMem G key L X w wr) : LwMem G key L X w wr.drew := ⟨h.k.drew, h.s.drew, below_drewN h.bel 1⟩

theorem words_to (L c : List Nat) (hLl : L.length = 176) (hc : L = c) (w : World) :
    Calls Try.prog 9 #[.agg (va .u8 L)] w fun e w' => e = .returned (.agg (va .u8 c)) ∧ Below w.heap.size w w' := by
  rw [← hc]; exact words_any L hLl w

set_option maxHeartbeats 2000000 in
theorem lawExpand (key : List Nat) (hkl : key.length = 16) (hk : Ci.Byt key) (w : World) :
    Calls Try.prog 3 #[.agg (va .u8 key)] w fun e w' => e = .returned (.bool true) ∧ Below w.heap.size w w' := by
  have hzs := zeroSched
  have hsz0 : (Try.prog.info? 22).map (·.size) = some (va .u8 key).size := by rw [va_size, hkl]; kernel_rfl
  have hsz := Lib.hid hsz0
  clear hsz0
  go_enter Try.func3, Try.ntmps3
  go_wp2_with (refine wpList_load_row rfl 22 (.tmp 1) rfl w.heap.size rfl 22 (va .u8 key) (0, 0) _ (Blk.new _ _ _) Try.underlying22 rfl hsz.out ?_)
  refine (expand_any key hkl hk _).mono ?_
  rintro e w1 ⟨rfl, b1⟩
  have hLl := Ci.exL_len key
  have hr0 : ((Ci.exL key).drop 0).take 16 = key := by
    have e := Ci.upd_row key z176 z176_len hkl 0 176 (by omega) (by omega)
    rw [Ci.exL_all key z176 z176_len, show Ci.rowE key 0 = key from rfl] at e
    simpa using e
  have hrx := rexpand_any key hkl hk
  have hsz2 : (Try.prog.info? 24).map (·.size) = some (va .u8 (Ci.exL key)).size := by rw [va_size, hLl]; kernel_rfl
  generalize Ci.exL key = L at *
  have hst1 := run_storeNew (P := Try.prog) w1 24 (va .u8 z176) .u8 L (by rw [va_size, hLl, z176_len])
  have hvs1 : (va .u8 L).size = 176 := by rw [va_size, hLl]
  have hm : LwMem w.heap.size key L w1.heap.size w (w1.alloc (.cells (va .u8 L) 24)) := by
    refine ⟨((Blk.new w _ _).below b1 (by simp)).alloc _, Blk.new _ _ _, ?_⟩
    exact (((Below.refl _ _).alloc (Nat.le_refl _) _).trans (b1.mono (by simp))).alloc (by have := b1.size; simp at this; omega) _
  have hmm := Lib.hid hm
  have hr0h := Lib.hid hr0
  have hrxh := Lib.hid hrx
  have hszL := Lib.hid hsz2
  clear b1 hm hr0 hrx hsz2
  go_upto_region 2 with fail
  generalize w1.heap.size = X at *
  generalize w1.alloc (.cells (va .u8 L) 24) = w2 at *
  clear hst1
  have hszNN : (Try.prog.info? 22).map (·.size) = some (nv .u8 key).length := by rw [nv_len, hkl]; kernel_rfl
  have hszN := Lib.hid hszNN
  clear hszNN
  have hpart : ∀ wr, LwMem w.heap.size key L X w wr → wr.rangeAt X 0 (nv .u8 key) := fun wr h => by
    have := h.s.part 0 16
    rwa [hr0h.out] at this
  have hsm1 := same176 L hLl
  have hsm2 : ∀ w : World, (Op.equalIn 10000 22 (.agg (nv .u8 key).toArray) (.agg (va .u8 key))).run Try.prog w = .ok true w := same16 key hkl
  refine wp_region_held_drew (S := LwMem w.heap.size key L X w) (by kernel_rfl) hmm.out.drew_ (fun hH => ?_)
  refine takeH 14 0 6 (.agg (va .u8 L)) rfl rfl (by kernel_rfl) (by kernel_rfl) (by kernel_rfl) (fun _ _ _ h => h) (yieldsIf_load_blk (by rfl) 24 (.tmp 3) rfl X rfl 24 (va .u8 L) _ (fun _ h => h.s) Try.underlying24 rfl hszL.out) hH ?_
  simp only [List.set_cons_zero, List.set_cons_succ]
  refine takeH 13 2 8 (.agg (va .u8 key)) rfl rfl (by kernel_rfl) (by kernel_rfl) (by kernel_rfl) (fun _ _ _ h => h) (yieldsIf_load_blk (by rfl) 22 (.tmp 1) rfl w.heap.size rfl 22 (va .u8 key) _ (fun _ h => h.k) Try.underlying22 rfl hsz.out) hH ?_
  simp only [List.set_cons_zero, List.set_cons_succ]
  refine callH 12 1 7 rfl rfl (by rfl) (by kernel_rfl) (fun K hK => ?_)
  go_simp
  refine (words_any L hLl _).mono ?_
  rintro e w' ⟨rfl, bK⟩
  dsimp only
  refine hK.out _ _ (hH.below bK) (fun hH => ?_)
  clear hK K bK
  simp only [List.set_cons_zero, List.set_cons_succ]
  refine callH 11 3 9 rfl rfl (by rfl) (by kernel_rfl) (fun K hK => ?_)
  go_simp
  refine (hrxh.out _).mono ?_
  rintro e w' ⟨rfl, bK⟩
  dsimp only
  refine hK.out _ _ (hH.below bK) (fun hH => ?_)
  clear hK K bK
  simp only [List.set_cons_zero, List.set_cons_succ]
  refine takeH 10 4 10 (.bool true) rfl rfl (by kernel_rfl) (by kernel_rfl) (by kernel_rfl) (fun _ _ _ h => h) (Or.inl ⟨by rfl, fun w _ => by go_simp⟩) hH ?_
  simp only [List.set_cons_zero, List.set_cons_succ]
  refine takeH 9 5 11 (.bool true) rfl rfl (by kernel_rfl) (by kernel_rfl) (by kernel_rfl) (fun _ _ _ h => h) (Or.inl ⟨by rfl, fun w _ => by go_simp⟩) hH ?_
  simp only [List.set_cons_zero, List.set_cons_succ]
  refine takeH 8 6 12 (.pointer (some ⟨X, 0, none⟩)) rfl rfl (by kernel_rfl) (by kernel_rfl) (by kernel_rfl) (fun _ _ _ h => h) (Or.inl ⟨by rfl, fun w _ => by go_simp⟩) hH ?_
  simp only [List.set_cons_zero, List.set_cons_succ]
  refine takeH 7 7 13 (.agg (nv .u8 key).toArray) rfl rfl (by kernel_rfl) (by kernel_rfl) (by kernel_rfl) (fun _ _ _ h => h) (yieldsIf_load_mid (by rfl) 22 (.tmp 12) rfl X 0 rfl (nv .u8 key) _ (fun _ h => hpart _ h) Try.underlying22 rfl hszN.out) hH ?_
  simp only [List.set_cons_zero, List.set_cons_succ]
  refine takeH 6 8 14 (.agg (va .u8 key)) rfl rfl (by kernel_rfl) (by kernel_rfl) (by kernel_rfl) (fun _ _ _ h => h) (yieldsIf_load_blk (by rfl) 22 (.tmp 1) rfl w.heap.size rfl 22 (va .u8 key) _ (fun _ h => h.k) Try.underlying22 rfl hsz.out) hH ?_
  simp only [List.set_cons_zero, List.set_cons_succ]
  refine takeH 5 9 15 (.bool true) rfl rfl (by kernel_rfl) (by kernel_rfl) (by kernel_rfl) (fun _ _ _ h => h) (Or.inl ⟨by rfl, fun w _ => by go_simp⟩) hH ?_
  simp only [List.set_cons_zero, List.set_cons_succ]
  refine takeH 4 10 16 (.bool true) rfl rfl (by kernel_rfl) (by kernel_rfl) (by kernel_rfl) (fun _ _ _ h => h) (Or.inl ⟨by rfl, fun w _ => by go_simp⟩) hH ?_
  simp only [List.set_cons_zero, List.set_cons_succ]
  refine takeH 3 11 17 (.bool true) rfl rfl (by kernel_rfl) (by kernel_rfl) (by kernel_rfl) (fun _ _ _ h => h) (Or.inl ⟨by rfl, fun w _ => by go_simp⟩) hH ?_
  simp only [List.set_cons_zero, List.set_cons_succ]
  refine callH 2 12 18 rfl rfl (by rfl) (by kernel_rfl) (fun K hK => ?_)
  go_simp
  refine (lives_any _).mono ?_
  rintro e w' ⟨rfl, bK⟩
  dsimp only
  refine hK.out _ _ (hH.below bK) (fun hH => ?_)
  clear hK K bK
  simp only [List.set_cons_zero, List.set_cons_succ]
  refine takeH 1 13 19 (.bool true) rfl rfl (by kernel_rfl) (by kernel_rfl) (by kernel_rfl) (fun _ _ _ h => h) (Or.inl ⟨by rfl, fun w _ => by go_simp⟩) hH ?_
  simp only [List.set_cons_zero, List.set_cons_succ]
  refine takeH 0 14 2 (.bool true) rfl rfl (by kernel_rfl) (by kernel_rfl) (by kernel_rfl) (fun _ _ _ h => h) (Or.inl ⟨by rfl, fun w _ => by go_simp⟩) hH ?_
  simp only [List.set_cons_zero, List.set_cons_succ]
  refine wpAnyH_done (by kernel_rfl) ?_ _
  go_wp2_with fail
  go_ret
  exact ⟨rfl, hH.bel⟩
end Go.Proofs.Ytmickadnliidnaa
