/-
  The walks of caissonref06.Encrypt and of CiphersEncrypt.
-/
import Derived.Test.YtpcdckhabaoieaaCRd
import Derived.Test.YtpcdckhabaoieaaHld
namespace Go.Proofs.Ytpcdckhabaoieaa
open Go.RowKit

/-- the blocks of the reference's Encrypt -/
structure ReMem (G : Nat) (key b : List Nat) (w wr : World) : Prop where
  k : Blk wr G 22 (va .u8 key)
  b : Blk wr (G + 1) 22 (va .u8 b)
  r : ∃ c, Blk wr (G + 1 + 1) 22 c ∧ c.size = 16
  bel : Below G w wr
theorem ReMem.below {G : Nat} {key b : List Nat} {w wr w2 : World} (h : ReMem G key b w wr) (c : Below wr.heap.size wr w2) : ReMem G key b w w2 := by
  obtain ⟨c0, h0, h1⟩ := h.r
  exact ⟨h.k.below c h.k.lt, h.b.below c h.b.lt, ⟨c0, h0.below c h0.lt, h1⟩, h.bel.trans (c.mono (by have := h.k.lt; omega))⟩
theorem ReMem.drew_ {G : Nat} {key b : List Nat} {w wr : World} (h : ReMem G key b w wr) : ReMem G key b w wr.drew := by
  obtain ⟨c0, h0, h1⟩ := h.r
  exact ⟨h.k.drew, h.b.drew, ⟨c0, h0.drew, h1⟩, below_drewN h.bel 1⟩
theorem ReMem.row {G : Nat} {key b : List Nat} {w wr : World} (h : ReMem G key b w wr) (c : Array Value) (hc : c.size = 16) : ReMem G key b w (wr.setRow (G + 1 + 1) c) := by
  obtain ⟨c0, h0, h1⟩ := h.r
  exact ⟨h.k.rowFar (by omega) c, h.b.rowFar (by omega) c, ⟨c, h0.row c, hc⟩, below_setRow h.bel (by omega) c⟩

set_option maxHeartbeats 1000000 in
theorem rencrypt_any (key b : List Nat) (hkl : key.length = 16) (hbl : b.length = 16) (hk : Ci.Byt key) (hb : Ci.Byt b) (w : World) :
    Calls Try.prog 23 #[.agg (va .u8 key), .agg (va .u8 b)] w fun e w' => e = .returned (.agg (va .u8 (Ci.enc (Ci.exL key) b))) ∧ Below w.heap.size w w' := by
  have hc1 := rexpand_any key hkl hk
  have hc2 := rrounds_any (Ci.exL key) b (Ci.exL_len key) hbl (Ci.exL_byt hk) hb
  have hEl := enc_len (Ci.exL key) b
  generalize Ci.enc (Ci.exL key) b = E at *
  generalize Ci.exL key = L at *
  have hzv := zero16
  have hsz0 : (Try.prog.info? 22).map (·.size) = some (va .u8 key).size := by rw [va_size, hkl]; kernel_rfl
  have hsz1 : (Try.prog.info? 22).map (·.size) = some (va .u8 b).size := by rw [va_size, hbl]; kernel_rfl
  have hsz2 : (Try.prog.info? 22).map (·.size) = some (va .u8 E).size := by rw [va_size, hEl]; kernel_rfl
  have hm : ReMem w.heap.size key b w (((w.alloc (.cells (va .u8 key) 22)).alloc (.cells (va .u8 b) 22)).alloc (.cells (va .u8 z16) 22)) :=
    ⟨((Blk.new _ _ _).alloc _).alloc _, (Blk.newAt (by simp)).alloc _, ⟨va .u8 z16, Blk.newAt (by simp), by rw [va_size, z16_len]⟩, (((Below.refl _ _).alloc (Nat.le_refl _) _).alloc (by simp) _).alloc (by simp <;> omega) _⟩
  have hmm := Lib.hid hm
  have hs0 := Lib.hid hsz0
  have hs1 := Lib.hid hsz1
  have hs2 := Lib.hid hsz2
  have hc1h := Lib.hid hc1
  have hc2h := Lib.hid hc2
  clear hm hsz0 hsz1 hsz2 hc1 hc2
  go_enter Try.func23, Try.ntmps23
  go_upto_region 1 with fail
  clear hzv
  refine wp_region_held_drew (S := ReMem w.heap.size key b w) (by kernel_rfl) hmm.out.drew_ (fun hH => ?_)
  refine takeH 4 0 5 (.agg (va .u8 key)) rfl rfl (by kernel_rfl) (by kernel_rfl) (by kernel_rfl) (fun _ _ _ h => h) (yieldsIf_load_blk (by rfl) 22 (.tmp 2) rfl w.heap.size rfl 22 (va .u8 key) _ (fun _ h => h.k) Try.underlying22 rfl hs0.out) hH ?_
  simp only [List.set_cons_zero, List.set_cons_succ]
  refine takeH 3 2 7 (.agg (va .u8 b)) rfl rfl (by kernel_rfl) (by kernel_rfl) (by kernel_rfl) (fun _ _ _ h => h) (yieldsIf_load_blk (by rfl) 22 (.tmp 3) rfl (w.heap.size + 1) rfl 22 (va .u8 b) _ (fun _ h => h.b) Try.underlying22 rfl hs1.out) hH ?_
  simp only [List.set_cons_zero, List.set_cons_succ]
  refine callH 2 1 6 rfl rfl (by rfl) (by kernel_rfl) (fun K hK => ?_)
  go_simp
  refine (hc1h.out _).mono ?_
  rintro e w' ⟨rfl, bK⟩
  dsimp only
  refine hK.out _ _ (hH.below bK) (fun hH => ?_)
  clear hK K bK
  simp only [List.set_cons_zero, List.set_cons_succ]
  refine callH 1 3 8 rfl rfl (by rfl) (by kernel_rfl) (fun K hK => ?_)
  go_simp
  refine (hc2h.out _).mono ?_
  rintro e w' ⟨rfl, bK⟩
  dsimp only
  refine hK.out _ _ (hH.below bK) (fun hH => ?_)
  clear hK K bK
  simp only [List.set_cons_zero, List.set_cons_succ]
  obtain ⟨c0, hc0, hc16⟩ := hH.r
  refine storeH 0 4 rfl rfl (by rfl) (by kernel_rfl) 22 (.tmp 4) (.tmp 8) rfl (w.heap.size + 1 + 1) rfl (va .u8 E) rfl 22 c0 hc0 (by rw [hc16, va_size, hEl]) hs2.out (fun v hv => nv_one .u8 E v (by simpa [va] using hv)) (hH.row _ (by rw [va_size, hEl])) (fun hH => ?_)
  refine wpAnyH_done (by kernel_rfl) ?_ _
  go_wp2_with fail
  exact bodyPost_ret (results_cell_row rfl _ _ (w.heap.size + 1 + 1) 22 (va .u8 E) (0, 0) _ rfl (hc0.row _) Try.underlying22 rfl hs2.out) rfl ⟨rfl, hH.bel⟩


end Go.Proofs.Ytpcdckhabaoieaa
