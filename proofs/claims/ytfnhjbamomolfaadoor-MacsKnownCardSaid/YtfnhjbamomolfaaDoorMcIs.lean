/-
  The walks of caissonlaw03: is.
-/
import Derived.Test.YtfnhjbamomolfaaDoorDig6
import Derived.Test.YtfnhjbamomolfaaDoorRef3
import Derived.Laws.BytesString
import Derived.Laws.CopyRow
import Derived.Test.YtfnhjbamomolfaaDoorStr
namespace Go.Proofs.YtfnhjbamomolfaaDoor
open Go.RowKit Sh

theorem flat_cut (h : List Nat) : ∀ i, i < 8 → ((flat h).drop (4 * i)).take 4 = beB (h.getD i 0) 4
  | 0, _ => by kernel_rfl
  | 1, _ => by kernel_rfl
  | 2, _ => by kernel_rfl
  | 3, _ => by kernel_rfl
  | 4, _ => by kernel_rfl
  | 5, _ => by kernel_rfl
  | 6, _ => by kernel_rfl
  | 7, _ => by kernel_rfl
  | n + 8, h => by omega

structure IsMem (G : Nat) (h : List Nat) (w wr : World) : Prop where
  d : Blk wr G 30 (va .u8 (flat h))
  a : Blk wr (G + 1) 42 (va .u32 h)
  bel : Below G w wr

set_option maxHeartbeats 800000 in
theorem is_any (h : List Nat) (hl : h.length = 8) (hw : W32 h) (w : World) :
    Calls Tryd.prog 15 #[.agg (va .u8 (flat h)), .agg (va .u32 h)] w fun e w' => e = .returned (.bool true) ∧ Below w.heap.size w w' := by
  have hm0 : IsMem w.heap.size h w ((w.alloc (.cells (va .u8 (flat h)) 30)).alloc (.cells (va .u32 h) 42)) := by
    refine ⟨(Blk.new _ _ _).alloc _, ?_, ((Below.refl _ _).alloc (Nat.le_refl _) _).alloc (by simp) _⟩
    have := Blk.new (w.alloc (.cells (va .u8 (flat h)) 30)) 42 (va .u32 h)
    simpa using this
  have hm1 := Lib.hid hm0
  have hl' := Lib.hid hl
  clear hm0 hl
  go_enter Tryd.func15, Tryd.ntmps15
  go_wp2
  go_loopw [5] (fun s wr => ∃ i : Nat, i ≤ 8 ∧ s = .int .i64 (i : Int) ∧ IsMem w.heap.size h w wr) (fun s _ => 8 - (intOf s).toNat)
  case atStart => exact ⟨0, by omega, rfl, hm1.out⟩
  case round =>
    obtain ⟨i, hi, rfl, hmem⟩ := hrel
    clear hm1
    by_cases hlt : i < 8
    · have hlt' : (i : Int) < 8 := by omega
      have hc := hmem.a.num (i := i) (by rw [hl'.out]; exact hlt)
      have hv := hw i
      have hcut := flat_cut h i hlt
      obtain ⟨v, hvv⟩ : ∃ v, h.getD i 0 = v := ⟨_, rfl⟩
      rw [hvv] at hc hv hcut
      obtain ⟨o, ho⟩ : ∃ o, 4 * i = o := ⟨_, rfl⟩
      rw [ho] at hcut
      have h4 : IntKind.i64.wrap (4 * (i : Int)) = (o : Int) := (IntWalk.i64_in _ (by omega)).trans (by omega)
      have h44 : IntKind.i64.wrap ((o : Int) + 4) = (o : Int) + 4 := IntWalk.i64_in _ (by omega)
      have ho0 : 0 ≤ (o : Int) := by omega
      have ho1 : (o : Int) ≤ (o : Int) + 4 := by omega
      have ho2 : (o : Int) + 4 ≤ 32 := by omega
      have ho3 : ¬ 32 = o := by omega
      have ho4 : ((o : Int) + 4).toNat = o + 4 := by omega
      have ho5 : o + 4 - o = 4 := by omega
      have hp := hmem.d.part o 4
      rw [hcut] at hp
      have hcv1 := run_string_of (w := wr.drew) 22 9 Tryd.underlying22 Tryd.underlying9 w.heap.size o 4 (32 - o) (beB v 4) (beB_len _ _) hp
      have hmem' := Lib.hid hmem
      have hp' := Lib.hid hp
      clear hmem hp hcut hvv ho
      go_upto_region 4 with fail
      go_region_law (first
        | (go_simp; go_at_call 22; refine (rput32_any v hv _).mono ?_; rintro e w2 ⟨r, rfl, g, rfl, hb2, hg2, b2⟩
           have hcv2 := run_string_of (w := w2) 22 9 Tryd.underlying22 Tryd.underlying9 w.heap.size o 4 (32 - o) (beB v 4) (beB_len _ _) (fun j u hu => (b2.cell (p := ⟨w.heap.size, o + j, none⟩) hmem'.out.d.lt).trans (hp'.out j u hu))
           have hcv3 := run_string_of (w := w2) 22 9 Tryd.underlying22 Tryd.underlying9 g 0 (beB v 4).length (beB v 4).length (beB v 4) rfl (fun j u hu => by rw [Nat.zero_add, hb2.cell]; simpa [va] using hu)))
      all_goals
        have hm9 := Lib.hid (show IsMem w.heap.size h w w2 from ⟨hmem'.out.d.drew.below b2 hmem'.out.d.lt, hmem'.out.a.drew.below b2 hmem'.out.a.lt, hmem'.out.bel.drew.trans (b2.mono hmem'.out.bel.size)⟩)
        go_wp2
        go_roundw
      all_goals first
        | exact ⟨i + 1, by omega, by go_num, hm9.out⟩
        | (simp [intOf]; omega)
    · obtain rfl : i = 8 := by omega
      go_wp2
      go_ret
      exact ⟨rfl, hmem.bel⟩
end Go.Proofs.YtfnhjbamomolfaaDoor
