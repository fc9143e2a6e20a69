/-
  The walks of slices.Grow, Clip, Concat of uses. (Printed by mktop2.py.)
-/
import Derived.Test.YtcdgcaljlmondaaDoorZ15
import Derived.DeepKeys3
import Derived.RangeFuncRecord
import Derived.Laws.StructEq
namespace Go.Proofs.YtcdgcaljlmondaaDoor
set_option maxRecDepth 16384
open Go.RowKit Sh

set_option maxRecDepth 8000 in
set_option maxHeartbeats 4000000 in
theorem ugrow_any (k : Nat) (hk : 0 < k) (hk4 : k ≤ 4) (w : World) :
  Calls Tryd.prog 83 #[.slice none 0 0, .int .i64 (k : Int)] w fun e w' => ∃ g c, e = .returned (.slice (some ⟨g, 0, none⟩) 0 c) ∧ OwnU w' w.heap.size (some ⟨g, 0, none⟩) 0 c [] ∧ w.heap.size ≤ g ∧ Below w.heap.size w w' := by
 have h1 : ¬ (k : Int) < 0 := by omega
 have h2 : (0 : Int) < (k : Int) := by omega
 have hwk : IntKind.i64.wrap (k : Int) = (k : Int) := IntWalk.i64_in _ (by omega)
 have hw0 : IntKind.i64.wrap 0 = 0 := by decide
 obtain ⟨B0, hB0e⟩ : ∃ b, w.heap.size = b := ⟨_, rfl⟩
 rw [hB0e]
 have hW : Below B0 w w := by rw [← hB0e]; exact Below.refl _ _
 have hB0 : B0 ≤ w.heap.size := by omega
 have hB0q := Lib.hid hB0e
 clear hB0e
 go_enter Tryd.func83, Tryd.ntmps83
 go_upto_region 0 with fail
 refine wl_lit ?_
 refine runL 4 (.slice none 0 0) rfl (by rfl) (by go_simp) ?_
 simp only [ls0, ls1]
 refine nilL ?_
 go_upto_region 1 with fail
 refine wl_lit ?_
 refine runL 5 (.int .i64 (k : Int)) rfl (by rfl) (by go_simp) ?_
 simp only [ls0, ls1]
 refine runL 6 (.bool false) rfl (by rfl) (by go_simp) ?_
 simp only [ls0, ls1]
 refine nilL ?_
 go_upto_region 3 with fail
 refine wl_lit ?_
 refine runL 8 (.int .i64 (k : Int)) rfl (by rfl) (by go_simp) ?_
 simp only [ls0, ls1]
 refine runL 9 (.slice none 0 0) rfl (by rfl) (by go_simp) ?_
 simp only [ls0, ls1]
 refine runL 10 (.int .i64 0) rfl (by rfl) (by go_simp) ?_
 simp only [ls0, ls1]
 refine runL 11 (.slice none 0 0) rfl (by rfl) (by go_simp) ?_
 simp only [ls0, ls1]
 refine runL 12 (.int .i64 0) rfl (by rfl) (by go_simp) ?_
 simp only [ls0, ls1]
 refine runL 13 (.int .i64 0) rfl (by rfl) (by go_simp) ?_
 simp only [ls0, ls1]
 refine runL 14 (.int .i64 (k : Int)) rfl (by rfl) (by go_simp) ?_
 simp only [ls0, ls1]
 refine runL 1 (.int .i64 (k : Int)) rfl (by rfl) (by go_simp) ?_
 simp only [ls0, ls1]
 refine nilL ?_
 go_upto_region 4 with fail
 refine wl_lit ?_
 refine runL 15 (.int .i64 (k : Int)) rfl (by rfl) (by go_simp) ?_
 simp only [ls0, ls1]
 refine runL 16 (.bool true) rfl (by rfl) (by go_simp) ?_
 simp only [ls0, ls1]
 refine nilL ?_
 go_upto_region 5 with fail
 refine wl_lit ?_
 refine runL 17 (.slice none 0 0) rfl (by rfl) (by go_simp) ?_
 simp only [ls0, ls1]
 refine runL 18 (.slice none 0 0) rfl (by rfl) (by go_simp) ?_
 simp only [ls0, ls1]
 refine runL 19 (.int .i64 0) rfl (by rfl) (by go_simp) ?_
 simp only [ls0, ls1]
 refine runL 20 (.slice none 0 0) rfl (by rfl) (by go_simp) ?_
 simp only [ls0, ls1]
 refine runL 21 (.int .i64 (k : Int)) rfl (by rfl) (by go_simp) ?_
 simp only [ls0, ls1]
 obtain ⟨g, cg, w1, hrun, hu, hkc, hgg, bx⟩ := use_zeros k hk hk4 _ _
 refine runWL 22 (.slice (some ⟨g, 0, none⟩) k cg) w1 rfl (by rfl) (exec_append _ _ _ _ rfl _ _ _ rfl rfl hrun) ?_
 simp only [ls0, ls1]
 replace hu := hu.mono (Nat.le_trans hB0 hW.size)
 replace hW := hW.trans (bx.mono (Nat.le_trans hB0 hW.size))
 clear bx
 clear hrun
 refine runL 23 (.slice none 0 0) rfl (by rfl) (by go_simp) ?_
 simp only [ls0, ls1]
 refine runL 24 (.int .i64 0) rfl (by rfl) (by go_simp) ?_
 simp only [ls0, ls1]
 refine runL 25 (.slice (some ⟨g, 0, none⟩) 0 cg) rfl (by rfl) (by go_simp) ?_
 simp only [ls0, ls1]
 refine runL 0 (.slice (some ⟨g, 0, none⟩) 0 cg) rfl (by rfl) (by go_simp) ?_
 simp only [ls0]
 refine nilL ?_
 go_upto_region 6 with fail
 refine wl_lit ?_
 refine runL 26 (.slice (some ⟨g, 0, none⟩) 0 cg) rfl (by rfl) (by go_simp) ?_
 simp only [ls0, ls1]
 refine runL 4 (.slice (some ⟨g, 0, none⟩) 0 cg) rfl (by rfl) (by go_simp) ?_
 simp only [ls0, ls1]
 refine nilL ?_
 go_wp2_with fail
 go_ret
 exact ⟨_, _, rfl, hu, Nat.le_trans hB0 hgg, hW⟩
set_option maxRecDepth 8000 in
set_option maxHeartbeats 4000000 in
theorem uclip_any (g n c : Nat) (hn : n ≤ c) (hn4 : n ≤ 4) (w : World) :
  Calls Tryd.prog 76 #[.slice (some ⟨g, 0, none⟩) n c] w fun e w' => e = .returned (.slice (some ⟨g, 0, none⟩) n n) ∧ Below w.heap.size w w' := by
 have h1 : (n : Int) ≤ (c : Int) := by omega
 have h2 : ¬ (n : Int) < 0 := by omega
 have h3 : (0 : Int) ≤ (n : Int) := by omega
 obtain ⟨B0, hB0e⟩ : ∃ b, w.heap.size = b := ⟨_, rfl⟩
 rw [hB0e]
 have hW : Below B0 w w := by rw [← hB0e]; exact Below.refl _ _
 have hB0 : B0 ≤ w.heap.size := by omega
 have hB0q := Lib.hid hB0e
 clear hB0e
 go_enter Tryd.func76, Tryd.ntmps76
 go_upto_region 0 with fail
 refine wl_lit ?_
 refine runL 2 (.slice none 0 0) rfl (by rfl) (by go_simp) ?_
 simp only [ls0, ls1]
 refine nilL ?_
 go_upto_region 1 with fail
 refine wl_lit ?_
 refine runL 3 (.slice (some ⟨g, 0, none⟩) n c) rfl (by rfl) (by go_simp) ?_
 simp only [ls0, ls1]
 refine runL 4 (.slice (some ⟨g, 0, none⟩) n c) rfl (by rfl) (by go_simp) ?_
 simp only [ls0, ls1]
 refine runL 5 (.int .i64 (n)) rfl (by rfl) (by go_simp) ?_
 simp only [ls0, ls1]
 refine runL 6 (.slice (some ⟨g, 0, none⟩) n c) rfl (by rfl) (by go_simp) ?_
 simp only [ls0, ls1]
 refine runL 7 (.int .i64 (n)) rfl (by rfl) (by go_simp) ?_
 simp only [ls0, ls1]
 refine runL 8 (.slice (some ⟨g, 0, none⟩) n n) rfl (by rfl) (by go_simp) ?_
 simp only [ls0, ls1]
 refine runL 2 (.slice (some ⟨g, 0, none⟩) n n) rfl (by rfl) (by go_simp) ?_
 simp only [ls0, ls1]
 refine nilL ?_
 go_wp2_with fail
 go_ret
 exact ⟨rfl, hW⟩
set_option maxRecDepth 8000 in
set_option maxHeartbeats 4000000 in
theorem uconc_any (q : Nat) (A1 : Option Addr) (n1 c1 B1 : Nat) (xs1 : List Value) (A2 : Option Addr) (n2 c2 B2 : Nat) (xs2 : List Value) (h1 : n1 ≤ 2) (h2 : n2 ≤ 2) (h2p : 0 < n2) (ho1 : ∀ u ∈ xs1, u.oneCell' = true) (ho2 : ∀ u ∈ xs2, u.oneCell' = true) (w : World)
    (hq : Blk w q 78 #[.slice A1 n1 c1, .slice A2 n2 c2]) (hr1 : Reads w B1 20 A1 n1 xs1) (hB1 : B1 ≤ w.heap.size) (hr2 : Reads w B2 20 A2 n2 xs2) (hB2 : B2 ≤ w.heap.size) :
    Calls Tryd.prog 77 #[.slice (some ⟨q, 0, none⟩) 2 2] w fun e w' => ∃ g c, e = .returned (.slice (some ⟨g, 0, none⟩) (n1 + n2) c) ∧ OwnU w' w.heap.size (some ⟨g, 0, none⟩) (n1 + n2) c (xs1 ++ xs2) ∧ n1 + n2 ≤ c ∧ Below w.heap.size w w' := by
  obtain ⟨B0, hB0e⟩ : ∃ b, w.heap.size = b := ⟨_, rfl⟩
  rw [hB0e]
  have hW : Below B0 w w := by rw [← hB0e]; exact Below.refl _ _
  have hB0 : B0 ≤ w.heap.size := by omega
  have rq : Hid (∀ W, Below B0 w W → Blk W q 78 #[.slice A1 n1 c1, .slice A2 n2 c2]) := Lib.hid fun W hb => hq.below hb (by have := hq.lt; omega)
  have rd1 : Hid (∀ W, Below B0 w W → Reads W B1 20 A1 n1 xs1) := Lib.hid fun W hb => hr1.below (hb.mono (by omega))
  have rd2 : Hid (∀ W, Below B0 w W → Reads W B2 20 A2 n2 xs2) := Lib.hid fun W hb => hr2.below (hb.mono (by omega))
  have hBB1 : B1 ≤ B0 := by omega
  have hBB2 : B2 ≤ B0 := by omega
  clear hq hr1 hr2
  have hw1 : IntKind.i64.wrap (n1 : Int) = (n1 : Int) := IntWalk.i64_in _ (by omega)
  have hw2 : IntKind.i64.wrap ((n1 : Int) + (n2 : Int)) = (n1 : Int) + (n2 : Int) := IntWalk.i64_in _ (by omega)
  have hp1 : ¬ (n1 : Int) < 0 := by omega
  have hp2 : ¬ (n1 : Int) + (n2 : Int) < 0 := by omega
  have hB0q := Lib.hid hB0e
  clear hB0e
  go_enter Tryd.func77, Tryd.ntmps77
  go_upto_region 0 with fail
  refine wl_lit ?_
  refine runL 2 (.slice none 0 0) rfl (by rfl) (by go_simp) ?_
  simp only [ls0, ls1]
  refine nilL ?_
  go_upto_region 1 with fail
  refine wl_lit ?_
  refine runL 3 (.int .i64 0) rfl (by rfl) (by go_simp) ?_
  simp only [ls0, ls1]
  refine nilL ?_
  go_upto_region 2 with fail
  refine wl_lit ?_
  refine runL 9 (.slice (some ⟨q, 0, none⟩) 2 2) rfl (by rfl) (by go_simp) ?_
  simp only [ls0, ls1]
  refine runL 10 (.int .i64 2) rfl (by rfl) (by go_simp) ?_
  simp only [ls0, ls1]
  refine runL 11 (.int .i64 0) rfl (by rfl) (by go_simp) ?_
  simp only [ls0, ls1]
  refine nilL ?_
  go_wp2
  go_loopw [3, 11] (fun u v wr => ((u = .int .i64 0 ∧ v = .int .i64 0) ∨ (u = .int .i64 (n1 : Int) ∧ v = .int .i64 1) ∨ (u = .int .i64 ((n1 : Int) + (n2 : Int)) ∧ v = .int .i64 2)) ∧ Below B0 w wr) (fun _ v _ => 2 - (intOf v).toNat)
  case atStart => exact ⟨.inl ⟨rfl, rfl⟩, hW⟩
  case round =>
    clear hW
    obtain ⟨⟨rfl, rfl⟩ | ⟨rfl, rfl⟩ | ⟨rfl, rfl⟩, hW⟩ := hrel
    ·
      go_upto_region 4 with fail
      refine wl_lit ?_
      refine runL 13 (.pointer (some ⟨q, 0, none⟩)) rfl (by rfl) (by go_simp) ?_
      simp only [ls0, ls1]
      refine runL 14 (.slice (A1) n1 c1) rfl (by rfl) (exec_cell 78 (.tmp 13) rfl q 0 rfl (.slice (A1) n1 c1) _ Tryd.underlying78 rfl ((rq.out _ hW).cellIs 0 rfl)) ?_
      simp only [ls0, ls1]
      refine runL 5 (.slice (A1) n1 c1) rfl (by rfl) (by go_simp) ?_
      simp only [ls0, ls1]
      refine nilL ?_
      go_upto_region 5 with fail
      refine wl_lit ?_
      refine runL 15 (.int .i64 0) rfl (by rfl) (by go_simp) ?_
      simp only [ls0, ls1]
      refine runL 16 (.slice (A1) n1 c1) rfl (by rfl) (by go_simp) ?_
      simp only [ls0, ls1]
      refine runL 17 (.int .i64 (n1)) rfl (by rfl) (by go_simp) ?_
      simp only [ls0, ls1]
      refine runL 18 (.int .i64 (n1 : Int)) rfl (by rfl) (by go_simp) ?_
      simp only [ls0, ls1]
      refine runL 3 (.int .i64 (n1 : Int)) rfl (by rfl) (by go_simp) ?_
      simp only [ls0, ls1]
      refine nilL ?_
      go_upto_region 6 with fail
      refine wl_lit ?_
      refine runL 19 (.int .i64 (n1 : Int)) rfl (by rfl) (by go_simp) ?_
      simp only [ls0, ls1]
      refine runL 20 (.bool false) rfl (by rfl) (by go_simp) ?_
      simp only [ls0, ls1]
      refine nilL ?_
      go_wp2
      go_roundw
      case rel => exact ⟨.inr (.inl ⟨rfl, rfl⟩), hW⟩
      case measure => simp [intOf]
    ·
      go_upto_region 4 with fail
      refine wl_lit ?_
      refine runL 13 (.pointer (some ⟨q, 1, none⟩)) rfl (by rfl) (by go_simp) ?_
      simp only [ls0, ls1]
      refine runL 14 (.slice (A2) n2 c2) rfl (by rfl) (exec_cell 78 (.tmp 13) rfl q 1 rfl (.slice (A2) n2 c2) _ Tryd.underlying78 rfl ((rq.out _ hW).cellIs 1 rfl)) ?_
      simp only [ls0, ls1]
      refine runL 5 (.slice (A2) n2 c2) rfl (by rfl) (by go_simp) ?_
      simp only [ls0, ls1]
      refine nilL ?_
      go_upto_region 5 with fail
      refine wl_lit ?_
      refine runL 15 (.int .i64 (n1 : Int)) rfl (by rfl) (by go_simp) ?_
      simp only [ls0, ls1]
      refine runL 16 (.slice (A2) n2 c2) rfl (by rfl) (by go_simp) ?_
      simp only [ls0, ls1]
      refine runL 17 (.int .i64 (n2)) rfl (by rfl) (by go_simp) ?_
      simp only [ls0, ls1]
      refine runL 18 (.int .i64 ((n1 : Int) + (n2 : Int))) rfl (by rfl) (by go_simp) ?_
      simp only [ls0, ls1]
      refine runL 3 (.int .i64 ((n1 : Int) + (n2 : Int))) rfl (by rfl) (by go_simp) ?_
      simp only [ls0, ls1]
      refine nilL ?_
      go_upto_region 6 with fail
      refine wl_lit ?_
      refine runL 19 (.int .i64 ((n1 : Int) + (n2 : Int))) rfl (by rfl) (by go_simp) ?_
      simp only [ls0, ls1]
      refine runL 20 (.bool false) rfl (by rfl) (by go_simp) ?_
      simp only [ls0, ls1]
      refine nilL ?_
      go_wp2
      go_roundw
      case rel => exact ⟨.inr (.inr ⟨rfl, rfl⟩), hW⟩
      case measure => simp [intOf]
    ·
      obtain ⟨N, hN⟩ : ∃ N, n1 + n2 = N := ⟨_, rfl⟩
      have hNI : (n1 : Int) + (n2 : Int) = (N : Int) := by omega
      rw [hNI]
      go_upto_region 9 with fail
      refine wl_lit ?_
      refine runL 23 (.int .i64 (N : Int)) rfl (by rfl) (by go_simp) ?_
      simp only [ls0, ls1]
      refine callL 24 rfl (by rfl) (fun K hK => wp_callF 83 #[.slice none 0 0, .int .i64 (N : Int)] (by go_simp) (ugrow_any N (by omega) (by omega) _) ?_)
      rintro e w1 ⟨g, cg, rfl, hu, hgg, bx⟩
      clear hgg
      replace hu := hu.mono (Nat.le_trans hB0 hW.size)
      replace hW := hW.trans (bx.mono (Nat.le_trans hB0 hW.size))
      clear bx
      refine ⟨_, rfl, hK.out _ _ ?_⟩
      clear hK K
      simp only [ls0, ls1]
      refine runL 6 (.slice (some ⟨g, 0, none⟩) 0 cg) rfl (by rfl) (by go_simp) ?_
      simp only [ls0, ls1]
      refine nilL ?_
      go_upto_region 10 with fail
      refine wl_lit ?_
      refine runL 25 (.slice (some ⟨q, 0, none⟩) 2 2) rfl (by rfl) (by go_simp) ?_
      simp only [ls0, ls1]
      refine runL 26 (.int .i64 2) rfl (by rfl) (by go_simp) ?_
      simp only [ls0, ls1]
      refine runL 27 (.int .i64 0) rfl (by rfl) (by go_simp) ?_
      simp only [ls0, ls1]
      refine nilL ?_
      go_wp2
      go_loopw [6, 27] (fun u v wr => ((u = .slice (some ⟨g, 0, none⟩) 0 cg ∧ v = .int .i64 0 ∧ wr.ownsRow B0 84 20 u 0 []) ∨ (v = .int .i64 1 ∧ wr.ownsRow B0 84 20 u n1 xs1) ∨ (v = .int .i64 2 ∧ wr.ownsRow B0 84 20 u (n1 + n2) (xs1 ++ xs2))) ∧ Below B0 w wr) (fun _ v _ => 2 - (intOf v).toNat)
      case atStart => exact ⟨.inl ⟨rfl, rfl, hu⟩, hW⟩
      case round =>
        clear hu hW
        obtain ⟨⟨rfl, rfl, hu⟩ | ⟨rfl, hu⟩ | ⟨rfl, hu⟩, hW⟩ := hrel
        ·
          go_upto_region 12 with fail
          refine wl_lit ?_
          refine runL 29 (.pointer (some ⟨q, 0, none⟩)) rfl (by rfl) (by go_simp) ?_
          simp only [ls0, ls1]
          refine runL 30 (.slice (A1) n1 c1) rfl (by rfl) (exec_cell 78 (.tmp 29) rfl q 0 rfl (.slice (A1) n1 c1) _ Tryd.underlying78 rfl ((rq.out _ hW).cellIs 0 rfl)) ?_
          simp only [ls0, ls1]
          refine runL 8 (.slice (A1) n1 c1) rfl (by rfl) (by go_simp) ?_
          simp only [ls0, ls1]
          refine nilL ?_
          obtain ⟨i0, hi0, hz0, hz1, hz2⟩ := info_parts use_info
          go_upto_region 13 with fail
          refine wl_lit ?_
          refine runL 31 (.slice (some ⟨g, 0, none⟩) 0 cg) rfl (by rfl) (by go_simp) ?_
          simp only [ls0, ls1]
          refine runL 32 (.slice A1 n1 c1) rfl (by rfl) (by go_simp) ?_
          simp only [ls0, ls1]
          obtain ⟨v2, w2, hap, how, hgr, hor⟩ := run_append_any (P := Tryd.prog) wr B0 78 78 84 i0 _ 20 40 Tryd.underlying78 hi0 hz0 hz1 hz2 rfl (by decide) (.slice (some ⟨g, 0, none⟩) 0 cg) 0 [] hu B1 A1 n1 c1 xs1 (rd1.out _ hW) ho1 (by unfold maxLen; omega) (by omega) (Nat.le_trans hB0 hW.size)
          have hW2 := hW.grown hgr (Nat.le_trans hB0 hW.size) (fun j hj => (World.ownsRow.lt hu j hj).1)
          clear hW hgr hor hu
          refine runWL 33 v2 w2 rfl (by rfl) (exec_append _ _ _ _ rfl _ _ _ rfl rfl hap) ?_
          simp only [ls0, ls1]
          refine runL 6 v2 rfl (by rfl) (by go_simp) ?_
          simp only [ls0, ls1]
          refine nilL ?_
          have howq := Lib.hid how
          have hWq := Lib.hid hW2
          clear how hW2 hap
          go_wp2
          go_roundw
          case rel => exact ⟨.inr (.inl ⟨rfl, by simpa using howq.out⟩), hWq.out⟩
          case measure => simp [intOf]
        ·
          go_upto_region 12 with fail
          refine wl_lit ?_
          refine runL 29 (.pointer (some ⟨q, 1, none⟩)) rfl (by rfl) (by go_simp) ?_
          simp only [ls0, ls1]
          refine runL 30 (.slice (A2) n2 c2) rfl (by rfl) (exec_cell 78 (.tmp 29) rfl q 1 rfl (.slice (A2) n2 c2) _ Tryd.underlying78 rfl ((rq.out _ hW).cellIs 1 rfl)) ?_
          simp only [ls0, ls1]
          refine runL 8 (.slice (A2) n2 c2) rfl (by rfl) (by go_simp) ?_
          simp only [ls0, ls1]
          refine nilL ?_
          obtain ⟨i0, hi0, hz0, hz1, hz2⟩ := info_parts use_info
          go_upto_region 13 with fail
          refine wl_lit ?_
          refine runL 31 (u6) rfl (by rfl) (by go_simp) ?_
          simp only [ls0, ls1]
          refine runL 32 (.slice A2 n2 c2) rfl (by rfl) (by go_simp) ?_
          simp only [ls0, ls1]
          obtain ⟨v2, w2, hap, how, hgr, hor⟩ := run_append_any (P := Tryd.prog) wr B0 78 78 84 i0 _ 20 40 Tryd.underlying78 hi0 hz0 hz1 hz2 rfl (by decide) (u6) n1 xs1 hu B2 A2 n2 c2 xs2 (rd2.out _ hW) ho2 (by unfold maxLen; omega) (by omega) (Nat.le_trans hB0 hW.size)
          have hW2 := hW.grown hgr (Nat.le_trans hB0 hW.size) (fun j hj => (World.ownsRow.lt hu j hj).1)
          clear hW hgr hor hu
          refine runWL 33 v2 w2 rfl (by rfl) (exec_append _ _ _ _ rfl _ _ _ rfl rfl hap) ?_
          simp only [ls0, ls1]
          refine runL 6 v2 rfl (by rfl) (by go_simp) ?_
          simp only [ls0, ls1]
          refine nilL ?_
          have howq := Lib.hid how
          have hWq := Lib.hid hW2
          clear how hW2 hap
          go_wp2
          go_roundw
          case rel => exact ⟨.inr (.inr ⟨rfl, howq.out⟩), hWq.out⟩
          case measure => simp [intOf]
        ·
          obtain ⟨gr, cr, rfl, hcr⟩ : ∃ gr cr, u6 = .slice (some ⟨gr, 0, none⟩) (n1 + n2) cr ∧ n1 + n2 ≤ cr := by
            rcases hu.2 with ⟨_, h0⟩ | ⟨g2, cap, cur, e, _, _, hc, _⟩
            · omega
            · exact ⟨g2, cap, e, hc⟩
          go_upto_region 15 with fail
          refine wl_lit ?_
          refine runL 35 (.slice (some ⟨gr, 0, none⟩) (n1 + n2) cr) rfl (by rfl) (by go_simp) ?_
          simp only [ls0, ls1]
          refine runL 2 (.slice (some ⟨gr, 0, none⟩) (n1 + n2) cr) rfl (by rfl) (by go_simp) ?_
          simp only [ls0, ls1]
          refine nilL ?_
          go_wp2_with fail
          go_ret
          exact ⟨_, _, rfl, hu, hcr, hW⟩
end Go.Proofs.YtcdgcaljlmondaaDoor
/-
  The walks of ledgers.joined, Add over at most two uses. (Printed by mktop2.py.)
-/
namespace Go.Proofs.YtcdgcaljlmondaaDoor
set_option maxRecDepth 16384
open Go.RowKit Sh
theorem sliceU_info : (Tryd.prog.info? 78).map (fun i => (i.zero, i.size, i.bytes)) = some (some (.slice none 0 0), 1, 24) := by kernel_rfl
theorem bsU_2 (A0 : Option Addr) (n0 c0 : Nat) (A1 : Option Addr) (n1 c1 : Nat) (W : World) : (Instr.buildSlice 158 2 #[(0, .slice A0 n0 c0), (1, .slice A1 n1 c1)]).run Tryd.prog W = .ok (.slice (some ⟨W.heap.size, 0, none⟩) 2 2) (W.alloc (.cells #[.slice A0 n0 c0, .slice A1 n1 c1] 78)) := by
 obtain ⟨ie, hie, h0, h1, h2⟩ := info_parts sliceU_info
 refine run_buildSlice W _ 78 2 _ _ ie _ Tryd.underlying158 hie h0 (by rw [h1]; decide) (by rw [h1]; decide) ?_
 rw [h1]; kernel_rfl
theorem bsU_1 (ky : List Nat) (s c a b : Nat) (hkl : ky.length = 16) (W : World) : (Instr.buildSlice 78 1 #[(0, .agg (useV ky s c a b))]).run Tryd.prog W = .ok (.slice (some ⟨W.heap.size, 0, none⟩) 1 1) (W.alloc (.cells (useV ky s c a b) 84)) := by
 obtain ⟨ie, hie, h0, h1, h2⟩ := info_parts use_info
 refine run_buildSlice W _ 84 1 _ _ ie _ Tryd.underlying78 hie h0 (by rw [h1]; decide) (by rw [h1]; decide) ?_
 rw [h1]
 have e : ((Array.range (1 * 20)).map ((Value.agg (useV (List.replicate 16 0) 0 0 0 0)).cells[· % (Value.agg (useV (List.replicate 16 0) 0 0 0 0)).cells.size]!)) = (useL (List.replicate 16 0) 0 0 0 0).toArray := by kernel_rfl
 rw [e]
 show Instr.fill _ _ [(0, Value.agg (useV ky s c a b))] = _
 rw [fill_step _ _ 0 _ (useL ky s c a b) 0 20 _ rfl rfl (useL_len hkl) (by rw [useL_len List.length_replicate]; exact Nat.le_refl _)]
 simp only [Instr.fill, List.take_zero, List.nil_append]
 congr 1
 rw [List.drop_eq_nil_of_le (by rw [useL_len List.length_replicate]; exact Nat.le_refl _), List.append_nil]; rfl
theorem led_sz (v : Value) : (Tryd.prog.info? 80).map (·.size) = some (#[v] : Array Value).size := by kernel_rfl
theorem useReads {w : World} {g : Nat} {ky : List Nat} {s c a b : Nat} (h : Blk w g 84 (useV ky s c a b)) (hk : ky.length = 16) : Reads w (g + 1) 20 (some ⟨g, 0, none⟩) 1 (useL ky s c a b) :=
 ⟨by rw [useL_len hk], fun _ => ⟨_, rfl, Nat.lt_succ_self _, fun j v hv => by rw [Addr.add_mid, Nat.zero_add, h.cell]; simpa [useV] using hv⟩⟩

set_option maxRecDepth 8000 in
set_option maxHeartbeats 4000000 in
theorem ujoin_any (ky : List Nat) (s c a b : Nat) (_hkl : ky.length = 16) (_hkb : Byt ky) (_hab : a ≤ b) (A1 : Option Addr) (n1 c1 B1 : Nat) (h1 : n1 ≤ 1) (m B2 N : Nat) (hN : n1 + 1 = N) (w : World) (hr1 : Reads w B1 20 A1 n1 ((List.replicate n1 (useL ky s c a b)).flatten)) (hB1 : B1 ≤ w.heap.size) (hr2 : Reads w B2 20 (some ⟨m, 0, none⟩) 1 (useL ky s c a b)) (hB2 : B2 ≤ w.heap.size) :
  Calls Tryd.prog 64 #[.agg #[.slice A1 n1 c1], .slice (some ⟨m, 0, none⟩) 1 1] w fun e w' => ∃ g, e = .returned (.tuple #[.agg #[.slice (some ⟨g, 0, none⟩) N N], .int .i64 0]) ∧ (∃ cg, OwnU w' w.heap.size (some ⟨g, 0, none⟩) N cg ((List.replicate N (useL ky s c a b)).flatten)) ∧ Below w.heap.size w w' := by
 have hNI : (n1 : Int) + 1 = (N : Int) := by omega
 have hN2 : N ≤ 2 := by omega
 have hwN : IntKind.i64.wrap (N : Int) = (N : Int) := IntWalk.i64_in _ (by omega)
 have hNl : ¬ (65536 : Int) < (N : Int) := by omega
 have hfl : (List.replicate n1 (useL ky s c a b)).flatten ++ useL ky s c a b = (List.replicate N (useL ky s c a b)).flatten := by
  rw [← hN, List.replicate_succ', List.flatten_append]; simp
 have hflq := Lib.hid hfl
 have ho1 : ∀ u ∈ (List.replicate n1 (useL ky s c a b)).flatten, u.oneCell' = true := fun u hu => by
  obtain ⟨l, hl, hul⟩ := List.mem_flatten.1 hu
  rw [(List.mem_replicate.1 hl).2] at hul
  exact useL_one u hul
 have ho1q := Lib.hid ho1
 clear hfl ho1
 obtain ⟨B0, hB0e⟩ : ∃ b, w.heap.size = b := ⟨_, rfl⟩
 rw [hB0e]
 have hW : Below B0 w w := by rw [← hB0e]; exact Below.refl _ _
 have hB0 : B0 ≤ w.heap.size := by omega
 have rd1 : Hid (∀ W, Below B0 w W → Reads W B1 20 A1 n1 ((List.replicate n1 (useL ky s c a b)).flatten)) := Lib.hid fun W hb => hr1.below (hb.mono (by omega))
 have hBB1 : B1 ≤ B0 := by omega
 have rd2 : Hid (∀ W, Below B0 w W → Reads W B2 20 (some ⟨m, 0, none⟩) 1 (useL ky s c a b)) := Lib.hid fun W hb => hr2.below (hb.mono (by omega))
 have hBB2 : B2 ≤ B0 := by omega
 clear hr1 hr2
 have hB0q := Lib.hid hB0e
 clear hB0e
 go_enter Tryd.func64, Tryd.ntmps64
 go_upto_region 0 with fail
 refine wl_lit ?_
 refine runWL 2 (.pointer (some ⟨w.heap.size, 0, none⟩)) (w.alloc (.cells (#[.slice (A1) n1 c1]) 80)) rfl (by rfl) (exec_box 80 (.tmp 0) rfl (.agg (#[.slice (A1) n1 c1])) rfl) ?_
 simp only [ls0, ls1]
 have lw_p2 := Nat.le_trans hB0 hW.size
 have hp2 : Blk (w.alloc (.cells (#[.slice (A1) n1 c1]) 80)) w.heap.size 80 (#[.slice (A1) n1 c1]) := Blk.new _ _ _
 replace hW := hW.alloc (Nat.le_trans hB0 hW.size) (.cells (#[.slice (A1) n1 c1]) 80)
 generalize w.alloc (.cells (#[.slice (A1) n1 c1]) 80) = w1 at *
 generalize w.heap.size = p2 at hp2 lw_p2  ⊢
 refine runWL 4 (.pointer (some ⟨w1.heap.size, 0, none⟩)) (w1.alloc (.cells (#[.slice none 0 0]) 80)) rfl (by rfl) (exec_allocV 80 rfl _ (zv_Ledger _)) ?_
 simp only [ls0, ls1]
 have lp2_p4 := hp2.lt
 have lw_p4 := Nat.le_trans hB0 hW.size
 have hp4 : Blk (w1.alloc (.cells (#[.slice none 0 0]) 80)) w1.heap.size 80 (#[.slice none 0 0]) := Blk.new _ _ _
 replace hp2 := hp2.alloc (.cells (#[.slice none 0 0]) 80)
 replace hW := hW.alloc (Nat.le_trans hB0 hW.size) (.cells (#[.slice none 0 0]) 80)
 generalize w1.alloc (.cells (#[.slice none 0 0]) 80) = w2 at *
 generalize w1.heap.size = p4 at hp4 lw_p4 lp2_p4 ⊢
 refine runL 5 (.int .i64 0) rfl (by rfl) (by go_simp) ?_
 simp only [ls0, ls1]
 refine nilL ?_
 go_upto_region 1 with fail
 refine wl_lit ?_
 refine runL 6 (.pointer (some ⟨p2, 0, none⟩)) rfl (by rfl) (by go_simp) ?_
 simp only [ls0, ls1]
 refine runL 7 (.slice (A1) n1 c1) rfl (by rfl) (exec_cell 78 (.tmp 6) rfl p2 0 rfl (.slice (A1) n1 c1) _ Tryd.underlying78 rfl (hp2.cellIs 0 rfl)) ?_
 simp only [ls0, ls1]
 refine runL 8 (.int .i64 (n1)) rfl (by rfl) (by go_simp) ?_
 simp only [ls0, ls1]
 refine runL 9 (.slice (some ⟨m, 0, none⟩) 1 1) rfl (by rfl) (by go_simp) ?_
 simp only [ls0, ls1]
 refine runL 10 (.int .i64 1) rfl (by rfl) (by go_simp) ?_
 simp only [ls0, ls1]
 refine runL 11 (.int .i64 (N : Int)) rfl (by rfl) (by go_simp) ?_
 simp only [ls0, ls1]
 refine runL 12 (.bool false) rfl (by rfl) (by go_simp) ?_
 simp only [ls0, ls1]
 refine nilL ?_
 go_upto_region 3 with fail
 refine wl_lit ?_
 refine runL 14 (.pointer (some ⟨p2, 0, none⟩)) rfl (by rfl) (by go_simp) ?_
 simp only [ls0, ls1]
 refine runL 15 (.slice (A1) n1 c1) rfl (by rfl) (exec_cell 78 (.tmp 14) rfl p2 0 rfl (.slice (A1) n1 c1) _ Tryd.underlying78 rfl (hp2.cellIs 0 rfl)) ?_
 simp only [ls0, ls1]
 refine runL 16 (.slice (some ⟨m, 0, none⟩) 1 1) rfl (by rfl) (by go_simp) ?_
 simp only [ls0, ls1]
 refine runWL 17 (.slice (some ⟨w2.heap.size, 0, none⟩) 2 2) (w2.alloc (.cells (#[.slice (A1) n1 c1, .slice (some ⟨m, 0, none⟩) 1 1]) 78)) rfl (by rfl) (exec_bslice 158 2 _ rfl _ (by exact bsU_2 A1 n1 c1 (some ⟨m, 0, none⟩) 1 1 _)) ?_
 simp only [ls0, ls1]
 have lp2_q1 := hp2.lt
 have lp4_q1 := hp4.lt
 have lw_q1 := Nat.le_trans hB0 hW.size
 have hq1 : Blk (w2.alloc (.cells (#[.slice (A1) n1 c1, .slice (some ⟨m, 0, none⟩) 1 1]) 78)) w2.heap.size 78 (#[.slice (A1) n1 c1, .slice (some ⟨m, 0, none⟩) 1 1]) := Blk.new _ _ _
 replace hp2 := hp2.alloc (.cells (#[.slice (A1) n1 c1, .slice (some ⟨m, 0, none⟩) 1 1]) 78)
 replace hp4 := hp4.alloc (.cells (#[.slice (A1) n1 c1, .slice (some ⟨m, 0, none⟩) 1 1]) 78)
 replace hW := hW.alloc (Nat.le_trans hB0 hW.size) (.cells (#[.slice (A1) n1 c1, .slice (some ⟨m, 0, none⟩) 1 1]) 78)
 generalize w2.alloc (.cells (#[.slice (A1) n1 c1, .slice (some ⟨m, 0, none⟩) 1 1]) 78) = w3 at *
 generalize w2.heap.size = q1 at hq1 lw_q1 lp2_q1 lp4_q1 ⊢
 refine callL 18 rfl (by rfl) (fun K hK => wp_callF 77 #[.slice (some ⟨q1, 0, none⟩) 2 2] (by go_simp) (uconc_any q1 A1 n1 c1 B1 _ (some ⟨m, 0, none⟩) 1 1 B2 _ (by omega) (by decide) (by decide) ho1q.out useL_one _ hq1 (rd1.out _ hW) (Nat.le_trans hBB1 (Nat.le_trans hB0 hW.size)) (rd2.out _ hW) (Nat.le_trans hBB2 (Nat.le_trans hB0 hW.size))) ?_)
 rintro e w4 ⟨g, cg, rfl, hu, hcg, bx⟩
 rw [hN] at hcg
 have nu_p4 := hu.off_lt hp4.lt
 have nu_p2 := hu.off_lt hp2.lt
 replace hu := hu.mono (Nat.le_trans hB0 hW.size)
 replace hp2 := hp2.below bx hp2.lt
 replace hp4 := hp4.below bx hp4.lt
 replace hq1 := hq1.below bx hq1.lt
 replace hW := hW.trans (bx.mono (Nat.le_trans hB0 hW.size))
 clear bx
 rw [hflq.out, hN] at hu
 refine ⟨_, rfl, hK.out _ _ ?_⟩
 clear hK K
 simp only [ls0, ls1]
 refine callL 19 rfl (by rfl) (fun K hK => wp_callF 76 #[.slice (some ⟨g, 0, none⟩) N cg] (by go_simp) (uclip_any g N cg hcg (by omega) _) ?_)
 rintro e w5 ⟨rfl, bx⟩
 replace hp2 := hp2.below bx hp2.lt
 replace hp4 := hp4.below bx hp4.lt
 replace hq1 := hq1.below bx hq1.lt
 replace hu := hu.below bx
 replace hW := hW.trans (bx.mono (Nat.le_trans hB0 hW.size))
 clear bx
 refine ⟨_, rfl, hK.out _ _ ?_⟩
 clear hK K
 simp only [ls0, ls1]
 refine runL 20 (.agg (#[.slice (some ⟨g, 0, none⟩) N N])) rfl (by rfl) (exec_build 80 _ rfl (#[.slice (some ⟨g, 0, none⟩) N N]) (by kernel_rfl)) ?_
 simp only [ls0, ls1]
 refine runSL (w5.setRow p4 (#[.slice (some ⟨g, 0, none⟩) N N])) rfl (by rfl) (exec_storeRow 80 (.tmp 4) (.tmp 20) rfl p4 rfl (#[.slice (some ⟨g, 0, none⟩) N N]) rfl 80 (#[.slice none 0 0]) hp4 (sz_eq (led_sz _) (led_sz _)) (led_sz _) (by simp [Value.oneCell'])) ?_
 replace hp2 := hp2.rowFar (show p4 ≠ p2 from (by omega)) (#[.slice (some ⟨g, 0, none⟩) N N])
 replace hq1 := hq1.rowFar (show p4 ≠ q1 from (by omega)) (#[.slice (some ⟨g, 0, none⟩) N N])
 replace hu := hu.rowFar nu_p4 (#[.slice (some ⟨g, 0, none⟩) N N])
 replace hp4 := hp4.row (#[.slice (some ⟨g, 0, none⟩) N N])
 replace hW := below_setRow hW lw_p4 (#[.slice (some ⟨g, 0, none⟩) N N])
 generalize w5.setRow p4 (#[.slice (some ⟨g, 0, none⟩) N N]) = w6 at *
 refine runL 5 (.int .i64 0) rfl (by rfl) (by go_simp) ?_
 simp only [ls0, ls1]
 refine nilL ?_
 go_wp2_with fail
 exact bodyPost_ret (results_row_tmp rfl _ _ p4 80 (#[.slice (some ⟨g, 0, none⟩) N N]) _ (.int .i64 0) rfl hp4 (by exact Tryd.underlying80) rfl (led_sz _) rfl) rfl ⟨_, rfl, ⟨_, hu⟩, hW⟩
set_option maxRecDepth 8000 in
set_option maxHeartbeats 4000000 in
theorem ladd_any (ky : List Nat) (s c a b : Nat) (hkl : ky.length = 16) (hkb : Byt ky) (hab : a ≤ b) (A1 : Option Addr) (n1 c1 B1 : Nat) (h1 : n1 ≤ 1) (N : Nat) (hN : n1 + 1 = N) (w : World) (hr1 : Reads w B1 20 A1 n1 ((List.replicate n1 (useL ky s c a b)).flatten)) (hB1 : B1 ≤ w.heap.size) :
  Calls Tryd.prog 27 #[.agg #[.slice A1 n1 c1], .agg (useV ky s c a b)] w fun e w' => ∃ g, e = .returned (.tuple #[.agg #[.slice (some ⟨g, 0, none⟩) N N], .int .i64 0]) ∧ (∃ cg, OwnU w' w.heap.size (some ⟨g, 0, none⟩) N cg ((List.replicate N (useL ky s c a b)).flatten)) ∧ Below w.heap.size w w' := by
 obtain ⟨B0, hB0e⟩ : ∃ b, w.heap.size = b := ⟨_, rfl⟩
 rw [hB0e]
 have hW : Below B0 w w := by rw [← hB0e]; exact Below.refl _ _
 have hB0 : B0 ≤ w.heap.size := by omega
 have rd1 : Hid (∀ W, Below B0 w W → Reads W B1 20 A1 n1 ((List.replicate n1 (useL ky s c a b)).flatten)) := Lib.hid fun W hb => hr1.below (hb.mono (by omega))
 have hBB1 : B1 ≤ B0 := by omega
 clear hr1
 have hB0q := Lib.hid hB0e
 clear hB0e
 go_enter Tryd.func27, Tryd.ntmps27
 go_upto_region 0 with fail
 refine wl_lit ?_
 refine runWL 2 (.pointer (some ⟨w.heap.size, 0, none⟩)) (w.alloc (.cells (#[.slice (A1) n1 c1]) 80)) rfl (by rfl) (exec_box 80 (.tmp 0) rfl (.agg (#[.slice (A1) n1 c1])) rfl) ?_
 simp only [ls0, ls1]
 have lw_p2 := Nat.le_trans hB0 hW.size
 have hp2 : Blk (w.alloc (.cells (#[.slice (A1) n1 c1]) 80)) w.heap.size 80 (#[.slice (A1) n1 c1]) := Blk.new _ _ _
 replace hW := hW.alloc (Nat.le_trans hB0 hW.size) (.cells (#[.slice (A1) n1 c1]) 80)
 generalize w.alloc (.cells (#[.slice (A1) n1 c1]) 80) = w1 at *
 generalize w.heap.size = p2 at hp2 lw_p2  ⊢
 refine runWL 3 (.pointer (some ⟨w1.heap.size, 0, none⟩)) (w1.alloc (.cells (useV ky s c a b) 84)) rfl (by rfl) (exec_box 84 (.tmp 1) rfl (.agg (useV ky s c a b)) rfl) ?_
 simp only [ls0, ls1]
 have lp2_p3 := hp2.lt
 have lw_p3 := Nat.le_trans hB0 hW.size
 have hp3 : Blk (w1.alloc (.cells (useV ky s c a b) 84)) w1.heap.size 84 (useV ky s c a b) := Blk.new _ _ _
 replace hp2 := hp2.alloc (.cells (useV ky s c a b) 84)
 replace hW := hW.alloc (Nat.le_trans hB0 hW.size) (.cells (useV ky s c a b) 84)
 generalize w1.alloc (.cells (useV ky s c a b) 84) = w2 at *
 generalize w1.heap.size = p3 at hp3 lw_p3 lp2_p3 ⊢
 refine runWL 4 (.pointer (some ⟨w2.heap.size, 0, none⟩)) (w2.alloc (.cells (#[.slice none 0 0]) 80)) rfl (by rfl) (exec_allocV 80 rfl _ (zv_Ledger _)) ?_
 simp only [ls0, ls1]
 have lp2_p4 := hp2.lt
 have lp3_p4 := hp3.lt
 have lw_p4 := Nat.le_trans hB0 hW.size
 have hp4 : Blk (w2.alloc (.cells (#[.slice none 0 0]) 80)) w2.heap.size 80 (#[.slice none 0 0]) := Blk.new _ _ _
 replace hp2 := hp2.alloc (.cells (#[.slice none 0 0]) 80)
 replace hp3 := hp3.alloc (.cells (#[.slice none 0 0]) 80)
 replace hW := hW.alloc (Nat.le_trans hB0 hW.size) (.cells (#[.slice none 0 0]) 80)
 generalize w2.alloc (.cells (#[.slice none 0 0]) 80) = w3 at *
 generalize w2.heap.size = p4 at hp4 lw_p4 lp2_p4 lp3_p4 ⊢
 refine runL 5 (.int .i64 0) rfl (by rfl) (by go_simp) ?_
 simp only [ls0, ls1]
 refine nilL ?_
 go_upto_region 1 with fail
 refine wl_lit ?_
 refine runL 7 (.agg (#[.slice (A1) n1 c1])) rfl (by rfl) (exec_row 80 (.tmp 2) rfl p2 rfl 80 (#[.slice (A1) n1 c1]) _ hp2 (by exact Tryd.underlying80) rfl (led_sz _)) ?_
 simp only [ls0, ls1]
 refine callL 8 rfl (by rfl) (fun K hK => wp_callF 62 #[.agg (#[.slice (A1) n1 c1])] (by go_simp) (lcheck_any ky s c a b hkl hkb hab A1 n1 c1 B1 (by omega) _ (rd1.out _ hW) (Nat.le_trans hBB1 (Nat.le_trans hB0 hW.size))) ?_)
 rintro e w4 ⟨rfl, bx⟩
 replace hp2 := hp2.below bx hp2.lt
 replace hp3 := hp3.below bx hp3.lt
 replace hp4 := hp4.below bx hp4.lt
 replace hW := hW.trans (bx.mono (Nat.le_trans hB0 hW.size))
 clear bx
 refine ⟨_, rfl, hK.out _ _ ?_⟩
 clear hK K
 simp only [ls0, ls1]
 refine runL 6 (.int .i64 0) rfl (by rfl) (by go_simp) ?_
 simp only [ls0, ls1]
 refine nilL ?_
 go_upto_region 2 with fail
 refine wl_lit ?_
 refine runL 9 (.int .i64 0) rfl (by rfl) (by go_simp) ?_
 simp only [ls0, ls1]
 refine runL 10 (.bool false) rfl (by rfl) (by go_simp) ?_
 simp only [ls0, ls1]
 refine nilL ?_
 go_upto_region 4 with fail
 refine wl_lit ?_
 refine runL 13 (.agg (useV ky s c a b)) rfl (by rfl) (exec_row 84 (.tmp 3) rfl p3 rfl 84 (useV ky s c a b) _ hp3 (by exact Tryd.underlying84) rfl (useV_sz _ _ _ _ hkl)) ?_
 simp only [ls0, ls1]
 refine callL 14 rfl (by rfl) (fun K hK => wp_callF 63 #[.agg (useV ky s c a b)] (by go_simp) (uvalid_any ky s c a b hkl hkb hab _) ?_)
 rintro e w5 ⟨rfl, bx⟩
 replace hp2 := hp2.below bx hp2.lt
 replace hp3 := hp3.below bx hp3.lt
 replace hp4 := hp4.below bx hp4.lt
 replace hW := hW.trans (bx.mono (Nat.le_trans hB0 hW.size))
 clear bx
 refine ⟨_, rfl, hK.out _ _ ?_⟩
 clear hK K
 simp only [ls0, ls1]
 refine runL 15 (.bool false) rfl (by rfl) (by go_simp) ?_
 simp only [ls0, ls1]
 refine nilL ?_
 go_upto_region 6 with fail
 refine wl_lit ?_
 refine runL 17 (.agg (#[.slice (A1) n1 c1])) rfl (by rfl) (exec_row 80 (.tmp 2) rfl p2 rfl 80 (#[.slice (A1) n1 c1]) _ hp2 (by exact Tryd.underlying80) rfl (led_sz _)) ?_
 simp only [ls0, ls1]
 refine runL 18 (.agg (useV ky s c a b)) rfl (by rfl) (exec_row 84 (.tmp 3) rfl p3 rfl 84 (useV ky s c a b) _ hp3 (by exact Tryd.underlying84) rfl (useV_sz _ _ _ _ hkl)) ?_
 simp only [ls0, ls1]
 refine runWL 19 (.slice (some ⟨w5.heap.size, 0, none⟩) 1 1) (w5.alloc (.cells (useV ky s c a b) 84)) rfl (by rfl) (exec_bslice 78 1 _ rfl _ (by exact bsU_1 ky s c a b hkl _)) ?_
 simp only [ls0, ls1]
 have lp2_q1 := hp2.lt
 have lp3_q1 := hp3.lt
 have lp4_q1 := hp4.lt
 have lw_q1 := Nat.le_trans hB0 hW.size
 have hq1 : Blk (w5.alloc (.cells (useV ky s c a b) 84)) w5.heap.size 84 (useV ky s c a b) := Blk.new _ _ _
 replace hp2 := hp2.alloc (.cells (useV ky s c a b) 84)
 replace hp3 := hp3.alloc (.cells (useV ky s c a b) 84)
 replace hp4 := hp4.alloc (.cells (useV ky s c a b) 84)
 replace hW := hW.alloc (Nat.le_trans hB0 hW.size) (.cells (useV ky s c a b) 84)
 generalize w5.alloc (.cells (useV ky s c a b) 84) = w6 at *
 generalize w5.heap.size = q1 at hq1 lw_q1 lp2_q1 lp3_q1 lp4_q1 ⊢
 refine callL 20 rfl (by rfl) (fun K hK => wp_callF 64 #[.agg (#[.slice (A1) n1 c1]), .slice (some ⟨q1, 0, none⟩) 1 1] (by go_simp) (ujoin_any ky s c a b hkl hkb hab A1 n1 c1 B1 h1 q1 _ N hN _ (rd1.out _ hW) (Nat.le_trans hBB1 (Nat.le_trans hB0 hW.size)) (useReads hq1 hkl) hq1.lt) ?_)
 rintro e w7 ⟨g, rfl, ⟨cg, hu⟩, bx⟩
 have nu_p4 := hu.off_lt hp4.lt
 replace hu := hu.mono (Nat.le_trans hB0 hW.size)
 replace hp2 := hp2.below bx hp2.lt
 replace hp3 := hp3.below bx hp3.lt
 replace hp4 := hp4.below bx hp4.lt
 replace hq1 := hq1.below bx hq1.lt
 replace hW := hW.trans (bx.mono (Nat.le_trans hB0 hW.size))
 clear bx
 refine ⟨_, rfl, hK.out _ _ ?_⟩
 clear hK K
 simp only [ls0, ls1]
 refine runL 21 (.agg (#[.slice (some ⟨g, 0, none⟩) N N])) rfl (by rfl) (by go_simp) ?_
 simp only [ls0, ls1]
 refine runL 22 (.int .i64 0) rfl (by rfl) (by go_simp) ?_
 simp only [ls0, ls1]
 refine runSL (w7.setRow p4 (#[.slice (some ⟨g, 0, none⟩) N N])) rfl (by rfl) (exec_storeRow 80 (.tmp 4) (.tmp 21) rfl p4 rfl (#[.slice (some ⟨g, 0, none⟩) N N]) rfl 80 (#[.slice none 0 0]) hp4 (sz_eq (led_sz _) (led_sz _)) (led_sz _) (by simp [Value.oneCell'])) ?_
 replace hp2 := hp2.rowFar (show p4 ≠ p2 from (by omega)) (#[.slice (some ⟨g, 0, none⟩) N N])
 replace hp3 := hp3.rowFar (show p4 ≠ p3 from (by omega)) (#[.slice (some ⟨g, 0, none⟩) N N])
 replace hq1 := hq1.rowFar (show p4 ≠ q1 from (by omega)) (#[.slice (some ⟨g, 0, none⟩) N N])
 replace hu := hu.rowFar nu_p4 (#[.slice (some ⟨g, 0, none⟩) N N])
 replace hp4 := hp4.row (#[.slice (some ⟨g, 0, none⟩) N N])
 replace hW := below_setRow hW lw_p4 (#[.slice (some ⟨g, 0, none⟩) N N])
 generalize w7.setRow p4 (#[.slice (some ⟨g, 0, none⟩) N N]) = w8 at *
 refine runL 5 (.int .i64 0) rfl (by rfl) (by go_simp) ?_
 simp only [ls0, ls1]
 refine nilL ?_
 go_wp2_with fail
 exact bodyPost_ret (results_row_tmp rfl _ _ p4 80 (#[.slice (some ⟨g, 0, none⟩) N N]) _ (.int .i64 0) rfl hp4 (by exact Tryd.underlying80) rfl (led_sz _) rfl) rfl ⟨_, rfl, ⟨_, hu⟩, hW⟩
end Go.Proofs.YtcdgcaljlmondaaDoor
/-
  A map whose key is a struct with an array: its operations while it holds no entry or one.
-/
namespace Go.Proofs.YtcdgcaljlmondaaDoor
set_option maxRecDepth 16384
open Go.RowKit Sh
/-- the cells of a place -/
def plV (ky : List Nat) (s c : Nat) : Array Value := (nv .u8 ky ++ (noV s c).toList).toArray
section
variable {ky : List Nat} {s c : Nat}
theorem plV_list : (plV ky s c).toList = nv .u8 ky ++ (noV s c).toList := rfl
theorem plV_len (hk : ky.length = 16) : (plV ky s c).toList.length = 18 := by rw [plV_list, List.length_append, nv_len, hk]; rfl
theorem plV_sz (s c : Nat) (hk : ky.length = 16) : (Tryd.prog.info? 133).map (·.size) = some (plV ky s c).size := by
 have e : (plV ky s c).size = 18 := by rw [← Array.length_toList]; exact plV_len hk
 have h0 : (Tryd.prog.info? 133).map (·.size) = some 18 := by kernel_rfl
 rw [e, h0]
theorem plV_one (ky : List Nat) (s c : Nat) : ∀ v ∈ (plV ky s c).toList, v.oneCell' = true := fun v hv => by
  rw [plV_list] at hv
  rcases List.mem_append.1 hv with h | h
  · exact nv_one _ _ v h
  · simp [noV] at h; rcases h with h | h <;> subst h <;> rfl
theorem zv_place (w : World) : (zeroValue 133).run Tryd.prog w = .ok (.agg (plV (List.replicate 16 0) 0 0)) w := by kernel_rfl
theorem built_pl (ky : List Nat) (s c : Nat) (hk : ky.length = 16) : Tryd.prog.built 133 [(0, .agg (va .u8 ky)), (1, .agg (noV s c))] = some (plV ky s c) := by
 have e0 : ∀ parts, Tryd.prog.built 133 parts = Instr.fill (fun i => [((0 : Nat), (16 : Nat)), (16, 2)].toArray[i]?) (List.replicate 16 (Value.int .u8 0) ++ [Value.int .u32 0, Value.int .u64 0]).toArray parts := fun parts => by kernel_rfl
 have hl : (nv .u8 ky).length = 16 := by rw [nv_len, hk]
 rw [e0, fill_step _ _ 0 _ (nv .u8 ky) 0 16 _ rfl rfl hl (by simp), fill_step _ _ 1 _ (noV s c).toList 16 2 _ rfl rfl rfl (by simp [hl])]
 have d1 : (nv .u8 ky).drop 18 = [] := List.drop_eq_nil_of_le (by omega)
 simp [Instr.fill, plV, List.drop_append, hl, d1]
theorem built_use (ky : List Nat) (s c a b : Nat) (hk : ky.length = 16) : Tryd.prog.built 84 [(0, .agg (va .u8 ky)), (1, .agg (rgV s c a b))] = some (useV ky s c a b) := by
 have e0 : ∀ parts, Tryd.prog.built 84 parts = Instr.fill (fun i => [((0 : Nat), (16 : Nat)), (16, 4)].toArray[i]?) (List.replicate 16 (Value.int .u8 0) ++ [Value.int .u32 0, Value.int .u64 0, Value.int .u32 0, Value.int .u32 0]).toArray parts := fun parts => by kernel_rfl
 have hl : (nv .u8 ky).length = 16 := by rw [nv_len, hk]
 rw [e0, fill_step _ _ 0 _ (nv .u8 ky) 0 16 _ rfl rfl hl (by simp), fill_step _ _ 1 _ (rgV s c a b).toList 16 4 _ rfl rfl rfl (by simp [hl])]
 have d1 : (nv .u8 ky).drop 20 = [] := List.drop_eq_nil_of_le (by omega)
 simp [Instr.fill, useV, useL, List.drop_append, hl, d1]
theorem mapM_some {α β : Type} {f : α → Option β} {g : α → β} : ∀ (l : List α), (∀ a ∈ l, f a = some (g a)) → l.mapM f = some (l.map g)
 | [], _ => rfl
 | a :: l, h => by
  rw [List.mapM_cons, h a (List.mem_cons_self ..), mapM_some l fun x hx => h x (List.mem_cons_of_mem _ hx)]
  rfl
theorem lits_u8 {d : Nat} {x : Nat} (hx : x < 256) : Tryd.prog.keyLits (d + 1) 5 [.int .u8 (x : Int)] = some [.int .u8 (x : Int)] := by
 have hw : (Lit.int .u8 (x : Int)).wf = true := by simp [Lit.wf, IntKind.min, IntKind.max, IntKind.signed, IntKind.bits]; omega
 simp [Program.keyLits, Tryd.underlying5, hw]
theorem lits_arr (hk : ky.length = 16) (hb : Byt ky) : ∃ la, Tryd.prog.keyLits 3 37 (nv .u8 ky) = some la := by
 have hc : Tryd.prog.cellsOf 37 = 16 := by kernel_rfl
 have hc1 : Tryd.prog.cellsOf 5 = 1 := by kernel_rfl
 have h : (List.range 16).mapM (fun i => Tryd.prog.keyLits 2 5 (((nv .u8 ky).drop (i * 1)).take 1)) = some ((List.range 16).map fun i => [Lit.int .u8 ((ky.getD i 0 : Nat) : Int)]) := by
  refine mapM_some _ fun i hi => ?_
  have hi16 : i < 16 := List.mem_range.1 hi
  have e : ((nv .u8 ky).drop (i * 1)).take 1 = [.int .u8 ((ky.getD i 0 : Nat) : Int)] := by
   rw [Nat.mul_one, List.take_one, List.head?_drop, nv_get (by omega)]; rfl
  rw [e]
  exact lits_u8 (hb.get i)
 refine ⟨((List.range 16).map fun i => [Lit.int .u8 ((ky.getD i 0 : Nat) : Int)]).flatten, ?_⟩
 unfold Program.keyLits
 simp only [Tryd.underlying37, hc, hc1]
 rw [if_pos (by rw [nv_len, hk]), h]
 rfl
theorem lits_no (hs : s < 4294967296) (hc : c < 18446744073709551616) : ∃ la, Tryd.prog.keyLits 3 40 (noV s c).toList = some la := by
 have hw1 : (Lit.int .u32 (s : Int)).wf = true := by simp [Lit.wf, IntKind.min, IntKind.max, IntKind.signed, IntKind.bits]; omega
 have hw2 : (Lit.int .u64 (c : Int)).wf = true := by simp [Lit.wf, IntKind.min, IntKind.max, IntKind.signed, IntKind.bits]; omega
 have hcn : Tryd.prog.cellsOf 40 = 2 := by kernel_rfl
 have hc1 : Tryd.prog.cellsOf 38 = 1 := by kernel_rfl
 have hc2 : Tryd.prog.cellsOf 24 = 1 := by kernel_rfl
 refine ⟨[.int .u32 (s : Int), .int .u64 (c : Int)], ?_⟩
 simp [Program.keyLits, Tryd.underlying40, Tryd.underlying38, Tryd.underlying24, hcn, hc1, hc2, hw1, hw2, noV]
theorem lits_pl (hk : ky.length = 16) (hb : Byt ky) (hs : s < 4294967296) (hc : c < 18446744073709551616) : ∃ la, Tryd.prog.keyLits 4 133 (plV ky s c).toList = some la := by
 obtain ⟨l1, h1⟩ := lits_arr hk hb
 obtain ⟨l2, h2⟩ := lits_no hs hc
 have hcp : Tryd.prog.cellsOf 133 = 18 := by kernel_rfl
 have hc1 : Tryd.prog.cellsOf 37 = 16 := by kernel_rfl
 have hc2 : Tryd.prog.cellsOf 40 = 2 := by kernel_rfl
 have e1 : ((plV ky s c).toList.drop 0).take 16 = nv .u8 ky := by rw [List.drop_zero, plV_list, List.take_left' (by rw [nv_len, hk])]
 have e2 : ((plV ky s c).toList.drop 16).take 2 = (noV s c).toList := by rw [plV_list, List.drop_left' (by rw [nv_len, hk])]; rfl
 refine ⟨l1 ++ l2, ?_⟩
 unfold Program.keyLits
 simp only [Tryd.underlying133, hcp]
 rw [if_pos ⟨plV_len hk, by simp⟩]
 rw [List.drop_zero] at e1
 simp [hc1, hc2, e1, e2, h1, h2]
theorem pl_formed (hk : ky.length = 16) : (Value.agg (plV ky s c)).formed Tryd.prog 133 = true := by
 have hcp : Tryd.prog.cellsOf 133 = 18 := by kernel_rfl
 have e : (plV ky s c).size = 18 := by rw [← Array.length_toList]; exact plV_len hk
 simp [Value.formed, Tryd.underlying133, hcp, e]
theorem pl_check (hk : ky.length = 16) (hb : Byt ky) (hs : s < 4294967296) (hc : c < 18446744073709551616) (em : Bool) (w : World) : (Instr.checkKey em 10000 133 (.agg (plV ky s c))).run Tryd.prog w = .ok () w := by
 obtain ⟨la, h⟩ := lits_pl hk hb hs hc
 exact run_checkKey_deep em 9996 4 133 (by kernel_rfl) w 4 _ la (pl_formed hk) h
theorem pl_eq (hk : ky.length = 16) (hb : Byt ky) (hs : s < 4294967296) (hc : c < 18446744073709551616) (w : World) : (Op.equal 133 (.agg (plV ky s c)) (.agg (plV ky s c))).run Tryd.prog w = .ok true w := by
 obtain ⟨la, h⟩ := lits_pl hk hb hs hc
 obtain ⟨r, h1, h2⟩ := run_equalIn_deep 9996 4 133 (by kernel_rfl) w 4 4 (.agg (plV ky s c)) (.agg (plV ky s c)) la la (pl_formed hk) (pl_formed hk) h h
 rw [h2.2 rfl] at h1
 show (Op.equalIn Op.maxDepth 133 _ _).run _ w = _
 exact h1
theorem pl_find0 (k : Value) (w : World) : (Instr.findKey 133 k []).run Tryd.prog w = .ok none w := by
 simp [Instr.findKey, Instr.findNow, run_underlying Tryd.underlying133]
theorem pl_find1 (hk : ky.length = 16) (hb : Byt ky) (hs : s < 4294967296) (hc : c < 18446744073709551616) (v : Value) (n : Nat) (w : World) :
  (Instr.findKey 133 (.agg (plV ky s c)) [{ key := .agg (plV ky s c), val := v, born := n }]).run Tryd.prog w = .ok (some (0, v)) w := by
 simp [Instr.findKey, Instr.findNow, Instr.sameNow, Instr.findAsking, run_underlying Tryd.underlying133, pl_eq hk hb hs hc]
end
/-- the map's object -/
def MapIs (w : World) (r : Nat) (es : Array MapEntry) (k : Nat) : Prop := w.heap[r]? = some (.map es k)
section
variable {w w' : World} {r k : Nat} {es : Array MapEntry}
theorem MapIs.lt (h : MapIs w r es k) : r < w.heap.size := (Array.getElem?_eq_some_iff.1 h).1
theorem MapIs.new_off (h : MapIs w r es k) : Off (some ⟨r, 0, none⟩) w.heap.size := fun a ha e => by cases ha; have := h.lt; have e2 : r = w.heap.size := e; omega
theorem MapIs.below (h : MapIs w r es k) (bx : Below w.heap.size w w') : MapIs w' r es k := (bx.block r h.lt).trans h
theorem MapIs.alloc (h : MapIs w r es k) (o : Obj) : MapIs (w.alloc o) r es k := h.below ((Below.refl _ _).alloc (Nat.le_refl _) o)
theorem MapIs.rowFar {g : Nat} (h : MapIs w r es k) (hne : Off (some (⟨r, 0, none⟩ : Addr)) g) (cs : Array Value) : MapIs (w.setRow g cs) r es k := (setRow_other w g cs r (fun e => hne _ rfl e.symm)).trans h
theorem MapIs.put (h : MapIs w r es k) (es2 : Array MapEntry) (k2 : Nat) : MapIs (w.putObj r (.map es2 k2)) r es2 k2 := World.putObj_heap_same h.lt
theorem Blk.putM {g : Nat} {T : TypeId} {cs : Array Value} (h : Blk w g T cs) (hm : MapIs w r es k) (o : Obj) : Blk (w.putObj r o) g T cs :=
 (World.putObj_heap_other (fun e => by subst e; unfold Blk at h; rw [hm] at h; cases h)).trans h
theorem below_putM {B0 : Nat} {a : World} (h : Below B0 a w) (hr : B0 ≤ r) (o : Obj) : Below B0 a (w.putObj r o) :=
 h.trans ⟨rfl, rfl, rfl, by simp, fun k hk => World.putObj_heap_other (by omega)⟩
end
section
variable {w : World} {op : Oper} {a : Act} {ky : List Nat} {s c r k : Nat}
theorem run_getObjM {es : Array MapEntry} (h : MapIs w r es k) : (getObj r).run Tryd.prog w = .ok (.map es k) w := by
 have h2 : w.heap[r]? = some (.map es k) := h
 simp [getObj, Sem.run, h2]
theorem exec_lookup0 (x y : Operand) (ho : op.op = .lookup 131 x y false) (hx : a.eval x = .map (some r)) (hy : a.eval y = .agg (plV ky s c)) (hm : MapIs w r #[] k) (hk : ky.length = 16) (hb : Byt ky) (hs : s < 4294967296) (hc : c < 18446744073709551616) :
  (execOp a.eval op).run Tryd.prog w = .ok (.value (.slice none 0 0)) w := by
 have hz : ∀ w, (zeroValue 134).run Tryd.prog w = .ok (.slice none 0 0) w := fun w => by kernel_rfl
 have hg := run_getObjM hm
 unfold execOp
 simp only [ho, hx, hy, Instr.lookup]
 simp [run_underlying Tryd.underlying131, hg, pl_check hk hb hs hc, pl_find0, hz]
theorem exec_lookup1 (x y : Operand) (ho : op.op = .lookup 131 x y false) (hx : a.eval x = .map (some r)) (hy : a.eval y = .agg (plV ky s c)) (v : Value) (n : Nat) (hm : MapIs w r #[{ key := .agg (plV ky s c), val := v, born := n }] k) (hk : ky.length = 16) (hb : Byt ky) (hs : s < 4294967296) (hc : c < 18446744073709551616) :
  (execOp a.eval op).run Tryd.prog w = .ok (.value v) w := by
 have hg := run_getObjM hm
 unfold execOp
 simp only [ho, hx, hy, Instr.lookup]
 simp [run_underlying Tryd.underlying131, hg, pl_check hk hb hs hc, pl_find1 hk hb hs hc]
theorem run_setObjM (o : Obj) {es : Array MapEntry} (h : MapIs w r es k) : (setObj r o).run Tryd.prog w = .ok () (w.putObj r o) := by
 have h2 : w.heap[r]? = some (.map es k) := h
 simp [setObj, Sem.run, h2, World.putObj]
theorem exec_mapEntry0 (x y : Operand) (ho : op.op = .mapEntry 131 x y) (hx : a.eval x = .map (some r)) (hy : a.eval y = .agg (plV ky s c)) (hm : MapIs w r #[] 0) (hk : ky.length = 16) (hb : Byt ky) (hs : s < 4294967296) (hc : c < 18446744073709551616) :
  (execOp a.eval op).run Tryd.prog w = .ok (.value (.tuple #[.slice none 0 0, .int .i64 0])) (w.putObj r (.map #[{ key := .agg (plV ky s c), val := .slice none 0 0, born := 0 }] 1)) := by
 have hz : ∀ w, (zeroValue 134).run Tryd.prog w = .ok (.slice none 0 0) w := fun w => by kernel_rfl
 have hg := run_getObjM hm
 have hs2 := run_setObjM (.map #[{ key := .agg (plV ky s c), val := .slice none 0 0, born := 0 }] 1) hm
 unfold execOp
 simp only [ho, hx, hy, Instr.mapEntry]
 simp [run_underlying Tryd.underlying131, hg, pl_check hk hb hs hc, pl_find0, hz, hs2, goInt]
theorem exec_entryStore (x y z : Operand) (v v0 : Value) (kv : Value) (ho : op.op = .entryStore 131 x y z) (hx : a.eval x = .map (some r)) (hy : a.eval y = .int .i64 0) (hz : a.eval z = v) (hm : MapIs w r #[{ key := kv, val := v0, born := 0 }] 1) :
  (execOp a.eval op).run Tryd.prog w = .ok .skip (w.putObj r (.map #[{ key := kv, val := v, born := 0 }] 1)) := by
 have hg := run_getObjM hm
 have hs2 := run_setObjM (.map #[{ key := kv, val := v, born := 0 }] 1) hm
 unfold execOp
 simp only [ho, hx, hy, hz, Instr.entryStore]
 have hf : (#[({ key := kv, val := v0, born := 0 } : MapEntry)]).findIdx? (fun e => (e.born : Int) == 0) = some 0 := by simp [List.findIdx?_cons]
 simp [hg, asInt, asIntOf, hs2, hf]
end
end Go.Proofs.YtcdgcaljlmondaaDoor
