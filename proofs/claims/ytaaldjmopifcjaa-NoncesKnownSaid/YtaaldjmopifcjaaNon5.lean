/-
  Walks of nonces.Put, Get, Compare and of the reference's Put.
-/
import Derived.Test.YtaaldjmopifcjaaNon4
import Derived.Test.YtaaldjmopifcjaaJoin
import Derived.Test.YtaaldjmopifcjaaRef1
import Derived.Deep.RegionWith
import Derived.Deep.RegionLaw
namespace Go.Proofs.Ytaaldjmopifcjaa
open Go.RowKit Sh

/-- two byte slices in a new block -/
theorem parts_two {w : World} {g B c1 c2 n1 n2 : Nat} {t : TypeId} {A1 A2 : Option Addr} {a b : List Nat} (hg : Blk w g t #[.slice A1 n1 c1, .slice A2 n2 c2]) (hgB : g < B) (h1 : Reads w B 1 A1 n1 (nv .u8 a)) (h2 : Reads w B 1 A2 n2 (nv .u8 b)) (hc1 : n1 ≤ c1) (hc2 : n2 ≤ c2) (ha : Byt a) (hb : Byt b) :
    Parts w B (some ⟨g, 0, none⟩) 2 [a, b] := by
  refine ⟨rfl, fun j hj => ?_⟩
  rcases Nat.lt_or_ge j 1 with h0 | h0
  · obtain rfl : j = 0 := by omega
    exact ⟨_, A1, n1, c1, rfl, hgB, by rw [add_none]; exact hg.cell 0, hc1, h1, ha⟩
  · obtain rfl : j = 1 := by omega
    exact ⟨_, A2, n2, c2, rfl, hgB, by rw [add_none]; exact hg.cell 1, hc2, h2, hb⟩

set_option maxHeartbeats 1000000 in
theorem nput_any (s c : Nat) (hs : s < 4294967296) (w : World) :
    Calls Try.prog 19 #[.agg (noV s c)] w fun e w' => ∃ g, e = .returned (.slice (some ⟨g, 0, none⟩) 12 12) ∧ Blk w' g 5 (va .u8 (beB s 4 ++ beB c 8)) ∧ w.heap.size ≤ g ∧ Below w.heap.size w w' := by
  unfold noV
  have hB0 : Below w.heap.size w (w.alloc (.cells #[.int .u32 (s : Int), .int .u64 (c : Int)] 35)).drew := below_drewN ((Below.refl _ _).alloc (Nat.le_refl _) _) 1
  have hX0 : Blk (w.alloc (.cells #[.int .u32 (s : Int), .int .u64 (c : Int)] 35)).drew w.heap.size 35 #[.int .u32 (s : Int), .int .u64 (c : Int)] := (Blk.newAt rfl).drew
  obtain ⟨a, ha⟩ : ∃ a, beB s 4 = a := ⟨_, rfl⟩
  obtain ⟨b, hb⟩ : ∃ b, beB c 8 = b := ⟨_, rfl⟩
  have hal : a.length = 4 := by rw [← ha, beB_len]
  have hbl : b.length = 8 := by rw [← hb, beB_len]
  have hab : Byt a := ha ▸ beB_byt s 4
  have hbb : Byt b := hb ▸ beB_byt c 8
  rw [ha, hb]
  have ha' := Lib.hid ha
  have hb' := Lib.hid hb
  have hB := Lib.hid hB0
  have hX := Lib.hid hX0
  clear hB0 hX0 ha hb
  go_enter Try.func19, Try.ntmps19
  go_wp2
  go_region_with (first
    | (go_at_call 26
       refine (put32_to s a ha'.out hs _).mono ?_
       rintro e wq ⟨g1, rfl, hb1, hg1, b1⟩
       have hg1 := Lib.hid (Nat.le_trans hB.out.size hg1)
       replace hB := Lib.hid (hB.out.trans (b1.mono hB.out.size))
       replace hX := Lib.hid (hX.out.below b1 hX.out.lt)
       have x0 := hX.out.cell 0
       have x1 := hX.out.cell 1
       simp only [List.getElem?_toArray, List.getElem?_cons_zero, List.getElem?_cons_succ] at x0 x1
       try (replace hb2 := hb2.below b1 hb2.lt)
       clear b1)
    | (go_at_call 27
       refine (put64_to c b hb'.out _).mono ?_
       rintro e wq ⟨g2, rfl, hb2, hg2, b2⟩
       have hg2 := Lib.hid (Nat.le_trans hB.out.size hg2)
       replace hB := Lib.hid (hB.out.trans (b2.mono hB.out.size))
       replace hX := Lib.hid (hX.out.below b2 hX.out.lt)
       have x0 := hX.out.cell 0
       have x1 := hX.out.cell 1
       simp only [List.getElem?_toArray, List.getElem?_cons_zero, List.getElem?_cons_succ] at x0 x1
       try (replace hb1 := hb1.below b2 hb1.lt)
       clear b2)
    | (go_at_call 25
       refine (join_to [a, b] (a ++ b) 2 2 (wq.heap.size + 1) 12 _ _ ?hp ?hf ?hn ?hB ?hN ?hl).mono ?_
       case hp => exact parts_two (Blk.newAt rfl) (by omega) ((hb1.alloc _).readsAll (by have := hb1.lt; omega) hal) ((hb2.alloc _).readsAll (by have := hb2.lt; omega) hbl) (Nat.le_refl _) (Nat.le_refl _) hab hbb
       case hf => simp
       case hn => omega
       case hB => simp
       case hN => simp [hal, hbl]
       case hl => omega
       rintro e w5 ⟨g5, rfl, hb5, hg5, b5⟩
       have hz := hB.out.size
       have hB5 := Lib.hid ((hB.out.alloc hz _).trans (b5.mono (by simp; omega)))
       have hg5 : w.heap.size ≤ g5 := by simp at hg5; omega
       clear b5 hz))
  all_goals
    go_wp2
    go_ret
    exact ⟨g5, rfl, hb5, hg5, hB5.out⟩

theorem rput32_to (v : Nat) (l : List Nat) (hl : beB v 4 = l) (hv : v < 4294967296) (w : World) :
    Calls Try.prog 30 #[.int .u32 (v : Int)] w fun e w' => ∃ g, e = .returned (.slice (some ⟨g, 0, none⟩) 4 4) ∧ Blk w' g 5 (va .u8 l) ∧ w.heap.size ≤ g ∧ Below w.heap.size w w' := by
  subst hl
  refine (rput32_any v hv w).mono ?_
  rintro e w' ⟨r, rfl, g, rfl, h1, h2, h3⟩
  exact ⟨g, by rw [beB_len], h1, h2, h3⟩
theorem rput64_to (v : Nat) (l : List Nat) (hl : beB v 8 = l) (hv : v < 18446744073709551616) (w : World) :
    Calls Try.prog 31 #[.int .u64 (v : Int)] w fun e w' => ∃ g, e = .returned (.slice (some ⟨g, 0, none⟩) 8 8) ∧ Blk w' g 5 (va .u8 l) ∧ w.heap.size ≤ g ∧ Below w.heap.size w w' := by
  subst hl
  refine (rput64_any v hv w).mono ?_
  rintro e w' ⟨r, rfl, g, rfl, h1, h2, h3⟩
  exact ⟨g, by rw [beB_len], h1, h2, h3⟩

set_option maxHeartbeats 1000000 in
theorem rnput_any (s c : Nat) (hs : s < 4294967296) (hc : c < 18446744073709551616) (w : World) :
    Calls Try.prog 21 #[.agg (noV s c)] w fun e w' => ∃ v, e = .returned v ∧ w'.ownsRow w.heap.size 5 1 v 12 (nv .u8 (beB s 4 ++ beB c 8)) ∧ Below w.heap.size w w' := by
  unfold noV
  have hB0 : Below w.heap.size w (w.alloc (.cells #[.int .u32 (s : Int), .int .u64 (c : Int)] 35)).drew := below_drewN ((Below.refl _ _).alloc (Nat.le_refl _) _) 1
  have hX0 : Blk (w.alloc (.cells #[.int .u32 (s : Int), .int .u64 (c : Int)] 35)).drew w.heap.size 35 #[.int .u32 (s : Int), .int .u64 (c : Int)] := (Blk.newAt rfl).drew
  obtain ⟨a, ha⟩ : ∃ a, beB s 4 = a := ⟨_, rfl⟩
  obtain ⟨b, hb⟩ : ∃ b, beB c 8 = b := ⟨_, rfl⟩
  have hal : a.length = 4 := by rw [← ha, beB_len]
  have hbl : b.length = 8 := by rw [← hb, beB_len]
  have hab : Byt a := ha ▸ beB_byt s 4
  have hbb : Byt b := hb ▸ beB_byt c 8
  rw [ha, hb]
  have ha' := Lib.hid ha
  have hb' := Lib.hid hb
  have hB := Lib.hid hB0
  have hX := Lib.hid hX0
  clear hB0 hX0 ha hb
  obtain ⟨i0, hi0, hz0, hz1, hz2⟩ := info_parts byte_info
  go_enter Try.func21, Try.ntmps21
  go_wp2
  go_region_law (first
    | (go_simp; go_at_call 30
       refine (rput32_to s a ha'.out hs _).mono ?_
       rintro e wq ⟨g1, rfl, hb1, hg1, b1⟩
       have hg1 := Lib.hid (Nat.le_trans hB.out.size hg1)
       replace hB := Lib.hid (hB.out.trans (b1.mono hB.out.size))
       replace hX := Lib.hid (hX.out.below b1 hX.out.lt)
       have x0 := hX.out.cell 0
       have x1 := hX.out.cell 1
       simp only [List.getElem?_toArray, List.getElem?_cons_zero, List.getElem?_cons_succ] at x0 x1
       try (replace hb2 := hb2.below b1 hb2.lt)
       clear b1)
    | (go_simp; go_at_call 31
       refine (rput64_to c b hb'.out hc _).mono ?_
       rintro e wq ⟨g2, rfl, hb2, hg2, b2⟩
       have hg2 := Lib.hid (Nat.le_trans hB.out.size hg2)
       replace hB := Lib.hid (hB.out.trans (b2.mono hB.out.size))
       replace hX := Lib.hid (hX.out.below b2 hX.out.lt)
       have x0 := hX.out.cell 0
       have x1 := hX.out.cell 1
       simp only [List.getElem?_toArray, List.getElem?_cons_zero, List.getElem?_cons_succ] at x0 x1
       try (replace hb1 := hb1.below b2 hb1.lt)
       clear b2)
    | (refine step_append_any _ rfl (.tmp 5) (.tmp 8) 47 rfl w.heap.size 5 i0 (.int .u8 0) 1 1 Try.underlying47 hi0 hz0 hz1 hz2 rfl (by omega) (.slice (some ⟨g1, 0, none⟩) 4 4) 4 (nv .u8 a) rfl ?q1 (wq.heap.size) (some ⟨g2, 0, none⟩) 8 8 (nv .u8 b) rfl ?q2 (nv_one _ _) (by decide) (by decide) hB.out.size ?_
       case q1 => exact hb1.own hal hg1.out (by decide)
       case q2 => exact hb2.readsAll hb2.lt hbl
       intro v' w' ho hgr hor))
  all_goals
    rw [nv_app] at ho
    have hB' := Lib.hid (hB.out.grown hgr hB.out.size (fun k hk => by simp [Value.ownBlock] at hk; subst hk; exact hg1.out))
    have ho' := Lib.hid ho
    clear hgr hor ho
    go_wp2
    go_ret
    exact ⟨v', rfl, ho'.out, hB'.out⟩
end Go.Proofs.Ytaaldjmopifcjaa
