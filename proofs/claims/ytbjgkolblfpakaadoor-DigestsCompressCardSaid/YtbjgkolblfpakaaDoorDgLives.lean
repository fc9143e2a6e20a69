/-
  The parts of caissonlaw02.lives.
-/
import Derived.Test.YtbjgkolblfpakaaDoorDgLaw
import Derived.Deep.RegionHeld3
import Derived.Great.BuildSlice
import Derived.Stop.Walk2
import Derived.Lib.UnsafeStr
namespace Go.Proofs.YtbjgkolblfpakaaDoor
open Go.RowKit Sh

def dAbc : List Nat := [3128432319, 2399260650, 1094795486, 1571693091, 2953011619, 2518121116, 3021012833, 4060091821]
def dLong : List Nat := [613247585, 3523623096, 3854575251, 205414457, 2738676825, 1694441831, 4142722516, 433784513]
def dNone : List Nat := [3820012610, 2566659092, 2600203464, 2574235940, 665731556, 1687917388, 2761267483, 2018687061]
def mLong : List Nat := [97, 98, 99, 100, 98, 99, 100, 101, 99, 100, 101, 102, 100, 101, 102, 103, 101, 102, 103, 104, 102, 103, 104, 105, 103, 104, 105, 106, 104, 105, 106, 107, 105, 106, 107, 108, 106, 107, 108, 109, 107, 108, 109, 110, 108, 109, 110, 111, 109, 110, 111, 112, 110, 111, 112, 113]
theorem sha_abc : sha [97, 98, 99] = flat dAbc := by decide +kernel
theorem sha_none : sha [] = flat dNone := by decide +kernel
theorem sha_long : sha mLong = flat dLong := by decide +kernel
theorem w32_of (l : List Nat) (h : l.all (· < 4294967296) = true) : W32 l := by
  intro i
  rw [List.all_eq_true] at h
  rcases Nat.lt_or_ge i l.length with h0 | h0
  · have := h (l[i]) (List.getElem_mem h0)
    simp [List.getD_eq_getElem?_getD, h0]
    simpa using this
  · simp [List.getD_eq_getElem?_getD, List.getElem?_eq_none h0]
theorem is_abc (w : World) : Calls Tryd.prog 13 #[.agg (va .u8 (sha [97, 98, 99])), .agg #[.int .u32 3128432319, .int .u32 2399260650, .int .u32 1094795486, .int .u32 1571693091, .int .u32 2953011619, .int .u32 2518121116, .int .u32 3021012833, .int .u32 4060091821]] w fun e w' => e = .returned (.bool true) ∧ Below w.heap.size w w' := by
  rw [sha_abc]; exact is_any dAbc rfl (w32_of _ (by decide)) w
theorem is_none (w : World) : Calls Tryd.prog 13 #[.agg (va .u8 (sha [])), .agg #[.int .u32 3820012610, .int .u32 2566659092, .int .u32 2600203464, .int .u32 2574235940, .int .u32 665731556, .int .u32 1687917388, .int .u32 2761267483, .int .u32 2018687061]] w fun e w' => e = .returned (.bool true) ∧ Below w.heap.size w w' := by
  rw [sha_none]; exact is_any dNone rfl (w32_of _ (by decide)) w
theorem is_long (w : World) : Calls Tryd.prog 13 #[.agg (va .u8 (sha mLong)), .agg #[.int .u32 613247585, .int .u32 3523623096, .int .u32 3854575251, .int .u32 205414457, .int .u32 2738676825, .int .u32 1694441831, .int .u32 4142722516, .int .u32 433784513]] w fun e w' => e = .returned (.bool true) ∧ Below w.heap.size w w' := by
  rw [sha_long]; exact is_any dLong rfl (w32_of _ (by decide)) w

theorem freeze_heap (w : World) (p : Addr) (n g : Nat) : (w.freeze p n).shape? g = w.shape? g := by
  by_cases hn : n = 0
  · unfold World.freeze; rw [if_pos hn]
  · unfold World.freeze World.shape?
    rw [if_neg hn]
    simp only [Array.getElem?_modify]
    by_cases h : p.block = g
    · subst h
      rw [if_pos rfl]
      cases w.heap[p.block]? with
      | none => rfl
      | some o => cases o <;> rfl
    · rw [if_neg h]
theorem freeze_size (w : World) (p : Addr) (n : Nat) : (w.freeze p n).heap.size = w.heap.size := by
  unfold World.freeze; split <;> simp
theorem freeze_cell (w : World) (p q : Addr) (n : Nat) : (w.freeze p n).cell? q = w.cell? q := by
  by_cases hn : n = 0
  · unfold World.freeze; rw [if_pos hn]
  · unfold World.freeze World.cell?
    rw [if_neg hn]
    simp only [Array.getElem?_modify]
    by_cases h : p.block = q.block
    · rw [if_pos h]
      cases w.heap[q.block]? with
      | none => rfl
      | some o => cases o <;> rfl
    · rw [if_neg h]
theorem run_convert_mark (W : World) (a : Addr) (n c : Nat) : (convert 30 30 (.slice (some a) n c)).run Tryd.prog W = match W.shape? a.block with
    | some (_, k) => .ok (.slice (some a) n c) (W.freeze ⟨a.block, k, Option.none⟩ 1)
    | Option.none => .ok (.slice (some a) n c) W := by
  have hu := run_underlying (P := Tryd.prog) Tryd.underlying30
  have hu8 := run_underlying (P := Tryd.prog) Tryd.underlying5
  simp [convert, hu, hu8, markStringish]
  cases W.shape? a.block with
  | none => simp [Result.andThen]
  | some x => obtain ⟨t, k⟩ := x; simp [Result.andThen]
theorem of_none (w : World) (hg : Glob w) : Calls Tryd.prog 14 #[.slice none 0 0] w fun e w' => e = .returned (.agg (va .u8 (sha []))) ∧ Below w.heap.size w w' :=
  of_any [] 0 0 w.heap.size none w hg (Parts.nil _ _ _) (by omega) (Nat.le_refl _) (by simp)
theorem byt_of (l : List Nat) (h : l.all (· < 256) = true) : Byt l := fun x hx => by rw [List.all_eq_true] at h; simpa using h x hx
theorem num_reads {w : World} {g n : Nat} {l : List Nat} (hl : l.length = n) (hg : g < w.heap.size) (hb : ∀ j v, (nv .u8 l)[j]? = some v → w.cell? ⟨g, j, Option.none⟩ = some v) : Reads w w.heap.size 1 (some ⟨g, 0, Option.none⟩) n (nv .u8 l) :=
  ⟨by rw [nv_len, hl]; omega, fun _ => ⟨_, rfl, hg, fun j v hv => by rw [Addr.add_mid, Nat.zero_add]; exact hb j v hv⟩⟩
/-- Of of one part -/
theorem of_one (m : List Nat) (n : Nat) (hn : m.length = n) (hm : Byt m) (h1 : n < 1000) (W : World) (hg : Glob W) (g g0 : Nat) (hlt : g < W.heap.size) (hlt0 : g0 < W.heap.size)
    (hb : ∀ j v, (nv .u8 m)[j]? = some v → W.cell? ⟨g, j, Option.none⟩ = some v) (hc : W.cell? ⟨g0, 0, Option.none⟩ = some (.slice (some ⟨g, 0, Option.none⟩) n n)) :
    Calls Tryd.prog 14 #[.slice (some ⟨g0, 0, Option.none⟩) 1 1] W fun e w' => e = .returned (.agg (va .u8 (sha m))) ∧ Below W.heap.size W w' := by
  have := of_any [m] 1 1 W.heap.size (some ⟨g0, 0, Option.none⟩) W hg ⟨rfl, fun j hj => by
    obtain rfl : j = 0 := by omega
    exact ⟨_, _, _, _, rfl, hlt0, by rw [Addr.add_mid]; exact hc, Nat.le_refl _, num_reads hn hlt hb, hm⟩⟩ (by omega) (Nat.le_refl _) (by simp; omega)
  simpa using this
theorem num_of1 {w : World} {g a : Nat} (h : w.cell? ⟨g, 0, Option.none⟩ = some (.int .u8 a)) : ∀ j v, (nv .u8 [a])[j]? = some v → w.cell? ⟨g, j, Option.none⟩ = some v
  | 0, _, hv => by cases hv; exact h
  | _ + 1, _, hv => by cases hv
theorem num_of2 {w : World} {g a b : Nat} (h : w.cell? ⟨g, 0, Option.none⟩ = some (.int .u8 a)) (h1 : w.cell? ⟨g, 1, Option.none⟩ = some (.int .u8 b)) : ∀ j v, (nv .u8 [a, b])[j]? = some v → w.cell? ⟨g, j, Option.none⟩ = some v
  | 0, _, hv => by cases hv; exact h
  | 1, _, hv => by cases hv; exact h1
  | _ + 2, _, hv => by cases hv
theorem num_of3 {w : World} {g a b c : Nat} (h : w.cell? ⟨g, 0, Option.none⟩ = some (.int .u8 a)) (h1 : w.cell? ⟨g, 1, Option.none⟩ = some (.int .u8 b)) (h2 : w.cell? ⟨g, 2, Option.none⟩ = some (.int .u8 c)) : ∀ j v, (nv .u8 [a, b, c])[j]? = some v → w.cell? ⟨g, j, Option.none⟩ = some v
  | 0, _, hv => by cases hv; exact h
  | 1, _, hv => by cases hv; exact h1
  | 2, _, hv => by cases hv; exact h2
  | _ + 3, _, hv => by cases hv
theorem of_abc (W : World) (hg : Glob W) (g g0 : Nat) (hlt : g < W.heap.size) (hlt0 : g0 < W.heap.size) (c0 : W.cell? ⟨g, 0, Option.none⟩ = some (.int .u8 97)) (c1 : W.cell? ⟨g, 1, Option.none⟩ = some (.int .u8 98)) (c2 : W.cell? ⟨g, 2, Option.none⟩ = some (.int .u8 99))
    (hc : W.cell? ⟨g0, 0, Option.none⟩ = some (.slice (some ⟨g, 0, Option.none⟩) 3 3)) :
    Calls Tryd.prog 14 #[.slice (some ⟨g0, 0, Option.none⟩) 1 1] W fun e w' => e = .returned (.agg (va .u8 (sha [97, 98, 99]))) ∧ Below W.heap.size W w' :=
  of_one [97, 98, 99] 3 rfl (byt_of _ (by decide)) (by omega) W hg g g0 hlt hlt0 (num_of3 c0 c1 c2) hc
/-- Of of two parts -/
theorem of_two (W : World) (hg : Glob W) (g1 g2 g : Nat) (l1 : g1 < W.heap.size) (l2 : g2 < W.heap.size) (l0 : g < W.heap.size) (a0 : W.cell? ⟨g1, 0, Option.none⟩ = some (.int .u8 97)) (b0 : W.cell? ⟨g2, 0, Option.none⟩ = some (.int .u8 98)) (b1 : W.cell? ⟨g2, 1, Option.none⟩ = some (.int .u8 99))
    (c0 : W.cell? ⟨g, 0, Option.none⟩ = some (.slice (some ⟨g1, 0, Option.none⟩) 1 1)) (c1 : W.cell? ⟨g, 1, Option.none⟩ = some (.slice (some ⟨g2, 0, Option.none⟩) 2 2)) :
    Calls Tryd.prog 14 #[.slice (some ⟨g, 0, Option.none⟩) 2 2] W fun e w' => e = .returned (.agg (va .u8 (sha [97, 98, 99]))) ∧ Below W.heap.size W w' :=
  of_any [[97], [98, 99]] 2 2 W.heap.size _ W hg ⟨rfl, fun j hj => by
    rcases Nat.lt_or_ge j 1 with h0 | h0
    · obtain rfl : j = 0 := by omega
      exact ⟨_, _, _, _, rfl, l0, by rw [Addr.add_mid]; exact c0, Nat.le_refl _, num_reads rfl l1 (num_of1 a0), byt_of _ (by decide)⟩
    · obtain rfl : j = 1 := by omega
      exact ⟨_, _, _, _, rfl, l0, by rw [Addr.add_mid]; exact c1, Nat.le_refl _, num_reads rfl l2 (num_of2 b0 b1), byt_of _ (by decide)⟩⟩ (by omega) (Nat.le_refl _) (by simp)
theorem write_abc (W : World) (hg : Glob W) (g : Nat) (hlt : g < W.heap.size) (c0 : W.cell? ⟨g, 0, Option.none⟩ = some (.int .u8 97)) (c1 : W.cell? ⟨g, 1, Option.none⟩ = some (.int .u8 98)) (c2 : W.cell? ⟨g, 2, Option.none⟩ = some (.int .u8 99)) :
    Calls Tryd.prog 16 #[.agg (stL true hL z64 0), .slice (some ⟨g, 0, Option.none⟩) 3 3] W fun e w' =>
      ∃ h' r' n', e = .returned (.agg (stL true h' r' n')) ∧ n' = 3 ∧ StOk [97, 98, 99] h' r' ∧ Below W.heap.size W w' :=
  (write_any [] hL z64 [97, 98, 99] _ 3 3 W.heap.size stOk_nil (byt_of _ (by decide)) (Nat.le_refl _) (by simp) W hg (num_reads rfl hlt (num_of3 c0 c1 c2)) (Nat.le_refl _)).mono
    fun _ _ ⟨h', r', e, ok, b⟩ => ⟨h', r', _, e, rfl, ok, b⟩
theorem sum_n (l h r : List Nat) (n : Nat) (hn : n = l.length) (hok : StOk l h r) (hlen : n < 1000) (w : World) (hg : Glob w) :
    Calls Tryd.prog 17 #[.agg (stL true h r n)] w fun e w' => e = .returned (.agg (va .u8 (sha l))) ∧ Below w.heap.size w w' := by
  subst hn; exact sum_any l h r hok (by omega) w hg

/-- what stays while lives runs -/
abbrev LS (w w' : World) : Prop := Below w.heap.size w w' ∧ w.heap.size + 1 < w'.heap.size ∧ w'.cell? ⟨w.heap.size, 0, none⟩ = some (.int .u32 3128432319) ∧ w'.cell? ⟨w.heap.size, 1, none⟩ = some (.int .u32 2399260650) ∧ w'.cell? ⟨w.heap.size, 2, none⟩ = some (.int .u32 1094795486) ∧ w'.cell? ⟨w.heap.size, 3, none⟩ = some (.int .u32 1571693091) ∧ w'.cell? ⟨w.heap.size, 4, none⟩ = some (.int .u32 2953011619) ∧ w'.cell? ⟨w.heap.size, 5, none⟩ = some (.int .u32 2518121116) ∧ w'.cell? ⟨w.heap.size, 6, none⟩ = some (.int .u32 3021012833) ∧ w'.cell? ⟨w.heap.size, 7, none⟩ = some (.int .u32 4060091821) ∧ w'.cell? ⟨w.heap.size + 1, 0, none⟩ = some (.int .u32 613247585) ∧ w'.cell? ⟨w.heap.size + 1, 1, none⟩ = some (.int .u32 3523623096) ∧ w'.cell? ⟨w.heap.size + 1, 2, none⟩ = some (.int .u32 3854575251) ∧ w'.cell? ⟨w.heap.size + 1, 3, none⟩ = some (.int .u32 205414457) ∧ w'.cell? ⟨w.heap.size + 1, 4, none⟩ = some (.int .u32 2738676825) ∧ w'.cell? ⟨w.heap.size + 1, 5, none⟩ = some (.int .u32 1694441831) ∧ w'.cell? ⟨w.heap.size + 1, 6, none⟩ = some (.int .u32 4142722516) ∧ w'.cell? ⟨w.heap.size + 1, 7, none⟩ = some (.int .u32 433784513)
theorem ls_keep {w W w2 : World} (h : LS w W) (b : Below W.heap.size W w2) : LS w w2 := by
  obtain ⟨h0, hs, a0, a1, a2, a3, a4, a5, a6, a7, c0, c1, c2, c3, c4, c5, c6, c7⟩ := h
  have k0 : ∀ i v, W.cell? ⟨w.heap.size, i, none⟩ = some v → w2.cell? ⟨w.heap.size, i, none⟩ = some v := fun i v hv => (b.cell (p := ⟨w.heap.size, i, none⟩) (by simp; omega)).trans hv
  have k1 : ∀ i v, W.cell? ⟨w.heap.size + 1, i, none⟩ = some v → w2.cell? ⟨w.heap.size + 1, i, none⟩ = some v := fun i v hv => (b.cell (p := ⟨w.heap.size + 1, i, none⟩) (by simp; omega)).trans hv
  exact ⟨below_trans h0 b, Nat.lt_of_lt_of_le hs b.size, k0 _ _ a0, k0 _ _ a1, k0 _ _ a2, k0 _ _ a3, k0 _ _ a4, k0 _ _ a5, k0 _ _ a6, k0 _ _ a7, k1 _ _ c0, k1 _ _ c1, k1 _ _ c2, k1 _ _ c3, k1 _ _ c4, k1 _ _ c5, k1 _ _ c6, k1 _ _ c7⟩
theorem ls_alloc {w W : World} (h : LS w W) (o : Obj) : LS w (W.alloc o) := ls_keep h ((Below.refl _ _).alloc (Nat.le_refl _) _)
theorem ls_drew {w W : World} (h : LS w W) : LS w W.drew := ls_keep h (Below.refl _ _).drew
theorem ls_freeze {w W : World} (h : LS w W) (p : Addr) (n : Nat) (hp2 : W.heap.size ≤ p.block + 2) : LS w (W.freeze p n) := by
  obtain ⟨h0, hs, h1⟩ := h
  have hp : w.heap.size ≤ p.block := by omega
  refine ⟨Lib.below_freeze h0 hp n, by rw [freeze_size]; exact hs, ?_⟩
  simpa only [freeze_cell] using h1
theorem run_long (W : World) : (Instr.buildSlice 30 56 #[(0, .int .u8 97), (1, .int .u8 98), (2, .int .u8 99), (3, .int .u8 100), (4, .int .u8 98), (5, .int .u8 99), (6, .int .u8 100), (7, .int .u8 101), (8, .int .u8 99), (9, .int .u8 100), (10, .int .u8 101), (11, .int .u8 102), (12, .int .u8 100), (13, .int .u8 101), (14, .int .u8 102), (15, .int .u8 103), (16, .int .u8 101), (17, .int .u8 102), (18, .int .u8 103), (19, .int .u8 104), (20, .int .u8 102), (21, .int .u8 103), (22, .int .u8 104), (23, .int .u8 105), (24, .int .u8 103), (25, .int .u8 104), (26, .int .u8 105), (27, .int .u8 106), (28, .int .u8 104), (29, .int .u8 105), (30, .int .u8 106), (31, .int .u8 107), (32, .int .u8 105), (33, .int .u8 106), (34, .int .u8 107), (35, .int .u8 108), (36, .int .u8 106), (37, .int .u8 107), (38, .int .u8 108), (39, .int .u8 109), (40, .int .u8 107), (41, .int .u8 108), (42, .int .u8 109), (43, .int .u8 110), (44, .int .u8 108), (45, .int .u8 109), (46, .int .u8 110), (47, .int .u8 111), (48, .int .u8 109), (49, .int .u8 110), (50, .int .u8 111), (51, .int .u8 112), (52, .int .u8 110), (53, .int .u8 111), (54, .int .u8 112), (55, .int .u8 113)]).run Tryd.prog W = .ok (.slice (some ⟨W.heap.size, 0, none⟩) 56 56) (W.alloc (.cells (va .u8 mLong) 5)) := by
  obtain ⟨ie, hie, h0, h1, h2⟩ := info_parts byte_info
  refine run_buildSlice W _ 5 56 _ (va .u8 mLong) ie _ Tryd.underlying30 hie h0 (by rw [h1]; decide) (by rw [h1]; decide) ?_
  rw [h1]
  kernel_rfl
end Go.Proofs.YtbjgkolblfpakaaDoor
