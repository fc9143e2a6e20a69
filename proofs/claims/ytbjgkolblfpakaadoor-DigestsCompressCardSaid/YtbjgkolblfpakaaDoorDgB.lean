/-
  Words for the walk of caissonlaw02.lives: byte blocks that are marked, slices of them.
-/
import Derived.Test.YtbjgkolblfpakaaDoorDgLives
import Derived.Test.YtbjgkolblfpakaaDoorHld
import Derived.Test.YtbjgkolblfpakaaDoorRes
namespace Go.Proofs.YtbjgkolblfpakaaDoor
open Go.RowKit Sh

/-- a block that reads as bytes -/
structure ByB (W : World) (g : Nat) (l : List Nat) : Prop where
  lt : g < W.heap.size
  c : ∀ j v, (nv .u8 l)[j]? = some v → W.cell? ⟨g, j, Option.none⟩ = some v
theorem ByB.below {W W2 : World} {g B : Nat} {l : List Nat} (h : ByB W g l) (b : Below B W W2) (hB : g < B) : ByB W2 g l :=
  ⟨Nat.lt_of_lt_of_le h.lt b.size, fun j v hv => (b.cell (p := ⟨g, j, Option.none⟩) hB).trans (h.c j v hv)⟩
theorem ByB.alloc {W : World} {g : Nat} {l : List Nat} (h : ByB W g l) (o : Obj) : ByB (W.alloc o) g l := h.below ((Below.refl _ _).alloc (Nat.le_refl _) o) h.lt
theorem ByB.freeze {W : World} {g : Nat} {l : List Nat} (h : ByB W g l) (p : Addr) (n : Nat) : ByB (W.freeze p n) g l := ⟨by rw [freeze_size]; exact h.lt, fun j v hv => by rw [freeze_cell]; exact h.c j v hv⟩
theorem Blk.byB {W : World} {g : Nat} {l : List Nat} (h : Blk W g 5 (va .u8 l)) : ByB W g l := ⟨h.lt, fun j v hv => by rw [h.cell]; simpa [va] using hv⟩
theorem Blk.freeze_ {W : World} {g : Nat} {t : TypeId} {cs : Array Value} (h : Blk W g t cs) (p : Addr) (n : Nat) (hp : p.block ≠ g) : Blk (W.freeze p n) g t cs := by
  unfold Blk World.freeze at *
  split
  · exact h
  · simp only [Array.getElem?_modify]
    rw [if_neg hp]
    exact h
theorem conv_blk {W : World} {g n c : Nat} {l : List Nat} (h : Blk W g 5 (va .u8 l)) (hl : l.length = n) : (convert 30 30 (.slice (some ⟨g, 0, Option.none⟩) n c)).run Tryd.prog W = .ok (.slice (some ⟨g, 0, Option.none⟩) n c) (W.freeze ⟨g, n, Option.none⟩ 1) := by
  rw [run_convert_mark]
  have hs : W.shape? g = some (5, n) := by
    unfold Blk at h
    unfold World.shape?
    rw [h]
    simp [va_size, hl]
  show (match W.shape? g with | some (_, k) => _ | Option.none => _) = _
  rw [hs]

/-- what stays while lives runs -/
structure DlMem (G : Nat) (w wr : World) : Prop where
  a : Blk wr G 23 (va .u32 dAbc)
  c : Blk wr (G + 1) 23 (va .u32 dLong)
  bel : Below G w wr
theorem DlMem.below {G : Nat} {w wr w2 : World} (h : DlMem G w wr) (b : Below wr.heap.size wr w2) : DlMem G w w2 := ⟨h.a.below b h.a.lt, h.c.below b h.c.lt, h.bel.trans (b.mono (by have := h.a.lt; omega))⟩
theorem DlMem.drew_ {G : Nat} {w wr : World} (h : DlMem G w wr) : DlMem G w wr.drew := ⟨h.a.drew, h.c.drew, below_drewN h.bel 1⟩
theorem DlMem.alloc_ {G : Nat} {w wr : World} (h : DlMem G w wr) (o : Obj) : DlMem G w (wr.alloc o) := h.below ((Below.refl _ _).alloc (Nat.le_refl _) o)
theorem DlMem.freeze_ {G : Nat} {w wr : World} (h : DlMem G w wr) (g n : Nat) (hg : G + 1 < g) : DlMem G w (wr.freeze ⟨g, n, Option.none⟩ 1) :=
  ⟨h.a.freeze_ _ _ (by simp; omega), h.c.freeze_ _ _ (by simp; omega), Lib.below_freeze h.bel (by simp; omega) 1⟩
theorem glob_freeze {w W : World} {G : Nat} (hg : Glob w) (hG : w.heap.size = G) (h : DlMem G w W) : Glob W := by
  subst hG
  exact hg.below h.bel

theorem isv_abc (w : World) : Calls Tryd.prog 13 #[.agg (va .u8 (sha [97, 98, 99])), .agg (va .u32 dAbc)] w fun e w' => e = .returned (.bool true) ∧ Below w.heap.size w w' := by
  rw [sha_abc]; exact is_any dAbc rfl (w32_of _ (by decide)) w
theorem isv_long (w : World) : Calls Tryd.prog 13 #[.agg (va .u8 (sha mLong)), .agg (va .u32 dLong)] w fun e w' => e = .returned (.bool true) ∧ Below w.heap.size w w' := by
  rw [sha_long]; exact is_any dLong rfl (w32_of _ (by decide)) w
theorem ofB (m : List Nat) (n : Nat) (hn : m.length = n) (hm : Byt m) (h1 : n < 1000) (W : World) (hg : Glob W) (g g0 : Nat) (hb : ByB W g m) (hc : Blk W g0 30 #[.slice (some ⟨g, 0, Option.none⟩) n n]) :
    Calls Tryd.prog 14 #[.slice (some ⟨g0, 0, Option.none⟩) 1 1] W fun e w' => e = .returned (.agg (va .u8 (sha m))) ∧ Below W.heap.size W w' :=
  of_one m n hn hm h1 W hg g g0 hb.lt hc.lt hb.c (hc.cell 0)
theorem ofB2 (W : World) (hg : Glob W) (g1 g2 g : Nat) (h1 : ByB W g1 [97]) (h2 : ByB W g2 [98, 99]) (hc : Blk W g 30 #[.slice (some ⟨g1, 0, Option.none⟩) 1 1, .slice (some ⟨g2, 0, Option.none⟩) 2 2]) :
    Calls Tryd.prog 14 #[.slice (some ⟨g, 0, Option.none⟩) 2 2] W fun e w' => e = .returned (.agg (va .u8 (sha [97, 98, 99]))) ∧ Below W.heap.size W w' :=
  of_two W hg g1 g2 g h1.lt h2.lt hc.lt (h1.c 0 _ rfl) (h2.c 0 _ rfl) (h2.c 1 _ rfl) (hc.cell 0) (hc.cell 1)
theorem writeB (W : World) (hg : Glob W) (g : Nat) (h : ByB W g [97, 98, 99]) :
    Calls Tryd.prog 16 #[.agg (stL true hL z64 0), .slice (some ⟨g, 0, Option.none⟩) 3 3] W fun e w' =>
      ∃ h' r' n', e = .returned (.agg (stL true h' r' n')) ∧ n' = 3 ∧ StOk [97, 98, 99] h' r' ∧ Below W.heap.size W w' :=
  write_abc W hg g h.lt (h.c 0 _ rfl) (h.c 1 _ rfl) (h.c 2 _ rfl)
theorem bs_a (W : World) : (Instr.buildSlice 30 1 #[(0, .int .u8 97)]).run Tryd.prog W = .ok (.slice (some ⟨W.heap.size, 0, none⟩) 1 1) (W.alloc (.cells (va .u8 [97]) 5)) := by
  obtain ⟨ie, hie, h0, h1, h2⟩ := info_parts byte_info
  refine run_buildSlice W _ 5 1 _ (va .u8 [97]) ie _ Tryd.underlying30 hie h0 (by rw [h1]; decide) (by rw [h1]; decide) ?_
  rw [h1]; kernel_rfl
theorem bs_bc (W : World) : (Instr.buildSlice 30 2 #[(0, .int .u8 98), (1, .int .u8 99)]).run Tryd.prog W = .ok (.slice (some ⟨W.heap.size, 0, none⟩) 2 2) (W.alloc (.cells (va .u8 [98, 99]) 5)) := by
  obtain ⟨ie, hie, h0, h1, h2⟩ := info_parts byte_info
  refine run_buildSlice W _ 5 2 _ (va .u8 [98, 99]) ie _ Tryd.underlying30 hie h0 (by rw [h1]; decide) (by rw [h1]; decide) ?_
  rw [h1]; kernel_rfl
theorem bs_abc (W : World) : (Instr.buildSlice 30 3 #[(0, .int .u8 97), (1, .int .u8 98), (2, .int .u8 99)]).run Tryd.prog W = .ok (.slice (some ⟨W.heap.size, 0, none⟩) 3 3) (W.alloc (.cells (va .u8 [97, 98, 99]) 5)) := by
  obtain ⟨ie, hie, h0, h1, h2⟩ := info_parts byte_info
  refine run_buildSlice W _ 5 3 _ (va .u8 [97, 98, 99]) ie _ Tryd.underlying30 hie h0 (by rw [h1]; decide) (by rw [h1]; decide) ?_
  rw [h1]; kernel_rfl
theorem slice_info : (Tryd.prog.info? 30).map (fun i => (i.zero, i.size, i.bytes)) = some (some (.slice none 0 0), 1, 24) := by kernel_rfl
theorem bs_s1 (g n : Nat) (W : World) : (Instr.buildSlice 53 1 #[(0, .slice (some ⟨g, 0, Option.none⟩) n n)]).run Tryd.prog W = .ok (.slice (some ⟨W.heap.size, 0, none⟩) 1 1) (W.alloc (.cells #[.slice (some ⟨g, 0, Option.none⟩) n n] 30)) := by
  obtain ⟨ie, hie, h0, h1, h2⟩ := info_parts slice_info
  refine run_buildSlice W _ 30 1 _ _ ie _ Tryd.underlying53 hie h0 (by rw [h1]; decide) (by rw [h1]; decide) ?_
  rw [h1]; kernel_rfl
theorem bs_s2 (g n g2 n2 : Nat) (W : World) : (Instr.buildSlice 53 2 #[(0, .slice (some ⟨g, 0, Option.none⟩) n n), (1, .slice (some ⟨g2, 0, Option.none⟩) n2 n2)]).run Tryd.prog W = .ok (.slice (some ⟨W.heap.size, 0, none⟩) 2 2) (W.alloc (.cells #[.slice (some ⟨g, 0, Option.none⟩) n n, .slice (some ⟨g2, 0, Option.none⟩) n2 n2] 30)) := by
  obtain ⟨ie, hie, h0, h1, h2⟩ := info_parts slice_info
  refine run_buildSlice W _ 30 2 _ _ ie _ Tryd.underlying53 hie h0 (by rw [h1]; decide) (by rw [h1]; decide) ?_
  rw [h1]; kernel_rfl
end Go.Proofs.YtbjgkolblfpakaaDoor
