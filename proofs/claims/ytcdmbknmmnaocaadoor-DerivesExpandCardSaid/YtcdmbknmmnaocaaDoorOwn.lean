/-
  Byte slices that a function owns and appends to.
-/
import Derived.Test.YtcdmbknmmnaocaaDoorCopy
namespace Go.Proofs.YtcdmbknmmnaocaaDoor
open Go.RowKit Sh

/-- the slice with address A owns the bytes l -/
def Own (w : World) (B0 : Nat) (A : Option Addr) (n c : Nat) (l : List Nat) : Prop := w.ownsRow B0 5 1 (.slice A n c) n (nv .u8 l)
/-- its block is not x -/
def Off (A : Option Addr) (x : Nat) : Prop := ∀ a, A = some a → a.block ≠ x
section
variable {w w' : World} {B0 n c : Nat} {A : Option Addr} {l : List Nat}
theorem ob_of (A : Option Addr) (n c k : Nat) : (Value.slice A n c).ownBlock = some k ↔ ∃ a, A = some a ∧ a.block = k := by
  cases A <;> simp [Value.ownBlock]
theorem Off.ob {x : Nat} (h : Off A x) (n c : Nat) : some x ≠ (Value.slice A n c).ownBlock := fun e => by
  obtain ⟨a, ha, hb⟩ := (ob_of A n c x).1 e.symm
  exact h a ha hb
theorem Off.nil (x : Nat) : Off none x := fun _ h => by cases h
theorem Own.len (h : Own w B0 A n c l) : l.length = n := by have := h.1; rw [nv_len] at this; omega
theorem Own.cap (h : Own w B0 A n c l) : n ≤ c := by
  rcases h.2 with ⟨e, h0⟩ | ⟨g, cap, cur, e, _, _, hc, _⟩
  · omega
  · injection e with _ _ e3; omega
theorem Own.lt (h : Own w B0 A n c l) {a : Addr} (ha : A = some a) : B0 ≤ a.block ∧ a.block < w.heap.size :=
  World.ownsRow.lt h a.block ((ob_of A n c _).2 ⟨a, ha, rfl⟩)
theorem Own.kept {row : Option Nat} (h : Own w B0 A n c l) (hg : w.grownBy w' row) (hne : ∀ a, A = some a → some a.block ≠ row) : Own w' B0 A n c l := by
  refine World.ownsRow.kept h hg ?_
  cases A with
  | none => exact .inl rfl
  | some a => exact .inr (hne a rfl)
theorem grown_of_below {w w' : World} (h : Below w.heap.size w w') : w.grownBy w' none := ⟨h.os, h.tape, h.output, h.size, fun k hk _ => h.block k hk⟩
theorem Own.below (h : Own w B0 A n c l) (bx : Below w.heap.size w w') : Own w' B0 A n c l := h.kept (grown_of_below bx) (fun _ _ => by simp)
theorem Own.alloc (h : Own w B0 A n c l) (o : Obj) : Own (w.alloc o) B0 A n c l := World.ownsRow.alloc h o
theorem Own.drew_ (h : Own w B0 A n c l) : Own w.drew B0 A n c l := h
theorem grown_row (w : World) (g : Nat) (cs : Array Value) : w.grownBy (w.setRow g cs) (some g) := ⟨rfl, rfl, rfl, by simp [World.setRow], fun k _ hne => setRow_other w g cs k (fun e => hne (by rw [e]))⟩
theorem Own.rowFar {g : Nat} (h : Own w B0 A n c l) (hne : Off A g) (cs : Array Value) : Own (w.setRow g cs) B0 A n c l :=
  h.kept (grown_row w g cs) (fun a ha e => hne a ha (Option.some.inj e))
theorem Own.far (h : Own w B0 A n c l) {p : Addr} (hne : Off A p.block) (u : Value) : Own (w.setCell p u) B0 A n c l :=
  h.kept (row := some p.block) ⟨rfl, rfl, rfl, by simp [World.setCell], fun k _ hk => Below.heap_setCell w p u k (fun e => hk (by rw [e]))⟩ (fun a ha e => hne a ha (Option.some.inj e))
theorem Own.freeze_ {g k m : Nat} (h : Own w B0 A n c l) (hne : Off A g) : Own (w.freeze ⟨g, k, none⟩ m) B0 A n c l := by
  by_cases h0 : m = 0
  · have e : w.freeze ⟨g, k, none⟩ m = w := by unfold World.freeze; rw [if_pos h0]
    rw [e]; exact h
  · refine h.kept (row := some g) ⟨?_, ?_, ?_, by rw [freeze_size]; exact Nat.le_refl _, fun j _ hj => ?_⟩ (fun a ha e => hne a ha (Option.some.inj e))
    · unfold World.freeze; rw [if_neg h0]
    · unfold World.freeze; rw [if_neg h0]
    · unfold World.freeze; rw [if_neg h0]
    · unfold World.freeze
      rw [if_neg h0]
      simp only [Array.getElem?_modify]
      rw [if_neg (fun e => hj (by rw [e]))]
theorem Own.reads (h : Own w B0 A n c l) : Reads w w.heap.size 1 A n (nv .u8 l) := Reads.of_own h
theorem Own.readsTo {N : Nat} (h : Own w B0 A n c l) (hN : w.heap.size ≤ N) : Reads w N 1 A n (nv .u8 l) := h.reads.more hN
theorem Own.nil (w : World) (B0 : Nat) : Own w B0 none 0 0 [] := World.ownsRow_nil w B0 _ _
theorem Own.new_off (h : Own w B0 A n c l) : Off A w.heap.size := fun a ha e => by have := (h.lt ha).2; omega
theorem Own.off_lt (h : Own w B0 A n c l) {x : Nat} (hx : x < B0) : Off A x := fun a ha e => by have := (h.lt ha).1; omega
theorem Own.off_ge (h : Own w B0 A n c l) {x : Nat} (hx : w.heap.size ≤ x) : Off A x := fun a ha e => by have := (h.lt ha).2; omega
theorem Own.off_blk {x : Nat} {T : TypeId} {cs : Array Value} (h : Own w B0 A n c l) (hb : Blk w x T cs) (hne : 5 ≠ T) : Off A x := fun a ha e =>
  own_blk_ne (n := n) h hb hne (by rw [ob_of]; exact ⟨a, ha, e⟩)
theorem Blk.owned {g : Nat} (h : Blk w g 5 (va .u8 l)) (hn : l.length = n) (hb : B0 ≤ g) (hm : n ≤ maxLen) : Own w B0 (some ⟨g, 0, none⟩) n n l := Blk.own h hn hb hm
theorem Own.mono {B1 : Nat} (h : Own w B0 A n c l) (hb : B1 ≤ B0) : Own w B1 A n c l := by
  refine ⟨h.1, ?_⟩
  rcases h.2 with h0 | ⟨g, cap, cur, e, hg, r⟩
  · exact .inl h0
  · exact .inr ⟨g, cap, cur, e, Nat.le_trans hb hg, r⟩
/-- the address is that of a block's head -/
theorem Own.form (h : Own w B0 A n c l) : A = none ∧ n = 0 ∧ c = 0 ∨ ∃ g, A = some ⟨g, 0, none⟩ ∧ B0 ≤ g ∧ g < w.heap.size := by
  rcases h.2 with ⟨e, h0⟩ | ⟨g, cap, cur, e, hb, hh, _⟩
  · injection e with e1 e2 e3
    exact .inl ⟨e1, h0, e3⟩
  · injection e with e1
    exact .inr ⟨g, e1, hb, (Array.getElem?_eq_some_iff.1 hh).1⟩
/-- an append -/
theorem own_append (h : Own w B0 A n c l) (A2 : Option Addr) (n2 c2 B : Nat) (m : List Nat) (hr : Reads w B 1 A2 n2 (nv .u8 m)) (hB0 : B0 ≤ w.heap.size) (new : List Nat) (hnew : l ++ m = new) (N : Nat) (hN : n + n2 = N) (hmax : N ≤ 100000000) (ty : TypeId) :
    ∃ A' c' w', (Builtin.append_ #[22, 22] ty #[.slice A n c, .slice A2 n2 c2]).run Tryd.prog w = .ok (.slice A' N c') w' ∧ Own w' B0 A' N c' new ∧ N ≤ c' ∧ w.grownBy w' (Value.slice A n c).ownBlock ∧
      ∀ x, Off A x → x < w.heap.size → Off A' x := by
  subst hnew hN
  obtain ⟨i0, hi0, hz0, hz1, hz2⟩ := info_parts byte_info
  obtain ⟨v', w', hrun, h2, h3, h4⟩ := run_append_any (P := Tryd.prog) w B0 22 ty 5 i0 (.int .u8 0) 1 1 Tryd.underlying22 hi0 hz0 hz1 hz2 rfl (by omega) (.slice A n c) n (nv .u8 l) h B A2 n2 c2 (nv .u8 m) hr (nv_one _ _)
    (by unfold maxLen; omega) (by omega) hB0
  have hf : ∃ A' c', v' = .slice A' (n + n2) c' ∧ n + n2 ≤ c' := by
    rcases h2.2 with ⟨e, h0⟩ | ⟨g, cap, cur, e, _, _, hc, _⟩
    · exact ⟨none, 0, by rw [e, h0], by omega⟩
    · exact ⟨_, _, e, hc⟩
  obtain ⟨A', c', rfl, hc⟩ := hf
  rw [nv_app] at h2
  refine ⟨A', c', w', hrun, h2, hc, h3, fun x hx hlt a ha e => ?_⟩
  have h5 : (Value.slice A' (n + n2) c').ownBlock = some x := (ob_of _ _ _ _).2 ⟨a, ha, e⟩
  rcases h4 with h4 | h4
  · rw [h4] at h5
    exact hx.ob n c h5.symm
  · rw [h4] at h5
    have := Option.some.inj h5
    omega
theorem Own.belowG {B : Nat} {a : World} (hW : Below B a w) (hB : B ≤ w.heap.size) (hA : ∀ k, (Value.slice A n c).ownBlock = some k → B ≤ k) (hg : w.grownBy w' (Value.slice A n c).ownBlock) : Below B a w' := hW.grown hg hB hA
theorem Own.from_ (h : Own w B0 A n c l) : ∀ k, (Value.slice A n c).ownBlock = some k → B0 ≤ k := fun k hk => (World.ownsRow.lt h k hk).1
theorem ByB.grown {g : Nat} {row : Option Nat} {m : List Nat} (h : ByB w g m) (hb : w.grownBy w' row) (hg : some g ≠ row) : ByB w' g m :=
  ⟨Nat.lt_of_lt_of_le h.lt hb.size, fun j v hv => (World.cell?_of_block (a := ⟨g, j, none⟩) (hb.block g h.lt hg)).trans (h.c j v hv)⟩
/-- an own slice behind another's append -/
theorem Own.grown {A2 : Option Addr} {n2 c2 : Nat} (h : Own w B0 A n c l) (hb : w.grownBy w' (Value.slice A2 n2 c2).ownBlock) (hne : ∀ a, A = some a → Off A2 a.block) : Own w' B0 A n c l :=
  h.kept hb (fun a ha => (hne a ha).ob n2 c2)
theorem Own.new_sep {A2 : Option Addr} {n2 c2 : Nat} {l2 : List Nat} (h : Own w B0 A n c l) (h2 : Own w B0 A2 n2 c2 l2) (hs : ∀ a, A = some a → Off A2 a.block) : ∀ a, A2 = some a → Off A a.block := fun a ha b hb e => hs b hb a ha e.symm
theorem Own.readsAt {g : Nat} (h : Own w B0 (some ⟨g, 0, none⟩) n c l) (o m : Nat) (hm : o + m ≤ n) : Reads w w.heap.size 1 (some ⟨g, o, none⟩) m (nv .u8 ((l.drop o).take m)) := by
  have h1 := h.reads.part (o := o) (m := m) hm
  rwa [add_none, Nat.zero_add] at h1
theorem Own.byB {g : Nat} (h : Own w B0 (some ⟨g, 0, none⟩) n c l) : ByB w g l :=
  ⟨(h.lt rfl).2, fun j v hv => by
    have h1 := World.ownsRow.cells h (g := g) rfl j v hv
    rwa [add_none, Nat.zero_add] at h1⟩
theorem ByB.far {g : Nat} (h : ByB w g l) {p : Addr} (hne : g ≠ p.block) (u : Value) : ByB (w.setCell p u) g l :=
  ⟨by simpa [World.setCell] using h.lt, fun j v hv => (World.cell?_of_block (a := ⟨g, j, none⟩) (Below.heap_setCell w p u g hne)).trans (h.c j v hv)⟩
theorem ByB.num {g i : Nat} (h : ByB w g l) (hi : i < l.length) : w.cell? ⟨g, i, none⟩ = some (.int .u8 ((l.getD i 0 : Nat) : Int)) := h.c i _ (nv_get hi)
end
end Go.Proofs.YtcdmbknmmnaocaaDoor
