/-
  What every card over the two tables of digests needs. (Printed by mkargs.py.)
-/
import Derived.Test.YtcdmbknmmnaocaaDoorCards
import Derived.Test.YtcdmbknmmnaocaaDoorTie
import Derived.Test.YtcdmbknmmnaocaaDoorDig2
import Derived.Test.YtcdmbknmmnaocaaDoorArgB
import Derived.Deep.DeepHandedRow
import Derived.Lib.LaidTab
namespace Go.Proofs.YtcdmbknmmnaocaaDoor
open Go.ChangeShapes Go.WideShapes Go.ChangeAt Go.RowKit Sh

theorem ownC : ownKnob Tryd.prog.godebug = none := by kernel_rfl
theorem gI : Tryd.prog.globalNamed "caisson/digests.initial" = some 0 := by kernel_rfl
theorem gC : Tryd.prog.globalNamed "caisson/digests.constants" = some 1 := by kernel_rfl
theorem gIt : (Tryd.prog.globals[0]?).map (·.type) = some 54 := by kernel_rfl
theorem gCt : (Tryd.prog.globals[1]?).map (·.type) = some 65 := by kernel_rfl
def ints (l : List Nat) : List Int := l.map fun x : Nat => (x : Int)
theorem datI : (Rows.laid_caisson_digests_initial : DataW Unit) = Lib.tabData .u32 (ints hL) := by kernel_rfl
theorem datC : (Rows.laid_caisson_digests_constants : DataW Unit) = Lib.tabData .u32 (ints kL) := by kernel_rfl
theorem tab_second {P : Program} {W : World} {n1 : String} {d1 : DataW Unit} {name : String} {k : IntKind} {zs : List Int} {rest : List (String × DataW Unit)} {g : Nat} {t e : TypeId} {n : Nat}
    (hg : P.globalNamed name = some g) (hty : (P.globals[g]?).map (·.type) = some t) (ht : P.underlying t = some (.array n e)) (he : P.underlying e = some (.int k)) (hce : P.cellsOf e = 1) (hct : P.cellsOf t = n)
    (h : laidMet P ((n1, d1) :: (name, Lib.tabData k zs) :: rest) W) : Lib.TabIs P W name k zs := by
  obtain ⟨ps, ⟨_, _, _, _, _, q1, _, _, _, _, ⟨g', t', cs, fuel, p, q, hg', ht', hvar, hd, _, _⟩, _⟩, _⟩ := h
  obtain rfl := Option.some.inj (hg.symm.trans hg')
  obtain rfl := Option.some.inj (hty.symm.trans ht')
  unfold Lib.TabIs
  rw [hvar, ← Lib.cells_of_tab ht he hce hct hd]
theorem range_of {W : World} {name : String} {l : List Nat} {g : Nat} (h : Lib.TabIs Tryd.prog W name .u32 (ints l)) (hg : Tryd.prog.globalNamed name = some g) : W.rangeAt g 0 (nv .u32 l) := fun j v hv => by
  have hj : j < l.length := by
    rcases Nat.lt_or_ge j l.length with h0 | h0
    · exact h0
    · rw [List.getElem?_eq_none (by rw [nv_len]; exact h0)] at hv; cases hv
  have hc := h.cell hg j (by simpa [ints] using hj)
  rw [nv_get hj] at hv
  injection hv with hv
  subst hv
  rw [Nat.zero_add, hc]
  simp [ints, List.getD_eq_getElem?_getD, hj]
theorem glob_laid {W : World} (h : laidMet Tryd.prog [("caisson/digests.initial", Rows.laid_caisson_digests_initial), ("caisson/digests.constants", Rows.laid_caisson_digests_constants)] W) : Glob W := by
  rw [datI, datC] at h
  have hI := range_of (Lib.tabIs_of_head (e := 53) (n := 8) gI gIt (by kernel_rfl) (by kernel_rfl) (by kernel_rfl) (by kernel_rfl) h) gI
  have hC := range_of (tab_second (e := 53) (n := 64) gC gCt (by kernel_rfl) (by kernel_rfl) (by kernel_rfl) (by kernel_rfl) h) gC
  refine ⟨hC, hI, ?_, ?_⟩
  · have := hC 0 _ (nv_get (by rw [kL_len]; omega))
    exact World.block_lt_of_cell? W _ this
  · have := hI 0 _ (nv_get (by rw [hL_len]; omega))
    exact World.block_lt_of_cell? W _ this
theorem vaInts (k : IntKind) (l : List Nat) : ((l.map (fun x : Nat => (x : Int))).map (Value.int k)).toArray = va k l := by
  simp [va, nv, Function.comp_def]

def lay (l : List Nat) : Obj → Obj
  | .cells _ t frozen => .cells (va .u32 l) t frozen
  | o => o
noncomputable def laidWorld (os : Os) : World :=
  { World.holding Tryd.prog os ⟨#[], #[], []⟩ with heap := ((World.holding Tryd.prog os ⟨#[], #[], []⟩).heap.modify 0 (lay hL)).modify 1 (lay kL) }
end Go.Proofs.YtcdmbknmmnaocaaDoor
