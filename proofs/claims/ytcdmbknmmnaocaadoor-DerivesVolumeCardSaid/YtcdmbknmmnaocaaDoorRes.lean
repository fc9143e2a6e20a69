/-
  Results that lie in cells of whole rows; a whole row written anew.
-/
import Derived.Test.YtcdmbknmmnaocaaDoorStep
import Derived.Laws.ResultCell
namespace Go.Proofs.YtcdmbknmmnaocaaDoor
open Go.RowKit

theorem results_row_tmp {P : Program} {fn : Func} {p u : Tmp} {ty : TypeId} (h : fn.results = #[.cell p ty, .tmp u]) (tmps : Array Value) (w : World) (g : Nat) (t : TypeId) (cs : Array Value) (d : TypeDesc) (v : Value)
    (hp : tmps.getD p undef = .pointer (some ⟨g, 0, none⟩)) (hg : Blk w g t cs)
    (hu : P.underlying ty = some d) (hd : (match d with | .struct _ | .array _ _ => true | _ => false) = true) (hi : (P.info? ty).map (·.size) = some cs.size) (hv : tmps.getD u undef = v) :
    (results fn tmps).run P w = .ok (.tuple #[.agg cs, v]) w := by
  rw [results_cell_tmp h, hp, hv]
  simp [asAddr, run_loadVar_row w g t ty cs (0, 0) d hg hu hd hi]

theorem results_row_row_tmp {P : Program} {fn : Func} {p q u : Tmp} {ty sy : TypeId} (h : fn.results = #[.cell p ty, .cell q sy, .tmp u]) (tmps : Array Value) (w : World) (g : Nat) (t : TypeId) (cs : Array Value) (d : TypeDesc) (g2 : Nat) (t2 : TypeId) (cs2 : Array Value) (d2 : TypeDesc) (v : Value)
    (hp : tmps.getD p undef = .pointer (some ⟨g, 0, none⟩)) (hg : Blk w g t cs)
    (hu : P.underlying ty = some d) (hd : (match d with | .struct _ | .array _ _ => true | _ => false) = true) (hi : (P.info? ty).map (·.size) = some cs.size)
    (hp2 : tmps.getD q undef = .pointer (some ⟨g2, 0, none⟩)) (hg2 : Blk w g2 t2 cs2)
    (hu2 : P.underlying sy = some d2) (hd2 : (match d2 with | .struct _ | .array _ _ => true | _ => false) = true) (hi2 : (P.info? sy).map (·.size) = some cs2.size) (hv : tmps.getD u undef = v) :
    (results fn tmps).run P w = .ok (.tuple #[.agg cs, .agg cs2, v]) w := by
  have hp' : tmps[p]?.getD undef = .pointer (some ⟨g, 0, none⟩) := by simpa using hp
  have hq' : tmps[q]?.getD undef = .pointer (some ⟨g2, 0, none⟩) := by simpa using hp2
  have hv' : tmps[u]?.getD undef = v := by simpa using hv
  simp [results, h, hp', hq', hv', asAddr, run_loadVar_row w g t ty cs (0, 0) d hg hu hd hi, run_loadVar_row w g2 t2 sy cs2 (0, 0) d2 hg2 hu2 hd2 hi2]

theorem run_storeBlkA {P : Program} {w : World} {g : Nat} {t : TypeId} {old : Array Value} (h : Blk w g t old) (c : Array Value) (hs : old.size = c.size) (h1 : ∀ v ∈ c.toList, v.oneCell' = true) :
    (storeCells ⟨g, 0, none⟩ c.toList).run P w = .ok () (w.setRow g c) := by
  have e := run_storeCells_from (P := P) g t c.toList 0 old w h (by simp; omega) h1
  simpa using e
theorem Blk.newAt {w : World} {g : Nat} {t : TypeId} {cs : Array Value} (h : w.heap.size = g) : Blk (w.alloc (.cells cs t)) g t cs := by
  subst h; exact Blk.new _ _ _
theorem Blk.readsAll {w : World} {g B n : Nat} {t : TypeId} {k : IntKind} {l : List Nat} (h : Blk w g t (va k l)) (hg : g < B) (hn : l.length = n) : Reads w B 1 (some ⟨g, 0, none⟩) n (nv k l) := by
  subst hn
  have := h.reads hg 0 l.length (by omega)
  simpa using this
end Go.Proofs.YtcdmbknmmnaocaaDoor
