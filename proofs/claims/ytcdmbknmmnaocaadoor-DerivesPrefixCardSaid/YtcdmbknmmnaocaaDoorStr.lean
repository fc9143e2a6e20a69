/-
  Bytes as a string.
-/
import Derived.Test.YtcdmbknmmnaocaaDoorMemB
import Derived.Deep.MidRow
import Derived.Laws.BytesString
import Derived.Laws.CopyRow
namespace Go.Proofs.YtcdmbknmmnaocaaDoor
open Go.RowKit

/-- bytes as a string -/
def bst (l : List Nat) : ByteArray := (l.map fun x : Nat => (x : Int)).foldl (fun r n => r.push (UInt8.ofNat n.toNat)) ByteArray.empty
theorem run_string_of {w : World} (src dst : TypeId) (hs : Tryd.prog.underlying src = some (.slice 5)) (hd : Tryd.prog.underlying dst = some .string) (g o n c : Nat) (l : List Nat) (hl : l.length = n)
    (hb : ∀ j v, (nv .u8 l)[j]? = some v → w.cell? ⟨g, o + j, none⟩ = some v) :
    (convert src dst (.slice (some ⟨g, o, none⟩) n c)).run Tryd.prog w = .ok (.string (bst l)) w := by
  subst hl
  rw [run_convert_bytes_string w src dst 5 _ _ _ hs Tryd.underlying5 hd]
  have h1 := run_loadCells_list (P := Tryd.prog) w ⟨g, o, none⟩ (nv .u8 l) (fun j v hv => by rw [Addr.add_mid]; exact hb j v hv)
  rw [nv_len] at h1
  refine run_bytesToString w ⟨g, o, none⟩ l.length c (l.map fun x : Nat => (x : Int)) ?_
  rw [h1]; simp [nv]
/-- a part of a block -/
theorem Blk.part {w : World} {g : Nat} {t : TypeId} {k : IntKind} {l : List Nat} (h : Blk w g t (va k l)) (o n : Nat) : ∀ j v, (nv k ((l.drop o).take n))[j]? = some v → w.cell? ⟨g, o + j, none⟩ = some v := fun j v hv => by
  rw [← nv_take, ← nv_drop, List.getElem?_take] at hv
  split at hv
  · rw [List.getElem?_drop] at hv
    rw [h.cell]; simpa [va] using hv
  · cases hv
end Go.Proofs.YtcdmbknmmnaocaaDoor
