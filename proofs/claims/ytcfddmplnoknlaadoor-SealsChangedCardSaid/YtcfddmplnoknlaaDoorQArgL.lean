/-
  Arguments of the laws of seals opened: what a block is sealed with.
-/
import Derived.Test.YtcfddmplnoknlaaDoorZ2
import Derived.Test.YtcfddmplnoknlaaDoorQSel6
import Derived.Deep.Strs
namespace Go.Proofs.YtcfddmplnoknlaaDoor
set_option maxRecDepth 16384
open Go.RowKit Go.WideShapes Go.ChangeShapes Go.Joins Sh
section
variable {H : Type} {enc : TypeId × Value → H} {W : World}
theorem trod_noL {m : Nat} {cs : List Value} {x : DataW H × List MemPlace} (hl : cs.length = 2) (h : DataW.trod enc Tryd.prog W 0 (fun _ => true) true m 30 cs = some x) :
  ∃ s c : Nat, cs = (noV s c).toList ∧ s < 4294967296 ∧ c < 18446744073709551616 := by
 match cs, hl with
 | [a, b], _ =>
  obtain ⟨y0, y1, n, _, _, h0, h1⟩ := trod_struct2 Tryd.underlying30 h
  have h0' : DataW.trod enc Tryd.prog W 0 (fun _ => true) true n 27 [a] = some y0 := h0
  have h1' : DataW.trod enc Tryd.prog W 0 (fun _ => true) true n 28 [b] = some y1 := h1
  obtain ⟨s, es, hs⟩ := trod_num 4294967296 u32_wf Tryd.underlying27 h0'
  obtain ⟨c, ec, hc⟩ := trod_num 18446744073709551616 u64_wf Tryd.underlying28 h1'
  simp only [List.cons.injEq, and_true] at es ec
  exact ⟨s, c, by rw [es, ec]; rfl, hs, hc⟩
theorem trod_keysL {m : Nat} {cs : List Value} {x : DataW H × List MemPlace} (hl : cs.length = 48) (h : DataW.trod enc Tryd.prog W 0 (fun _ => true) true m 26 cs = some x) :
  ∃ ke km : List Nat, cs = nv .u8 (ke ++ km) ∧ ke.length = 16 ∧ km.length = 32 ∧ Byt ke ∧ Byt km := by
 obtain ⟨y0, y1, n, _, _, h0, h1⟩ := trod_struct2 Tryd.underlying26 h
 have h0' : DataW.trod enc Tryd.prog W 0 (fun _ => true) true n 22 (cs.take 16) = some y0 := h0
 have e1 : (cs.drop 16).take 32 = cs.drop 16 := List.take_of_length_le (by simp; omega)
 have h1' : DataW.trod enc Tryd.prog W 0 (fun _ => true) true n 24 (cs.drop 16) = some y1 := by rw [← e1]; exact h1
 obtain ⟨ke, hk, hl0, hb0⟩ := trod_nums (n := 16) 256 u8_wf Tryd.underlying22 Tryd.underlying5 (by kernel_rfl) (by simp; omega) h0'
 obtain ⟨km, hm, hl1, hb1⟩ := trod_nums (n := 32) 256 u8_wf Tryd.underlying24 Tryd.underlying5 (by kernel_rfl) (by simp; omega) h1'
 refine ⟨ke, km, ?_, hl0, hl1, hb0, hb1⟩
 rw [← List.take_append_drop 16 cs, hk, hm, nv_app]
theorem open_S {r0 : Reach} {b0 : Nat} {v : Value} {d : DataW H} {ps : List MemPlace} (hval : Value.okWide Tryd.prog W r0 b0 32 v) (hd : DataW.Trod enc Tryd.prog W 0 (fun _ => true) true 32 v d ps) :
  ∃ (ke km : List Nat) (i : Int) (s c : Nat), v = .agg (sV ke km i s c) ∧ ke.length = 16 ∧ km.length = 32 ∧ Byt ke ∧ Byt km ∧ s < 4294967296 ∧ c < 18446744073709551616 := by
 obtain ⟨cs, rfl, hsz⟩ := okWide_struct Tryd.underlying32 hval
 have hsz2 : cs.size = 51 := hsz.trans (by kernel_rfl)
 obtain ⟨fuel, hf⟩ := hd
 obtain ⟨y0, y1, y2, n, _, _, h0, h1, h2⟩ := Deep.trod_struct3 Tryd.underlying32 hf
 have hcl : cs.toList.length = 51 := by simpa using hsz2
 have hcc : (Value.agg cs).cells.toList = cs.toList := rfl
 have h0' : DataW.trod enc Tryd.prog W 0 (fun _ => true) true n 26 (cs.toList.take 48) = some y0 := h0
 have h1' : DataW.trod enc Tryd.prog W 0 (fun _ => true) true n 3 ((cs.toList.drop 48).take 1) = some y1 := h1
 have e2 : (cs.toList.drop 49).take 2 = cs.toList.drop 49 := List.take_of_length_le (by simp; omega)
 have h2' : DataW.trod enc Tryd.prog W 0 (fun _ => true) true n 30 (cs.toList.drop 49) = some y2 := by rw [← e2]; exact h2
 obtain ⟨ke, km, ek, hl0, hl1, hb0, hb1⟩ := trod_keysL (by simp; omega) h0'
 obtain ⟨i, ei, _, _⟩ := DataW.trod_int Tryd.underlying3 h1'
 obtain ⟨s, c, en, hs, hc⟩ := trod_noL (by simp; omega) h2'
 refine ⟨ke, km, i, s, c, ?_, hl0, hl1, hb0, hb1, hs, hc⟩
 congr 1
 apply Array.toList_inj.1
 rw [sV_list, ← List.take_append_drop 48 cs.toList, ek]
 congr 1
 have e3 : cs.toList.drop 48 = (cs.toList.drop 48).take 1 ++ cs.toList.drop 49 := by
  rw [show (49 : Nat) = 48 + 1 by rfl, ← List.drop_drop, List.take_append_drop]
 rw [e3, ei, en]
 rfl
end
end Go.Proofs.YtcfddmplnoknlaaDoor
