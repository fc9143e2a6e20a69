/-
  Arguments of the laws of the top opened: a cell, a nonce. (Printed by mkcardt1.py.)
-/
import Derived.Test.YtcdgcaljlmondaaDoorZ14
import Derived.Deep.Strs
namespace Go.Proofs.YtcdgcaljlmondaaDoor
set_option maxRecDepth 16384
open Go.RowKit Go.WideShapes Go.ChangeShapes Go.Joins Sh
section
variable {H : Type} {enc : TypeId × Value → H} {W : World}
theorem trod_noT {m : Nat} {cs : List Value} {x : DataW H × List MemPlace} (hl : cs.length = 2) (h : DataW.trod enc Tryd.prog W 0 (fun _ => true) true m 40 cs = some x) :
  ∃ s c : Nat, cs = (noV s c).toList ∧ s < 4294967296 ∧ c < 18446744073709551616 := by
 match cs, hl with
 | [a, b], _ =>
  obtain ⟨y0, y1, n, _, _, h0, h1⟩ := trod_struct2 Tryd.underlying40 h
  have h0' : DataW.trod enc Tryd.prog W 0 (fun _ => true) true n 38 [a] = some y0 := h0
  have h1' : DataW.trod enc Tryd.prog W 0 (fun _ => true) true n 24 [b] = some y1 := h1
  obtain ⟨s, es, hs⟩ := trod_num 4294967296 u32_wf Tryd.underlying38 h0'
  obtain ⟨c, ec, hc⟩ := trod_num 18446744073709551616 u64_wf Tryd.underlying24 h1'
  simp only [List.cons.injEq, and_true] at es ec
  exact ⟨s, c, by rw [es, ec]; rfl, hs, hc⟩
theorem open_noT {r0 : Reach} {b0 : Nat} {v : Value} {d : DataW H} {ps : List MemPlace} (hval : Value.okWide Tryd.prog W r0 b0 40 v) (hd : DataW.Trod enc Tryd.prog W 0 (fun _ => true) true 40 v d ps) :
  ∃ s c : Nat, v = .agg (noV s c) ∧ s < 4294967296 ∧ c < 18446744073709551616 := by
 obtain ⟨cs, rfl, hsz⟩ := okWide_struct Tryd.underlying40 hval
 have hsz2 : cs.size = 2 := hsz.trans (by kernel_rfl)
 obtain ⟨fuel, hf⟩ := hd
 have hf' : DataW.trod enc Tryd.prog W 0 (fun _ => true) true fuel 40 cs.toList = some (d, ps) := hf
 obtain ⟨s, c, e, hs, hc⟩ := trod_noT (by simpa using hsz2) hf'
 refine ⟨s, c, ?_, hs, hc⟩
 congr 1
 exact Array.toList_inj.1 e
theorem open_cel {r0 : Reach} {b0 : Nat} {v : Value} {d : DataW H} {ps : List MemPlace} (hval : Value.okWide Tryd.prog W r0 b0 26 v) (hd : DataW.Trod enc Tryd.prog W 0 (fun _ => true) true 26 v d ps) :
  ∃ (r : List Nat) (e m : Nat), v = .agg (celV r e m) ∧ r.length = 32 ∧ Byt r ∧ e < 18446744073709551616 ∧ m < 18446744073709551616 := by
 obtain ⟨cs, rfl, hsz⟩ := okWide_struct Tryd.underlying26 hval
 have hsz2 : cs.size = 34 := hsz.trans (by kernel_rfl)
 obtain ⟨fuel, hf⟩ := hd
 obtain ⟨y0, y1, y2, n, _, _, h0, h1, h2⟩ := Deep.trod_struct3 Tryd.underlying26 hf
 have hcl : cs.toList.length = 34 := by simpa using hsz2
 have h0' : DataW.trod enc Tryd.prog W 0 (fun _ => true) true n 23 (cs.toList.take 32) = some y0 := h0
 have h1' : DataW.trod enc Tryd.prog W 0 (fun _ => true) true n 24 ((cs.toList.drop 32).take 1) = some y1 := h1
 have e2 : (cs.toList.drop 33).take 1 = cs.toList.drop 33 := List.take_of_length_le (by simp; omega)
 have h2' : DataW.trod enc Tryd.prog W 0 (fun _ => true) true n 24 (cs.toList.drop 33) = some y2 := by rw [← e2]; exact h2
 obtain ⟨r, er, hl, hb⟩ := trod_nums (n := 32) 256 u8_wf Tryd.underlying23 Tryd.underlying5 (by kernel_rfl) (by simp; omega) h0'
 obtain ⟨e, ee, he⟩ := trod_num 18446744073709551616 u64_wf Tryd.underlying24 h1'
 obtain ⟨m, em, hm⟩ := trod_num 18446744073709551616 u64_wf Tryd.underlying24 h2'
 refine ⟨r, e, m, ?_, hl, hb, he, hm⟩
 congr 1
 apply Array.toList_inj.1
 show cs.toList = nv .u8 r ++ [Value.int .u64 (e : Int), Value.int .u64 (m : Int)]
 rw [← List.take_append_drop 32 cs.toList, er]
 congr 1
 have e3 : cs.toList.drop 32 = (cs.toList.drop 32).take 1 ++ cs.toList.drop 33 := by
  rw [show (33 : Nat) = 32 + 1 by rfl, ← List.drop_drop, List.take_append_drop]
 rw [e3, ee, em]
 rfl
end
end Go.Proofs.YtcdgcaljlmondaaDoor
