/-
  A State of package digests: its cells, what they say of a message, and the walk of Write.
-/
import Derived.Test.YtcdmbknmmnaocaaDoorDig2
import Derived.Laws.CopyOwn
namespace Go.Proofs.YtcdmbknmmnaocaaDoor
open Go.RowKit Sh

/-! the cells of a State -/
def stLl (bg : Bool) (h r : List Nat) (many : Nat) : List Value := .bool bg :: (nv .u32 h ++ (nv .u8 r ++ [.int .u64 (many : Int)]))
def stL (bg : Bool) (h r : List Nat) (many : Nat) : Array Value := (stLl bg h r many).toArray
theorem stLl_len (bg : Bool) (h r : List Nat) (many : Nat) (hh : h.length = 8) (hr : r.length = 64) : (stLl bg h r many).length = 74 := by
  simp [stLl, nv_len, hh, hr]
theorem stL_size (bg : Bool) (h r : List Nat) (many : Nat) (hh : h.length = 8) (hr : r.length = 64) : (stL bg h r many).size = 74 := by
  simp [stL, stLl_len bg h r many hh hr]
theorem stL_one (bg : Bool) (h r : List Nat) (many : Nat) : ∀ v ∈ (stL bg h r many).toList, v.oneCell' = true := by
  intro v hv
  simp only [stL, stLl, List.mem_cons, List.mem_append, List.not_mem_nil, or_false] at hv
  rcases hv with rfl | hv | hv | rfl
  · rfl
  · exact nv_one _ _ v hv
  · exact nv_one _ _ v hv
  · rfl
theorem stL_bg (bg : Bool) (h r : List Nat) (many : Nat) : (stL bg h r many)[0]? = some (.bool bg) := rfl
theorem stL_many (bg : Bool) (h r : List Nat) (many : Nat) (hh : h.length = 8) (hr : r.length = 64) : (stL bg h r many)[73]? = some (.int .u64 (many : Int)) := by
  simp only [stL, List.getElem?_toArray, stLl, List.getElem?_cons_succ]
  rw [List.getElem?_append_right (by rw [nv_len, hh]; omega), nv_len, hh, List.getElem?_append_right (by rw [nv_len, hr]; omega), nv_len, hr]; rfl
theorem stL_h (bg : Bool) (h r : List Nat) (many : Nat) (hh : h.length = 8) (j : Nat) (hj : j < 8) : (stL bg h r many)[1 + j]? = (nv .u32 h)[j]? := by
  simp only [stL, List.getElem?_toArray, stLl]
  rw [Nat.add_comm, List.getElem?_cons_succ, List.getElem?_append_left (by rw [nv_len, hh]; exact hj)]
theorem stL_r (bg : Bool) (h r : List Nat) (many : Nat) (hh : h.length = 8) (hr : r.length = 64) (j : Nat) (hj : j < 64) : (stL bg h r many)[9 + j]? = (nv .u8 r)[j]? := by
  simp only [stL, List.getElem?_toArray, stLl]
  rw [show 9 + j = (8 + j) + 1 from by omega, List.getElem?_cons_succ, List.getElem?_append_right (by rw [nv_len, hh]; omega), nv_len, hh, show 8 + j - 8 = j from by omega, List.getElem?_append_left (by rw [nv_len, hr]; exact hj)]
theorem stL_set73 (bg : Bool) (h r : List Nat) (many m2 : Nat) (hh : h.length = 8) (hr : r.length = 64) : (stL bg h r many).setIfInBounds 73 (.int .u64 (m2 : Int)) = stL bg h r m2 := by
  simp only [stL, List.setIfInBounds_toArray, stLl, List.set_cons_succ]
  rw [List.set_append_right _ _ (by rw [nv_len, hh]; omega), nv_len, hh, List.set_append_right _ _ (by rw [nv_len, hr]; omega), nv_len, hr]; rfl
theorem stL_spliceR (bg : Bool) (h r m : List Nat) (many o : Nat) (hh : h.length = 8) (hr : r.length = 64) (ho : o + m.length ≤ 64) :
    ((stL bg h r many).toList.take (9 + o) ++ (nv .u8 m ++ (stL bg h r many).toList.drop (9 + o + (nv .u8 m).length))).toArray = stL bg h (r.take o ++ (m ++ r.drop (o + m.length))) many := by
  have e1 : (stLl bg h r many).take (9 + o) = .bool bg :: (nv .u32 h ++ nv .u8 (r.take o)) := by
    rw [stLl, show 9 + o = (8 + o) + 1 from by omega, List.take_succ_cons, List.take_append, nv_len, hh, List.take_of_length_le (by rw [nv_len, hh]; omega), show 8 + o - 8 = o from by omega, List.take_append_of_le_length (by rw [nv_len, hr]; omega), nv_take]
  have e2 : (stLl bg h r many).drop (9 + o + m.length) = nv .u8 (r.drop (o + m.length)) ++ [.int .u64 (many : Int)] := by
    rw [stLl, show 9 + o + m.length = (8 + (o + m.length)) + 1 from by omega, List.drop_succ_cons, List.drop_append, nv_len, hh, List.drop_of_length_le (by rw [nv_len, hh]; omega), show 8 + (o + m.length) - 8 = o + m.length from by omega, List.nil_append, List.drop_append_of_le_length (by rw [nv_len, hr]; omega), nv_drop]
  simp only [stL, nv_len, e1, e2]
  congr 1
  simp [stLl, nv]
theorem stL_spliceH (bg : Bool) (h h2 r : List Nat) (many : Nat) (hh : h.length = 8) (hh2 : h2.length = 8) :
    ((stL bg h r many).toList.take 1 ++ (nv .u32 h2 ++ (stL bg h r many).toList.drop (1 + (nv .u32 h2).length))).toArray = stL bg h2 r many := by
  have e2 : (stLl bg h r many).drop (1 + 8) = nv .u8 r ++ [.int .u64 (many : Int)] := by
    rw [stLl, show 1 + 8 = 8 + 1 from rfl, List.drop_succ_cons, List.drop_append, nv_len, hh, List.drop_of_length_le (by rw [nv_len, hh]; omega)]; rfl
  simp only [stL, nv_len, hh2, e2]
  rfl

/-! what a State says of the message that it has taken in -/
structure StOk (l h r : List Nat) : Prop where
  h : h = hs l (l.length / 64)
  len : r.length = 64
  byt : Byt r
  t : r.take (l.length % 64) = l.drop (64 * (l.length / 64))
theorem StOk.hl {l h r : List Nat} (s : StOk l h r) : h.length = 8 := by rw [s.h]; exact hs_len _ _
theorem StOk.hw {l h r : List Nat} (s : StOk l h r) : W32 h := by rw [s.h]; exact hs_lt _ _
/-- bytes that do not fill the block -/
theorem StOk.more {l h r : List Nat} (s : StOk l h r) (m : List Nat) (hm : Byt m) (hlt : l.length % 64 + m.length < 64) :
    StOk (l ++ m) h (r.take (l.length % 64) ++ (m ++ r.drop (l.length % 64 + m.length))) := by
  have hd : (l ++ m).length / 64 = l.length / 64 := by rw [List.length_append]; omega
  have hq : (l ++ m).length % 64 = l.length % 64 + m.length := by rw [List.length_append]; omega
  have h1 : (r.take (l.length % 64)).length = l.length % 64 := by rw [List.length_take, s.len]; omega
  refine ⟨?_, ?_, (s.byt.take _).app (hm.app (s.byt.drop _)), ?_⟩
  · rw [hd, hs_app l m _ (by omega)]; exact s.h
  · rw [List.length_append, List.length_append, h1, List.length_drop, s.len]; omega
  · rw [hd, hq, ← List.append_assoc, List.take_append_of_le_length (by rw [List.length_append, h1]; omega), List.take_of_length_le (by rw [List.length_append, h1]; omega), List.drop_append_of_le_length (by omega), s.t]
/-- bytes that fill the block -/
theorem StOk.full {l h r : List Nat} (s : StOk l h r) (m : List Nat) (hm : Byt m) (hlt : l.length % 64 + m.length = 64) :
    StOk (l ++ m) (comp h (r.take (l.length % 64) ++ m)) (r.take (l.length % 64) ++ m) := by
  have hd : (l ++ m).length / 64 = l.length / 64 + 1 := by rw [List.length_append]; omega
  have hq : (l ++ m).length % 64 = 0 := by rw [List.length_append]; omega
  have h1 : (r.take (l.length % 64)).length = l.length % 64 := by rw [List.length_take, s.len]; omega
  refine ⟨?_, by rw [List.length_append, h1]; exact hlt, (s.byt.take _).app hm, ?_⟩
  · rw [hd]
    simp only [hs]
    rw [hs_app l m _ (by omega), ← s.h, s.t, List.drop_append_of_le_length (by omega), List.take_of_length_le (by rw [List.length_append, List.length_drop]; omega)]
  · rw [hq, hd, List.take_zero, List.drop_of_length_le (by rw [List.length_append]; omega)]
end Go.Proofs.YtcdmbknmmnaocaaDoor
