/-
  The walks of derives.Extract, parts, Expand. (Printed by mkdrv04b.py.)
-/
import Derived.Test.YtcdmbknmmnaocaaDoorDrvA
import Derived.Shelf.Abstract
namespace Go.Proofs.YtcdmbknmmnaocaaDoor
open Go.RowKit Sh
attribute [local go_sem] Oper.semAt_some
theorem zv_bsD (w : World) : (zeroValue 22).run Tryd.prog w = .ok (.slice none 0 0) w := by kernel_rfl
section
variable {A B W : World} {lo : Nat}
theorem Blk.putObjX {g l : Nat} {T : TypeId} {cs : Array Value} {o : Obj} (o' : Obj) (h : Blk A g T cs) (hl : A.heap[l]? = some o) (ho : o.isCells = false) : Blk (A.putObj l o') g T cs :=
  Blk.heldD (lo := 0) h (Holds.put o' hl ho) (Nat.zero_le _)
theorem below_putObjX {B0 l : Nat} (h : Below B0 A B) (hl : B0 ≤ l) (o : Obj) : Below B0 A (B.putObj l o) :=
  h.trans ⟨rfl, rfl, rfl, by simp, fun k hk => World.putObj_heap_other (by omega)⟩
theorem Own.putObj {B0 n c l : Nat} {Ad : Option Addr} {m : List Nat} {o : Obj} (o' : Obj) (h : Own A B0 Ad n c m) (hl : A.heap[l]? = some o) (ho : o.isCells = false) : Own (A.putObj l o') B0 Ad n c m := by
  refine h.kept (row := some l) ⟨rfl, rfl, rfl, by simp, fun k _ hne => World.putObj_heap_other (fun e => hne (by rw [e]))⟩ (fun a ha e => ?_)
  have e2 : a.block = l := Option.some.inj e
  rcases h.2 with ⟨e0, h0⟩ | ⟨g, cap, cur, e0, hb, hh, _⟩
  · injection e0 with e1 _ _
    rw [ha] at e1; cases e1
  · injection e0 with e1 _ _
    rw [ha] at e1
    cases e1
    have e3 : g = l := e2
    rw [e3, hl] at hh
    cases hh
    cases ho
theorem ByB.take {g : Nat} {l : List Nat} (h : ByB W g l) (n : Nat) : ByB W g (l.take n) := ⟨h.lt, fun j v hv => by
  rw [← nv_take, List.getElem?_take] at hv
  split at hv
  · exact h.c j v hv
  · cases hv⟩
/-- where a round may store -/
def Offk (lo : Nat) (A : World) (g : Nat) : Prop := g < lo ∨ A.heap.size ≤ g
/-- what a round keeps -/
structure KH (lo : Nat) (A B : World) : Prop where
  ko : KeepsOthers A B
  h : Holds lo A B
theorem KH.refl (lo : Nat) (A : World) : KH lo A A := ⟨KeepsOthers.refl _, Holds.refl _ _⟩
theorem KH.new_off (h : KH lo A B) : Offk lo A B.heap.size := .inr h.h.size
theorem KH.off_ge {x : Nat} (h : KH lo A B) (hx : B.heap.size ≤ x) : Offk lo A x := .inr (Nat.le_trans h.h.size hx)
theorem KH.below {C : World} (h : KH lo A B) (bx : Below B.heap.size B C) : KH lo A C :=
  ⟨h.ko.trans ⟨bx.size, fun k o hk _ => (bx.block k (Array.getElem?_eq_some_iff.1 hk).1).trans hk⟩, h.h.trans (Holds.below bx)⟩
theorem KH.alloc (h : KH lo A B) (o : Obj) : KH lo A (B.alloc o) := h.below ((Below.refl _ B).alloc (Nat.le_refl _) o)
theorem KH.drew_ (h : KH lo A B) : KH lo A B.drew := h.below (below_drewN (Below.refl _ B) 1)
theorem Holds.setAny {p : Addr} (h : Holds lo A B) (hp : Offk lo A p.block) (v : Value) : Holds lo A (B.setCell p v) :=
  ⟨Nat.le_trans h.size (by simp [World.setCell]), fun b o hb ho hc => (Below.heap_setCell B p v b (by
    have := (Array.getElem?_eq_some_iff.1 ho).1
    rcases hp with h1 | h1 <;> omega)).trans (h.cells b o hb ho hc)⟩
theorem KH.far {p : Addr} (h : KH lo A B) (hp : Offk lo A p.block) (v : Value) : KH lo A (B.setCell p v) :=
  ⟨h.ko.trans (KeepsOthers.setCell B p v), h.h.setAny hp v⟩
end
set_option maxRecDepth 8000 in
set_option maxHeartbeats 2000000 in
theorem extract_any (key m : List Nat) (A : Option Addr) (n c B : Nat) (A2 : Option Addr) (n2 c2 B2 : Nat) (hk : Byt key) (hmb : Byt m) (hnc : n ≤ c) (hn : n < 1000) (hnc2 : n2 ≤ c2) (hn2 : n2 < 1000) (w : World) (hg : Glob w) (hr : Reads w B 1 A n (nv .u8 key)) (hB : B ≤ w.heap.size)
    (hr2 : Reads w B2 1 A2 n2 (nv .u8 m)) (hB2 : B2 ≤ w.heap.size) :
    Calls Tryd.prog 9 #[.slice A n c, .slice A2 n2 c2] w fun e w' => e = .returned (.agg (va .u8 (hm key m))) ∧ Below w.heap.size w w' := by
  obtain ⟨B0, hB0e⟩ : ∃ b, w.heap.size = b := ⟨_, rfl⟩
  rw [hB0e]
  have hW : Below B0 w w := by rw [← hB0e]; exact Below.refl _ _
  have hB0 : B0 ≤ w.heap.size := by omega
  have gl := glob_of hg hB0e
  have hl2n := hr2.len
  have hBB : B ≤ B0 := by omega
  have hBB2 : B2 ≤ B0 := by omega
  have rd := reads_of hr hBB
  have rd2 := reads_of hr2 hBB2
  have e1 : hm key ([m].flatten) = hm key m := by simp
  clear hr hB hr2 hB2 hg
  have hB0q := Lib.hid hB0e
  clear hB0e
  go_enter Tryd.func9, Tryd.ntmps9
  go_upto_region 0 with fail
  refine wl_lit ?_
  refine runWL 4 (.pointer (some ⟨w.heap.size, 0, none⟩)) (w.alloc (.cells (va .u8 (List.replicate 32 0)) 25)) rfl (by rfl) (exec_allocV 25 rfl _ (zv_api_Digest _)) ?_
  simp only [List.set_cons_zero, List.set_cons_succ]
  have lw_p4 := Nat.le_trans hB0 hW.size
  have hp4 : Blk (w.alloc (.cells (va .u8 (List.replicate 32 0)) 25)) w.heap.size 25 (va .u8 (List.replicate 32 0)) := Blk.new _ _ _
  replace hW := hW.alloc (Nat.le_trans hB0 hW.size) (.cells (va .u8 (List.replicate 32 0)) 25)
  generalize w.alloc (.cells (va .u8 (List.replicate 32 0)) 25) = w1 at *
  generalize w.heap.size = p4 at hp4 lw_p4  ⊢
  refine nilL ?_
  go_upto_region 1 with fail
  refine wl_lit ?_
  refine runL 5 (.slice (A) n c) rfl (by rfl) (by go_simp) ?_
  simp only [List.set_cons_zero, List.set_cons_succ]
  refine runL 6 (.slice (A2) n2 c2) rfl (by rfl) (by go_simp) ?_
  simp only [List.set_cons_zero, List.set_cons_succ]
  refine runWL 7 (.slice (some ⟨w1.heap.size, 0, none⟩) 1 1) (w1.alloc (.cells (#[.slice (A2) n2 c2]) 22)) rfl (by rfl) (exec_bslice 52 1 _ rfl _ (by exact bs_1 (A2) n2 c2 _)) ?_
  simp only [List.set_cons_zero, List.set_cons_succ]
  have lp4_q1 := hp4.lt
  have lw_q1 := Nat.le_trans hB0 hW.size
  have hq1 : Blk (w1.alloc (.cells (#[.slice (A2) n2 c2]) 22)) w1.heap.size 22 (#[.slice (A2) n2 c2]) := Blk.new _ _ _
  replace hp4 := hp4.alloc (.cells (#[.slice (A2) n2 c2]) 22)
  replace hW := hW.alloc (Nat.le_trans hB0 hW.size) (.cells (#[.slice (A2) n2 c2]) 22)
  generalize w1.alloc (.cells (#[.slice (A2) n2 c2]) 22) = w2 at *
  generalize w1.heap.size = q1 at hq1 lw_q1 lp4_q1 ⊢
  refine callL 8 rfl (by rfl) (fun K hK => wp_callF 17 #[.slice (A) n c, .slice (some ⟨q1, 0, none⟩) 1 1] (by go_simp) (macof_to key A n c _ [m] _ e1 _ 1 1 _ hk hnc (by omega) (by omega) (by simp; omega) _ (gl.out _ hW) (rd.out _ hW) (Nat.le_trans hBB (Nat.le_trans hB0 hW.size)) (parts_one (Nat.le_trans hBB2 (Nat.le_trans hB0 hW.size)) hq1 (rd2.out _ hW) hnc2 hmb) (Nat.le_refl _)) ?_)
  rintro e w3 ⟨rfl, bx⟩
  replace hp4 := hp4.below bx hp4.lt
  replace hq1 := hq1.below bx hq1.lt
  replace hW := hW.trans (bx.mono (Nat.le_trans hB0 hW.size))
  clear bx
  refine ⟨_, rfl, hK.out _ _ ?_⟩
  clear hK K
  simp only [List.set_cons_zero, List.set_cons_succ]
  refine runSL (w3.setRow p4 (va .u8 (hm key m))) rfl (by rfl) (exec_storeRow 25 (.tmp 4) (.tmp 8) rfl p4 rfl (va .u8 (hm key m)) rfl 25 (va .u8 (List.replicate 32 0)) hp4 (sz_eq (sz_api_Digest _ (List.length_replicate)) (sz_api_Digest _ (hm_len _ _))) (sz_api_Digest _ (hm_len _ _)) (va_ones .u8 _)) ?_
  replace hq1 := hq1.rowFar (show p4 ≠ q1 from (by omega)) (va .u8 (hm key m))
  replace hp4 := hp4.row (va .u8 (hm key m))
  replace hW := below_setRow hW lw_p4 (va .u8 (hm key m))
  generalize w3.setRow p4 (va .u8 (hm key m)) = w4 at *
  refine nilL ?_
  go_wp2_with fail
  exact bodyPost_ret (results_cell_row rfl _ _ p4 25 (va .u8 (hm key m)) (0, 0) _ rfl hp4 (by exact Tryd.underlying25) rfl (sz_api_Digest _ (hm_len _ _))) rfl ⟨rfl, hW⟩

set_option maxRecDepth 8000 in
set_option maxHeartbeats 2000000 in
theorem parts_any (A : Option Addr) (n c : Nat) (A2 : Option Addr) (n2 c2 : Nat) (w : World) :
    Calls Tryd.prog 20 #[.slice A n c, .slice A2 n2 c2] w fun e w' => ∃ p1 p2, e = .returned (.func (.func 31) #[] #[.pointer (some ⟨p1, 0, none⟩), .pointer (some ⟨p2, 0, none⟩)]) ∧
      Blk w' p1 22 #[.slice A n c] ∧ Blk w' p2 22 #[.slice A2 n2 c2] ∧ w.heap.size ≤ p1 ∧ w.heap.size ≤ p2 ∧ Below w.heap.size w w' := by
  obtain ⟨B0, hB0e⟩ : ∃ b, w.heap.size = b := ⟨_, rfl⟩
  rw [hB0e]
  have hW : Below B0 w w := by rw [← hB0e]; exact Below.refl _ _
  have hB0 : B0 ≤ w.heap.size := by omega
  have hB0q := Lib.hid hB0e
  clear hB0e
  go_enter Tryd.func20, Tryd.ntmps20
  go_upto_region 0 with fail
  refine wl_lit ?_
  refine runWL 2 (.pointer (some ⟨w.heap.size, 0, none⟩)) (w.alloc (.cells (#[.slice A n c]) 22)) rfl (by rfl) (exec_box 22 (.tmp 0) rfl (.slice (A) n c) rfl) ?_
  simp only [List.set_cons_zero, List.set_cons_succ]
  have lw_p2 := Nat.le_trans hB0 hW.size
  have hp2 : Blk (w.alloc (.cells (#[.slice A n c]) 22)) w.heap.size 22 (#[.slice A n c]) := Blk.new _ _ _
  replace hW := hW.alloc (Nat.le_trans hB0 hW.size) (.cells (#[.slice A n c]) 22)
  generalize w.alloc (.cells (#[.slice A n c]) 22) = w1 at *
  generalize w.heap.size = p2 at hp2 lw_p2  ⊢
  refine runWL 3 (.pointer (some ⟨w1.heap.size, 0, none⟩)) (w1.alloc (.cells (#[.slice A2 n2 c2]) 22)) rfl (by rfl) (exec_box 22 (.tmp 1) rfl (.slice (A2) n2 c2) rfl) ?_
  simp only [List.set_cons_zero, List.set_cons_succ]
  have lp2_p3 := hp2.lt
  have lw_p3 := Nat.le_trans hB0 hW.size
  have hp3 : Blk (w1.alloc (.cells (#[.slice A2 n2 c2]) 22)) w1.heap.size 22 (#[.slice A2 n2 c2]) := Blk.new _ _ _
  replace hp2 := hp2.alloc (.cells (#[.slice A2 n2 c2]) 22)
  replace hW := hW.alloc (Nat.le_trans hB0 hW.size) (.cells (#[.slice A2 n2 c2]) 22)
  generalize w1.alloc (.cells (#[.slice A2 n2 c2]) 22) = w2 at *
  generalize w1.heap.size = p3 at hp3 lw_p3 lp2_p3 ⊢
  refine runL 4 (.nilFunc) rfl (by rfl) (by go_simp) ?_
  simp only [List.set_cons_zero, List.set_cons_succ]
  refine nilL ?_
  go_upto_region 1 with fail
  refine wl_lit ?_
  refine runL 5 (.func (.func 31) #[] #[.pointer (some ⟨p2, 0, none⟩), .pointer (some ⟨p3, 0, none⟩)]) rfl (by rfl) (by go_simp) ?_
  simp only [List.set_cons_zero, List.set_cons_succ]
  refine runL 4 (.func (.func 31) #[] #[.pointer (some ⟨p2, 0, none⟩), .pointer (some ⟨p3, 0, none⟩)]) rfl (by rfl) (by go_simp) ?_
  simp only [List.set_cons_zero, List.set_cons_succ]
  refine nilL ?_
  go_wp2_with fail
  go_ret
  exact ⟨_, _, rfl, hp2, hp3, lw_p2, lw_p3, hW⟩

/-- the first k parts -/
def ol (key info : List Nat) : Nat → List Nat
  | 0 => []
  | k + 1 => ol key info k ++ tk key info (k + 1)
theorem ol_len (key info : List Nat) (k : Nat) : (ol key info k).length = 32 * k := by
  induction k with
  | zero => rfl
  | succ k ih => rw [ol, List.length_append, ih, tk_len]; omega
theorem ol_byt (key info : List Nat) (k : Nat) : Byt (ol key info k) := by
  induction k with
  | zero => exact Byt.nil
  | succ k ih => exact ih.app (tk_byt _ _ _)
theorem ol_take (key info : List Nat) (a b n : Nat) (hab : a ≤ b) (hn : n ≤ 32 * a) : (ol key info b).take n = (ol key info a).take n := by
  induction b with
  | zero => obtain rfl : a = 0 := by omega
            rfl
  | succ b ih =>
    by_cases e : a = b + 1
    · rw [e]
    · rw [ol, List.take_append_of_le_length (by rw [ol_len]; omega), ih (by omega)]
/-- the n bytes that a key is expanded into -/
def ex (key info : List Nat) (n : Nat) : List Nat := (ol key info 255).take n
theorem ex_len (key info : List Nat) (n : Nat) (h : n ≤ 8160) : (ex key info n).length = n := by rw [ex, List.length_take, ol_len]; omega
theorem ex_byt (key info : List Nat) (n : Nat) : Byt (ex key info n) := (ol_byt _ _ _).take _
theorem ex_of (key info : List Nat) (k n : Nat) (hk : k ≤ 255) (h : n ≤ 32 * k) : (ol key info k).take n = ex key info n := (ol_take key info k 255 n hk h).symm
theorem ex_ex (key info : List Nat) (m n : Nat) (h : m ≤ n) : (ex key info n).take m = ex key info m := by rw [ex, List.take_take, Nat.min_eq_left h]; rfl

set_option maxRecDepth 8000 in
set_option maxHeartbeats 2000000 in
/-- what is refused, and nothing -/
theorem dexp_none (z e : Int) (he : (z < 0 ∧ e = 1) ∨ (8160 < z ∧ e = 3) ∨ (z = 0 ∧ e = 0)) (hz : -9223372036854775808 ≤ z ∧ z ≤ 9223372036854775807) (A : Option Addr) (n c : Nat) (A2 : Option Addr) (n2 c2 : Nat) (w : World) :
    Calls Tryd.prog 11 #[.slice A n c, .slice A2 n2 c2, .int .i64 z] w fun e' w' => e' = .returned (.tuple #[.slice none 0 0, .int .i64 e]) ∧ Below w.heap.size w w' := by
  obtain ⟨B0, hB0e⟩ : ∃ b, w.heap.size = b := ⟨_, rfl⟩
  rw [hB0e]
  have hW : Below B0 w w := by rw [← hB0e]; exact Below.refl _ _
  have hB0 : B0 ≤ w.heap.size := by omega
  have hB0q := Lib.hid hB0e
  clear hB0e
  rcases he with ⟨h1, rfl⟩ | ⟨h1, rfl⟩ | ⟨rfl, rfl⟩
  ·
    go_enter Tryd.func11, Tryd.ntmps11
    go_upto_region 0 with fail
    refine wl_lit ?_
    refine runWL 5 (.pointer (some ⟨w.heap.size, 0, none⟩)) (w.alloc (.cells (#[.int .i64 z]) 3)) rfl (by rfl) (exec_box 3 (.tmp 2) rfl (.int .i64 (z)) rfl) ?_
    simp only [List.set_cons_zero, List.set_cons_succ]
    have lw_p5 := Nat.le_trans hB0 hW.size
    have hp5 : Blk (w.alloc (.cells (#[.int .i64 z]) 3)) w.heap.size 3 (#[.int .i64 z]) := Blk.new _ _ _
    replace hW := hW.alloc (Nat.le_trans hB0 hW.size) (.cells (#[.int .i64 z]) 3)
    generalize w.alloc (.cells (#[.int .i64 z]) 3) = w1 at *
    generalize w.heap.size = p5 at hp5 lw_p5  ⊢
    refine runL 6 (.slice none 0 0) rfl (by rfl) (by go_simp) ?_
    simp only [List.set_cons_zero, List.set_cons_succ]
    refine runL 7 (.int .i64 0) rfl (by rfl) (by go_simp) ?_
    simp only [List.set_cons_zero, List.set_cons_succ]
    refine nilL ?_
    go_upto_region 1 with fail
    refine wl_lit ?_
    refine runL 11 (.int .i64 (z)) rfl (by rfl) (exec_cell 3 (.tmp 5) rfl p5 0 rfl (.int .i64 (z)) _ Tryd.underlying3 rfl (hp5.cellIs 0 rfl)) ?_
    simp only [List.set_cons_zero, List.set_cons_succ]
    refine runL 12 (.bool true) rfl (by rfl) (by go_simp) ?_
    simp only [List.set_cons_zero, List.set_cons_succ]
    refine runL 10 (.bool true) rfl (by rfl) (by go_simp) ?_
    simp only [List.set_cons_zero, List.set_cons_succ]
    refine nilL ?_
    go_upto_region 2 with fail
    refine wl_lit ?_
    refine runL 6 (.slice none 0 0) rfl (by rfl) (by go_simp) ?_
    simp only [List.set_cons_zero, List.set_cons_succ]
    refine runL 7 (.int .i64 1) rfl (by rfl) (by go_simp) ?_
    simp only [List.set_cons_zero, List.set_cons_succ]
    refine nilL ?_
    go_wp2_with fail
    go_ret2
    exact ⟨rfl, hW⟩
  ·
    have h0 : ¬ z < 0 := by omega
    go_enter Tryd.func11, Tryd.ntmps11
    go_upto_region 0 with fail
    refine wl_lit ?_
    refine runWL 5 (.pointer (some ⟨w.heap.size, 0, none⟩)) (w.alloc (.cells (#[.int .i64 z]) 3)) rfl (by rfl) (exec_box 3 (.tmp 2) rfl (.int .i64 (z)) rfl) ?_
    simp only [List.set_cons_zero, List.set_cons_succ]
    have lw_p5 := Nat.le_trans hB0 hW.size
    have hp5 : Blk (w.alloc (.cells (#[.int .i64 z]) 3)) w.heap.size 3 (#[.int .i64 z]) := Blk.new _ _ _
    replace hW := hW.alloc (Nat.le_trans hB0 hW.size) (.cells (#[.int .i64 z]) 3)
    generalize w.alloc (.cells (#[.int .i64 z]) 3) = w2 at *
    generalize w.heap.size = p5 at hp5 lw_p5  ⊢
    refine runL 6 (.slice none 0 0) rfl (by rfl) (by go_simp) ?_
    simp only [List.set_cons_zero, List.set_cons_succ]
    refine runL 7 (.int .i64 0) rfl (by rfl) (by go_simp) ?_
    simp only [List.set_cons_zero, List.set_cons_succ]
    refine nilL ?_
    go_upto_region 1 with fail
    refine wl_lit ?_
    refine runL 11 (.int .i64 (z)) rfl (by rfl) (exec_cell 3 (.tmp 5) rfl p5 0 rfl (.int .i64 (z)) _ Tryd.underlying3 rfl (hp5.cellIs 0 rfl)) ?_
    simp only [List.set_cons_zero, List.set_cons_succ]
    refine runL 12 (.bool false) rfl (by rfl) (by go_simp) ?_
    simp only [List.set_cons_zero, List.set_cons_succ]
    refine runL 10 (.bool false) rfl (by rfl) (by go_simp) ?_
    simp only [List.set_cons_zero, List.set_cons_succ]
    refine nilL ?_
    go_upto_region 3 with fail
    refine wl_lit ?_
    refine runL 14 (.int .i64 (z)) rfl (by rfl) (exec_cell 3 (.tmp 5) rfl p5 0 rfl (.int .i64 (z)) _ Tryd.underlying3 rfl (hp5.cellIs 0 rfl)) ?_
    simp only [List.set_cons_zero, List.set_cons_succ]
    refine runL 15 (.bool true) rfl (by rfl) (by go_simp) ?_
    simp only [List.set_cons_zero, List.set_cons_succ]
    refine runL 13 (.bool true) rfl (by rfl) (by go_simp) ?_
    simp only [List.set_cons_zero, List.set_cons_succ]
    refine nilL ?_
    go_upto_region 4 with fail
    refine wl_lit ?_
    refine runL 6 (.slice none 0 0) rfl (by rfl) (by go_simp) ?_
    simp only [List.set_cons_zero, List.set_cons_succ]
    refine runL 7 (.int .i64 3) rfl (by rfl) (by go_simp) ?_
    simp only [List.set_cons_zero, List.set_cons_succ]
    refine nilL ?_
    go_wp2_with fail
    go_ret2
    exact ⟨rfl, hW⟩
  ·
    go_enter Tryd.func11, Tryd.ntmps11
    go_upto_region 0 with fail
    refine wl_lit ?_
    refine runWL 5 (.pointer (some ⟨w.heap.size, 0, none⟩)) (w.alloc (.cells (#[.int .i64 0]) 3)) rfl (by rfl) (exec_box 3 (.tmp 2) rfl (.int .i64 0) rfl) ?_
    simp only [List.set_cons_zero, List.set_cons_succ]
    have lw_p5 := Nat.le_trans hB0 hW.size
    have hp5 : Blk (w.alloc (.cells (#[.int .i64 0]) 3)) w.heap.size 3 (#[.int .i64 0]) := Blk.new _ _ _
    replace hW := hW.alloc (Nat.le_trans hB0 hW.size) (.cells (#[.int .i64 0]) 3)
    generalize w.alloc (.cells (#[.int .i64 0]) 3) = w3 at *
    generalize w.heap.size = p5 at hp5 lw_p5  ⊢
    refine runL 6 (.slice none 0 0) rfl (by rfl) (by go_simp) ?_
    simp only [List.set_cons_zero, List.set_cons_succ]
    refine runL 7 (.int .i64 0) rfl (by rfl) (by go_simp) ?_
    simp only [List.set_cons_zero, List.set_cons_succ]
    refine nilL ?_
    go_upto_region 1 with fail
    refine wl_lit ?_
    refine runL 11 (.int .i64 0) rfl (by rfl) (exec_cell 3 (.tmp 5) rfl p5 0 rfl (.int .i64 0) _ Tryd.underlying3 rfl (hp5.cellIs 0 rfl)) ?_
    simp only [List.set_cons_zero, List.set_cons_succ]
    refine runL 12 (.bool false) rfl (by rfl) (by go_simp) ?_
    simp only [List.set_cons_zero, List.set_cons_succ]
    refine runL 10 (.bool false) rfl (by rfl) (by go_simp) ?_
    simp only [List.set_cons_zero, List.set_cons_succ]
    refine nilL ?_
    go_upto_region 3 with fail
    refine wl_lit ?_
    refine runL 14 (.int .i64 0) rfl (by rfl) (exec_cell 3 (.tmp 5) rfl p5 0 rfl (.int .i64 0) _ Tryd.underlying3 rfl (hp5.cellIs 0 rfl)) ?_
    simp only [List.set_cons_zero, List.set_cons_succ]
    refine runL 15 (.bool false) rfl (by rfl) (by go_simp) ?_
    simp only [List.set_cons_zero, List.set_cons_succ]
    refine runL 13 (.bool false) rfl (by rfl) (by go_simp) ?_
    simp only [List.set_cons_zero, List.set_cons_succ]
    refine nilL ?_
    go_upto_region 5 with fail
    refine wl_lit ?_
    refine runL 17 (.int .i64 0) rfl (by rfl) (exec_cell 3 (.tmp 5) rfl p5 0 rfl (.int .i64 0) _ Tryd.underlying3 rfl (hp5.cellIs 0 rfl)) ?_
    simp only [List.set_cons_zero, List.set_cons_succ]
    refine runL 18 (.bool true) rfl (by rfl) (by go_simp) ?_
    simp only [List.set_cons_zero, List.set_cons_succ]
    refine runL 16 (.bool true) rfl (by rfl) (by go_simp) ?_
    simp only [List.set_cons_zero, List.set_cons_succ]
    refine nilL ?_
    go_upto_region 6 with fail
    refine wl_lit ?_
    refine runL 6 (.slice none 0 0) rfl (by rfl) (by go_simp) ?_
    simp only [List.set_cons_zero, List.set_cons_succ]
    refine runL 7 (.int .i64 0) rfl (by rfl) (by go_simp) ?_
    simp only [List.set_cons_zero, List.set_cons_succ]
    refine nilL ?_
    go_wp2_with fail
    go_ret2
    exact ⟨rfl, hW⟩
end Go.Proofs.YtcdmbknmmnaocaaDoor
