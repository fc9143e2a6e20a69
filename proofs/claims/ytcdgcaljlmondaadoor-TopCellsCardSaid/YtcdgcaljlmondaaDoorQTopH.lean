/-
  The walk of caissontop.TopCells. (Printed by mktop4.py.)
-/
import Derived.Test.YtcdgcaljlmondaaDoorZ19
import Derived.Laws.CopyRow
namespace Go.Proofs.YtcdgcaljlmondaaDoor
set_option maxRecDepth 16384
open Go.RowKit Sh
theorem rput64_toT (v : Nat) (hv : v < 18446744073709551616) (w : World) :
  Calls Tryd.prog 10 #[.int .u64 (v : Int)] w fun e w' => ∃ g, e = .returned (.slice (some ⟨g, 0, none⟩) 8 8) ∧ Blk w' g 5 (va .u8 (beB v 8)) ∧ w.heap.size ≤ g ∧ Below w.heap.size w w' := by
 refine (rput64_any v hv w).mono ?_
 rintro e w' ⟨r, rfl, g, rfl, h1, h2, h3⟩
 exact ⟨g, by rw [beB_len], h1, h2, h3⟩
/-- a part of a block's cells is written -/
theorem exec_storeMid {P : Program} {w : World} {op : Oper} {a : Act} (ty : TypeId) (x y : Operand) (ho : op.op = .store ty x y) (g k : Nat) (hx : a.eval x = .pointer (some ⟨g, k, none⟩)) (c : Array Value) (hy : a.eval y = .agg c) (t : TypeId) (old new : Array Value) (hb : Blk w g t old) (hs : k + c.size ≤ old.size)
  (hin : (P.info? ty).map (·.size) = some c.size) (h1 : ∀ v ∈ c.toList, v.oneCell' = true) (hnew : old.toList.take k ++ c.toList ++ old.toList.drop (k + c.size) = new.toList) : (execOp a.eval op).run P w = .ok .skip (w.setRow g new) := by
 have h := run_storeCells_at (P := P) g k t c.toList 0 old w hb (by simpa using hs) h1
 simp only [Nat.add_zero, Array.length_toList] at h
 rw [hnew, Array.toArray_toList] at h
 have hsv : (storeVar ty ⟨g, k, none⟩ (.agg c)).run P w = .ok () (w.setRow g new) := by
  cases hq : P.info? ty with
  | none => simp [hq] at hin
  | some f =>
   have hs2 : f.size = c.size := by simpa [hq] using hin
   simp [storeVar, sizeOf, typeInfo, hq, hs2, Value.cells, h]
 unfold execOp
 simp only [ho, hx, hy, Instr.storeAt, Instr.sureAddr, Sem.run_bind, Sem.run_pure, Result.andThen_ok, hsv]
set_option maxHeartbeats 2000000 in
theorem eqCel (r : List Nat) (e m : Nat) (h : r.length = 32) (w : World) : (Op.equalIn 10000 26 (.agg (celV r e m)) (.agg (celV r e m))).run Tryd.prog w = .ok true w := by
  have hv : (celV r e m).toList = nv .u8 r ++ [Value.int .u64 (e : Int), Value.int .u64 (m : Int)] := rfl
  have p0 := run_part_row (P := Tryd.prog) (e := 23) (xs := celV r e m) (off := 0) (n := 32) (sub := nv .u8 r) Tryd.underlying23 rfl (by kernel_rfl) (by rw [hv, List.drop_zero, List.take_left' (by rw [nv_len, h])]) w
  have p1 : (part 24 (celV r e m) 32).run Tryd.prog w = .ok (.int .u64 (e : Int)) w := run_part_plain w (by kernel_rfl) (by rw [← Array.getElem?_toList, hv, List.getElem?_append_right (by rw [nv_len, h]; exact Nat.le_refl _), nv_len, h]; rfl)
  have p2 : (part 24 (celV r e m) 33).run Tryd.prog w = .ok (.int .u64 (m : Int)) w := run_part_plain w (by kernel_rfl) (by rw [← Array.getElem?_toList, hv, List.getElem?_append_right (by rw [nv_len, h]; omega), nv_len, h]; rfl)
  have e0 := eq_bytesD 9997 23 32 Tryd.underlying23 r r h h w
  have e1 : ∀ v : Nat, (Op.equalIn 9999 24 (.int .u64 (v : Int)) (.int .u64 (v : Int))).run Tryd.prog w = .ok true w := fun v => by
    have := run_equalIn_int (P := Tryd.prog) w 9998 24 .u64 .u64 (v : Int) (v : Int) Tryd.underlying24
    simpa using this
  rw [decide_eq_true rfl] at e0
  rw [run_equalIn_struct w 9999 26 _ _ (by simp only [Program.fieldsOf, Tryd.underlying26]) (by kernel_rfl)]
  simp only [Program.fieldsOf, Tryd.underlying26, List.toList_toArray]
  rw [show Result.ok true w = Result.ok (true && (true && (true && true))) w from rfl]
  refine eqF_cons ?_ p0 p0 e0 ?_
  · decide
  refine eqF_cons ?_ p1 p1 (e1 e) ?_
  · decide
  refine eqF_cons ?_ p2 p2 (e1 m) eqF_nil
  decide

set_option maxRecDepth 8000 in
set_option maxHeartbeats 4000000 in
theorem topCells_any (r0 : List Nat) (e m : Nat) (hrl0 : r0.length = 32) (he : e < 18446744073709551616) (hm : m < 18446744073709551616) (A1 : Option Addr) (n1 c1 B1 : Nat) (l1 : List Nat) (hb1 : Byt l1) (hc1 : n1 ≤ c1) (A2 : Option Addr) (n2 c2 B2 : Nat) (l2 : List Nat) (hb2 : Byt l2) (hc2 : n2 ≤ c2) (w : World) (hg : Glob w)
  (hr1 : Reads w B1 1 A1 n1 (nv .u8 l1)) (hB1 : B1 ≤ w.heap.size) (hr2 : Reads w B2 1 A2 n2 (nv .u8 l2)) (hB2 : B2 ≤ w.heap.size) :
  Calls Tryd.prog 3 #[.agg (celV r0 e m), .slice A1 n1 c1, .slice A2 n2 c2] w fun e' w' => e' = .returned (.bool true) ∧ Below w.heap.size w w' := by
 obtain ⟨B0, hB0e⟩ : ∃ b, w.heap.size = b := ⟨_, rfl⟩
 rw [hB0e]
 have hW : Below B0 w w := by rw [← hB0e]; exact Below.refl _ _
 have hB0 : B0 ≤ w.heap.size := by omega
 have gl := glob_of hg hB0e
 clear hg
 have hBB1 : B1 ≤ B0 := by omega
 have hBB2 : B2 ≤ B0 := by omega
 have rd1 := reads_of hr1 hBB1
 have rd2 := reads_of hr2 hBB2
 have hl1 := hr1.len
 have hl2 := hr2.len
 clear hr1 hr2
 have hB0q := Lib.hid hB0e
 clear hB0e
 by_cases h1 : 100 < n1
 ·
  have h1I : (100 : Int) < (n1 : Int) := by omega
  go_enter Tryd.func3, Tryd.ntmps3
  go_upto_region 0 with fail
  refine wl_lit ?_
  refine runWL 3 (.pointer (some ⟨w.heap.size, 0, none⟩)) (w.alloc (.cells (celV r0 e m) 26)) rfl (by rfl) (exec_box 26 (.tmp 0) rfl (.agg (celV r0 e m)) rfl) ?_
  simp only [ls0, ls1]
  have lw_p3 := Nat.le_trans hB0 hW.size
  have hp3 : Blk (w.alloc (.cells (celV r0 e m) 26)) w.heap.size 26 (celV r0 e m) := Blk.new _ _ _
  replace hW := hW.alloc (Nat.le_trans hB0 hW.size) (.cells (celV r0 e m) 26)
  generalize w.alloc (.cells (celV r0 e m) 26) = w1 at *
  generalize w.heap.size = p3 at hp3 lw_p3  ⊢
  refine runL 6 (.bool false) rfl (by rfl) (by go_simp) ?_
  simp only [ls0, ls1]
  refine nilL ?_
  go_upto_region 1 with fail
  refine wl_lit ?_
  refine runL 11 (.slice (A1) n1 c1) rfl (by rfl) (by go_simp) ?_
  simp only [ls0, ls1]
  refine runL 12 (.int .i64 (n1)) rfl (by rfl) (by go_simp) ?_
  simp only [ls0, ls1]
  refine runL 13 (.bool true) rfl (by rfl) (by go_simp) ?_
  simp only [ls0, ls1]
  refine runL 14 (.bool true) rfl (by rfl) (by go_simp) ?_
  simp only [ls0, ls1]
  refine skipL 15 rfl (by kernel_rfl) ?_
  simp only [ls0, ls1]
  refine skipL 16 rfl (by kernel_rfl) ?_
  simp only [ls0, ls1]
  refine skipL 17 rfl (by kernel_rfl) ?_
  simp only [ls0, ls1]
  refine runL 18 (.bool true) rfl (by rfl) (by go_simp) ?_
  simp only [ls0, ls1]
  refine nilL ?_
  go_upto_region 2 with fail
  refine wl_lit ?_
  refine callL 19 rfl (by rfl) (fun K hK => wp_callF 5 #[] (by go_simp) (live11_any _ (gl.out _ hW)) ?_)
  rintro e w2 ⟨rfl, bx⟩
  replace hp3 := hp3.below bx hp3.lt
  replace hW := hW.trans (bx.mono (Nat.le_trans hB0 hW.size))
  clear bx
  refine ⟨_, rfl, hK.out _ _ ?_⟩
  clear hK K
  simp only [ls0, ls1]
  refine runL 6 (.bool true) rfl (by rfl) (by go_simp) ?_
  simp only [ls0, ls1]
  refine nilL ?_
  go_wp2_with fail
  go_ret
  exact ⟨rfl, hW⟩
 have h1I : ¬ (100 : Int) < (n1 : Int) := by omega
 by_cases h2 : 100 < n2
 ·
  have h2I : (100 : Int) < (n2 : Int) := by omega
  go_enter Tryd.func3, Tryd.ntmps3
  go_upto_region 0 with fail
  refine wl_lit ?_
  refine runWL 3 (.pointer (some ⟨w.heap.size, 0, none⟩)) (w.alloc (.cells (celV r0 e m) 26)) rfl (by rfl) (exec_box 26 (.tmp 0) rfl (.agg (celV r0 e m)) rfl) ?_
  simp only [ls0, ls1]
  have lw_p3 := Nat.le_trans hB0 hW.size
  have hp3 : Blk (w.alloc (.cells (celV r0 e m) 26)) w.heap.size 26 (celV r0 e m) := Blk.new _ _ _
  replace hW := hW.alloc (Nat.le_trans hB0 hW.size) (.cells (celV r0 e m) 26)
  generalize w.alloc (.cells (celV r0 e m) 26) = w1 at *
  generalize w.heap.size = p3 at hp3 lw_p3  ⊢
  refine runL 6 (.bool false) rfl (by rfl) (by go_simp) ?_
  simp only [ls0, ls1]
  refine nilL ?_
  go_upto_region 1 with fail
  refine wl_lit ?_
  refine runL 11 (.slice (A1) n1 c1) rfl (by rfl) (by go_simp) ?_
  simp only [ls0, ls1]
  refine runL 12 (.int .i64 (n1)) rfl (by rfl) (by go_simp) ?_
  simp only [ls0, ls1]
  refine runL 13 (.bool false) rfl (by rfl) (by go_simp) ?_
  simp only [ls0, ls1]
  refine runL 14 (.bool false) rfl (by rfl) (by go_simp) ?_
  simp only [ls0, ls1]
  refine runL 15 (.slice (A2) n2 c2) rfl (by rfl) (by go_simp) ?_
  simp only [ls0, ls1]
  refine runL 16 (.int .i64 (n2)) rfl (by rfl) (by go_simp) ?_
  simp only [ls0, ls1]
  refine runL 17 (.bool true) rfl (by rfl) (by go_simp) ?_
  simp only [ls0, ls1]
  refine runL 18 (.bool true) rfl (by rfl) (by go_simp) ?_
  simp only [ls0, ls1]
  refine nilL ?_
  go_upto_region 2 with fail
  refine wl_lit ?_
  refine callL 19 rfl (by rfl) (fun K hK => wp_callF 5 #[] (by go_simp) (live11_any _ (gl.out _ hW)) ?_)
  rintro e w2 ⟨rfl, bx⟩
  replace hp3 := hp3.below bx hp3.lt
  replace hW := hW.trans (bx.mono (Nat.le_trans hB0 hW.size))
  clear bx
  refine ⟨_, rfl, hK.out _ _ ?_⟩
  clear hK K
  simp only [ls0, ls1]
  refine runL 6 (.bool true) rfl (by rfl) (by go_simp) ?_
  simp only [ls0, ls1]
  refine nilL ?_
  go_wp2_with fail
  go_ret
  exact ⟨rfl, hW⟩
 have h2I : ¬ (100 : Int) < (n2 : Int) := by omega
 obtain ⟨r, hr⟩ : ∃ r, sha (l1 ++ l2) = r := ⟨_, rfl⟩
 have hrl : r.length = 32 := by rw [← hr]; exact sha_len _
 have hrb : Byt r := by rw [← hr]; exact sha_byt _
 have hjl : (l1 ++ l2).length = n1 + n2 := by rw [List.length_append, hl1, hl2]
 have hjb : Byt (l1 ++ l2) := hb1.app hb2
 have hrq := Lib.hid hr
 obtain ⟨q, hq⟩ : ∃ q, beB e 8 ++ beB m 8 = q := ⟨_, rfl⟩
 have hstr : bst (beB e 8) ++ bst (beB m 8) = bst q := by rw [← bst_append, hq]
 have hszq : Hid (¬ 9223372036854775807 < (bst (beB e 8)).size + (bst (beB m 8)).size) := Lib.hid (by rw [bst_sizeD, bst_sizeD, beB_len, beB_len]; decide)
 have hstq := Lib.hid hstr
 have hql : q.length = 16 := by rw [← hq]; simp [beB_len]
 have q1 : ((r ++ q).drop 0).take 32 = r := by rw [List.drop_zero, List.take_left' hrl]
 have q2 : ((r ++ q).drop 32).take 16 = q := by rw [List.drop_left' hrl, List.take_of_length_le (by omega)]
 have q1q := Lib.hid q1
 have q2q := Lib.hid q2
 have hqq := Lib.hid hq
 clear hr hstr q1 q2 hq
 go_enter Tryd.func3, Tryd.ntmps3
 go_upto_region 0 with fail
 refine wl_lit ?_
 refine runWL 3 (.pointer (some ⟨w.heap.size, 0, none⟩)) (w.alloc (.cells (celV r0 e m) 26)) rfl (by rfl) (exec_box 26 (.tmp 0) rfl (.agg (celV r0 e m)) rfl) ?_
 simp only [ls0, ls1]
 have lw_p3 := Nat.le_trans hB0 hW.size
 have hp3 : Blk (w.alloc (.cells (celV r0 e m) 26)) w.heap.size 26 (celV r0 e m) := Blk.new _ _ _
 replace hW := hW.alloc (Nat.le_trans hB0 hW.size) (.cells (celV r0 e m) 26)
 generalize w.alloc (.cells (celV r0 e m) 26) = w1 at *
 generalize w.heap.size = p3 at hp3 lw_p3  ⊢
 refine runL 6 (.bool false) rfl (by rfl) (by go_simp) ?_
 simp only [ls0, ls1]
 refine nilL ?_
 go_upto_region 1 with fail
 refine wl_lit ?_
 refine runL 11 (.slice (A1) n1 c1) rfl (by rfl) (by go_simp) ?_
 simp only [ls0, ls1]
 refine runL 12 (.int .i64 (n1)) rfl (by rfl) (by go_simp) ?_
 simp only [ls0, ls1]
 refine runL 13 (.bool false) rfl (by rfl) (by go_simp) ?_
 simp only [ls0, ls1]
 refine runL 14 (.bool false) rfl (by rfl) (by go_simp) ?_
 simp only [ls0, ls1]
 refine runL 15 (.slice (A2) n2 c2) rfl (by rfl) (by go_simp) ?_
 simp only [ls0, ls1]
 refine runL 16 (.int .i64 (n2)) rfl (by rfl) (by go_simp) ?_
 simp only [ls0, ls1]
 refine runL 17 (.bool false) rfl (by rfl) (by go_simp) ?_
 simp only [ls0, ls1]
 refine runL 18 (.bool false) rfl (by rfl) (by go_simp) ?_
 simp only [ls0, ls1]
 refine nilL ?_
 go_upto_region 3 with fail
 refine wl_lit ?_
 refine runL 20 (.slice (A1) n1 c1) rfl (by rfl) (by go_simp) ?_
 simp only [ls0, ls1]
 refine runL 21 (.slice (A2) n2 c2) rfl (by rfl) (by go_simp) ?_
 simp only [ls0, ls1]
 refine runWL 22 (.slice (some ⟨w1.heap.size, 0, none⟩) 2 2) (w1.alloc (.cells (#[.slice (A1) n1 c1, .slice (A2) n2 c2]) 27)) rfl (by rfl) (exec_bslice 88 2 _ rfl _ (by exact bs_2 (A1) n1 c1 (A2) n2 c2 _)) ?_
 simp only [ls0, ls1]
 have lp3_q1 := hp3.lt
 have lw_q1 := Nat.le_trans hB0 hW.size
 have hq1 : Blk (w1.alloc (.cells (#[.slice (A1) n1 c1, .slice (A2) n2 c2]) 27)) w1.heap.size 27 (#[.slice (A1) n1 c1, .slice (A2) n2 c2]) := Blk.new _ _ _
 replace hp3 := hp3.alloc (.cells (#[.slice (A1) n1 c1, .slice (A2) n2 c2]) 27)
 replace hW := hW.alloc (Nat.le_trans hB0 hW.size) (.cells (#[.slice (A1) n1 c1, .slice (A2) n2 c2]) 27)
 generalize w1.alloc (.cells (#[.slice (A1) n1 c1, .slice (A2) n2 c2]) 27) = w2 at *
 generalize w1.heap.size = q1 at hq1 lw_q1 lp3_q1 ⊢
 refine callL 23 rfl (by rfl) (fun K hK => wp_callF 6 #[.slice (some ⟨q1, 0, none⟩) 2 2] (by go_simp) (of_to [l1, l2] (l1 ++ l2) r (by simp) hrq.out 2 2 _ _ _ (gl.out _ hW) (parts_two (Nat.le_trans hBB1 (Nat.le_trans hB0 hW.size)) (Nat.le_trans hBB2 (Nat.le_trans hB0 hW.size)) hq1 (rd1.out _ hW) hc1 hb1 (rd2.out _ hW) hc2 hb2) (by decide) (Nat.le_refl _) (by omega)) ?_)
 rintro e w3 ⟨rfl, bx⟩
 replace hp3 := hp3.below bx hp3.lt
 replace hq1 := hq1.below bx hq1.lt
 replace hW := hW.trans (bx.mono (Nat.le_trans hB0 hW.size))
 clear bx
 refine ⟨_, rfl, hK.out _ _ ?_⟩
 clear hK K
 simp only [ls0, ls1]
 refine runL 24 (.pointer (some ⟨p3, 0, none⟩)) rfl (by rfl) (by go_simp) ?_
 simp only [ls0, ls1]
 refine runSL (w3.setRow p3 (celV r e m)) rfl (by rfl) (exec_storeMid 23 (.tmp 24) (.tmp 23) rfl p3 0 rfl (va .u8 r) rfl 26 (celV r0 e m) (celV r e m) hp3 (by rw [va_size, hrl]; simp [celV, nv_len, hrl0]) (sz_api_Digest _ hrl) (va_ones .u8 _) (by simp [celV, va, nv_len, hrl0, hrl])) ?_
 replace hq1 := hq1.rowFar (show p3 ≠ q1 from (by omega)) (celV r e m)
 replace hp3 := hp3.row (celV r e m)
 replace hW := below_setRow hW lw_p3 (celV r e m)
 generalize w3.setRow p3 (celV r e m) = w4 at *
 refine nilL ?_
 go_upto_region 4 with fail
 refine wl_lit ?_
 refine runL 25 (.agg (celV r e m)) rfl (by rfl) (exec_row 26 (.tmp 3) rfl p3 rfl 26 (celV r e m) _ hp3 (by exact Tryd.underlying26) rfl (celV_sz _ _ _ hrl)) ?_
 simp only [ls0, ls1]
 refine callL 26 rfl (by rfl) (fun K hK => wp_callF 7 #[.agg (celV r e m)] (by go_simp) (pcell_any r e m hrl hrb he hm _) ?_)
 rintro e w5 ⟨gb, rfl, hgb, hgg, bx⟩
 rw [hqq.out] at hgb
 have lp3_gb : p3 < gb := Nat.lt_of_lt_of_le hp3.lt hgg
 have lq1_gb : q1 < gb := Nat.lt_of_lt_of_le hq1.lt hgg
 have lw_gb : B0 ≤ gb := Nat.le_trans (Nat.le_trans hB0 hW.size) hgg
 replace hp3 := hp3.below bx hp3.lt
 replace hq1 := hq1.below bx hq1.lt
 replace hW := hW.trans (bx.mono (Nat.le_trans hB0 hW.size))
 clear hgg
 clear bx
 refine ⟨_, rfl, hK.out _ _ ?_⟩
 clear hK K
 simp only [ls0, ls1]
 refine runL 7 (.slice (some ⟨gb, 0, none⟩) 48 48) rfl (by rfl) (by go_simp) ?_
 simp only [ls0, ls1]
 refine nilL ?_
 go_upto_region 5 with fail
 refine wl_lit ?_
 refine runL 28 (.slice (some ⟨gb, 0, none⟩) 48 48) rfl (by rfl) (by go_simp) ?_
 simp only [ls0, ls1]
 refine callL 29 rfl (by rfl) (fun K hK => wp_callF 8 #[.slice (some ⟨gb, 0, none⟩) 48 48] (by go_simp) (gcell_any gb r e m hrl hrb he hm _ (by rw [hqq.out]; exact (hgb.readsAll (Nat.lt_succ_self _) (by simp [hrl, hql]))) hgb.lt) ?_)
 rintro e w6 ⟨rfl, bx⟩
 replace hp3 := hp3.below bx hp3.lt
 replace hq1 := hq1.below bx hq1.lt
 replace hgb := hgb.below bx hgb.lt
 replace hW := hW.trans (bx.mono (Nat.le_trans hB0 hW.size))
 clear bx
 refine ⟨_, rfl, hK.out _ _ ?_⟩
 clear hK K
 simp only [ls0, ls1]
 refine runL 27 (.tuple #[.agg (celV r e m), .int .i64 0]) rfl (by rfl) (by go_simp) ?_
 simp only [ls0, ls1]
 refine runL 30 (.agg (celV r e m)) rfl (by rfl) (by go_simp) ?_
 simp only [ls0, ls1]
 refine runL 31 (.int .i64 0) rfl (by rfl) (by go_simp) ?_
 simp only [ls0, ls1]
 refine runWL 8 (.pointer (some ⟨w6.heap.size, 0, none⟩)) (w6.alloc (.cells (celV (List.replicate 32 0) 0 0) 26)) rfl (by rfl) (exec_allocV 26 rfl _ (zv_Cell _)) ?_
 simp only [ls0, ls1]
 have lp3_p8 := hp3.lt
 have lq1_p8 := hq1.lt
 have lgb_p8 := hgb.lt
 have lw_p8 := Nat.le_trans hB0 hW.size
 have hp8 : Blk (w6.alloc (.cells (celV (List.replicate 32 0) 0 0) 26)) w6.heap.size 26 (celV (List.replicate 32 0) 0 0) := Blk.new _ _ _
 replace hp3 := hp3.alloc (.cells (celV (List.replicate 32 0) 0 0) 26)
 replace hq1 := hq1.alloc (.cells (celV (List.replicate 32 0) 0 0) 26)
 replace hgb := hgb.alloc (.cells (celV (List.replicate 32 0) 0 0) 26)
 replace hW := hW.alloc (Nat.le_trans hB0 hW.size) (.cells (celV (List.replicate 32 0) 0 0) 26)
 generalize w6.alloc (.cells (celV (List.replicate 32 0) 0 0) 26) = w7 at *
 generalize w6.heap.size = p8 at hp8 lw_p8 lp3_p8 lq1_p8 lgb_p8 ⊢
 refine runSL (w7.setRow p8 (celV r e m)) rfl (by rfl) (exec_storeRow 26 (.tmp 8) (.tmp 30) rfl p8 rfl (celV r e m) rfl 26 (celV (List.replicate 32 0) 0 0) hp8 (sz_eq (celV_sz _ _ _ List.length_replicate) (celV_sz _ _ _ hrl)) (celV_sz _ _ _ hrl) (celV_one _ _ _)) ?_
 replace hp3 := hp3.rowFar (show p8 ≠ p3 from (by omega)) (celV r e m)
 replace hq1 := hq1.rowFar (show p8 ≠ q1 from (by omega)) (celV r e m)
 replace hgb := hgb.rowFar (show p8 ≠ gb from (by omega)) (celV r e m)
 replace hp8 := hp8.row (celV r e m)
 replace hW := below_setRow hW lw_p8 (celV r e m)
 generalize w7.setRow p8 (celV r e m) = w8 at *
 refine runL 9 (.int .i64 0) rfl (by rfl) (by go_simp) ?_
 simp only [ls0, ls1]
 refine nilL ?_
 go_upto_region 6 with fail
 refine wl_lit ?_
 refine runL 32 (.slice (A1) n1 c1) rfl (by rfl) (by go_simp) ?_
 simp only [ls0, ls1]
 refine runL 33 (.slice (A2) n2 c2) rfl (by rfl) (by go_simp) ?_
 simp only [ls0, ls1]
 refine runWL 34 (.slice (some ⟨w8.heap.size, 0, none⟩) 2 2) (w8.alloc (.cells (#[.slice (A1) n1 c1, .slice (A2) n2 c2]) 27)) rfl (by rfl) (exec_bslice 88 2 _ rfl _ (by exact bs_2 (A1) n1 c1 (A2) n2 c2 _)) ?_
 simp only [ls0, ls1]
 have lp3_q2 := hp3.lt
 have lq1_q2 := hq1.lt
 have lgb_q2 := hgb.lt
 have lp8_q2 := hp8.lt
 have lw_q2 := Nat.le_trans hB0 hW.size
 have hq2 : Blk (w8.alloc (.cells (#[.slice (A1) n1 c1, .slice (A2) n2 c2]) 27)) w8.heap.size 27 (#[.slice (A1) n1 c1, .slice (A2) n2 c2]) := Blk.new _ _ _
 replace hp3 := hp3.alloc (.cells (#[.slice (A1) n1 c1, .slice (A2) n2 c2]) 27)
 replace hq1 := hq1.alloc (.cells (#[.slice (A1) n1 c1, .slice (A2) n2 c2]) 27)
 replace hgb := hgb.alloc (.cells (#[.slice (A1) n1 c1, .slice (A2) n2 c2]) 27)
 replace hp8 := hp8.alloc (.cells (#[.slice (A1) n1 c1, .slice (A2) n2 c2]) 27)
 replace hW := hW.alloc (Nat.le_trans hB0 hW.size) (.cells (#[.slice (A1) n1 c1, .slice (A2) n2 c2]) 27)
 generalize w8.alloc (.cells (#[.slice (A1) n1 c1, .slice (A2) n2 c2]) 27) = w9 at *
 generalize w8.heap.size = q2 at hq2 lw_q2 lp3_q2 lq1_q2 lgb_q2 lp8_q2 ⊢
 refine callL 35 rfl (by rfl) (fun K hK => wp_callF 9 #[.slice (some ⟨q2, 0, none⟩) 2 2] (by go_simp) (join_to [l1, l2] (l1 ++ l2) 2 2 _ (n1 + n2) _ _ (parts_two (Nat.le_trans hBB1 (Nat.le_trans hB0 hW.size)) (Nat.le_trans hBB2 (Nat.le_trans hB0 hW.size)) hq2 (rd1.out _ hW) hc1 hb1 (rd2.out _ hW) hc2 hb2) (by simp) (by omega) (Nat.le_refl _) hjl (by omega)) ?_)
 rintro e w10 ⟨gj, rfl, hgj, hgg, bx⟩
 have lp3_gj : p3 < gj := Nat.lt_of_lt_of_le hp3.lt hgg
 have lq1_gj : q1 < gj := Nat.lt_of_lt_of_le hq1.lt hgg
 have lgb_gj : gb < gj := Nat.lt_of_lt_of_le hgb.lt hgg
 have lp8_gj : p8 < gj := Nat.lt_of_lt_of_le hp8.lt hgg
 have lq2_gj : q2 < gj := Nat.lt_of_lt_of_le hq2.lt hgg
 have lw_gj : B0 ≤ gj := Nat.le_trans (Nat.le_trans hB0 hW.size) hgg
 replace hp3 := hp3.below bx hp3.lt
 replace hq1 := hq1.below bx hq1.lt
 replace hgb := hgb.below bx hgb.lt
 replace hp8 := hp8.below bx hp8.lt
 replace hq2 := hq2.below bx hq2.lt
 replace hW := hW.trans (bx.mono (Nat.le_trans hB0 hW.size))
 clear hgg
 clear bx
 refine ⟨_, rfl, hK.out _ _ ?_⟩
 clear hK K
 simp only [ls0, ls1]
 refine runWL 36 (.slice (some ⟨w10.heap.size, 0, none⟩) 1 1) (w10.alloc (.cells (#[.slice (some ⟨gj, 0, none⟩) (n1 + n2) (n1 + n2)]) 27)) rfl (by rfl) (exec_bslice 88 1 _ rfl _ (by exact bs_1 (some ⟨gj, 0, none⟩) (n1 + n2) (n1 + n2) _)) ?_
 simp only [ls0, ls1]
 have lp3_q3 := hp3.lt
 have lq1_q3 := hq1.lt
 have lgb_q3 := hgb.lt
 have lp8_q3 := hp8.lt
 have lq2_q3 := hq2.lt
 have lgj_q3 := hgj.lt
 have lw_q3 := Nat.le_trans hB0 hW.size
 have hq3 : Blk (w10.alloc (.cells (#[.slice (some ⟨gj, 0, none⟩) (n1 + n2) (n1 + n2)]) 27)) w10.heap.size 27 (#[.slice (some ⟨gj, 0, none⟩) (n1 + n2) (n1 + n2)]) := Blk.new _ _ _
 replace hp3 := hp3.alloc (.cells (#[.slice (some ⟨gj, 0, none⟩) (n1 + n2) (n1 + n2)]) 27)
 replace hq1 := hq1.alloc (.cells (#[.slice (some ⟨gj, 0, none⟩) (n1 + n2) (n1 + n2)]) 27)
 replace hgb := hgb.alloc (.cells (#[.slice (some ⟨gj, 0, none⟩) (n1 + n2) (n1 + n2)]) 27)
 replace hp8 := hp8.alloc (.cells (#[.slice (some ⟨gj, 0, none⟩) (n1 + n2) (n1 + n2)]) 27)
 replace hq2 := hq2.alloc (.cells (#[.slice (some ⟨gj, 0, none⟩) (n1 + n2) (n1 + n2)]) 27)
 replace hgj := hgj.alloc (.cells (#[.slice (some ⟨gj, 0, none⟩) (n1 + n2) (n1 + n2)]) 27)
 replace hW := hW.alloc (Nat.le_trans hB0 hW.size) (.cells (#[.slice (some ⟨gj, 0, none⟩) (n1 + n2) (n1 + n2)]) 27)
 generalize w10.alloc (.cells (#[.slice (some ⟨gj, 0, none⟩) (n1 + n2) (n1 + n2)]) 27) = w11 at *
 generalize w10.heap.size = q3 at hq3 lw_q3 lp3_q3 lq1_q3 lgb_q3 lp8_q3 lq2_q3 lgj_q3 ⊢
 refine callL 37 rfl (by rfl) (fun K hK => wp_callF 6 #[.slice (some ⟨q3, 0, none⟩) 1 1] (by go_simp) (of_to [l1 ++ l2] (l1 ++ l2) r (by simp) hrq.out 1 1 _ _ _ (gl.out _ hW) (parts_one hgj.lt hq3 (hgj.readsAll (Nat.lt_succ_self _) hjl) (Nat.le_refl _) hjb) (by decide) (Nat.le_refl _) (by omega)) ?_)
 rintro e w12 ⟨rfl, bx⟩
 replace hp3 := hp3.below bx hp3.lt
 replace hq1 := hq1.below bx hq1.lt
 replace hgb := hgb.below bx hgb.lt
 replace hp8 := hp8.below bx hp8.lt
 replace hq2 := hq2.below bx hq2.lt
 replace hgj := hgj.below bx hgj.lt
 replace hq3 := hq3.below bx hq3.lt
 replace hW := hW.trans (bx.mono (Nat.le_trans hB0 hW.size))
 clear bx
 refine ⟨_, rfl, hK.out _ _ ?_⟩
 clear hK K
 simp only [ls0, ls1]
 refine runWL 10 (.pointer (some ⟨w12.heap.size, 0, none⟩)) (w12.alloc (.cells (va .u8 (List.replicate 32 0)) 23)) rfl (by rfl) (exec_allocV 23 rfl _ (zv_api_Digest _)) ?_
 simp only [ls0, ls1]
 have lp3_p10 := hp3.lt
 have lq1_p10 := hq1.lt
 have lgb_p10 := hgb.lt
 have lp8_p10 := hp8.lt
 have lq2_p10 := hq2.lt
 have lgj_p10 := hgj.lt
 have lq3_p10 := hq3.lt
 have lw_p10 := Nat.le_trans hB0 hW.size
 have hp10 : Blk (w12.alloc (.cells (va .u8 (List.replicate 32 0)) 23)) w12.heap.size 23 (va .u8 (List.replicate 32 0)) := Blk.new _ _ _
 replace hp3 := hp3.alloc (.cells (va .u8 (List.replicate 32 0)) 23)
 replace hq1 := hq1.alloc (.cells (va .u8 (List.replicate 32 0)) 23)
 replace hgb := hgb.alloc (.cells (va .u8 (List.replicate 32 0)) 23)
 replace hp8 := hp8.alloc (.cells (va .u8 (List.replicate 32 0)) 23)
 replace hq2 := hq2.alloc (.cells (va .u8 (List.replicate 32 0)) 23)
 replace hgj := hgj.alloc (.cells (va .u8 (List.replicate 32 0)) 23)
 replace hq3 := hq3.alloc (.cells (va .u8 (List.replicate 32 0)) 23)
 replace hW := hW.alloc (Nat.le_trans hB0 hW.size) (.cells (va .u8 (List.replicate 32 0)) 23)
 generalize w12.alloc (.cells (va .u8 (List.replicate 32 0)) 23) = w13 at *
 generalize w12.heap.size = p10 at hp10 lw_p10 lp3_p10 lq1_p10 lgb_p10 lp8_p10 lq2_p10 lgj_p10 lq3_p10 ⊢
 refine runSL (w13.setRow p10 (va .u8 (r))) rfl (by rfl) (exec_storeRow 23 (.tmp 10) (.tmp 37) rfl p10 rfl (va .u8 (r)) rfl 23 (va .u8 (List.replicate 32 0)) hp10 (sz_eq (sz_api_Digest _ (List.length_replicate)) (sz_api_Digest _ (hrl))) (sz_api_Digest _ (hrl)) (va_ones .u8 _)) ?_
 replace hp3 := hp3.rowFar (show p10 ≠ p3 from (by omega)) (va .u8 (r))
 replace hq1 := hq1.rowFar (show p10 ≠ q1 from (by omega)) (va .u8 (r))
 replace hgb := hgb.rowFar (show p10 ≠ gb from (by omega)) (va .u8 (r))
 replace hp8 := hp8.rowFar (show p10 ≠ p8 from (by omega)) (va .u8 (r))
 replace hq2 := hq2.rowFar (show p10 ≠ q2 from (by omega)) (va .u8 (r))
 replace hgj := hgj.rowFar (show p10 ≠ gj from (by omega)) (va .u8 (r))
 replace hq3 := hq3.rowFar (show p10 ≠ q3 from (by omega)) (va .u8 (r))
 replace hp10 := hp10.row (va .u8 (r))
 replace hW := below_setRow hW lw_p10 (va .u8 (r))
 generalize w13.setRow p10 (va .u8 (r)) = w14 at *
 refine nilL ?_
 go_upto_region 7 with fail
 refine wp_region_held_drew (S := fun wr => Blk wr p3 26 (celV r e m) ∧ Blk wr q1 27 (#[.slice (A1) n1 c1, .slice (A2) n2 c2]) ∧ Blk wr gb 5 (va .u8 (r ++ q)) ∧ Blk wr p8 26 (celV r e m) ∧ Blk wr q2 27 (#[.slice (A1) n1 c1, .slice (A2) n2 c2]) ∧ Blk wr gj 5 (va .u8 (l1 ++ l2)) ∧ Blk wr q3 27 (#[.slice (some ⟨gj, 0, none⟩) (n1 + n2) (n1 + n2)]) ∧ Blk wr p10 23 (va .u8 (r)) ∧ Below B0 w wr) (by kernel_rfl) ⟨hp3.drew, hq1.drew, hgb.drew, hp8.drew, hq2.drew, hgj.drew, hq3.drew, hp10.drew, below_drewN hW 1⟩ (fun hH => ?_)
 clear hp3 hq1 hgb hp8 hq2 hgj hq3 hp10 hW
 obtain ⟨hp3, hq1, hgb, hp8, hq2, hgj, hq3, hp10, hW⟩ := hH
 generalize w14.drew = w15 at *
 refine takeH 38 0 38 (.int .i64 0) rfl rfl (by kernel_rfl) (by kernel_rfl) (by kernel_rfl) (fun _ _ _ h => h) (Or.inl ⟨by rfl, fun w _ => by go_simp⟩) ⟨hp3, hq1, hgb, hp8, hq2, hgj, hq3, hp10, hW⟩ ?_
 simp only [ls0, ls1]
 refine takeH 37 1 39 (.bool true) rfl rfl (by kernel_rfl) (by kernel_rfl) (by kernel_rfl) (fun _ _ _ h => h) (Or.inl ⟨by rfl, fun w _ => by go_simp⟩) ⟨hp3, hq1, hgb, hp8, hq2, hgj, hq3, hp10, hW⟩ ?_
 simp only [ls0, ls1]
 refine takeH 36 2 40 (.bool true) rfl rfl (by kernel_rfl) (by kernel_rfl) (by kernel_rfl) (fun _ _ _ h => h) (Or.inl ⟨by rfl, fun w _ => by go_simp⟩) ⟨hp3, hq1, hgb, hp8, hq2, hgj, hq3, hp10, hW⟩ ?_
 simp only [ls0, ls1]
 refine takeH 35 3 41 (.agg (celV r e m)) rfl rfl (by kernel_rfl) (by kernel_rfl) (by kernel_rfl) (fun _ _ _ h => h) (Or.inl ⟨by rfl, fun _ h => exec_row 26 (.tmp 8) rfl p8 rfl 26 (celV r e m) _ h.2.2.2.1 (by exact Tryd.underlying26) rfl (celV_sz _ _ _ hrl)⟩) ⟨hp3, hq1, hgb, hp8, hq2, hgj, hq3, hp10, hW⟩ ?_
 simp only [ls0, ls1]
 refine takeH 34 4 42 (.agg (celV r e m)) rfl rfl (by kernel_rfl) (by kernel_rfl) (by kernel_rfl) (fun _ _ _ h => h) (Or.inl ⟨by rfl, fun _ h => exec_row 26 (.tmp 3) rfl p3 rfl 26 (celV r e m) _ h.1 (by exact Tryd.underlying26) rfl (celV_sz _ _ _ hrl)⟩) ⟨hp3, hq1, hgb, hp8, hq2, hgj, hq3, hp10, hW⟩ ?_
 simp only [ls0, ls1]
 refine takeH 33 5 43 (.bool true) rfl rfl (by kernel_rfl) (by kernel_rfl) (by kernel_rfl) (fun _ _ _ h => h) (Or.inl ⟨by rfl, fun _ _ => exec_eqV 26 (by kernel_rfl) (.tmp 41) (.tmp 42) _ rfl (celV r e m) (celV r e m) rfl rfl true (eqCel r e m hrl _)⟩) ⟨hp3, hq1, hgb, hp8, hq2, hgj, hq3, hp10, hW⟩ ?_
 simp only [ls0, ls1]
 refine takeH 32 6 44 (.bool true) rfl rfl (by kernel_rfl) (by kernel_rfl) (by kernel_rfl) (fun _ _ _ h => h) (Or.inl ⟨by rfl, fun w _ => by go_simp⟩) ⟨hp3, hq1, hgb, hp8, hq2, hgj, hq3, hp10, hW⟩ ?_
 simp only [ls0, ls1]
 refine takeH 31 7 45 (.bool true) rfl rfl (by kernel_rfl) (by kernel_rfl) (by kernel_rfl) (fun _ _ _ h => h) (Or.inl ⟨by rfl, fun w _ => by go_simp⟩) ⟨hp3, hq1, hgb, hp8, hq2, hgj, hq3, hp10, hW⟩ ?_
 simp only [ls0, ls1]
 refine takeH 30 8 46 (.slice (some ⟨gb, 0, none⟩) 48 48) rfl rfl (by kernel_rfl) (by kernel_rfl) (by kernel_rfl) (fun _ _ _ h => h) (Or.inl ⟨by rfl, fun w _ => by go_simp⟩) ⟨hp3, hq1, hgb, hp8, hq2, hgj, hq3, hp10, hW⟩ ?_
 simp only [ls0, ls1]
 refine takeH 29 9 47 (.int .i64 48) rfl rfl (by kernel_rfl) (by kernel_rfl) (by kernel_rfl) (fun _ _ _ h => h) (Or.inl ⟨by rfl, fun w _ => by go_simp⟩) ⟨hp3, hq1, hgb, hp8, hq2, hgj, hq3, hp10, hW⟩ ?_
 simp only [ls0, ls1]
 refine takeH 28 10 48 (.bool true) rfl rfl (by kernel_rfl) (by kernel_rfl) (by kernel_rfl) (fun _ _ _ h => h) (Or.inl ⟨by rfl, fun w _ => by go_simp⟩) ⟨hp3, hq1, hgb, hp8, hq2, hgj, hq3, hp10, hW⟩ ?_
 simp only [ls0, ls1]
 refine takeH 27 11 49 (.bool true) rfl rfl (by kernel_rfl) (by kernel_rfl) (by kernel_rfl) (fun _ _ _ h => h) (Or.inl ⟨by rfl, fun w _ => by go_simp⟩) ⟨hp3, hq1, hgb, hp8, hq2, hgj, hq3, hp10, hW⟩ ?_
 simp only [ls0, ls1]
 refine takeH 26 12 50 (.bool true) rfl rfl (by kernel_rfl) (by kernel_rfl) (by kernel_rfl) (fun _ _ _ h => h) (Or.inl ⟨by rfl, fun w _ => by go_simp⟩) ⟨hp3, hq1, hgb, hp8, hq2, hgj, hq3, hp10, hW⟩ ?_
 simp only [ls0, ls1]
 refine takeH 25 13 51 (.slice (some ⟨gb, 0, none⟩) 48 48) rfl rfl (by kernel_rfl) (by kernel_rfl) (by kernel_rfl) (fun _ _ _ h => h) (Or.inl ⟨by rfl, fun w _ => by go_simp⟩) ⟨hp3, hq1, hgb, hp8, hq2, hgj, hq3, hp10, hW⟩ ?_
 simp only [ls0, ls1]
 refine takeH 24 14 52 (.slice (some ⟨gb, 0, none⟩) 32 48) rfl rfl (by kernel_rfl) (by kernel_rfl) (by kernel_rfl) (fun _ _ _ h => h) (Or.inl ⟨by rfl, fun w _ => by go_simp⟩) ⟨hp3, hq1, hgb, hp8, hq2, hgj, hq3, hp10, hW⟩ ?_
 simp only [ls0, ls1]
 refine takeH 23 15 53 (.string (bst (r))) rfl rfl (by kernel_rfl) (by kernel_rfl) (by kernel_rfl) (fun _ _ _ h => h) (Or.inl ⟨by rfl, fun _ h => exec_conv 27 9 (.tmp 52) rfl (.slice (some ⟨gb, 0, none⟩) 32 48) (.string (bst (r))) rfl (Reads.string (rpart (h.2.2.1.readsAll (Nat.lt_succ_self _) (show (r ++ q).length = 48 by simp [hrl, hql])) 0 32 (by decide) q1q.out) _ _ Tryd.underlying27 Tryd.underlying9)⟩) ⟨hp3, hq1, hgb, hp8, hq2, hgj, hq3, hp10, hW⟩ ?_
 simp only [ls0, ls1]
 refine takeH 22 16 54 (.slice (some ⟨p10, 0, none⟩) 32 32) rfl rfl (by kernel_rfl) (by kernel_rfl) (by kernel_rfl) (fun _ _ _ h => h) (Or.inl ⟨by rfl, fun w _ => by go_simp⟩) ⟨hp3, hq1, hgb, hp8, hq2, hgj, hq3, hp10, hW⟩ ?_
 simp only [ls0, ls1]
 refine takeH 21 17 55 (.string (bst (r))) rfl rfl (by kernel_rfl) (by kernel_rfl) (by kernel_rfl) (fun _ _ _ h => h) (Or.inl ⟨by rfl, fun _ h => exec_conv 27 9 (.tmp 54) rfl (.slice (some ⟨p10, 0, none⟩) 32 32) (.string (bst (r))) rfl (Reads.string (h.2.2.2.2.2.2.2.1.readsAll (Nat.lt_succ_self _) (hrl)) _ _ Tryd.underlying27 Tryd.underlying9)⟩) ⟨hp3, hq1, hgb, hp8, hq2, hgj, hq3, hp10, hW⟩ ?_
 simp only [ls0, ls1]
 refine takeH 20 18 56 (.bool true) rfl rfl (by kernel_rfl) (by kernel_rfl) (by kernel_rfl) (fun _ _ _ h => h) (Or.inl ⟨by rfl, fun w _ => by go_simp⟩) ⟨hp3, hq1, hgb, hp8, hq2, hgj, hq3, hp10, hW⟩ ?_
 simp only [ls0, ls1]
 refine takeH 19 19 57 (.bool true) rfl rfl (by kernel_rfl) (by kernel_rfl) (by kernel_rfl) (fun _ _ _ h => h) (Or.inl ⟨by rfl, fun w _ => by go_simp⟩) ⟨hp3, hq1, hgb, hp8, hq2, hgj, hq3, hp10, hW⟩ ?_
 simp only [ls0, ls1]
 refine takeH 18 20 58 (.bool true) rfl rfl (by kernel_rfl) (by kernel_rfl) (by kernel_rfl) (fun _ _ _ h => h) (Or.inl ⟨by rfl, fun w _ => by go_simp⟩) ⟨hp3, hq1, hgb, hp8, hq2, hgj, hq3, hp10, hW⟩ ?_
 simp only [ls0, ls1]
 refine takeH 17 21 59 (.slice (some ⟨gb, 0, none⟩) 48 48) rfl rfl (by kernel_rfl) (by kernel_rfl) (by kernel_rfl) (fun _ _ _ h => h) (Or.inl ⟨by rfl, fun w _ => by go_simp⟩) ⟨hp3, hq1, hgb, hp8, hq2, hgj, hq3, hp10, hW⟩ ?_
 simp only [ls0, ls1]
 refine takeH 16 22 60 (.slice (some ⟨gb, 32, none⟩) 16 16) rfl rfl (by kernel_rfl) (by kernel_rfl) (by kernel_rfl) (fun _ _ _ h => h) (Or.inl ⟨by rfl, fun w _ => by go_simp⟩) ⟨hp3, hq1, hgb, hp8, hq2, hgj, hq3, hp10, hW⟩ ?_
 simp only [ls0, ls1]
 refine takeH 15 23 61 (.string (bst (q))) rfl rfl (by kernel_rfl) (by kernel_rfl) (by kernel_rfl) (fun _ _ _ h => h) (Or.inl ⟨by rfl, fun _ h => exec_conv 27 9 (.tmp 60) rfl (.slice (some ⟨gb, 32, none⟩) 16 16) (.string (bst (q))) rfl (Reads.string (rpart (h.2.2.1.readsAll (Nat.lt_succ_self _) (show (r ++ q).length = 48 by simp [hrl, hql])) 32 16 (by decide) q2q.out) _ _ Tryd.underlying27 Tryd.underlying9)⟩) ⟨hp3, hq1, hgb, hp8, hq2, hgj, hq3, hp10, hW⟩ ?_
 simp only [ls0, ls1]
 refine takeH 14 24 62 (.pointer (some ⟨p3, 32, none⟩)) rfl rfl (by kernel_rfl) (by kernel_rfl) (by kernel_rfl) (fun _ _ _ h => h) (Or.inl ⟨by rfl, fun w _ => by go_simp⟩) ⟨hp3, hq1, hgb, hp8, hq2, hgj, hq3, hp10, hW⟩ ?_
 simp only [ls0, ls1]
 refine takeH 13 25 63 (.int .u64 ((e : Nat) : Int)) rfl rfl (by kernel_rfl) (by kernel_rfl) (by kernel_rfl) (fun _ _ _ h => h) (Or.inl ⟨by rfl, fun _ h => exec_cell 24 (.tmp 62) rfl p3 32 rfl (.int .u64 ((e : Nat) : Int)) _ Tryd.underlying24 rfl (celV_e h.1 hrl)⟩) ⟨hp3, hq1, hgb, hp8, hq2, hgj, hq3, hp10, hW⟩ ?_
 simp only [ls0, ls1]
 refine takeH 12 28 66 (.pointer (some ⟨p3, 33, none⟩)) rfl rfl (by kernel_rfl) (by kernel_rfl) (by kernel_rfl) (fun _ _ _ h => h) (Or.inl ⟨by rfl, fun w _ => by go_simp⟩) ⟨hp3, hq1, hgb, hp8, hq2, hgj, hq3, hp10, hW⟩ ?_
 simp only [ls0, ls1]
 refine takeH 11 29 67 (.int .u64 ((m : Nat) : Int)) rfl rfl (by kernel_rfl) (by kernel_rfl) (by kernel_rfl) (fun _ _ _ h => h) (Or.inl ⟨by rfl, fun _ h => exec_cell 24 (.tmp 66) rfl p3 33 rfl (.int .u64 ((m : Nat) : Int)) _ Tryd.underlying24 rfl (celV_m h.1 hrl)⟩) ⟨hp3, hq1, hgb, hp8, hq2, hgj, hq3, hp10, hW⟩ ?_
 simp only [ls0, ls1]
 refine wpAnyH_ready (by kernel_rfl) (by simp) (readyCons 10 26 64 rfl rfl (by rfl) (fun K hK => wp_callF 10 #[.int .u64 ((e : Nat) : Int)] (by go_simp) (rput64_toT e he _) ?_) AllReadyH.nil)
 rintro e w16 ⟨g64, rfl, hg64, hgg, bx⟩
 have lp3_g64 : p3 < g64 := Nat.lt_of_lt_of_le hp3.lt hgg
 have lq1_g64 : q1 < g64 := Nat.lt_of_lt_of_le hq1.lt hgg
 have lgb_g64 : gb < g64 := Nat.lt_of_lt_of_le hgb.lt hgg
 have lp8_g64 : p8 < g64 := Nat.lt_of_lt_of_le hp8.lt hgg
 have lq2_g64 : q2 < g64 := Nat.lt_of_lt_of_le hq2.lt hgg
 have lgj_g64 : gj < g64 := Nat.lt_of_lt_of_le hgj.lt hgg
 have lq3_g64 : q3 < g64 := Nat.lt_of_lt_of_le hq3.lt hgg
 have lp10_g64 : p10 < g64 := Nat.lt_of_lt_of_le hp10.lt hgg
 have lw_g64 : B0 ≤ g64 := Nat.le_trans (Nat.le_trans hB0 hW.size) hgg
 replace hp3 := hp3.below bx hp3.lt
 replace hq1 := hq1.below bx hq1.lt
 replace hgb := hgb.below bx hgb.lt
 replace hp8 := hp8.below bx hp8.lt
 replace hq2 := hq2.below bx hq2.lt
 replace hgj := hgj.below bx hgj.lt
 replace hq3 := hq3.below bx hq3.lt
 replace hp10 := hp10.below bx hp10.lt
 replace hW := hW.trans (bx.mono (Nat.le_trans hB0 hW.size))
 clear hgg
 clear bx
 refine ⟨_, rfl, hK.out _ _ ⟨hp3, hq1, hgb, hp8, hq2, hgj, hq3, hp10, hW⟩ (fun _ => ?_)⟩
 clear hK K
 simp only [ls0, ls1]
 refine wpAnyH_ready (by kernel_rfl) (by simp) (readyRun 9 27 65 (.string (bst (beB e 8))) w16 rfl rfl (by rfl) (exec_conv 27 9 (.tmp 64) rfl (.slice (some ⟨g64, 0, none⟩) 8 8) (.string (bst (beB e 8))) rfl (Reads.string (hg64.readsAll (Nat.lt_succ_self _) (beB_len _ _)) _ _ Tryd.underlying27 Tryd.underlying9)) ⟨hp3, hq1, hgb, hp8, hq2, hgj, hq3, hp10, hW⟩ (fun _ => ?_) (readyCons 9 30 68 rfl rfl (by rfl) (fun K hK => wp_callF 10 #[.int .u64 ((m : Nat) : Int)] (by go_simp) (rput64_toT m hm _) ?_) AllReadyH.nil))
 ·
  simp only [ls0, ls1]
  refine wpAnyH_ready (by kernel_rfl) (by simp) (readyCons 8 30 68 rfl rfl (by rfl) (fun K hK => wp_callF 10 #[.int .u64 ((m : Nat) : Int)] (by go_simp) (rput64_toT m hm _) ?_) AllReadyH.nil)
  rintro e w17 ⟨g68, rfl, hg68, hgg, bx⟩
  have lp3_g68 : p3 < g68 := Nat.lt_of_lt_of_le hp3.lt hgg
  have lq1_g68 : q1 < g68 := Nat.lt_of_lt_of_le hq1.lt hgg
  have lgb_g68 : gb < g68 := Nat.lt_of_lt_of_le hgb.lt hgg
  have lp8_g68 : p8 < g68 := Nat.lt_of_lt_of_le hp8.lt hgg
  have lq2_g68 : q2 < g68 := Nat.lt_of_lt_of_le hq2.lt hgg
  have lgj_g68 : gj < g68 := Nat.lt_of_lt_of_le hgj.lt hgg
  have lq3_g68 : q3 < g68 := Nat.lt_of_lt_of_le hq3.lt hgg
  have lp10_g68 : p10 < g68 := Nat.lt_of_lt_of_le hp10.lt hgg
  have lg64_g68 : g64 < g68 := Nat.lt_of_lt_of_le hg64.lt hgg
  have lw_g68 : B0 ≤ g68 := Nat.le_trans (Nat.le_trans hB0 hW.size) hgg
  replace hp3 := hp3.below bx hp3.lt
  replace hq1 := hq1.below bx hq1.lt
  replace hgb := hgb.below bx hgb.lt
  replace hp8 := hp8.below bx hp8.lt
  replace hq2 := hq2.below bx hq2.lt
  replace hgj := hgj.below bx hgj.lt
  replace hq3 := hq3.below bx hq3.lt
  replace hp10 := hp10.below bx hp10.lt
  replace hg64 := hg64.below bx hg64.lt
  replace hW := hW.trans (bx.mono (Nat.le_trans hB0 hW.size))
  clear hgg
  clear bx
  refine ⟨_, rfl, hK.out _ _ ⟨hp3, hq1, hgb, hp8, hq2, hgj, hq3, hp10, hW⟩ (fun _ => ?_)⟩
  clear hK K
  simp only [ls0, ls1]
  refine wpAnyH_ready (by kernel_rfl) (by simp) (readyRun 7 31 69 (.string (bst (beB m 8))) w17 rfl rfl (by rfl) (exec_conv 27 9 (.tmp 68) rfl (.slice (some ⟨g68, 0, none⟩) 8 8) (.string (bst (beB m 8))) rfl (Reads.string (hg68.readsAll (Nat.lt_succ_self _) (beB_len _ _)) _ _ Tryd.underlying27 Tryd.underlying9)) ⟨hp3, hq1, hgb, hp8, hq2, hgj, hq3, hp10, hW⟩ (fun _ => ?_) AllReadyH.nil)
  simp only [ls0, ls1]
  refine takeH 6 32 70 (.string (bst (q))) rfl rfl (by kernel_rfl) (by kernel_rfl) (by kernel_rfl) (fun _ _ _ h => h) (Or.inl ⟨by rfl, fun _ _ => by go_simp; rw [hstq.out, if_neg hszq.out]⟩) ⟨hp3, hq1, hgb, hp8, hq2, hgj, hq3, hp10, hW⟩ ?_
  simp only [ls0, ls1]
  refine takeH 5 33 71 (.bool true) rfl rfl (by kernel_rfl) (by kernel_rfl) (by kernel_rfl) (fun _ _ _ h => h) (Or.inl ⟨by rfl, fun w _ => by go_simp⟩) ⟨hp3, hq1, hgb, hp8, hq2, hgj, hq3, hp10, hW⟩ ?_
  simp only [ls0, ls1]
  refine takeH 4 34 72 (.bool true) rfl rfl (by kernel_rfl) (by kernel_rfl) (by kernel_rfl) (fun _ _ _ h => h) (Or.inl ⟨by rfl, fun w _ => by go_simp⟩) ⟨hp3, hq1, hgb, hp8, hq2, hgj, hq3, hp10, hW⟩ ?_
  simp only [ls0, ls1]
  refine takeH 3 35 73 (.bool true) rfl rfl (by kernel_rfl) (by kernel_rfl) (by kernel_rfl) (fun _ _ _ h => h) (Or.inl ⟨by rfl, fun w _ => by go_simp⟩) ⟨hp3, hq1, hgb, hp8, hq2, hgj, hq3, hp10, hW⟩ ?_
  simp only [ls0, ls1]
  refine wpAnyH_ready (by kernel_rfl) (by simp) (readyCons 2 36 74 rfl rfl (by rfl) (fun K hK => wp_callF 5 #[] (by go_simp) (live11_any _ (gl.out _ hW)) ?_) AllReadyH.nil)
  rintro e w18 ⟨rfl, bx⟩
  replace hp3 := hp3.below bx hp3.lt
  replace hq1 := hq1.below bx hq1.lt
  replace hgb := hgb.below bx hgb.lt
  replace hp8 := hp8.below bx hp8.lt
  replace hq2 := hq2.below bx hq2.lt
  replace hgj := hgj.below bx hgj.lt
  replace hq3 := hq3.below bx hq3.lt
  replace hp10 := hp10.below bx hp10.lt
  replace hg64 := hg64.below bx hg64.lt
  replace hg68 := hg68.below bx hg68.lt
  replace hW := hW.trans (bx.mono (Nat.le_trans hB0 hW.size))
  clear bx
  refine ⟨_, rfl, hK.out _ _ ⟨hp3, hq1, hgb, hp8, hq2, hgj, hq3, hp10, hW⟩ (fun _ => ?_)⟩
  clear hK K
  simp only [ls0, ls1]
  refine takeH 1 37 75 (.bool true) rfl rfl (by kernel_rfl) (by kernel_rfl) (by kernel_rfl) (fun _ _ _ h => h) (Or.inl ⟨by rfl, fun w _ => by go_simp⟩) ⟨hp3, hq1, hgb, hp8, hq2, hgj, hq3, hp10, hW⟩ ?_
  simp only [ls0, ls1]
  refine takeH 0 38 6 (.bool true) rfl rfl (by kernel_rfl) (by kernel_rfl) (by kernel_rfl) (fun _ _ _ h => h) (Or.inl ⟨by rfl, fun w _ => by go_simp⟩) ⟨hp3, hq1, hgb, hp8, hq2, hgj, hq3, hp10, hW⟩ ?_
  simp only [ls0, ls1]
  refine wpAnyH_done (by kernel_rfl) ?_ _
  go_wp2_with fail
  go_ret
  exact ⟨rfl, hW⟩
 ·
  rintro e w19 ⟨g68, rfl, hg68, hgg, bx⟩
  have lp3_g68 : p3 < g68 := Nat.lt_of_lt_of_le hp3.lt hgg
  have lq1_g68 : q1 < g68 := Nat.lt_of_lt_of_le hq1.lt hgg
  have lgb_g68 : gb < g68 := Nat.lt_of_lt_of_le hgb.lt hgg
  have lp8_g68 : p8 < g68 := Nat.lt_of_lt_of_le hp8.lt hgg
  have lq2_g68 : q2 < g68 := Nat.lt_of_lt_of_le hq2.lt hgg
  have lgj_g68 : gj < g68 := Nat.lt_of_lt_of_le hgj.lt hgg
  have lq3_g68 : q3 < g68 := Nat.lt_of_lt_of_le hq3.lt hgg
  have lp10_g68 : p10 < g68 := Nat.lt_of_lt_of_le hp10.lt hgg
  have lg64_g68 : g64 < g68 := Nat.lt_of_lt_of_le hg64.lt hgg
  have lw_g68 : B0 ≤ g68 := Nat.le_trans (Nat.le_trans hB0 hW.size) hgg
  replace hp3 := hp3.below bx hp3.lt
  replace hq1 := hq1.below bx hq1.lt
  replace hgb := hgb.below bx hgb.lt
  replace hp8 := hp8.below bx hp8.lt
  replace hq2 := hq2.below bx hq2.lt
  replace hgj := hgj.below bx hgj.lt
  replace hq3 := hq3.below bx hq3.lt
  replace hp10 := hp10.below bx hp10.lt
  replace hg64 := hg64.below bx hg64.lt
  replace hW := hW.trans (bx.mono (Nat.le_trans hB0 hW.size))
  clear hgg
  clear bx
  refine ⟨_, rfl, hK.out _ _ ⟨hp3, hq1, hgb, hp8, hq2, hgj, hq3, hp10, hW⟩ (fun _ => ?_)⟩
  clear hK K
  simp only [ls0, ls1]
  refine wpAnyH_ready (by kernel_rfl) (by simp) (readyRun 8 27 65 (.string (bst (beB e 8))) w19 rfl rfl (by rfl) (exec_conv 27 9 (.tmp 64) rfl (.slice (some ⟨g64, 0, none⟩) 8 8) (.string (bst (beB e 8))) rfl (Reads.string (hg64.readsAll (Nat.lt_succ_self _) (beB_len _ _)) _ _ Tryd.underlying27 Tryd.underlying9)) ⟨hp3, hq1, hgb, hp8, hq2, hgj, hq3, hp10, hW⟩ (fun _ => ?_) (readyRun 8 31 69 (.string (bst (beB m 8))) w19 rfl rfl (by rfl) (exec_conv 27 9 (.tmp 68) rfl (.slice (some ⟨g68, 0, none⟩) 8 8) (.string (bst (beB m 8))) rfl (Reads.string (hg68.readsAll (Nat.lt_succ_self _) (beB_len _ _)) _ _ Tryd.underlying27 Tryd.underlying9)) ⟨hp3, hq1, hgb, hp8, hq2, hgj, hq3, hp10, hW⟩ (fun _ => ?_) AllReadyH.nil))
  ·
   simp only [ls0, ls1]
   refine wpAnyH_ready (by kernel_rfl) (by simp) (readyRun 7 31 69 (.string (bst (beB m 8))) w19 rfl rfl (by rfl) (exec_conv 27 9 (.tmp 68) rfl (.slice (some ⟨g68, 0, none⟩) 8 8) (.string (bst (beB m 8))) rfl (Reads.string (hg68.readsAll (Nat.lt_succ_self _) (beB_len _ _)) _ _ Tryd.underlying27 Tryd.underlying9)) ⟨hp3, hq1, hgb, hp8, hq2, hgj, hq3, hp10, hW⟩ (fun _ => ?_) AllReadyH.nil)
   simp only [ls0, ls1]
   refine takeH 6 32 70 (.string (bst (q))) rfl rfl (by kernel_rfl) (by kernel_rfl) (by kernel_rfl) (fun _ _ _ h => h) (Or.inl ⟨by rfl, fun _ _ => by go_simp; rw [hstq.out, if_neg hszq.out]⟩) ⟨hp3, hq1, hgb, hp8, hq2, hgj, hq3, hp10, hW⟩ ?_
   simp only [ls0, ls1]
   refine takeH 5 33 71 (.bool true) rfl rfl (by kernel_rfl) (by kernel_rfl) (by kernel_rfl) (fun _ _ _ h => h) (Or.inl ⟨by rfl, fun w _ => by go_simp⟩) ⟨hp3, hq1, hgb, hp8, hq2, hgj, hq3, hp10, hW⟩ ?_
   simp only [ls0, ls1]
   refine takeH 4 34 72 (.bool true) rfl rfl (by kernel_rfl) (by kernel_rfl) (by kernel_rfl) (fun _ _ _ h => h) (Or.inl ⟨by rfl, fun w _ => by go_simp⟩) ⟨hp3, hq1, hgb, hp8, hq2, hgj, hq3, hp10, hW⟩ ?_
   simp only [ls0, ls1]
   refine takeH 3 35 73 (.bool true) rfl rfl (by kernel_rfl) (by kernel_rfl) (by kernel_rfl) (fun _ _ _ h => h) (Or.inl ⟨by rfl, fun w _ => by go_simp⟩) ⟨hp3, hq1, hgb, hp8, hq2, hgj, hq3, hp10, hW⟩ ?_
   simp only [ls0, ls1]
   refine wpAnyH_ready (by kernel_rfl) (by simp) (readyCons 2 36 74 rfl rfl (by rfl) (fun K hK => wp_callF 5 #[] (by go_simp) (live11_any _ (gl.out _ hW)) ?_) AllReadyH.nil)
   rintro e w20 ⟨rfl, bx⟩
   replace hp3 := hp3.below bx hp3.lt
   replace hq1 := hq1.below bx hq1.lt
   replace hgb := hgb.below bx hgb.lt
   replace hp8 := hp8.below bx hp8.lt
   replace hq2 := hq2.below bx hq2.lt
   replace hgj := hgj.below bx hgj.lt
   replace hq3 := hq3.below bx hq3.lt
   replace hp10 := hp10.below bx hp10.lt
   replace hg64 := hg64.below bx hg64.lt
   replace hg68 := hg68.below bx hg68.lt
   replace hW := hW.trans (bx.mono (Nat.le_trans hB0 hW.size))
   clear bx
   refine ⟨_, rfl, hK.out _ _ ⟨hp3, hq1, hgb, hp8, hq2, hgj, hq3, hp10, hW⟩ (fun _ => ?_)⟩
   clear hK K
   simp only [ls0, ls1]
   refine takeH 1 37 75 (.bool true) rfl rfl (by kernel_rfl) (by kernel_rfl) (by kernel_rfl) (fun _ _ _ h => h) (Or.inl ⟨by rfl, fun w _ => by go_simp⟩) ⟨hp3, hq1, hgb, hp8, hq2, hgj, hq3, hp10, hW⟩ ?_
   simp only [ls0, ls1]
   refine takeH 0 38 6 (.bool true) rfl rfl (by kernel_rfl) (by kernel_rfl) (by kernel_rfl) (fun _ _ _ h => h) (Or.inl ⟨by rfl, fun w _ => by go_simp⟩) ⟨hp3, hq1, hgb, hp8, hq2, hgj, hq3, hp10, hW⟩ ?_
   simp only [ls0, ls1]
   refine wpAnyH_done (by kernel_rfl) ?_ _
   go_wp2_with fail
   go_ret
   exact ⟨rfl, hW⟩
  ·
   simp only [ls0, ls1]
   refine wpAnyH_ready (by kernel_rfl) (by simp) (readyRun 7 27 65 (.string (bst (beB e 8))) w19 rfl rfl (by rfl) (exec_conv 27 9 (.tmp 64) rfl (.slice (some ⟨g64, 0, none⟩) 8 8) (.string (bst (beB e 8))) rfl (Reads.string (hg64.readsAll (Nat.lt_succ_self _) (beB_len _ _)) _ _ Tryd.underlying27 Tryd.underlying9)) ⟨hp3, hq1, hgb, hp8, hq2, hgj, hq3, hp10, hW⟩ (fun _ => ?_) AllReadyH.nil)
   simp only [ls0, ls1]
   refine takeH 6 32 70 (.string (bst (q))) rfl rfl (by kernel_rfl) (by kernel_rfl) (by kernel_rfl) (fun _ _ _ h => h) (Or.inl ⟨by rfl, fun _ _ => by go_simp; rw [hstq.out, if_neg hszq.out]⟩) ⟨hp3, hq1, hgb, hp8, hq2, hgj, hq3, hp10, hW⟩ ?_
   simp only [ls0, ls1]
   refine takeH 5 33 71 (.bool true) rfl rfl (by kernel_rfl) (by kernel_rfl) (by kernel_rfl) (fun _ _ _ h => h) (Or.inl ⟨by rfl, fun w _ => by go_simp⟩) ⟨hp3, hq1, hgb, hp8, hq2, hgj, hq3, hp10, hW⟩ ?_
   simp only [ls0, ls1]
   refine takeH 4 34 72 (.bool true) rfl rfl (by kernel_rfl) (by kernel_rfl) (by kernel_rfl) (fun _ _ _ h => h) (Or.inl ⟨by rfl, fun w _ => by go_simp⟩) ⟨hp3, hq1, hgb, hp8, hq2, hgj, hq3, hp10, hW⟩ ?_
   simp only [ls0, ls1]
   refine takeH 3 35 73 (.bool true) rfl rfl (by kernel_rfl) (by kernel_rfl) (by kernel_rfl) (fun _ _ _ h => h) (Or.inl ⟨by rfl, fun w _ => by go_simp⟩) ⟨hp3, hq1, hgb, hp8, hq2, hgj, hq3, hp10, hW⟩ ?_
   simp only [ls0, ls1]
   refine wpAnyH_ready (by kernel_rfl) (by simp) (readyCons 2 36 74 rfl rfl (by rfl) (fun K hK => wp_callF 5 #[] (by go_simp) (live11_any _ (gl.out _ hW)) ?_) AllReadyH.nil)
   rintro e w21 ⟨rfl, bx⟩
   replace hp3 := hp3.below bx hp3.lt
   replace hq1 := hq1.below bx hq1.lt
   replace hgb := hgb.below bx hgb.lt
   replace hp8 := hp8.below bx hp8.lt
   replace hq2 := hq2.below bx hq2.lt
   replace hgj := hgj.below bx hgj.lt
   replace hq3 := hq3.below bx hq3.lt
   replace hp10 := hp10.below bx hp10.lt
   replace hg64 := hg64.below bx hg64.lt
   replace hg68 := hg68.below bx hg68.lt
   replace hW := hW.trans (bx.mono (Nat.le_trans hB0 hW.size))
   clear bx
   refine ⟨_, rfl, hK.out _ _ ⟨hp3, hq1, hgb, hp8, hq2, hgj, hq3, hp10, hW⟩ (fun _ => ?_)⟩
   clear hK K
   simp only [ls0, ls1]
   refine takeH 1 37 75 (.bool true) rfl rfl (by kernel_rfl) (by kernel_rfl) (by kernel_rfl) (fun _ _ _ h => h) (Or.inl ⟨by rfl, fun w _ => by go_simp⟩) ⟨hp3, hq1, hgb, hp8, hq2, hgj, hq3, hp10, hW⟩ ?_
   simp only [ls0, ls1]
   refine takeH 0 38 6 (.bool true) rfl rfl (by kernel_rfl) (by kernel_rfl) (by kernel_rfl) (fun _ _ _ h => h) (Or.inl ⟨by rfl, fun w _ => by go_simp⟩) ⟨hp3, hq1, hgb, hp8, hq2, hgj, hq3, hp10, hW⟩ ?_
   simp only [ls0, ls1]
   refine wpAnyH_done (by kernel_rfl) ?_ _
   go_wp2_with fail
   go_ret
   exact ⟨rfl, hW⟩
end Go.Proofs.YtcdgcaljlmondaaDoor
