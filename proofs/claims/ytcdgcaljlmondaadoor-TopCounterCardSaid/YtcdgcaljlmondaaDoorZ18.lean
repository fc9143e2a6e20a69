/-
  The walk of caissontop.live11. (Printed by mktop4.py.)
-/
import Derived.Test.YtcdgcaljlmondaaDoorZ17
namespace Go.Proofs.YtcdgcaljlmondaaDoor
set_option maxRecDepth 16384
open Go.RowKit Sh
def k1T : List Nat := [1, 0, 0, 0, 0, 0, 0, 0, 0, 0, 0, 0, 0, 0, 0, 0, 0, 0, 0, 0, 0, 0, 0, 0, 0, 0, 0, 0, 0, 0, 0, 0]
theorem byt_k1T : Byt k1T := fun x hx => by
 have h : k1T.all (· < 256) = true := by decide
 rw [List.all_eq_true] at h; simpa using h x hx
def b1T : List Nat := [1, 0, 0, 0, 0, 0, 0, 0, 0, 0, 0, 0, 0, 0, 0, 0, 0, 0, 0, 0, 0, 0, 0, 0, 0, 0, 0, 0, 0, 0, 0, 2]
theorem byt_b1T : Byt b1T := fun x hx => by
 have h : b1T.all (· < 256) = true := by decide
 rw [List.all_eq_true] at h; simpa using h x hx
def abcT : List Nat := [97, 98, 99]
theorem bs_abcT (W : World) : (Instr.buildSlice 27 3 #[(0, .int .u8 97), (1, .int .u8 98), (2, .int .u8 99)]).run Tryd.prog W = .ok (.slice (some ⟨W.heap.size, 0, none⟩) 3 3) (W.alloc (.cells (va .u8 abcT) 5)) := by
 obtain ⟨ie, hie, h0, h1, h2⟩ := info_parts byte_info
 refine run_buildSlice W _ 5 3 _ (va .u8 abcT) ie _ Tryd.underlying27 hie h0 (by rw [h1]; decide) (by rw [h1]; decide) ?_
 rw [h1]; kernel_rfl
theorem byt_abcT : Byt abcT := fun x hx => by
 have h : abcT.all (· < 256) = true := by decide
 rw [List.all_eq_true] at h; simpa using h x hx
def dgT : List Nat := [186, 120, 22, 191, 143, 1, 207, 234, 65, 65, 64, 222, 93, 174, 34, 35, 176, 3, 97, 163, 150, 23, 122, 156, 180, 16, 255, 97, 242, 0, 21, 173]
theorem sha_abcT : sha abcT = dgT := by decide +kernel
theorem volume_toT (m e f : List Nat) (he : ve m = e) (hf : vm m = f) (hml : m.length = 32) (hmb : Byt m) (w : World) (hg : Glob w) :
  Calls Tryd.prog 18 #[.agg (va .u8 m)] w fun e' w' => e' = .returned (.agg (va .u8 (e ++ f))) ∧ Below w.heap.size w w' := by
 subst he; subst hf; exact volume_any m hml hmb w hg
theorem zeroAlT (w : World) : (zeroValue 58).run Tryd.prog w = .ok (.agg (alV none 0 0 0 0 0)) w := by kernel_rfl
theorem of_to (ms : List (List Nat)) (m t : List Nat) (hm : ms.flatten = m) (ht : sha m = t) (n c B : Nat) (A : Option Addr) (w : World) (hg : Glob w) (hp : Parts w B A n ms) (hn : n < 1000) (hB : B ≤ w.heap.size) (hlen : m.length < 1000000) :
  Calls Tryd.prog 6 #[.slice A n c] w fun e w' => e = .returned (.agg (va .u8 t)) ∧ Below w.heap.size w w' := by
 subst hm; subst ht; exact of_any ms n c B A w hg hp (by omega) hB (by omega)
theorem exec_idx0 {op : Oper} {a : Act} {w : World} (x : Operand) (y : Operand) (ho : op.op = .index 23 x y) (l : List Nat) (hl : l.length = 32) (hx : a.eval x = .agg (va .u8 l)) (hy : a.eval y = .int .i64 0) (v : Nat) (hv : l.getD 0 0 = v) : (execOp a.eval op).run Tryd.prog w = .ok (.value (.int .u8 (v : Int))) w := by
 subst hv
 obtain ⟨ie, hie, h0, h1, h2⟩ := info_parts byte_info
 have h := run_index_num (P := Tryd.prog) (kk := .i64) (k := .u8) (l := l) (i := 0) Tryd.underlying23 Tryd.underlying5 hie h1 hl (show 0 < 32 by decide) w
 unfold execOp
 simp only [ho, hx, hy, Sem.run_bind]
 have h' : (Instr.index 23 (.agg (va .u8 l)) (.int .i64 0)).run Tryd.prog w = .ok (.int .u8 ((l.getD 0 0 : Nat) : Int)) w := h
 simp only [h', Result.andThen_ok, Sem.run_pure]

set_option maxRecDepth 8000 in
set_option maxHeartbeats 4000000 in
theorem live11_any (w : World) (hg : Glob w) :
  Calls Tryd.prog 5 #[] w fun e w' => e = .returned (.bool true) ∧ Below w.heap.size w w' := by
 obtain ⟨B0, hB0e⟩ : ∃ b, w.heap.size = b := ⟨_, rfl⟩
 rw [hB0e]
 have hW : Below B0 w w := by rw [← hB0e]; exact Below.refl _ _
 have hB0 : B0 ≤ w.heap.size := by omega
 have gl := glob_of hg hB0e
 clear hg
 have hB0q := Lib.hid hB0e
 clear hB0e
 obtain ⟨ke, he⟩ : ∃ x, ve k1T = x := ⟨_, rfl⟩
 obtain ⟨km, hm_⟩ : ∃ x, vm k1T = x := ⟨_, rfl⟩
 obtain ⟨x, hx⟩ : ∃ x, kxor ke 1 0 0 b1T = x := ⟨_, rfl⟩
 obtain ⟨t, ht⟩ : ∃ y, hm km (msg 7 1 0 x) = y := ⟨_, rfl⟩
 have hel : ke.length = 16 := by rw [← he]; exact ve_len _
 have hml : km.length = 32 := by rw [← hm_]; exact vm_len _
 have heb : Byt ke := by rw [← he]; exact ex_byt _ _ _
 have hmb : Byt km := by rw [← hm_]; exact ex_byt _ _ _
 have hpl : b1T.length = 32 := rfl
 have hxl : x.length = 32 := by rw [← hx, kxor_len]; rfl
 have hxb : Byt x := by rw [← hx]; exact kxor_byt heb byt_b1T
 have htl : t.length = 32 := by rw [← ht]; exact hm_len _ _
 have htb : Byt t := by rw [← ht]; exact hm_byt _ _
 have hback : kxor ke 1 0 0 x = b1T := by rw [← hx, kxor_twice]
 have heq := Lib.hid he
 have hmq := Lib.hid hm_
 have hxq := Lib.hid hx
 have htq := Lib.hid ht
 have hbq := Lib.hid hback
 clear he hm_ hx ht hback hpl
 go_enter Tryd.func5, Tryd.ntmps5
 go_upto_region 0 with fail
 refine wl_lit ?_
 refine runL 0 (.bool false) rfl (by rfl) (by go_simp) ?_
 simp only [ls0]
 refine nilL ?_
 go_upto_region 1 with fail
 refine wl_lit ?_
 refine runL 28 (.agg (va .u8 (k1T))) rfl (by rfl) (exec_build 52 _ rfl (va .u8 (k1T)) (by kernel_rfl)) ?_
 simp only [ls0, ls1]
 refine callL 29 rfl (by rfl) (fun K hK => wp_callF 18 #[.agg (va .u8 (k1T))] (by go_simp) (volume_toT k1T ke km heq.out hmq.out rfl byt_k1T _ (gl.out _ hW)) ?_)
 rintro e w1 ⟨rfl, bx⟩
 replace hW := hW.trans (bx.mono (Nat.le_trans hB0 hW.size))
 clear bx
 refine ⟨_, rfl, hK.out _ _ ?_⟩
 clear hK K
 simp only [ls0, ls1]
 refine runWL 1 (.pointer (some ⟨w1.heap.size, 0, none⟩)) (w1.alloc (.cells (va .u8 (List.replicate 48 0)) 54)) rfl (by rfl) (exec_allocV 54 rfl _ (zv_derives_Keys _)) ?_
 simp only [ls0, ls1]
 have lw_p1 := Nat.le_trans hB0 hW.size
 have hp1 : Blk (w1.alloc (.cells (va .u8 (List.replicate 48 0)) 54)) w1.heap.size 54 (va .u8 (List.replicate 48 0)) := Blk.new _ _ _
 replace hW := hW.alloc (Nat.le_trans hB0 hW.size) (.cells (va .u8 (List.replicate 48 0)) 54)
 generalize w1.alloc (.cells (va .u8 (List.replicate 48 0)) 54) = w2 at *
 generalize w1.heap.size = p1 at hp1 lw_p1  ⊢
 refine runSL (w2.setRow p1 (va .u8 (ke ++ km))) rfl (by rfl) (exec_storeRow 54 (.tmp 1) (.tmp 29) rfl p1 rfl (va .u8 (ke ++ km)) rfl 54 (va .u8 (List.replicate 48 0)) hp1 (sz_eq (sz_derives_Keys _ (List.length_replicate)) (sz_derives_Keys _ ((by simp [hel, hml])))) (sz_derives_Keys _ ((by simp [hel, hml]))) (va_ones .u8 _)) ?_
 replace hp1 := hp1.row (va .u8 (ke ++ km))
 replace hW := below_setRow hW lw_p1 (va .u8 (ke ++ km))
 generalize w2.setRow p1 (va .u8 (ke ++ km)) = w3 at *
 refine nilL ?_
 go_upto_region 2 with fail
 refine wl_lit ?_
 refine callL 31 rfl (by rfl) (fun K hK => wp_callF 19 #[.int .i64 2, .int .u64 100, .int .u64 10] (by go_simp) (new_good_to 2 100 10 [0, 0] rfl (by decide) (by decide) (by decide) _) ?_)
 rintro e w4 ⟨gN, rfl, hgN, hgg, bx⟩
 have lp1_gN : p1 < gN := Nat.lt_of_lt_of_le hp1.lt hgg
 have lw_gN : B0 ≤ gN := Nat.le_trans (Nat.le_trans hB0 hW.size) hgg
 replace hp1 := hp1.below bx hp1.lt
 replace hW := hW.trans (bx.mono (Nat.le_trans hB0 hW.size))
 clear hgg
 clear bx
 refine ⟨_, rfl, hK.out _ _ ?_⟩
 clear hK K
 simp only [ls0, ls1]
 refine runL 30 (.tuple #[.agg (alV (some ⟨gN, 0, none⟩) 2 2 0 100 10), .int .i64 0]) rfl (by rfl) (by go_simp) ?_
 simp only [ls0, ls1]
 refine runL 32 (.agg (alV (some ⟨gN, 0, none⟩) 2 2 0 100 10)) rfl (by rfl) (by go_simp) ?_
 simp only [ls0, ls1]
 refine runL 33 (.int .i64 0) rfl (by rfl) (by go_simp) ?_
 simp only [ls0, ls1]
 refine runWL 2 (.pointer (some ⟨w4.heap.size, 0, none⟩)) (w4.alloc (.cells (alV none 0 0 0 0 0) 58)) rfl (by rfl) (exec_allocV 58 rfl _ (zeroAlT _)) ?_
 simp only [ls0, ls1]
 have lp1_p2 := hp1.lt
 have lgN_p2 := hgN.lt
 have lw_p2 := Nat.le_trans hB0 hW.size
 have hp2 : Blk (w4.alloc (.cells (alV none 0 0 0 0 0) 58)) w4.heap.size 58 (alV none 0 0 0 0 0) := Blk.new _ _ _
 replace hp1 := hp1.alloc (.cells (alV none 0 0 0 0 0) 58)
 replace hgN := hgN.alloc (.cells (alV none 0 0 0 0 0) 58)
 replace hW := hW.alloc (Nat.le_trans hB0 hW.size) (.cells (alV none 0 0 0 0 0) 58)
 generalize w4.alloc (.cells (alV none 0 0 0 0 0) 58) = w5 at *
 generalize w4.heap.size = p2 at hp2 lw_p2 lp1_p2 lgN_p2 ⊢
 refine runSL (w5.setRow p2 (alV (some ⟨gN, 0, none⟩) 2 2 0 100 10)) rfl (by rfl) (exec_storeRow 58 (.tmp 2) (.tmp 32) rfl p2 rfl (alV (some ⟨gN, 0, none⟩) 2 2 0 100 10) rfl 58 (alV none 0 0 0 0 0) hp2 (sz_eq (alV_info _ _ _ _ _ _) (alV_info _ _ _ _ _ _)) (alV_info _ _ _ _ _ _) (alV_one _ _ _ _ _ _)) ?_
 replace hp1 := hp1.rowFar (show p2 ≠ p1 from (by omega)) (alV (some ⟨gN, 0, none⟩) 2 2 0 100 10)
 replace hgN := hgN.rowFar (show p2 ≠ gN from (by omega)) (alV (some ⟨gN, 0, none⟩) 2 2 0 100 10)
 replace hp2 := hp2.row (alV (some ⟨gN, 0, none⟩) 2 2 0 100 10)
 replace hW := below_setRow hW lw_p2 (alV (some ⟨gN, 0, none⟩) 2 2 0 100 10)
 generalize w5.setRow p2 (alV (some ⟨gN, 0, none⟩) 2 2 0 100 10) = w6 at *
 refine runL 3 (.int .i64 0) rfl (by rfl) (by go_simp) ?_
 simp only [ls0, ls1]
 refine nilL ?_
 go_upto_region 3 with fail
 refine wl_lit ?_
 refine runL 35 (.agg (alV (some ⟨gN, 0, none⟩) 2 2 0 100 10)) rfl (by rfl) (exec_row 58 (.tmp 2) rfl p2 rfl 58 (alV (some ⟨gN, 0, none⟩) 2 2 0 100 10) _ hp2 (by exact Tryd.underlying58) rfl (alV_info _ _ _ _ _ _)) ?_
 simp only [ls0, ls1]
 refine callL 36 rfl (by rfl) (fun K hK => wp_callF 20 #[.agg (alV (some ⟨gN, 0, none⟩) 2 2 0 100 10)] (by go_simp) (extend_ok ⟨gN, 0, none⟩ 2 2 0 100 10 _ [0, 0] (by decide) (by decide) (by decide) (by decide) (by decide) (by decide) _ (hgN.readsAll (Nat.lt_succ_self _) rfl) hgN.lt) ?_)
 rintro e w7 ⟨gE, rfl, hgE, hgg, bx⟩
 have lp1_gE : p1 < gE := Nat.lt_of_lt_of_le hp1.lt hgg
 have lgN_gE : gN < gE := Nat.lt_of_lt_of_le hgN.lt hgg
 have lp2_gE : p2 < gE := Nat.lt_of_lt_of_le hp2.lt hgg
 have lw_gE : B0 ≤ gE := Nat.le_trans (Nat.le_trans hB0 hW.size) hgg
 replace hp1 := hp1.below bx hp1.lt
 replace hgN := hgN.below bx hgN.lt
 replace hp2 := hp2.below bx hp2.lt
 replace hW := hW.trans (bx.mono (Nat.le_trans hB0 hW.size))
 clear hgg
 clear bx
 refine ⟨_, rfl, hK.out _ _ ?_⟩
 clear hK K
 simp only [ls0, ls1]
 refine runL 34 (.tuple #[.agg (alV (some ⟨gE, 0, none⟩) 2 2 10 100 10), .int .i64 0]) rfl (by rfl) (by go_simp) ?_
 simp only [ls0, ls1]
 refine runL 37 (.agg (alV (some ⟨gE, 0, none⟩) 2 2 10 100 10)) rfl (by rfl) (by go_simp) ?_
 simp only [ls0, ls1]
 refine runL 38 (.int .i64 0) rfl (by rfl) (by go_simp) ?_
 simp only [ls0, ls1]
 refine runWL 4 (.pointer (some ⟨w7.heap.size, 0, none⟩)) (w7.alloc (.cells (alV none 0 0 0 0 0) 58)) rfl (by rfl) (exec_allocV 58 rfl _ (zeroAlT _)) ?_
 simp only [ls0, ls1]
 have lp1_p4 := hp1.lt
 have lgN_p4 := hgN.lt
 have lp2_p4 := hp2.lt
 have lgE_p4 := hgE.lt
 have lw_p4 := Nat.le_trans hB0 hW.size
 have hp4 : Blk (w7.alloc (.cells (alV none 0 0 0 0 0) 58)) w7.heap.size 58 (alV none 0 0 0 0 0) := Blk.new _ _ _
 replace hp1 := hp1.alloc (.cells (alV none 0 0 0 0 0) 58)
 replace hgN := hgN.alloc (.cells (alV none 0 0 0 0 0) 58)
 replace hp2 := hp2.alloc (.cells (alV none 0 0 0 0 0) 58)
 replace hgE := hgE.alloc (.cells (alV none 0 0 0 0 0) 58)
 replace hW := hW.alloc (Nat.le_trans hB0 hW.size) (.cells (alV none 0 0 0 0 0) 58)
 generalize w7.alloc (.cells (alV none 0 0 0 0 0) 58) = w8 at *
 generalize w7.heap.size = p4 at hp4 lw_p4 lp1_p4 lgN_p4 lp2_p4 lgE_p4 ⊢
 refine runSL (w8.setRow p4 (alV (some ⟨gE, 0, none⟩) 2 2 10 100 10)) rfl (by rfl) (exec_storeRow 58 (.tmp 4) (.tmp 37) rfl p4 rfl (alV (some ⟨gE, 0, none⟩) 2 2 10 100 10) rfl 58 (alV none 0 0 0 0 0) hp4 (sz_eq (alV_info _ _ _ _ _ _) (alV_info _ _ _ _ _ _)) (alV_info _ _ _ _ _ _) (alV_one _ _ _ _ _ _)) ?_
 replace hp1 := hp1.rowFar (show p4 ≠ p1 from (by omega)) (alV (some ⟨gE, 0, none⟩) 2 2 10 100 10)
 replace hgN := hgN.rowFar (show p4 ≠ gN from (by omega)) (alV (some ⟨gE, 0, none⟩) 2 2 10 100 10)
 replace hp2 := hp2.rowFar (show p4 ≠ p2 from (by omega)) (alV (some ⟨gE, 0, none⟩) 2 2 10 100 10)
 replace hgE := hgE.rowFar (show p4 ≠ gE from (by omega)) (alV (some ⟨gE, 0, none⟩) 2 2 10 100 10)
 replace hp4 := hp4.row (alV (some ⟨gE, 0, none⟩) 2 2 10 100 10)
 replace hW := below_setRow hW lw_p4 (alV (some ⟨gE, 0, none⟩) 2 2 10 100 10)
 generalize w8.setRow p4 (alV (some ⟨gE, 0, none⟩) 2 2 10 100 10) = w9 at *
 refine runL 5 (.int .i64 0) rfl (by rfl) (by go_simp) ?_
 simp only [ls0, ls1]
 refine nilL ?_
 go_upto_region 4 with fail
 refine wl_lit ?_
 refine runL 40 (.agg (alV (some ⟨gE, 0, none⟩) 2 2 10 100 10)) rfl (by rfl) (exec_row 58 (.tmp 4) rfl p4 rfl 58 (alV (some ⟨gE, 0, none⟩) 2 2 10 100 10) _ hp4 (by exact Tryd.underlying58) rfl (alV_info _ _ _ _ _ _)) ?_
 simp only [ls0, ls1]
 refine callL 41 rfl (by rfl) (fun K hK => wp_callF 21 #[.agg (alV (some ⟨gE, 0, none⟩) 2 2 10 100 10), .int .i64 1] (by go_simp) (take_to (some ⟨gE, 0, none⟩) 2 2 10 100 10 _ 0 [0, 0] [0, 1] 1 (by decide) (by decide) (by decide) rfl (by decide) (by decide) rfl _ (hgE.readsAll (Nat.lt_succ_self _) rfl) hgE.lt) ?_)
 rintro e w10 ⟨gT, rfl, hgT, hgg, bx⟩
 have lp1_gT : p1 < gT := Nat.lt_of_lt_of_le hp1.lt hgg
 have lgN_gT : gN < gT := Nat.lt_of_lt_of_le hgN.lt hgg
 have lp2_gT : p2 < gT := Nat.lt_of_lt_of_le hp2.lt hgg
 have lgE_gT : gE < gT := Nat.lt_of_lt_of_le hgE.lt hgg
 have lp4_gT : p4 < gT := Nat.lt_of_lt_of_le hp4.lt hgg
 have lw_gT : B0 ≤ gT := Nat.le_trans (Nat.le_trans hB0 hW.size) hgg
 replace hp1 := hp1.below bx hp1.lt
 replace hgN := hgN.below bx hgN.lt
 replace hp2 := hp2.below bx hp2.lt
 replace hgE := hgE.below bx hgE.lt
 replace hp4 := hp4.below bx hp4.lt
 replace hW := hW.trans (bx.mono (Nat.le_trans hB0 hW.size))
 clear hgg
 clear bx
 refine ⟨_, rfl, hK.out _ _ ?_⟩
 clear hK K
 simp only [ls0, ls1]
 refine runL 39 (.tuple #[.agg (noV 1 0), .agg (alV (some ⟨gT, 0, none⟩) 2 2 10 100 10), .int .i64 0]) rfl (by rfl) (by go_simp) ?_
 simp only [ls0, ls1]
 refine runL 42 (.agg (noV 1 0)) rfl (by rfl) (by go_simp) ?_
 simp only [ls0, ls1]
 refine runL 43 (.agg (alV (some ⟨gT, 0, none⟩) 2 2 10 100 10)) rfl (by rfl) (by go_simp) ?_
 simp only [ls0, ls1]
 refine runL 44 (.int .i64 0) rfl (by rfl) (by go_simp) ?_
 simp only [ls0, ls1]
 refine runWL 6 (.pointer (some ⟨w10.heap.size, 0, none⟩)) (w10.alloc (.cells (noV 0 0) 40)) rfl (by rfl) (exec_allocV 40 rfl _ (zv_Nonce _)) ?_
 simp only [ls0, ls1]
 have lp1_p6 := hp1.lt
 have lgN_p6 := hgN.lt
 have lp2_p6 := hp2.lt
 have lgE_p6 := hgE.lt
 have lp4_p6 := hp4.lt
 have lgT_p6 := hgT.lt
 have lw_p6 := Nat.le_trans hB0 hW.size
 have hp6 : Blk (w10.alloc (.cells (noV 0 0) 40)) w10.heap.size 40 (noV 0 0) := Blk.new _ _ _
 replace hp1 := hp1.alloc (.cells (noV 0 0) 40)
 replace hgN := hgN.alloc (.cells (noV 0 0) 40)
 replace hp2 := hp2.alloc (.cells (noV 0 0) 40)
 replace hgE := hgE.alloc (.cells (noV 0 0) 40)
 replace hp4 := hp4.alloc (.cells (noV 0 0) 40)
 replace hgT := hgT.alloc (.cells (noV 0 0) 40)
 replace hW := hW.alloc (Nat.le_trans hB0 hW.size) (.cells (noV 0 0) 40)
 generalize w10.alloc (.cells (noV 0 0) 40) = w11 at *
 generalize w10.heap.size = p6 at hp6 lw_p6 lp1_p6 lgN_p6 lp2_p6 lgE_p6 lp4_p6 lgT_p6 ⊢
 refine runWL 7 (.pointer (some ⟨w11.heap.size, 0, none⟩)) (w11.alloc (.cells (alV none 0 0 0 0 0) 58)) rfl (by rfl) (exec_allocV 58 rfl _ (zeroAlT _)) ?_
 simp only [ls0, ls1]
 have lp1_p7 := hp1.lt
 have lgN_p7 := hgN.lt
 have lp2_p7 := hp2.lt
 have lgE_p7 := hgE.lt
 have lp4_p7 := hp4.lt
 have lgT_p7 := hgT.lt
 have lp6_p7 := hp6.lt
 have lw_p7 := Nat.le_trans hB0 hW.size
 have hp7 : Blk (w11.alloc (.cells (alV none 0 0 0 0 0) 58)) w11.heap.size 58 (alV none 0 0 0 0 0) := Blk.new _ _ _
 replace hp1 := hp1.alloc (.cells (alV none 0 0 0 0 0) 58)
 replace hgN := hgN.alloc (.cells (alV none 0 0 0 0 0) 58)
 replace hp2 := hp2.alloc (.cells (alV none 0 0 0 0 0) 58)
 replace hgE := hgE.alloc (.cells (alV none 0 0 0 0 0) 58)
 replace hp4 := hp4.alloc (.cells (alV none 0 0 0 0 0) 58)
 replace hgT := hgT.alloc (.cells (alV none 0 0 0 0 0) 58)
 replace hp6 := hp6.alloc (.cells (alV none 0 0 0 0 0) 58)
 replace hW := hW.alloc (Nat.le_trans hB0 hW.size) (.cells (alV none 0 0 0 0 0) 58)
 generalize w11.alloc (.cells (alV none 0 0 0 0 0) 58) = w12 at *
 generalize w11.heap.size = p7 at hp7 lw_p7 lp1_p7 lgN_p7 lp2_p7 lgE_p7 lp4_p7 lgT_p7 lp6_p7 ⊢
 refine runSL (w12.setRow p6 (noV 1 0)) rfl (by rfl) (exec_storeRow 40 (.tmp 6) (.tmp 42) rfl p6 rfl (noV 1 0) rfl 40 (noV 0 0) hp6 (sz_eq (noV_sz _ _) (noV_sz _ _)) (noV_sz _ _) (noV_one _ _)) ?_
 replace hp1 := hp1.rowFar (show p6 ≠ p1 from (by omega)) (noV 1 0)
 replace hgN := hgN.rowFar (show p6 ≠ gN from (by omega)) (noV 1 0)
 replace hp2 := hp2.rowFar (show p6 ≠ p2 from (by omega)) (noV 1 0)
 replace hgE := hgE.rowFar (show p6 ≠ gE from (by omega)) (noV 1 0)
 replace hp4 := hp4.rowFar (show p6 ≠ p4 from (by omega)) (noV 1 0)
 replace hgT := hgT.rowFar (show p6 ≠ gT from (by omega)) (noV 1 0)
 replace hp7 := hp7.rowFar (show p6 ≠ p7 from (by omega)) (noV 1 0)
 replace hp6 := hp6.row (noV 1 0)
 replace hW := below_setRow hW lw_p6 (noV 1 0)
 generalize w12.setRow p6 (noV 1 0) = w13 at *
 refine runSL (w13.setRow p7 (alV (some ⟨gT, 0, none⟩) 2 2 10 100 10)) rfl (by rfl) (exec_storeRow 58 (.tmp 7) (.tmp 43) rfl p7 rfl (alV (some ⟨gT, 0, none⟩) 2 2 10 100 10) rfl 58 (alV none 0 0 0 0 0) hp7 (sz_eq (alV_info _ _ _ _ _ _) (alV_info _ _ _ _ _ _)) (alV_info _ _ _ _ _ _) (alV_one _ _ _ _ _ _)) ?_
 replace hp1 := hp1.rowFar (show p7 ≠ p1 from (by omega)) (alV (some ⟨gT, 0, none⟩) 2 2 10 100 10)
 replace hgN := hgN.rowFar (show p7 ≠ gN from (by omega)) (alV (some ⟨gT, 0, none⟩) 2 2 10 100 10)
 replace hp2 := hp2.rowFar (show p7 ≠ p2 from (by omega)) (alV (some ⟨gT, 0, none⟩) 2 2 10 100 10)
 replace hgE := hgE.rowFar (show p7 ≠ gE from (by omega)) (alV (some ⟨gT, 0, none⟩) 2 2 10 100 10)
 replace hp4 := hp4.rowFar (show p7 ≠ p4 from (by omega)) (alV (some ⟨gT, 0, none⟩) 2 2 10 100 10)
 replace hgT := hgT.rowFar (show p7 ≠ gT from (by omega)) (alV (some ⟨gT, 0, none⟩) 2 2 10 100 10)
 replace hp6 := hp6.rowFar (show p7 ≠ p6 from (by omega)) (alV (some ⟨gT, 0, none⟩) 2 2 10 100 10)
 replace hp7 := hp7.row (alV (some ⟨gT, 0, none⟩) 2 2 10 100 10)
 replace hW := below_setRow hW lw_p7 (alV (some ⟨gT, 0, none⟩) 2 2 10 100 10)
 generalize w13.setRow p7 (alV (some ⟨gT, 0, none⟩) 2 2 10 100 10) = w14 at *
 refine runL 8 (.int .i64 0) rfl (by rfl) (by go_simp) ?_
 simp only [ls0, ls1]
 refine nilL ?_
 go_upto_region 5 with fail
 refine wl_lit ?_
 refine runL 45 (.agg (va .u8 (b1T))) rfl (by rfl) (exec_build 64 _ rfl (va .u8 (b1T)) (by kernel_rfl)) ?_
 simp only [ls0, ls1]
 refine runWL 9 (.pointer (some ⟨w14.heap.size, 0, none⟩)) (w14.alloc (.cells (va .u8 (List.replicate 32 0)) 64)) rfl (by rfl) (exec_allocV 64 rfl _ (zv_api_Block _)) ?_
 simp only [ls0, ls1]
 have lp1_p9 := hp1.lt
 have lgN_p9 := hgN.lt
 have lp2_p9 := hp2.lt
 have lgE_p9 := hgE.lt
 have lp4_p9 := hp4.lt
 have lgT_p9 := hgT.lt
 have lp6_p9 := hp6.lt
 have lp7_p9 := hp7.lt
 have lw_p9 := Nat.le_trans hB0 hW.size
 have hp9 : Blk (w14.alloc (.cells (va .u8 (List.replicate 32 0)) 64)) w14.heap.size 64 (va .u8 (List.replicate 32 0)) := Blk.new _ _ _
 replace hp1 := hp1.alloc (.cells (va .u8 (List.replicate 32 0)) 64)
 replace hgN := hgN.alloc (.cells (va .u8 (List.replicate 32 0)) 64)
 replace hp2 := hp2.alloc (.cells (va .u8 (List.replicate 32 0)) 64)
 replace hgE := hgE.alloc (.cells (va .u8 (List.replicate 32 0)) 64)
 replace hp4 := hp4.alloc (.cells (va .u8 (List.replicate 32 0)) 64)
 replace hgT := hgT.alloc (.cells (va .u8 (List.replicate 32 0)) 64)
 replace hp6 := hp6.alloc (.cells (va .u8 (List.replicate 32 0)) 64)
 replace hp7 := hp7.alloc (.cells (va .u8 (List.replicate 32 0)) 64)
 replace hW := hW.alloc (Nat.le_trans hB0 hW.size) (.cells (va .u8 (List.replicate 32 0)) 64)
 generalize w14.alloc (.cells (va .u8 (List.replicate 32 0)) 64) = w15 at *
 generalize w14.heap.size = p9 at hp9 lw_p9 lp1_p9 lgN_p9 lp2_p9 lgE_p9 lp4_p9 lgT_p9 lp6_p9 lp7_p9 ⊢
 refine runSL (w15.setRow p9 (va .u8 (b1T))) rfl (by rfl) (exec_storeRow 64 (.tmp 9) (.tmp 45) rfl p9 rfl (va .u8 (b1T)) rfl 64 (va .u8 (List.replicate 32 0)) hp9 (sz_eq (sz_api_Block _ (List.length_replicate)) (sz_api_Block _ (rfl))) (sz_api_Block _ (rfl)) (va_ones .u8 _)) ?_
 replace hp1 := hp1.rowFar (show p9 ≠ p1 from (by omega)) (va .u8 (b1T))
 replace hgN := hgN.rowFar (show p9 ≠ gN from (by omega)) (va .u8 (b1T))
 replace hp2 := hp2.rowFar (show p9 ≠ p2 from (by omega)) (va .u8 (b1T))
 replace hgE := hgE.rowFar (show p9 ≠ gE from (by omega)) (va .u8 (b1T))
 replace hp4 := hp4.rowFar (show p9 ≠ p4 from (by omega)) (va .u8 (b1T))
 replace hgT := hgT.rowFar (show p9 ≠ gT from (by omega)) (va .u8 (b1T))
 replace hp6 := hp6.rowFar (show p9 ≠ p6 from (by omega)) (va .u8 (b1T))
 replace hp7 := hp7.rowFar (show p9 ≠ p7 from (by omega)) (va .u8 (b1T))
 replace hp9 := hp9.row (va .u8 (b1T))
 replace hW := below_setRow hW lw_p9 (va .u8 (b1T))
 generalize w15.setRow p9 (va .u8 (b1T)) = w16 at *
 refine nilL ?_
 go_upto_region 6 with fail
 refine wl_lit ?_
 refine runL 47 (.agg (va .u8 (ke ++ km))) rfl (by rfl) (exec_row 54 (.tmp 1) rfl p1 rfl 54 (va .u8 (ke ++ km)) _ hp1 (by exact Tryd.underlying54) rfl (sz_derives_Keys _ ((by simp [hel, hml])))) ?_
 simp only [ls0, ls1]
 refine runL 48 (.agg (noV 1 0)) rfl (by rfl) (exec_row 40 (.tmp 6) rfl p6 rfl 40 (noV 1 0) _ hp6 (by exact Tryd.underlying40) rfl (noV_sz _ _)) ?_
 simp only [ls0, ls1]
 refine runL 49 (.agg (va .u8 (b1T))) rfl (by rfl) (exec_row 64 (.tmp 9) rfl p9 rfl 64 (va .u8 (b1T)) _ hp9 (by exact Tryd.underlying64) rfl (sz_api_Block _ (rfl))) ?_
 simp only [ls0, ls1]
 refine callL 50 rfl (by rfl) (fun K hK => wp_callF 22 #[.agg (va .u8 (ke ++ km)), .int .i64 7, .agg (noV 1 0), .agg (va .u8 (b1T))] (by go_simp) (sseal_ok ke km hel hml heb hmb 7 1 0 b1T (by decide) (by decide) rfl byt_b1T x t hxq.out htq.out hxl hxb htl htb _ (gl.out _ hW)) ?_)
 rintro e w17 ⟨rfl, bx⟩
 replace hp1 := hp1.below bx hp1.lt
 replace hgN := hgN.below bx hgN.lt
 replace hp2 := hp2.below bx hp2.lt
 replace hgE := hgE.below bx hgE.lt
 replace hp4 := hp4.below bx hp4.lt
 replace hgT := hgT.below bx hgT.lt
 replace hp6 := hp6.below bx hp6.lt
 replace hp7 := hp7.below bx hp7.lt
 replace hp9 := hp9.below bx hp9.lt
 replace hW := hW.trans (bx.mono (Nat.le_trans hB0 hW.size))
 clear bx
 refine ⟨_, rfl, hK.out _ _ ?_⟩
 clear hK K
 simp only [ls0, ls1]
 refine runL 46 (.tuple #[.agg (va .u8 (x)), .agg (va .u8 (t)), .int .i64 0]) rfl (by rfl) (by go_simp) ?_
 simp only [ls0, ls1]
 refine runL 51 (.agg (va .u8 (x))) rfl (by rfl) (by go_simp) ?_
 simp only [ls0, ls1]
 refine runL 52 (.agg (va .u8 (t))) rfl (by rfl) (by go_simp) ?_
 simp only [ls0, ls1]
 refine runL 53 (.int .i64 0) rfl (by rfl) (by go_simp) ?_
 simp only [ls0, ls1]
 refine runWL 10 (.pointer (some ⟨w17.heap.size, 0, none⟩)) (w17.alloc (.cells (va .u8 (List.replicate 32 0)) 64)) rfl (by rfl) (exec_allocV 64 rfl _ (zv_api_Block _)) ?_
 simp only [ls0, ls1]
 have lp1_p10 := hp1.lt
 have lgN_p10 := hgN.lt
 have lp2_p10 := hp2.lt
 have lgE_p10 := hgE.lt
 have lp4_p10 := hp4.lt
 have lgT_p10 := hgT.lt
 have lp6_p10 := hp6.lt
 have lp7_p10 := hp7.lt
 have lp9_p10 := hp9.lt
 have lw_p10 := Nat.le_trans hB0 hW.size
 have hp10 : Blk (w17.alloc (.cells (va .u8 (List.replicate 32 0)) 64)) w17.heap.size 64 (va .u8 (List.replicate 32 0)) := Blk.new _ _ _
 replace hp1 := hp1.alloc (.cells (va .u8 (List.replicate 32 0)) 64)
 replace hgN := hgN.alloc (.cells (va .u8 (List.replicate 32 0)) 64)
 replace hp2 := hp2.alloc (.cells (va .u8 (List.replicate 32 0)) 64)
 replace hgE := hgE.alloc (.cells (va .u8 (List.replicate 32 0)) 64)
 replace hp4 := hp4.alloc (.cells (va .u8 (List.replicate 32 0)) 64)
 replace hgT := hgT.alloc (.cells (va .u8 (List.replicate 32 0)) 64)
 replace hp6 := hp6.alloc (.cells (va .u8 (List.replicate 32 0)) 64)
 replace hp7 := hp7.alloc (.cells (va .u8 (List.replicate 32 0)) 64)
 replace hp9 := hp9.alloc (.cells (va .u8 (List.replicate 32 0)) 64)
 replace hW := hW.alloc (Nat.le_trans hB0 hW.size) (.cells (va .u8 (List.replicate 32 0)) 64)
 generalize w17.alloc (.cells (va .u8 (List.replicate 32 0)) 64) = w18 at *
 generalize w17.heap.size = p10 at hp10 lw_p10 lp1_p10 lgN_p10 lp2_p10 lgE_p10 lp4_p10 lgT_p10 lp6_p10 lp7_p10 lp9_p10 ⊢
 refine runWL 11 (.pointer (some ⟨w18.heap.size, 0, none⟩)) (w18.alloc (.cells (va .u8 (List.replicate 32 0)) 23)) rfl (by rfl) (exec_allocV 23 rfl _ (zv_api_Digest _)) ?_
 simp only [ls0, ls1]
 have lp1_p11 := hp1.lt
 have lgN_p11 := hgN.lt
 have lp2_p11 := hp2.lt
 have lgE_p11 := hgE.lt
 have lp4_p11 := hp4.lt
 have lgT_p11 := hgT.lt
 have lp6_p11 := hp6.lt
 have lp7_p11 := hp7.lt
 have lp9_p11 := hp9.lt
 have lp10_p11 := hp10.lt
 have lw_p11 := Nat.le_trans hB0 hW.size
 have hp11 : Blk (w18.alloc (.cells (va .u8 (List.replicate 32 0)) 23)) w18.heap.size 23 (va .u8 (List.replicate 32 0)) := Blk.new _ _ _
 replace hp1 := hp1.alloc (.cells (va .u8 (List.replicate 32 0)) 23)
 replace hgN := hgN.alloc (.cells (va .u8 (List.replicate 32 0)) 23)
 replace hp2 := hp2.alloc (.cells (va .u8 (List.replicate 32 0)) 23)
 replace hgE := hgE.alloc (.cells (va .u8 (List.replicate 32 0)) 23)
 replace hp4 := hp4.alloc (.cells (va .u8 (List.replicate 32 0)) 23)
 replace hgT := hgT.alloc (.cells (va .u8 (List.replicate 32 0)) 23)
 replace hp6 := hp6.alloc (.cells (va .u8 (List.replicate 32 0)) 23)
 replace hp7 := hp7.alloc (.cells (va .u8 (List.replicate 32 0)) 23)
 replace hp9 := hp9.alloc (.cells (va .u8 (List.replicate 32 0)) 23)
 replace hp10 := hp10.alloc (.cells (va .u8 (List.replicate 32 0)) 23)
 replace hW := hW.alloc (Nat.le_trans hB0 hW.size) (.cells (va .u8 (List.replicate 32 0)) 23)
 generalize w18.alloc (.cells (va .u8 (List.replicate 32 0)) 23) = w19 at *
 generalize w18.heap.size = p11 at hp11 lw_p11 lp1_p11 lgN_p11 lp2_p11 lgE_p11 lp4_p11 lgT_p11 lp6_p11 lp7_p11 lp9_p11 lp10_p11 ⊢
 refine runSL (w19.setRow p10 (va .u8 (x))) rfl (by rfl) (exec_storeRow 64 (.tmp 10) (.tmp 51) rfl p10 rfl (va .u8 (x)) rfl 64 (va .u8 (List.replicate 32 0)) hp10 (sz_eq (sz_api_Block _ (List.length_replicate)) (sz_api_Block _ (hxl))) (sz_api_Block _ (hxl)) (va_ones .u8 _)) ?_
 replace hp1 := hp1.rowFar (show p10 ≠ p1 from (by omega)) (va .u8 (x))
 replace hgN := hgN.rowFar (show p10 ≠ gN from (by omega)) (va .u8 (x))
 replace hp2 := hp2.rowFar (show p10 ≠ p2 from (by omega)) (va .u8 (x))
 replace hgE := hgE.rowFar (show p10 ≠ gE from (by omega)) (va .u8 (x))
 replace hp4 := hp4.rowFar (show p10 ≠ p4 from (by omega)) (va .u8 (x))
 replace hgT := hgT.rowFar (show p10 ≠ gT from (by omega)) (va .u8 (x))
 replace hp6 := hp6.rowFar (show p10 ≠ p6 from (by omega)) (va .u8 (x))
 replace hp7 := hp7.rowFar (show p10 ≠ p7 from (by omega)) (va .u8 (x))
 replace hp9 := hp9.rowFar (show p10 ≠ p9 from (by omega)) (va .u8 (x))
 replace hp11 := hp11.rowFar (show p10 ≠ p11 from (by omega)) (va .u8 (x))
 replace hp10 := hp10.row (va .u8 (x))
 replace hW := below_setRow hW lw_p10 (va .u8 (x))
 generalize w19.setRow p10 (va .u8 (x)) = w20 at *
 refine runSL (w20.setRow p11 (va .u8 (t))) rfl (by rfl) (exec_storeRow 23 (.tmp 11) (.tmp 52) rfl p11 rfl (va .u8 (t)) rfl 23 (va .u8 (List.replicate 32 0)) hp11 (sz_eq (sz_api_Digest _ (List.length_replicate)) (sz_api_Digest _ (htl))) (sz_api_Digest _ (htl)) (va_ones .u8 _)) ?_
 replace hp1 := hp1.rowFar (show p11 ≠ p1 from (by omega)) (va .u8 (t))
 replace hgN := hgN.rowFar (show p11 ≠ gN from (by omega)) (va .u8 (t))
 replace hp2 := hp2.rowFar (show p11 ≠ p2 from (by omega)) (va .u8 (t))
 replace hgE := hgE.rowFar (show p11 ≠ gE from (by omega)) (va .u8 (t))
 replace hp4 := hp4.rowFar (show p11 ≠ p4 from (by omega)) (va .u8 (t))
 replace hgT := hgT.rowFar (show p11 ≠ gT from (by omega)) (va .u8 (t))
 replace hp6 := hp6.rowFar (show p11 ≠ p6 from (by omega)) (va .u8 (t))
 replace hp7 := hp7.rowFar (show p11 ≠ p7 from (by omega)) (va .u8 (t))
 replace hp9 := hp9.rowFar (show p11 ≠ p9 from (by omega)) (va .u8 (t))
 replace hp10 := hp10.rowFar (show p11 ≠ p10 from (by omega)) (va .u8 (t))
 replace hp11 := hp11.row (va .u8 (t))
 replace hW := below_setRow hW lw_p11 (va .u8 (t))
 generalize w20.setRow p11 (va .u8 (t)) = w21 at *
 refine runL 12 (.int .i64 0) rfl (by rfl) (by go_simp) ?_
 simp only [ls0, ls1]
 refine nilL ?_
 clear hgN
 clear hgE
 go_upto_region 7 with fail
 refine wl_lit ?_
 refine runL 54 (.int .i64 0) rfl (by rfl) (by go_simp) ?_
 simp only [ls0, ls1]
 refine runL 55 (.bool false) rfl (by rfl) (by go_simp) ?_
 simp only [ls0, ls1]
 refine runL 56 (.bool false) rfl (by rfl) (by go_simp) ?_
 simp only [ls0, ls1]
 refine runL 57 (.int .i64 0) rfl (by rfl) (by go_simp) ?_
 simp only [ls0, ls1]
 refine runL 58 (.bool false) rfl (by rfl) (by go_simp) ?_
 simp only [ls0, ls1]
 refine runL 59 (.bool false) rfl (by rfl) (by go_simp) ?_
 simp only [ls0, ls1]
 refine runL 60 (.bool false) rfl (by rfl) (by go_simp) ?_
 simp only [ls0, ls1]
 refine runL 61 (.int .i64 0) rfl (by rfl) (by go_simp) ?_
 simp only [ls0, ls1]
 refine runL 62 (.bool false) rfl (by rfl) (by go_simp) ?_
 simp only [ls0, ls1]
 refine runL 63 (.bool false) rfl (by rfl) (by go_simp) ?_
 simp only [ls0, ls1]
 refine runL 64 (.bool false) rfl (by rfl) (by go_simp) ?_
 simp only [ls0, ls1]
 refine runL 65 (.int .i64 0) rfl (by rfl) (by go_simp) ?_
 simp only [ls0, ls1]
 refine runL 66 (.bool false) rfl (by rfl) (by go_simp) ?_
 simp only [ls0, ls1]
 refine runL 67 (.bool false) rfl (by rfl) (by go_simp) ?_
 simp only [ls0, ls1]
 refine runL 68 (.bool false) rfl (by rfl) (by go_simp) ?_
 simp only [ls0, ls1]
 refine runL 69 (.agg (noV 1 0)) rfl (by rfl) (exec_row 40 (.tmp 6) rfl p6 rfl 40 (noV 1 0) _ hp6 (by exact Tryd.underlying40) rfl (noV_sz _ _)) ?_
 simp only [ls0, ls1]
 refine runL 70 (.agg (noV 1 0)) rfl (by rfl) (exec_build 40 _ rfl (noV 1 0) (by kernel_rfl)) ?_
 simp only [ls0, ls1]
 refine runL 71 (.bool false) rfl (by rfl) (exec_neV 40 (by kernel_rfl) (.tmp 69) (.tmp 70) _ rfl (noV 1 0) (noV 1 0) rfl rfl true false rfl (by rw [eqNoD]; simp)) ?_
 simp only [ls0, ls1]
 refine runL 72 (.bool false) rfl (by rfl) (by go_simp) ?_
 simp only [ls0, ls1]
 refine runL 73 (.bool false) rfl (by rfl) (by go_simp) ?_
 simp only [ls0, ls1]
 refine runL 74 (.pointer (some ⟨p7, 0, none⟩)) rfl (by rfl) (by go_simp) ?_
 simp only [ls0, ls1]
 refine runL 75 (.slice (some ⟨gT, 0, none⟩) 2 2) rfl (by rfl) (exec_cell 56 (.tmp 74) rfl p7 0 rfl (.slice (some ⟨gT, 0, none⟩) 2 2) _ Tryd.underlying56 rfl (alV_cells hp7).1) ?_
 simp only [ls0, ls1]
 refine runL 76 (.int .i64 2) rfl (by rfl) (by go_simp) ?_
 simp only [ls0, ls1]
 refine runL 77 (.bool false) rfl (by rfl) (by go_simp) ?_
 simp only [ls0, ls1]
 refine runL 78 (.bool false) rfl (by rfl) (by go_simp) ?_
 simp only [ls0, ls1]
 refine runL 79 (.bool false) rfl (by rfl) (by go_simp) ?_
 simp only [ls0, ls1]
 refine runL 80 (.pointer (some ⟨p7, 0, none⟩)) rfl (by rfl) (by go_simp) ?_
 simp only [ls0, ls1]
 refine runL 81 (.slice (some ⟨gT, 0, none⟩) 2 2) rfl (by rfl) (exec_cell 56 (.tmp 80) rfl p7 0 rfl (.slice (some ⟨gT, 0, none⟩) 2 2) _ Tryd.underlying56 rfl (alV_cells hp7).1) ?_
 simp only [ls0, ls1]
 refine runL 82 (.pointer (some ⟨gT, 1, none⟩)) rfl (by rfl) (by go_simp) ?_
 simp only [ls0, ls1]
 refine runL 83 (.int .u64 1) rfl (by rfl) (exec_cell 24 (.tmp 82) rfl gT 1 rfl (.int .u64 1) _ Tryd.underlying24 rfl (hgT.cellIs 1 rfl)) ?_
 simp only [ls0, ls1]
 refine runL 84 (.bool false) rfl (by rfl) (by go_simp) ?_
 simp only [ls0, ls1]
 refine runL 85 (.bool false) rfl (by rfl) (by go_simp) ?_
 simp only [ls0, ls1]
 refine nilL ?_
 go_upto_region 9 with fail
 refine wl_lit ?_
 refine runL 87 (.agg (noV 1 0)) rfl (by rfl) (exec_row 40 (.tmp 6) rfl p6 rfl 40 (noV 1 0) _ hp6 (by exact Tryd.underlying40) rfl (noV_sz _ _)) ?_
 simp only [ls0, ls1]
 refine runL 88 (.agg (va .u8 (t))) rfl (by rfl) (exec_row 23 (.tmp 11) rfl p11 rfl 23 (va .u8 (t)) _ hp11 (by exact Tryd.underlying23) rfl (sz_api_Digest _ (htl))) ?_
 simp only [ls0, ls1]
 refine runL 89 (.agg (recV 2 1 0 t)) rfl (by rfl) (exec_build 69 _ rfl (recV 2 1 0 t) (by exact built_rec 2 1 0 t htl)) ?_
 simp only [ls0, ls1]
 refine callL 90 rfl (by rfl) (fun K hK => wp_callF 23 #[.agg (recV 2 1 0 t)] (by go_simp) (prec_any 2 1 0 t (by decide) (by decide) (by decide) (by decide) htl htb _) ?_)
 rintro e w22 ⟨gB, rfl, hgB, hgg, bx⟩
 have lp1_gB : p1 < gB := Nat.lt_of_lt_of_le hp1.lt hgg
 have lp2_gB : p2 < gB := Nat.lt_of_lt_of_le hp2.lt hgg
 have lp4_gB : p4 < gB := Nat.lt_of_lt_of_le hp4.lt hgg
 have lgT_gB : gT < gB := Nat.lt_of_lt_of_le hgT.lt hgg
 have lp6_gB : p6 < gB := Nat.lt_of_lt_of_le hp6.lt hgg
 have lp7_gB : p7 < gB := Nat.lt_of_lt_of_le hp7.lt hgg
 have lp9_gB : p9 < gB := Nat.lt_of_lt_of_le hp9.lt hgg
 have lp10_gB : p10 < gB := Nat.lt_of_lt_of_le hp10.lt hgg
 have lp11_gB : p11 < gB := Nat.lt_of_lt_of_le hp11.lt hgg
 have lw_gB : B0 ≤ gB := Nat.le_trans (Nat.le_trans hB0 hW.size) hgg
 replace hp1 := hp1.below bx hp1.lt
 replace hp2 := hp2.below bx hp2.lt
 replace hp4 := hp4.below bx hp4.lt
 replace hgT := hgT.below bx hgT.lt
 replace hp6 := hp6.below bx hp6.lt
 replace hp7 := hp7.below bx hp7.lt
 replace hp9 := hp9.below bx hp9.lt
 replace hp10 := hp10.below bx hp10.lt
 replace hp11 := hp11.below bx hp11.lt
 replace hW := hW.trans (bx.mono (Nat.le_trans hB0 hW.size))
 clear hgg
 clear bx
 refine ⟨_, rfl, hK.out _ _ ?_⟩
 clear hK K
 simp only [ls0, ls1]
 refine runL 86 (.tuple #[.slice (some ⟨gB, 0, none⟩) 45 45, .int .i64 0]) rfl (by rfl) (by go_simp) ?_
 simp only [ls0, ls1]
 refine runL 91 (.slice (some ⟨gB, 0, none⟩) 45 45) rfl (by rfl) (by go_simp) ?_
 simp only [ls0, ls1]
 refine runL 92 (.int .i64 0) rfl (by rfl) (by go_simp) ?_
 simp only [ls0, ls1]
 refine runL 13 (.slice (some ⟨gB, 0, none⟩) 45 45) rfl (by rfl) (by go_simp) ?_
 simp only [ls0, ls1]
 refine runL 14 (.int .i64 0) rfl (by rfl) (by go_simp) ?_
 simp only [ls0, ls1]
 refine nilL ?_
 go_upto_region 10 with fail
 refine wl_lit ?_
 refine runL 94 (.slice (some ⟨gB, 0, none⟩) 45 45) rfl (by rfl) (by go_simp) ?_
 simp only [ls0, ls1]
 refine callL 95 rfl (by rfl) (fun K hK => wp_callF 24 #[.slice (some ⟨gB, 0, none⟩) 45 45] (by go_simp) (grec_any gB 2 1 0 t (by decide) (by decide) (by decide) (by decide) htl htb _ (hgB.readsAll (Nat.lt_succ_self _) (rb_len htl)) hgB.lt) ?_)
 rintro e w23 ⟨rfl, bx⟩
 replace hp1 := hp1.below bx hp1.lt
 replace hp2 := hp2.below bx hp2.lt
 replace hp4 := hp4.below bx hp4.lt
 replace hgT := hgT.below bx hgT.lt
 replace hp6 := hp6.below bx hp6.lt
 replace hp7 := hp7.below bx hp7.lt
 replace hp9 := hp9.below bx hp9.lt
 replace hp10 := hp10.below bx hp10.lt
 replace hp11 := hp11.below bx hp11.lt
 replace hgB := hgB.below bx hgB.lt
 replace hW := hW.trans (bx.mono (Nat.le_trans hB0 hW.size))
 clear bx
 refine ⟨_, rfl, hK.out _ _ ?_⟩
 clear hK K
 simp only [ls0, ls1]
 refine runL 93 (.tuple #[.agg (recV 2 1 0 t), .int .i64 0]) rfl (by rfl) (by go_simp) ?_
 simp only [ls0, ls1]
 refine runL 96 (.agg (recV 2 1 0 t)) rfl (by rfl) (by go_simp) ?_
 simp only [ls0, ls1]
 refine runL 97 (.int .i64 0) rfl (by rfl) (by go_simp) ?_
 simp only [ls0, ls1]
 refine runWL 15 (.pointer (some ⟨w23.heap.size, 0, none⟩)) (w23.alloc (.cells (recV 0 0 0 (List.replicate 32 0)) 69)) rfl (by rfl) (exec_allocV 69 rfl _ (zv_Record _)) ?_
 simp only [ls0, ls1]
 have lp1_p15 := hp1.lt
 have lp2_p15 := hp2.lt
 have lp4_p15 := hp4.lt
 have lgT_p15 := hgT.lt
 have lp6_p15 := hp6.lt
 have lp7_p15 := hp7.lt
 have lp9_p15 := hp9.lt
 have lp10_p15 := hp10.lt
 have lp11_p15 := hp11.lt
 have lgB_p15 := hgB.lt
 have lw_p15 := Nat.le_trans hB0 hW.size
 have hp15 : Blk (w23.alloc (.cells (recV 0 0 0 (List.replicate 32 0)) 69)) w23.heap.size 69 (recV 0 0 0 (List.replicate 32 0)) := Blk.new _ _ _
 replace hp1 := hp1.alloc (.cells (recV 0 0 0 (List.replicate 32 0)) 69)
 replace hp2 := hp2.alloc (.cells (recV 0 0 0 (List.replicate 32 0)) 69)
 replace hp4 := hp4.alloc (.cells (recV 0 0 0 (List.replicate 32 0)) 69)
 replace hgT := hgT.alloc (.cells (recV 0 0 0 (List.replicate 32 0)) 69)
 replace hp6 := hp6.alloc (.cells (recV 0 0 0 (List.replicate 32 0)) 69)
 replace hp7 := hp7.alloc (.cells (recV 0 0 0 (List.replicate 32 0)) 69)
 replace hp9 := hp9.alloc (.cells (recV 0 0 0 (List.replicate 32 0)) 69)
 replace hp10 := hp10.alloc (.cells (recV 0 0 0 (List.replicate 32 0)) 69)
 replace hp11 := hp11.alloc (.cells (recV 0 0 0 (List.replicate 32 0)) 69)
 replace hgB := hgB.alloc (.cells (recV 0 0 0 (List.replicate 32 0)) 69)
 replace hW := hW.alloc (Nat.le_trans hB0 hW.size) (.cells (recV 0 0 0 (List.replicate 32 0)) 69)
 generalize w23.alloc (.cells (recV 0 0 0 (List.replicate 32 0)) 69) = w24 at *
 generalize w23.heap.size = p15 at hp15 lw_p15 lp1_p15 lp2_p15 lp4_p15 lgT_p15 lp6_p15 lp7_p15 lp9_p15 lp10_p15 lp11_p15 lgB_p15 ⊢
 refine runSL (w24.setRow p15 (recV 2 1 0 t)) rfl (by rfl) (exec_storeRow 69 (.tmp 15) (.tmp 96) rfl p15 rfl (recV 2 1 0 t) rfl 69 (recV 0 0 0 (List.replicate 32 0)) hp15 (sz_eq (recV_sz _ _ _ _ List.length_replicate) (recV_sz _ _ _ _ htl)) (recV_sz _ _ _ _ htl) (recV_one _ _ _ _)) ?_
 replace hp1 := hp1.rowFar (show p15 ≠ p1 from (by omega)) (recV 2 1 0 t)
 replace hp2 := hp2.rowFar (show p15 ≠ p2 from (by omega)) (recV 2 1 0 t)
 replace hp4 := hp4.rowFar (show p15 ≠ p4 from (by omega)) (recV 2 1 0 t)
 replace hgT := hgT.rowFar (show p15 ≠ gT from (by omega)) (recV 2 1 0 t)
 replace hp6 := hp6.rowFar (show p15 ≠ p6 from (by omega)) (recV 2 1 0 t)
 replace hp7 := hp7.rowFar (show p15 ≠ p7 from (by omega)) (recV 2 1 0 t)
 replace hp9 := hp9.rowFar (show p15 ≠ p9 from (by omega)) (recV 2 1 0 t)
 replace hp10 := hp10.rowFar (show p15 ≠ p10 from (by omega)) (recV 2 1 0 t)
 replace hp11 := hp11.rowFar (show p15 ≠ p11 from (by omega)) (recV 2 1 0 t)
 replace hgB := hgB.rowFar (show p15 ≠ gB from (by omega)) (recV 2 1 0 t)
 replace hp15 := hp15.row (recV 2 1 0 t)
 replace hW := below_setRow hW lw_p15 (recV 2 1 0 t)
 generalize w24.setRow p15 (recV 2 1 0 t) = w25 at *
 refine runL 16 (.int .i64 0) rfl (by rfl) (by go_simp) ?_
 simp only [ls0, ls1]
 refine nilL ?_
 go_upto_region 11 with fail
 refine wl_lit ?_
 refine runL 99 (.agg (va .u8 (ke ++ km))) rfl (by rfl) (exec_row 54 (.tmp 1) rfl p1 rfl 54 (va .u8 (ke ++ km)) _ hp1 (by exact Tryd.underlying54) rfl (sz_derives_Keys _ ((by simp [hel, hml])))) ?_
 simp only [ls0, ls1]
 refine runL 100 (.pointer (some ⟨p15, 1, none⟩)) rfl (by rfl) (by go_simp) ?_
 simp only [ls0, ls1]
 refine runL 101 (.agg (noV 1 0)) rfl (by rfl) (exec_mid 40 (.tmp 100) rfl p15 1 rfl (noV 1 0).toList _ (recV_no hp15) (by exact Tryd.underlying40) rfl (by kernel_rfl)) ?_
 simp only [ls0, ls1]
 refine runL 102 (.agg (va .u8 (x))) rfl (by rfl) (exec_row 64 (.tmp 10) rfl p10 rfl 64 (va .u8 (x)) _ hp10 (by exact Tryd.underlying64) rfl (sz_api_Block _ (hxl))) ?_
 simp only [ls0, ls1]
 refine runL 103 (.pointer (some ⟨p15, 3, none⟩)) rfl (by rfl) (by go_simp) ?_
 simp only [ls0, ls1]
 refine runL 104 (.agg (va .u8 (t))) rfl (by rfl) (exec_mid 23 (.tmp 103) rfl p15 3 rfl (nv .u8 t) _ (recV_tag hp15 htl) (by exact Tryd.underlying23) rfl (szDg _ htl)) ?_
 simp only [ls0, ls1]
 refine callL 105 rfl (by rfl) (fun K hK => wp_callF 25 #[.agg (va .u8 (ke ++ km)), .int .i64 7, .agg (noV 1 0), .agg (va .u8 (x)), .agg (va .u8 (t))] (by go_simp) (sopen_ok ke km hel hml heb hmb 7 1 0 x (by decide) (by decide) hxl hxb t htl htb htq.out b1T hbq.out rfl byt_b1T _ (gl.out _ hW)) ?_)
 rintro e w26 ⟨rfl, bx⟩
 replace hp1 := hp1.below bx hp1.lt
 replace hp2 := hp2.below bx hp2.lt
 replace hp4 := hp4.below bx hp4.lt
 replace hgT := hgT.below bx hgT.lt
 replace hp6 := hp6.below bx hp6.lt
 replace hp7 := hp7.below bx hp7.lt
 replace hp9 := hp9.below bx hp9.lt
 replace hp10 := hp10.below bx hp10.lt
 replace hp11 := hp11.below bx hp11.lt
 replace hgB := hgB.below bx hgB.lt
 replace hp15 := hp15.below bx hp15.lt
 replace hW := hW.trans (bx.mono (Nat.le_trans hB0 hW.size))
 clear bx
 refine ⟨_, rfl, hK.out _ _ ?_⟩
 clear hK K
 simp only [ls0, ls1]
 refine runL 98 (.tuple #[.agg (va .u8 (b1T)), .int .i64 0]) rfl (by rfl) (by go_simp) ?_
 simp only [ls0, ls1]
 refine runL 106 (.agg (va .u8 (b1T))) rfl (by rfl) (by go_simp) ?_
 simp only [ls0, ls1]
 refine runL 107 (.int .i64 0) rfl (by rfl) (by go_simp) ?_
 simp only [ls0, ls1]
 refine runWL 17 (.pointer (some ⟨w26.heap.size, 0, none⟩)) (w26.alloc (.cells (va .u8 (List.replicate 32 0)) 64)) rfl (by rfl) (exec_allocV 64 rfl _ (zv_api_Block _)) ?_
 simp only [ls0, ls1]
 have lp1_p17 := hp1.lt
 have lp2_p17 := hp2.lt
 have lp4_p17 := hp4.lt
 have lgT_p17 := hgT.lt
 have lp6_p17 := hp6.lt
 have lp7_p17 := hp7.lt
 have lp9_p17 := hp9.lt
 have lp10_p17 := hp10.lt
 have lp11_p17 := hp11.lt
 have lgB_p17 := hgB.lt
 have lp15_p17 := hp15.lt
 have lw_p17 := Nat.le_trans hB0 hW.size
 have hp17 : Blk (w26.alloc (.cells (va .u8 (List.replicate 32 0)) 64)) w26.heap.size 64 (va .u8 (List.replicate 32 0)) := Blk.new _ _ _
 replace hp1 := hp1.alloc (.cells (va .u8 (List.replicate 32 0)) 64)
 replace hp2 := hp2.alloc (.cells (va .u8 (List.replicate 32 0)) 64)
 replace hp4 := hp4.alloc (.cells (va .u8 (List.replicate 32 0)) 64)
 replace hgT := hgT.alloc (.cells (va .u8 (List.replicate 32 0)) 64)
 replace hp6 := hp6.alloc (.cells (va .u8 (List.replicate 32 0)) 64)
 replace hp7 := hp7.alloc (.cells (va .u8 (List.replicate 32 0)) 64)
 replace hp9 := hp9.alloc (.cells (va .u8 (List.replicate 32 0)) 64)
 replace hp10 := hp10.alloc (.cells (va .u8 (List.replicate 32 0)) 64)
 replace hp11 := hp11.alloc (.cells (va .u8 (List.replicate 32 0)) 64)
 replace hgB := hgB.alloc (.cells (va .u8 (List.replicate 32 0)) 64)
 replace hp15 := hp15.alloc (.cells (va .u8 (List.replicate 32 0)) 64)
 replace hW := hW.alloc (Nat.le_trans hB0 hW.size) (.cells (va .u8 (List.replicate 32 0)) 64)
 generalize w26.alloc (.cells (va .u8 (List.replicate 32 0)) 64) = w27 at *
 generalize w26.heap.size = p17 at hp17 lw_p17 lp1_p17 lp2_p17 lp4_p17 lgT_p17 lp6_p17 lp7_p17 lp9_p17 lp10_p17 lp11_p17 lgB_p17 lp15_p17 ⊢
 refine runSL (w27.setRow p17 (va .u8 (b1T))) rfl (by rfl) (exec_storeRow 64 (.tmp 17) (.tmp 106) rfl p17 rfl (va .u8 (b1T)) rfl 64 (va .u8 (List.replicate 32 0)) hp17 (sz_eq (sz_api_Block _ (List.length_replicate)) (sz_api_Block _ (rfl))) (sz_api_Block _ (rfl)) (va_ones .u8 _)) ?_
 replace hp1 := hp1.rowFar (show p17 ≠ p1 from (by omega)) (va .u8 (b1T))
 replace hp2 := hp2.rowFar (show p17 ≠ p2 from (by omega)) (va .u8 (b1T))
 replace hp4 := hp4.rowFar (show p17 ≠ p4 from (by omega)) (va .u8 (b1T))
 replace hgT := hgT.rowFar (show p17 ≠ gT from (by omega)) (va .u8 (b1T))
 replace hp6 := hp6.rowFar (show p17 ≠ p6 from (by omega)) (va .u8 (b1T))
 replace hp7 := hp7.rowFar (show p17 ≠ p7 from (by omega)) (va .u8 (b1T))
 replace hp9 := hp9.rowFar (show p17 ≠ p9 from (by omega)) (va .u8 (b1T))
 replace hp10 := hp10.rowFar (show p17 ≠ p10 from (by omega)) (va .u8 (b1T))
 replace hp11 := hp11.rowFar (show p17 ≠ p11 from (by omega)) (va .u8 (b1T))
 replace hgB := hgB.rowFar (show p17 ≠ gB from (by omega)) (va .u8 (b1T))
 replace hp15 := hp15.rowFar (show p17 ≠ p15 from (by omega)) (va .u8 (b1T))
 replace hp17 := hp17.row (va .u8 (b1T))
 replace hW := below_setRow hW lw_p17 (va .u8 (b1T))
 generalize w27.setRow p17 (va .u8 (b1T)) = w28 at *
 refine runL 18 (.int .i64 0) rfl (by rfl) (by go_simp) ?_
 simp only [ls0, ls1]
 refine nilL ?_
 go_upto_region 12 with fail
 refine wl_lit ?_
 refine runL 108 (.int .i64 0) rfl (by rfl) (by go_simp) ?_
 simp only [ls0, ls1]
 refine runL 109 (.bool false) rfl (by rfl) (by go_simp) ?_
 simp only [ls0, ls1]
 refine runL 110 (.bool false) rfl (by rfl) (by go_simp) ?_
 simp only [ls0, ls1]
 refine runL 111 (.int .i64 0) rfl (by rfl) (by go_simp) ?_
 simp only [ls0, ls1]
 refine runL 112 (.bool false) rfl (by rfl) (by go_simp) ?_
 simp only [ls0, ls1]
 refine runL 113 (.bool false) rfl (by rfl) (by go_simp) ?_
 simp only [ls0, ls1]
 refine runL 114 (.bool false) rfl (by rfl) (by go_simp) ?_
 simp only [ls0, ls1]
 refine runL 115 (.int .i64 0) rfl (by rfl) (by go_simp) ?_
 simp only [ls0, ls1]
 refine runL 116 (.bool false) rfl (by rfl) (by go_simp) ?_
 simp only [ls0, ls1]
 refine runL 117 (.bool false) rfl (by rfl) (by go_simp) ?_
 simp only [ls0, ls1]
 refine runL 118 (.bool false) rfl (by rfl) (by go_simp) ?_
 simp only [ls0, ls1]
 refine runL 119 (.agg (va .u8 (b1T))) rfl (by rfl) (exec_row 64 (.tmp 17) rfl p17 rfl 64 (va .u8 (b1T)) _ hp17 (by exact Tryd.underlying64) rfl (sz_api_Block _ (rfl))) ?_
 simp only [ls0, ls1]
 refine runL 120 (.agg (va .u8 (b1T))) rfl (by rfl) (exec_row 64 (.tmp 9) rfl p9 rfl 64 (va .u8 (b1T)) _ hp9 (by exact Tryd.underlying64) rfl (sz_api_Block _ (rfl))) ?_
 simp only [ls0, ls1]
 refine runL 121 (.bool false) rfl (by rfl) (exec_neB 64 32 (by kernel_rfl) (by kernel_rfl) (.tmp 119) (.tmp 120) _ rfl (b1T) (b1T) (rfl) (rfl) rfl rfl false (by simp)) ?_
 simp only [ls0, ls1]
 refine runL 122 (.bool false) rfl (by rfl) (by go_simp) ?_
 simp only [ls0, ls1]
 refine runL 123 (.bool false) rfl (by rfl) (by go_simp) ?_
 simp only [ls0, ls1]
 refine runL 124 (.slice (some ⟨gB, 0, none⟩) 45 45) rfl (by rfl) (by go_simp) ?_
 simp only [ls0, ls1]
 refine runL 125 (.int .i64 45) rfl (by rfl) (by go_simp) ?_
 simp only [ls0, ls1]
 refine runL 126 (.bool false) rfl (by rfl) (by go_simp) ?_
 simp only [ls0, ls1]
 refine runL 127 (.bool false) rfl (by rfl) (by go_simp) ?_
 simp only [ls0, ls1]
 refine nilL ?_
 clear hp2
 clear hp4
 clear hgT
 clear hp7
 clear hp9
 clear hp10
 clear hp11
 clear hgB
 clear hp15
 clear hp17
 go_upto_region 14 with fail
 refine wl_lit ?_
 refine runL 129 (.agg (noV 1 0)) rfl (by rfl) (exec_row 40 (.tmp 6) rfl p6 rfl 40 (noV 1 0) _ hp6 (by exact Tryd.underlying40) rfl (noV_sz _ _)) ?_
 simp only [ls0, ls1]
 refine callL 130 rfl (by rfl) (fun K hK => wp_callF 26 #[.agg (noV 1 0), .int .i64 0, .int .i64 32] (by go_simp) (used_ok 1 0 0 32 0 1 (by decide) (by decide) (by decide) (by decide) _) ?_)
 rintro e w29 ⟨rfl, bx⟩
 replace hp1 := hp1.below bx hp1.lt
 replace hp6 := hp6.below bx hp6.lt
 replace hW := hW.trans (bx.mono (Nat.le_trans hB0 hW.size))
 clear bx
 refine ⟨_, rfl, hK.out _ _ ?_⟩
 clear hK K
 simp only [ls0, ls1]
 refine runL 128 (.tuple #[.agg (rgV 1 0 0 1), .int .i64 0]) rfl (by rfl) (by go_simp) ?_
 simp only [ls0, ls1]
 refine runL 131 (.agg (rgV 1 0 0 1)) rfl (by rfl) (by go_simp) ?_
 simp only [ls0, ls1]
 refine runL 132 (.int .i64 0) rfl (by rfl) (by go_simp) ?_
 simp only [ls0, ls1]
 refine runWL 19 (.pointer (some ⟨w29.heap.size, 0, none⟩)) (w29.alloc (.cells (rgV 0 0 0 0) 75)) rfl (by rfl) (exec_allocV 75 rfl _ (zv_Range _)) ?_
 simp only [ls0, ls1]
 have lp1_p19 := hp1.lt
 have lp6_p19 := hp6.lt
 have lw_p19 := Nat.le_trans hB0 hW.size
 have hp19 : Blk (w29.alloc (.cells (rgV 0 0 0 0) 75)) w29.heap.size 75 (rgV 0 0 0 0) := Blk.new _ _ _
 replace hp1 := hp1.alloc (.cells (rgV 0 0 0 0) 75)
 replace hp6 := hp6.alloc (.cells (rgV 0 0 0 0) 75)
 replace hW := hW.alloc (Nat.le_trans hB0 hW.size) (.cells (rgV 0 0 0 0) 75)
 generalize w29.alloc (.cells (rgV 0 0 0 0) 75) = w30 at *
 generalize w29.heap.size = p19 at hp19 lw_p19 lp1_p19 lp6_p19 ⊢
 refine runSL (w30.setRow p19 (rgV 1 0 0 1)) rfl (by rfl) (exec_storeRow 75 (.tmp 19) (.tmp 131) rfl p19 rfl (rgV 1 0 0 1) rfl 75 (rgV 0 0 0 0) hp19 (sz_eq (rgV_sz _ _ _ _) (rgV_sz _ _ _ _)) (rgV_sz _ _ _ _) (rgV_one _ _ _ _)) ?_
 replace hp1 := hp1.rowFar (show p19 ≠ p1 from (by omega)) (rgV 1 0 0 1)
 replace hp6 := hp6.rowFar (show p19 ≠ p6 from (by omega)) (rgV 1 0 0 1)
 replace hp19 := hp19.row (rgV 1 0 0 1)
 replace hW := below_setRow hW lw_p19 (rgV 1 0 0 1)
 generalize w30.setRow p19 (rgV 1 0 0 1) = w31 at *
 refine runL 20 (.int .i64 0) rfl (by rfl) (by go_simp) ?_
 simp only [ls0, ls1]
 refine nilL ?_
 go_upto_region 15 with fail
 refine wl_lit ?_
 refine runL 134 (.agg (#[.slice none 0 0])) rfl (by rfl) (exec_build 80 _ rfl (#[.slice none 0 0]) (by kernel_rfl)) ?_
 simp only [ls0, ls1]
 refine runL 135 (.pointer (some ⟨p1, 0, none⟩)) rfl (by rfl) (by go_simp) ?_
 simp only [ls0, ls1]
 refine runL 136 (.agg (va .u8 (ke))) rfl (by rfl) (exec_mid 37 (.tmp 135) rfl p1 0 rfl (nv .u8 ke) _ (hp1.left) Tryd.underlying37 rfl (sz16D _ hel)) ?_
 simp only [ls0, ls1]
 refine runL 137 (.agg (rgV 1 0 0 1)) rfl (by rfl) (exec_row 75 (.tmp 19) rfl p19 rfl 75 (rgV 1 0 0 1) _ hp19 (by exact Tryd.underlying75) rfl (rgV_sz _ _ _ _)) ?_
 simp only [ls0, ls1]
 refine runL 138 (.agg (useV ke 1 0 0 1)) rfl (by rfl) (exec_build 84 _ rfl (useV ke 1 0 0 1) (by exact built_use ke 1 0 0 1 hel)) ?_
 simp only [ls0, ls1]
 refine callL 139 rfl (by rfl) (fun K hK => wp_callF 27 #[.agg (#[.slice none 0 0]), .agg (useV ke 1 0 0 1)] (by go_simp) (ladd_any ke 1 0 0 1 hel heb (by decide) none 0 0 _ (by decide) 1 rfl _ Reads.none_ (Nat.zero_le _)) ?_)
 rintro e w32 ⟨gA, rfl, ⟨cgA, hugA⟩, bx⟩
 replace hugA := hugA.mono (Nat.le_trans hB0 hW.size)
 replace hp1 := hp1.below bx hp1.lt
 replace hp6 := hp6.below bx hp6.lt
 replace hp19 := hp19.below bx hp19.lt
 replace hW := hW.trans (bx.mono (Nat.le_trans hB0 hW.size))
 clear bx
 refine ⟨_, rfl, hK.out _ _ ?_⟩
 clear hK K
 simp only [ls0, ls1]
 refine runL 133 (.tuple #[.agg (#[.slice (some ⟨gA, 0, none⟩) 1 1]), .int .i64 0]) rfl (by rfl) (by go_simp) ?_
 simp only [ls0, ls1]
 refine runL 140 (.agg (#[.slice (some ⟨gA, 0, none⟩) 1 1])) rfl (by rfl) (by go_simp) ?_
 simp only [ls0, ls1]
 refine runL 141 (.int .i64 0) rfl (by rfl) (by go_simp) ?_
 simp only [ls0, ls1]
 refine runWL 21 (.pointer (some ⟨w32.heap.size, 0, none⟩)) (w32.alloc (.cells (#[.slice none 0 0]) 80)) rfl (by rfl) (exec_allocV 80 rfl _ (zv_Ledger _)) ?_
 simp only [ls0, ls1]
 have lp1_p21 := hp1.lt
 have lp6_p21 := hp6.lt
 have lp19_p21 := hp19.lt
 have nugA_p21 := hugA.new_off
 have lw_p21 := Nat.le_trans hB0 hW.size
 have hp21 : Blk (w32.alloc (.cells (#[.slice none 0 0]) 80)) w32.heap.size 80 (#[.slice none 0 0]) := Blk.new _ _ _
 replace hp1 := hp1.alloc (.cells (#[.slice none 0 0]) 80)
 replace hp6 := hp6.alloc (.cells (#[.slice none 0 0]) 80)
 replace hp19 := hp19.alloc (.cells (#[.slice none 0 0]) 80)
 replace hugA := hugA.alloc (.cells (#[.slice none 0 0]) 80)
 replace hW := hW.alloc (Nat.le_trans hB0 hW.size) (.cells (#[.slice none 0 0]) 80)
 generalize w32.alloc (.cells (#[.slice none 0 0]) 80) = w33 at *
 generalize w32.heap.size = p21 at hp21 lw_p21 lp1_p21 lp6_p21 lp19_p21 nugA_p21 ⊢
 refine runSL (w33.setRow p21 (#[.slice (some ⟨gA, 0, none⟩) 1 1])) rfl (by rfl) (exec_storeRow 80 (.tmp 21) (.tmp 140) rfl p21 rfl (#[.slice (some ⟨gA, 0, none⟩) 1 1]) rfl 80 (#[.slice none 0 0]) hp21 (sz_eq (led_sz _) (led_sz _)) (led_sz _) (by simp [Value.oneCell'])) ?_
 replace hp1 := hp1.rowFar (show p21 ≠ p1 from (by omega)) (#[.slice (some ⟨gA, 0, none⟩) 1 1])
 replace hp6 := hp6.rowFar (show p21 ≠ p6 from (by omega)) (#[.slice (some ⟨gA, 0, none⟩) 1 1])
 replace hp19 := hp19.rowFar (show p21 ≠ p19 from (by omega)) (#[.slice (some ⟨gA, 0, none⟩) 1 1])
 replace hugA := hugA.rowFar nugA_p21 (#[.slice (some ⟨gA, 0, none⟩) 1 1])
 replace hp21 := hp21.row (#[.slice (some ⟨gA, 0, none⟩) 1 1])
 replace hW := below_setRow hW lw_p21 (#[.slice (some ⟨gA, 0, none⟩) 1 1])
 generalize w33.setRow p21 (#[.slice (some ⟨gA, 0, none⟩) 1 1]) = w34 at *
 refine runL 22 (.int .i64 0) rfl (by rfl) (by go_simp) ?_
 simp only [ls0, ls1]
 refine nilL ?_
 go_upto_region 16 with fail
 refine wl_lit ?_
 refine runL 143 (.agg (#[.slice (some ⟨gA, 0, none⟩) 1 1])) rfl (by rfl) (exec_row 80 (.tmp 21) rfl p21 rfl 80 (#[.slice (some ⟨gA, 0, none⟩) 1 1]) _ hp21 (by exact Tryd.underlying80) rfl (led_sz _)) ?_
 simp only [ls0, ls1]
 refine runL 144 (.pointer (some ⟨p1, 0, none⟩)) rfl (by rfl) (by go_simp) ?_
 simp only [ls0, ls1]
 refine runL 145 (.agg (va .u8 (ke))) rfl (by rfl) (exec_mid 37 (.tmp 144) rfl p1 0 rfl (nv .u8 ke) _ (hp1.left) Tryd.underlying37 rfl (sz16D _ hel)) ?_
 simp only [ls0, ls1]
 refine runL 146 (.agg (rgV 1 0 0 1)) rfl (by rfl) (exec_row 75 (.tmp 19) rfl p19 rfl 75 (rgV 1 0 0 1) _ hp19 (by exact Tryd.underlying75) rfl (rgV_sz _ _ _ _)) ?_
 simp only [ls0, ls1]
 refine runL 147 (.agg (useV ke 1 0 0 1)) rfl (by rfl) (exec_build 84 _ rfl (useV ke 1 0 0 1) (by exact built_use ke 1 0 0 1 hel)) ?_
 simp only [ls0, ls1]
 refine callL 148 rfl (by rfl) (fun K hK => wp_callF 27 #[.agg (#[.slice (some ⟨gA, 0, none⟩) 1 1]), .agg (useV ke 1 0 0 1)] (by go_simp) (ladd_any ke 1 0 0 1 hel heb (by decide) (some ⟨gA, 0, none⟩) 1 1 _ (by decide) 2 rfl _ hugA.reads (Nat.le_refl _)) ?_)
 rintro e w35 ⟨gC, rfl, ⟨cgC, hugC⟩, bx⟩
 replace hugC := hugC.mono (Nat.le_trans hB0 hW.size)
 replace hp1 := hp1.below bx hp1.lt
 replace hp6 := hp6.below bx hp6.lt
 replace hp19 := hp19.below bx hp19.lt
 replace hugA := hugA.below bx
 replace hp21 := hp21.below bx hp21.lt
 replace hW := hW.trans (bx.mono (Nat.le_trans hB0 hW.size))
 clear bx
 refine ⟨_, rfl, hK.out _ _ ?_⟩
 clear hK K
 simp only [ls0, ls1]
 refine runL 142 (.tuple #[.agg (#[.slice (some ⟨gC, 0, none⟩) 2 2]), .int .i64 0]) rfl (by rfl) (by go_simp) ?_
 simp only [ls0, ls1]
 refine runL 149 (.agg (#[.slice (some ⟨gC, 0, none⟩) 2 2])) rfl (by rfl) (by go_simp) ?_
 simp only [ls0, ls1]
 refine runL 150 (.int .i64 0) rfl (by rfl) (by go_simp) ?_
 simp only [ls0, ls1]
 refine runWL 23 (.pointer (some ⟨w35.heap.size, 0, none⟩)) (w35.alloc (.cells (#[.slice none 0 0]) 80)) rfl (by rfl) (exec_allocV 80 rfl _ (zv_Ledger _)) ?_
 simp only [ls0, ls1]
 have lp1_p23 := hp1.lt
 have lp6_p23 := hp6.lt
 have lp19_p23 := hp19.lt
 have nugA_p23 := hugA.new_off
 have lp21_p23 := hp21.lt
 have nugC_p23 := hugC.new_off
 have lw_p23 := Nat.le_trans hB0 hW.size
 have hp23 : Blk (w35.alloc (.cells (#[.slice none 0 0]) 80)) w35.heap.size 80 (#[.slice none 0 0]) := Blk.new _ _ _
 replace hp1 := hp1.alloc (.cells (#[.slice none 0 0]) 80)
 replace hp6 := hp6.alloc (.cells (#[.slice none 0 0]) 80)
 replace hp19 := hp19.alloc (.cells (#[.slice none 0 0]) 80)
 replace hugA := hugA.alloc (.cells (#[.slice none 0 0]) 80)
 replace hp21 := hp21.alloc (.cells (#[.slice none 0 0]) 80)
 replace hugC := hugC.alloc (.cells (#[.slice none 0 0]) 80)
 replace hW := hW.alloc (Nat.le_trans hB0 hW.size) (.cells (#[.slice none 0 0]) 80)
 generalize w35.alloc (.cells (#[.slice none 0 0]) 80) = w36 at *
 generalize w35.heap.size = p23 at hp23 lw_p23 lp1_p23 lp6_p23 lp19_p23 nugA_p23 lp21_p23 nugC_p23 ⊢
 refine runSL (w36.setRow p23 (#[.slice (some ⟨gC, 0, none⟩) 2 2])) rfl (by rfl) (exec_storeRow 80 (.tmp 23) (.tmp 149) rfl p23 rfl (#[.slice (some ⟨gC, 0, none⟩) 2 2]) rfl 80 (#[.slice none 0 0]) hp23 (sz_eq (led_sz _) (led_sz _)) (led_sz _) (by simp [Value.oneCell'])) ?_
 replace hp1 := hp1.rowFar (show p23 ≠ p1 from (by omega)) (#[.slice (some ⟨gC, 0, none⟩) 2 2])
 replace hp6 := hp6.rowFar (show p23 ≠ p6 from (by omega)) (#[.slice (some ⟨gC, 0, none⟩) 2 2])
 replace hp19 := hp19.rowFar (show p23 ≠ p19 from (by omega)) (#[.slice (some ⟨gC, 0, none⟩) 2 2])
 replace hugA := hugA.rowFar nugA_p23 (#[.slice (some ⟨gC, 0, none⟩) 2 2])
 replace hp21 := hp21.rowFar (show p23 ≠ p21 from (by omega)) (#[.slice (some ⟨gC, 0, none⟩) 2 2])
 replace hugC := hugC.rowFar nugC_p23 (#[.slice (some ⟨gC, 0, none⟩) 2 2])
 replace hp23 := hp23.row (#[.slice (some ⟨gC, 0, none⟩) 2 2])
 replace hW := below_setRow hW lw_p23 (#[.slice (some ⟨gC, 0, none⟩) 2 2])
 generalize w36.setRow p23 (#[.slice (some ⟨gC, 0, none⟩) 2 2]) = w37 at *
 refine runL 24 (.int .i64 0) rfl (by rfl) (by go_simp) ?_
 simp only [ls0, ls1]
 refine nilL ?_
 go_upto_region 17 with fail
 refine wl_lit ?_
 refine runL 152 (.agg (#[.slice (some ⟨gC, 0, none⟩) 2 2])) rfl (by rfl) (exec_row 80 (.tmp 23) rfl p23 rfl 80 (#[.slice (some ⟨gC, 0, none⟩) 2 2]) _ hp23 (by exact Tryd.underlying80) rfl (led_sz _)) ?_
 simp only [ls0, ls1]
 refine callL 153 rfl (by rfl) (fun K hK => wp_callF 28 #[.agg (#[.slice (some ⟨gC, 0, none⟩) 2 2])] (by go_simp) (reps_any ke 1 0 0 1 hel heb (by decide) (by decide) (by decide) gC _ _ hugC.reads (Nat.le_refl _)) ?_)
 rintro e w38 ⟨rfl, bx⟩
 replace hp1 := hp1.below bx hp1.lt
 replace hp6 := hp6.below bx hp6.lt
 replace hp19 := hp19.below bx hp19.lt
 replace hugA := hugA.below bx
 replace hp21 := hp21.below bx hp21.lt
 replace hugC := hugC.below bx
 replace hp23 := hp23.below bx hp23.lt
 replace hW := hW.trans (bx.mono (Nat.le_trans hB0 hW.size))
 clear bx
 refine ⟨_, rfl, hK.out _ _ ?_⟩
 clear hK K
 simp only [ls0, ls1]
 refine runL 151 (.tuple #[.int .i64 0, .int .i64 1, .bool true]) rfl (by rfl) (by go_simp) ?_
 simp only [ls0, ls1]
 refine runL 154 (.int .i64 0) rfl (by rfl) (by go_simp) ?_
 simp only [ls0, ls1]
 refine runL 155 (.int .i64 1) rfl (by rfl) (by go_simp) ?_
 simp only [ls0, ls1]
 refine runL 156 (.bool true) rfl (by rfl) (by go_simp) ?_
 simp only [ls0, ls1]
 refine runL 25 (.int .i64 0) rfl (by rfl) (by go_simp) ?_
 simp only [ls0, ls1]
 refine runL 26 (.int .i64 1) rfl (by rfl) (by go_simp) ?_
 simp only [ls0, ls1]
 refine runL 27 (.bool true) rfl (by rfl) (by go_simp) ?_
 simp only [ls0, ls1]
 refine nilL ?_
 clear hugA
 clear hugC
 go_upto_region 18 with fail
 refine wl_lit ?_
 refine runL 157 (.int .i64 0) rfl (by rfl) (by go_simp) ?_
 simp only [ls0, ls1]
 refine runL 158 (.bool true) rfl (by rfl) (by go_simp) ?_
 simp only [ls0, ls1]
 refine runL 159 (.bool true) rfl (by rfl) (by go_simp) ?_
 simp only [ls0, ls1]
 refine runL 160 (.pointer (some ⟨p19, 3, none⟩)) rfl (by rfl) (by go_simp) ?_
 simp only [ls0, ls1]
 refine runL 161 (.int .u32 ((1 : Nat) : Int)) rfl (by rfl) (exec_cell 38 (.tmp 160) rfl p19 3 rfl (.int .u32 ((1 : Nat) : Int)) _ Tryd.underlying38 rfl (hp19.cellIs 3 rfl)) ?_
 simp only [ls0, ls1]
 refine runL 162 (.bool true) rfl (by rfl) (by go_simp) ?_
 simp only [ls0, ls1]
 refine runL 163 (.bool true) rfl (by rfl) (by go_simp) ?_
 simp only [ls0, ls1]
 refine runL 164 (.bool true) rfl (by rfl) (by go_simp) ?_
 simp only [ls0, ls1]
 refine runL 165 (.int .i64 0) rfl (by rfl) (by go_simp) ?_
 simp only [ls0, ls1]
 refine runL 166 (.bool true) rfl (by rfl) (by go_simp) ?_
 simp only [ls0, ls1]
 refine runL 167 (.bool true) rfl (by rfl) (by go_simp) ?_
 simp only [ls0, ls1]
 refine runL 168 (.bool true) rfl (by rfl) (by go_simp) ?_
 simp only [ls0, ls1]
 refine runL 169 (.int .i64 0) rfl (by rfl) (by go_simp) ?_
 simp only [ls0, ls1]
 refine runL 170 (.bool true) rfl (by rfl) (by go_simp) ?_
 simp only [ls0, ls1]
 refine runL 171 (.bool true) rfl (by rfl) (by go_simp) ?_
 simp only [ls0, ls1]
 refine runL 172 (.bool true) rfl (by rfl) (by go_simp) ?_
 simp only [ls0, ls1]
 refine runL 173 (.int .i64 0) rfl (by rfl) (by go_simp) ?_
 simp only [ls0, ls1]
 refine runL 174 (.bool true) rfl (by rfl) (by go_simp) ?_
 simp only [ls0, ls1]
 refine runL 175 (.bool true) rfl (by rfl) (by go_simp) ?_
 simp only [ls0, ls1]
 refine runL 176 (.bool true) rfl (by rfl) (by go_simp) ?_
 simp only [ls0, ls1]
 refine runL 177 (.int .i64 1) rfl (by rfl) (by go_simp) ?_
 simp only [ls0, ls1]
 refine runL 178 (.bool true) rfl (by rfl) (by go_simp) ?_
 simp only [ls0, ls1]
 refine runL 179 (.bool true) rfl (by rfl) (by go_simp) ?_
 simp only [ls0, ls1]
 refine runL 180 (.bool true) rfl (by rfl) (by go_simp) ?_
 simp only [ls0, ls1]
 refine runL 181 (.bool true) rfl (by rfl) (by go_simp) ?_
 simp only [ls0, ls1]
 refine runL 182 (.bool true) rfl (by rfl) (by go_simp) ?_
 simp only [ls0, ls1]
 refine runL 183 (.bool true) rfl (by rfl) (by go_simp) ?_
 simp only [ls0, ls1]
 refine callL 184 rfl (by rfl) (fun K hK => wp_callF 29 #[.int .u8 83] (by go_simp) (sub_to 83 237 (by decide) (by decide +kernel) _) ?_)
 rintro e w39 ⟨rfl, bx⟩
 replace hp1 := hp1.below bx hp1.lt
 replace hp6 := hp6.below bx hp6.lt
 replace hp19 := hp19.below bx hp19.lt
 replace hp21 := hp21.below bx hp21.lt
 replace hp23 := hp23.below bx hp23.lt
 replace hW := hW.trans (bx.mono (Nat.le_trans hB0 hW.size))
 clear bx
 refine ⟨_, rfl, hK.out _ _ ?_⟩
 clear hK K
 simp only [ls0, ls1]
 refine runL 185 (.bool true) rfl (by rfl) (by go_simp) ?_
 simp only [ls0, ls1]
 refine runL 186 (.bool true) rfl (by rfl) (by go_simp) ?_
 simp only [ls0, ls1]
 refine runL 187 (.bool true) rfl (by rfl) (by go_simp) ?_
 simp only [ls0, ls1]
 refine runWL 188 (.slice (some ⟨w39.heap.size, 0, none⟩) 3 3) (w39.alloc (.cells (va .u8 (abcT)) 5)) rfl (by rfl) (exec_bslice 27 3 _ rfl _ (by exact bs_abcT _)) ?_
 simp only [ls0, ls1]
 have lp1_q1 := hp1.lt
 have lp6_q1 := hp6.lt
 have lp19_q1 := hp19.lt
 have lp21_q1 := hp21.lt
 have lp23_q1 := hp23.lt
 have lw_q1 := Nat.le_trans hB0 hW.size
 have hq1 : Blk (w39.alloc (.cells (va .u8 (abcT)) 5)) w39.heap.size 5 (va .u8 (abcT)) := Blk.new _ _ _
 replace hp1 := hp1.alloc (.cells (va .u8 (abcT)) 5)
 replace hp6 := hp6.alloc (.cells (va .u8 (abcT)) 5)
 replace hp19 := hp19.alloc (.cells (va .u8 (abcT)) 5)
 replace hp21 := hp21.alloc (.cells (va .u8 (abcT)) 5)
 replace hp23 := hp23.alloc (.cells (va .u8 (abcT)) 5)
 replace hW := hW.alloc (Nat.le_trans hB0 hW.size) (.cells (va .u8 (abcT)) 5)
 generalize w39.alloc (.cells (va .u8 (abcT)) 5) = w40 at *
 generalize w39.heap.size = q1 at hq1 lw_q1 lp1_q1 lp6_q1 lp19_q1 lp21_q1 lp23_q1 ⊢
 refine runWL 189 (.slice (some ⟨q1, 0, none⟩) 3 3) (w40.freeze ⟨q1, 3, none⟩ 1) rfl (by rfl) (exec_convW 27 27 (.tmp 188) rfl (.slice (some ⟨q1, 0, none⟩) 3 3) (.slice (some ⟨q1, 0, none⟩) 3 3) rfl (conv_blk (n := 3) (c := 3) hq1 (rfl))) ?_
 simp only [ls0, ls1]
 replace hp1 := hp1.freeze_ ⟨q1, 3, none⟩ 1 (show q1 ≠ p1 by omega)
 replace hp6 := hp6.freeze_ ⟨q1, 3, none⟩ 1 (show q1 ≠ p6 by omega)
 replace hp19 := hp19.freeze_ ⟨q1, 3, none⟩ 1 (show q1 ≠ p19 by omega)
 replace hp21 := hp21.freeze_ ⟨q1, 3, none⟩ 1 (show q1 ≠ p21 by omega)
 replace hp23 := hp23.freeze_ ⟨q1, 3, none⟩ 1 (show q1 ≠ p23 by omega)
 replace hq1 := hq1.byB.freeze ⟨q1, 3, none⟩ 1
 replace hW := Lib.below_freeze (p := ⟨q1, 3, none⟩) hW lw_q1 1
 generalize w40.freeze ⟨q1, 3, none⟩ 1 = w41 at *
 refine runWL 190 (.slice (some ⟨w41.heap.size, 0, none⟩) 1 1) (w41.alloc (.cells (#[.slice (some ⟨q1, 0, none⟩) 3 3]) 27)) rfl (by rfl) (exec_bslice 88 1 _ rfl _ (by exact bs_1 (some ⟨q1, 0, none⟩) 3 3 _)) ?_
 simp only [ls0, ls1]
 have lp1_q2 := hp1.lt
 have lp6_q2 := hp6.lt
 have lp19_q2 := hp19.lt
 have lp21_q2 := hp21.lt
 have lp23_q2 := hp23.lt
 have lq1_q2 := hq1.lt
 have lw_q2 := Nat.le_trans hB0 hW.size
 have hq2 : Blk (w41.alloc (.cells (#[.slice (some ⟨q1, 0, none⟩) 3 3]) 27)) w41.heap.size 27 (#[.slice (some ⟨q1, 0, none⟩) 3 3]) := Blk.new _ _ _
 replace hp1 := hp1.alloc (.cells (#[.slice (some ⟨q1, 0, none⟩) 3 3]) 27)
 replace hp6 := hp6.alloc (.cells (#[.slice (some ⟨q1, 0, none⟩) 3 3]) 27)
 replace hp19 := hp19.alloc (.cells (#[.slice (some ⟨q1, 0, none⟩) 3 3]) 27)
 replace hp21 := hp21.alloc (.cells (#[.slice (some ⟨q1, 0, none⟩) 3 3]) 27)
 replace hp23 := hp23.alloc (.cells (#[.slice (some ⟨q1, 0, none⟩) 3 3]) 27)
 replace hq1 := hq1.alloc (.cells (#[.slice (some ⟨q1, 0, none⟩) 3 3]) 27)
 replace hW := hW.alloc (Nat.le_trans hB0 hW.size) (.cells (#[.slice (some ⟨q1, 0, none⟩) 3 3]) 27)
 generalize w41.alloc (.cells (#[.slice (some ⟨q1, 0, none⟩) 3 3]) 27) = w42 at *
 generalize w41.heap.size = q2 at hq2 lw_q2 lp1_q2 lp6_q2 lp19_q2 lp21_q2 lp23_q2 lq1_q2 ⊢
 refine callL 191 rfl (by rfl) (fun K hK => wp_callF 6 #[.slice (some ⟨q2, 0, none⟩) 1 1] (by go_simp) (of_to [abcT] abcT dgT (by simp) sha_abcT 1 1 _ _ _ (gl.out _ hW) (parts_one hq1.lt hq2 (hq1.reads (rfl)) (Nat.le_refl _) byt_abcT) (by decide) (Nat.le_refl _) (by decide)) ?_)
 rintro e w43 ⟨rfl, bx⟩
 replace hp1 := hp1.below bx hp1.lt
 replace hp6 := hp6.below bx hp6.lt
 replace hp19 := hp19.below bx hp19.lt
 replace hp21 := hp21.below bx hp21.lt
 replace hp23 := hp23.below bx hp23.lt
 replace hq1 := hq1.below bx hq1.lt
 replace hq2 := hq2.below bx hq2.lt
 replace hW := hW.trans (bx.mono (Nat.le_trans hB0 hW.size))
 clear bx
 refine ⟨_, rfl, hK.out _ _ ?_⟩
 clear hK K
 simp only [ls0, ls1]
 refine runL 192 (.int .u8 186) rfl (by rfl) (exec_idx0 _ _ rfl dgT rfl rfl rfl 186 rfl) ?_
 simp only [ls0, ls1]
 refine runL 193 (.bool true) rfl (by rfl) (by go_simp) ?_
 simp only [ls0, ls1]
 refine runL 194 (.bool true) rfl (by rfl) (by go_simp) ?_
 simp only [ls0, ls1]
 refine runL 0 (.bool true) rfl (by rfl) (by go_simp) ?_
 simp only [ls0]
 refine nilL ?_
 go_wp2_with fail
 go_ret
 exact ⟨rfl, hW⟩
end Go.Proofs.YtcdgcaljlmondaaDoor
