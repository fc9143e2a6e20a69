/-
  The walks of records.GetRecord, PutCell, GetCell. (Printed by mktop1.py.)
-/
import Derived.Test.YtcdgcaljlmondaaDoorZ14
import Derived.Lib.AppendZeros
namespace Go.Proofs.YtcdgcaljlmondaaDoor
set_option maxRecDepth 16384
open Go.RowKit Sh
theorem exec_cellA1 {P : Program} {w : World} {op : Oper} {a : Act} (ty : TypeId) (x : Operand) (ho : op.op = .load ty x) (ad : Addr) (hx : a.eval x = .pointer (some ad)) (v : Value) (d : TypeDesc)
  (hu : P.underlying ty = some d) (hd : (match d with | .struct _ | .array _ _ => true | _ => false) = false) (hc : w.cell? ad = some v) : (execOp a.eval op).run P w = .ok (.value v) w := by
 unfold execOp
 simp only [ho, hx, Instr.loadAt, Instr.sureAddr, Sem.run_bind, Sem.run_pure, Result.andThen_ok, run_loadVar_cell ty ad v d hu hd hc]
theorem Reads.numA1 {w : World} {B n : Nat} {ad : Addr} {k : IntKind} {l : List Nat} (h : Reads w B 1 (some ad) n (nv k l)) {i : Nat} (hi : i < n) : w.cell? (ad.add i) = some (.int k ((l.getD i 0 : Nat) : Int)) := by
 obtain ⟨ad', e, _, hc⟩ := h.num hi
 injection e with e
 subst e
 exact hc
/-- a part of the bytes, from o on -/
theorem rpart {W : World} {b n : Nat} {l d : List Nat} (h : Reads W (b + 1) 1 (some ⟨b, 0, none⟩) n (nv .u8 l)) (o m : Nat) (hm : o + m ≤ n) (hd : (l.drop o).take m = d) : Reads W (b + 1) 1 (some ⟨b, o, none⟩) m (nv .u8 d) := by
 subst hd
 have h1 := h.part (o := o) (m := m) hm
 rwa [show (⟨b, 0, none⟩ : Addr).add o = ⟨b, o, none⟩ by rw [Addr.add_mid, Nat.zero_add]] at h1
theorem rrange {W : World} {b m o : Nat} {d : List Nat} (h : Reads W (b + 1) 1 (some ⟨b, o, none⟩) m (nv .u8 d)) (hm : 0 < m) : W.rangeAt b o (nv .u8 d) := fun j v hv => by
 have := h.cells hm j v hv
 rwa [Addr.add_mid] at this

set_option maxRecDepth 8000 in
set_option maxHeartbeats 4000000 in
theorem grec_any (b : Nat) (st s c : Nat) (t : List Nat) (hst : 0 < st) (hst2 : st ≤ 2) (hs : s < 4294967296) (hc : c < 18446744073709551616) (htl : t.length = 32) (htb : Byt t) (w : World) (hr : Reads w (b + 1) 1 (some ⟨b, 0, none⟩) 45 (nv .u8 (st :: (noB s c ++ t)))) (hb : b + 1 ≤ w.heap.size) :
  Calls Tryd.prog 24 #[.slice (some ⟨b, 0, none⟩) 45 45] w fun e w' => e = .returned (.tuple #[.agg (recV st s c t), .int .i64 0]) ∧ Below w.heap.size w w' := by
 obtain ⟨B0, hB0e⟩ : ∃ b, w.heap.size = b := ⟨_, rfl⟩
 rw [hB0e]
 have hW : Below B0 w w := by rw [← hB0e]; exact Below.refl _ _
 have hB0 : B0 ≤ w.heap.size := by omega
 have hbB : b + 1 ≤ B0 := by omega
 have rd := reads_of hr hbB
 clear hr
 have hB0q := Lib.hid hB0e
 clear hB0e
 have hst8 : st < 256 := by omega
 have q1 : ((st :: (noB s c ++ t)).drop 1).take 12 = noB s c := by rw [List.drop_succ_cons, List.drop_zero, List.take_left' (noB_len s c)]
 have q2 : ((st :: (noB s c ++ t)).drop 13).take 32 = t := by rw [List.drop_succ_cons, List.drop_left' (noB_len s c), List.take_of_length_le (by omega)]
 have q1q := Lib.hid q1
 have q2q := Lib.hid q2
 have hnS : beV ((noB s c).take 4) = s := by rw [noB_take, beV_beB4 s hs]
 have hnC : beV ((noB s c).drop 4) = c := by rw [noB_drop, beV_beB8 c hc]
 have hnSq := Lib.hid hnS
 have hnCq := Lib.hid hnC
 clear q1 q2 hnS hnC
 go_enter Tryd.func24, Tryd.ntmps24
 go_upto_region 0 with fail
 refine wl_lit ?_
 refine runWL 2 (.pointer (some ⟨w.heap.size, 0, none⟩)) (w.alloc (.cells (recV 0 0 0 (List.replicate 32 0)) 69)) rfl (by rfl) (exec_allocV 69 rfl _ (zv_Record _)) ?_
 simp only [ls0, ls1]
 have lw_p2 := Nat.le_trans hB0 hW.size
 have hp2 : Blk (w.alloc (.cells (recV 0 0 0 (List.replicate 32 0)) 69)) w.heap.size 69 (recV 0 0 0 (List.replicate 32 0)) := Blk.new _ _ _
 replace hW := hW.alloc (Nat.le_trans hB0 hW.size) (.cells (recV 0 0 0 (List.replicate 32 0)) 69)
 generalize w.alloc (.cells (recV 0 0 0 (List.replicate 32 0)) 69) = w1 at *
 generalize w.heap.size = p2 at hp2 lw_p2  ⊢
 refine runL 3 (.int .i64 0) rfl (by rfl) (by go_simp) ?_
 simp only [ls0, ls1]
 refine nilL ?_
 go_upto_region 1 with fail
 refine wl_lit ?_
 refine runL 12 (.slice (some ⟨b, 0, none⟩) 45 45) rfl (by rfl) (by go_simp) ?_
 simp only [ls0, ls1]
 refine callL 13 rfl (by rfl) (fun K hK => wp_callF 34 #[.slice (some ⟨b, 0, none⟩) 45 45, .int .i64 45] (by go_simp) (rread_ok b 45 45 rfl _) ?_)
 rintro e w2 ⟨gr, rfl, hgr, hgg, bx⟩
 have lp2_gr : p2 < gr := Nat.lt_of_lt_of_le hp2.lt hgg
 have lw_gr : B0 ≤ gr := Nat.le_trans (Nat.le_trans hB0 hW.size) hgg
 replace hp2 := hp2.below bx hp2.lt
 replace hW := hW.trans (bx.mono (Nat.le_trans hB0 hW.size))
 clear hgg
 clear bx
 refine ⟨_, rfl, hK.out _ _ ?_⟩
 clear hK K
 simp only [ls0, ls1]
 refine runL 11 (.tuple #[.func (.func 69) #[.pointer (some ⟨gr, 0, none⟩)] #[], .int .i64 0]) rfl (by rfl) (by go_simp) ?_
 simp only [ls0, ls1]
 refine runL 14 (.func (.func 69) #[.pointer (some ⟨gr, 0, none⟩)] #[]) rfl (by rfl) (by go_simp) ?_
 simp only [ls0, ls1]
 refine runL 15 (.int .i64 0) rfl (by rfl) (by go_simp) ?_
 simp only [ls0, ls1]
 refine runL 4 (.func (.func 69) #[.pointer (some ⟨gr, 0, none⟩)] #[]) rfl (by rfl) (by go_simp) ?_
 simp only [ls0, ls1]
 refine runL 5 (.int .i64 0) rfl (by rfl) (by go_simp) ?_
 simp only [ls0, ls1]
 refine nilL ?_
 go_upto_region 2 with fail
 refine wl_lit ?_
 refine runL 16 (.int .i64 0) rfl (by rfl) (by go_simp) ?_
 simp only [ls0, ls1]
 refine runL 17 (.bool false) rfl (by rfl) (by go_simp) ?_
 simp only [ls0, ls1]
 refine nilL ?_
 go_upto_region 4 with fail
 refine wl_lit ?_
 refine runL 20 (.func (.func 69) #[.pointer (some ⟨gr, 0, none⟩)] #[]) rfl (by rfl) (by go_simp) ?_
 simp only [ls0, ls1]
 refine callL 21 rfl (by rfl) (fun K hK => wp_callF 69 #[.pointer (some ⟨gr, 0, none⟩), .int .i64 1] (by go_simp) (rnext_any gr b 0 45 45 1 1 44 44 (by decide) (Nat.le_refl _) rfl rfl rfl _ hgr) ?_)
 rintro e w3 ⟨rfl, rfl⟩
 replace hp2 := hp2.far (p := ⟨gr, 0, none⟩) (show p2 ≠ gr from (by omega)) (.slice (some ⟨b, 1, none⟩) 44 44)
 replace hgr : Blk (w2.setCell ⟨gr, 0, none⟩ (.slice (some ⟨b, 1, none⟩) 44 44)) gr 138 (#[.slice (some ⟨b, 1, none⟩) 44 44]) := hgr.set_ 0 (.slice (some ⟨b, 1, none⟩) 44 44)
 replace hW := hW.setCell (p := ⟨gr, 0, none⟩) lw_gr (.slice (some ⟨b, 1, none⟩) 44 44)
 generalize w2.setCell ⟨gr, 0, none⟩ (.slice (some ⟨b, 1, none⟩) 44 44) = w4 at *
 refine ⟨_, rfl, hK.out _ _ ?_⟩
 clear hK K
 simp only [ls0, ls1]
 refine runL 22 (.pointer (some ⟨b, 0, none⟩)) rfl (by rfl) (by go_simp) ?_
 simp only [ls0, ls1]
 refine runL 23 (.int .u8 ((st : Nat) : Int)) rfl (by rfl) (exec_cellA1 5 (.tmp 22) rfl ⟨b, 0, none⟩ rfl (.int .u8 ((st : Nat) : Int)) _ Tryd.underlying5 rfl ((rd.out _ hW).numA1 (i := 0) (by decide))) ?_
 simp only [ls0, ls1]
 refine runL 6 (.int .u8 ((st : Nat) : Int)) rfl (by rfl) (by go_simp) ?_
 simp only [ls0, ls1]
 refine nilL ?_
 go_upto_region 5 with fail
 refine wl_lit ?_
 refine runL 25 (.func (.func 69) #[.pointer (some ⟨gr, 0, none⟩)] #[]) rfl (by rfl) (by go_simp) ?_
 simp only [ls0, ls1]
 refine callL 26 rfl (by rfl) (fun K hK => wp_callF 69 #[.pointer (some ⟨gr, 0, none⟩), .int .i64 12] (by go_simp) (rnext_any gr b 1 44 44 12 13 32 32 (by decide) (Nat.le_refl _) rfl rfl rfl _ hgr) ?_)
 rintro e w5 ⟨rfl, rfl⟩
 replace hp2 := hp2.far (p := ⟨gr, 0, none⟩) (show p2 ≠ gr from (by omega)) (.slice (some ⟨b, 13, none⟩) 32 32)
 replace hgr : Blk (w4.setCell ⟨gr, 0, none⟩ (.slice (some ⟨b, 13, none⟩) 32 32)) gr 138 (#[.slice (some ⟨b, 13, none⟩) 32 32]) := hgr.set_ 0 (.slice (some ⟨b, 13, none⟩) 32 32)
 replace hW := hW.setCell (p := ⟨gr, 0, none⟩) lw_gr (.slice (some ⟨b, 13, none⟩) 32 32)
 generalize w4.setCell ⟨gr, 0, none⟩ (.slice (some ⟨b, 13, none⟩) 32 32) = w6 at *
 refine ⟨_, rfl, hK.out _ _ ?_⟩
 clear hK K
 simp only [ls0, ls1]
 refine callL 27 rfl (by rfl) (fun K hK => wp_callF 59 #[.slice (some ⟨b, 1, none⟩) 12 44] (by go_simp) (nget_ok _ 44 _ s c (by decide) (noB s c) (noB_byt _ _) hnSq.out hnCq.out _ (rpart (rd.out _ hW) 1 12 (by decide) q1q.out) (Nat.le_trans hbB (Nat.le_trans hB0 hW.size))) ?_)
 rintro e w7 ⟨rfl, bx⟩
 replace hp2 := hp2.below bx hp2.lt
 replace hgr := hgr.below bx hgr.lt
 replace hW := hW.trans (bx.mono (Nat.le_trans hB0 hW.size))
 clear bx
 refine ⟨_, rfl, hK.out _ _ ?_⟩
 clear hK K
 simp only [ls0, ls1]
 refine runL 24 (.tuple #[.agg (noV s c), .int .i64 0]) rfl (by rfl) (by go_simp) ?_
 simp only [ls0, ls1]
 refine runL 28 (.agg (noV s c)) rfl (by rfl) (by go_simp) ?_
 simp only [ls0, ls1]
 refine runL 29 (.int .i64 0) rfl (by rfl) (by go_simp) ?_
 simp only [ls0, ls1]
 refine runWL 7 (.pointer (some ⟨w7.heap.size, 0, none⟩)) (w7.alloc (.cells (noV 0 0) 40)) rfl (by rfl) (exec_allocV 40 rfl _ (zv_Nonce _)) ?_
 simp only [ls0, ls1]
 have lp2_p7 := hp2.lt
 have lgr_p7 := hgr.lt
 have lw_p7 := Nat.le_trans hB0 hW.size
 have hp7 : Blk (w7.alloc (.cells (noV 0 0) 40)) w7.heap.size 40 (noV 0 0) := Blk.new _ _ _
 replace hp2 := hp2.alloc (.cells (noV 0 0) 40)
 replace hgr := hgr.alloc (.cells (noV 0 0) 40)
 replace hW := hW.alloc (Nat.le_trans hB0 hW.size) (.cells (noV 0 0) 40)
 generalize w7.alloc (.cells (noV 0 0) 40) = w8 at *
 generalize w7.heap.size = p7 at hp7 lw_p7 lp2_p7 lgr_p7 ⊢
 refine runSL (w8.setRow p7 (noV s c)) rfl (by rfl) (exec_storeRow 40 (.tmp 7) (.tmp 28) rfl p7 rfl (noV s c) rfl 40 (noV 0 0) hp7 (sz_eq (noV_sz _ _) (noV_sz _ _)) (noV_sz _ _) (noV_one _ _)) ?_
 replace hp2 := hp2.rowFar (show p7 ≠ p2 from (by omega)) (noV s c)
 replace hgr := hgr.rowFar (show p7 ≠ gr from (by omega)) (noV s c)
 replace hp7 := hp7.row (noV s c)
 replace hW := below_setRow hW lw_p7 (noV s c)
 generalize w8.setRow p7 (noV s c) = w9 at *
 refine runL 8 (.int .i64 0) rfl (by rfl) (by go_simp) ?_
 simp only [ls0, ls1]
 refine nilL ?_
 go_upto_region 6 with fail
 replace hgr := hgr.drew
 refine wp_region_held_drew (S := fun wr => Blk wr p2 69 (recV 0 0 0 (List.replicate 32 0)) ∧ Blk wr p7 40 (noV s c) ∧ Below B0 w wr) (by kernel_rfl) ⟨hp2.drew, hp7.drew, below_drewN hW 1⟩ (fun hH => ?_)
 clear hp2 hp7 hW
 obtain ⟨hp2, hp7, hW⟩ := hH
 generalize w9.drew = w10 at *
 refine takeH 8 0 30 (.int .u8 ((st : Nat) : Int)) rfl rfl (by kernel_rfl) (by kernel_rfl) (by kernel_rfl) (fun _ _ _ h => h) (Or.inl ⟨by rfl, fun w _ => by go_simp⟩) ⟨hp2, hp7, hW⟩ ?_
 simp only [ls0, ls1]
 refine takeH 7 1 31 (.agg (noV s c)) rfl rfl (by kernel_rfl) (by kernel_rfl) (by kernel_rfl) (fun _ _ _ h => h) (Or.inl ⟨by rfl, fun _ h => exec_row 40 (.tmp 7) rfl p7 rfl 40 (noV s c) _ h.2.1 (by exact Tryd.underlying40) rfl (noV_sz _ _)⟩) ⟨hp2, hp7, hW⟩ ?_
 simp only [ls0, ls1]
 refine takeH 6 2 32 (.func (.func 69) #[.pointer (some ⟨gr, 0, none⟩)] #[]) rfl rfl (by kernel_rfl) (by kernel_rfl) (by kernel_rfl) (fun _ _ _ h => h) (Or.inl ⟨by rfl, fun w _ => by go_simp⟩) ⟨hp2, hp7, hW⟩ ?_
 simp only [ls0, ls1]
 refine wpAnyH_ready (by kernel_rfl) (by simp) (readyCons 5 3 33 rfl rfl (by rfl) (fun K hK => wp_callF 69 #[.pointer (some ⟨gr, 0, none⟩), .int .i64 32] (by go_simp) (rnext_last gr b 13 32 (by decide) _ hgr) ?_) (readyRun 5 7 9 (.pointer (some ⟨w10.heap.size, 0, none⟩)) (w10.alloc (.cells (recV 0 0 0 (List.replicate 32 0)) 69)) rfl rfl (by rfl) (exec_allocV 69 rfl _ (zv_Record _)) ⟨hp2.alloc _, hp7.alloc _, hW.alloc (Nat.le_trans hB0 hW.size) _⟩ (fun _ => ?_) AllReadyH.nil))
 ·
  rintro e w11 ⟨rfl, rfl⟩
  replace hp2 := hp2.far (p := ⟨gr, 0, none⟩) (show p2 ≠ gr from (by omega)) (.slice (some ⟨b, 13, none⟩) 0 0)
  replace hp7 := hp7.far (p := ⟨gr, 0, none⟩) (show p7 ≠ gr from (by omega)) (.slice (some ⟨b, 13, none⟩) 0 0)
  replace hgr : Blk (w10.setCell ⟨gr, 0, none⟩ (.slice (some ⟨b, 13, none⟩) 0 0)) gr 138 (#[.slice (some ⟨b, 13, none⟩) 0 0]) := hgr.set_ 0 (.slice (some ⟨b, 13, none⟩) 0 0)
  replace hW := hW.setCell (p := ⟨gr, 0, none⟩) lw_gr (.slice (some ⟨b, 13, none⟩) 0 0)
  generalize w10.setCell ⟨gr, 0, none⟩ (.slice (some ⟨b, 13, none⟩) 0 0) = w12 at *
  refine ⟨_, rfl, hK.out _ _ ⟨hp2, hp7, hW⟩ (fun _ => ?_)⟩
  clear hK K
  simp only [ls0, ls1]
  refine takeH 4 4 34 (.pointer (some ⟨b, 13, none⟩)) rfl rfl (by kernel_rfl) (by kernel_rfl) (by kernel_rfl) (fun _ _ _ h => h) (Or.inl ⟨by rfl, fun _ _ => exec_arrayAt 23 _ rfl _ _ (by exact Tryd.underlying23) _ 32 32 rfl (by decide)⟩) ⟨hp2, hp7, hW⟩ ?_
  simp only [ls0, ls1]
  refine takeH 3 5 35 (.agg (va .u8 (t))) rfl rfl (by kernel_rfl) (by kernel_rfl) (by kernel_rfl) (fun _ _ _ h => h) (Or.inl ⟨by rfl, fun _ h => exec_mid 23 (.tmp 34) rfl b 13 rfl (nv .u8 t) _ (rrange (rpart (rd.out _ h.2.2) 13 32 (by decide) q2q.out) (by decide)) (by exact Tryd.underlying23) rfl (szDg _ htl)⟩) ⟨hp2, hp7, hW⟩ ?_
  simp only [ls0, ls1]
  refine takeH 2 6 36 (.agg (recV st s c t)) rfl rfl (by kernel_rfl) (by kernel_rfl) (by kernel_rfl) (fun _ _ _ h => h) (Or.inl ⟨by rfl, fun _ _ => exec_build 69 _ rfl (recV st s c t) (by exact built_rec st s c t htl)⟩) ⟨hp2, hp7, hW⟩ ?_
  simp only [ls0, ls1]
  refine wpAnyH_ready (by kernel_rfl) (by simp) (readyRun 1 7 9 (.pointer (some ⟨w12.heap.size, 0, none⟩)) (w12.alloc (.cells (recV 0 0 0 (List.replicate 32 0)) 69)) rfl rfl (by rfl) (exec_allocV 69 rfl _ (zv_Record _)) ⟨hp2.alloc _, hp7.alloc _, hW.alloc (Nat.le_trans hB0 hW.size) _⟩ (fun _ => ?_) AllReadyH.nil)
  simp only [ls0, ls1]
  have lp2_p9 := hp2.lt
  have lgr_p9 := hgr.lt
  have lp7_p9 := hp7.lt
  have lw_p9 := Nat.le_trans hB0 hW.size
  have hp9 : Blk (w12.alloc (.cells (recV 0 0 0 (List.replicate 32 0)) 69)) w12.heap.size 69 (recV 0 0 0 (List.replicate 32 0)) := Blk.new _ _ _
  replace hp2 := hp2.alloc (.cells (recV 0 0 0 (List.replicate 32 0)) 69)
  replace hgr := hgr.alloc (.cells (recV 0 0 0 (List.replicate 32 0)) 69)
  replace hp7 := hp7.alloc (.cells (recV 0 0 0 (List.replicate 32 0)) 69)
  replace hW := hW.alloc (Nat.le_trans hB0 hW.size) (.cells (recV 0 0 0 (List.replicate 32 0)) 69)
  generalize w12.alloc (.cells (recV 0 0 0 (List.replicate 32 0)) 69) = w13 at *
  generalize w12.heap.size = p9 at hp9 lw_p9 lp2_p9 lgr_p9 lp7_p9 ⊢
  refine wpAnyH_ready (by kernel_rfl) (by simp) (readyRunS 0 8 (w13.setRow p9 (recV st s c t)) rfl rfl (by rfl) (exec_storeRow 69 (.tmp 9) (.tmp 36) rfl p9 rfl (recV st s c t) rfl 69 (recV 0 0 0 (List.replicate 32 0)) hp9 (sz_eq (recV_sz _ _ _ _ List.length_replicate) (recV_sz _ _ _ _ htl)) (recV_sz _ _ _ _ htl) (recV_one _ _ _ _)) ⟨hp2.rowFar (show p9 ≠ p2 from (by omega)) _, hp7.rowFar (show p9 ≠ p7 from (by omega)) _, below_setRow hW lw_p9 _⟩ (fun _ => ?_) AllReadyH.nil)
  replace hp2 := hp2.rowFar (show p9 ≠ p2 from (by omega)) (recV st s c t)
  replace hgr := hgr.rowFar (show p9 ≠ gr from (by omega)) (recV st s c t)
  replace hp7 := hp7.rowFar (show p9 ≠ p7 from (by omega)) (recV st s c t)
  replace hp9 := hp9.row (recV st s c t)
  replace hW := below_setRow hW lw_p9 (recV st s c t)
  generalize w13.setRow p9 (recV st s c t) = w14 at *
  refine wpAnyH_done (by kernel_rfl) ?_ _
  go_upto_region 7 with fail
  refine wl_lit ?_
  refine runL 37 (.agg (recV st s c t)) rfl (by rfl) (exec_row 69 (.tmp 9) rfl p9 rfl 69 (recV st s c t) _ hp9 (by exact Tryd.underlying69) rfl (recV_sz _ _ _ _ htl)) ?_
  simp only [ls0, ls1]
  refine callL 38 rfl (by rfl) (fun K hK => wp_callF 58 #[.agg (recV st s c t)] (by go_simp) (rccheck_any st s c t hst hst2 hs hc htl htb _) ?_)
  rintro e w15 ⟨rfl, bx⟩
  replace hp2 := hp2.below bx hp2.lt
  replace hgr := hgr.below bx hgr.lt
  replace hp7 := hp7.below bx hp7.lt
  replace hp9 := hp9.below bx hp9.lt
  replace hW := hW.trans (bx.mono (Nat.le_trans hB0 hW.size))
  clear bx
  refine ⟨_, rfl, hK.out _ _ ?_⟩
  clear hK K
  simp only [ls0, ls1]
  refine runL 10 (.int .i64 0) rfl (by rfl) (by go_simp) ?_
  simp only [ls0, ls1]
  refine nilL ?_
  go_upto_region 8 with fail
  refine wl_lit ?_
  refine runL 39 (.int .i64 0) rfl (by rfl) (by go_simp) ?_
  simp only [ls0, ls1]
  refine runL 40 (.bool false) rfl (by rfl) (by go_simp) ?_
  simp only [ls0, ls1]
  refine nilL ?_
  go_upto_region 10 with fail
  refine wl_lit ?_
  refine runL 43 (.agg (recV st s c t)) rfl (by rfl) (exec_row 69 (.tmp 9) rfl p9 rfl 69 (recV st s c t) _ hp9 (by exact Tryd.underlying69) rfl (recV_sz _ _ _ _ htl)) ?_
  simp only [ls0, ls1]
  refine runSL (w15.setRow p2 (recV st s c t)) rfl (by rfl) (exec_storeRow 69 (.tmp 2) (.tmp 43) rfl p2 rfl (recV st s c t) rfl 69 (recV 0 0 0 (List.replicate 32 0)) hp2 (sz_eq (recV_sz _ _ _ _ List.length_replicate) (recV_sz _ _ _ _ htl)) (recV_sz _ _ _ _ htl) (recV_one _ _ _ _)) ?_
  replace hgr := hgr.rowFar (show p2 ≠ gr from (by omega)) (recV st s c t)
  replace hp7 := hp7.rowFar (show p2 ≠ p7 from (by omega)) (recV st s c t)
  replace hp9 := hp9.rowFar (show p2 ≠ p9 from (by omega)) (recV st s c t)
  replace hp2 := hp2.row (recV st s c t)
  replace hW := below_setRow hW lw_p2 (recV st s c t)
  generalize w15.setRow p2 (recV st s c t) = w16 at *
  refine runL 3 (.int .i64 0) rfl (by rfl) (by go_simp) ?_
  simp only [ls0, ls1]
  refine nilL ?_
  go_wp2_with fail
  exact bodyPost_ret (results_row_tmp rfl _ _ p2 69 (recV st s c t) _ (.int .i64 0) rfl hp2 (by exact Tryd.underlying69) rfl (recV_sz _ _ _ _ htl) rfl) rfl ⟨rfl, hW⟩
 ·
  simp only [ls0, ls1]
  have lp2_p9 := hp2.lt
  have lgr_p9 := hgr.lt
  have lp7_p9 := hp7.lt
  have lw_p9 := Nat.le_trans hB0 hW.size
  have hp9 : Blk (w10.alloc (.cells (recV 0 0 0 (List.replicate 32 0)) 69)) w10.heap.size 69 (recV 0 0 0 (List.replicate 32 0)) := Blk.new _ _ _
  replace hp2 := hp2.alloc (.cells (recV 0 0 0 (List.replicate 32 0)) 69)
  replace hgr := hgr.alloc (.cells (recV 0 0 0 (List.replicate 32 0)) 69)
  replace hp7 := hp7.alloc (.cells (recV 0 0 0 (List.replicate 32 0)) 69)
  replace hW := hW.alloc (Nat.le_trans hB0 hW.size) (.cells (recV 0 0 0 (List.replicate 32 0)) 69)
  generalize w10.alloc (.cells (recV 0 0 0 (List.replicate 32 0)) 69) = w17 at *
  generalize w10.heap.size = p9 at hp9 lw_p9 lp2_p9 lgr_p9 lp7_p9 ⊢
  refine wpAnyH_ready (by kernel_rfl) (by simp) (readyCons 4 3 33 rfl rfl (by rfl) (fun K hK => wp_callF 69 #[.pointer (some ⟨gr, 0, none⟩), .int .i64 32] (by go_simp) (rnext_last gr b 13 32 (by decide) _ hgr) ?_) AllReadyH.nil)
  rintro e w18 ⟨rfl, rfl⟩
  replace hp2 := hp2.far (p := ⟨gr, 0, none⟩) (show p2 ≠ gr from (by omega)) (.slice (some ⟨b, 13, none⟩) 0 0)
  replace hp7 := hp7.far (p := ⟨gr, 0, none⟩) (show p7 ≠ gr from (by omega)) (.slice (some ⟨b, 13, none⟩) 0 0)
  replace hp9 := hp9.far (p := ⟨gr, 0, none⟩) (show p9 ≠ gr from (by omega)) (.slice (some ⟨b, 13, none⟩) 0 0)
  replace hgr : Blk (w17.setCell ⟨gr, 0, none⟩ (.slice (some ⟨b, 13, none⟩) 0 0)) gr 138 (#[.slice (some ⟨b, 13, none⟩) 0 0]) := hgr.set_ 0 (.slice (some ⟨b, 13, none⟩) 0 0)
  replace hW := hW.setCell (p := ⟨gr, 0, none⟩) lw_gr (.slice (some ⟨b, 13, none⟩) 0 0)
  generalize w17.setCell ⟨gr, 0, none⟩ (.slice (some ⟨b, 13, none⟩) 0 0) = w19 at *
  refine ⟨_, rfl, hK.out _ _ ⟨hp2, hp7, hW⟩ (fun _ => ?_)⟩
  clear hK K
  simp only [ls0, ls1]
  refine takeH 3 4 34 (.pointer (some ⟨b, 13, none⟩)) rfl rfl (by kernel_rfl) (by kernel_rfl) (by kernel_rfl) (fun _ _ _ h => h) (Or.inl ⟨by rfl, fun _ _ => exec_arrayAt 23 _ rfl _ _ (by exact Tryd.underlying23) _ 32 32 rfl (by decide)⟩) ⟨hp2, hp7, hW⟩ ?_
  simp only [ls0, ls1]
  refine takeH 2 5 35 (.agg (va .u8 (t))) rfl rfl (by kernel_rfl) (by kernel_rfl) (by kernel_rfl) (fun _ _ _ h => h) (Or.inl ⟨by rfl, fun _ h => exec_mid 23 (.tmp 34) rfl b 13 rfl (nv .u8 t) _ (rrange (rpart (rd.out _ h.2.2) 13 32 (by decide) q2q.out) (by decide)) (by exact Tryd.underlying23) rfl (szDg _ htl)⟩) ⟨hp2, hp7, hW⟩ ?_
  simp only [ls0, ls1]
  refine takeH 1 6 36 (.agg (recV st s c t)) rfl rfl (by kernel_rfl) (by kernel_rfl) (by kernel_rfl) (fun _ _ _ h => h) (Or.inl ⟨by rfl, fun _ _ => exec_build 69 _ rfl (recV st s c t) (by exact built_rec st s c t htl)⟩) ⟨hp2, hp7, hW⟩ ?_
  simp only [ls0, ls1]
  refine wpAnyH_ready (by kernel_rfl) (by simp) (readyRunS 0 8 (w19.setRow p9 (recV st s c t)) rfl rfl (by rfl) (exec_storeRow 69 (.tmp 9) (.tmp 36) rfl p9 rfl (recV st s c t) rfl 69 (recV 0 0 0 (List.replicate 32 0)) hp9 (sz_eq (recV_sz _ _ _ _ List.length_replicate) (recV_sz _ _ _ _ htl)) (recV_sz _ _ _ _ htl) (recV_one _ _ _ _)) ⟨hp2.rowFar (show p9 ≠ p2 from (by omega)) _, hp7.rowFar (show p9 ≠ p7 from (by omega)) _, below_setRow hW lw_p9 _⟩ (fun _ => ?_) AllReadyH.nil)
  replace hp2 := hp2.rowFar (show p9 ≠ p2 from (by omega)) (recV st s c t)
  replace hgr := hgr.rowFar (show p9 ≠ gr from (by omega)) (recV st s c t)
  replace hp7 := hp7.rowFar (show p9 ≠ p7 from (by omega)) (recV st s c t)
  replace hp9 := hp9.row (recV st s c t)
  replace hW := below_setRow hW lw_p9 (recV st s c t)
  generalize w19.setRow p9 (recV st s c t) = w20 at *
  refine wpAnyH_done (by kernel_rfl) ?_ _
  go_upto_region 7 with fail
  refine wl_lit ?_
  refine runL 37 (.agg (recV st s c t)) rfl (by rfl) (exec_row 69 (.tmp 9) rfl p9 rfl 69 (recV st s c t) _ hp9 (by exact Tryd.underlying69) rfl (recV_sz _ _ _ _ htl)) ?_
  simp only [ls0, ls1]
  refine callL 38 rfl (by rfl) (fun K hK => wp_callF 58 #[.agg (recV st s c t)] (by go_simp) (rccheck_any st s c t hst hst2 hs hc htl htb _) ?_)
  rintro e w21 ⟨rfl, bx⟩
  replace hp2 := hp2.below bx hp2.lt
  replace hgr := hgr.below bx hgr.lt
  replace hp7 := hp7.below bx hp7.lt
  replace hp9 := hp9.below bx hp9.lt
  replace hW := hW.trans (bx.mono (Nat.le_trans hB0 hW.size))
  clear bx
  refine ⟨_, rfl, hK.out _ _ ?_⟩
  clear hK K
  simp only [ls0, ls1]
  refine runL 10 (.int .i64 0) rfl (by rfl) (by go_simp) ?_
  simp only [ls0, ls1]
  refine nilL ?_
  go_upto_region 8 with fail
  refine wl_lit ?_
  refine runL 39 (.int .i64 0) rfl (by rfl) (by go_simp) ?_
  simp only [ls0, ls1]
  refine runL 40 (.bool false) rfl (by rfl) (by go_simp) ?_
  simp only [ls0, ls1]
  refine nilL ?_
  go_upto_region 10 with fail
  refine wl_lit ?_
  refine runL 43 (.agg (recV st s c t)) rfl (by rfl) (exec_row 69 (.tmp 9) rfl p9 rfl 69 (recV st s c t) _ hp9 (by exact Tryd.underlying69) rfl (recV_sz _ _ _ _ htl)) ?_
  simp only [ls0, ls1]
  refine runSL (w21.setRow p2 (recV st s c t)) rfl (by rfl) (exec_storeRow 69 (.tmp 2) (.tmp 43) rfl p2 rfl (recV st s c t) rfl 69 (recV 0 0 0 (List.replicate 32 0)) hp2 (sz_eq (recV_sz _ _ _ _ List.length_replicate) (recV_sz _ _ _ _ htl)) (recV_sz _ _ _ _ htl) (recV_one _ _ _ _)) ?_
  replace hgr := hgr.rowFar (show p2 ≠ gr from (by omega)) (recV st s c t)
  replace hp7 := hp7.rowFar (show p2 ≠ p7 from (by omega)) (recV st s c t)
  replace hp9 := hp9.rowFar (show p2 ≠ p9 from (by omega)) (recV st s c t)
  replace hp2 := hp2.row (recV st s c t)
  replace hW := below_setRow hW lw_p2 (recV st s c t)
  generalize w21.setRow p2 (recV st s c t) = w22 at *
  refine runL 3 (.int .i64 0) rfl (by rfl) (by go_simp) ?_
  simp only [ls0, ls1]
  refine nilL ?_
  go_wp2_with fail
  exact bodyPost_ret (results_row_tmp rfl _ _ p2 69 (recV st s c t) _ (.int .i64 0) rfl hp2 (by exact Tryd.underlying69) rfl (recV_sz _ _ _ _ htl) rfl) rfl ⟨rfl, hW⟩
theorem cb_len {r : List Nat} {e m : Nat} (h : r.length = 32) : (r ++ (beB e 8 ++ beB m 8)).length = 48 := by simp [beB_len, h]
set_option maxRecDepth 8000 in
set_option maxHeartbeats 4000000 in
theorem pcell_any (r : List Nat) (e m : Nat) (hrl : r.length = 32) (hrb : Byt r) (_he : e < 18446744073709551616) (_hm : m < 18446744073709551616) (w : World) :
  Calls Tryd.prog 7 #[.agg (celV r e m)] w fun e' w' => ∃ g, e' = .returned (.slice (some ⟨g, 0, none⟩) 48 48) ∧ Blk w' g 5 (va .u8 (r ++ (beB e 8 ++ beB m 8))) ∧ w.heap.size ≤ g ∧ Below w.heap.size w w' := by
 obtain ⟨B0, hB0e⟩ : ∃ b, w.heap.size = b := ⟨_, rfl⟩
 rw [hB0e]
 have hW : Below B0 w w := by rw [← hB0e]; exact Below.refl _ _
 have hB0 : B0 ≤ w.heap.size := by omega
 have hB0q := Lib.hid hB0e
 clear hB0e
 go_enter Tryd.func7, Tryd.ntmps7
 go_upto_region 0 with fail
 refine wl_lit ?_
 refine runWL 1 (.pointer (some ⟨w.heap.size, 0, none⟩)) (w.alloc (.cells (celV r e m) 26)) rfl (by rfl) (exec_box 26 (.tmp 0) rfl (.agg (celV r e m)) rfl) ?_
 simp only [ls0, ls1]
 have lw_p1 := Nat.le_trans hB0 hW.size
 have hp1 : Blk (w.alloc (.cells (celV r e m) 26)) w.heap.size 26 (celV r e m) := Blk.new _ _ _
 replace hW := hW.alloc (Nat.le_trans hB0 hW.size) (.cells (celV r e m) 26)
 generalize w.alloc (.cells (celV r e m) 26) = w1 at *
 generalize w.heap.size = p1 at hp1 lw_p1  ⊢
 refine runL 2 (.slice none 0 0) rfl (by rfl) (by go_simp) ?_
 simp only [ls0, ls1]
 refine nilL ?_
 go_upto_region 1 with fail
 refine wp_region_held_drew (S := fun wr => Blk wr p1 26 (celV r e m) ∧ Below B0 w wr) (by kernel_rfl) ⟨hp1.drew, below_drewN hW 1⟩ (fun hH => ?_)
 clear hp1 hW
 obtain ⟨hp1, hW⟩ := hH
 generalize w1.drew = w2 at *
 refine takeH 10 0 3 (.pointer (some ⟨p1, 0, none⟩)) rfl rfl (by kernel_rfl) (by kernel_rfl) (by kernel_rfl) (fun _ _ _ h => h) (Or.inl ⟨by rfl, fun w _ => by go_simp⟩) ⟨hp1, hW⟩ ?_
 simp only [ls0, ls1]
 refine takeH 9 1 4 (.slice (some ⟨p1, 0, none⟩) 32 32) rfl rfl (by kernel_rfl) (by kernel_rfl) (by kernel_rfl) (fun _ _ _ h => h) (Or.inl ⟨by rfl, fun w _ => by go_simp⟩) ⟨hp1, hW⟩ ?_
 simp only [ls0, ls1]
 refine takeH 8 2 5 (.pointer (some ⟨p1, 32, none⟩)) rfl rfl (by kernel_rfl) (by kernel_rfl) (by kernel_rfl) (fun _ _ _ h => h) (Or.inl ⟨by rfl, fun w _ => by go_simp⟩) ⟨hp1, hW⟩ ?_
 simp only [ls0, ls1]
 refine takeH 7 3 6 (.int .u64 ((e : Nat) : Int)) rfl rfl (by kernel_rfl) (by kernel_rfl) (by kernel_rfl) (fun _ _ _ h => h) (Or.inl ⟨by rfl, fun _ h => exec_cell 24 (.tmp 5) rfl p1 32 rfl (.int .u64 ((e : Nat) : Int)) _ Tryd.underlying24 rfl (celV_e h.1 hrl)⟩) ⟨hp1, hW⟩ ?_
 simp only [ls0, ls1]
 refine takeH 6 5 8 (.pointer (some ⟨p1, 33, none⟩)) rfl rfl (by kernel_rfl) (by kernel_rfl) (by kernel_rfl) (fun _ _ _ h => h) (Or.inl ⟨by rfl, fun w _ => by go_simp⟩) ⟨hp1, hW⟩ ?_
 simp only [ls0, ls1]
 refine takeH 5 6 9 (.int .u64 ((m : Nat) : Int)) rfl rfl (by kernel_rfl) (by kernel_rfl) (by kernel_rfl) (fun _ _ _ h => h) (Or.inl ⟨by rfl, fun _ h => exec_cell 24 (.tmp 8) rfl p1 33 rfl (.int .u64 ((m : Nat) : Int)) _ Tryd.underlying24 rfl (celV_m h.1 hrl)⟩) ⟨hp1, hW⟩ ?_
 simp only [ls0, ls1]
 refine wpAnyH_ready (by kernel_rfl) (by simp) (readyCons 4 4 7 rfl rfl (by rfl) (fun K hK => wp_callF 33 #[.int .u64 ((e : Nat) : Int)] (by go_simp) (put64_to e (beB e 8) rfl _) ?_) AllReadyH.nil)
 rintro e w3 ⟨g1, rfl, hg1, hgg, bx⟩
 have lp1_g1 : p1 < g1 := Nat.lt_of_lt_of_le hp1.lt hgg
 have lw_g1 : B0 ≤ g1 := Nat.le_trans (Nat.le_trans hB0 hW.size) hgg
 replace hp1 := hp1.below bx hp1.lt
 replace hW := hW.trans (bx.mono (Nat.le_trans hB0 hW.size))
 clear hgg
 clear bx
 refine ⟨_, rfl, hK.out _ _ ⟨hp1, hW⟩ (fun _ => ?_)⟩
 clear hK K
 simp only [ls0, ls1]
 refine wpAnyH_ready (by kernel_rfl) (by simp) (readyCons 3 7 10 rfl rfl (by rfl) (fun K hK => wp_callF 33 #[.int .u64 ((m : Nat) : Int)] (by go_simp) (put64_to m (beB m 8) rfl _) ?_) AllReadyH.nil)
 rintro e w4 ⟨g2, rfl, hg2, hgg, bx⟩
 have lp1_g2 : p1 < g2 := Nat.lt_of_lt_of_le hp1.lt hgg
 have lg1_g2 : g1 < g2 := Nat.lt_of_lt_of_le hg1.lt hgg
 have lw_g2 : B0 ≤ g2 := Nat.le_trans (Nat.le_trans hB0 hW.size) hgg
 replace hp1 := hp1.below bx hp1.lt
 replace hg1 := hg1.below bx hg1.lt
 replace hW := hW.trans (bx.mono (Nat.le_trans hB0 hW.size))
 clear hgg
 clear bx
 refine ⟨_, rfl, hK.out _ _ ⟨hp1, hW⟩ (fun _ => ?_)⟩
 clear hK K
 simp only [ls0, ls1]
 refine wpAnyH_ready (by kernel_rfl) (by simp) (readyRun 2 8 11 (.slice (some ⟨w4.heap.size, 0, none⟩) 3 3) (w4.alloc (.cells (#[.slice (some ⟨p1, 0, none⟩) 32 32, .slice (some ⟨g1, 0, none⟩) 8 8, .slice (some ⟨g2, 0, none⟩) 8 8]) 27)) rfl rfl (by rfl) (exec_bslice 88 3 _ rfl _ (by exact bs_3 (some ⟨p1, 0, none⟩) 32 32 (some ⟨g1, 0, none⟩) 8 8 (some ⟨g2, 0, none⟩) 8 8 _)) ⟨hp1.alloc _, hW.alloc (Nat.le_trans hB0 hW.size) _⟩ (fun _ => ?_) AllReadyH.nil)
 simp only [ls0, ls1]
 have lp1_q1 := hp1.lt
 have lg1_q1 := hg1.lt
 have lg2_q1 := hg2.lt
 have lw_q1 := Nat.le_trans hB0 hW.size
 have hq1 : Blk (w4.alloc (.cells (#[.slice (some ⟨p1, 0, none⟩) 32 32, .slice (some ⟨g1, 0, none⟩) 8 8, .slice (some ⟨g2, 0, none⟩) 8 8]) 27)) w4.heap.size 27 (#[.slice (some ⟨p1, 0, none⟩) 32 32, .slice (some ⟨g1, 0, none⟩) 8 8, .slice (some ⟨g2, 0, none⟩) 8 8]) := Blk.new _ _ _
 replace hp1 := hp1.alloc (.cells (#[.slice (some ⟨p1, 0, none⟩) 32 32, .slice (some ⟨g1, 0, none⟩) 8 8, .slice (some ⟨g2, 0, none⟩) 8 8]) 27)
 replace hg1 := hg1.alloc (.cells (#[.slice (some ⟨p1, 0, none⟩) 32 32, .slice (some ⟨g1, 0, none⟩) 8 8, .slice (some ⟨g2, 0, none⟩) 8 8]) 27)
 replace hg2 := hg2.alloc (.cells (#[.slice (some ⟨p1, 0, none⟩) 32 32, .slice (some ⟨g1, 0, none⟩) 8 8, .slice (some ⟨g2, 0, none⟩) 8 8]) 27)
 replace hW := hW.alloc (Nat.le_trans hB0 hW.size) (.cells (#[.slice (some ⟨p1, 0, none⟩) 32 32, .slice (some ⟨g1, 0, none⟩) 8 8, .slice (some ⟨g2, 0, none⟩) 8 8]) 27)
 generalize w4.alloc (.cells (#[.slice (some ⟨p1, 0, none⟩) 32 32, .slice (some ⟨g1, 0, none⟩) 8 8, .slice (some ⟨g2, 0, none⟩) 8 8]) 27) = w5 at *
 generalize w4.heap.size = q1 at hq1 lw_q1 lp1_q1 lg1_q1 lg2_q1 ⊢
 refine wpAnyH_ready (by kernel_rfl) (by simp) (readyCons 1 9 12 rfl rfl (by rfl) (fun K hK => wp_callF 9 #[.slice (some ⟨q1, 0, none⟩) 3 3] (by go_simp) (join_to [r, beB e 8, beB m 8] (r ++ (beB e 8 ++ beB m 8)) 3 3 _ 48 _ _ (parts_three hp1.lt hg1.lt hg2.lt hq1 (range_reads hp1.lt (celV_root hp1 hrl) hrl) (Nat.le_refl _) hrb (hg1.readsAll (Nat.lt_succ_self _) (beB_len _ _)) (Nat.le_refl _) (beB_byt _ _) (hg2.readsAll (Nat.lt_succ_self _) (beB_len _ _)) (Nat.le_refl _) (beB_byt _ _)) (by simp) (by omega) (Nat.le_refl _) (cb_len hrl) (by omega)) ?_) AllReadyH.nil)
 rintro e w6 ⟨g4, rfl, hg4, hgg, bx⟩
 have lp1_g4 : p1 < g4 := Nat.lt_of_lt_of_le hp1.lt hgg
 have lg1_g4 : g1 < g4 := Nat.lt_of_lt_of_le hg1.lt hgg
 have lg2_g4 : g2 < g4 := Nat.lt_of_lt_of_le hg2.lt hgg
 have lq1_g4 : q1 < g4 := Nat.lt_of_lt_of_le hq1.lt hgg
 have lw_g4 : B0 ≤ g4 := Nat.le_trans (Nat.le_trans hB0 hW.size) hgg
 replace hp1 := hp1.below bx hp1.lt
 replace hg1 := hg1.below bx hg1.lt
 replace hg2 := hg2.below bx hg2.lt
 replace hq1 := hq1.below bx hq1.lt
 replace hW := hW.trans (bx.mono (Nat.le_trans hB0 hW.size))
 clear hgg
 clear bx
 refine ⟨_, rfl, hK.out _ _ ⟨hp1, hW⟩ (fun _ => ?_)⟩
 clear hK K
 simp only [ls0, ls1]
 refine takeH 0 10 2 (.slice (some ⟨g4, 0, none⟩) 48 48) rfl rfl (by kernel_rfl) (by kernel_rfl) (by kernel_rfl) (fun _ _ _ h => h) (Or.inl ⟨by rfl, fun w _ => by go_simp⟩) ⟨hp1, hW⟩ ?_
 simp only [ls0, ls1]
 refine wpAnyH_done (by kernel_rfl) ?_ _
 go_wp2_with fail
 go_ret
 exact ⟨_, rfl, hg4, lw_g4, hW⟩
theorem get64_to9 (A : Option Addr) (cc B v : Nat) (l : List Nat) (hl : beB v 8 = l) (hv : v < 18446744073709551616) (_hcc : 8 ≤ cc) (w : World) (hr : Reads w B 1 A 8 (nv .u8 l)) :
  Calls Tryd.prog 35 #[.slice A 8 cc] w fun e w' => e = .returned (.tuple #[.int .u64 (v : Int), .int .i64 0]) ∧ Below w.heap.size w w' := by
 subst hl
 refine (get64_any A cc B (beB v 8) (beB_byt _ _) w hr).mono ?_
 rintro e w1 ⟨rfl, rfl⟩
 rw [beV_beB8 v hv]
 exact ⟨rfl, Below.refl _ _⟩
set_option maxRecDepth 8000 in
set_option maxHeartbeats 4000000 in
theorem gcell_any (b : Nat) (r : List Nat) (e m : Nat) (hrl : r.length = 32) (_hrb : Byt r) (he : e < 18446744073709551616) (hm : m < 18446744073709551616) (w : World) (hr : Reads w (b + 1) 1 (some ⟨b, 0, none⟩) 48 (nv .u8 (r ++ (beB e 8 ++ beB m 8)))) (hb : b + 1 ≤ w.heap.size) :
  Calls Tryd.prog 8 #[.slice (some ⟨b, 0, none⟩) 48 48] w fun e' w' => e' = .returned (.tuple #[.agg (celV r e m), .int .i64 0]) ∧ Below w.heap.size w w' := by
 obtain ⟨B0, hB0e⟩ : ∃ b, w.heap.size = b := ⟨_, rfl⟩
 rw [hB0e]
 have hW : Below B0 w w := by rw [← hB0e]; exact Below.refl _ _
 have hB0 : B0 ≤ w.heap.size := by omega
 have hbB : b + 1 ≤ B0 := by omega
 have rd := reads_of hr hbB
 clear hr
 have hB0q := Lib.hid hB0e
 clear hB0e
 have q0 : ((r ++ (beB e 8 ++ beB m 8)).drop 0).take 32 = r := by rw [List.drop_zero, List.take_left' hrl]
 have q1 : ((r ++ (beB e 8 ++ beB m 8)).drop 32).take 8 = beB e 8 := by rw [List.drop_left' hrl, List.take_left' (beB_len e 8)]
 have q2 : ((r ++ (beB e 8 ++ beB m 8)).drop 40).take 8 = beB m 8 := by
  rw [show (40 : Nat) = 32 + 8 by rfl, ← List.drop_drop, List.drop_left' hrl, List.drop_left' (beB_len e 8), List.take_of_length_le (by rw [beB_len]; exact Nat.le_refl _)]
 have q0q := Lib.hid q0
 have q1q := Lib.hid q1
 have q2q := Lib.hid q2
 clear q0 q1 q2
 go_enter Tryd.func8, Tryd.ntmps8
 go_upto_region 0 with fail
 refine wl_lit ?_
 refine runWL 2 (.pointer (some ⟨w.heap.size, 0, none⟩)) (w.alloc (.cells (celV (List.replicate 32 0) 0 0) 26)) rfl (by rfl) (exec_allocV 26 rfl _ (zv_Cell _)) ?_
 simp only [ls0, ls1]
 have lw_p2 := Nat.le_trans hB0 hW.size
 have hp2 : Blk (w.alloc (.cells (celV (List.replicate 32 0) 0 0) 26)) w.heap.size 26 (celV (List.replicate 32 0) 0 0) := Blk.new _ _ _
 replace hW := hW.alloc (Nat.le_trans hB0 hW.size) (.cells (celV (List.replicate 32 0) 0 0) 26)
 generalize w.alloc (.cells (celV (List.replicate 32 0) 0 0) 26) = w1 at *
 generalize w.heap.size = p2 at hp2 lw_p2  ⊢
 refine runL 3 (.int .i64 0) rfl (by rfl) (by go_simp) ?_
 simp only [ls0, ls1]
 refine nilL ?_
 go_upto_region 1 with fail
 refine wl_lit ?_
 refine runL 12 (.slice (some ⟨b, 0, none⟩) 48 48) rfl (by rfl) (by go_simp) ?_
 simp only [ls0, ls1]
 refine callL 13 rfl (by rfl) (fun K hK => wp_callF 34 #[.slice (some ⟨b, 0, none⟩) 48 48, .int .i64 48] (by go_simp) (rread_ok b 48 48 rfl _) ?_)
 rintro e w2 ⟨gr, rfl, hgr, hgg, bx⟩
 have lp2_gr : p2 < gr := Nat.lt_of_lt_of_le hp2.lt hgg
 have lw_gr : B0 ≤ gr := Nat.le_trans (Nat.le_trans hB0 hW.size) hgg
 replace hp2 := hp2.below bx hp2.lt
 replace hW := hW.trans (bx.mono (Nat.le_trans hB0 hW.size))
 clear hgg
 clear bx
 refine ⟨_, rfl, hK.out _ _ ?_⟩
 clear hK K
 simp only [ls0, ls1]
 refine runL 11 (.tuple #[.func (.func 69) #[.pointer (some ⟨gr, 0, none⟩)] #[], .int .i64 0]) rfl (by rfl) (by go_simp) ?_
 simp only [ls0, ls1]
 refine runL 14 (.func (.func 69) #[.pointer (some ⟨gr, 0, none⟩)] #[]) rfl (by rfl) (by go_simp) ?_
 simp only [ls0, ls1]
 refine runL 15 (.int .i64 0) rfl (by rfl) (by go_simp) ?_
 simp only [ls0, ls1]
 refine runL 4 (.func (.func 69) #[.pointer (some ⟨gr, 0, none⟩)] #[]) rfl (by rfl) (by go_simp) ?_
 simp only [ls0, ls1]
 refine runL 5 (.int .i64 0) rfl (by rfl) (by go_simp) ?_
 simp only [ls0, ls1]
 refine nilL ?_
 go_upto_region 2 with fail
 refine wl_lit ?_
 refine runL 16 (.int .i64 0) rfl (by rfl) (by go_simp) ?_
 simp only [ls0, ls1]
 refine runL 17 (.bool false) rfl (by rfl) (by go_simp) ?_
 simp only [ls0, ls1]
 refine nilL ?_
 go_upto_region 4 with fail
 refine wl_lit ?_
 refine runL 20 (.func (.func 69) #[.pointer (some ⟨gr, 0, none⟩)] #[]) rfl (by rfl) (by go_simp) ?_
 simp only [ls0, ls1]
 refine callL 21 rfl (by rfl) (fun K hK => wp_callF 69 #[.pointer (some ⟨gr, 0, none⟩), .int .i64 32] (by go_simp) (rnext_any gr b 0 48 48 32 32 16 16 (by decide) (Nat.le_refl _) rfl rfl rfl _ hgr) ?_)
 rintro e w3 ⟨rfl, rfl⟩
 replace hp2 := hp2.far (p := ⟨gr, 0, none⟩) (show p2 ≠ gr from (by omega)) (.slice (some ⟨b, 32, none⟩) 16 16)
 replace hgr : Blk (w2.setCell ⟨gr, 0, none⟩ (.slice (some ⟨b, 32, none⟩) 16 16)) gr 138 (#[.slice (some ⟨b, 32, none⟩) 16 16]) := hgr.set_ 0 (.slice (some ⟨b, 32, none⟩) 16 16)
 replace hW := hW.setCell (p := ⟨gr, 0, none⟩) lw_gr (.slice (some ⟨b, 32, none⟩) 16 16)
 generalize w2.setCell ⟨gr, 0, none⟩ (.slice (some ⟨b, 32, none⟩) 16 16) = w4 at *
 refine ⟨_, rfl, hK.out _ _ ?_⟩
 clear hK K
 simp only [ls0, ls1]
 refine runL 22 (.pointer (some ⟨b, 0, none⟩)) rfl (by rfl) (exec_arrayAt 23 _ rfl _ _ (by exact Tryd.underlying23) _ 32 48 rfl (by decide)) ?_
 simp only [ls0, ls1]
 refine runL 23 (.agg (va .u8 (r))) rfl (by rfl) (exec_mid 23 (.tmp 22) rfl b 0 rfl (nv .u8 r) _ (rrange (rpart (rd.out _ hW) 0 32 (by decide) q0q.out) (by decide)) (by exact Tryd.underlying23) rfl (szDg _ hrl)) ?_
 simp only [ls0, ls1]
 refine runWL 6 (.pointer (some ⟨w4.heap.size, 0, none⟩)) (w4.alloc (.cells (va .u8 (List.replicate 32 0)) 23)) rfl (by rfl) (exec_allocV 23 rfl _ (zv_api_Digest _)) ?_
 simp only [ls0, ls1]
 have lp2_p6 := hp2.lt
 have lgr_p6 := hgr.lt
 have lw_p6 := Nat.le_trans hB0 hW.size
 have hp6 : Blk (w4.alloc (.cells (va .u8 (List.replicate 32 0)) 23)) w4.heap.size 23 (va .u8 (List.replicate 32 0)) := Blk.new _ _ _
 replace hp2 := hp2.alloc (.cells (va .u8 (List.replicate 32 0)) 23)
 replace hgr := hgr.alloc (.cells (va .u8 (List.replicate 32 0)) 23)
 replace hW := hW.alloc (Nat.le_trans hB0 hW.size) (.cells (va .u8 (List.replicate 32 0)) 23)
 generalize w4.alloc (.cells (va .u8 (List.replicate 32 0)) 23) = w5 at *
 generalize w4.heap.size = p6 at hp6 lw_p6 lp2_p6 lgr_p6 ⊢
 refine runSL (w5.setRow p6 (va .u8 (r))) rfl (by rfl) (exec_storeRow 23 (.tmp 6) (.tmp 23) rfl p6 rfl (va .u8 (r)) rfl 23 (va .u8 (List.replicate 32 0)) hp6 (sz_eq (sz_api_Digest _ (List.length_replicate)) (sz_api_Digest _ (hrl))) (sz_api_Digest _ (hrl)) (va_ones .u8 _)) ?_
 replace hp2 := hp2.rowFar (show p6 ≠ p2 from (by omega)) (va .u8 (r))
 replace hgr := hgr.rowFar (show p6 ≠ gr from (by omega)) (va .u8 (r))
 replace hp6 := hp6.row (va .u8 (r))
 replace hW := below_setRow hW lw_p6 (va .u8 (r))
 generalize w5.setRow p6 (va .u8 (r)) = w6 at *
 refine nilL ?_
 go_upto_region 5 with fail
 refine wl_lit ?_
 refine runL 25 (.func (.func 69) #[.pointer (some ⟨gr, 0, none⟩)] #[]) rfl (by rfl) (by go_simp) ?_
 simp only [ls0, ls1]
 refine callL 26 rfl (by rfl) (fun K hK => wp_callF 69 #[.pointer (some ⟨gr, 0, none⟩), .int .i64 8] (by go_simp) (rnext_any gr b 32 16 16 8 40 8 8 (by decide) (Nat.le_refl _) rfl rfl rfl _ hgr) ?_)
 rintro e w7 ⟨rfl, rfl⟩
 replace hp2 := hp2.far (p := ⟨gr, 0, none⟩) (show p2 ≠ gr from (by omega)) (.slice (some ⟨b, 40, none⟩) 8 8)
 replace hp6 := hp6.far (p := ⟨gr, 0, none⟩) (show p6 ≠ gr from (by omega)) (.slice (some ⟨b, 40, none⟩) 8 8)
 replace hgr : Blk (w6.setCell ⟨gr, 0, none⟩ (.slice (some ⟨b, 40, none⟩) 8 8)) gr 138 (#[.slice (some ⟨b, 40, none⟩) 8 8]) := hgr.set_ 0 (.slice (some ⟨b, 40, none⟩) 8 8)
 replace hW := hW.setCell (p := ⟨gr, 0, none⟩) lw_gr (.slice (some ⟨b, 40, none⟩) 8 8)
 generalize w6.setCell ⟨gr, 0, none⟩ (.slice (some ⟨b, 40, none⟩) 8 8) = w8 at *
 refine ⟨_, rfl, hK.out _ _ ?_⟩
 clear hK K
 simp only [ls0, ls1]
 refine callL 27 rfl (by rfl) (fun K hK => wp_callF 35 #[.slice (some ⟨b, 32, none⟩) 8 16] (by go_simp) (get64_to9 _ 16 _ e (beB e 8) rfl he (by decide) _ (rpart (rd.out _ hW) 32 8 (by decide) q1q.out)) ?_)
 rintro e w9 ⟨rfl, bx⟩
 replace hp2 := hp2.below bx hp2.lt
 replace hgr := hgr.below bx hgr.lt
 replace hp6 := hp6.below bx hp6.lt
 replace hW := hW.trans (bx.mono (Nat.le_trans hB0 hW.size))
 clear bx
 refine ⟨_, rfl, hK.out _ _ ?_⟩
 clear hK K
 simp only [ls0, ls1]
 refine runL 24 (.tuple #[.int .u64 ((e : Nat) : Int), .int .i64 0]) rfl (by rfl) (by go_simp) ?_
 simp only [ls0, ls1]
 refine runL 28 (.int .u64 ((e : Nat) : Int)) rfl (by rfl) (by go_simp) ?_
 simp only [ls0, ls1]
 refine runL 29 (.int .i64 0) rfl (by rfl) (by go_simp) ?_
 simp only [ls0, ls1]
 refine runL 7 (.int .u64 ((e : Nat) : Int)) rfl (by rfl) (by go_simp) ?_
 simp only [ls0, ls1]
 refine runL 8 (.int .i64 0) rfl (by rfl) (by go_simp) ?_
 simp only [ls0, ls1]
 refine nilL ?_
 go_upto_region 6 with fail
 refine wl_lit ?_
 refine runL 31 (.func (.func 69) #[.pointer (some ⟨gr, 0, none⟩)] #[]) rfl (by rfl) (by go_simp) ?_
 simp only [ls0, ls1]
 refine callL 32 rfl (by rfl) (fun K hK => wp_callF 69 #[.pointer (some ⟨gr, 0, none⟩), .int .i64 8] (by go_simp) (rnext_last gr b 40 8 (by decide) _ hgr) ?_)
 rintro e w10 ⟨rfl, rfl⟩
 replace hp2 := hp2.far (p := ⟨gr, 0, none⟩) (show p2 ≠ gr from (by omega)) (.slice (some ⟨b, 40, none⟩) 0 0)
 replace hp6 := hp6.far (p := ⟨gr, 0, none⟩) (show p6 ≠ gr from (by omega)) (.slice (some ⟨b, 40, none⟩) 0 0)
 replace hgr : Blk (w9.setCell ⟨gr, 0, none⟩ (.slice (some ⟨b, 40, none⟩) 0 0)) gr 138 (#[.slice (some ⟨b, 40, none⟩) 0 0]) := hgr.set_ 0 (.slice (some ⟨b, 40, none⟩) 0 0)
 replace hW := hW.setCell (p := ⟨gr, 0, none⟩) lw_gr (.slice (some ⟨b, 40, none⟩) 0 0)
 generalize w9.setCell ⟨gr, 0, none⟩ (.slice (some ⟨b, 40, none⟩) 0 0) = w11 at *
 refine ⟨_, rfl, hK.out _ _ ?_⟩
 clear hK K
 simp only [ls0, ls1]
 refine callL 33 rfl (by rfl) (fun K hK => wp_callF 35 #[.slice (some ⟨b, 40, none⟩) 8 8] (by go_simp) (get64_to9 _ 8 _ m (beB m 8) rfl hm (by decide) _ (rpart (rd.out _ hW) 40 8 (by decide) q2q.out)) ?_)
 rintro e w12 ⟨rfl, bx⟩
 replace hp2 := hp2.below bx hp2.lt
 replace hgr := hgr.below bx hgr.lt
 replace hp6 := hp6.below bx hp6.lt
 replace hW := hW.trans (bx.mono (Nat.le_trans hB0 hW.size))
 clear bx
 refine ⟨_, rfl, hK.out _ _ ?_⟩
 clear hK K
 simp only [ls0, ls1]
 refine runL 30 (.tuple #[.int .u64 ((m : Nat) : Int), .int .i64 0]) rfl (by rfl) (by go_simp) ?_
 simp only [ls0, ls1]
 refine runL 34 (.int .u64 ((m : Nat) : Int)) rfl (by rfl) (by go_simp) ?_
 simp only [ls0, ls1]
 refine runL 35 (.int .i64 0) rfl (by rfl) (by go_simp) ?_
 simp only [ls0, ls1]
 refine runL 9 (.int .u64 ((m : Nat) : Int)) rfl (by rfl) (by go_simp) ?_
 simp only [ls0, ls1]
 refine runL 10 (.int .i64 0) rfl (by rfl) (by go_simp) ?_
 simp only [ls0, ls1]
 refine nilL ?_
 go_upto_region 7 with fail
 refine wl_lit ?_
 refine runL 36 (.agg (va .u8 (r))) rfl (by rfl) (exec_row 23 (.tmp 6) rfl p6 rfl 23 (va .u8 (r)) _ hp6 (by exact Tryd.underlying23) rfl (sz_api_Digest _ (hrl))) ?_
 simp only [ls0, ls1]
 refine runL 37 (.int .u64 ((e : Nat) : Int)) rfl (by rfl) (by go_simp) ?_
 simp only [ls0, ls1]
 refine runL 38 (.int .u64 ((m : Nat) : Int)) rfl (by rfl) (by go_simp) ?_
 simp only [ls0, ls1]
 refine runL 39 (.agg (celV r e m)) rfl (by rfl) (exec_build 26 _ rfl (celV r e m) (by exact built_cel r e m hrl)) ?_
 simp only [ls0, ls1]
 refine runSL (w12.setRow p2 (celV r e m)) rfl (by rfl) (exec_storeRow 26 (.tmp 2) (.tmp 39) rfl p2 rfl (celV r e m) rfl 26 (celV (List.replicate 32 0) 0 0) hp2 (sz_eq (celV_sz _ _ _ List.length_replicate) (celV_sz _ _ _ hrl)) (celV_sz _ _ _ hrl) (celV_one _ _ _)) ?_
 replace hgr := hgr.rowFar (show p2 ≠ gr from (by omega)) (celV r e m)
 replace hp6 := hp6.rowFar (show p2 ≠ p6 from (by omega)) (celV r e m)
 replace hp2 := hp2.row (celV r e m)
 replace hW := below_setRow hW lw_p2 (celV r e m)
 generalize w12.setRow p2 (celV r e m) = w13 at *
 refine runL 3 (.int .i64 0) rfl (by rfl) (by go_simp) ?_
 simp only [ls0, ls1]
 refine nilL ?_
 go_wp2_with fail
 exact bodyPost_ret (results_row_tmp rfl _ _ p2 26 (celV r e m) _ (.int .i64 0) rfl hp2 (by exact Tryd.underlying26) rfl (celV_sz _ _ _ hrl) rfl) rfl ⟨rfl, hW⟩
end Go.Proofs.YtcdgcaljlmondaaDoor
/-
  The walks of ledgers.valid, Check, joined, Add, slices.Grow, Concat, Clip of uses. (Printed by mktop2.py.)
-/
namespace Go.Proofs.YtcdgcaljlmondaaDoor
set_option maxRecDepth 16384
open Go.RowKit Sh
def useL (ky : List Nat) (s c a b : Nat) : List Value := nv .u8 ky ++ (rgV s c a b).toList
def useV (ky : List Nat) (s c a b : Nat) : Array Value := (useL ky s c a b).toArray
section
variable {ky : List Nat} {s c a b : Nat}
theorem useL_len (hk : ky.length = 16) : (useL ky s c a b).length = 20 := by simp [useL, nv_len, hk, rgV]
theorem useL_one : ∀ v ∈ useL ky s c a b, v.oneCell' = true := fun v hv => by
  rcases List.mem_append.1 hv with h | h
  · exact nv_one _ _ v h
  · exact rgV_one _ _ _ _ v h
theorem useV_one (ky : List Nat) (s c a b : Nat) : ∀ v ∈ (useV ky s c a b).toList, v.oneCell' = true := useL_one
theorem useV_sz (s c a b : Nat) (hk : ky.length = 16) : (Tryd.prog.info? 84).map (·.size) = some (useV ky s c a b).size := by
 have e : (useV ky s c a b).size = 20 := by simp only [useV, List.size_toArray]; exact useL_len hk
 have h0 : (Tryd.prog.info? 84).map (·.size) = some 20 := by kernel_rfl
 rw [e, h0]
variable {W : World} {g : Nat} {T : TypeId}
theorem useV_at (hb : Blk W g T (useV ky s c a b)) (hk : ky.length = 16) (k : Nat) {v : Value} (hv : (rgV s c a b)[k]? = some v) : W.cell? ⟨g, 16 + k, none⟩ = some v := hb.cellIs (16 + k) (by
 rw [← hv, ← Array.getElem?_toList, ← Array.getElem?_toList]
 show (nv .u8 ky ++ (rgV s c a b).toList)[16 + k]? = _
 rw [List.getElem?_append_right (by rw [nv_len, hk]; omega), nv_len, hk, Nat.add_sub_cancel_left])
theorem useV_key (hb : Blk W g T (useV ky s c a b)) (hk : ky.length = 16) : W.rangeAt g 0 (nv .u8 ky) := by
 have h1 := hb.range 0 16
 rwa [List.drop_zero, show (useV ky s c a b).toList = nv .u8 ky ++ (rgV s c a b).toList from rfl, List.take_left' (by rw [nv_len, hk])] at h1
theorem useV_rg (hb : Blk W g T (useV ky s c a b)) (hk : ky.length = 16) : W.rangeAt g 16 (rgV s c a b).toList := by
 have h1 := hb.range 16 4
 rwa [show (useV ky s c a b).toList = nv .u8 ky ++ (rgV s c a b).toList from rfl, List.drop_left' (by rw [nv_len, hk]), List.take_of_length_le (by simp [rgV])] at h1
theorem useV_no (hb : Blk W g T (useV ky s c a b)) (hk : ky.length = 16) : W.rangeAt g 16 (noV s c).toList := by
 have h1 := hb.range 16 2
 have e : ((useV ky s c a b).toList.drop 16).take 2 = (noV s c).toList := by
  rw [show (useV ky s c a b).toList = nv .u8 ky ++ (rgV s c a b).toList from rfl, List.drop_left' (by rw [nv_len, hk])]; rfl
 rwa [e] at h1
end
theorem use_info : (Tryd.prog.info? 84).map (fun i => (i.zero, i.size, i.bytes)) = some (some (.agg (useV (List.replicate 16 0) 0 0 0 0)), 20, 40) := by kernel_rfl
theorem zv_Use (w : World) : (zeroValue 84).run Tryd.prog w = .ok (.agg (useV (List.replicate 16 0) 0 0 0 0)) w := by kernel_rfl
theorem zv_Ledger (w : World) : (zeroValue 80).run Tryd.prog w = .ok (.agg #[.slice none 0 0]) w := by kernel_rfl
/-- the slice with address A owns the cells xs of n uses -/
def OwnU (w : World) (B0 : Nat) (A : Option Addr) (n c : Nat) (xs : List Value) : Prop := w.ownsRow B0 84 20 (.slice A n c) n xs
theorem OwnU.reads {w : World} {B0 n c : Nat} {A : Option Addr} {xs : List Value} (h : OwnU w B0 A n c xs) : Reads w w.heap.size 20 A n xs := Reads.of_own h
theorem OwnU.below {w w' : World} {B0 n c : Nat} {A : Option Addr} {xs : List Value} (h : OwnU w B0 A n c xs) (bx : Below w.heap.size w w') : OwnU w' B0 A n c xs :=
 World.ownsRow.kept h (grown_of_below bx) (by cases A <;> simp [Value.ownBlock])
theorem OwnU.alloc {w : World} {B0 n c : Nat} {A : Option Addr} {xs : List Value} (h : OwnU w B0 A n c xs) (o : Obj) : OwnU (w.alloc o) B0 A n c xs := World.ownsRow.alloc h o
theorem OwnU.lt {w : World} {B0 n c : Nat} {A : Option Addr} {xs : List Value} (h : OwnU w B0 A n c xs) {ad : Addr} (ha : A = some ad) : B0 ≤ ad.block ∧ ad.block < w.heap.size :=
 World.ownsRow.lt h ad.block ((ob_of A n c _).2 ⟨ad, ha, rfl⟩)
theorem OwnU.new_off {w : World} {B0 n c : Nat} {A : Option Addr} {xs : List Value} (h : OwnU w B0 A n c xs) : Off A w.heap.size := fun a ha e => by have := (h.lt ha).2; omega
theorem OwnU.off_lt {w : World} {B0 n c x : Nat} {A : Option Addr} {xs : List Value} (h : OwnU w B0 A n c xs) (hx : x < B0) : Off A x := fun a ha e => by have := (h.lt ha).1; omega
theorem OwnU.rowFar {w : World} {B0 n c g : Nat} {A : Option Addr} {xs : List Value} (h : OwnU w B0 A n c xs) (hne : Off A g) (cs : Array Value) : OwnU (w.setRow g cs) B0 A n c xs := by
 refine World.ownsRow.kept h (grown_row w g cs) ?_
 cases A with
 | none => exact .inl rfl
 | some a => exact .inr fun e => hne a rfl (Option.some.inj e)
theorem OwnU.mono {w : World} {B0 B1 n c : Nat} {A : Option Addr} {xs : List Value} (h : OwnU w B0 A n c xs) (hb : B1 ≤ B0) : OwnU w B1 A n c xs := by
  refine ⟨h.1, ?_⟩
  rcases h.2 with h0 | ⟨g, cap, cur, e, hg, r⟩
  · exact .inl h0
  · exact .inr ⟨g, cap, cur, e, Nat.le_trans hb hg, r⟩
/-- append(nil, make([]Use, k)...), of which nothing is taken -/
theorem use_zeros (k : Nat) (hk : 0 < k) (hk4 : k ≤ 4) (ty : TypeId) (w : World) : ∃ g c w', (Builtin.append_ #[78, 3] ty #[.slice none 0 0, .int .i64 (k : Int)]).run Tryd.prog w = .ok (.slice (some ⟨g, 0, none⟩) k c) w' ∧ OwnU w' w.heap.size (some ⟨g, 0, none⟩) 0 c [] ∧ k ≤ c ∧ w.heap.size ≤ g ∧ Below w.heap.size w w' := by
 obtain ⟨i0, hi0, hz0, hz1, hz2⟩ := info_parts use_info
 have hr := Lib.run_append_nil_zeros (P := Tryd.prog) w 78 3 ty 84 i0 _ .i64 .i64 Tryd.underlying78 Tryd.underlying3 hi0 hz0 k hk (by omega) (by omega) (by rw [hz2]; omega)
 have hge := grownCap_ge w k 0 84
 have hcm : grownCap w k 0 84 ≤ maxLen := grownCap_le_maxLen w k 0 84 (by unfold maxLen; omega)
 refine ⟨_, _, _, hr, ⟨rfl, .inr ⟨w.heap.size, _, _, rfl, Nat.le_refl _, heap_alloc_new w.drew _, Nat.zero_le _, hcm, ?_, rfl⟩⟩, hge, Nat.le_refl _, (below_drewN (Below.refl _ w) 1).alloc (Nat.le_refl _) _⟩
 have hzs : (Value.agg (useV (List.replicate 16 0) 0 0 0 0)).cells.size = 20 := rfl
 simp only [Array.size_append, Builtin.zeroCells, Array.size_map, Array.size_range, hzs]
 omega

set_option maxRecDepth 8000 in
set_option maxHeartbeats 4000000 in
theorem uvalid_any (ky : List Nat) (s c a b : Nat) (hkl : ky.length = 16) (_hkb : Byt ky) (hab : a ≤ b) (w : World) :
  Calls Tryd.prog 63 #[.agg (useV ky s c a b)] w fun e w' => e = .returned (.bool true) ∧ Below w.heap.size w w' := by
 have habI : (a : Int) ≤ (b : Int) := by omega
 obtain ⟨B0, hB0e⟩ : ∃ b, w.heap.size = b := ⟨_, rfl⟩
 rw [hB0e]
 have hW : Below B0 w w := by rw [← hB0e]; exact Below.refl _ _
 have hB0 : B0 ≤ w.heap.size := by omega
 have hB0q := Lib.hid hB0e
 clear hB0e
 go_enter Tryd.func63, Tryd.ntmps63
 go_upto_region 0 with fail
 refine wl_lit ?_
 refine runWL 1 (.pointer (some ⟨w.heap.size, 0, none⟩)) (w.alloc (.cells (useV ky s c a b) 84)) rfl (by rfl) (exec_box 84 (.tmp 0) rfl (.agg (useV ky s c a b)) rfl) ?_
 simp only [ls0, ls1]
 have lw_p1 := Nat.le_trans hB0 hW.size
 have hp1 : Blk (w.alloc (.cells (useV ky s c a b) 84)) w.heap.size 84 (useV ky s c a b) := Blk.new _ _ _
 replace hW := hW.alloc (Nat.le_trans hB0 hW.size) (.cells (useV ky s c a b) 84)
 generalize w.alloc (.cells (useV ky s c a b) 84) = w1 at *
 generalize w.heap.size = p1 at hp1 lw_p1  ⊢
 refine runL 2 (.bool false) rfl (by rfl) (by go_simp) ?_
 simp only [ls0, ls1]
 refine nilL ?_
 go_upto_region 1 with fail
 refine wl_lit ?_
 refine runL 3 (.pointer (some ⟨p1, 16, none⟩)) rfl (by rfl) (by go_simp) ?_
 simp only [ls0, ls1]
 refine runL 4 (.pointer (some ⟨p1, 18, none⟩)) rfl (by rfl) (by go_simp) ?_
 simp only [ls0, ls1]
 refine runL 5 (.int .u32 ((a : Nat) : Int)) rfl (by rfl) (exec_cell 38 (.tmp 4) rfl p1 18 rfl (.int .u32 ((a : Nat) : Int)) _ Tryd.underlying38 rfl (useV_at hp1 hkl 2 rfl)) ?_
 simp only [ls0, ls1]
 refine runL 6 (.pointer (some ⟨p1, 16, none⟩)) rfl (by rfl) (by go_simp) ?_
 simp only [ls0, ls1]
 refine runL 7 (.pointer (some ⟨p1, 19, none⟩)) rfl (by rfl) (by go_simp) ?_
 simp only [ls0, ls1]
 refine runL 8 (.int .u32 ((b : Nat) : Int)) rfl (by rfl) (exec_cell 38 (.tmp 7) rfl p1 19 rfl (.int .u32 ((b : Nat) : Int)) _ Tryd.underlying38 rfl (useV_at hp1 hkl 3 rfl)) ?_
 simp only [ls0, ls1]
 refine runL 9 (.bool true) rfl (by rfl) (by go_simp) ?_
 simp only [ls0, ls1]
 refine runL 2 (.bool true) rfl (by rfl) (by go_simp) ?_
 simp only [ls0, ls1]
 refine nilL ?_
 go_wp2_with fail
 go_ret
 exact ⟨rfl, hW⟩
theorem flat_rep_get {l : List Value} {n k j : Nat} (m : Nat) (hl : l.length = m) (hk : k < n) (hj : j < m) : ((List.replicate n l).flatten)[k * m + j]? = l[j]? := by
 induction n generalizing k with
 | zero => omega
 | succ n ih =>
  rw [List.replicate_succ, List.flatten_cons]
  cases k with
  | zero => rw [Nat.zero_mul, Nat.zero_add, List.getElem?_append_left (by omega)]
  | succ k =>
   rw [List.getElem?_append_right (by rw [hl, Nat.succ_mul]; omega), hl, show (k + 1) * m + j - m = k * m + j by rw [Nat.succ_mul]; omega]
   exact ih (by omega)

set_option maxRecDepth 8000 in
set_option maxHeartbeats 4000000 in
theorem lcheck_any (ky : List Nat) (s c a b : Nat) (hkl : ky.length = 16) (hkb : Byt ky) (hab : a ≤ b) (A : Option Addr) (n cc B : Nat) (hn : n ≤ 4) (w : World) (hr : Reads w B 20 A n ((List.replicate n (useL ky s c a b)).flatten)) (hB : B ≤ w.heap.size) :
    Calls Tryd.prog 62 #[.agg #[.slice A n cc]] w fun e w' => e = .returned (.int .i64 0) ∧ Below w.heap.size w w' := by
  obtain ⟨B0, hB0e⟩ : ∃ b, w.heap.size = b := ⟨_, rfl⟩
  rw [hB0e]
  have hW : Below B0 w w := by rw [← hB0e]; exact Below.refl _ _
  have hB0 : B0 ≤ w.heap.size := by omega
  have rd : Hid (∀ W, Below B0 w W → Reads W B 20 A n ((List.replicate n (useL ky s c a b)).flatten)) := Lib.hid fun W hb => hr.below (hb.mono (by omega))
  clear hr
  have h1 : ¬ (65536 : Int) < (n : Int) := by omega
  have hB0q := Lib.hid hB0e
  clear hB0e
  go_enter Tryd.func62, Tryd.ntmps62
  go_upto_region 0 with fail
  refine wl_lit ?_
  refine runWL 1 (.pointer (some ⟨w.heap.size, 0, none⟩)) (w.alloc (.cells (#[.slice (A) n cc]) 80)) rfl (by rfl) (exec_box 80 (.tmp 0) rfl (.agg (#[.slice (A) n cc])) rfl) ?_
  simp only [ls0, ls1]
  have lw_p1 := Nat.le_trans hB0 hW.size
  have hp1 : Blk (w.alloc (.cells (#[.slice (A) n cc]) 80)) w.heap.size 80 (#[.slice (A) n cc]) := Blk.new _ _ _
  replace hW := hW.alloc (Nat.le_trans hB0 hW.size) (.cells (#[.slice (A) n cc]) 80)
  generalize w.alloc (.cells (#[.slice (A) n cc]) 80) = w1 at *
  generalize w.heap.size = p1 at hp1 lw_p1  ⊢
  refine runL 2 (.int .i64 0) rfl (by rfl) (by go_simp) ?_
  simp only [ls0, ls1]
  refine nilL ?_
  go_upto_region 1 with fail
  refine wl_lit ?_
  refine runL 5 (.pointer (some ⟨p1, 0, none⟩)) rfl (by rfl) (by go_simp) ?_
  simp only [ls0, ls1]
  refine runL 6 (.slice (A) n cc) rfl (by rfl) (exec_cell 78 (.tmp 5) rfl p1 0 rfl (.slice (A) n cc) _ Tryd.underlying78 rfl (hp1.cellIs 0 rfl)) ?_
  simp only [ls0, ls1]
  refine runL 7 (.int .i64 (n)) rfl (by rfl) (by go_simp) ?_
  simp only [ls0, ls1]
  refine runL 8 (.bool false) rfl (by rfl) (by go_simp) ?_
  simp only [ls0, ls1]
  refine nilL ?_
  go_upto_region 3 with fail
  refine wl_lit ?_
  refine runL 9 (.pointer (some ⟨p1, 0, none⟩)) rfl (by rfl) (by go_simp) ?_
  simp only [ls0, ls1]
  refine runL 10 (.slice (A) n cc) rfl (by rfl) (exec_cell 78 (.tmp 9) rfl p1 0 rfl (.slice (A) n cc) _ Tryd.underlying78 rfl (hp1.cellIs 0 rfl)) ?_
  simp only [ls0, ls1]
  refine runL 11 (.int .i64 (n)) rfl (by rfl) (by go_simp) ?_
  simp only [ls0, ls1]
  refine runL 12 (.int .i64 0) rfl (by rfl) (by go_simp) ?_
  simp only [ls0, ls1]
  refine nilL ?_
  go_wp2
  go_loopw [12] (fun v wr => ∃ k : Nat, k ≤ n ∧ v = .int .i64 (k : Int) ∧ Blk wr p1 80 #[.slice A n cc] ∧ Below B0 w wr) (fun v _ => n - (intOf v).toNat)
  case atStart => exact ⟨0, by omega, rfl, hp1, hW⟩
  case round =>
    clear hp1 hW
    obtain ⟨k, hk, rfl, hp1, hW⟩ := hrel
    by_cases hlt : k < n
    ·
      have hltI : (k : Int) < (n : Int) := by omega
      have hwi : IntKind.i64.wrap ((k : Int) + 1) = ((k + 1 : Nat) : Int) := by rw [IntWalk.i64_in _ (by omega)]; omega
      have hn0 : 0 < n := by omega
      obtain ⟨ad, rfl, hadB, -⟩ := (rd.out _ hW).2 hn0
      have hcl : ∀ W, Below B0 w W → ∀ j v, (useL ky s c a b)[j]? = some v → W.cell? ((ad.add (k * 20)).add j) = some v := fun W hb j v hv => by
        obtain ⟨ad', e, _, hc⟩ := (rd.out W hb).2 hn0
        injection e with e
        subst e
        have hj : j < 20 := by
          rcases Nat.lt_or_ge j 20 with h | h
          · exact h
          · rw [List.getElem?_eq_none (by rw [useL_len hkl]; exact h)] at hv; cases hv
        rw [add_of_add]
        refine hc _ v ?_
        rw [flat_rep_get _ (useL_len hkl) hlt hj]; exact hv
      have hclq := Lib.hid hcl
      clear hcl
      go_upto_region 5 with fail
      refine wl_lit ?_
      refine runL 14 (.pointer (some (ad.add (k * 20)))) rfl (by rfl) (by go_simp) ?_
      simp only [ls0, ls1]
      refine runL 15 (.agg (useV ky s c a b)) rfl (by rfl) (exec_midA 84 (.tmp 14) rfl (ad.add (k * 20)) rfl (useL ky s c a b) _ (hclq.out _ hW) (by exact Tryd.underlying84) rfl (useV_sz _ _ _ _ hkl)) ?_
      simp only [ls0, ls1]
      refine runWL 4 (.pointer (some ⟨wr.heap.size, 0, none⟩)) (wr.alloc (.cells (useV (List.replicate 16 0) 0 0 0 0) 84)) rfl (by rfl) (exec_allocV 84 rfl _ (zv_Use _)) ?_
      simp only [ls0, ls1]
      have lp1_p4 := hp1.lt
      have lw_p4 := Nat.le_trans hB0 hW.size
      have hp4 : Blk (wr.alloc (.cells (useV (List.replicate 16 0) 0 0 0 0) 84)) wr.heap.size 84 (useV (List.replicate 16 0) 0 0 0 0) := Blk.new _ _ _
      replace hp1 := hp1.alloc (.cells (useV (List.replicate 16 0) 0 0 0 0) 84)
      replace hW := hW.alloc (Nat.le_trans hB0 hW.size) (.cells (useV (List.replicate 16 0) 0 0 0 0) 84)
      generalize wr.alloc (.cells (useV (List.replicate 16 0) 0 0 0 0) 84) = w2 at *
      generalize wr.heap.size = p4 at hp4 lw_p4 lp1_p4 ⊢
      refine runSL (w2.setRow p4 (useV ky s c a b)) rfl (by rfl) (exec_storeRow 84 (.tmp 4) (.tmp 15) rfl p4 rfl (useV ky s c a b) rfl 84 (useV (List.replicate 16 0) 0 0 0 0) hp4 (sz_eq (useV_sz _ _ _ _ List.length_replicate) (useV_sz _ _ _ _ hkl)) (useV_sz _ _ _ _ hkl) (useV_one _ _ _ _ _)) ?_
      replace hp1 := hp1.rowFar (show p4 ≠ p1 from (by omega)) (useV ky s c a b)
      replace hp4 := hp4.row (useV ky s c a b)
      replace hW := below_setRow hW lw_p4 (useV ky s c a b)
      generalize w2.setRow p4 (useV ky s c a b) = w3 at *
      refine nilL ?_
      go_upto_region 6 with fail
      refine wl_lit ?_
      refine runL 16 (.agg (useV ky s c a b)) rfl (by rfl) (exec_row 84 (.tmp 4) rfl p4 rfl 84 (useV ky s c a b) _ hp4 (by exact Tryd.underlying84) rfl (useV_sz _ _ _ _ hkl)) ?_
      simp only [ls0, ls1]
      refine callL 17 rfl (by rfl) (fun K hK => wp_callF 63 #[.agg (useV ky s c a b)] (by go_simp) (uvalid_any ky s c a b hkl hkb hab _) ?_)
      rintro e w4 ⟨rfl, bx⟩
      replace hp1 := hp1.below bx hp1.lt
      replace hp4 := hp4.below bx hp4.lt
      replace hW := hW.trans (bx.mono (Nat.le_trans hB0 hW.size))
      clear bx
      refine ⟨_, rfl, hK.out _ _ ?_⟩
      clear hK K
      simp only [ls0, ls1]
      refine runL 18 (.bool false) rfl (by rfl) (by go_simp) ?_
      simp only [ls0, ls1]
      refine nilL ?_
      go_wp2
      go_roundw
      case rel => exact ⟨k + 1, by omega, by go_num, hp1, hW⟩
      case measure => simp [intOf]; omega
    ·
      have hltI : ¬ (k : Int) < (n : Int) := by omega
      go_upto_region 9 with fail
      refine wl_lit ?_
      refine runL 2 (.int .i64 0) rfl (by rfl) (by go_simp) ?_
      simp only [ls0, ls1]
      refine nilL ?_
      go_wp2_with fail
      go_ret
      exact ⟨rfl, hW⟩
end Go.Proofs.YtcdgcaljlmondaaDoor
