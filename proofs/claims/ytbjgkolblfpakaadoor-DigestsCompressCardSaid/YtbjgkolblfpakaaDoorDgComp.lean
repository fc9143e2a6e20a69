/-
  The walk of DigestsCompress.
-/
import Derived.Test.YtbjgkolblfpakaaDoorDgLive2
import Derived.Test.YtbjgkolblfpakaaDoorRef3
import Derived.Test.YtbjgkolblfpakaaDoorDgEq
namespace Go.Proofs.YtbjgkolblfpakaaDoor
open Go.RowKit Sh

/-- the blocks of the law -/
structure DcMem (G p6 p8 : Nat) (h b c HL : List Nat) (w wr : World) : Prop where
  fh : Blk wr G 23 (va .u32 h)
  fb : Blk wr (G + 1) 24 (va .u8 b)
  fk : Blk wr (G + 1 + 1) 23 (va .u32 h)
  fc : Blk wr p6 23 (va .u32 c)
  fl : Blk wr p8 23 (va .u32 HL)
  bel : Below G w wr
theorem DcMem.below {G p6 p8 : Nat} {h b c HL : List Nat} {w wr w2 : World} (m : DcMem G p6 p8 h b c HL w wr) (x : Below wr.heap.size wr w2) : DcMem G p6 p8 h b c HL w w2 :=
  ⟨m.fh.below x m.fh.lt, m.fb.below x m.fb.lt, m.fk.below x m.fk.lt, m.fc.below x m.fc.lt, m.fl.below x m.fl.lt, m.bel.trans (x.mono (by have := m.fh.lt; omega))⟩
theorem DcMem.drew_ {G p6 p8 : Nat} {h b c HL : List Nat} {w wr : World} (m : DcMem G p6 p8 h b c HL w wr) : DcMem G p6 p8 h b c HL w wr.drew := ⟨m.fh.drew, m.fb.drew, m.fk.drew, m.fc.drew, m.fl.drew, below_drewN m.bel 1⟩
theorem comp_len8 (h b : List Nat) : (comp h b).length = 8 := comp_len h b

set_option maxRecDepth 8000 in
set_option maxHeartbeats 4000000 in
theorem compress_law (h b : List Nat) (hl8 : h.length = 8) (hh : W32 h) (hb : Byt b) (hbl : b.length = 64) (w : World) (hg : Glob w) :
    Calls Tryd.prog 3 #[.agg (va .u32 h), .agg (va .u8 b)] w fun e w' => e = .returned (.bool true) ∧ Below w.heap.size w w' := by
  have hz8 : ∀ w : World, (zeroValue 23).run Tryd.prog w = .ok (.agg (va .u32 [0, 0, 0, 0, 0, 0, 0, 0])) w := fun _ => by kernel_rfl
  have hz64 : ∀ w : World, (zeroValue 26).run Tryd.prog w = .ok (.agg (va .u32 (List.replicate 64 0))) w := fun _ => by kernel_rfl
  have hs0 : (Tryd.prog.info? 23).map (·.size) = some (va .u32 h).size := by rw [va_size, hl8]; kernel_rfl
  have hs1 : (Tryd.prog.info? 24).map (·.size) = some (va .u8 b).size := by rw [va_size, hbl]; kernel_rfl
  have hc8 := comp_len8 h b
  have hr6 := fun g o c B hc w hr hB => rcompress_any h b g o c B hl8 hh hb hc w hr hB
  have hc1 := fun w hg => compress_any h b hl8 hh hb hbl w hg
  have hsm1 := same8 _ hc8
  generalize comp h b = cc at *
  have hs2 : (Tryd.prog.info? 23).map (·.size) = some (va .u32 cc).size := by rw [va_size, hc8]; kernel_rfl
  have hll := hL_len
  have hkl := kL_len
  have hcs := fun w => consts_any w
  have hin := fun w hg => initial_any w hg
  generalize hL = HL at *
  generalize kL = KL at *
  have hs3 : (Tryd.prog.info? 23).map (·.size) = some (va .u32 HL).size := by rw [va_size, hll]; kernel_rfl
  have hs4 : (Tryd.prog.info? 26).map (·.size) = some (va .u32 KL).size := by rw [va_size, hkl]; kernel_rfl
  have hsm2 := same8 h hl8
  have hsm3 := same8 HL hll
  have hcsq := Lib.hid hcs
  have hinq := Lib.hid hin
  clear hcs hin
  have one : ∀ (k : IntKind) (l : List Nat), ∀ v ∈ (va k l).toList, v.oneCell' = true := fun k l v hv => nv_one k l v (by simpa [va] using hv)
  have hB0 : Below w.heap.size w ((w.alloc (.cells (va .u32 h) 23)).alloc (.cells (va .u8 b) 24)) := ((Below.refl _ _).alloc (Nat.le_refl _) _).alloc (by simp) _
  have h1 : Blk ((w.alloc (.cells (va .u32 h) 23)).alloc (.cells (va .u8 b) 24)) w.heap.size 23 (va .u32 h) := (Blk.new _ _ _).alloc _
  have h2 : Blk ((w.alloc (.cells (va .u32 h) 23)).alloc (.cells (va .u8 b) 24)) (w.heap.size + 1) 24 (va .u8 b) := Blk.newAt (by simp)
  have hsz : ((w.alloc (.cells (va .u32 h) 23)).alloc (.cells (va .u8 b) 24)).heap.size = w.heap.size + 1 + 1 := by simp
  have hs0q := Lib.hid hs0
  have hs1q := Lib.hid hs1
  have hs2q := Lib.hid hs2
  have hs3q := Lib.hid hs3
  have hs4q := Lib.hid hs4
  have hr6q := Lib.hid hr6
  have hc1q := Lib.hid hc1
  have oneq := Lib.hid one
  have hB0q := Lib.hid hB0
  have h1q := Lib.hid h1
  have h2q := Lib.hid h2
  have hszq := Lib.hid hsz
  have hz8q := Lib.hid hz8
  have hz64q := Lib.hid hz64
  clear hs0 hs1 hs2 hs3 hs4 hr6 hc1 one hB0 h1 h2 hsz hz8 hz64
  go_enter Tryd.func3, Tryd.ntmps3
  go_upto_region 1 with fail
  generalize (w.alloc (.cells (va .u32 h) 23)).alloc (.cells (va .u8 b) 24) = w1 at *
  refine wp_region_lit ?_
  refine runP 9 (.agg (va .u32 h)) rfl (by rfl) (exec_row 23 (.tmp 2) rfl w.heap.size rfl 23 (va .u32 h) _ h1q.out Tryd.underlying23 rfl hs0q.out) ?_
  simp only [List.set_cons_zero, List.set_cons_succ]
  refine allocP 5 23 rfl (va .u32 [0, 0, 0, 0, 0, 0, 0, 0]) (hz8q.out _) rfl (by rfl) ?_
  simp only [List.set_cons_zero, List.set_cons_succ]
  refine storeP rfl (by rfl) 23 (.tmp 5) (.tmp 9) rfl w1.heap.size rfl (va .u32 h) rfl 23 (va .u32 [0, 0, 0, 0, 0, 0, 0, 0]) (Blk.new _ _ _) (by rw [va_size, va_size, hl8]; rfl) hs0q.out (oneq.out _ _) ?_
  rw [World.setRow_alloc_new]
  refine wpList_nil ?_
  have h3 : Blk (w1.alloc (.cells (va .u32 h) 23)) (w.heap.size + 1 + 1) 23 (va .u32 h) := Blk.newAt hszq.out
  have hm1 := h1q.out.alloc (.cells (va .u32 h) 23)
  have hm2 := h2q.out.alloc (.cells (va .u32 h) 23)
  have hmb := hB0q.out.alloc hB0q.out.size (.cells (va .u32 h) 23)
  rw [hszq.out]
  clear h1q h2q hB0q
  generalize w1.alloc (.cells (va .u32 h) 23) = w2 at *
  go_upto_region 2 with fail
  refine wp_region_lit ?_
  refine runP 10 (.agg (va .u32 h)) rfl (by rfl) (exec_row 23 (.tmp 2) rfl w.heap.size rfl 23 (va .u32 h) _ hm1 Tryd.underlying23 rfl hs0q.out) ?_
  simp only [List.set_cons_zero, List.set_cons_succ]
  refine runP 11 (.agg (va .u8 b)) rfl (by rfl) (exec_row 24 (.tmp 3) rfl (w.heap.size + 1) rfl 24 (va .u8 b) _ hm2 Tryd.underlying24 rfl hs1q.out) ?_
  simp only [List.set_cons_zero, List.set_cons_succ]
  refine callP 12 rfl (by rfl) (fun K hK => wp_callF 4 #[.agg (va .u32 h), .agg (va .u8 b)] (by go_simp) (hc1q.out _ (hg.below hmb)) ?_)
  rintro e w3 ⟨rfl, bx⟩
  refine ⟨_, rfl, hK.out _ _ ?_⟩
  clear hK K
  replace hm1 := hm1.below bx hm1.lt
  replace hm2 := hm2.below bx hm2.lt
  replace h3 := h3.below bx h3.lt
  replace hmb := hmb.trans (bx.mono hmb.size)
  clear bx
  simp only [List.set_cons_zero, List.set_cons_succ]
  refine allocP 6 23 rfl (va .u32 [0, 0, 0, 0, 0, 0, 0, 0]) (hz8q.out _) rfl (by rfl) ?_
  simp only [List.set_cons_zero, List.set_cons_succ]
  refine storeP rfl (by rfl) 23 (.tmp 6) (.tmp 12) rfl w3.heap.size rfl (va .u32 cc) rfl 23 (va .u32 [0, 0, 0, 0, 0, 0, 0, 0]) (Blk.new _ _ _) (by rw [va_size, va_size, hc8]; rfl) hs2q.out (oneq.out _ _) ?_
  rw [World.setRow_alloc_new]
  refine wpList_nil ?_
  have h6 : Blk (w3.alloc (.cells (va .u32 cc) 23)) w3.heap.size 23 (va .u32 cc) := Blk.new _ _ _
  replace hm1 := hm1.alloc (.cells (va .u32 cc) 23)
  replace hm2 := hm2.alloc (.cells (va .u32 cc) 23)
  replace h3 := h3.alloc (.cells (va .u32 cc) 23)
  replace hmb := hmb.alloc hmb.size (.cells (va .u32 cc) 23)
  generalize w3.alloc (.cells (va .u32 cc) 23) = w4 at *
  generalize w3.heap.size = p6 at *
  go_upto_region 3 with fail
  refine wp_region_lit ?_
  refine callP 14 rfl (by rfl) (fun K hK => wp_callF 5 #[] (by go_simp) (hcsq.out _) ?_)
  rintro e w5 ⟨rfl, bx⟩
  refine ⟨_, rfl, hK.out _ _ ?_⟩
  clear hK K
  replace hm1 := hm1.below bx hm1.lt
  replace hm2 := hm2.below bx hm2.lt
  replace h3 := h3.below bx h3.lt
  replace h6 := h6.below bx h6.lt
  replace hmb := hmb.trans (bx.mono hmb.size)
  clear bx
  simp only [List.set_cons_zero, List.set_cons_succ]
  refine runP 13 (.tuple #[.agg (va .u32 KL), .agg (va .u32 HL)]) rfl (by rfl) (by go_simp) ?_
  simp only [List.set_cons_zero, List.set_cons_succ]
  refine runP 15 (.agg (va .u32 KL)) rfl (by rfl) (by go_simp) ?_
  simp only [List.set_cons_zero, List.set_cons_succ]
  refine runP 16 (.agg (va .u32 HL)) rfl (by rfl) (by go_simp) ?_
  simp only [List.set_cons_zero, List.set_cons_succ]
  refine allocP 7 26 rfl (va .u32 (List.replicate 64 0)) (hz64q.out _) rfl (by rfl) ?_
  simp only [List.set_cons_zero, List.set_cons_succ]
  refine allocP 8 23 rfl (va .u32 [0, 0, 0, 0, 0, 0, 0, 0]) (hz8q.out _) rfl (by rfl) ?_
  simp only [List.set_cons_zero, List.set_cons_succ]
  have h7 : Blk ((w5.alloc (.cells (va .u32 (List.replicate 64 0)) 26)).alloc (.cells (va .u32 [0, 0, 0, 0, 0, 0, 0, 0]) 23)) w5.heap.size 26 (va .u32 (List.replicate 64 0)) := (Blk.new _ _ _).alloc _
  have h8 : Blk ((w5.alloc (.cells (va .u32 (List.replicate 64 0)) 26)).alloc (.cells (va .u32 [0, 0, 0, 0, 0, 0, 0, 0]) 23)) (w5.heap.size + 1) 23 (va .u32 [0, 0, 0, 0, 0, 0, 0, 0]) := Blk.newAt (by simp)
  have hsz2 : (w5.alloc (.cells (va .u32 (List.replicate 64 0)) 26)).heap.size = w5.heap.size + 1 := by simp
  rw [hsz2]
  have l1 := hm1.lt
  have l2 := hm2.lt
  have l3 := h3.lt
  have l6 := h6.lt
  replace hm1 := (hm1.alloc (.cells (va .u32 (List.replicate 64 0)) 26)).alloc (.cells (va .u32 [0, 0, 0, 0, 0, 0, 0, 0]) 23)
  replace hm2 := (hm2.alloc (.cells (va .u32 (List.replicate 64 0)) 26)).alloc (.cells (va .u32 [0, 0, 0, 0, 0, 0, 0, 0]) 23)
  replace h3 := (h3.alloc (.cells (va .u32 (List.replicate 64 0)) 26)).alloc (.cells (va .u32 [0, 0, 0, 0, 0, 0, 0, 0]) 23)
  replace h6 := (h6.alloc (.cells (va .u32 (List.replicate 64 0)) 26)).alloc (.cells (va .u32 [0, 0, 0, 0, 0, 0, 0, 0]) 23)
  have hlow := hmb.size
  replace hmb := (hmb.alloc hmb.size (.cells (va .u32 (List.replicate 64 0)) 26)).alloc (by simp; omega) (.cells (va .u32 [0, 0, 0, 0, 0, 0, 0, 0]) 23)
  clear hsz2
  generalize (w5.alloc (.cells (va .u32 (List.replicate 64 0)) 26)).alloc (.cells (va .u32 [0, 0, 0, 0, 0, 0, 0, 0]) 23) = w6 at *
  generalize w5.heap.size = p7 at *
  refine storeP rfl (by rfl) 26 (.tmp 7) (.tmp 15) rfl p7 rfl (va .u32 KL) rfl 26 (va .u32 (List.replicate 64 0)) h7 (by rw [va_size, va_size, hkl, List.length_replicate]) hs4q.out (oneq.out _ _) ?_
  replace hm1 := hm1.rowFar (show p7 ≠ w.heap.size by omega) (va .u32 KL)
  replace hm2 := hm2.rowFar (show p7 ≠ w.heap.size + 1 by omega) (va .u32 KL)
  replace h3 := h3.rowFar (show p7 ≠ w.heap.size + 1 + 1 by omega) (va .u32 KL)
  replace h6 := h6.rowFar (show p7 ≠ p6 by omega) (va .u32 KL)
  replace h8 := h8.rowFar (show p7 ≠ p7 + 1 by omega) (va .u32 KL)
  replace hmb := below_setRow hmb hlow (va .u32 KL)
  clear h7
  generalize w6.setRow p7 (va .u32 KL) = w7 at *
  refine storeP rfl (by rfl) 23 (.tmp 8) (.tmp 16) rfl (p7 + 1) rfl (va .u32 HL) rfl 23 (va .u32 [0, 0, 0, 0, 0, 0, 0, 0]) h8 (by rw [va_size, va_size, hll]; rfl) hs3q.out (oneq.out _ _) ?_
  replace hm1 := hm1.rowFar (show p7 + 1 ≠ w.heap.size by omega) (va .u32 HL)
  replace hm2 := hm2.rowFar (show p7 + 1 ≠ w.heap.size + 1 by omega) (va .u32 HL)
  replace h3 := h3.rowFar (show p7 + 1 ≠ w.heap.size + 1 + 1 by omega) (va .u32 HL)
  replace h6 := h6.rowFar (show p7 + 1 ≠ p6 by omega) (va .u32 HL)
  replace h8 := h8.row (va .u32 HL)
  replace hmb := below_setRow hmb (show w.heap.size ≤ p7 + 1 by omega) (va .u32 HL)
  generalize w7.setRow (p7 + 1) (va .u32 HL) = w8 at *
  refine wpList_nil ?_
  have hm : DcMem w.heap.size p6 (p7 + 1) h b cc HL w w8 := ⟨hm1, hm2, h3, h6, h8, hmb⟩
  have hmm := Lib.hid hm
  clear hm hm1 hm2 h3 h6 h8 hmb hz8q hz64q
  go_upto_region 4 with fail
  refine wp_region_held_drew (S := DcMem w.heap.size p6 (p7 + 1) h b cc HL w) (by kernel_rfl) hmm.out.drew_ (fun hH => ?_)
  refine takeH 18 0 17 (.agg (va .u32 cc)) rfl rfl (by kernel_rfl) (by kernel_rfl) (by kernel_rfl) (fun _ _ _ h => h) (yieldsIf_load_blk (by rfl) 23 (.tmp 6) rfl p6 rfl 23 (va .u32 cc) _ (fun _ m => m.fc) Tryd.underlying23 rfl hs2q.out) hH ?_
  simp only [List.set_cons_zero, List.set_cons_succ]
  refine takeH 17 1 18 (.agg (va .u32 h)) rfl rfl (by kernel_rfl) (by kernel_rfl) (by kernel_rfl) (fun _ _ _ h => h) (yieldsIf_load_blk (by rfl) 23 (.tmp 2) rfl w.heap.size rfl 23 (va .u32 h) _ (fun _ m => m.fh) Tryd.underlying23 rfl hs0q.out) hH ?_
  simp only [List.set_cons_zero, List.set_cons_succ]
  refine takeH 16 2 19 (.slice (some ⟨w.heap.size + 1, 0, none⟩) 64 64) rfl rfl (by kernel_rfl) (by kernel_rfl) (by kernel_rfl) (fun _ _ _ h => h) (Or.inl ⟨by rfl, fun w _ => by go_simp⟩) hH ?_
  simp only [List.set_cons_zero, List.set_cons_succ]
  refine callH 15 3 20 rfl rfl (by rfl) (by kernel_rfl) (fun K hK => wp_callF 6 #[.agg (va .u32 h), .slice (some ⟨w.heap.size + 1, 0, none⟩) 64 64] (by go_simp) (hr6q.out (w.heap.size + 1) 0 64 (w.heap.size + 1 + 1) (by omega) _ (hH.fb.readsAll (Nat.lt_succ_self _) hbl) (by have := hH.fk.lt; omega)) ?_)
  rintro e w9 ⟨rfl, bx⟩
  refine ⟨_, rfl, hK.out _ _ (hH.below bx) (fun hH => ?_)⟩
  clear hK K bx
  simp only [List.set_cons_zero, List.set_cons_succ]
  refine takeH 14 4 21 (.bool true) rfl rfl (by kernel_rfl) (by kernel_rfl) (by kernel_rfl) (fun _ _ _ h => h) (Or.inl ⟨by rfl, fun w _ => exec_eq8 17 20 _ rfl cc hc8 rfl rfl⟩) hH ?_
  simp only [List.set_cons_zero, List.set_cons_succ]
  refine takeH 13 5 22 (.bool true) rfl rfl (by kernel_rfl) (by kernel_rfl) (by kernel_rfl) (fun _ _ _ h => h) (Or.inl ⟨by rfl, fun w _ => by go_simp⟩) hH ?_
  simp only [List.set_cons_zero, List.set_cons_succ]
  refine takeH 12 6 23 (.agg (va .u32 h)) rfl rfl (by kernel_rfl) (by kernel_rfl) (by kernel_rfl) (fun _ _ _ h => h) (yieldsIf_load_blk (by rfl) 23 (.tmp 2) rfl w.heap.size rfl 23 (va .u32 h) _ (fun _ m => m.fh) Tryd.underlying23 rfl hs0q.out) hH ?_
  simp only [List.set_cons_zero, List.set_cons_succ]
  refine takeH 11 7 24 (.agg (va .u32 h)) rfl rfl (by kernel_rfl) (by kernel_rfl) (by kernel_rfl) (fun _ _ _ h => h) (yieldsIf_load_blk (by rfl) 23 (.tmp 5) rfl (w.heap.size + 1 + 1) rfl 23 (va .u32 h) _ (fun _ m => m.fk) Tryd.underlying23 rfl hs0q.out) hH ?_
  simp only [List.set_cons_zero, List.set_cons_succ]
  refine takeH 10 8 25 (.bool true) rfl rfl (by kernel_rfl) (by kernel_rfl) (by kernel_rfl) (fun _ _ _ h => h) (Or.inl ⟨by rfl, fun w _ => exec_eq8 23 24 _ rfl h hl8 rfl rfl⟩) hH ?_
  simp only [List.set_cons_zero, List.set_cons_succ]
  refine takeH 9 9 26 (.bool true) rfl rfl (by kernel_rfl) (by kernel_rfl) (by kernel_rfl) (fun _ _ _ h => h) (Or.inl ⟨by rfl, fun w _ => by go_simp⟩) hH ?_
  simp only [List.set_cons_zero, List.set_cons_succ]
  refine takeH 8 10 27 (.bool true) rfl rfl (by kernel_rfl) (by kernel_rfl) (by kernel_rfl) (fun _ _ _ h => h) (Or.inl ⟨by rfl, fun w _ => by go_simp⟩) hH ?_
  simp only [List.set_cons_zero, List.set_cons_succ]
  refine takeH 7 12 29 (.agg (va .u32 HL)) rfl rfl (by kernel_rfl) (by kernel_rfl) (by kernel_rfl) (fun _ _ _ h => h) (yieldsIf_load_blk (by rfl) 23 (.tmp 8) rfl (p7 + 1) rfl 23 (va .u32 HL) _ (fun _ m => m.fl) Tryd.underlying23 rfl hs3q.out) hH ?_
  simp only [List.set_cons_zero, List.set_cons_succ]
  refine callH 6 11 28 rfl rfl (by rfl) (by kernel_rfl) (fun K hK => wp_callF 7 #[] (by go_simp) (hinq.out _ (hg.below hH.bel)) ?_)
  rintro e w10 ⟨rfl, bx⟩
  refine ⟨_, rfl, hK.out _ _ (hH.below bx) (fun hH => ?_)⟩
  clear hK K bx
  simp only [List.set_cons_zero, List.set_cons_succ]
  refine takeH 5 13 30 (.bool true) rfl rfl (by kernel_rfl) (by kernel_rfl) (by kernel_rfl) (fun _ _ _ h => h) (Or.inl ⟨by rfl, fun w _ => exec_eq8 28 29 _ rfl HL hll rfl rfl⟩) hH ?_
  simp only [List.set_cons_zero, List.set_cons_succ]
  refine takeH 4 14 31 (.bool true) rfl rfl (by kernel_rfl) (by kernel_rfl) (by kernel_rfl) (fun _ _ _ h => h) (Or.inl ⟨by rfl, fun w _ => by go_simp⟩) hH ?_
  simp only [List.set_cons_zero, List.set_cons_succ]
  refine takeH 3 15 32 (.bool true) rfl rfl (by kernel_rfl) (by kernel_rfl) (by kernel_rfl) (fun _ _ _ h => h) (Or.inl ⟨by rfl, fun w _ => by go_simp⟩) hH ?_
  simp only [List.set_cons_zero, List.set_cons_succ]
  refine callH 2 16 33 rfl rfl (by rfl) (by kernel_rfl) (fun K hK => wp_callF 8 #[] (by go_simp) (lives_any _ (hg.below hH.bel)) ?_)
  rintro e w11 ⟨rfl, bx⟩
  refine ⟨_, rfl, hK.out _ _ (hH.below bx) (fun hH => ?_)⟩
  clear hK K bx
  simp only [List.set_cons_zero, List.set_cons_succ]
  refine takeH 1 17 34 (.bool true) rfl rfl (by kernel_rfl) (by kernel_rfl) (by kernel_rfl) (fun _ _ _ h => h) (Or.inl ⟨by rfl, fun w _ => by go_simp⟩) hH ?_
  simp only [List.set_cons_zero, List.set_cons_succ]
  refine takeH 0 18 4 (.bool true) rfl rfl (by kernel_rfl) (by kernel_rfl) (by kernel_rfl) (fun _ _ _ h => h) (Or.inl ⟨by rfl, fun w _ => by go_simp⟩) hH ?_
  simp only [List.set_cons_zero, List.set_cons_succ]
  refine wpAnyH_done (by kernel_rfl) ?_ _
  go_wp2_with fail
  go_ret
  exact ⟨rfl, hH.bel⟩
end Go.Proofs.YtbjgkolblfpakaaDoor
