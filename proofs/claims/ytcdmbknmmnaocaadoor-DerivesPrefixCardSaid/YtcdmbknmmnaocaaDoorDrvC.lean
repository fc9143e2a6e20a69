/-
  The walk of derives.Expand. (Printed by mkdrv04c.py.)
-/
import Derived.Test.YtcdmbknmmnaocaaDoorDrvB
namespace Go.Proofs.YtcdmbknmmnaocaaDoor
open Go.RowKit Sh
attribute [local go_sem] Oper.semAt_some
/-- between two rounds -/
structure DI (key info : List Nat) (z : Nat) (v : World) (B0 L0 p5 p8 k : Nat) (W : World) : Prop where
  lt : 32 * k < z
  lo : L0 ≤ W.heap.size
  nb : Blk W p5 3 #[.int .i64 (z : Int)]
  o : ∃ A m, Blk W p8 22 #[.slice A m m] ∧ Own W L0 A m m (ol key info k)
  bel : Below B0 v W
/-- behind the break -/
structure DX (key info : List Nat) (z : Nat) (v : World) (B0 L0 p5 p8 : Nat) (W : World) : Prop where
  nb : Blk W p5 3 #[.int .i64 (z : Int)]
  o : ∃ g m k, L0 ≤ g ∧ z ≤ 32 * k ∧ k ≤ 255 ∧ m = 32 * k ∧ Blk W p8 22 #[.slice (some ⟨g, 0, none⟩) m m] ∧ Blk W g 5 (va .u8 (ol key info k))
  bel : Below B0 v W
section
variable {key info : List Nat} {z : Nat} {v : World} {B0 L0 p5 p8 k : Nat} {A B : World}
theorem DI.turn (h : DI key info z v B0 L0 p5 p8 k A) (hs : A.heap.size ≤ B.heap.size) (hb : ∀ g T cs, Blk A g T cs → Blk B g T cs) (ho : ∀ Ad m l, Own A L0 Ad m m l → Own B L0 Ad m m l) (hw : Below B0 v B) :
    DI key info z v B0 L0 p5 p8 k B := by
  obtain ⟨Ad, m, h1, h2⟩ := h.o
  exact ⟨h.lt, Nat.le_trans h.lo hs, hb _ _ _ h.nb, ⟨Ad, m, hb _ _ _ h1, ho _ _ _ h2⟩, hw⟩
theorem DX.put {l : Nat} {o : Obj} (h : DX key info z v B0 L0 p5 p8 A) (o' : Obj) (hl : A.heap[l]? = some o) (hc : o.isCells = false) (hB : B0 ≤ l) : DX key info z v B0 L0 p5 p8 (A.putObj l o') := by
  obtain ⟨g, m, k, h1, h2, h3, h4, h5, h6⟩ := h.o
  exact ⟨h.nb.putObjX o' hl hc, ⟨g, m, k, h1, h2, h3, h4, h5.putObjX o' hl hc, h6.putObjX o' hl hc⟩, below_putObjX h.bel hB o'⟩
end

set_option maxRecDepth 8000 in
set_option maxHeartbeats 4000000 in
/-- what is done -/
theorem dexp_ok (key info : List Nat) (z : Nat) (hz0 : 0 < z) (hz : z ≤ 8160) (A : Option Addr) (n c B : Nat) (A2 : Option Addr) (n2 c2 B2 : Nat) (hk : Byt key) (hi : Byt info) (hnc : n ≤ c) (hn : n < 1000) (hnc2 : n2 ≤ c2) (hn2 : n2 < 1000) (w : World) (hg : Glob w)
    (hr : Reads w B 1 A n (nv .u8 key)) (hB : B ≤ w.heap.size) (hr2 : Reads w B2 1 A2 n2 (nv .u8 info)) (hB2 : B2 ≤ w.heap.size) :
    Calls Tryd.prog 11 #[.slice A n c, .slice A2 n2 c2, .int .i64 (z : Int)] w fun e' w' => ∃ g, e' = .returned (.tuple #[.slice (some ⟨g, 0, none⟩) z z, .int .i64 0]) ∧ ByB w' g (ex key info z) ∧ w.heap.size ≤ g ∧ Below w.heap.size w w' := by
  obtain ⟨B0, hB0e⟩ : ∃ b, w.heap.size = b := ⟨_, rfl⟩
  rw [hB0e]
  have hW : Below B0 w w := by rw [← hB0e]; exact Below.refl _ _
  have hB0 : B0 ≤ w.heap.size := by omega
  have gl := glob_of hg hB0e
  have hl2n := hr2.len
  have hBB : B ≤ B0 := by omega
  have hBB2 : B2 ≤ B0 := by omega
  have rd := reads_of hr hBB
  have rd2 := reads_of hr2 hBB2
  have hBw : B0 ≤ w.heap.size := by omega
  clear hr hB hr2 hB2 hg
  have hB0q := Lib.hid hB0e
  clear hB0e
  have hz1 : ¬ (z : Int) < 0 := by omega
  have hz2 : ¬ 8160 < (z : Int) := by omega
  have hz3 : ¬ (z : Int) = 0 := by omega
  have hz3N : ¬ z = 0 := by omega
  refine callsIn_wide.1 (callsIn_of_wp_marks (n := 5) Tryd.func11 rfl trivial ?_)
  refine (wpIn_wide (n := 5)).2 ?_
  simp only [Tryd.ntmps11, List.size_toArray, List.length_cons, List.length_nil, Nat.reduceAdd, Nat.reduceSub, Array.replicate_succ, Array.replicate_zero, List.push_toArray, List.append_toArray, List.nil_append, List.cons_append]
  go_upto_region 0 with fail
  refine wl_lit ?_
  refine runWL 5 (.pointer (some ⟨w.heap.size, 0, none⟩)) (w.alloc (.cells (#[.int .i64 (z : Int)]) 3)) rfl (by rfl) (exec_box 3 (.tmp 2) rfl (.int .i64 (z : Int)) rfl) ?_
  simp only [List.set_cons_zero, List.set_cons_succ]
  have lw_p5 := Nat.le_trans hB0 hW.size
  have hp5 : Blk (w.alloc (.cells (#[.int .i64 (z : Int)]) 3)) w.heap.size 3 (#[.int .i64 (z : Int)]) := Blk.new _ _ _
  replace hW := hW.alloc (Nat.le_trans hB0 hW.size) (.cells (#[.int .i64 (z : Int)]) 3)
  generalize w.alloc (.cells (#[.int .i64 (z : Int)]) 3) = w1 at *
  generalize w.heap.size = p5 at hp5 lw_p5  ⊢
  refine runL 6 (.slice none 0 0) rfl (by rfl) (by go_simp) ?_
  simp only [List.set_cons_zero, List.set_cons_succ]
  refine runL 7 (.int .i64 0) rfl (by rfl) (by go_simp) ?_
  simp only [List.set_cons_zero, List.set_cons_succ]
  refine nilL ?_
  go_upto_region 1 with fail
  refine wl_lit ?_
  refine runL 11 (.int .i64 (z : Int)) rfl (by rfl) (exec_cell 3 (.tmp 5) rfl p5 0 rfl (.int .i64 (z : Int)) _ Tryd.underlying3 rfl (hp5.cellIs 0 rfl)) ?_
  simp only [List.set_cons_zero, List.set_cons_succ]
  refine runL 12 (.bool false) rfl (by rfl) (by go_simp) ?_
  simp only [List.set_cons_zero, List.set_cons_succ]
  refine runL 10 (.bool false) rfl (by rfl) (by go_simp) ?_
  simp only [List.set_cons_zero, List.set_cons_succ]
  refine nilL ?_
  go_upto_region 3 with fail
  refine wl_lit ?_
  refine runL 14 (.int .i64 (z : Int)) rfl (by rfl) (exec_cell 3 (.tmp 5) rfl p5 0 rfl (.int .i64 (z : Int)) _ Tryd.underlying3 rfl (hp5.cellIs 0 rfl)) ?_
  simp only [List.set_cons_zero, List.set_cons_succ]
  refine runL 15 (.bool false) rfl (by rfl) (by go_simp) ?_
  simp only [List.set_cons_zero, List.set_cons_succ]
  refine runL 13 (.bool false) rfl (by rfl) (by go_simp) ?_
  simp only [List.set_cons_zero, List.set_cons_succ]
  refine nilL ?_
  go_upto_region 5 with fail
  refine wl_lit ?_
  refine runL 17 (.int .i64 (z : Int)) rfl (by rfl) (exec_cell 3 (.tmp 5) rfl p5 0 rfl (.int .i64 (z : Int)) _ Tryd.underlying3 rfl (hp5.cellIs 0 rfl)) ?_
  simp only [List.set_cons_zero, List.set_cons_succ]
  refine runL 18 (.bool false) rfl (by rfl) (by go_simp) ?_
  simp only [List.set_cons_zero, List.set_cons_succ]
  refine runL 16 (.bool false) rfl (by rfl) (by go_simp) ?_
  simp only [List.set_cons_zero, List.set_cons_succ]
  refine nilL ?_
  go_upto_region 7 with fail
  refine wl_lit ?_
  refine runWL 8 (.pointer (some ⟨w1.heap.size, 0, none⟩)) (w1.alloc (.cells (#[.slice none 0 0]) 22)) rfl (by rfl) (exec_allocV 22 rfl _ (zv_bsD _)) ?_
  simp only [List.set_cons_zero, List.set_cons_succ]
  have lp5_p8 := hp5.lt
  have lw_p8 := Nat.le_trans hB0 hW.size
  have hp8 : Blk (w1.alloc (.cells (#[.slice none 0 0]) 22)) w1.heap.size 22 (#[.slice none 0 0]) := Blk.new _ _ _
  replace hp5 := hp5.alloc (.cells (#[.slice none 0 0]) 22)
  replace hW := hW.alloc (Nat.le_trans hB0 hW.size) (.cells (#[.slice none 0 0]) 22)
  generalize w1.alloc (.cells (#[.slice none 0 0]) 22) = w2 at *
  generalize w1.heap.size = p8 at hp8 lw_p8 lp5_p8 ⊢
  refine nilL ?_
  obtain ⟨L0, hL0⟩ : ∃ L, w2.heap.size = L := ⟨_, rfl⟩
  have bp5 : p5 < L0 := by rw [← hL0]; exact hp5.lt
  have bp8 : p8 < L0 := by rw [← hL0]; exact hp8.lt
  have hBL : B0 ≤ L0 := by rw [← hL0]; exact Nat.le_trans hB0 hW.size
  have hLq := Lib.hid hL0
  clear hL0
  go_upto_region 8 with fail
  refine wl_lit ?_
  refine runL 19 (.slice (A) n c) rfl (by rfl) (by go_simp) ?_
  simp only [List.set_cons_zero, List.set_cons_succ]
  refine runL 20 (.slice (A2) n2 c2) rfl (by rfl) (by go_simp) ?_
  simp only [List.set_cons_zero, List.set_cons_succ]
  refine callL 21 rfl (by rfl) (fun K hK => wp_callF 20 #[.slice (A) n c, .slice (A2) n2 c2] (by go_simp) (parts_any A n c A2 n2 c2 _) ?_)
  rintro e w3 ⟨c1, c3, rfl, hc1, hc3, hg1, hg3, bx⟩
  have hL1 : L0 ≤ c1 := by rw [← hLq.out]; exact hg1
  have hL3 : L0 ≤ c3 := by rw [← hLq.out]; exact hg3
  have lp5_c1 : p5 < c1 := Nat.lt_of_lt_of_le hp5.lt hg1
  have lp8_c1 : p8 < c1 := Nat.lt_of_lt_of_le hp8.lt hg1
  have lw_c1 : B0 ≤ c1 := Nat.le_trans (Nat.le_trans hB0 hW.size) hg1
  have lp5_c3 : p5 < c3 := Nat.lt_of_lt_of_le hp5.lt hg3
  have lp8_c3 : p8 < c3 := Nat.lt_of_lt_of_le hp8.lt hg3
  have lw_c3 : B0 ≤ c3 := Nat.le_trans (Nat.le_trans hB0 hW.size) hg3
  replace hp5 := hp5.below bx hp5.lt
  replace hp8 := hp8.below bx hp8.lt
  replace hW := hW.trans (bx.mono (Nat.le_trans hB0 hW.size))
  clear hg1 hg3
  clear bx
  refine ⟨_, rfl, hK.out _ _ ?_⟩
  clear hK K
  simp only [List.set_cons_zero, List.set_cons_succ]
  refine nilL ?_
  go_wp2_with fail
  have hws : L0 ≤ w3.heap.size := Nat.le_trans hL1 (Nat.le_of_lt hc1.lt)
  refine (wpIn_wide (n := 5)).1 (wp_rangeBreak (gf := 31) (lb := #[.pointer (some ⟨c1, 0, none⟩), .pointer (some ⟨c3, 0, none⟩)]) (id := 1) rfl (enters_of Tryd.func31 (by kernel_rfl) rfl)
    (parts_ends key info A n c B A2 n2 c2 B2 hk hi hnc hn hnc2 hn2 w B0 rd rd2 gl hBB hBB2 hBw c1 c3 L0 _ hc1 hc3 hL1 hL3)
    (fun k W => DI key info z w B0 L0 p5 p8 k W) (fun W => DX key info z w B0 L0 p5 p8 W) 255 (by omega)
    (fun k a₁ W => ∃ bb, L0 ≤ bb ∧ Blk W bb 25 (va .u8 (tk key info (k + 1))) ∧ a₁ = { tmps := #[.slice (A) n c, .slice (A2) n2 c2, .int .i64 (z : Int), undef, undef, .pointer (some ⟨p5, 0, none⟩), .slice none 0 0, .int .i64 0, .pointer (some ⟨p8, 0, none⟩), .pointer (some ⟨bb, 0, none⟩), .bool false, .int .i64 (z : Int), .bool false, .bool false, .int .i64 (z : Int), .bool false, .bool false, .int .i64 (z : Int), .bool false, .slice (A) n c, .slice (A2) n2 c2, .func (.func 31) #[] #[.pointer (some ⟨c1, 0, none⟩), .pointer (some ⟨c3, 0, none⟩)], .agg (va .u8 (tk key info (k + 1))), undef, undef, undef, undef, undef, undef, undef, undef, undef, undef, undef, undef], defers := [] } ∧ DI key info z w B0 L0 p5 p8 k W)
    ?hIb ?hIc ?hIp ?hXp ?hAp ?h0 ?hN ?assign ?body ?stop)
  case hIb => exact fun k A B h bx => h.turn bx.size (fun g T cs hb => hb.below bx hb.lt) (fun Ad m l ho => ho.below bx) (h.bel.trans (bx.mono (Nat.le_trans hBL h.lo)))
  case hIc => exact fun k A h => h.bel
  case hIp => exact fun k A l o o' hl h ho hc => h.turn (by simp) (fun g T cs hb => hb.putObjX o' ho hc) (fun Ad m l2 hw2 => hw2.putObj o' ho hc) (below_putObjX h.bel (by omega) o')
  case hXp => exact fun A l o o' hl h ho hc => h.put o' ho hc (by omega)
  case hAp =>
    rintro k a₁ A l o o' hl ⟨bb, hb1, hb2, rfl, h⟩ ho hc
    exact ⟨bb, hb1, hb2.putObjX o' ho hc, rfl, h.turn (by simp) (fun g T cs hb => hb.putObjX o' ho hc) (fun Ad m l2 hw2 => hw2.putObj o' ho hc) (below_putObjX h.bel (by omega) o')⟩
  case h0 => exact ⟨by omega, hws, hp5, ⟨none, 0, hp8, Own.nil _ _⟩, hW⟩
  case hN =>
    intro k W h
    have := h.lt
    omega
  case assign =>
    intro m l k W K hI hK
    simp only [List.setIfInBounds_toArray, List.set_cons_zero, List.set_cons_succ]
    refine wl_litIn (by kernel_rfl) notOut_false ?_
    refine runWL 9 (.pointer (some ⟨W.heap.size, 0, none⟩)) (W.alloc (.cells (va .u8 (List.replicate 32 0)) 25)) rfl (by rfl) (exec_allocV 25 rfl _ (zv_api_Digest _)) ?_
    simp only [List.set_cons_zero, List.set_cons_succ]
    have hbb := Blk.new W 25 (va .u8 (List.replicate 32 0))
    refine runSL ((W.alloc (.cells (va .u8 (List.replicate 32 0)) 25)).setRow W.heap.size (va .u8 (tk key info (k + 1)))) rfl (by rfl) (exec_storeRow 25 (.tmp 9) (.tmp 22) rfl W.heap.size rfl (va .u8 (tk key info (k + 1))) rfl 25 _ hbb (sz_eq (sz_api_Digest _ List.length_replicate) (sz_api_Digest _ (tk_len _ _ _))) (sz_api_Digest _ (tk_len _ _ _)) (va_ones .u8 _)) ?_
    refine nilL ?_
    have bx : Below W.heap.size W ((W.alloc (.cells (va .u8 (List.replicate 32 0)) 25)).setRow W.heap.size (va .u8 (tk key info (k + 1)))) := below_setRow ((Below.refl _ W).alloc (Nat.le_refl _) _) (Nat.le_refl _) _
    exact hK _ _ bx ⟨W.heap.size, hI.lo, hbb.row _, rfl, hI.turn bx.size (fun g T cs hb => hb.below bx hb.lt) (fun Ad m l ho => ho.below bx) (hI.bel.trans (bx.mono (Nat.le_trans hBL hI.lo)))⟩
  case stop =>
    clear hp5 hp8 hc1 hc3 hW
    intro D W hD h hK
    obtain ⟨hp5, ⟨g, m, k, hgL, hzk, hk255, rfl, hp8, hgb⟩, hW⟩ := h
    obtain ⟨m, hm⟩ : ∃ m, 32 * k = m := ⟨_, rfl⟩
    rw [hm] at hp8
    have hzm : (z : Int) ≤ (m : Int) := by omega
    have hzmN : z ≤ m := by omega
    have hDB : B0 ≤ D := by omega
    go_upto_region 12 with fail
    refine wl_lit ?_
    refine runL 31 (.slice (some ⟨g, 0, none⟩) m m) rfl (by rfl) (exec_cell 22 (.tmp 8) rfl p8 0 rfl (.slice (some ⟨g, 0, none⟩) m m) _ Tryd.underlying22 rfl (hp8.cellIs 0 rfl)) ?_
    simp only [List.set_cons_zero, List.set_cons_succ]
    refine runL 32 (.int .i64 (z : Int)) rfl (by rfl) (exec_cell 3 (.tmp 5) rfl p5 0 rfl (.int .i64 (z : Int)) _ Tryd.underlying3 rfl (hp5.cellIs 0 rfl)) ?_
    simp only [List.set_cons_zero, List.set_cons_succ]
    refine runL 33 (.int .i64 (z : Int)) rfl (by rfl) (exec_cell 3 (.tmp 5) rfl p5 0 rfl (.int .i64 (z : Int)) _ Tryd.underlying3 rfl (hp5.cellIs 0 rfl)) ?_
    simp only [List.set_cons_zero, List.set_cons_succ]
    refine runL 34 (.slice (some ⟨g, 0, none⟩) z z) rfl (by rfl) (by go_simp) ?_
    simp only [List.set_cons_zero, List.set_cons_succ]
    refine runL 6 (.slice (some ⟨g, 0, none⟩) z z) rfl (by rfl) (by go_simp) ?_
    simp only [List.set_cons_zero, List.set_cons_succ]
    refine runL 7 (.int .i64 0) rfl (by rfl) (by go_simp) ?_
    simp only [List.set_cons_zero, List.set_cons_succ]
    refine nilL ?_
    go_wp2_with fail
    refine ⟨by simp, .inl ⟨_, _, rfl, run_takeDeferred hK, ?_⟩⟩
    exact ⟨_, results_tmp2 rfl _ _ _, g, rfl, (by have hx := (hgb.putObjX (.deferred none) hK rfl).byB.take z; rwa [ex_of key info k z hk255 hzk] at hx), Nat.le_trans hBL hgL, below_putObjX hW hDB _⟩
  case body =>
    clear hp5 hp8 hc1 hc3 hW
    rintro m l k a₁ W ⟨bb, hbL, hbb, rfl, hI⟩
    obtain ⟨hlt, hlo, hp5, ⟨Ao, mo, hp8, hoo⟩, hW⟩ := hI
    have hB0 : B0 ≤ w.heap.size := hBw
    have hol := hoo.len
    rw [ol_len] at hol
    obtain ⟨m2, hm2⟩ : ∃ x, mo + 32 = x := ⟨_, rfl⟩
    have htl := tk_len key info k
    have htb := tk_byt key info (k + 1)
    obtain ⟨t, ht⟩ : ∃ t, tk key info (k + 1) = t := ⟨_, rfl⟩
    obtain ⟨ok, hok⟩ : ∃ t, ol key info k = t := ⟨_, rfl⟩
    obtain ⟨ok2, hok2⟩ : ∃ t, ol key info (k + 1) = t := ⟨_, rfl⟩
    have hob : Byt ok := by rw [← hok]; exact ol_byt _ _ _
    have ho2l : ok2.length = m2 := by rw [← hok2, ol_len]; omega
    have ho2b : Byt ok2 := by rw [← hok2]; exact ol_byt _ _ _
    have hjo : [ok, t].flatten = ok2 := by rw [← hok2, ol, hok, ht]; simp
    rw [ht] at hbb htl htb
    rw [hok] at hoo
    have hkh := KH.refl L0 W
    have nhoo_p5 : Off Ao p5 := fun a ha e => by have := (hoo.lt ha).1; omega
    have nhoo_p8 : Off Ao p8 := fun a ha e => by have := (hoo.lt ha).1; omega
    replace hoo := hoo.mono hBL
    have noo_p8 := nhoo_p8
    have noo_p5 := nhoo_p5
    have nkh_p8 : Offk L0 W p8 := .inl bp8
    have lp5_p8 : p5 < p8 := lp5_p8
    have hjoq := Lib.hid hjo
    have ho2q := Lib.hid hok2
    clear hjo hok hok2 ht nhoo_p5 nhoo_p8
    repeat gi_step
    replace hp8 := hp8.drew
    refine wl_anyRound (S := fun wr => Blk wr p5 3 (#[.int .i64 (z : Int)]) ∧ Blk wr bb 25 (va .u8 (t)) ∧ Own wr B0 (Ao) mo mo (ok) ∧ KH L0 W wr ∧ Below B0 w wr) (by kernel_rfl) (by kernel_rfl) ⟨hp5.drew, hbb.drew, hoo.drew_, hkh.drew_, below_drewN hW 1⟩ (fun hH => ?_)
    clear hp5 hbb hoo hkh hW
    obtain ⟨hp5, hbb, hoo, hkh, hW⟩ := hH
    generalize W.drew = w4 at *
    refine takeH 4 1 24 (.slice (some ⟨bb, 0, none⟩) 32 32) rfl rfl (by kernel_rfl) (by kernel_rfl) (by kernel_rfl) (fun _ _ _ h => h) (Or.inl ⟨by rfl, fun w _ => by go_simp⟩) ⟨hp5, hbb, hoo, hkh, hW⟩ ?_
    simp only [List.set_cons_zero, List.set_cons_succ]
    refine wpAnyH_ready (by kernel_rfl) (by simp) (readyRun 3 0 23 (.slice (Ao) mo mo) w4 rfl rfl (by rfl) (exec_cell 22 (.tmp 8) rfl p8 0 rfl (.slice (Ao) mo mo) _ Tryd.underlying22 rfl (hp8.cellIs 0 rfl)) ⟨hp5, hbb, hoo, hkh, hW⟩ (fun _ => ?_) AllReadyH.nil)
    simp only [List.set_cons_zero, List.set_cons_succ]
    refine wpAnyH_ready (by kernel_rfl) (by simp) (readyRun 2 2 25 (.slice (some ⟨w4.heap.size, 0, none⟩) 2 2) (w4.alloc (.cells (#[.slice (Ao) mo mo, .slice (some ⟨bb, 0, none⟩) 32 32]) 22)) rfl rfl (by rfl) (exec_bslice 52 2 _ rfl _ (by exact bs_2 (Ao) mo mo (some ⟨bb, 0, none⟩) 32 32 _)) ⟨hp5.alloc _, hbb.alloc _, hoo.alloc _, hkh.alloc _, hW.alloc (Nat.le_trans hB0 hW.size) _⟩ (fun _ => ?_) AllReadyH.nil)
    simp only [List.set_cons_zero, List.set_cons_succ]
    have lp5_q1 := hp5.lt
    have lp8_q1 := hp8.lt
    have lbb_q1 := hbb.lt
    have noo_q1 := hoo.new_off
    have nkh_q1 := hkh.new_off
    have lw_q1 := Nat.le_trans hB0 hW.size
    have hq1 : Blk (w4.alloc (.cells (#[.slice (Ao) mo mo, .slice (some ⟨bb, 0, none⟩) 32 32]) 22)) w4.heap.size 22 (#[.slice (Ao) mo mo, .slice (some ⟨bb, 0, none⟩) 32 32]) := Blk.new _ _ _
    replace hp5 := hp5.alloc (.cells (#[.slice (Ao) mo mo, .slice (some ⟨bb, 0, none⟩) 32 32]) 22)
    replace hp8 := hp8.alloc (.cells (#[.slice (Ao) mo mo, .slice (some ⟨bb, 0, none⟩) 32 32]) 22)
    replace hbb := hbb.alloc (.cells (#[.slice (Ao) mo mo, .slice (some ⟨bb, 0, none⟩) 32 32]) 22)
    replace hoo := hoo.alloc (.cells (#[.slice (Ao) mo mo, .slice (some ⟨bb, 0, none⟩) 32 32]) 22)
    replace hkh := hkh.alloc (.cells (#[.slice (Ao) mo mo, .slice (some ⟨bb, 0, none⟩) 32 32]) 22)
    replace hW := hW.alloc (Nat.le_trans hB0 hW.size) (.cells (#[.slice (Ao) mo mo, .slice (some ⟨bb, 0, none⟩) 32 32]) 22)
    generalize w4.alloc (.cells (#[.slice (Ao) mo mo, .slice (some ⟨bb, 0, none⟩) 32 32]) 22) = w5 at *
    generalize w4.heap.size = q1 at hq1 lw_q1 lp5_q1 lp8_q1 lbb_q1 noo_q1 nkh_q1 ⊢
    refine wpAnyH_ready (by kernel_rfl) (by simp) (readyCons 1 3 26 rfl rfl (by rfl) (fun K hK => wp_callF 21 #[.slice (some ⟨q1, 0, none⟩) 2 2] (by go_simp) (join_to [ok, t] ok2 2 2 _ m2 _ _ (parts_two (Nat.le_refl _) hbb.lt hq1 hoo.reads (Nat.le_refl _) hob (hbb.readsAll (Nat.lt_succ_self _) (htl)) (Nat.le_refl _) htb) hjoq.out (by omega) (Nat.le_refl _) ho2l (by omega)) ?_) AllReadyH.nil)
    rintro e w6 ⟨g1, rfl, hg1, hgg, bx⟩
    have hLg : L0 ≤ g1 := Nat.le_trans (Nat.le_trans hlo hkh.h.size) hgg
    have lp5_g1 : p5 < g1 := Nat.lt_of_lt_of_le hp5.lt hgg
    have lp8_g1 : p8 < g1 := Nat.lt_of_lt_of_le hp8.lt hgg
    have lbb_g1 : bb < g1 := Nat.lt_of_lt_of_le hbb.lt hgg
    have noo_g1 := hoo.off_ge hgg
    have nkh_g1 := hkh.off_ge hgg
    have lq1_g1 : q1 < g1 := Nat.lt_of_lt_of_le hq1.lt hgg
    have lw_g1 : B0 ≤ g1 := Nat.le_trans (Nat.le_trans hB0 hW.size) hgg
    replace hp5 := hp5.below bx hp5.lt
    replace hp8 := hp8.below bx hp8.lt
    replace hbb := hbb.below bx hbb.lt
    replace hoo := hoo.below bx
    replace hkh := hkh.below bx
    replace hq1 := hq1.below bx hq1.lt
    replace hW := hW.trans (bx.mono (Nat.le_trans hB0 hW.size))
    clear hgg
    clear bx
    refine ⟨_, rfl, hK.out _ _ ⟨hp5, hbb, hoo, hkh, hW⟩ (fun _ => ?_)⟩
    clear hK K
    simp only [List.set_cons_zero, List.set_cons_succ]
    refine wpAnyH_ready (by kernel_rfl) (by simp) (readyRunS 0 4 (w6.setCell ⟨p8, 0, none⟩ (.slice (some ⟨g1, 0, none⟩) m2 m2)) rfl rfl (by rfl) (exec_storeCell 22 (.tmp 8) (.tmp 26) rfl p8 0 rfl (.slice (some ⟨g1, 0, none⟩) m2 m2) rfl rfl rfl 22 (#[.slice Ao mo mo]) hp8 (show 0 < 1 by decide) (by kernel_rfl)) ⟨hp5.far (p := ⟨p8, 0, none⟩) (show p5 ≠ p8 from (by omega)) _, hbb.far (p := ⟨p8, 0, none⟩) (show bb ≠ p8 from (by omega)) _, hoo.far (p := ⟨p8, 0, none⟩) noo_p8 _, hkh.far (p := ⟨p8, 0, none⟩) nkh_p8 _, hW.setCell (p := ⟨p8, 0, none⟩) lw_p8 _⟩ (fun _ => ?_) AllReadyH.nil)
    replace hp5 := hp5.far (p := ⟨p8, 0, none⟩) (show p5 ≠ p8 from (by omega)) (.slice (some ⟨g1, 0, none⟩) m2 m2)
    replace hbb := hbb.far (p := ⟨p8, 0, none⟩) (show bb ≠ p8 from (by omega)) (.slice (some ⟨g1, 0, none⟩) m2 m2)
    replace hoo := hoo.far (p := ⟨p8, 0, none⟩) noo_p8 (.slice (some ⟨g1, 0, none⟩) m2 m2)
    replace hkh := hkh.far (p := ⟨p8, 0, none⟩) nkh_p8 (.slice (some ⟨g1, 0, none⟩) m2 m2)
    replace hq1 := hq1.far (p := ⟨p8, 0, none⟩) (show q1 ≠ p8 from (by omega)) (.slice (some ⟨g1, 0, none⟩) m2 m2)
    replace hg1 := hg1.far (p := ⟨p8, 0, none⟩) (show g1 ≠ p8 from (by omega)) (.slice (some ⟨g1, 0, none⟩) m2 m2)
    replace hp8 : Blk (w6.setCell ⟨p8, 0, none⟩ (.slice (some ⟨g1, 0, none⟩) m2 m2)) p8 22 (#[.slice (some ⟨g1, 0, none⟩) m2 m2]) := hp8.set_ 0 (.slice (some ⟨g1, 0, none⟩) m2 m2)
    replace hW := hW.setCell (p := ⟨p8, 0, none⟩) lw_p8 (.slice (some ⟨g1, 0, none⟩) m2 m2)
    generalize w6.setCell ⟨p8, 0, none⟩ (.slice (some ⟨g1, 0, none⟩) m2 m2) = w7 at *
    refine wpAnyH_done (by kernel_rfl) ?_ _
    by_cases hdone : z ≤ m2
    ·
      have hdI : (z : Int) ≤ (m2 : Int) := by omega
      repeat (first | (refine wl_round ?hnd ?_; (case hnd => kernel_rfl)) | gi_step)
      refine runL 27 (.slice (some ⟨g1, 0, none⟩) m2 m2) rfl (by rfl) (exec_cell 22 (.tmp 8) rfl p8 0 rfl (.slice (some ⟨g1, 0, none⟩) m2 m2) _ Tryd.underlying22 rfl (hp8.cellIs 0 rfl)) ?_
      simp only [List.set_cons_zero, List.set_cons_succ]
      refine runL 28 (.int .i64 (m2)) rfl (by rfl) (by go_simp) ?_
      simp only [List.set_cons_zero, List.set_cons_succ]
      refine runL 29 (.int .i64 (z : Int)) rfl (by rfl) (exec_cell 3 (.tmp 5) rfl p5 0 rfl (.int .i64 (z : Int)) _ Tryd.underlying3 rfl (hp5.cellIs 0 rfl)) ?_
      simp only [List.set_cons_zero, List.set_cons_succ]
      refine runL 30 (.bool true) rfl (by rfl) (by go_simp) ?_
      simp only [List.set_cons_zero, List.set_cons_succ]
      refine nilL ?_
      iterate 8 (try gi_step)
      exact ⟨rfl, hkh.ko, hp5, ⟨g1, m2, k + 1, hLg, by omega, by omega, by omega, hp8, by rw [ho2q.out]; exact hg1⟩, hW⟩
    ·
      have hdI : ¬ (z : Int) ≤ (m2 : Int) := by omega
      repeat (first | (refine wl_round ?hnd ?_; (case hnd => kernel_rfl)) | gi_step)
      refine runL 27 (.slice (some ⟨g1, 0, none⟩) m2 m2) rfl (by rfl) (exec_cell 22 (.tmp 8) rfl p8 0 rfl (.slice (some ⟨g1, 0, none⟩) m2 m2) _ Tryd.underlying22 rfl (hp8.cellIs 0 rfl)) ?_
      simp only [List.set_cons_zero, List.set_cons_succ]
      refine runL 28 (.int .i64 (m2)) rfl (by rfl) (by go_simp) ?_
      simp only [List.set_cons_zero, List.set_cons_succ]
      refine runL 29 (.int .i64 (z : Int)) rfl (by rfl) (exec_cell 3 (.tmp 5) rfl p5 0 rfl (.int .i64 (z : Int)) _ Tryd.underlying3 rfl (hp5.cellIs 0 rfl)) ?_
      simp only [List.set_cons_zero, List.set_cons_succ]
      refine runL 30 (.bool false) rfl (by rfl) (by go_simp) ?_
      simp only [List.set_cons_zero, List.set_cons_succ]
      refine nilL ?_
      iterate 8 (try gi_step)
      exact ⟨hkh.ko, hkh.h, by omega, Nat.le_trans hlo hkh.h.size, hp5, ⟨_, _, hp8, by rw [ho2q.out]; exact hg1.owned ho2l hLg (by unfold maxLen; omega)⟩, hW⟩
end Go.Proofs.YtcdmbknmmnaocaaDoor
