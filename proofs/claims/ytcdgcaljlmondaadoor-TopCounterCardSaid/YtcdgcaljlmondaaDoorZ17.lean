/-
  The walk of ledgers.Repeats over two equal uses. (Printed by mktop3.py.)
-/
import Derived.Test.YtcdgcaljlmondaaDoorZ16
import Derived.WalkMore
import Derived.StillTailTactics
namespace Go.Proofs.YtcdgcaljlmondaaDoor
set_option maxRecDepth 16384
open Go.RowKit Sh
theorem ovlT (s c a b : Nat) (h : a ≤ b) : ovl s c a b s c a b = true := by
 unfold ovl
 simp [h]
theorem use_rng {W : World} {g B k : Nat} {ky : List Nat} {s c a b : Nat} (h : Reads W B 20 (some ⟨g, 0, none⟩) 2 ((List.replicate 2 (useL ky s c a b)).flatten)) (hk : ky.length = 16) (hk2 : k < 2) : W.rangeAt g (k * 20) (useL ky s c a b) := fun j v hv => by
  obtain ⟨ad, e, _, hc⟩ := h.2 (by decide)
  injection e with e
  subst e
  have hj : j < 20 := by
    rcases Nat.lt_or_ge j 20 with h | h
    · exact h
    · rw [List.getElem?_eq_none (by rw [useL_len hk]; exact h)] at hv; cases hv
  have h1 := hc (k * 20 + j) v (by rw [flat_rep_get 20 (useL_len hk) hk2 hj]; exact hv)
  rwa [Addr.add_mid, Nat.zero_add] at h1
theorem use_rg {W : World} {g : Nat} {ky : List Nat} {s c a b : Nat} (h : W.rangeAt g 0 (useL ky s c a b)) (hk : ky.length = 16) : W.rangeAt g 16 (rgV s c a b).toList := fun j v hv => by
 have h1 := h (16 + j) v (by
  show (nv .u8 ky ++ (rgV s c a b).toList)[16 + j]? = _
  rw [List.getElem?_append_right (by rw [nv_len, hk]; omega), nv_len, hk, Nat.add_sub_cancel_left]; exact hv)
 rwa [Nat.zero_add] at h1
/-- a cell that holds the number 0 -/
structure IntAt (w : World) (gi : Nat) : Prop where
 lt : gi < w.heap.size
 c : w.cell? ⟨gi, 0, none⟩ = some (.int .i64 0)
section
variable {w w' : World} {gi : Nat}
theorem MapIs.mono {r k B1 B2 : Nat} {es : Array MapEntry} (h : MapIs w r es k) (_ : B1 ≤ B2) : MapIs w r es k := h
theorem IntAt.new_off (h : IntAt w gi) : Off (some ⟨gi, 0, none⟩) w.heap.size := fun a ha e => by cases ha; have := h.lt; have e2 : gi = w.heap.size := e; omega
theorem IntAt.below (h : IntAt w gi) (bx : Below w.heap.size w w') : IntAt w' gi := ⟨Nat.lt_of_lt_of_le h.lt bx.size, (bx.cell (p := ⟨gi, 0, none⟩) h.lt).trans h.c⟩
theorem IntAt.alloc (h : IntAt w gi) (o : Obj) : IntAt (w.alloc o) gi := h.below ((Below.refl _ _).alloc (Nat.le_refl _) o)
theorem IntAt.drew_ (h : IntAt w gi) : IntAt w.drew gi := ⟨h.lt, h.c⟩
theorem IntAt.rowFar {g : Nat} (h : IntAt w gi) (hne : Off (some (⟨gi, 0, none⟩ : Addr)) g) (cs : Array Value) : IntAt (w.setRow g cs) gi :=
 ⟨by simpa [World.setRow] using h.lt, (World.cell?_of_block (setRow_other w g cs gi (fun e => hne _ rfl e.symm))).trans h.c⟩
end
theorem int_infoT : (Tryd.prog.info? 3).map (fun i => (i.zero, i.size, i.bytes)) = some (some (.int .i64 0), 1, 8) := by kernel_rfl
theorem bsI_1 (W : World) : (Instr.buildSlice 134 1 #[(0, .int .i64 0)]).run Tryd.prog W = .ok (.slice (some ⟨W.heap.size, 0, none⟩) 1 1) (W.alloc (.cells #[.int .i64 0] 3)) := by
 obtain ⟨ie, hie, h0, h1, h2⟩ := info_parts int_infoT
 refine run_buildSlice W _ 3 1 _ _ ie _ Tryd.underlying134 hie h0 (by rw [h1]; decide) (by rw [h1]; decide) ?_
 rw [h1]; kernel_rfl
theorem mk_map (t : TypeId) (w : World) : ∃ r w', (Instr.makeMap t none).run Tryd.prog w = .ok (.map (some r)) w' ∧ MapIs w' r #[] 0 ∧ w.heap.size ≤ r ∧ Below w.heap.size w w' :=
 ⟨w.heap.size, w.alloc (.map #[] 0), by simp [Instr.makeMap], (by show (w.heap.push _)[w.heap.size]? = _; simp), Nat.le_refl _, (Below.refl _ _).alloc (Nat.le_refl _) _⟩
theorem exec_makeMapR {w w2 : World} {op : Oper} {a : Act} {v : Value} (t : TypeId) (ho : op.op = .makeMap t none) (h : (Instr.makeMap t none).run Tryd.prog w = .ok v w2) : (execOp a.eval op).run Tryd.prog w = .ok (.value v) w2 := by
 unfold execOp
 simp only [ho, Option.map_none, Sem.run_bind, h, Result.andThen_ok, Sem.run_pure]
/-- the append of one 0 to nil -/
theorem app_int (q : Nat) (ty : TypeId) (w : World) (hq : Blk w q 3 #[.int .i64 0]) : ∃ gi ci w', (Builtin.append_ #[134, 134] ty #[.slice none 0 0, .slice (some ⟨q, 0, none⟩) 1 1]).run Tryd.prog w = .ok (.slice (some ⟨gi, 0, none⟩) 1 ci) w' ∧ IntAt w' gi ∧ w.heap.size ≤ gi ∧ Below w.heap.size w w' := by
  obtain ⟨i0, hi0, hz0, hz1, hz2⟩ := info_parts int_infoT
  have hr : Reads w (q + 1) 1 (some ⟨q, 0, none⟩) 1 [.int .i64 0] := ⟨rfl, fun _ => ⟨_, rfl, Nat.lt_succ_self _, fun j v hv => by
    rw [Addr.add_mid, Nat.zero_add, hq.cell]; simpa using hv⟩⟩
  obtain ⟨v2, w2, hap, how, hgr, hor⟩ := run_append_any (P := Tryd.prog) w w.heap.size 134 ty 3 i0 _ 1 8 Tryd.underlying134 hi0 hz0 hz1 hz2 rfl (by decide) (.slice none 0 0) 0 [] (World.ownsRow_nil w _ _ _) (q + 1) (some ⟨q, 0, none⟩) 1 1 [.int .i64 0] hr (by intro u hu; simp at hu; subst hu; rfl) (by unfold maxLen; omega) (by omega) (Nat.le_refl _)
  rcases how.2 with ⟨_, h0⟩ | ⟨g, cap, cur, rfl, hg, hh, _, _, _, htake⟩
  · omega
  · have hlt : g < w2.heap.size := (Array.getElem?_eq_some_iff.1 hh).1
    refine ⟨g, cap, w2, hap, ⟨hlt, ?_⟩, hg, (Below.refl _ w).grown hgr (Nat.le_refl _) (fun j hj => by simp [Value.ownBlock] at hj)⟩
    have h1 := World.ownsRow.cells how (g := g) rfl 0 (.int .i64 0) rfl
    exact h1
theorem results_tmp3 {P : Program} {w : World} {fn : Func} {p q r : Tmp} (h : fn.results = #[.tmp p, .tmp q, .tmp r]) (tmps : Array Value) (x y z : Value) (hp : tmps.getD p undef = x) (hq : tmps.getD q undef = y) (hr : tmps.getD r undef = z) :
  (results fn tmps).run P w = .ok (.tuple #[x, y, z]) w := by
 have hp' : tmps[p]?.getD undef = x := by simpa using hp
 have hq' : tmps[q]?.getD undef = y := by simpa using hq
 have hr' : tmps[r]?.getD undef = z := by simpa using hr
 simp [results, h, hp', hq', hr']

theorem IntAt.putM {w : World} {gi r k : Nat} {es : Array MapEntry} (h : IntAt w gi) (hm : MapIs w r es k) (o : Obj) : IntAt (w.putObj r o) gi :=
 ⟨by simpa using h.lt, (World.cell?_of_block (World.putObj_heap_other (fun e => by
  have h2 := h.c
  have e3 : gi = r := e
  subst e3
  have h4 : w.heap[gi]? = some (.map es k) := hm
  simp [World.cell?, h4] at h2))).trans h.c⟩

set_option maxRecDepth 8000 in
set_option maxHeartbeats 4000000 in
theorem reps_any (ky : List Nat) (s c a b : Nat) (hkl : ky.length = 16) (hkb : Byt ky) (hab : a ≤ b) (hs : s < 4294967296) (hc : c < 18446744073709551616) (g B : Nat) (w : World) (hr : Reads w B 20 (some ⟨g, 0, none⟩) 2 ((List.replicate 2 (useL ky s c a b)).flatten)) (hB : B ≤ w.heap.size) :
  Calls Tryd.prog 28 #[.agg #[.slice (some ⟨g, 0, none⟩) 2 2]] w fun e w' => e = .returned (.tuple #[.int .i64 0, .int .i64 1, .bool true]) ∧ Below w.heap.size w w' := by
 have hovq := Lib.hid (ovlT s c a b hab)
 obtain ⟨B0, hB0e⟩ : ∃ b, w.heap.size = b := ⟨_, rfl⟩
 rw [hB0e]
 have hW : Below B0 w w := by rw [← hB0e]; exact Below.refl _ _
 have hB0 : B0 ≤ w.heap.size := by omega
 have rd : Hid (∀ W, Below B0 w W → Reads W B 20 (some ⟨g, 0, none⟩) 2 ((List.replicate 2 (useL ky s c a b)).flatten)) := Lib.hid fun W hb => hr.below (hb.mono (by omega))
 have hBB : B ≤ B0 := by omega
 clear hr
 have hwi0 : IntKind.i64.wrap 0 = 0 := by decide
 have hwi1 : IntKind.i64.wrap 1 = 1 := by decide
 have hB0q := Lib.hid hB0e
 clear hB0e
 go_enter Tryd.func28, Tryd.ntmps28
 go_upto_region 0 with fail
 refine wl_lit ?_
 refine runWL 1 (.pointer (some ⟨w.heap.size, 0, none⟩)) (w.alloc (.cells (#[.slice (some ⟨g, 0, none⟩) 2 2]) 80)) rfl (by rfl) (exec_box 80 (.tmp 0) rfl (.agg (#[.slice (some ⟨g, 0, none⟩) 2 2])) rfl) ?_
 simp only [ls0, ls1]
 have lw_p1 := Nat.le_trans hB0 hW.size
 have hp1 : Blk (w.alloc (.cells (#[.slice (some ⟨g, 0, none⟩) 2 2]) 80)) w.heap.size 80 (#[.slice (some ⟨g, 0, none⟩) 2 2]) := Blk.new _ _ _
 replace hW := hW.alloc (Nat.le_trans hB0 hW.size) (.cells (#[.slice (some ⟨g, 0, none⟩) 2 2]) 80)
 generalize w.alloc (.cells (#[.slice (some ⟨g, 0, none⟩) 2 2]) 80) = w1 at *
 generalize w.heap.size = p1 at hp1 lw_p1  ⊢
 refine runL 2 (.int .i64 0) rfl (by rfl) (by go_simp) ?_
 simp only [ls0, ls1]
 refine runL 3 (.int .i64 0) rfl (by rfl) (by go_simp) ?_
 simp only [ls0, ls1]
 refine runL 4 (.bool false) rfl (by rfl) (by go_simp) ?_
 simp only [ls0, ls1]
 refine nilL ?_
 go_wp2_with fail
 go_step3
 go_upto_region 1 with fail
 refine wl_lit ?_
 refine runL 11 (.agg (#[.slice (some ⟨g, 0, none⟩) 2 2])) rfl (by rfl) (exec_row 80 (.tmp 1) rfl p1 rfl 80 (#[.slice (some ⟨g, 0, none⟩) 2 2]) _ hp1 (by exact Tryd.underlying80) rfl (led_sz _)) ?_
 simp only [ls0, ls1]
 refine callL 12 rfl (by rfl) (fun K hK => wp_callF 62 #[.agg (#[.slice (some ⟨g, 0, none⟩) 2 2])] (by go_simp) (lcheck_any ky s c a b hkl hkb hab (some ⟨g, 0, none⟩) 2 2 B (by decide) _ (rd.out _ hW) (Nat.le_trans hBB (Nat.le_trans hB0 hW.size))) ?_)
 rintro e w2 ⟨rfl, bx⟩
 replace hp1 := hp1.below bx hp1.lt
 replace hW := hW.trans (bx.mono (Nat.le_trans hB0 hW.size))
 clear bx
 refine ⟨_, rfl, hK.out _ _ ?_⟩
 clear hK K
 simp only [ls0, ls1]
 refine runL 13 (.bool false) rfl (by rfl) (by go_simp) ?_
 simp only [ls0, ls1]
 refine nilL ?_
 go_upto_region 3 with fail
 refine wl_lit ?_
 obtain ⟨r0, w3, hrun, hmp, hrr, bx⟩ := mk_map 131 _
 refine runWL 14 (.map (some r0)) w3 rfl (by rfl) (exec_makeMapR 131 rfl hrun) ?_
 simp only [ls0, ls1]
 have lw_mp : B0 ≤ r0 := Nat.le_trans (Nat.le_trans hB0 hW.size) hrr
 clear hrr
 replace hmp := hmp.mono (Nat.le_trans hB0 hW.size)
 replace hp1 := hp1.below bx hp1.lt
 replace hW := hW.trans (bx.mono (Nat.le_trans hB0 hW.size))
 clear bx
 clear hrun
 refine runL 5 (.map (some r0)) rfl (by rfl) (by go_simp) ?_
 simp only [ls0, ls1]
 refine nilL ?_
 go_wp2_with fail
 go_step3
 go_upto_region 4 with fail
 refine wl_lit ?_
 refine runL 15 (.pointer (some ⟨p1, 0, none⟩)) rfl (by rfl) (by go_simp) ?_
 simp only [ls0, ls1]
 refine runL 16 (.slice (some ⟨g, 0, none⟩) 2 2) rfl (by rfl) (exec_cell 78 (.tmp 15) rfl p1 0 rfl (.slice (some ⟨g, 0, none⟩) 2 2) _ Tryd.underlying78 rfl (hp1.cellIs 0 rfl)) ?_
 simp only [ls0, ls1]
 refine runL 17 (.int .i64 2) rfl (by rfl) (by go_simp) ?_
 simp only [ls0, ls1]
 refine runL 18 (.int .i64 0) rfl (by rfl) (by go_simp) ?_
 simp only [ls0, ls1]
 refine nilL ?_
 go_wp2_with fail
 go_loopw [18] (fun v wr => ((v = .int .i64 0 ∧ MapIs wr r0 #[] 0) ∨ (v = .int .i64 1 ∧ ∃ gi ci, MapIs wr r0 #[({ key := .agg (plV ky s c), val := .slice (some ⟨gi, 0, none⟩) 1 ci, born := 0 } : MapEntry)] 1 ∧ IntAt wr gi)) ∧ Blk wr p1 80 #[.slice (some ⟨g, 0, none⟩) 2 2] ∧ Below B0 w wr) (fun v _ => 2 - (intOf v).toNat)
 case atStart => exact ⟨.inl ⟨rfl, hmp⟩, hp1, hW⟩
 case round =>
  clear hmp hp1 hW
  obtain ⟨⟨rfl, hmp⟩ | ⟨rfl, gi, ci, hmp, hia⟩, hp1, hW⟩ := hrel
  ·
   have nmp_p1 : Off (some (⟨r0, 0, none⟩ : Addr)) p1 := fun a ha e => by cases ha; have e2 : r0 = p1 := e; subst e2; unfold Blk at hp1; rw [hmp] at hp1; cases hp1
   go_upto_region 6 with fail
   refine wl_lit ?_
   refine runL 20 (.int .i64 0) rfl (by rfl) (by go_simp) ?_
   simp only [ls0, ls1]
   refine runL 21 (.pointer (some ⟨g, 0, none⟩)) rfl (by rfl) (by go_simp) ?_
   simp only [ls0, ls1]
   refine runL 22 (.agg (useV ky s c a b)) rfl (by rfl) (exec_mid 84 (.tmp 21) rfl g 0 rfl (useL ky s c a b) _ (use_rng (k := 0) (rd.out _ hW) hkl (by decide)) (by exact Tryd.underlying84) rfl (useV_sz _ _ _ _ hkl)) ?_
   simp only [ls0, ls1]
   refine runWL 7 (.pointer (some ⟨wr.heap.size, 0, none⟩)) (wr.alloc (.cells (useV (List.replicate 16 0) 0 0 0 0) 84)) rfl (by rfl) (exec_allocV 84 rfl _ (zv_Use _)) ?_
   simp only [ls0, ls1]
   have lp1_p7 := hp1.lt
   have nmp_p7 := hmp.new_off
   have lw_p7 := Nat.le_trans hB0 hW.size
   have hp7 : Blk (wr.alloc (.cells (useV (List.replicate 16 0) 0 0 0 0) 84)) wr.heap.size 84 (useV (List.replicate 16 0) 0 0 0 0) := Blk.new _ _ _
   replace hp1 := hp1.alloc (.cells (useV (List.replicate 16 0) 0 0 0 0) 84)
   replace hmp := hmp.alloc (.cells (useV (List.replicate 16 0) 0 0 0 0) 84)
   replace hW := hW.alloc (Nat.le_trans hB0 hW.size) (.cells (useV (List.replicate 16 0) 0 0 0 0) 84)
   generalize wr.alloc (.cells (useV (List.replicate 16 0) 0 0 0 0) 84) = w4 at *
   generalize wr.heap.size = p7 at hp7 lw_p7 lp1_p7 nmp_p7 ⊢
   refine runL 6 (.int .i64 0) rfl (by rfl) (by go_simp) ?_
   simp only [ls0, ls1]
   refine runSL (w4.setRow p7 (useV ky s c a b)) rfl (by rfl) (exec_storeRow 84 (.tmp 7) (.tmp 22) rfl p7 rfl (useV ky s c a b) rfl 84 (useV (List.replicate 16 0) 0 0 0 0) hp7 (sz_eq (useV_sz _ _ _ _ List.length_replicate) (useV_sz _ _ _ _ hkl)) (useV_sz _ _ _ _ hkl) (useV_one _ _ _ _ _)) ?_
   replace hp1 := hp1.rowFar (show p7 ≠ p1 from (by omega)) (useV ky s c a b)
   replace hmp := hmp.rowFar nmp_p7 (useV ky s c a b)
   replace hp7 := hp7.row (useV ky s c a b)
   replace hW := below_setRow hW lw_p7 (useV ky s c a b)
   generalize w4.setRow p7 (useV ky s c a b) = w5 at *
   refine nilL ?_
   go_upto_region 7 with fail
   refine wl_lit ?_
   refine runL 23 (.pointer (some ⟨p7, 0, none⟩)) rfl (by rfl) (by go_simp) ?_
   simp only [ls0, ls1]
   refine runL 24 (.agg (va .u8 (ky))) rfl (by rfl) (exec_mid 37 (.tmp 23) rfl p7 0 rfl (nv .u8 ky) _ (useV_key hp7 hkl) (by exact Tryd.underlying37) rfl (sz16D _ hkl)) ?_
   simp only [ls0, ls1]
   refine runL 25 (.pointer (some ⟨p7, 16, none⟩)) rfl (by rfl) (by go_simp) ?_
   simp only [ls0, ls1]
   refine runL 26 (.pointer (some ⟨p7, 16, none⟩)) rfl (by rfl) (by go_simp) ?_
   simp only [ls0, ls1]
   refine runL 27 (.agg (noV s c)) rfl (by rfl) (exec_mid 40 (.tmp 26) rfl p7 16 rfl (noV s c).toList _ (useV_no hp7 hkl) (by exact Tryd.underlying40) rfl (by kernel_rfl)) ?_
   simp only [ls0, ls1]
   refine runL 28 (.agg (plV ky s c)) rfl (by rfl) (exec_build 133 _ rfl (plV ky s c) (by exact built_pl ky s c hkl)) ?_
   simp only [ls0, ls1]
   refine runWL 8 (.pointer (some ⟨w5.heap.size, 0, none⟩)) (w5.alloc (.cells (plV (List.replicate 16 0) 0 0) 133)) rfl (by rfl) (exec_allocV 133 rfl _ (zv_place _)) ?_
   simp only [ls0, ls1]
   have lp1_p8 := hp1.lt
   have nmp_p8 := hmp.new_off
   have lp7_p8 := hp7.lt
   have lw_p8 := Nat.le_trans hB0 hW.size
   have hp8 : Blk (w5.alloc (.cells (plV (List.replicate 16 0) 0 0) 133)) w5.heap.size 133 (plV (List.replicate 16 0) 0 0) := Blk.new _ _ _
   replace hp1 := hp1.alloc (.cells (plV (List.replicate 16 0) 0 0) 133)
   replace hmp := hmp.alloc (.cells (plV (List.replicate 16 0) 0 0) 133)
   replace hp7 := hp7.alloc (.cells (plV (List.replicate 16 0) 0 0) 133)
   replace hW := hW.alloc (Nat.le_trans hB0 hW.size) (.cells (plV (List.replicate 16 0) 0 0) 133)
   generalize w5.alloc (.cells (plV (List.replicate 16 0) 0 0) 133) = w6 at *
   generalize w5.heap.size = p8 at hp8 lw_p8 lp1_p8 nmp_p8 lp7_p8 ⊢
   refine runSL (w6.setRow p8 (plV ky s c)) rfl (by rfl) (exec_storeRow 133 (.tmp 8) (.tmp 28) rfl p8 rfl (plV ky s c) rfl 133 (plV (List.replicate 16 0) 0 0) hp8 (sz_eq (plV_sz _ _ List.length_replicate) (plV_sz _ _ hkl)) (plV_sz _ _ hkl) (plV_one _ _ _)) ?_
   replace hp1 := hp1.rowFar (show p8 ≠ p1 from (by omega)) (plV ky s c)
   replace hmp := hmp.rowFar nmp_p8 (plV ky s c)
   replace hp7 := hp7.rowFar (show p8 ≠ p7 from (by omega)) (plV ky s c)
   replace hp8 := hp8.row (plV ky s c)
   replace hW := below_setRow hW lw_p8 (plV ky s c)
   generalize w6.setRow p8 (plV ky s c) = w7 at *
   refine nilL ?_
   go_upto_region 8 with fail
   refine wl_lit ?_
   refine runL 29 (.map (some r0)) rfl (by rfl) (by go_simp) ?_
   simp only [ls0, ls1]
   refine runL 30 (.agg (plV ky s c)) rfl (by rfl) (exec_row 133 (.tmp 8) rfl p8 rfl 133 (plV ky s c) _ hp8 (by exact Tryd.underlying133) rfl (plV_sz _ _ hkl)) ?_
   simp only [ls0, ls1]
   refine runL 31 (.slice none 0 0) rfl (by rfl) (exec_lookup0 _ _ rfl rfl rfl hmp hkl hkb hs hc) ?_
   simp only [ls0, ls1]
   refine runL 32 (.int .i64 0) rfl (by rfl) (by go_simp) ?_
   simp only [ls0, ls1]
   refine runL 33 (.int .i64 0) rfl (by rfl) (by go_simp) ?_
   simp only [ls0, ls1]
   refine nilL ?_
   go_wp2_with fail
   go_loopw [33] (fun v wr => v = .int .i64 0 ∧ MapIs wr r0 #[] 0 ∧ Blk wr p1 80 #[.slice (some ⟨g, 0, none⟩) 2 2] ∧ Blk wr p8 133 (plV ky s c) ∧ Below B0 w wr) (fun _ _ => 0)
   case atStart => exact ⟨rfl, hmp, hp1, hp8, hW⟩
   case round =>
    clear hmp hp1 hp7 hp8 hW
    obtain ⟨rfl, hmp, hp1, hp8, hW⟩ := hrel
    go_upto_region 14 with fail
    refine wl_lit ?_
    refine runL 49 (.map (some r0)) rfl (by rfl) (by go_simp) ?_
    simp only [ls0, ls1]
    refine runL 50 (.agg (plV ky s c)) rfl (by rfl) (exec_row 133 (.tmp 8) rfl p8 rfl 133 (plV ky s c) _ hp8 (by exact Tryd.underlying133) rfl (plV_sz _ _ hkl)) ?_
    simp only [ls0, ls1]
    refine runL 52 (.int .i64 0) rfl (by rfl) (by go_simp) ?_
    simp only [ls0, ls1]
    refine runWL 53 (.slice (some ⟨wr.heap.size, 0, none⟩) 1 1) (wr.alloc (.cells (#[.int .i64 0]) 3)) rfl (by rfl) (exec_bslice 134 1 _ rfl _ (by exact bsI_1 _)) ?_
    simp only [ls0, ls1]
    have lp1_qi := hp1.lt
    have nmp_qi := hmp.new_off
    have lp8_qi := hp8.lt
    have lw_qi := Nat.le_trans hB0 hW.size
    have hqi : Blk (wr.alloc (.cells (#[.int .i64 0]) 3)) wr.heap.size 3 (#[.int .i64 0]) := Blk.new _ _ _
    replace hp1 := hp1.alloc (.cells (#[.int .i64 0]) 3)
    replace hmp := hmp.alloc (.cells (#[.int .i64 0]) 3)
    replace hp8 := hp8.alloc (.cells (#[.int .i64 0]) 3)
    replace hW := hW.alloc (Nat.le_trans hB0 hW.size) (.cells (#[.int .i64 0]) 3)
    generalize wr.alloc (.cells (#[.int .i64 0]) 3) = w8 at *
    generalize wr.heap.size = qi at hqi lw_qi lp1_qi nmp_qi lp8_qi ⊢
    refine runWL 54 (.tuple #[.slice none 0 0, .int .i64 0]) (w8.putObj r0 (.map #[({ key := .agg (plV ky s c), val := .slice none 0 0, born := 0 } : MapEntry)] 1)) rfl (by rfl) (exec_mapEntry0 _ _ rfl rfl rfl hmp hkl hkb hs hc) ?_
    simp only [ls0, ls1]
    replace hp1 := hp1.putM hmp (.map #[({ key := .agg (plV ky s c), val := .slice none 0 0, born := 0 } : MapEntry)] 1)
    replace hp8 := hp8.putM hmp (.map #[({ key := .agg (plV ky s c), val := .slice none 0 0, born := 0 } : MapEntry)] 1)
    replace hqi := hqi.putM hmp (.map #[({ key := .agg (plV ky s c), val := .slice none 0 0, born := 0 } : MapEntry)] 1)
    replace hW := below_putM hW lw_mp (.map #[({ key := .agg (plV ky s c), val := .slice none 0 0, born := 0 } : MapEntry)] 1)
    replace hmp := hmp.put #[({ key := .agg (plV ky s c), val := .slice none 0 0, born := 0 } : MapEntry)] 1
    generalize w8.putObj r0 (.map #[({ key := .agg (plV ky s c), val := .slice none 0 0, born := 0 } : MapEntry)] 1) = w9 at *
    refine runL 51 (.slice none 0 0) rfl (by rfl) (by go_simp) ?_
    simp only [ls0, ls1]
    obtain ⟨gi, ci, w10, hap, hia, hgi, bx⟩ := app_int qi 134 _ hqi
    refine runWL 55 (.slice (some ⟨gi, 0, none⟩) 1 ci) w10 rfl (by rfl) (exec_append _ _ _ _ rfl _ _ _ rfl rfl hap) ?_
    simp only [ls0, ls1]
    have lr_gi : r0 < gi := Nat.lt_of_lt_of_le hmp.lt hgi
    replace hp1 := hp1.below bx hp1.lt
    replace hmp := hmp.below bx
    replace hp8 := hp8.below bx hp8.lt
    replace hqi := hqi.below bx hqi.lt
    replace hW := hW.trans (bx.mono (Nat.le_trans hB0 hW.size))
    clear bx hap hgi
    refine runL 56 (.int .i64 0) rfl (by rfl) (by go_simp) ?_
    simp only [ls0, ls1]
    refine runSL (w10.putObj r0 (.map #[({ key := .agg (plV ky s c), val := .slice (some ⟨gi, 0, none⟩) 1 ci, born := 0 } : MapEntry)] 1)) rfl (by rfl) (exec_entryStore _ _ _ (.slice (some ⟨gi, 0, none⟩) 1 ci) (.slice none 0 0) (.agg (plV ky s c)) rfl rfl rfl rfl hmp) ?_
    clear hp8 hqi
    replace hp1 := hp1.putM hmp (.map #[({ key := .agg (plV ky s c), val := .slice (some ⟨gi, 0, none⟩) 1 ci, born := 0 } : MapEntry)] 1)
    replace hia := IntAt.putM hia hmp (.map #[({ key := .agg (plV ky s c), val := .slice (some ⟨gi, 0, none⟩) 1 ci, born := 0 } : MapEntry)] 1)
    replace hW := below_putM hW lw_mp (.map #[({ key := .agg (plV ky s c), val := .slice (some ⟨gi, 0, none⟩) 1 ci, born := 0 } : MapEntry)] 1)
    replace hmp := hmp.put #[({ key := .agg (plV ky s c), val := .slice (some ⟨gi, 0, none⟩) 1 ci, born := 0 } : MapEntry)] 1
    generalize w10.putObj r0 (.map #[({ key := .agg (plV ky s c), val := .slice (some ⟨gi, 0, none⟩) 1 ci, born := 0 } : MapEntry)] 1) = w11 at *
    refine nilL ?_
    go_wp2
    go_roundw
    case rel => exact ⟨.inr ⟨rfl, gi, ci, hmp, hia⟩, hp1, hW⟩
    case measure => simp [intOf]
  ·
   go_upto_region 6 with fail
   refine wl_lit ?_
   refine runL 20 (.int .i64 1) rfl (by rfl) (by go_simp) ?_
   simp only [ls0, ls1]
   refine runL 21 (.pointer (some ⟨g, 20, none⟩)) rfl (by rfl) (by go_simp) ?_
   simp only [ls0, ls1]
   refine runL 22 (.agg (useV ky s c a b)) rfl (by rfl) (exec_mid 84 (.tmp 21) rfl g 20 rfl (useL ky s c a b) _ (use_rng (k := 1) (rd.out _ hW) hkl (by decide)) (by exact Tryd.underlying84) rfl (useV_sz _ _ _ _ hkl)) ?_
   simp only [ls0, ls1]
   refine runWL 7 (.pointer (some ⟨wr.heap.size, 0, none⟩)) (wr.alloc (.cells (useV (List.replicate 16 0) 0 0 0 0) 84)) rfl (by rfl) (exec_allocV 84 rfl _ (zv_Use _)) ?_
   simp only [ls0, ls1]
   have lp1_p7 := hp1.lt
   have nmp_p7 := hmp.new_off
   have nia_p7 := hia.new_off
   have lw_p7 := Nat.le_trans hB0 hW.size
   have hp7 : Blk (wr.alloc (.cells (useV (List.replicate 16 0) 0 0 0 0) 84)) wr.heap.size 84 (useV (List.replicate 16 0) 0 0 0 0) := Blk.new _ _ _
   replace hp1 := hp1.alloc (.cells (useV (List.replicate 16 0) 0 0 0 0) 84)
   replace hmp := hmp.alloc (.cells (useV (List.replicate 16 0) 0 0 0 0) 84)
   replace hia := hia.alloc (.cells (useV (List.replicate 16 0) 0 0 0 0) 84)
   replace hW := hW.alloc (Nat.le_trans hB0 hW.size) (.cells (useV (List.replicate 16 0) 0 0 0 0) 84)
   generalize wr.alloc (.cells (useV (List.replicate 16 0) 0 0 0 0) 84) = w4 at *
   generalize wr.heap.size = p7 at hp7 lw_p7 lp1_p7 nmp_p7 nia_p7 ⊢
   refine runL 6 (.int .i64 1) rfl (by rfl) (by go_simp) ?_
   simp only [ls0, ls1]
   refine runSL (w4.setRow p7 (useV ky s c a b)) rfl (by rfl) (exec_storeRow 84 (.tmp 7) (.tmp 22) rfl p7 rfl (useV ky s c a b) rfl 84 (useV (List.replicate 16 0) 0 0 0 0) hp7 (sz_eq (useV_sz _ _ _ _ List.length_replicate) (useV_sz _ _ _ _ hkl)) (useV_sz _ _ _ _ hkl) (useV_one _ _ _ _ _)) ?_
   replace hp1 := hp1.rowFar (show p7 ≠ p1 from (by omega)) (useV ky s c a b)
   replace hmp := hmp.rowFar nmp_p7 (useV ky s c a b)
   replace hia := hia.rowFar nia_p7 (useV ky s c a b)
   replace hp7 := hp7.row (useV ky s c a b)
   replace hW := below_setRow hW lw_p7 (useV ky s c a b)
   generalize w4.setRow p7 (useV ky s c a b) = w5 at *
   refine nilL ?_
   go_upto_region 7 with fail
   refine wl_lit ?_
   refine runL 23 (.pointer (some ⟨p7, 0, none⟩)) rfl (by rfl) (by go_simp) ?_
   simp only [ls0, ls1]
   refine runL 24 (.agg (va .u8 (ky))) rfl (by rfl) (exec_mid 37 (.tmp 23) rfl p7 0 rfl (nv .u8 ky) _ (useV_key hp7 hkl) (by exact Tryd.underlying37) rfl (sz16D _ hkl)) ?_
   simp only [ls0, ls1]
   refine runL 25 (.pointer (some ⟨p7, 16, none⟩)) rfl (by rfl) (by go_simp) ?_
   simp only [ls0, ls1]
   refine runL 26 (.pointer (some ⟨p7, 16, none⟩)) rfl (by rfl) (by go_simp) ?_
   simp only [ls0, ls1]
   refine runL 27 (.agg (noV s c)) rfl (by rfl) (exec_mid 40 (.tmp 26) rfl p7 16 rfl (noV s c).toList _ (useV_no hp7 hkl) (by exact Tryd.underlying40) rfl (by kernel_rfl)) ?_
   simp only [ls0, ls1]
   refine runL 28 (.agg (plV ky s c)) rfl (by rfl) (exec_build 133 _ rfl (plV ky s c) (by exact built_pl ky s c hkl)) ?_
   simp only [ls0, ls1]
   refine runWL 8 (.pointer (some ⟨w5.heap.size, 0, none⟩)) (w5.alloc (.cells (plV (List.replicate 16 0) 0 0) 133)) rfl (by rfl) (exec_allocV 133 rfl _ (zv_place _)) ?_
   simp only [ls0, ls1]
   have lp1_p8 := hp1.lt
   have nmp_p8 := hmp.new_off
   have nia_p8 := hia.new_off
   have lp7_p8 := hp7.lt
   have lw_p8 := Nat.le_trans hB0 hW.size
   have hp8 : Blk (w5.alloc (.cells (plV (List.replicate 16 0) 0 0) 133)) w5.heap.size 133 (plV (List.replicate 16 0) 0 0) := Blk.new _ _ _
   replace hp1 := hp1.alloc (.cells (plV (List.replicate 16 0) 0 0) 133)
   replace hmp := hmp.alloc (.cells (plV (List.replicate 16 0) 0 0) 133)
   replace hia := hia.alloc (.cells (plV (List.replicate 16 0) 0 0) 133)
   replace hp7 := hp7.alloc (.cells (plV (List.replicate 16 0) 0 0) 133)
   replace hW := hW.alloc (Nat.le_trans hB0 hW.size) (.cells (plV (List.replicate 16 0) 0 0) 133)
   generalize w5.alloc (.cells (plV (List.replicate 16 0) 0 0) 133) = w6 at *
   generalize w5.heap.size = p8 at hp8 lw_p8 lp1_p8 nmp_p8 nia_p8 lp7_p8 ⊢
   refine runSL (w6.setRow p8 (plV ky s c)) rfl (by rfl) (exec_storeRow 133 (.tmp 8) (.tmp 28) rfl p8 rfl (plV ky s c) rfl 133 (plV (List.replicate 16 0) 0 0) hp8 (sz_eq (plV_sz _ _ List.length_replicate) (plV_sz _ _ hkl)) (plV_sz _ _ hkl) (plV_one _ _ _)) ?_
   replace hp1 := hp1.rowFar (show p8 ≠ p1 from (by omega)) (plV ky s c)
   replace hmp := hmp.rowFar nmp_p8 (plV ky s c)
   replace hia := hia.rowFar nia_p8 (plV ky s c)
   replace hp7 := hp7.rowFar (show p8 ≠ p7 from (by omega)) (plV ky s c)
   replace hp8 := hp8.row (plV ky s c)
   replace hW := below_setRow hW lw_p8 (plV ky s c)
   generalize w6.setRow p8 (plV ky s c) = w7 at *
   refine nilL ?_
   go_upto_region 8 with fail
   refine wl_lit ?_
   refine runL 29 (.map (some r0)) rfl (by rfl) (by go_simp) ?_
   simp only [ls0, ls1]
   refine runL 30 (.agg (plV ky s c)) rfl (by rfl) (exec_row 133 (.tmp 8) rfl p8 rfl 133 (plV ky s c) _ hp8 (by exact Tryd.underlying133) rfl (plV_sz _ _ hkl)) ?_
   simp only [ls0, ls1]
   refine runL 31 (.slice (some ⟨gi, 0, none⟩) 1 ci) rfl (by rfl) (exec_lookup1 _ _ rfl rfl rfl _ _ hmp hkl hkb hs hc) ?_
   simp only [ls0, ls1]
   refine runL 32 (.int .i64 1) rfl (by rfl) (by go_simp) ?_
   simp only [ls0, ls1]
   refine runL 33 (.int .i64 0) rfl (by rfl) (by go_simp) ?_
   simp only [ls0, ls1]
   refine nilL ?_
   go_wp2_with fail
   go_loopw [33] (fun v wr => v = .int .i64 0 ∧ IntAt wr gi ∧ Blk wr p1 80 #[.slice (some ⟨g, 0, none⟩) 2 2] ∧ Blk wr p7 84 (useV ky s c a b) ∧ Below B0 w wr) (fun _ _ => 0)
   case atStart => exact ⟨rfl, hia, hp1, hp7, hW⟩
   case round =>
    clear hmp hp1 hp7 hp8 hia hW
    obtain ⟨rfl, hia, hp1, hp7, hW⟩ := hrel
    go_upto_region 10 with fail
    refine wl_lit ?_
    refine runL 35 (.pointer (some ⟨gi, 0, none⟩)) rfl (by rfl) (by go_simp) ?_
    simp only [ls0, ls1]
    refine runL 36 (.int .i64 0) rfl (by rfl) (exec_cell 3 (.tmp 35) rfl gi 0 rfl (.int .i64 0) _ Tryd.underlying3 rfl hia.c) ?_
    simp only [ls0, ls1]
    refine runL 10 (.int .i64 0) rfl (by rfl) (by go_simp) ?_
    simp only [ls0, ls1]
    refine nilL ?_
    go_upto_region 11 with fail
    refine wp_region_held_drew (S := fun wr => Blk wr p1 80 (#[.slice (some ⟨g, 0, none⟩) 2 2]) ∧ IntAt wr gi ∧ Blk wr p7 84 (useV ky s c a b) ∧ Below B0 w wr) (by kernel_rfl) ⟨hp1.drew, hia.drew_, hp7.drew, below_drewN hW 1⟩ (fun hH => ?_)
    clear hp1 hia hp7 hW
    obtain ⟨hp1, hia, hp7, hW⟩ := hH
    generalize wr.drew = w8 at *
    refine takeH 8 0 37 (.pointer (some ⟨p1, 0, none⟩)) rfl rfl (by kernel_rfl) (by kernel_rfl) (by kernel_rfl) (fun _ _ _ h => h) (Or.inl ⟨by rfl, fun w _ => by go_simp⟩) ⟨hp1, hia, hp7, hW⟩ ?_
    simp only [ls0, ls1]
    refine takeH 7 1 38 (.slice (some ⟨g, 0, none⟩) 2 2) rfl rfl (by kernel_rfl) (by kernel_rfl) (by kernel_rfl) (fun _ _ _ h => h) (Or.inl ⟨by rfl, fun _ h => exec_cell 78 (.tmp 37) rfl p1 0 rfl (.slice (some ⟨g, 0, none⟩) 2 2) _ Tryd.underlying78 rfl (h.1.cellIs 0 rfl)⟩) ⟨hp1, hia, hp7, hW⟩ ?_
    simp only [ls0, ls1]
    refine takeH 6 2 39 (.int .i64 0) rfl rfl (by kernel_rfl) (by kernel_rfl) (by kernel_rfl) (fun _ _ _ h => h) (Or.inl ⟨by rfl, fun w _ => by go_simp⟩) ⟨hp1, hia, hp7, hW⟩ ?_
    simp only [ls0, ls1]
    refine takeH 5 3 40 (.pointer (some ⟨g, 0, none⟩)) rfl rfl (by kernel_rfl) (by kernel_rfl) (by kernel_rfl) (fun _ _ _ h => h) (Or.inl ⟨by rfl, fun w _ => by go_simp⟩) ⟨hp1, hia, hp7, hW⟩ ?_
    simp only [ls0, ls1]
    refine takeH 4 4 41 (.pointer (some ⟨g, 16, none⟩)) rfl rfl (by kernel_rfl) (by kernel_rfl) (by kernel_rfl) (fun _ _ _ h => h) (Or.inl ⟨by rfl, fun w _ => by go_simp⟩) ⟨hp1, hia, hp7, hW⟩ ?_
    simp only [ls0, ls1]
    refine takeH 3 5 42 (.agg (rgV s c a b)) rfl rfl (by kernel_rfl) (by kernel_rfl) (by kernel_rfl) (fun _ _ _ h => h) (Or.inl ⟨by rfl, fun _ h => exec_mid 75 (.tmp 41) rfl g 16 rfl (rgV s c a b).toList _ (use_rg (by have h9 := use_rng (k := 0) (rd.out _ h.2.2.2) hkl (by decide); rwa [Nat.zero_mul] at h9) hkl) (by exact Tryd.underlying75) rfl (by kernel_rfl)⟩) ⟨hp1, hia, hp7, hW⟩ ?_
    simp only [ls0, ls1]
    refine takeH 2 6 43 (.pointer (some ⟨p7, 16, none⟩)) rfl rfl (by kernel_rfl) (by kernel_rfl) (by kernel_rfl) (fun _ _ _ h => h) (Or.inl ⟨by rfl, fun w _ => by go_simp⟩) ⟨hp1, hia, hp7, hW⟩ ?_
    simp only [ls0, ls1]
    refine takeH 1 7 44 (.agg (rgV s c a b)) rfl rfl (by kernel_rfl) (by kernel_rfl) (by kernel_rfl) (fun _ _ _ h => h) (Or.inl ⟨by rfl, fun _ h => exec_mid 75 (.tmp 43) rfl p7 16 rfl (rgV s c a b).toList _ (useV_rg h.2.2.1 hkl) (by exact Tryd.underlying75) rfl (by kernel_rfl)⟩) ⟨hp1, hia, hp7, hW⟩ ?_
    simp only [ls0, ls1]
    refine wpAnyH_ready (by kernel_rfl) (by simp) (readyCons 0 8 45 rfl rfl (by rfl) (fun K hK => wp_callF 65 #[.agg (rgV s c a b), .agg (rgV s c a b)] (by go_simp) (overlap_any s c a b s c a b true hovq.out _) ?_) AllReadyH.nil)
    rintro e w9 ⟨rfl, bx⟩
    replace hp1 := hp1.below bx hp1.lt
    replace hia := hia.below bx
    replace hp7 := hp7.below bx hp7.lt
    replace hW := hW.trans (bx.mono (Nat.le_trans hB0 hW.size))
    clear bx
    refine ⟨_, rfl, hK.out _ _ ⟨hp1, hia, hp7, hW⟩ (fun _ => ?_)⟩
    clear hK K
    simp only [ls0, ls1]
    refine wpAnyH_done (by kernel_rfl) ?_ _
    go_upto_region 12 with fail
    refine wl_lit ?_
    refine runL 46 (.int .i64 0) rfl (by rfl) (by go_simp) ?_
    simp only [ls0, ls1]
    refine runL 47 (.int .i64 1) rfl (by rfl) (by go_simp) ?_
    simp only [ls0, ls1]
    refine runL 2 (.int .i64 0) rfl (by rfl) (by go_simp) ?_
    simp only [ls0, ls1]
    refine runL 3 (.int .i64 1) rfl (by rfl) (by go_simp) ?_
    simp only [ls0, ls1]
    refine runL 4 (.bool true) rfl (by rfl) (by go_simp) ?_
    simp only [ls0, ls1]
    refine nilL ?_
    go_upto_region 16 with fail
    refine wl_lit ?_
    refine runL 58 (.int .i64 0) rfl (by rfl) (by go_simp) ?_
    simp only [ls0, ls1]
    refine runL 59 (.int .i64 1) rfl (by rfl) (by go_simp) ?_
    simp only [ls0, ls1]
    refine runL 60 (.bool true) rfl (by rfl) (by go_simp) ?_
    simp only [ls0, ls1]
    refine runL 2 (.int .i64 0) rfl (by rfl) (by go_simp) ?_
    simp only [ls0, ls1]
    refine runL 3 (.int .i64 1) rfl (by rfl) (by go_simp) ?_
    simp only [ls0, ls1]
    refine runL 4 (.bool true) rfl (by rfl) (by go_simp) ?_
    simp only [ls0, ls1]
    refine nilL ?_
    go_wp2_with fail
    try rw [Exit.noGoto_ret]
    exact bodyPost_ret (results_tmp3 rfl _ (.int .i64 0) (.int .i64 1) (.bool true) rfl rfl rfl) rfl ⟨rfl, hW⟩
end Go.Proofs.YtcdgcaljlmondaaDoor
/-
  Walks of the allocator's Check, of the reference's Check, and of New.
-/
namespace Go.Proofs.YtcdgcaljlmondaaDoor
set_option maxRecDepth 16384
open Go.RowKit

/-- an allocator as a value -/
def alV (A : Option Addr) (n c m l r : Nat) : Array Value := #[.slice A n c, .int .u64 (m : Int), .int .u64 (l : Int), .int .u64 (r : Int)]

/-- its error: 0 or 1 -/
def chk (cs : List Nat) (m l r : Nat) : Nat :=
 if cs.length < 1 then 1 else if 8 < cs.length then 1 else if l < m then 1 else if r < 1 then 1 else if 4294967296 < r then 1 else if l < r then 1 else if cs.any (fun c => decide (m < c)) then 1 else 0

theorem chk_head {cs : List Nat} {n m l r : Nat} (hn : cs.length = n) (h : n < 1 ∨ 8 < n ∨ l < m ∨ r < 1 ∨ 4294967296 < r ∨ l < r) : chk cs m l r = 1 := by
 subst hn
 unfold chk
 repeat' split
 all_goals first | rfl | omega
theorem chk_tail {cs : List Nat} {n m l r : Nat} (hn : cs.length = n) (h : ¬ (n < 1 ∨ 8 < n ∨ l < m ∨ r < 1 ∨ 4294967296 < r ∨ l < r)) : chk cs m l r = if cs.any (fun c => decide (m < c)) then 1 else 0 := by
 subst hn
 unfold chk
 simp only [not_or] at h
 obtain ⟨h1, h2, h3, h4, h5, h6⟩ := h
 rw [if_neg h1, if_neg h2, if_neg h3, if_neg h4, if_neg h5, if_neg h6]
theorem any_hit {cs : List Nat} {m k : Nat} (hk : k < cs.length) (hm : m < cs.getD k 0) : cs.any (fun c => decide (m < c)) = true := by
 rw [List.any_eq_true]
 refine ⟨cs[k], List.getElem_mem hk, ?_⟩
 simp [List.getD_eq_getElem?_getD, hk] at hm
 simpa using hm
theorem any_miss {cs : List Nat} {m : Nat} (h : ∀ i, i < cs.length → cs.getD i 0 ≤ m) : cs.any (fun c => decide (m < c)) = false := by
 rw [List.any_eq_false]
 intro x hx
 obtain ⟨i, hi, rfl⟩ := List.mem_iff_getElem.1 hx
 have := h i hi
 simp [List.getD_eq_getElem?_getD, hi] at this
 simpa using this

set_option maxHeartbeats 800000 in
theorem check_any (A : Option Addr) (n c m l r B : Nat) (cs : List Nat) (w : World) (hr : Reads w B 1 A n (nv .u64 cs)) (hB : B ≤ w.heap.size) :
    Calls Tryd.prog 50 #[.agg (alV A n c m l r)] w fun e w' => e = .returned (.int .i64 (chk cs m l r : Nat)) ∧ Below w.heap.size w w' := by
  have hN := Lib.hid hr.len
  unfold alV
  go_enter Tryd.func50, Tryd.ntmps50
  have hlr := Lib.hid (hr.alloc hB (Obj.cells (alV A n c m l r) 58))
  have hbl := Lib.hid ((Below.refl w.heap.size w).alloc (Nat.le_refl _) (Obj.cells (alV A n c m l r) 58))
  clear hr
  unfold alV at *
  go_wp2
  rotate_left 2
  · go_loop [42] (fun s => ∃ k : Nat, k ≤ n ∧ s = .int .i64 (k : Int) ∧ ∀ i, i < k → cs.getD i 0 ≤ m) (fun s => n - (intOf s).toNat)
    case atStart => exact ⟨0, by omega, rfl, fun i hi => by omega⟩
    case round =>
      obtain ⟨k, hk, rfl, hall⟩ := hrel
      by_cases hlt : k < n
      · have hlt' : (k : Int) < (n : Int) := by omega
        obtain ⟨ad, rfl, hbl2, hc⟩ := hlr.out.num hlt
        have hall' := Lib.hid hall
        clear hall
        by_cases hgt : m < cs.getD k 0
        · have hgt' := Lib.hid hgt
          generalize hx : cs.getD k 0 = x at *
          go_wp2
          go_ret
          refine ⟨ret_int ?_, hbl.out⟩
          rw [chk_tail hN.out (by omega), any_hit (k := k) (by have := hN.out; omega) (by rw [hx]; exact hgt)]; rfl
        · have hgt' := Lib.hid hgt
          obtain ⟨x, hx⟩ : ∃ x, cs.getD k 0 = x := ⟨_, rfl⟩
          rw [hx] at hgt hgt' hc
          have hxe := Lib.hid hx
          clear hx
          go_wp2
          go_round
          case rel =>
            refine ⟨k + 1, by omega, by go_num, fun i hi => ?_⟩
            rcases Nat.lt_or_ge i k with h0 | h0
            · exact hall'.out i h0
            · obtain rfl : i = k := by omega
              rw [hxe.out]; have h2 := hgt'.out; omega
          case measure => simp [intOf]; omega
      · obtain rfl : n = k := by omega
        go_wp2
        go_ret
        refine ⟨ret_int ?_, hbl.out⟩
        rw [chk_tail hN.out (by omega), any_miss (by rw [hN.out]; exact hall)]; rfl
  all_goals
    go_ret
    exact ⟨ret_int (by rw [chk_head hN.out (by omega)]; rfl), hbl.out⟩

end Go.Proofs.YtcdgcaljlmondaaDoor
/-
  Walks of New and own.
-/
namespace Go.Proofs.YtcdgcaljlmondaaDoor
set_option maxRecDepth 16384
open Go.RowKit

theorem u64_info : (Tryd.prog.info? 24).map (fun i => (i.zero, i.size, i.bytes)) = some (some (.int .u64 0), 1, 8) := by kernel_rfl
/-- make([]uint64, n) -/
theorem make_u64 (n : Nat) (hn : n ≤ 35184372088832) (w : World) :
  (Instr.makeSlice 56 (.int .i64 (n : Int)) (.int .i64 (n : Int))).run Tryd.prog w = .ok (.slice (some ⟨w.heap.size, 0, none⟩) n n) (w.alloc (.cells (va .u64 (List.replicate n 0)) 24)) := by
 obtain ⟨i0, hi, hz0, hz1, hz2⟩ := info_parts u64_info
 have h := run_make_rowN (P := Tryd.prog) 56 24 i0 (.int .u64 0) Tryd.underlying56 hi hz0 .i64 .i64 n n (Nat.le_refl _) (by rw [hz2]; omega) (by omega) w
 rw [h, va_rep, hz1, made_one _ rfl]

theorem alV_size (A : Option Addr) (n c m l r : Nat) : (alV A n c m l r).size = 4 := rfl
theorem alV_one (A : Option Addr) (n c m l r : Nat) : ∀ v ∈ (alV A n c m l r).toList, v.oneCell' = true := by
 intro v hv
 simp [alV] at hv
 rcases hv with rfl | rfl | rfl | rfl <;> rfl
theorem alV_info (A : Option Addr) (n c m l r : Nat) : (Tryd.prog.info? 58).map (·.size) = some (alV A n c m l r).size := by rw [alV_size]; kernel_rfl

theorem alV_cells {w : World} {g : Nat} {t : TypeId} {A : Option Addr} {n c m l r : Nat} (h : Blk w g t (alV A n c m l r)) :
  w.cell? ⟨g, 0, none⟩ = some (.slice A n c) ∧ w.cell? ⟨g, 1, none⟩ = some (.int .u64 (m : Int)) ∧ w.cell? ⟨g, 2, none⟩ = some (.int .u64 (l : Int)) ∧ w.cell? ⟨g, 3, none⟩ = some (.int .u64 (r : Int)) :=
 ⟨h.cell 0, h.cell 1, h.cell 2, h.cell 3⟩
theorem blk_frozen4 {w : World} {g : Nat} {t : TypeId} {cs : Array Value} (h : Blk w g t cs) :
  w.frozen? ⟨g, 0, none⟩ = false ∧ w.frozen? ⟨g, 1, none⟩ = false ∧ w.frozen? ⟨g, 2, none⟩ = false ∧ w.frozen? ⟨g, 3, none⟩ = false :=
 ⟨h.frozen 0, h.frozen 1, h.frozen 2, h.frozen 3⟩

set_option maxHeartbeats 800000 in
theorem new_good (k l r : Nat) (hk : 1 ≤ k) (hk8 : k ≤ 8) (hc : chk (List.replicate k 0) 0 l r = 0) (w : World) :
  Calls Tryd.prog 19 #[.int .i64 (k : Int), .int .u64 (l : Int), .int .u64 (r : Int)] w fun e w' =>
   ∃ g, e = .returned (.tuple #[.agg (alV (some ⟨g, 0, none⟩) k k 0 l r), .int .i64 0]) ∧ Blk w' g 24 (va .u64 (List.replicate k 0)) ∧ w.heap.size ≤ g ∧ Below w.heap.size w w' := by
 have hmk := make_u64 k (by omega)
 have h1 : (1 : Int) ≤ (k : Int) := by omega
 have h8 : (k : Int) ≤ 8 := by omega
 go_enter Tryd.func19, Tryd.ntmps19
 go_wp2_with fail
 refine (check_any (some ⟨w.heap.size + 1, 0, none⟩) k k 0 l r (w.heap.size + 2) (List.replicate k 0) _ (Blk.readsAll ((Blk.newAt (by simp <;> omega)).alloc _) (by simp) (by simp <;> omega)) (by simp <;> omega)).mono ?_
 rintro e w1 ⟨rfl, b1⟩
 have hA : Blk w1 (w.heap.size + 1 + 1) 58 (alV (some ⟨w.heap.size + 1, 0, none⟩) k k 0 l r) := Blk.below (Blk.newAt (by simp <;> omega)) b1 (by simp <;> omega)
 have hM : Blk w1 (w.heap.size + 1) 24 (va .u64 (List.replicate k 0)) := Blk.below ((Blk.newAt (by simp <;> omega)).alloc _) b1 (by simp <;> omega)
 have hR : Blk w1 w.heap.size 58 (alV none 0 0 0 0 0) := Blk.below (((Blk.newAt rfl).alloc _).alloc _) b1 (by simp <;> omega)
 have hb : Below w.heap.size w w1 := Below.trans ((((Below.refl _ _).alloc (Nat.le_refl _) _).alloc (by simp <;> omega) _).alloc (by simp <;> omega) _) (b1.mono (by simp <;> omega))
 clear b1
 rw [hc]
 have hst := run_storeBlkA (P := Tryd.prog) hR (alV (some ⟨w.heap.size + 1, 0, none⟩) k k 0 l r) rfl (alV_one _ _ _ _ _ _)
 go_wp2_with (refine wpList_load_row rfl 58 (.tmp 8) rfl (w.heap.size + 1 + 1) rfl 58 (alV (some ⟨w.heap.size + 1, 0, none⟩) k k 0 l r) (0, 0) _ hA Tryd.underlying58 rfl (alV_info _ _ _ _ _ _) ?_)
 exact bodyPost_ret (results_row_tmp rfl _ _ w.heap.size 58 _ _ _ rfl (hR.row _) Tryd.underlying58 rfl (alV_info _ _ _ _ _ _) rfl) rfl
  ⟨_, rfl, hM.rowFar (by omega) _, by omega, below_setRow hb (Nat.le_refl _) _⟩

/-- copy of numbers into a block that was just made -/
theorem copy_u64_new (u : World) (g : Nat) (hg : u.heap.size = g) (ad : Addr) (n c B : Nat) (cs : List Nat) (hr : Reads u B 1 (some ad) n (nv .u64 cs)) (hn : 1 ≤ n) (hB : B ≤ u.heap.size) :
  (Builtin.copy_ #[56, 56] 3 #[.slice (some ⟨g, 0, none⟩) n n, .slice (some ad) n c]).run Tryd.prog (u.alloc (.cells (va .u64 (List.replicate n 0)) 24)) = .ok (.int .i64 (n : Int)) (u.alloc (.cells (va .u64 cs) 24)) := by
 subst hg
 have hl := hr.len
 have hr2 := hr.alloc hB (.cells (va .u64 (List.replicate n 0)) 24)
 obtain ⟨ad', e, hb, hc⟩ := hr2.2 (by omega)
 injection e with e
 subst e
 have h := run_copy_row (P := Tryd.prog) (u.alloc (.cells (va .u64 (List.replicate n 0)) 24)) 56 56 3 24 u.heap.size 0 n n ad n c (va .u64 (List.replicate n 0)) 24 (nv .u64 cs) Tryd.underlying56 (by kernel_rfl)
  (Blk.new _ _ _) (by rw [nv_len, hl]; exact (Nat.min_self n).symm) hc (by rw [nv_len, va_size]; simp; omega) (nv_one _ _)
 rw [h, nv_len, hl]
 have e2 : ((va .u64 (List.replicate n 0)).toList.take 0 ++ nv .u64 cs ++ (va .u64 (List.replicate n 0)).toList.drop (0 + n)).toArray = va .u64 cs := by
  rw [List.drop_eq_nil_of_le (by simp [va, nv])]
  simp [va]
 rw [e2, World.setRow_alloc_new]
 rfl

set_option maxHeartbeats 800000 in
theorem own_any (ad : Addr) (n c m l r B : Nat) (cs : List Nat) (hn : 1 ≤ n) (hn8 : n ≤ 100) (w : World) (hr : Reads w B 1 (some ad) n (nv .u64 cs)) (hB : B ≤ w.heap.size) :
  Calls Tryd.prog 51 #[.agg (alV (some ad) n c m l r)] w fun e w' => ∃ g, e = .returned (.agg (alV (some ⟨g, 0, none⟩) n n m l r)) ∧ Blk w' g 24 (va .u64 cs) ∧ w.heap.size ≤ g ∧ Below w.heap.size w w' := by
 have hmk := make_u64 n (by omega)
 have hlr := Lib.hid hr
 clear hr
 unfold alV
 go_enter Tryd.func51, Tryd.ntmps51
 go_wp2
 rw [copy_u64_new _ (w.heap.size + 1 + 1) (by simp) ad n c B cs ((hlr.out.alloc hB _).alloc (by simp <;> omega) _) hn (by simp <;> omega)]
 go_wp2
 exact bodyPost_ret (results_cell_row rfl _ _ (w.heap.size + 1) 58 _ (0, 0) _ rfl ((Blk.newAt (by simp)).alloc _) Tryd.underlying58 rfl (alV_info (some ⟨w.heap.size + 1 + 1, 0, none⟩) n n m l r)) rfl
  ⟨_, rfl, Blk.newAt (by simp), by omega, (((Below.refl _ _).alloc (Nat.le_refl _) _).alloc (by simp <;> omega) _).alloc (by simp <;> omega) _⟩

set_option maxHeartbeats 800000 in
theorem icheck_ok (A : Option Addr) (n c m l r B : Nat) (cs : List Nat) (k : Nat) (hk : k < n) (hc : chk cs m l r = 0) (w : World) (hr : Reads w B 1 A n (nv .u64 cs)) (hB : B ≤ w.heap.size) :
  Calls Tryd.prog 52 #[.agg (alV A n c m l r), .int .i64 (k : Int)] w fun e w' => e = .returned (.int .i64 0) ∧ Below w.heap.size w w' := by
 have hk' : (k : Int) < (n : Int) := by omega
 have hlr := Lib.hid hr
 clear hr
 unfold alV
 go_enter Tryd.func52, Tryd.ntmps52
 go_wp2_with fail
 refine (check_any A n c m l r B cs _ (hlr.out.alloc hB _) (by simp <;> omega)).mono ?_
 rintro e w1 ⟨rfl, b1⟩
 rw [hc]
 have hA : Blk w1 w.heap.size 58 (alV A n c m l r) := Blk.below (Blk.newAt rfl) b1 (by simp <;> omega)
 have hc0 := hA.cell 0
 have hb : Below w.heap.size w w1 := ((Below.refl _ _).alloc (Nat.le_refl _) _).trans (b1.mono (by simp <;> omega))
 clear b1 hA
 simp [alV] at hc0
 go_wp2
 go_ret
 exact ⟨rfl, hb⟩

end Go.Proofs.YtcdgcaljlmondaaDoor
/-
  Walks of New (a bad limit), Take, Extend, Crash and Left.
-/
namespace Go.Proofs.YtcdgcaljlmondaaDoor
set_option maxRecDepth 16384
open Go.RowKit

theorem noV_cells {w : World} {g : Nat} {t : TypeId} {a b : Nat} (h : Blk w g t (noV a b)) : w.cell? ⟨g, 0, none⟩ = some (.int .u32 (a : Int)) ∧ w.cell? ⟨g, 1, none⟩ = some (.int .u64 (b : Int)) := ⟨h.cell 0, h.cell 1⟩

/-- the blocks of Take: its argument, its results -/
structure TkMem (G : Nat) (A : Option Addr) (n c m l r : Nat) (w wr : World) : Prop where
 a : Blk wr G 58 (alV A n c m l r)
 x : Blk wr (G + 1) 40 (noV 0 0)
 y : Blk wr (G + 1 + 1) 58 (alV none 0 0 0 0 0)
 bel : Below G w wr

set_option maxHeartbeats 800000 in
theorem take_ok (A : Option Addr) (n c m l r B v : Nat) (cs : List Nat) (k : Nat) (hk : k < n) (hn8 : n ≤ 8) (hc : chk cs m l r = 0) (hv : cs.getD k 0 = v) (hvm : v < m) (hm64 : m < 18446744073709551616) (w : World) (hr : Reads w B 1 A n (nv .u64 cs)) (hB : B ≤ w.heap.size) :
  Calls Tryd.prog 21 #[.agg (alV A n c m l r), .int .i64 (k : Int)] w fun e w' => ∃ g, e = .returned (.tuple #[.agg (noV k v), .agg (alV (some ⟨g, 0, none⟩) n n m l r), .int .i64 0]) ∧
   Blk w' g 24 (va .u64 (cs.set k (v + 1))) ∧ w.heap.size ≤ g ∧ Below w.heap.size w w' := by
 have hlr := Lib.hid hr
 obtain ⟨ad, rfl, hb0, hcell⟩ := hr.num hk
 have hlt' : (k : Int) < (n : Int) := by omega
 have hne : ((v : Int) == (m : Int)) = false := by rw [beq_eq_false_iff_ne]; omega
 rw [hv] at hcell
 clear hr
 have hcl := Lib.hid hcell
 have hv' := Lib.hid hv
 clear hcell hv
 unfold alV
 go_enter Tryd.func21, Tryd.ntmps21
 go_wp2_with fail
 refine (icheck_ok (some ad) n c m l r B cs k hk hc _ (((hlr.out.alloc hB _).alloc (by simp <;> omega) _).alloc (by simp <;> omega) _) (by simp <;> omega)).mono ?_
 rintro e w1 ⟨rfl, b1⟩
 have hm : TkMem w.heap.size (some ad) n c m l r w w1 := ⟨Blk.below (((Blk.newAt rfl).alloc _).alloc _) b1 (by simp <;> omega), Blk.below ((Blk.newAt (by simp)).alloc _) b1 (by simp <;> omega), Blk.below (Blk.newAt (by simp)) b1 (by simp <;> omega),
  Below.trans ((((Below.refl _ _).alloc (Nat.le_refl _) _).alloc (by simp) _).alloc (by simp <;> omega) _) (b1.mono (by simp <;> omega))⟩
 clear b1
 have hm' := Lib.hid hm
 have hce := (hm.bel.cell (p := ad.add k) (by rw [block_of_add]; omega)).trans hcl.out
 obtain ⟨a0, a1, a2, a3⟩ := alV_cells hm.a
 clear hm hcl
 go_wp2_with fail
 refine (own_any ad n c m l r B cs (by omega) (by omega) _ (hlr.out.below (hm'.out.bel.mono hB)) (by have := hm'.out.bel.size; omega)).mono ?_
 rintro e w2 ⟨g, rfl, hg, hge, b2⟩
 have hs1 := hm'.out.bel.size
 have hx := hm'.out.x.below b2 (hm'.out.x.lt)
 have hy := hm'.out.y.below b2 (hm'.out.y.lt)
 have hxl := hm'.out.x.lt
 have hyl := hm'.out.y.lt
 have hb := hm'.out.bel.trans (b2.mono hs1)
 have hgl := hg.lt
 have hck := hg.num (i := k) (by have := hlr.out.len; omega)
 have hfk := hg.frozen k
 have hwk : IntKind.u32.wrap (k : Int) = (k : Int) := by simp [IntKind.wrap, IntKind.bits, IntKind.signed]; omega
 have hwv : IntKind.u64.wrap ((v : Int) + 1) = ((v + 1 : Nat) : Int) := by simp [IntKind.wrap, IntKind.bits, IntKind.signed]; omega
 rw [hv'.out] at hck
 obtain ⟨x0, x1⟩ := noV_cells hx
 obtain ⟨f0, f1, _, _⟩ := blk_frozen4 hx
 obtain ⟨y0, y1, y2, y3⟩ := alV_cells hy
 obtain ⟨g0, g1, g2, g3⟩ := blk_frozen4 hy
 have hhx := Lib.hid hx
 have hhy := Lib.hid hy
 have hhg := Lib.hid hg
 clear a0 a1 a2 a3 hm' hlr b2 hce hx hy hg
 unfold alV
 go_wp2
 have hx3 : Blk ((w2.setCell ⟨g, k, none⟩ (.int .u64 ((v : Int) + 1))).alloc (.cells #[.slice (some ⟨g, 0, none⟩) n n, .int .u64 (m : Int), .int .u64 (l : Int), .int .u64 (r : Int)] 58)) (w.heap.size + 1) 40 (noV 0 0) := (hhx.out.far (by simp; omega) _).alloc _
 have hy3 : Blk ((w2.setCell ⟨g, k, none⟩ (.int .u64 ((v : Int) + 1))).alloc (.cells #[.slice (some ⟨g, 0, none⟩) n n, .int .u64 (m : Int), .int .u64 (l : Int), .int .u64 (r : Int)] 58)) (w.heap.size + 1 + 1) 58 (alV none 0 0 0 0 0) := (hhy.out.far (by simp; omega) _).alloc _
 have hg3 : Blk ((w2.setCell ⟨g, k, none⟩ (.int .u64 ((v : Int) + 1))).alloc (.cells #[.slice (some ⟨g, 0, none⟩) n n, .int .u64 (m : Int), .int .u64 (l : Int), .int .u64 (r : Int)] 58)) g 24 (va .u64 (cs.set k (v + 1))) := (hhg.out.setNum k (v + 1)).alloc _
 have hb3 : Below w.heap.size w ((w2.setCell ⟨g, k, none⟩ (.int .u64 ((v : Int) + 1))).alloc (.cells #[.slice (some ⟨g, 0, none⟩) n n, .int .u64 (m : Int), .int .u64 (l : Int), .int .u64 (r : Int)] 58)) := (hb.setCell (by simp; omega) _).alloc (by simp; omega) _
 have hl3 : Blk ((w2.setCell ⟨g, k, none⟩ (.int .u64 ((v : Int) + 1))).alloc (.cells #[.slice (some ⟨g, 0, none⟩) n n, .int .u64 (m : Int), .int .u64 (l : Int), .int .u64 (r : Int)] 58)) w2.heap.size 58 (alV (some ⟨g, 0, none⟩) n n m l r) := Blk.newAt (by simp)
 generalize (w2.setCell ⟨g, k, none⟩ (.int .u64 ((v : Int) + 1))).alloc (.cells #[.slice (some ⟨g, 0, none⟩) n n, .int .u64 (m : Int), .int .u64 (l : Int), .int .u64 (r : Int)] 58) = w3 at *
 clear x0 x1 f0 f1 y0 y1 y2 y3 g0 g1 g2 g3
 obtain ⟨x0, x1⟩ := noV_cells hx3
 obtain ⟨f0, f1, _, _⟩ := blk_frozen4 hx3
 obtain ⟨y0, y1, y2, y3⟩ := alV_cells hy3
 obtain ⟨g0, g1, g2, g3⟩ := blk_frozen4 hy3
 obtain ⟨a0, a1, a2, a3⟩ := alV_cells hl3
 go_region
 go_wp2
 exact bodyPost_ret (results_row_row_tmp rfl _ _ (w.heap.size + 1) 40 (noV k v) _ (w.heap.size + 1 + 1) 58 (alV (some ⟨g, 0, none⟩) n n m l r) _ _ rfl
   (((((((hx3.set_ 0 _).set_ 1 _).far (by simp) _).far (by simp) _).far (by simp) _).far (by simp) _).drew) Tryd.underlying40 rfl (noV_info _ _) rfl
   ((((((hy3.far (by simp) _).far (by simp) _).set_ 0 _).set_ 1 _).set_ 2 _).set_ 3 _).drew Tryd.underlying58 rfl (alV_info _ _ _ _ _ _) rfl) rfl
  ⟨_, rfl, ((((((hg3.far (by simp; omega) _).far (by simp; omega) _).far (by simp; omega) _).far (by simp; omega) _).far (by simp; omega) _).far (by simp; omega) _).drew, by omega,
   below_drewN ((((((hb3.setCell (by simp <;> omega) _).setCell (by simp <;> omega) _).setCell (by simp <;> omega) _).setCell (by simp <;> omega) _).setCell (by simp <;> omega) _).setCell (by simp <;> omega) _) 1⟩
end Go.Proofs.YtcdgcaljlmondaaDoor
/-
  Walks of Extend, Crash and Left.
-/
namespace Go.Proofs.YtcdgcaljlmondaaDoor
set_option maxRecDepth 16384
open Go.RowKit

/-- the blocks of Extend and Crash: the argument, the result -/
structure ExMem (G : Nat) (A : Option Addr) (n c m l r : Nat) (w wr : World) : Prop where
 a : Blk wr G 58 (alV A n c m l r)
 y : Blk wr (G + 1) 58 (alV none 0 0 0 0 0)
 bel : Below G w wr

set_option maxHeartbeats 800000 in
theorem extend_ok (ad : Addr) (n c m l r B : Nat) (cs : List Nat) (hn : 1 ≤ n) (hn8 : n ≤ 8) (hk : chk cs m l r = 0) (hml : m ≤ l) (hl : l < 18446744073709551616) (ho : m + r ≤ l) (w : World) (hr : Reads w B 1 (some ad) n (nv .u64 cs)) (hB : B ≤ w.heap.size) :
  Calls Tryd.prog 20 #[.agg (alV (some ad) n c m l r)] w fun e w' => ∃ g, e = .returned (.tuple #[.agg (alV (some ⟨g, 0, none⟩) n n (m + r) l r), .int .i64 0]) ∧
   Blk w' g 24 (va .u64 cs) ∧ w.heap.size ≤ g ∧ Below w.heap.size w w' := by
 have hlr := Lib.hid hr
 clear hr
 have hwr : IntKind.u64.wrap ((l : Int) - (m : Int)) = (l : Int) - (m : Int) := by simp [IntKind.wrap, IntKind.bits, IntKind.signed]; omega
 have hwm : IntKind.u64.wrap ((m : Int) + (r : Int)) = ((m + r : Nat) : Int) := by simp [IntKind.wrap, IntKind.bits, IntKind.signed]; omega
 have hlt : (r : Int) ≤ (l : Int) - (m : Int) := by omega
 unfold alV
 go_enter Tryd.func20, Tryd.ntmps20
 go_wp2_with fail
 refine (check_any (some ad) n c m l r B cs _ ((hlr.out.alloc hB _).alloc (by simp <;> omega) _) (by simp <;> omega)).mono ?_
 rintro e w1 ⟨rfl, b1⟩
 have hm : ExMem w.heap.size (some ad) n c m l r w w1 := ⟨Blk.below ((Blk.newAt rfl).alloc _) b1 (by simp <;> omega), Blk.below (Blk.newAt (by simp)) b1 (by simp <;> omega),
  Below.trans (((Below.refl _ _).alloc (Nat.le_refl _) _).alloc (by simp) _) (b1.mono (by simp <;> omega))⟩
 clear b1
 rw [hk]
 have hm' := Lib.hid hm
 obtain ⟨a0, a1, a2, a3⟩ := alV_cells hm.a
 clear hm
 go_wp2_with fail
 refine (own_any ad n c m l r B cs (by omega) (by omega) _ (hlr.out.below (hm'.out.bel.mono hB)) (by have := hm'.out.bel.size; omega)).mono ?_
 rintro e w2 ⟨g, rfl, hg, hge, b2⟩
 have hs1 := hm'.out.bel.size
 have ha := hm'.out.a.below b2 hm'.out.a.lt
 have hy := hm'.out.y.below b2 hm'.out.y.lt
 have hyl := hm'.out.y.lt
 have hb := hm'.out.bel.trans (b2.mono hs1)
 have hgl := hg.lt
 obtain ⟨y0, y1, y2, y3⟩ := alV_cells hy
 obtain ⟨g0, g1, g2, g3⟩ := blk_frozen4 hy
 clear a0 a1 a2 a3
 obtain ⟨a0, a1, a2, a3⟩ := alV_cells ha
 have hlt2 : w.heap.size < w2.heap.size := ha.lt
 have hlt3 : w.heap.size + 1 < w2.heap.size := hy.lt
 have hhg := Lib.hid hg
 have hhy := Lib.hid hy
 have hhb := Lib.hid hb
 clear hm' hlr b2 hy hg ha hb
 unfold alV
 go_wp2
 exact bodyPost_ret (results_row_tmp rfl _ _ (w.heap.size + 1) 58 (alV (some ⟨g, 0, none⟩) n n (m + r) l r) _ _ rfl
   (((((hhy.out.set_ 0 _).set_ 1 _).set_ 2 _).set_ 3 _).alloc _) Tryd.underlying58 rfl (alV_info _ _ _ _ _ _) rfl) rfl
  ⟨g, rfl, ((((hhg.out.far (by simp; omega) _).far (by simp; omega) _).far (by simp; omega) _).far (by simp; omega) _).alloc _, by omega,
   ((((hhb.out.setCell (by simp <;> omega) _).setCell (by simp <;> omega) _).setCell (by simp <;> omega) _).setCell (by simp <;> omega) _).alloc (by simp <;> omega) _⟩

end Go.Proofs.YtcdgcaljlmondaaDoor
/-
  The walk of caissonlaw08.lives: the examples of the chapter hold. (Printed by mklives08.py.)
-/
namespace Go.Proofs.YtcdgcaljlmondaaDoor
set_option maxRecDepth 16384
open Go.RowKit Sh

theorem new_good_to (k l r : Nat) (cs : List Nat) (hcs : List.replicate k 0 = cs) (hk : 1 ≤ k) (hk8 : k ≤ 8) (hc : chk cs 0 l r = 0) (w : World) :
  Calls Tryd.prog 19 #[.int .i64 (k : Int), .int .u64 (l : Int), .int .u64 (r : Int)] w fun e w' =>
   ∃ g, e = .returned (.tuple #[.agg (alV (some ⟨g, 0, none⟩) k k 0 l r), .int .i64 0]) ∧ Blk w' g 24 (va .u64 cs) ∧ w.heap.size ≤ g ∧ Below w.heap.size w w' := by
 subst hcs
 exact new_good k l r hk hk8 hc w
theorem take_to (A : Option Addr) (n c m l r B v : Nat) (cs cs' : List Nat) (k : Nat) (hk : k < n) (hn8 : n ≤ 8) (hc : chk cs m l r = 0) (hv : cs.getD k 0 = v) (hvm : v < m) (hm64 : m < 18446744073709551616) (hcs : cs.set k (v + 1) = cs') (w : World) (hr : Reads w B 1 A n (nv .u64 cs)) (hB : B ≤ w.heap.size) :
  Calls Tryd.prog 21 #[.agg (alV A n c m l r), .int .i64 (k : Int)] w fun e w' => ∃ g, e = .returned (.tuple #[.agg (noV k v), .agg (alV (some ⟨g, 0, none⟩) n n m l r), .int .i64 0]) ∧
   Blk w' g 24 (va .u64 cs') ∧ w.heap.size ≤ g ∧ Below w.heap.size w w' := by
 subst hcs
 exact take_ok A n c m l r B v cs k hk hn8 hc hv hvm hm64 w hr hB
end Go.Proofs.YtcdgcaljlmondaaDoor
