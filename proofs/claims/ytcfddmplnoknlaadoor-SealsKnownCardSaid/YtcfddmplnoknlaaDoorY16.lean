/-
  The walks of seals.indexed, message, Message, combined, Seal, Open. (Printed by mkseal09.py.)
-/
import Derived.Test.YtcfddmplnoknlaaDoorY15
namespace Go.Proofs.YtcfddmplnoknlaaDoor
set_option maxRecDepth 16384
open Go.RowKit Sh
theorem sz_api_Block (l : List Nat) (h : l.length = 32) : (Tryd.prog.info? 33).map (·.size) = some (va .u8 l).size := by rw [va_size, h]; kernel_rfl
theorem zv_api_Block (w : World) : (zeroValue 33).run Tryd.prog w = .ok (.agg (va .u8 (List.replicate 32 0))) w := by kernel_rfl
theorem zv_u32 (w : World) : (zeroValue 27).run Tryd.prog w = .ok (.int .u32 0) w := by kernel_rfl
section
variable {P : Program} {w : World}
theorem exec_makeFunc {op : Oper} {a : Act} (f : FuncId) (cs : List Operand) (ho : op.op = .makeFunc (.func f) #[] cs.toArray) (vs : Array Value) (hv : (cs.map a.eval).toArray = vs) :
  (execOp a.eval op).run P w = .ok (.value (.func (.func f) #[] vs)) w := by
 subst hv
 unfold execOp
 simp [ho, Instr.makeFunc]
theorem exec_callV {op : Oper} {a : Act} (cl : Call) (ho : op.op = .call cl) (x : Operand) (hc : cl.callee = .value x) (ha : cl.args = #[]) (fn : FuncId) (caps : Array Value) (hx : a.eval x = .func (.func fn) #[] caps) (hfn : (callFunc fn caps).run P w = .ok (.enter fn caps) w) :
  (execOp a.eval op).run P w = .ok (.enter fn caps) w := by
 unfold execOp
 simp [ho, resolve, hc, ha, hx, Deferred.ofValue, invoke, hfn]
theorem results_cell_tmp {fn : Func} {p q : Tmp} {ty : TypeId} (h : fn.results = #[.cell p ty, .tmp q]) (tmps : Array Value) (g : Nat) (v x : Value) (d : TypeDesc)
  (hp : tmps.getD p undef = .pointer (some ⟨g, 0, none⟩)) (hg : w.cell? ⟨g, 0, none⟩ = some v) (hu : P.underlying ty = some d) (hd : (match d with | .struct _ | .array _ _ => true | _ => false) = false) (hq : tmps.getD q undef = x) :
  (results fn tmps).run P w = .ok (.tuple #[v, x]) w := by
 have hp' : tmps[p]?.getD undef = .pointer (some ⟨g, 0, none⟩) := by simpa using hp
 have hq' : tmps[q]?.getD undef = x := by simpa using hq
 simp [results, h, hp', hq', asAddr, run_loadVar_cell ty ⟨g, 0, none⟩ v d hu hd hg]
theorem results_cell_row_row_tmp {fn : Func} {p p2 p3 q : Tmp} {ty ty2 ty3 : TypeId} (h : fn.results = #[.cell p ty, .cell p2 ty2, .cell p3 ty3, .tmp q]) (tmps : Array Value) (g g2 g3 : Nat) (v x : Value) (d d2 d3 : TypeDesc) (t2 t3 : TypeId) (cs2 cs3 : Array Value)
  (hp : tmps.getD p undef = .pointer (some ⟨g, 0, none⟩)) (hg : w.cell? ⟨g, 0, none⟩ = some v) (hu : P.underlying ty = some d) (hd : (match d with | .struct _ | .array _ _ => true | _ => false) = false)
  (hp2 : tmps.getD p2 undef = .pointer (some ⟨g2, 0, none⟩)) (hg2 : Blk w g2 t2 cs2) (hu2 : P.underlying ty2 = some d2) (hd2 : (match d2 with | .struct _ | .array _ _ => true | _ => false) = true) (hi2 : (P.info? ty2).map (·.size) = some cs2.size)
  (hp3 : tmps.getD p3 undef = .pointer (some ⟨g3, 0, none⟩)) (hg3 : Blk w g3 t3 cs3) (hu3 : P.underlying ty3 = some d3) (hd3 : (match d3 with | .struct _ | .array _ _ => true | _ => false) = true) (hi3 : (P.info? ty3).map (·.size) = some cs3.size) (hq : tmps.getD q undef = x) :
  (results fn tmps).run P w = .ok (.tuple #[v, .agg cs2, .agg cs3, x]) w := by
 have hp' : tmps[p]?.getD undef = .pointer (some ⟨g, 0, none⟩) := by simpa using hp
 have hp2' : tmps[p2]?.getD undef = .pointer (some ⟨g2, 0, none⟩) := by simpa using hp2
 have hp3' : tmps[p3]?.getD undef = .pointer (some ⟨g3, 0, none⟩) := by simpa using hp3
 have hq' : tmps[q]?.getD undef = x := by simpa using hq
 simp [results, h, hp', hp2', hp3', hq', asAddr, run_loadVar_cell ty ⟨g, 0, none⟩ v d hu hd hg, run_loadVar_row w g2 t2 ty2 cs2 (0, 0) d2 hg2 hu2 hd2 hi2, run_loadVar_row w g3 t3 ty3 cs3 (0, 0) d3 hg3 hu3 hd3 hi3]
theorem exec_arrayAt {op : Oper} {a : Act} (arr : TypeId) (x : Operand) (ho : op.op = .sliceToArrayPointer arr x) (n : Nat) (e : TypeId) (hu : P.underlying arr = some (.array n e)) (A : Option Addr) (len c : Nat) (hx : a.eval x = .slice A len c) (hn : n ≤ len) :
  (execOp a.eval op).run P w = .ok (.value (.pointer A)) w := by
 have h1 := run_underlying (w := w) hu
 have h : (Instr.arrayAt arr (.slice A len c)).run P w = .ok (.pointer A) w := by
  simp [Instr.arrayAt, h1, Nat.not_lt.2 hn]
 unfold execOp
 simp only [ho, hx, Sem.run_bind, h, Result.andThen_ok, Sem.run_pure]
theorem exec_midA {op : Oper} {a : Act} (ty : TypeId) (x : Operand) (ho : op.op = .load ty x) (ad : Addr) (hx : a.eval x = .pointer (some ad)) (cs : List Value) (d : TypeDesc) (hc : ∀ j v, cs[j]? = some v → w.cell? (ad.add j) = some v)
  (hu : P.underlying ty = some d) (hd : d.isRow = true) (hi : (P.info? ty).map (·.size) = some cs.length) : (execOp a.eval op).run P w = .ok (.value (.agg cs.toArray)) w := by
 have hl : (loadCells ad cs.length).run P w = .ok cs.toArray w := run_loadCells_list (P := P) w ad cs hc
 have h : (loadVar ty ad).run P w = .ok (.agg cs.toArray) w := by
  cases hq : P.info? ty with
  | none => simp [hq] at hi
  | some i =>
   have hs : i.size = cs.length := by simpa [hq] using hi
   have hagg : (isAgg ty).run P w = .ok true w := by
    unfold isAgg
    rw [Sem.run_bind, run_underlying hu w]
    cases d <;> simp_all
   simp [loadVar, Sem.run_bind, hagg, sizeOf, typeInfo, hq, hs, hl]
 unfold execOp
 simp only [ho, hx, Instr.loadAt, Instr.sureAddr, Sem.run_bind, Sem.run_pure, Result.andThen_ok, h]
theorem Reads.cells {B n : Nat} {ad : Addr} {xs : List Value} (h : Reads w B 1 (some ad) n xs) (hn : 0 < n) : ∀ j v, xs[j]? = some v → w.cell? (ad.add j) = some v := by
 obtain ⟨ad', e, _, hc⟩ := h.2 hn
 injection e with e
 subst e
 exact hc
end
theorem nput_to (s c : Nat) (hs : s < 4294967296) (w : World) :
  Calls Tryd.prog 44 #[.agg (noV s c)] w fun e w' => ∃ g, e = .returned (.slice (some ⟨g, 0, none⟩) 12 12) ∧ Blk w' g 5 (va .u8 (noB s c)) ∧ w.heap.size ≤ g ∧ Below w.heap.size w w' := nput_any s c hs w

set_option maxRecDepth 8000 in
set_option maxHeartbeats 4000000 in
theorem indexed_bad (i : Int) (hi : i < 0 ∨ 4096 ≤ i) (f : Value) (w : World) :
  Calls Tryd.prog 21 #[.int .i64 i, f] w fun e w' => e = .returned (.int .i64 1) ∧ Below w.heap.size w w' := by
 obtain ⟨B0, hB0e, hW, hB0⟩ := stB w
 rw [hB0e]
 have hB0q := Lib.hid hB0e
 clear hB0e
 by_cases h1 : i < 0
 ·
  go_enter Tryd.func21, Tryd.ntmps21
  go_upto_region 0 with fail
  refine wl_lit ?_
  refine runL 4 (.int .i64 0) rfl (by rfl) (by go_simp) ?_
  simp only [Ls]
  refine nilL ?_
  go_upto_region 1 with fail
  refine wl_lit ?_
  refine runL 5 (.int .i64 i) rfl (by rfl) (by go_simp) ?_
  refine runL 6 (.bool true) rfl (by rfl) (by go_simp) ?_
  refine runL 7 (.bool true) rfl (by rfl) (by go_simp) ?_
  simp only [Ls]
  refine skipL 8 rfl (by kernel_rfl) ?_
  simp only [Ls]
  refine skipL 9 rfl (by kernel_rfl) ?_
  refine runL 10 (.bool true) rfl (by rfl) (by go_simp) ?_
  simp only [Ls]
  refine nilL ?_
  go_upto_region 2 with fail
  refine wl_lit ?_
  refine runL 4 (.int .i64 1) rfl (by rfl) (by go_simp) ?_
  simp only [Ls]
  refine nilL ?_
  go_wp2_with fail
  go_ret
  exact ⟨rfl, hW⟩
 ·
  have h2 : 4096 ≤ i := by omega
  go_enter Tryd.func21, Tryd.ntmps21
  go_upto_region 0 with fail
  refine wl_lit ?_
  refine runL 4 (.int .i64 0) rfl (by rfl) (by go_simp) ?_
  simp only [Ls]
  refine nilL ?_
  go_upto_region 1 with fail
  refine wl_lit ?_
  refine runL 5 (.int .i64 i) rfl (by rfl) (by go_simp) ?_
  refine runL 6 (.bool false) rfl (by rfl) (by go_simp) ?_
  refine runL 7 (.bool false) rfl (by rfl) (by go_simp) ?_
  refine runL 8 (.int .i64 i) rfl (by rfl) (by go_simp) ?_
  refine runL 9 (.bool true) rfl (by rfl) (by go_simp) ?_
  refine runL 10 (.bool true) rfl (by rfl) (by go_simp) ?_
  simp only [Ls]
  refine nilL ?_
  go_upto_region 2 with fail
  refine wl_lit ?_
  refine runL 4 (.int .i64 1) rfl (by rfl) (by go_simp) ?_
  simp only [Ls]
  refine nilL ?_
  go_wp2_with fail
  go_ret
  exact ⟨rfl, hW⟩
set_option maxRecDepth 8000 in
set_option maxHeartbeats 4000000 in
theorem indexed_ok (i : Nat) (hi : i < 4096) (fn : FuncId) (caps : Array Value) (w : World) (hfn : (callFunc fn caps).run Tryd.prog w = .ok (.enter fn caps) w) {R : Value → World → Prop} (h : Calls Tryd.prog fn caps w fun e w' => ∃ v, e = .returned v ∧ R v w') :
  Calls Tryd.prog 21 #[.int .i64 (i : Int), .func (.func fn) #[] caps] w fun e w' => ∃ v, e = .returned v ∧ R v w' := by
 have h1 : ¬ (i : Int) < 0 := by omega
 have h2 : ¬ 4096 ≤ (i : Int) := by omega
 have hq := Lib.hid h
 have hfq := Lib.hid hfn
 clear h hfn
 go_enter Tryd.func21, Tryd.ntmps21
 go_upto_region 0 with fail
 refine wl_lit ?_
 refine runL 4 (.int .i64 0) rfl (by rfl) (by go_simp) ?_
 simp only [Ls]
 refine nilL ?_
 go_upto_region 1 with fail
 refine wl_lit ?_
 refine runL 5 (.int .i64 (i : Int)) rfl (by rfl) (by go_simp) ?_
 refine runL 6 (.bool false) rfl (by rfl) (by go_simp) ?_
 refine runL 7 (.bool false) rfl (by rfl) (by go_simp) ?_
 refine runL 8 (.int .i64 (i : Int)) rfl (by rfl) (by go_simp) ?_
 refine runL 9 (.bool false) rfl (by rfl) (by go_simp) ?_
 refine runL 10 (.bool false) rfl (by rfl) (by go_simp) ?_
 simp only [Ls]
 refine nilL ?_
 go_upto_region 3 with fail
 refine wl_lit ?_
 refine runL 11 (.func (.func fn) #[] caps) rfl (by rfl) (by go_simp) ?_
 simp only [Ls]
 refine callL 12 rfl (by rfl) (fun K hK => wp_callF fn caps (exec_callV _ rfl _ rfl rfl _ _ rfl hfq.out) hq.out ?_)
 rintro e w1 ⟨v, rfl, hR⟩
 refine ⟨_, rfl, hK.out _ _ ?_⟩
 clear hK K
 refine runL 4 v rfl (by rfl) (by go_simp) ?_
 simp only [Ls]
 refine nilL ?_
 have hRq := Lib.hid hR
 clear hR
 go_wp2_with fail
 go_ret
 exact ⟨_, rfl, hRq.out⟩
set_option maxRecDepth 8000 in
set_option maxHeartbeats 4000000 in
theorem smsg_any (i s c : Nat) (d : List Nat) (hi : i < 4096) (hs : s < 4294967296) (hdl : d.length = 32) (hdb : Byt d) (w : World) :
  Calls Tryd.prog 23 #[.int .i64 (i : Int), .agg (noV s c), .agg (va .u8 d)] w fun e w' => ∃ g, e = .returned (.slice (some ⟨g, 0, none⟩) 48 48) ∧ Blk w' g 5 (va .u8 (msg i s c d)) ∧ w.heap.size ≤ g ∧ Below w.heap.size w w' := by
 obtain ⟨B0, hB0e, hW, hB0⟩ := stB w
 rw [hB0e]
 have hB0q := Lib.hid hB0e
 clear hB0e
 have hw32 : IntKind.u32.wrap (i : Int) = (i : Int) := by simp [IntKind.wrap, IntKind.bits, IntKind.signed]; omega
 have hi32 : i < 4294967296 := by omega
 go_enter Tryd.func23, Tryd.ntmps23
 go_upto_region 0 with fail
 refine wl_lit ?_
 refine runWL 4 (.pointer (some ⟨w.heap.size, 0, none⟩)) (w.alloc (.cells (noV s c) 30)) rfl (by rfl) (exec_box 30 (.tmp 1) rfl (.agg (noV s c)) rfl) ?_
 simp only [Ls]
 have lw_p4 := Nat.le_trans hB0 hW.size
 have hp4 := Blk.new w 30 (noV s c)
 replace hW := alB hW hB0 (.cells (noV s c) 30)
 generalize w.alloc (.cells (noV s c) 30) = w1 at *
 generalize w.heap.size = p4 at hp4 lw_p4  ⊢
 refine runWL 5 (.pointer (some ⟨w1.heap.size, 0, none⟩)) (w1.alloc (.cells (va .u8 d) 33)) rfl (by rfl) (exec_box 33 (.tmp 2) rfl (.agg (va .u8 d)) rfl) ?_
 simp only [Ls]
 have lp4_p5 := hp4.lt
 have lw_p5 := Nat.le_trans hB0 hW.size
 have hp5 := Blk.new w1 33 (va .u8 d)
 have bx := bAl w1 (.cells (va .u8 d) 33)
 replace hp4 := blB hp4 bx
 replace hW := trB hW hB0 bx
 clear bx
 generalize w1.alloc (.cells (va .u8 d) 33) = w2 at *
 generalize w1.heap.size = p5 at hp5 lw_p5 lp4_p5 ⊢
 refine runL 6 (.slice none 0 0) rfl (by rfl) (by go_simp) ?_
 simp only [Ls]
 refine nilL ?_
 go_upto_region 1 with fail
 refine wp_region_held_drew (S := fun wr => Blk wr p4 30 (noV s c) ∧ Blk wr p5 33 (va .u8 d) ∧ Below B0 w wr) (by kernel_rfl) ⟨hp4.drew, hp5.drew, below_drewN hW 1⟩ (fun hH => ?_)
 clear hp4 hp5 hW
 obtain ⟨hp4, hp5, hW⟩ := hH
 generalize w2.drew = w3 at *
 refine takeH 8 0 7 (.int .i64 (i : Int)) rfl rfl (by kernel_rfl) (by kernel_rfl) (by kernel_rfl) (fun _ _ _ h => h) (Or.inl ⟨by rfl, fun w _ => by go_simp⟩) ⟨hp4, hp5, hW⟩ ?_
 simp only [Ls]
 refine takeH 7 1 8 (.int .u32 (i : Int)) rfl rfl (by kernel_rfl) (by kernel_rfl) (by kernel_rfl) (fun _ _ _ h => h) (Or.inl ⟨by rfl, fun w _ => by go_simp⟩) ⟨hp4, hp5, hW⟩ ?_
 simp only [Ls]
 refine takeH 6 3 10 (.agg (noV s c)) rfl rfl (by kernel_rfl) (by kernel_rfl) (by kernel_rfl) (fun _ _ _ h => h) (Or.inl ⟨by rfl, fun _ h => exec_row 30 (.tmp 4) rfl p4 rfl 30 (noV s c) _ h.1 (by exact Tryd.underlying30) rfl (noV_sz _ _)⟩) ⟨hp4, hp5, hW⟩ ?_
 simp only [Ls]
 refine takeH 5 5 12 (.slice (some ⟨p5, 0, none⟩) 32 32) rfl rfl (by kernel_rfl) (by kernel_rfl) (by kernel_rfl) (fun _ _ _ h => h) (Or.inl ⟨by rfl, fun w _ => by go_simp⟩) ⟨hp4, hp5, hW⟩ ?_
 simp only [Ls]
 refine wpAnyH_ready (by kernel_rfl) (by simp) (readyCons 4 2 9 rfl rfl (by rfl) (fun K hK => wp_callF 43 #[.int .u32 (i : Int)] (by go_simp) (put32_to i (beB i 4) rfl hi32 _) ?_) AllReadyH.nil)
 rintro e w4 ⟨g1, rfl, hg1, hgg, bx⟩
 have lp4_g1 : p4 < g1 := Nat.lt_of_lt_of_le hp4.lt hgg
 have lp5_g1 : p5 < g1 := Nat.lt_of_lt_of_le hp5.lt hgg
 have lw_g1 : B0 ≤ g1 := Nat.le_trans (Nat.le_trans hB0 hW.size) hgg
 replace hp4 := blB hp4 bx
 replace hp5 := blB hp5 bx
 replace hW := trB hW hB0 bx
 clear hgg
 clear bx
 refine ⟨_, rfl, hK.out _ _ ⟨hp4, hp5, hW⟩ (fun _ => ?_)⟩
 clear hK K
 simp only [Ls]
 refine wpAnyH_ready (by kernel_rfl) (by simp) (readyCons 3 4 11 rfl rfl (by rfl) (fun K hK => wp_callF 44 #[.agg (noV s c)] (by go_simp) (nput_to s c hs _) ?_) AllReadyH.nil)
 rintro e w5 ⟨g2, rfl, hg2, hgg, bx⟩
 have lp4_g2 : p4 < g2 := Nat.lt_of_lt_of_le hp4.lt hgg
 have lp5_g2 : p5 < g2 := Nat.lt_of_lt_of_le hp5.lt hgg
 have lg1_g2 : g1 < g2 := Nat.lt_of_lt_of_le hg1.lt hgg
 have lw_g2 : B0 ≤ g2 := Nat.le_trans (Nat.le_trans hB0 hW.size) hgg
 replace hp4 := blB hp4 bx
 replace hp5 := blB hp5 bx
 replace hg1 := hg1.below bx hg1.lt
 replace hW := trB hW hB0 bx
 clear hgg
 clear bx
 refine ⟨_, rfl, hK.out _ _ ⟨hp4, hp5, hW⟩ (fun _ => ?_)⟩
 clear hK K
 simp only [Ls]
 refine wpAnyH_ready (by kernel_rfl) (by simp) (readyRun 2 6 13 (.slice (some ⟨w5.heap.size, 0, none⟩) 3 3) (w5.alloc (.cells (#[.slice (some ⟨g1, 0, none⟩) 4 4, .slice (some ⟨g2, 0, none⟩) 12 12, .slice (some ⟨p5, 0, none⟩) 32 32]) 34)) rfl rfl (by rfl) (exec_bslice 90 3 _ rfl _ (by exact bs_3 (some ⟨g1, 0, none⟩) 4 4 (some ⟨g2, 0, none⟩) 12 12 (some ⟨p5, 0, none⟩) 32 32 _)) ⟨hp4.alloc _, hp5.alloc _, hW.alloc (Nat.le_trans hB0 hW.size) _⟩ (fun _ => ?_) AllReadyH.nil)
 simp only [Ls]
 have lp4_q1 := hp4.lt
 have lp5_q1 := hp5.lt
 have lg1_q1 := hg1.lt
 have lg2_q1 := hg2.lt
 have lw_q1 := Nat.le_trans hB0 hW.size
 have hq1 : Blk (w5.alloc (.cells (#[.slice (some ⟨g1, 0, none⟩) 4 4, .slice (some ⟨g2, 0, none⟩) 12 12, .slice (some ⟨p5, 0, none⟩) 32 32]) 34)) w5.heap.size 34 (#[.slice (some ⟨g1, 0, none⟩) 4 4, .slice (some ⟨g2, 0, none⟩) 12 12, .slice (some ⟨p5, 0, none⟩) 32 32]) := Blk.new _ _ _
 have bx := bAl w5 (.cells (#[.slice (some ⟨g1, 0, none⟩) 4 4, .slice (some ⟨g2, 0, none⟩) 12 12, .slice (some ⟨p5, 0, none⟩) 32 32]) 34)
 replace hp4 := blB hp4 bx
 replace hp5 := blB hp5 bx
 clear bx
 replace hg1 := hg1.alloc (.cells (#[.slice (some ⟨g1, 0, none⟩) 4 4, .slice (some ⟨g2, 0, none⟩) 12 12, .slice (some ⟨p5, 0, none⟩) 32 32]) 34)
 replace hg2 := hg2.alloc (.cells (#[.slice (some ⟨g1, 0, none⟩) 4 4, .slice (some ⟨g2, 0, none⟩) 12 12, .slice (some ⟨p5, 0, none⟩) 32 32]) 34)
 replace hW := alB hW hB0 (.cells (#[.slice (some ⟨g1, 0, none⟩) 4 4, .slice (some ⟨g2, 0, none⟩) 12 12, .slice (some ⟨p5, 0, none⟩) 32 32]) 34)
 generalize w5.alloc (.cells (#[.slice (some ⟨g1, 0, none⟩) 4 4, .slice (some ⟨g2, 0, none⟩) 12 12, .slice (some ⟨p5, 0, none⟩) 32 32]) 34) = w6 at *
 generalize w5.heap.size = q1 at hq1 lw_q1 lp4_q1 lp5_q1 lg1_q1 lg2_q1 ⊢
 refine wpAnyH_ready (by kernel_rfl) (by simp) (readyCons 1 7 14 rfl rfl (by rfl) (fun K hK => wp_callF 42 #[.slice (some ⟨q1, 0, none⟩) 3 3] (by go_simp) (join_to [beB i 4, noB s c, d] (msg i s c d) 3 3 _ 48 _ _ (parts_three hg1.lt hg2.lt hp5.lt hq1 (hg1.readsAll (Nat.lt_succ_self _) (beB_len _ _)) (Nat.le_refl _) (beB_byt _ _) (hg2.readsAll (Nat.lt_succ_self _) (noB_len _ _)) (Nat.le_refl _) (noB_byt _ _) (hp5.readsAll (Nat.lt_succ_self _) hdl) (Nat.le_refl _) hdb) (by simp [msg]) (by omega) (Nat.le_refl _) (msg_len hdl) (by omega)) ?_) AllReadyH.nil)
 rintro e w7 ⟨g4, rfl, hg4, hgg, bx⟩
 have lp4_g4 : p4 < g4 := Nat.lt_of_lt_of_le hp4.lt hgg
 have lp5_g4 : p5 < g4 := Nat.lt_of_lt_of_le hp5.lt hgg
 have lg1_g4 : g1 < g4 := Nat.lt_of_lt_of_le hg1.lt hgg
 have lg2_g4 : g2 < g4 := Nat.lt_of_lt_of_le hg2.lt hgg
 have lq1_g4 : q1 < g4 := Nat.lt_of_lt_of_le hq1.lt hgg
 have lw_g4 : B0 ≤ g4 := Nat.le_trans (Nat.le_trans hB0 hW.size) hgg
 replace hp4 := blB hp4 bx
 replace hp5 := blB hp5 bx
 replace hg1 := hg1.below bx hg1.lt
 replace hg2 := hg2.below bx hg2.lt
 replace hq1 := hq1.below bx hq1.lt
 replace hW := trB hW hB0 bx
 clear hgg
 clear bx
 refine ⟨_, rfl, hK.out _ _ ⟨hp4, hp5, hW⟩ (fun _ => ?_)⟩
 clear hK K
 simp only [Ls]
 refine takeH 0 8 6 (.slice (some ⟨g4, 0, none⟩) 48 48) rfl rfl (by kernel_rfl) (by kernel_rfl) (by kernel_rfl) (fun _ _ _ h => h) (Or.inl ⟨by rfl, fun w _ => by go_simp⟩) ⟨hp4, hp5, hW⟩ ?_
 simp only [Ls]
 refine wpAnyH_done (by kernel_rfl) ?_ _
 go_wp2_with fail
 go_ret
 exact ⟨_, rfl, hg4, lw_g4, hW⟩
set_option maxRecDepth 8000 in
set_option maxHeartbeats 4000000 in
theorem smc1_any (i s c : Nat) (d : List Nat) (hi : i < 4096) (hs : s < 4294967296) (hdl : d.length = 32) (hdb : Byt d) (B0 p3 p4 p5 p6 : Nat) (w : World) (hp3 : Blk w p3 3 #[.int .i64 (i : Int)]) (hp4 : Blk w p4 30 (noV s c)) (hp5 : Blk w p5 33 (va .u8 d)) (hp6 : Blk w p6 34 #[.slice none 0 0]) (lw_p6 : B0 ≤ p6) (l36 : p3 < p6) (l46 : p4 < p6) (l56 : p5 < p6) :
  Calls Tryd.prog 22 #[.pointer (some ⟨p3, 0, none⟩), .pointer (some ⟨p4, 0, none⟩), .pointer (some ⟨p5, 0, none⟩), .pointer (some ⟨p6, 0, none⟩)] w fun e w' => ∃ g, e = .returned (.int .i64 0) ∧ Blk w' p6 34 #[.slice (some ⟨g, 0, none⟩) 48 48] ∧ Blk w' g 5 (va .u8 (msg i s c d)) ∧ p6 < g ∧ Below B0 w w' := by
 have hW : Below B0 w w := Below.refl _ _
 have hB0 : B0 ≤ w.heap.size := by have := hp6.lt; omega
 go_enter Tryd.func22, Tryd.ntmps22
 go_upto_region 0 with fail
 refine wl_lit ?_
 refine runL 4 (.int .i64 0) rfl (by rfl) (by go_simp) ?_
 simp only [Ls]
 refine nilL ?_
 go_upto_region 1 with fail
 refine wl_lit ?_
 refine runL 5 (.int .i64 (i : Int)) rfl (by rfl) (exec_cell 3 (.tmp 0) rfl p3 0 rfl (.int .i64 (i : Int)) _ Tryd.underlying3 rfl (hp3.cellIs 0 rfl)) ?_
 refine runL 6 (.agg (noV s c)) rfl (by rfl) (exec_row 30 (.tmp 1) rfl p4 rfl 30 (noV s c) _ hp4 (by exact Tryd.underlying30) rfl (noV_sz _ _)) ?_
 refine runL 7 (.agg (va .u8 d)) rfl (by rfl) (exec_row 33 (.tmp 2) rfl p5 rfl 33 (va .u8 d) _ hp5 (by exact Tryd.underlying33) rfl (sz_api_Block _ hdl)) ?_
 simp only [Ls]
 refine callL 8 rfl (by rfl) (fun K hK => wp_callF 23 #[.int .i64 (i : Int), .agg (noV s c), .agg (va .u8 d)] (by go_simp) (smsg_any i s c d hi hs hdl hdb _) ?_)
 rintro e w1 ⟨g1, rfl, hg1, hgg, bx⟩
 have lp3_g1 : p3 < g1 := Nat.lt_of_lt_of_le hp3.lt hgg
 have lp4_g1 : p4 < g1 := Nat.lt_of_lt_of_le hp4.lt hgg
 have lp5_g1 : p5 < g1 := Nat.lt_of_lt_of_le hp5.lt hgg
 have lp6_g1 : p6 < g1 := Nat.lt_of_lt_of_le hp6.lt hgg
 have lw_g1 : B0 ≤ g1 := Nat.le_trans (Nat.le_trans hB0 hW.size) hgg
 replace hp3 := blB hp3 bx
 replace hp4 := blB hp4 bx
 replace hp5 := blB hp5 bx
 replace hp6 := blB hp6 bx
 replace hW := trB hW hB0 bx
 clear hgg
 clear bx
 refine ⟨_, rfl, hK.out _ _ ?_⟩
 clear hK K
 simp only [Ls]
 refine runSL (w1.setCell ⟨p6, 0, none⟩ (.slice (some ⟨g1, 0, none⟩) 48 48)) rfl (by rfl) (exec_storeCell 34 (.tmp 3) (.tmp 8) rfl p6 0 rfl (.slice (some ⟨g1, 0, none⟩) 48 48) rfl rfl rfl 34 (#[.slice none 0 0]) hp6 (show 0 < 1 by decide) (by kernel_rfl)) ?_
 replace hp3 := hp3.far (p := ⟨p6, 0, none⟩) (show p3 ≠ p6 from (by omega)) (.slice (some ⟨g1, 0, none⟩) 48 48)
 replace hp4 := hp4.far (p := ⟨p6, 0, none⟩) (show p4 ≠ p6 from (by omega)) (.slice (some ⟨g1, 0, none⟩) 48 48)
 replace hp5 := hp5.far (p := ⟨p6, 0, none⟩) (show p5 ≠ p6 from (by omega)) (.slice (some ⟨g1, 0, none⟩) 48 48)
 replace hg1 := hg1.far (p := ⟨p6, 0, none⟩) (show g1 ≠ p6 from (by omega)) (.slice (some ⟨g1, 0, none⟩) 48 48)
 replace hp6 : Blk (w1.setCell ⟨p6, 0, none⟩ (.slice (some ⟨g1, 0, none⟩) 48 48)) p6 34 (#[.slice (some ⟨g1, 0, none⟩) 48 48]) := hp6.set_ 0 (.slice (some ⟨g1, 0, none⟩) 48 48)
 replace hW := hW.setCell (p := ⟨p6, 0, none⟩) lw_p6 (.slice (some ⟨g1, 0, none⟩) 48 48)
 generalize w1.setCell ⟨p6, 0, none⟩ (.slice (some ⟨g1, 0, none⟩) 48 48) = w2 at *
 refine nilL ?_
 go_upto_region 2 with fail
 refine wl_lit ?_
 refine runL 4 (.int .i64 0) rfl (by rfl) (by go_simp) ?_
 simp only [Ls]
 refine nilL ?_
 go_wp2_with fail
 go_ret
 exact ⟨_, rfl, hp6, hg1, lp6_g1, hW⟩
set_option maxRecDepth 8000 in
set_option maxHeartbeats 4000000 in
theorem smessage_bad (i : Int) (hi : i < 0 ∨ 4096 ≤ i) (s c : Nat) (d : List Nat) (_hdl : d.length = 32) (w : World) :
  Calls Tryd.prog 9 #[.int .i64 i, .agg (noV s c), .agg (va .u8 d)] w fun e w' => e = .returned (.tuple #[.slice none 0 0, .int .i64 1]) ∧ Below w.heap.size w w' := by
 obtain ⟨B0, hB0e, hW, hB0⟩ := stB w
 rw [hB0e]
 have hB0q := Lib.hid hB0e
 clear hB0e
 go_enter Tryd.func9, Tryd.ntmps9
 go_upto_region 0 with fail
 refine wl_lit ?_
 refine runWL 3 (.pointer (some ⟨w.heap.size, 0, none⟩)) (w.alloc (.cells (#[.int .i64 i]) 3)) rfl (by rfl) (exec_box 3 (.tmp 0) rfl (.int .i64 i) rfl) ?_
 simp only [Ls]
 have lw_p3 := Nat.le_trans hB0 hW.size
 have hp3 := Blk.new w 3 (#[.int .i64 i])
 replace hW := alB hW hB0 (.cells (#[.int .i64 i]) 3)
 generalize w.alloc (.cells (#[.int .i64 i]) 3) = w1 at *
 generalize w.heap.size = p3 at hp3 lw_p3  ⊢
 refine runWL 4 (.pointer (some ⟨w1.heap.size, 0, none⟩)) (w1.alloc (.cells (noV s c) 30)) rfl (by rfl) (exec_box 30 (.tmp 1) rfl (.agg (noV s c)) rfl) ?_
 simp only [Ls]
 have lp3_p4 := hp3.lt
 have lw_p4 := Nat.le_trans hB0 hW.size
 have hp4 := Blk.new w1 30 (noV s c)
 have bx := bAl w1 (.cells (noV s c) 30)
 replace hp3 := blB hp3 bx
 replace hW := trB hW hB0 bx
 clear bx
 generalize w1.alloc (.cells (noV s c) 30) = w2 at *
 generalize w1.heap.size = p4 at hp4 lw_p4 lp3_p4 ⊢
 refine runWL 5 (.pointer (some ⟨w2.heap.size, 0, none⟩)) (w2.alloc (.cells (va .u8 d) 33)) rfl (by rfl) (exec_box 33 (.tmp 2) rfl (.agg (va .u8 d)) rfl) ?_
 simp only [Ls]
 have lp3_p5 := hp3.lt
 have lp4_p5 := hp4.lt
 have lw_p5 := Nat.le_trans hB0 hW.size
 have hp5 := Blk.new w2 33 (va .u8 d)
 have bx := bAl w2 (.cells (va .u8 d) 33)
 replace hp3 := blB hp3 bx
 replace hp4 := blB hp4 bx
 replace hW := trB hW hB0 bx
 clear bx
 generalize w2.alloc (.cells (va .u8 d) 33) = w3 at *
 generalize w2.heap.size = p5 at hp5 lw_p5 lp3_p5 lp4_p5 ⊢
 refine runWL 6 (.pointer (some ⟨w3.heap.size, 0, none⟩)) (w3.alloc (.cells (#[.slice none 0 0]) 34)) rfl (by rfl) (exec_allocV 34 rfl _ (zv_bs _)) ?_
 simp only [Ls]
 have lp3_p6 := hp3.lt
 have lp4_p6 := hp4.lt
 have lp5_p6 := hp5.lt
 have lw_p6 := Nat.le_trans hB0 hW.size
 have hp6 := Blk.new w3 34 (#[.slice none 0 0])
 have bx := bAl w3 (.cells (#[.slice none 0 0]) 34)
 replace hp3 := blB hp3 bx
 replace hp4 := blB hp4 bx
 replace hp5 := blB hp5 bx
 replace hW := trB hW hB0 bx
 clear bx
 generalize w3.alloc (.cells (#[.slice none 0 0]) 34) = w4 at *
 generalize w3.heap.size = p6 at hp6 lw_p6 lp3_p6 lp4_p6 lp5_p6 ⊢
 refine runL 7 (.int .i64 0) rfl (by rfl) (by go_simp) ?_
 simp only [Ls]
 refine nilL ?_
 go_upto_region 1 with fail
 refine wl_lit ?_
 refine runL 8 (.int .i64 i) rfl (by rfl) (exec_cell 3 (.tmp 3) rfl p3 0 rfl (.int .i64 i) _ Tryd.underlying3 rfl (hp3.cellIs 0 rfl)) ?_
 refine runL 9 (.func (.func 22) #[] #[.pointer (some ⟨p3, 0, none⟩), .pointer (some ⟨p4, 0, none⟩), .pointer (some ⟨p5, 0, none⟩), .pointer (some ⟨p6, 0, none⟩)]) rfl (by rfl) (exec_makeFunc _ _ rfl _ rfl) ?_
 simp only [Ls]
 refine callL 10 rfl (by rfl) (fun K hK => wp_callF 21 #[.int .i64 i, .func (.func 22) #[] #[.pointer (some ⟨p3, 0, none⟩), .pointer (some ⟨p4, 0, none⟩), .pointer (some ⟨p5, 0, none⟩), .pointer (some ⟨p6, 0, none⟩)]] (by go_simp) (indexed_bad i hi _ _) ?_)
 rintro e w5 ⟨rfl, bx⟩
 replace hp3 := blB hp3 bx
 replace hp4 := blB hp4 bx
 replace hp5 := blB hp5 bx
 replace hp6 := blB hp6 bx
 replace hW := trB hW hB0 bx
 clear bx
 refine ⟨_, rfl, hK.out _ _ ?_⟩
 clear hK K
 refine runL 7 (.int .i64 1) rfl (by rfl) (by go_simp) ?_
 simp only [Ls]
 refine nilL ?_
 go_upto_region 2 with fail
 refine wl_lit ?_
 refine runL 11 (.slice none 0 0) rfl (by rfl) (exec_cell 34 (.tmp 6) rfl p6 0 rfl (.slice none 0 0) _ Tryd.underlying34 rfl (hp6.cellIs 0 rfl)) ?_
 refine runL 12 (.int .i64 1) rfl (by rfl) (by go_simp) ?_
 simp only [Ls]
 refine runSL (w5.setCell ⟨p6, 0, none⟩ (.slice none 0 0)) rfl (by rfl) (exec_storeCell 34 (.tmp 6) (.tmp 11) rfl p6 0 rfl (.slice none 0 0) rfl rfl rfl 34 (#[.slice none 0 0]) hp6 (show 0 < 1 by decide) (by kernel_rfl)) ?_
 replace hp3 := hp3.far (p := ⟨p6, 0, none⟩) (show p3 ≠ p6 from (by omega)) (.slice none 0 0)
 replace hp4 := hp4.far (p := ⟨p6, 0, none⟩) (show p4 ≠ p6 from (by omega)) (.slice none 0 0)
 replace hp5 := hp5.far (p := ⟨p6, 0, none⟩) (show p5 ≠ p6 from (by omega)) (.slice none 0 0)
 replace hp6 : Blk (w5.setCell ⟨p6, 0, none⟩ (.slice none 0 0)) p6 34 (#[.slice none 0 0]) := hp6.set_ 0 (.slice none 0 0)
 replace hW := hW.setCell (p := ⟨p6, 0, none⟩) lw_p6 (.slice none 0 0)
 generalize w5.setCell ⟨p6, 0, none⟩ (.slice none 0 0) = w6 at *
 refine runL 7 (.int .i64 1) rfl (by rfl) (by go_simp) ?_
 simp only [Ls]
 refine nilL ?_
 go_wp2_with fail
 exact bodyPost_ret (results_cell_tmp rfl _ p6 (.slice none 0 0) _ _ rfl (hp6.cellIs 0 rfl) Tryd.underlying34 rfl rfl) rfl ⟨rfl, hW⟩
set_option maxRecDepth 8000 in
set_option maxHeartbeats 4000000 in
theorem smessage_ok (i s c : Nat) (d : List Nat) (hi : i < 4096) (hs : s < 4294967296) (hdl : d.length = 32) (hdb : Byt d) (w : World) :
  Calls Tryd.prog 9 #[.int .i64 (i : Int), .agg (noV s c), .agg (va .u8 d)] w fun e w' => ∃ g, e = .returned (.tuple #[.slice (some ⟨g, 0, none⟩) 48 48, .int .i64 0]) ∧ Blk w' g 5 (va .u8 (msg i s c d)) ∧ w.heap.size ≤ g ∧ Below w.heap.size w w' := by
 obtain ⟨B0, hB0e, hW, hB0⟩ := stB w
 rw [hB0e]
 have hB0q := Lib.hid hB0e
 clear hB0e
 go_enter Tryd.func9, Tryd.ntmps9
 go_upto_region 0 with fail
 refine wl_lit ?_
 refine runWL 3 (.pointer (some ⟨w.heap.size, 0, none⟩)) (w.alloc (.cells (#[.int .i64 (i : Int)]) 3)) rfl (by rfl) (exec_box 3 (.tmp 0) rfl (.int .i64 (i : Int)) rfl) ?_
 simp only [Ls]
 have lw_p3 := Nat.le_trans hB0 hW.size
 have hp3 := Blk.new w 3 (#[.int .i64 (i : Int)])
 replace hW := alB hW hB0 (.cells (#[.int .i64 (i : Int)]) 3)
 generalize w.alloc (.cells (#[.int .i64 (i : Int)]) 3) = w1 at *
 generalize w.heap.size = p3 at hp3 lw_p3  ⊢
 refine runWL 4 (.pointer (some ⟨w1.heap.size, 0, none⟩)) (w1.alloc (.cells (noV s c) 30)) rfl (by rfl) (exec_box 30 (.tmp 1) rfl (.agg (noV s c)) rfl) ?_
 simp only [Ls]
 have lp3_p4 := hp3.lt
 have lw_p4 := Nat.le_trans hB0 hW.size
 have hp4 := Blk.new w1 30 (noV s c)
 have bx := bAl w1 (.cells (noV s c) 30)
 replace hp3 := blB hp3 bx
 replace hW := trB hW hB0 bx
 clear bx
 generalize w1.alloc (.cells (noV s c) 30) = w2 at *
 generalize w1.heap.size = p4 at hp4 lw_p4 lp3_p4 ⊢
 refine runWL 5 (.pointer (some ⟨w2.heap.size, 0, none⟩)) (w2.alloc (.cells (va .u8 d) 33)) rfl (by rfl) (exec_box 33 (.tmp 2) rfl (.agg (va .u8 d)) rfl) ?_
 simp only [Ls]
 have lp3_p5 := hp3.lt
 have lp4_p5 := hp4.lt
 have lw_p5 := Nat.le_trans hB0 hW.size
 have hp5 := Blk.new w2 33 (va .u8 d)
 have bx := bAl w2 (.cells (va .u8 d) 33)
 replace hp3 := blB hp3 bx
 replace hp4 := blB hp4 bx
 replace hW := trB hW hB0 bx
 clear bx
 generalize w2.alloc (.cells (va .u8 d) 33) = w3 at *
 generalize w2.heap.size = p5 at hp5 lw_p5 lp3_p5 lp4_p5 ⊢
 refine runWL 6 (.pointer (some ⟨w3.heap.size, 0, none⟩)) (w3.alloc (.cells (#[.slice none 0 0]) 34)) rfl (by rfl) (exec_allocV 34 rfl _ (zv_bs _)) ?_
 simp only [Ls]
 have lp3_p6 := hp3.lt
 have lp4_p6 := hp4.lt
 have lp5_p6 := hp5.lt
 have lw_p6 := Nat.le_trans hB0 hW.size
 have hp6 := Blk.new w3 34 (#[.slice none 0 0])
 have bx := bAl w3 (.cells (#[.slice none 0 0]) 34)
 replace hp3 := blB hp3 bx
 replace hp4 := blB hp4 bx
 replace hp5 := blB hp5 bx
 replace hW := trB hW hB0 bx
 clear bx
 generalize w3.alloc (.cells (#[.slice none 0 0]) 34) = w4 at *
 generalize w3.heap.size = p6 at hp6 lw_p6 lp3_p6 lp4_p6 lp5_p6 ⊢
 refine runL 7 (.int .i64 0) rfl (by rfl) (by go_simp) ?_
 simp only [Ls]
 refine nilL ?_
 go_upto_region 1 with fail
 refine wl_lit ?_
 refine runL 8 (.int .i64 (i : Int)) rfl (by rfl) (exec_cell 3 (.tmp 3) rfl p3 0 rfl (.int .i64 (i : Int)) _ Tryd.underlying3 rfl (hp3.cellIs 0 rfl)) ?_
 refine runL 9 (.func (.func 22) #[] #[.pointer (some ⟨p3, 0, none⟩), .pointer (some ⟨p4, 0, none⟩), .pointer (some ⟨p5, 0, none⟩), .pointer (some ⟨p6, 0, none⟩)]) rfl (by rfl) (exec_makeFunc _ _ rfl _ rfl) ?_
 simp only [Ls]
 refine callL 10 rfl (by rfl) (fun K hK => wp_callF 21 #[.int .i64 (i : Int), .func (.func 22) #[] #[.pointer (some ⟨p3, 0, none⟩), .pointer (some ⟨p4, 0, none⟩), .pointer (some ⟨p5, 0, none⟩), .pointer (some ⟨p6, 0, none⟩)]] (by go_simp) (indexed_ok i hi _ _ _ (by go_simp) (R := fun v w' => v = .int .i64 0 ∧ ∃ g, Blk w' p6 34 #[.slice (some ⟨g, 0, none⟩) 48 48] ∧ Blk w' g 5 (va .u8 (msg i s c d)) ∧ p6 < g ∧ Below B0 _ w') ((smc1_any i s c d hi hs hdl hdb B0 p3 p4 p5 p6 _ hp3 hp4 hp5 hp6 lw_p6 (by omega) (by omega) (by omega)).mono (by rintro e w' ⟨g, rfl, h⟩; exact ⟨_, rfl, rfl, g, h⟩))) ?_)
 clear hp3 hp4 hp5 hp6
 rintro e w5 ⟨_, rfl, rfl, g1, hp6, hg1, l61, bx⟩
 replace hW := hW.trans bx
 clear bx
 refine ⟨_, rfl, hK.out _ _ ?_⟩
 clear hK K
 refine runL 7 (.int .i64 0) rfl (by rfl) (by go_simp) ?_
 simp only [Ls]
 refine nilL ?_
 go_upto_region 2 with fail
 refine wl_lit ?_
 refine runL 11 (.slice (some ⟨g1, 0, none⟩) 48 48) rfl (by rfl) (exec_cell 34 (.tmp 6) rfl p6 0 rfl (.slice (some ⟨g1, 0, none⟩) 48 48) _ Tryd.underlying34 rfl (hp6.cellIs 0 rfl)) ?_
 refine runL 12 (.int .i64 0) rfl (by rfl) (by go_simp) ?_
 simp only [Ls]
 refine runSL (w5.setCell ⟨p6, 0, none⟩ (.slice (some ⟨g1, 0, none⟩) 48 48)) rfl (by rfl) (exec_storeCell 34 (.tmp 6) (.tmp 11) rfl p6 0 rfl (.slice (some ⟨g1, 0, none⟩) 48 48) rfl rfl rfl 34 (#[.slice (some ⟨g1, 0, none⟩) 48 48]) hp6 (show 0 < 1 by decide) (by kernel_rfl)) ?_
 replace hg1 := hg1.far (p := ⟨p6, 0, none⟩) (show g1 ≠ p6 from (by omega)) (.slice (some ⟨g1, 0, none⟩) 48 48)
 replace hp6 : Blk (w5.setCell ⟨p6, 0, none⟩ (.slice (some ⟨g1, 0, none⟩) 48 48)) p6 34 (#[.slice (some ⟨g1, 0, none⟩) 48 48]) := hp6.set_ 0 (.slice (some ⟨g1, 0, none⟩) 48 48)
 replace hW := hW.setCell (p := ⟨p6, 0, none⟩) lw_p6 (.slice (some ⟨g1, 0, none⟩) 48 48)
 generalize w5.setCell ⟨p6, 0, none⟩ (.slice (some ⟨g1, 0, none⟩) 48 48) = w6 at *
 refine runL 7 (.int .i64 0) rfl (by rfl) (by go_simp) ?_
 simp only [Ls]
 refine nilL ?_
 have lw_g1 : B0 ≤ g1 := by omega
 go_wp2_with fail
 exact bodyPost_ret (results_cell_tmp rfl _ p6 (.slice (some ⟨g1, 0, none⟩) 48 48) _ _ rfl (hp6.cellIs 0 rfl) Tryd.underlying34 rfl rfl) rfl ⟨_, rfl, hg1, lw_g1, hW⟩
end Go.Proofs.YtcfddmplnoknlaaDoor
