/-
  The walks of records: CheckRecord, PutRecord, GetRecord, PutCell, GetCell. (Printed by mktop1.py.)
-/
import Derived.Test.YtcdgcaljlmondaaDoorZ13
namespace Go.Proofs.YtcdgcaljlmondaaDoor
set_option maxRecDepth 16384
open Go.RowKit Sh
section
variable {P : Program} {w : World}
theorem exec_makeFuncF {op : Oper} {a : Act} (f : FuncId) (fs cs : List Operand) (ho : op.op = .makeFunc (.func f) fs.toArray cs.toArray) (us vs : Array Value) (hu : (fs.map a.eval).toArray = us) (hv : (cs.map a.eval).toArray = vs) :
  (execOp a.eval op).run P w = .ok (.value (.func (.func f) us vs)) w := by
 subst hu; subst hv
 unfold execOp
 simp [ho, Instr.makeFunc]
/-- a part is laid among cells -/
theorem set_zip (l : List Value) : ∀ (k off : Nat) (cs : Array Value), off + k + l.length ≤ cs.size → ((l.zipIdx k).foldl (fun (cs : Array Value) (x : Value × Nat) => cs.setIfInBounds (off + x.2) x.1) cs).toList = cs.toList.take (off + k) ++ l ++ cs.toList.drop (off + k + l.length) := by
 induction l with
 | nil => intro k off cs _; simp
 | cons v l ih =>
  intro k off cs h
  simp only [List.length_cons] at h
  rw [List.zipIdx_cons, List.foldl_cons, ih (k + 1) off _ (by simp; omega)]
  simp only [Array.toList_setIfInBounds, List.length_cons]
  have h1 : (cs.toList.set (off + k) v).take (off + (k + 1)) = cs.toList.take (off + k) ++ [v] := by
   rw [show off + (k + 1) = off + k + 1 by omega, List.take_add_one, List.take_set_of_le (Nat.le_refl _), List.getElem?_set_self (by simp; omega)]
   rfl
  have h2 : (cs.toList.set (off + k) v).drop (off + (k + 1) + l.length) = cs.toList.drop (off + k + (l.length + 1)) := by
   rw [List.drop_set_of_lt (by omega)]; congr 1; omega
  rw [h1, h2]
  simp
theorem fill_step (place : Nat → Option (Nat × Nat)) (cells : List Value) (i : Nat) (v : Value) (vs : List Value) (off size : Nat) (rest : List (Nat × Value)) (hp : place i = some (off, size)) (hv : v.cells = vs.toArray) (hs : vs.length = size) (hb : off + size ≤ cells.length) :
  Instr.fill place cells.toArray ((i, v) :: rest) = Instr.fill place (cells.take off ++ vs ++ cells.drop (off + size)).toArray rest := by
 subst hs
 have hsz : v.cells.size = vs.length := by rw [hv]; simp
 rw [Instr.fill]
 simp only [hp, hsz, ne_eq, not_true_eq_false, decide_false, Bool.false_or]
 rw [if_neg (by simp; omega)]
 congr 1
 apply Array.toList_inj.1
 have h := set_zip vs 0 off cells.toArray (by simpa using hb)
 rw [hv]
 simp only [Nat.add_zero] at h
 rw [← Array.foldl_toList, Array.toList_zipIdx]
 simpa using h
end
/-- the cells of a record -/
def recV (st s c : Nat) (t : List Nat) : Array Value := (Value.int .u8 (st : Int) :: Value.int .u32 (s : Int) :: Value.int .u64 (c : Int) :: nv .u8 t).toArray
/-- the cells of a cell -/
def celV (r : List Nat) (e m : Nat) : Array Value := (nv .u8 r ++ [Value.int .u64 (e : Int), Value.int .u64 (m : Int)]).toArray
theorem recV_sz (st s c : Nat) (t : List Nat) (h : t.length = 32) : (Tryd.prog.info? 69).map (·.size) = some (recV st s c t).size := by
 have e : (recV st s c t).size = 35 := by simp [recV, nv_len, h]
 have h0 : (Tryd.prog.info? 69).map (·.size) = some 35 := by kernel_rfl
 rw [e, h0]
theorem recV_one (st s c : Nat) (t : List Nat) : ∀ v ∈ (recV st s c t).toList, v.oneCell' = true := fun v hv => by
  simp only [recV, List.mem_cons] at hv
  rcases hv with h | h | h | h
  · subst h; rfl
  · subst h; rfl
  · subst h; rfl
  · exact nv_one _ _ v h
theorem celV_sz (r : List Nat) (e m : Nat) (h : r.length = 32) : (Tryd.prog.info? 26).map (·.size) = some (celV r e m).size := by
 have e : (celV r e m).size = 34 := by simp [celV, nv_len, h]
 have h0 : (Tryd.prog.info? 26).map (·.size) = some 34 := by kernel_rfl
 rw [e, h0]
theorem celV_one (r : List Nat) (e m : Nat) : ∀ v ∈ (celV r e m).toList, v.oneCell' = true := fun v hv => by
  simp only [celV, List.mem_append] at hv
  rcases hv with h | h
  · exact nv_one _ _ v h
  · simp at h; rcases h with h | h <;> subst h <;> rfl
theorem built_rec (st s c : Nat) (t : List Nat) (h : t.length = 32) : Tryd.prog.built 69 [(0, .int .u8 (st : Int)), (1, .agg (noV s c)), (2, .agg (va .u8 t))] = some (recV st s c t) := by
 have e : ∀ parts, Tryd.prog.built 69 parts = Instr.fill (fun i => [((0 : Nat), (1 : Nat)), (1, 2), (3, 32)].toArray[i]?) (Value.int .u8 0 :: Value.int .u32 0 :: Value.int .u64 0 :: List.replicate 32 (Value.int .u8 0)).toArray parts := fun parts => by kernel_rfl
 rw [e, fill_step _ _ 0 _ [.int .u8 (st : Int)] 0 1 _ rfl rfl rfl (by simp), fill_step _ _ 1 _ (noV s c).toList 1 2 _ rfl rfl rfl (by simp), fill_step _ _ 2 _ (nv .u8 t) 3 32 _ rfl rfl (by rw [nv_len, h]) (by simp [noV])]
 simp [Instr.fill, recV, noV]
theorem built_cel (r : List Nat) (e m : Nat) (h : r.length = 32) : Tryd.prog.built 26 [(0, .agg (va .u8 r)), (1, .int .u64 (e : Int)), (2, .int .u64 (m : Int))] = some (celV r e m) := by
 have e0 : ∀ parts, Tryd.prog.built 26 parts = Instr.fill (fun i => [((0 : Nat), (32 : Nat)), (32, 1), (33, 1)].toArray[i]?) (List.replicate 32 (Value.int .u8 0) ++ [Value.int .u64 0, Value.int .u64 0]).toArray parts := fun parts => by kernel_rfl
 have hl : (nv .u8 r).length = 32 := by rw [nv_len, h]
 rw [e0, fill_step _ _ 0 _ (nv .u8 r) 0 32 _ rfl rfl hl (by simp), fill_step _ _ 1 _ [.int .u64 (e : Int)] 32 1 _ rfl rfl rfl (by simp [hl]), fill_step _ _ 2 _ [.int .u64 (m : Int)] 33 1 _ rfl rfl rfl (by simp [hl])]
 have t1 : (nv .u8 r).take 33 = nv .u8 r := List.take_of_length_le (by omega)
 have d1 : (nv .u8 r).drop 33 = [] := List.drop_eq_nil_of_le (by omega)
 have d2 : (nv .u8 r).drop 34 = [] := List.drop_eq_nil_of_le (by omega)
 simp [Instr.fill, celV, List.take_append, List.drop_append, hl, t1, d1, d2]
section
variable {W : World} {g : Nat} {T : TypeId} {st s c e m : Nat} {t r : List Nat}
theorem recV_st (hb : Blk W g T (recV st s c t)) : W.cell? ⟨g, 0, none⟩ = some (.int .u8 (st : Int)) := hb.cellIs 0 rfl
theorem recV_no (hb : Blk W g T (recV st s c t)) : W.rangeAt g 1 (noV s c).toList := by
 have h1 := hb.range 1 2
 exact h1
theorem recV_tag (hb : Blk W g T (recV st s c t)) (h : t.length = 32) : W.rangeAt g 3 (nv .u8 t) := by
 have h1 := hb.range 3 32
 have e : ((recV st s c t).toList.drop 3).take 32 = nv .u8 t := by
  show (nv .u8 t).take 32 = _
  rw [List.take_of_length_le (by rw [nv_len, h]; exact Nat.le_refl _)]
 rwa [e] at h1
theorem celV_e (hb : Blk W g T (celV r e m)) (h : r.length = 32) : W.cell? ⟨g, 32, none⟩ = some (.int .u64 (e : Int)) := hb.cellIs 32 (by
 rw [← Array.getElem?_toList, celV, List.getElem?_append_right (by rw [nv_len, h]; exact Nat.le_refl _), nv_len, h]; rfl)
theorem celV_m (hb : Blk W g T (celV r e m)) (h : r.length = 32) : W.cell? ⟨g, 33, none⟩ = some (.int .u64 (m : Int)) := hb.cellIs 33 (by
 rw [← Array.getElem?_toList, celV, List.getElem?_append_right (by rw [nv_len, h]; omega), nv_len, h]; rfl)
theorem celV_root (hb : Blk W g T (celV r e m)) (h : r.length = 32) : W.rangeAt g 0 (nv .u8 r) := by
 have h1 := hb.range 0 32
 rwa [List.drop_zero, celV, List.take_left' (by rw [nv_len, h])] at h1
theorem range_reads {n : Nat} {l : List Nat} {k : Nat} (_hl : g < W.heap.size) (h : W.rangeAt g k (nv .u8 l)) (hn : l.length = n) : Reads W (g + 1) 1 (some ⟨g, k, none⟩) n (nv .u8 l) :=
 ⟨by rw [nv_len, hn, Nat.mul_one], fun _ => ⟨_, rfl, Nat.lt_succ_self _, fun j v hv => by rw [Addr.add_mid]; exact h j v hv⟩⟩
end
theorem zv_Record (w : World) : (zeroValue 69).run Tryd.prog w = .ok (.agg (recV 0 0 0 (List.replicate 32 0))) w := by kernel_rfl
theorem zv_Cell (w : World) : (zeroValue 26).run Tryd.prog w = .ok (.agg (celV (List.replicate 32 0) 0 0)) w := by kernel_rfl
theorem reader_sz (v : Value) : (Tryd.prog.info? 138).map (·.size) = some (#[v] : Array Value).size := by kernel_rfl
theorem zv_reader (w : World) : (zeroValue 138).run Tryd.prog w = .ok (.agg #[.slice none 0 0]) w := by kernel_rfl

theorem szDg (l : List Nat) (h : l.length = 32) : (Tryd.prog.info? 23).map (·.size) = some (nv .u8 l).length := by rw [nv_len, h]; kernel_rfl
set_option maxRecDepth 8000 in
set_option maxHeartbeats 4000000 in
theorem rccheck_any (st s c : Nat) (t : List Nat) (hst : 0 < st) (hst2 : st ≤ 2) (_hs : s < 4294967296) (_hc : c < 18446744073709551616) (_htl : t.length = 32) (_htb : Byt t) (w : World) :
  Calls Tryd.prog 58 #[.agg (recV st s c t)] w fun e w' => e = .returned (.int .i64 0) ∧ Below w.heap.size w w' := by
 obtain ⟨B0, hB0e⟩ : ∃ b, w.heap.size = b := ⟨_, rfl⟩
 rw [hB0e]
 have hW : Below B0 w w := by rw [← hB0e]; exact Below.refl _ _
 have hB0 : B0 ≤ w.heap.size := by omega
 have hB0q := Lib.hid hB0e
 clear hB0e
 have h1 : ¬ (2 : Int) < (st : Int) := by omega
 have h2 : ¬ (st : Int) = 0 := by omega
 have h3 : ¬ st = 0 := by omega
 go_enter Tryd.func58, Tryd.ntmps58
 go_upto_region 0 with fail
 refine wl_lit ?_
 refine runWL 1 (.pointer (some ⟨w.heap.size, 0, none⟩)) (w.alloc (.cells (recV st s c t) 69)) rfl (by rfl) (exec_box 69 (.tmp 0) rfl (.agg (recV st s c t)) rfl) ?_
 simp only [ls0, ls1]
 have lw_p1 := Nat.le_trans hB0 hW.size
 have hp1 : Blk (w.alloc (.cells (recV st s c t) 69)) w.heap.size 69 (recV st s c t) := Blk.new _ _ _
 replace hW := hW.alloc (Nat.le_trans hB0 hW.size) (.cells (recV st s c t) 69)
 generalize w.alloc (.cells (recV st s c t) 69) = w1 at *
 generalize w.heap.size = p1 at hp1 lw_p1  ⊢
 refine runL 2 (.int .i64 0) rfl (by rfl) (by go_simp) ?_
 simp only [ls0, ls1]
 refine nilL ?_
 go_upto_region 1 with fail
 refine wl_lit ?_
 refine runL 3 (.pointer (some ⟨p1, 0, none⟩)) rfl (by rfl) (by go_simp) ?_
 simp only [ls0, ls1]
 refine runL 4 (.int .u8 ((st : Nat) : Int)) rfl (by rfl) (exec_cell 5 (.tmp 3) rfl p1 0 rfl (.int .u8 ((st : Nat) : Int)) _ Tryd.underlying5 rfl (recV_st hp1)) ?_
 simp only [ls0, ls1]
 refine runL 5 (.bool false) rfl (by rfl) (by go_simp) ?_
 simp only [ls0, ls1]
 refine runL 6 (.bool false) rfl (by rfl) (by go_simp) ?_
 simp only [ls0, ls1]
 refine runL 7 (.pointer (some ⟨p1, 0, none⟩)) rfl (by rfl) (by go_simp) ?_
 simp only [ls0, ls1]
 refine runL 8 (.int .u8 ((st : Nat) : Int)) rfl (by rfl) (exec_cell 5 (.tmp 7) rfl p1 0 rfl (.int .u8 ((st : Nat) : Int)) _ Tryd.underlying5 rfl (recV_st hp1)) ?_
 simp only [ls0, ls1]
 refine runL 9 (.bool false) rfl (by rfl) (by go_simp) ?_
 simp only [ls0, ls1]
 refine runL 10 (.bool false) rfl (by rfl) (by go_simp) ?_
 simp only [ls0, ls1]
 refine skipL 11 rfl (by kernel_rfl) ?_
 simp only [ls0, ls1]
 refine skipL 12 rfl (by kernel_rfl) ?_
 simp only [ls0, ls1]
 refine skipL 13 rfl (by kernel_rfl) ?_
 simp only [ls0, ls1]
 refine runL 14 (.bool false) rfl (by rfl) (by go_simp) ?_
 simp only [ls0, ls1]
 refine runL 15 (.bool false) rfl (by rfl) (by go_simp) ?_
 simp only [ls0, ls1]
 refine nilL ?_
 go_upto_region 3 with fail
 refine wl_lit ?_
 refine runL 2 (.int .i64 0) rfl (by rfl) (by go_simp) ?_
 simp only [ls0, ls1]
 refine nilL ?_
 go_wp2_with fail
 go_ret
 exact ⟨rfl, hW⟩
theorem rb_len {st s c : Nat} {t : List Nat} (h : t.length = 32) : (st :: (noB s c ++ t)).length = 45 := by simp [noB_len, h]
set_option maxRecDepth 8000 in
set_option maxHeartbeats 4000000 in
theorem prec_any (st s c : Nat) (t : List Nat) (hst : 0 < st) (hst2 : st ≤ 2) (hs : s < 4294967296) (hc : c < 18446744073709551616) (htl : t.length = 32) (htb : Byt t) (w : World) :
  Calls Tryd.prog 23 #[.agg (recV st s c t)] w fun e w' => ∃ g, e = .returned (.tuple #[.slice (some ⟨g, 0, none⟩) 45 45, .int .i64 0]) ∧ Blk w' g 5 (va .u8 (st :: (noB s c ++ t))) ∧ w.heap.size ≤ g ∧ Below w.heap.size w w' := by
 obtain ⟨B0, hB0e⟩ : ∃ b, w.heap.size = b := ⟨_, rfl⟩
 rw [hB0e]
 have hW : Below B0 w w := by rw [← hB0e]; exact Below.refl _ _
 have hB0 : B0 ≤ w.heap.size := by omega
 have hB0q := Lib.hid hB0e
 clear hB0e
 have hst8 : st < 256 := by omega
 go_enter Tryd.func23, Tryd.ntmps23
 go_upto_region 0 with fail
 refine wl_lit ?_
 refine runWL 1 (.pointer (some ⟨w.heap.size, 0, none⟩)) (w.alloc (.cells (recV st s c t) 69)) rfl (by rfl) (exec_box 69 (.tmp 0) rfl (.agg (recV st s c t)) rfl) ?_
 simp only [ls0, ls1]
 have lw_p1 := Nat.le_trans hB0 hW.size
 have hp1 : Blk (w.alloc (.cells (recV st s c t) 69)) w.heap.size 69 (recV st s c t) := Blk.new _ _ _
 replace hW := hW.alloc (Nat.le_trans hB0 hW.size) (.cells (recV st s c t) 69)
 generalize w.alloc (.cells (recV st s c t) 69) = w1 at *
 generalize w.heap.size = p1 at hp1 lw_p1  ⊢
 refine runL 2 (.slice none 0 0) rfl (by rfl) (by go_simp) ?_
 simp only [ls0, ls1]
 refine runL 3 (.int .i64 0) rfl (by rfl) (by go_simp) ?_
 simp only [ls0, ls1]
 refine nilL ?_
 go_upto_region 1 with fail
 refine wl_lit ?_
 refine runL 5 (.agg (recV st s c t)) rfl (by rfl) (exec_row 69 (.tmp 1) rfl p1 rfl 69 (recV st s c t) _ hp1 (by exact Tryd.underlying69) rfl (recV_sz _ _ _ _ htl)) ?_
 simp only [ls0, ls1]
 refine callL 6 rfl (by rfl) (fun K hK => wp_callF 58 #[.agg (recV st s c t)] (by go_simp) (rccheck_any st s c t hst hst2 hs hc htl htb _) ?_)
 rintro e w2 ⟨rfl, bx⟩
 replace hp1 := hp1.below bx hp1.lt
 replace hW := hW.trans (bx.mono (Nat.le_trans hB0 hW.size))
 clear bx
 refine ⟨_, rfl, hK.out _ _ ?_⟩
 clear hK K
 simp only [ls0, ls1]
 refine runL 4 (.int .i64 0) rfl (by rfl) (by go_simp) ?_
 simp only [ls0, ls1]
 refine nilL ?_
 go_upto_region 2 with fail
 refine wl_lit ?_
 refine runL 7 (.int .i64 0) rfl (by rfl) (by go_simp) ?_
 simp only [ls0, ls1]
 refine runL 8 (.bool false) rfl (by rfl) (by go_simp) ?_
 simp only [ls0, ls1]
 refine nilL ?_
 go_upto_region 4 with fail
 refine wp_region_held_drew (S := fun wr => Blk wr p1 69 (recV st s c t) ∧ Below B0 w wr) (by kernel_rfl) ⟨hp1.drew, below_drewN hW 1⟩ (fun hH => ?_)
 clear hp1 hW
 obtain ⟨hp1, hW⟩ := hH
 generalize w2.drew = w3 at *
 refine takeH 11 0 10 (.pointer (some ⟨p1, 0, none⟩)) rfl rfl (by kernel_rfl) (by kernel_rfl) (by kernel_rfl) (fun _ _ _ h => h) (Or.inl ⟨by rfl, fun w _ => by go_simp⟩) ⟨hp1, hW⟩ ?_
 simp only [ls0, ls1]
 refine takeH 10 1 11 (.int .u8 ((st : Nat) : Int)) rfl rfl (by kernel_rfl) (by kernel_rfl) (by kernel_rfl) (fun _ _ _ h => h) (Or.inl ⟨by rfl, fun _ h => exec_cell 5 (.tmp 10) rfl p1 0 rfl (.int .u8 ((st : Nat) : Int)) _ Tryd.underlying5 rfl (recV_st h.1)⟩) ⟨hp1, hW⟩ ?_
 simp only [ls0, ls1]
 refine takeH 9 3 13 (.pointer (some ⟨p1, 1, none⟩)) rfl rfl (by kernel_rfl) (by kernel_rfl) (by kernel_rfl) (fun _ _ _ h => h) (Or.inl ⟨by rfl, fun w _ => by go_simp⟩) ⟨hp1, hW⟩ ?_
 simp only [ls0, ls1]
 refine takeH 8 4 14 (.agg (noV s c)) rfl rfl (by kernel_rfl) (by kernel_rfl) (by kernel_rfl) (fun _ _ _ h => h) (Or.inl ⟨by rfl, fun _ h => exec_mid 40 (.tmp 13) rfl p1 1 rfl (noV s c).toList _ (recV_no h.1) (by exact Tryd.underlying40) rfl (by kernel_rfl)⟩) ⟨hp1, hW⟩ ?_
 simp only [ls0, ls1]
 refine takeH 7 6 16 (.pointer (some ⟨p1, 3, none⟩)) rfl rfl (by kernel_rfl) (by kernel_rfl) (by kernel_rfl) (fun _ _ _ h => h) (Or.inl ⟨by rfl, fun w _ => by go_simp⟩) ⟨hp1, hW⟩ ?_
 simp only [ls0, ls1]
 refine takeH 6 7 17 (.slice (some ⟨p1, 3, none⟩) 32 32) rfl rfl (by kernel_rfl) (by kernel_rfl) (by kernel_rfl) (fun _ _ _ h => h) (Or.inl ⟨by rfl, fun w _ => by go_simp⟩) ⟨hp1, hW⟩ ?_
 simp only [ls0, ls1]
 refine wpAnyH_ready (by kernel_rfl) (by simp) (readyRun 5 2 12 (.slice (some ⟨w3.heap.size, 0, none⟩) 1 1) (w3.alloc (.cells (va .u8 ([st])) 5)) rfl rfl (by rfl) (exec_bslice 27 1 _ rfl _ (by exact bs_b1 st _)) ⟨hp1.alloc _, hW.alloc (Nat.le_trans hB0 hW.size) _⟩ (fun _ => ?_) (readyCons 5 5 15 rfl rfl (by rfl) (fun K hK => wp_callF 14 #[.agg (noV s c)] (by go_simp) (nput_to s c hs _) ?_) AllReadyH.nil))
 ·
  simp only [ls0, ls1]
  have lp1_q1 := hp1.lt
  have lw_q1 := Nat.le_trans hB0 hW.size
  have hq1 : Blk (w3.alloc (.cells (va .u8 ([st])) 5)) w3.heap.size 5 (va .u8 ([st])) := Blk.new _ _ _
  replace hp1 := hp1.alloc (.cells (va .u8 ([st])) 5)
  replace hW := hW.alloc (Nat.le_trans hB0 hW.size) (.cells (va .u8 ([st])) 5)
  generalize w3.alloc (.cells (va .u8 ([st])) 5) = w4 at *
  generalize w3.heap.size = q1 at hq1 lw_q1 lp1_q1 ⊢
  refine wpAnyH_ready (by kernel_rfl) (by simp) (readyCons 4 5 15 rfl rfl (by rfl) (fun K hK => wp_callF 14 #[.agg (noV s c)] (by go_simp) (nput_to s c hs _) ?_) AllReadyH.nil)
  rintro e w5 ⟨g2, rfl, hg2, hgg, bx⟩
  have lp1_g2 : p1 < g2 := Nat.lt_of_lt_of_le hp1.lt hgg
  have lq1_g2 : q1 < g2 := Nat.lt_of_lt_of_le hq1.lt hgg
  have lw_g2 : B0 ≤ g2 := Nat.le_trans (Nat.le_trans hB0 hW.size) hgg
  replace hp1 := hp1.below bx hp1.lt
  replace hq1 := hq1.below bx hq1.lt
  replace hW := hW.trans (bx.mono (Nat.le_trans hB0 hW.size))
  clear hgg
  clear bx
  refine ⟨_, rfl, hK.out _ _ ⟨hp1, hW⟩ (fun _ => ?_)⟩
  clear hK K
  simp only [ls0, ls1]
  refine wpAnyH_ready (by kernel_rfl) (by simp) (readyRun 3 8 18 (.slice (some ⟨w5.heap.size, 0, none⟩) 3 3) (w5.alloc (.cells (#[.slice (some ⟨q1, 0, none⟩) 1 1, .slice (some ⟨g2, 0, none⟩) 12 12, .slice (some ⟨p1, 3, none⟩) 32 32]) 27)) rfl rfl (by rfl) (exec_bslice 88 3 _ rfl _ (by exact bs_3 (some ⟨q1, 0, none⟩) 1 1 (some ⟨g2, 0, none⟩) 12 12 (some ⟨p1, 3, none⟩) 32 32 _)) ⟨hp1.alloc _, hW.alloc (Nat.le_trans hB0 hW.size) _⟩ (fun _ => ?_) AllReadyH.nil)
  simp only [ls0, ls1]
  have lp1_q2 := hp1.lt
  have lq1_q2 := hq1.lt
  have lg2_q2 := hg2.lt
  have lw_q2 := Nat.le_trans hB0 hW.size
  have hq2 : Blk (w5.alloc (.cells (#[.slice (some ⟨q1, 0, none⟩) 1 1, .slice (some ⟨g2, 0, none⟩) 12 12, .slice (some ⟨p1, 3, none⟩) 32 32]) 27)) w5.heap.size 27 (#[.slice (some ⟨q1, 0, none⟩) 1 1, .slice (some ⟨g2, 0, none⟩) 12 12, .slice (some ⟨p1, 3, none⟩) 32 32]) := Blk.new _ _ _
  replace hp1 := hp1.alloc (.cells (#[.slice (some ⟨q1, 0, none⟩) 1 1, .slice (some ⟨g2, 0, none⟩) 12 12, .slice (some ⟨p1, 3, none⟩) 32 32]) 27)
  replace hq1 := hq1.alloc (.cells (#[.slice (some ⟨q1, 0, none⟩) 1 1, .slice (some ⟨g2, 0, none⟩) 12 12, .slice (some ⟨p1, 3, none⟩) 32 32]) 27)
  replace hg2 := hg2.alloc (.cells (#[.slice (some ⟨q1, 0, none⟩) 1 1, .slice (some ⟨g2, 0, none⟩) 12 12, .slice (some ⟨p1, 3, none⟩) 32 32]) 27)
  replace hW := hW.alloc (Nat.le_trans hB0 hW.size) (.cells (#[.slice (some ⟨q1, 0, none⟩) 1 1, .slice (some ⟨g2, 0, none⟩) 12 12, .slice (some ⟨p1, 3, none⟩) 32 32]) 27)
  generalize w5.alloc (.cells (#[.slice (some ⟨q1, 0, none⟩) 1 1, .slice (some ⟨g2, 0, none⟩) 12 12, .slice (some ⟨p1, 3, none⟩) 32 32]) 27) = w6 at *
  generalize w5.heap.size = q2 at hq2 lw_q2 lp1_q2 lq1_q2 lg2_q2 ⊢
  refine wpAnyH_ready (by kernel_rfl) (by simp) (readyCons 2 9 19 rfl rfl (by rfl) (fun K hK => wp_callF 9 #[.slice (some ⟨q2, 0, none⟩) 3 3] (by go_simp) (join_to [[st], noB s c, t] (st :: (noB s c ++ t)) 3 3 _ 45 _ _ (parts_three hq1.lt hg2.lt hp1.lt hq2 (hq1.readsAll (Nat.lt_succ_self _) (rfl)) (Nat.le_refl _) (byt_one' _ (by omega)) (hg2.readsAll (Nat.lt_succ_self _) (noB_len _ _)) (Nat.le_refl _) (noB_byt _ _) (range_reads hp1.lt (recV_tag hp1 htl) htl) (Nat.le_refl _) htb) (by simp) (by omega) (Nat.le_refl _) (rb_len htl) (by omega)) ?_) AllReadyH.nil)
  rintro e w7 ⟨g4, rfl, hg4, hgg, bx⟩
  have lp1_g4 : p1 < g4 := Nat.lt_of_lt_of_le hp1.lt hgg
  have lq1_g4 : q1 < g4 := Nat.lt_of_lt_of_le hq1.lt hgg
  have lg2_g4 : g2 < g4 := Nat.lt_of_lt_of_le hg2.lt hgg
  have lq2_g4 : q2 < g4 := Nat.lt_of_lt_of_le hq2.lt hgg
  have lw_g4 : B0 ≤ g4 := Nat.le_trans (Nat.le_trans hB0 hW.size) hgg
  replace hp1 := hp1.below bx hp1.lt
  replace hq1 := hq1.below bx hq1.lt
  replace hg2 := hg2.below bx hg2.lt
  replace hq2 := hq2.below bx hq2.lt
  replace hW := hW.trans (bx.mono (Nat.le_trans hB0 hW.size))
  clear hgg
  clear bx
  refine ⟨_, rfl, hK.out _ _ ⟨hp1, hW⟩ (fun _ => ?_)⟩
  clear hK K
  simp only [ls0, ls1]
  refine takeH 1 10 2 (.slice (some ⟨g4, 0, none⟩) 45 45) rfl rfl (by kernel_rfl) (by kernel_rfl) (by kernel_rfl) (fun _ _ _ h => h) (Or.inl ⟨by rfl, fun w _ => by go_simp⟩) ⟨hp1, hW⟩ ?_
  simp only [ls0, ls1]
  refine takeH 0 11 3 (.int .i64 0) rfl rfl (by kernel_rfl) (by kernel_rfl) (by kernel_rfl) (fun _ _ _ h => h) (Or.inl ⟨by rfl, fun w _ => by go_simp⟩) ⟨hp1, hW⟩ ?_
  simp only [ls0, ls1]
  refine wpAnyH_done (by kernel_rfl) ?_ _
  go_wp2_with fail
  go_ret2
  exact ⟨_, rfl, hg4, lw_g4, hW⟩
 ·
  rintro e w8 ⟨g2, rfl, hg2, hgg, bx⟩
  have lp1_g2 : p1 < g2 := Nat.lt_of_lt_of_le hp1.lt hgg
  have lw_g2 : B0 ≤ g2 := Nat.le_trans (Nat.le_trans hB0 hW.size) hgg
  replace hp1 := hp1.below bx hp1.lt
  replace hW := hW.trans (bx.mono (Nat.le_trans hB0 hW.size))
  clear hgg
  clear bx
  refine ⟨_, rfl, hK.out _ _ ⟨hp1, hW⟩ (fun _ => ?_)⟩
  clear hK K
  simp only [ls0, ls1]
  refine wpAnyH_ready (by kernel_rfl) (by simp) (readyRun 4 2 12 (.slice (some ⟨w8.heap.size, 0, none⟩) 1 1) (w8.alloc (.cells (va .u8 ([st])) 5)) rfl rfl (by rfl) (exec_bslice 27 1 _ rfl _ (by exact bs_b1 st _)) ⟨hp1.alloc _, hW.alloc (Nat.le_trans hB0 hW.size) _⟩ (fun _ => ?_) AllReadyH.nil)
  simp only [ls0, ls1]
  have lp1_q2 := hp1.lt
  have lg2_q2 := hg2.lt
  have lw_q2 := Nat.le_trans hB0 hW.size
  have hq2 : Blk (w8.alloc (.cells (va .u8 ([st])) 5)) w8.heap.size 5 (va .u8 ([st])) := Blk.new _ _ _
  replace hp1 := hp1.alloc (.cells (va .u8 ([st])) 5)
  replace hg2 := hg2.alloc (.cells (va .u8 ([st])) 5)
  replace hW := hW.alloc (Nat.le_trans hB0 hW.size) (.cells (va .u8 ([st])) 5)
  generalize w8.alloc (.cells (va .u8 ([st])) 5) = w9 at *
  generalize w8.heap.size = q2 at hq2 lw_q2 lp1_q2 lg2_q2 ⊢
  refine wpAnyH_ready (by kernel_rfl) (by simp) (readyRun 3 8 18 (.slice (some ⟨w9.heap.size, 0, none⟩) 3 3) (w9.alloc (.cells (#[.slice (some ⟨q2, 0, none⟩) 1 1, .slice (some ⟨g2, 0, none⟩) 12 12, .slice (some ⟨p1, 3, none⟩) 32 32]) 27)) rfl rfl (by rfl) (exec_bslice 88 3 _ rfl _ (by exact bs_3 (some ⟨q2, 0, none⟩) 1 1 (some ⟨g2, 0, none⟩) 12 12 (some ⟨p1, 3, none⟩) 32 32 _)) ⟨hp1.alloc _, hW.alloc (Nat.le_trans hB0 hW.size) _⟩ (fun _ => ?_) AllReadyH.nil)
  simp only [ls0, ls1]
  have lp1_q3 := hp1.lt
  have lg2_q3 := hg2.lt
  have lq2_q3 := hq2.lt
  have lw_q3 := Nat.le_trans hB0 hW.size
  have hq3 : Blk (w9.alloc (.cells (#[.slice (some ⟨q2, 0, none⟩) 1 1, .slice (some ⟨g2, 0, none⟩) 12 12, .slice (some ⟨p1, 3, none⟩) 32 32]) 27)) w9.heap.size 27 (#[.slice (some ⟨q2, 0, none⟩) 1 1, .slice (some ⟨g2, 0, none⟩) 12 12, .slice (some ⟨p1, 3, none⟩) 32 32]) := Blk.new _ _ _
  replace hp1 := hp1.alloc (.cells (#[.slice (some ⟨q2, 0, none⟩) 1 1, .slice (some ⟨g2, 0, none⟩) 12 12, .slice (some ⟨p1, 3, none⟩) 32 32]) 27)
  replace hg2 := hg2.alloc (.cells (#[.slice (some ⟨q2, 0, none⟩) 1 1, .slice (some ⟨g2, 0, none⟩) 12 12, .slice (some ⟨p1, 3, none⟩) 32 32]) 27)
  replace hq2 := hq2.alloc (.cells (#[.slice (some ⟨q2, 0, none⟩) 1 1, .slice (some ⟨g2, 0, none⟩) 12 12, .slice (some ⟨p1, 3, none⟩) 32 32]) 27)
  replace hW := hW.alloc (Nat.le_trans hB0 hW.size) (.cells (#[.slice (some ⟨q2, 0, none⟩) 1 1, .slice (some ⟨g2, 0, none⟩) 12 12, .slice (some ⟨p1, 3, none⟩) 32 32]) 27)
  generalize w9.alloc (.cells (#[.slice (some ⟨q2, 0, none⟩) 1 1, .slice (some ⟨g2, 0, none⟩) 12 12, .slice (some ⟨p1, 3, none⟩) 32 32]) 27) = w10 at *
  generalize w9.heap.size = q3 at hq3 lw_q3 lp1_q3 lg2_q3 lq2_q3 ⊢
  refine wpAnyH_ready (by kernel_rfl) (by simp) (readyCons 2 9 19 rfl rfl (by rfl) (fun K hK => wp_callF 9 #[.slice (some ⟨q3, 0, none⟩) 3 3] (by go_simp) (join_to [[st], noB s c, t] (st :: (noB s c ++ t)) 3 3 _ 45 _ _ (parts_three hq2.lt hg2.lt hp1.lt hq3 (hq2.readsAll (Nat.lt_succ_self _) (rfl)) (Nat.le_refl _) (byt_one' _ (by omega)) (hg2.readsAll (Nat.lt_succ_self _) (noB_len _ _)) (Nat.le_refl _) (noB_byt _ _) (range_reads hp1.lt (recV_tag hp1 htl) htl) (Nat.le_refl _) htb) (by simp) (by omega) (Nat.le_refl _) (rb_len htl) (by omega)) ?_) AllReadyH.nil)
  rintro e w11 ⟨g4, rfl, hg4, hgg, bx⟩
  have lp1_g4 : p1 < g4 := Nat.lt_of_lt_of_le hp1.lt hgg
  have lg2_g4 : g2 < g4 := Nat.lt_of_lt_of_le hg2.lt hgg
  have lq2_g4 : q2 < g4 := Nat.lt_of_lt_of_le hq2.lt hgg
  have lq3_g4 : q3 < g4 := Nat.lt_of_lt_of_le hq3.lt hgg
  have lw_g4 : B0 ≤ g4 := Nat.le_trans (Nat.le_trans hB0 hW.size) hgg
  replace hp1 := hp1.below bx hp1.lt
  replace hg2 := hg2.below bx hg2.lt
  replace hq2 := hq2.below bx hq2.lt
  replace hq3 := hq3.below bx hq3.lt
  replace hW := hW.trans (bx.mono (Nat.le_trans hB0 hW.size))
  clear hgg
  clear bx
  refine ⟨_, rfl, hK.out _ _ ⟨hp1, hW⟩ (fun _ => ?_)⟩
  clear hK K
  simp only [ls0, ls1]
  refine takeH 1 10 2 (.slice (some ⟨g4, 0, none⟩) 45 45) rfl rfl (by kernel_rfl) (by kernel_rfl) (by kernel_rfl) (fun _ _ _ h => h) (Or.inl ⟨by rfl, fun w _ => by go_simp⟩) ⟨hp1, hW⟩ ?_
  simp only [ls0, ls1]
  refine takeH 0 11 3 (.int .i64 0) rfl rfl (by kernel_rfl) (by kernel_rfl) (by kernel_rfl) (fun _ _ _ h => h) (Or.inl ⟨by rfl, fun w _ => by go_simp⟩) ⟨hp1, hW⟩ ?_
  simp only [ls0, ls1]
  refine wpAnyH_done (by kernel_rfl) ?_ _
  go_wp2_with fail
  go_ret2
  exact ⟨_, rfl, hg4, lw_g4, hW⟩
set_option maxRecDepth 8000 in
set_option maxHeartbeats 4000000 in
theorem rread_ok (b n : Nat) (z : Int) (hz : z = (n : Int)) (w : World) :
  Calls Tryd.prog 34 #[.slice (some ⟨b, 0, none⟩) n n, .int .i64 z] w fun e w' => ∃ g, e = .returned (.tuple #[.func (.func 69) #[.pointer (some ⟨g, 0, none⟩)] #[], .int .i64 0]) ∧ Blk w' g 138 #[.slice (some ⟨b, 0, none⟩) n n] ∧ w.heap.size ≤ g ∧ Below w.heap.size w w' := by
 subst hz
 obtain ⟨B0, hB0e⟩ : ∃ b, w.heap.size = b := ⟨_, rfl⟩
 rw [hB0e]
 have hW : Below B0 w w := by rw [← hB0e]; exact Below.refl _ _
 have hB0 : B0 ≤ w.heap.size := by omega
 have hB0q := Lib.hid hB0e
 clear hB0e
 go_enter Tryd.func34, Tryd.ntmps34
 go_upto_region 0 with fail
 refine wl_lit ?_
 refine runL 4 (.nilFunc) rfl (by rfl) (by go_simp) ?_
 simp only [ls0, ls1]
 refine runL 5 (.int .i64 0) rfl (by rfl) (by go_simp) ?_
 simp only [ls0, ls1]
 refine nilL ?_
 go_upto_region 1 with fail
 refine wl_lit ?_
 refine runL 8 (.slice (some ⟨b, 0, none⟩) n n) rfl (by rfl) (by go_simp) ?_
 simp only [ls0, ls1]
 refine runL 9 (.int .i64 (n)) rfl (by rfl) (by go_simp) ?_
 simp only [ls0, ls1]
 refine runL 10 (.int .i64 (n : Int)) rfl (by rfl) (by go_simp) ?_
 simp only [ls0, ls1]
 refine runL 11 (.bool false) rfl (by rfl) (by go_simp) ?_
 simp only [ls0, ls1]
 refine runL 7 (.bool false) rfl (by rfl) (by go_simp) ?_
 simp only [ls0, ls1]
 refine nilL ?_
 go_upto_region 3 with fail
 refine wl_lit ?_
 refine runL 13 (.slice (some ⟨b, 0, none⟩) n n) rfl (by rfl) (by go_simp) ?_
 simp only [ls0, ls1]
 refine runL 14 (.int .i64 (n)) rfl (by rfl) (by go_simp) ?_
 simp only [ls0, ls1]
 refine runL 15 (.int .i64 (n : Int)) rfl (by rfl) (by go_simp) ?_
 simp only [ls0, ls1]
 refine runL 16 (.bool false) rfl (by rfl) (by go_simp) ?_
 simp only [ls0, ls1]
 refine runL 12 (.bool false) rfl (by rfl) (by go_simp) ?_
 simp only [ls0, ls1]
 refine nilL ?_
 go_upto_region 5 with fail
 refine wl_lit ?_
 refine runL 17 (.slice (some ⟨b, 0, none⟩) n n) rfl (by rfl) (by go_simp) ?_
 simp only [ls0, ls1]
 refine runL 18 (.agg (#[.slice (some ⟨b, 0, none⟩) n n])) rfl (by rfl) (exec_build 138 _ rfl (#[.slice (some ⟨b, 0, none⟩) n n]) (by kernel_rfl)) ?_
 simp only [ls0, ls1]
 refine runWL 6 (.pointer (some ⟨w.heap.size, 0, none⟩)) (w.alloc (.cells (#[.slice none 0 0]) 138)) rfl (by rfl) (exec_allocV 138 rfl _ (zv_reader _)) ?_
 simp only [ls0, ls1]
 have lw_p6 := Nat.le_trans hB0 hW.size
 have hp6 : Blk (w.alloc (.cells (#[.slice none 0 0]) 138)) w.heap.size 138 (#[.slice none 0 0]) := Blk.new _ _ _
 replace hW := hW.alloc (Nat.le_trans hB0 hW.size) (.cells (#[.slice none 0 0]) 138)
 generalize w.alloc (.cells (#[.slice none 0 0]) 138) = w1 at *
 generalize w.heap.size = p6 at hp6 lw_p6  ⊢
 refine runSL (w1.setRow p6 (#[.slice (some ⟨b, 0, none⟩) n n])) rfl (by rfl) (exec_storeRow 138 (.tmp 6) (.tmp 18) rfl p6 rfl (#[.slice (some ⟨b, 0, none⟩) n n]) rfl 138 (#[.slice none 0 0]) hp6 (sz_eq (reader_sz _) (reader_sz _)) (reader_sz _) (by simp [Value.oneCell'])) ?_
 replace hp6 := hp6.row (#[.slice (some ⟨b, 0, none⟩) n n])
 replace hW := below_setRow hW lw_p6 (#[.slice (some ⟨b, 0, none⟩) n n])
 generalize w1.setRow p6 (#[.slice (some ⟨b, 0, none⟩) n n]) = w2 at *
 refine nilL ?_
 go_upto_region 6 with fail
 refine wl_lit ?_
 refine runL 19 (.func (.func 69) #[.pointer (some ⟨p6, 0, none⟩)] #[]) rfl (by rfl) (exec_makeFuncF _ _ _ rfl _ _ rfl rfl) ?_
 simp only [ls0, ls1]
 refine runL 4 (.func (.func 69) #[.pointer (some ⟨p6, 0, none⟩)] #[]) rfl (by rfl) (by go_simp) ?_
 simp only [ls0, ls1]
 refine runL 5 (.int .i64 0) rfl (by rfl) (by go_simp) ?_
 simp only [ls0, ls1]
 refine nilL ?_
 go_wp2_with fail
 go_ret2
 exact ⟨_, rfl, hp6, lw_p6, hW⟩
set_option maxRecDepth 8000 in
set_option maxHeartbeats 4000000 in
theorem rnext_any (g b o n c m o2 n2 c2 : Nat) (hm : m < n) (hnc : n ≤ c) (ho : o + m = o2) (hn2 : n - m = n2) (hc2 : c - m = c2) (w : World) (hg : Blk w g 138 #[.slice (some ⟨b, o, none⟩) n c]) :
  Calls Tryd.prog 69 #[.pointer (some ⟨g, 0, none⟩), .int .i64 (m : Int)] w fun e w' => e = .returned (.slice (some ⟨b, o, none⟩) m c) ∧ w' = w.setCell ⟨g, 0, none⟩ (.slice (some ⟨b, o2, none⟩) n2 c2) := by
 have h1 : ¬ c = m := by omega
 have h2 : (m : Int) ≤ (c : Int) := by omega
 have h3 : (m : Int) ≤ (n : Int) := by omega
 have h4 : (n : Int) ≤ (c : Int) := by omega
 have h5 : ¬ (m : Int) < 0 := by omega
 have h6 : (0 : Int) ≤ (m : Int) := by omega
 have h7 : ((m : Int)).toNat = m := by omega
 have h8 : m ≤ c := by omega
 have h9 : m ≤ n := by omega
 have hW : Below 0 w w := Below.refl _ _
 have lw_g : 0 ≤ g := Nat.zero_le _
 go_enter Tryd.func69, Tryd.ntmps69
 go_upto_region 0 with fail
 refine wl_lit ?_
 refine runL 4 (.slice none 0 0) rfl (by rfl) (by go_simp) ?_
 simp only [ls0, ls1]
 refine nilL ?_
 go_upto_region 1 with fail
 refine wl_lit ?_
 refine runL 6 (.pointer (some ⟨g, 0, none⟩)) rfl (by rfl) (by go_simp) ?_
 simp only [ls0, ls1]
 refine runL 7 (.pointer (some ⟨g, 0, none⟩)) rfl (by rfl) (by go_simp) ?_
 simp only [ls0, ls1]
 refine runL 8 (.pointer (some ⟨g, 0, none⟩)) rfl (by rfl) (by go_simp) ?_
 simp only [ls0, ls1]
 refine runL 9 (.slice (some ⟨b, o, none⟩) n c) rfl (by rfl) (exec_cell 27 (.tmp 8) rfl g 0 rfl (.slice (some ⟨b, o, none⟩) n c) _ Tryd.underlying27 rfl (hg.cellIs 0 rfl)) ?_
 simp only [ls0, ls1]
 refine runL 10 (.int .i64 (m : Int)) rfl (by rfl) (by go_simp) ?_
 simp only [ls0, ls1]
 refine runL 11 (.slice (some ⟨b, o, none⟩) m c) rfl (by rfl) (by go_simp) ?_
 simp only [ls0, ls1]
 refine runL 5 (.slice (some ⟨b, o, none⟩) m c) rfl (by rfl) (by go_simp) ?_
 simp only [ls0, ls1]
 refine nilL ?_
 go_upto_region 2 with fail
 refine wl_lit ?_
 refine runL 12 (.pointer (some ⟨g, 0, none⟩)) rfl (by rfl) (by go_simp) ?_
 simp only [ls0, ls1]
 refine runL 13 (.pointer (some ⟨g, 0, none⟩)) rfl (by rfl) (by go_simp) ?_
 simp only [ls0, ls1]
 refine runL 14 (.pointer (some ⟨g, 0, none⟩)) rfl (by rfl) (by go_simp) ?_
 simp only [ls0, ls1]
 refine runL 15 (.pointer (some ⟨g, 0, none⟩)) rfl (by rfl) (by go_simp) ?_
 simp only [ls0, ls1]
 refine runL 16 (.slice (some ⟨b, o, none⟩) n c) rfl (by rfl) (exec_cell 27 (.tmp 15) rfl g 0 rfl (.slice (some ⟨b, o, none⟩) n c) _ Tryd.underlying27 rfl (hg.cellIs 0 rfl)) ?_
 simp only [ls0, ls1]
 refine runL 17 (.int .i64 (m : Int)) rfl (by rfl) (by go_simp) ?_
 simp only [ls0, ls1]
 refine runL 18 (.slice (some ⟨b, o2, none⟩) n2 c2) rfl (by rfl) (by rw [← ho, ← hn2, ← hc2]; go_simp) ?_
 simp only [ls0, ls1]
 refine runL 19 (.pointer (some ⟨g, 0, none⟩)) rfl (by rfl) (by go_simp) ?_
 simp only [ls0, ls1]
 refine runL 20 (.pointer (some ⟨g, 0, none⟩)) rfl (by rfl) (by go_simp) ?_
 simp only [ls0, ls1]
 refine runSL (w.setCell ⟨g, 0, none⟩ (.slice (some ⟨b, o2, none⟩) n2 c2)) rfl (by rfl) (exec_storeCell 27 (.tmp 20) (.tmp 18) rfl g 0 rfl (.slice (some ⟨b, o2, none⟩) n2 c2) rfl rfl rfl 138 (#[.slice (some ⟨b, o, none⟩) n c]) hg (show 0 < 1 by decide) (by kernel_rfl)) ?_
 replace hg : Blk (w.setCell ⟨g, 0, none⟩ (.slice (some ⟨b, o2, none⟩) n2 c2)) g 138 (#[.slice (some ⟨b, o2, none⟩) n2 c2]) := hg.set_ 0 (.slice (some ⟨b, o2, none⟩) n2 c2)
 replace hW := hW.setCell (p := ⟨g, 0, none⟩) lw_g (.slice (some ⟨b, o2, none⟩) n2 c2)
 refine nilL ?_
 go_upto_region 3 with fail
 refine wl_lit ?_
 refine runL 21 (.slice (some ⟨b, o, none⟩) m c) rfl (by rfl) (by go_simp) ?_
 simp only [ls0, ls1]
 refine runL 4 (.slice (some ⟨b, o, none⟩) m c) rfl (by rfl) (by go_simp) ?_
 simp only [ls0, ls1]
 refine nilL ?_
 go_wp2_with fail
 go_ret
 exact ⟨rfl, rfl⟩
set_option maxRecDepth 8000 in
set_option maxHeartbeats 4000000 in
theorem rnext_last (g b o n : Nat) (hn : 0 < n) (w : World) (hg : Blk w g 138 #[.slice (some ⟨b, o, none⟩) n n]) :
  Calls Tryd.prog 69 #[.pointer (some ⟨g, 0, none⟩), .int .i64 (n : Int)] w fun e w' => e = .returned (.slice (some ⟨b, o, none⟩) n n) ∧ w' = w.setCell ⟨g, 0, none⟩ (.slice (some ⟨b, o, none⟩) 0 0) := by
 have h5 : ¬ (n : Int) < 0 := by omega
 have h6 : (0 : Int) ≤ (n : Int) := by omega
 have h7 : ((n : Int)).toNat = n := by omega
 have hW : Below 0 w w := Below.refl _ _
 have lw_g : 0 ≤ g := Nat.zero_le _
 go_enter Tryd.func69, Tryd.ntmps69
 go_upto_region 0 with fail
 refine wl_lit ?_
 refine runL 4 (.slice none 0 0) rfl (by rfl) (by go_simp) ?_
 simp only [ls0, ls1]
 refine nilL ?_
 go_upto_region 1 with fail
 refine wl_lit ?_
 refine runL 6 (.pointer (some ⟨g, 0, none⟩)) rfl (by rfl) (by go_simp) ?_
 simp only [ls0, ls1]
 refine runL 7 (.pointer (some ⟨g, 0, none⟩)) rfl (by rfl) (by go_simp) ?_
 simp only [ls0, ls1]
 refine runL 8 (.pointer (some ⟨g, 0, none⟩)) rfl (by rfl) (by go_simp) ?_
 simp only [ls0, ls1]
 refine runL 9 (.slice (some ⟨b, o, none⟩) n n) rfl (by rfl) (exec_cell 27 (.tmp 8) rfl g 0 rfl (.slice (some ⟨b, o, none⟩) n n) _ Tryd.underlying27 rfl (hg.cellIs 0 rfl)) ?_
 simp only [ls0, ls1]
 refine runL 10 (.int .i64 (n : Int)) rfl (by rfl) (by go_simp) ?_
 simp only [ls0, ls1]
 refine runL 11 (.slice (some ⟨b, o, none⟩) n n) rfl (by rfl) (by go_simp) ?_
 simp only [ls0, ls1]
 refine runL 5 (.slice (some ⟨b, o, none⟩) n n) rfl (by rfl) (by go_simp) ?_
 simp only [ls0, ls1]
 refine nilL ?_
 go_upto_region 2 with fail
 refine wl_lit ?_
 refine runL 12 (.pointer (some ⟨g, 0, none⟩)) rfl (by rfl) (by go_simp) ?_
 simp only [ls0, ls1]
 refine runL 13 (.pointer (some ⟨g, 0, none⟩)) rfl (by rfl) (by go_simp) ?_
 simp only [ls0, ls1]
 refine runL 14 (.pointer (some ⟨g, 0, none⟩)) rfl (by rfl) (by go_simp) ?_
 simp only [ls0, ls1]
 refine runL 15 (.pointer (some ⟨g, 0, none⟩)) rfl (by rfl) (by go_simp) ?_
 simp only [ls0, ls1]
 refine runL 16 (.slice (some ⟨b, o, none⟩) n n) rfl (by rfl) (exec_cell 27 (.tmp 15) rfl g 0 rfl (.slice (some ⟨b, o, none⟩) n n) _ Tryd.underlying27 rfl (hg.cellIs 0 rfl)) ?_
 simp only [ls0, ls1]
 refine runL 17 (.int .i64 (n : Int)) rfl (by rfl) (by go_simp) ?_
 simp only [ls0, ls1]
 refine runL 18 (.slice (some ⟨b, o, none⟩) 0 0) rfl (by rfl) (by go_simp) ?_
 simp only [ls0, ls1]
 refine runL 19 (.pointer (some ⟨g, 0, none⟩)) rfl (by rfl) (by go_simp) ?_
 simp only [ls0, ls1]
 refine runL 20 (.pointer (some ⟨g, 0, none⟩)) rfl (by rfl) (by go_simp) ?_
 simp only [ls0, ls1]
 refine runSL (w.setCell ⟨g, 0, none⟩ (.slice (some ⟨b, o, none⟩) 0 0)) rfl (by rfl) (exec_storeCell 27 (.tmp 20) (.tmp 18) rfl g 0 rfl (.slice (some ⟨b, o, none⟩) 0 0) rfl rfl rfl 138 (#[.slice (some ⟨b, o, none⟩) n n]) hg (show 0 < 1 by decide) (by kernel_rfl)) ?_
 replace hg : Blk (w.setCell ⟨g, 0, none⟩ (.slice (some ⟨b, o, none⟩) 0 0)) g 138 (#[.slice (some ⟨b, o, none⟩) 0 0]) := hg.set_ 0 (.slice (some ⟨b, o, none⟩) 0 0)
 replace hW := hW.setCell (p := ⟨g, 0, none⟩) lw_g (.slice (some ⟨b, o, none⟩) 0 0)
 refine nilL ?_
 go_upto_region 3 with fail
 refine wl_lit ?_
 refine runL 21 (.slice (some ⟨b, o, none⟩) n n) rfl (by rfl) (by go_simp) ?_
 simp only [ls0, ls1]
 refine runL 4 (.slice (some ⟨b, o, none⟩) n n) rfl (by rfl) (by go_simp) ?_
 simp only [ls0, ls1]
 refine nilL ?_
 go_wp2_with fail
 go_ret
 exact ⟨rfl, rfl⟩
end Go.Proofs.YtcdgcaljlmondaaDoor
