/-
  A region that draws, taken by hand under a condition that holds throughout: loads of rows, values, calls.
-/
import Derived.Test.YtcdmbknmmnaocaaDoorStep
import Derived.Deep.RegionHeld3
namespace Go.Proofs.YtcdmbknmmnaocaaDoor
open Go.RowKit
section
variable {P : Program} {ops : Array Oper} {Q : Exit → Act → World → Prop} {S : World → Prop} {fuel : Nat} {listed : Array Bool} {a : Act} {w : World}
theorem yieldsIf_load_blk {op : Oper} (hw : Region.wanted op (yielded ops a.tmps) = true) (ty : TypeId) (x : Operand) (ho : op.op = .load ty x)
    (g : Nat) (hx : a.eval x = .pointer (some ⟨g, 0, none⟩)) (t : TypeId) (cs : Array Value) (d : TypeDesc) (hS : ∀ w, S w → Blk w g t cs)
    (hu : P.underlying ty = some d) (hd : (match d with | .struct _ | .array _ _ => true | _ => false) = true) (hi : (P.info? ty).map (·.size) = some cs.size) : YieldsIf P ops S op (.agg cs) a :=
  .inl ⟨hw, fun w hw' => by
    unfold execOp
    simp only [ho, hx, Instr.loadAt, Instr.sureAddr, Sem.run_bind, Sem.run_pure, Result.andThen_ok, run_loadVar_row w g t ty cs (0, 0) d (hS w hw') hu hd hi]⟩
theorem yieldsIf_conv {op : Oper} (hw : Region.wanted op (yielded ops a.tmps) = true) (src dst : TypeId) (x : Operand) (ho : op.op = .convert src dst x) (v u : Value) (hx : a.eval x = v)
    (hS : ∀ w, S w → (convert src dst v).run P w = .ok u w) : YieldsIf P ops S op u a :=
  .inl ⟨hw, fun w hw' => by
    unfold execOp
    simp only [ho, hx, Sem.run_bind, hS w hw', Result.andThen_ok, Sem.run_pure]⟩
end
section
variable {P : Program} {l : List Oper} {Q : Exit → Act → World → Prop} {S : World → Prop} {fuel : Nat} {listed : Array Bool} {ts : List Value} {df : List Deferred} {w : World} {md : Region.Mode}
theorem drop_get {o : Oper} {r : List Oper} {i : Nat} (h : l.drop i = o :: r) : l.toArray[i]? = some o := by
  have e : (l.drop i)[0]? = some o := by rw [h]; rfl
  rw [List.getElem?_drop] at e
  simpa using e
/-- an operation that yields, taken -/
theorem takeH (fuel i d : Nat) (v : Value) {o : Oper} {r : List Oper} (hi : l.drop i = o :: r) (hdst : o.dst = some d) (hs : Region.noSelect l.toArray = true) (hf : Region.free md l.toArray listed i = true)
    (hr : (Region.ready md l.toArray listed).contains i = true) (hQ : ∀ c a w, Q (.panic c) (a.put o.dst v) w → Q (.panic c) a w)
    (hy : YieldsIf P l.toArray S o v ⟨ts.toArray, df⟩) (hS : S w)
    (h : wpAnyH P md l.toArray Q S fuel (listed.setIfInBounds i true) ⟨(ts.set d v).toArray, df⟩ w) : wpAnyH P md l.toArray Q S (fuel + 1) listed ⟨ts.toArray, df⟩ w := by
  refine wpAnyH_take (drop_get hi) hs hf hr hQ hy hS ?_
  rw [hdst]
  simpa [Act.put] using h
/-- an operation that is carried out -/
theorem callH (fuel i d : Nat) {o : Oper} {r : List Oper} (hi : l.drop i = o :: r) (hdst : o.dst = some d) (hw : Region.wanted o (yielded l.toArray ts.toArray) = true) (hr : Region.ready md l.toArray listed = [i])
    (h : ∀ K : Act → World → Prop, Shut (∀ v w, S w → (S w → wpAnyH P md l.toArray Q S fuel (listed.setIfInBounds i true) ⟨(ts.set d v).toArray, df⟩ w) → K (Act.put ⟨ts.toArray, df⟩ o.dst v) w) → Oper.wp P o ⟨ts.toArray, df⟩ w K Q) :
    wpAnyH P md l.toArray Q S (fuel + 1) listed ⟨ts.toArray, df⟩ w := by
  refine wpAnyH_ready hr (by simp) (AllReadyH.cons (drop_get hi) (fun K hK => ?_) AllReadyH.nil)
  rw [if_pos hw]
  refine h K fun v w' hS hn => ?_
  refine hK.out _ _ hS fun hS => ?_
  have := hn hS
  rw [hdst]
  simpa [Act.put] using this
/-- a whole row is stored -/
theorem storeH (fuel i : Nat) {o : Oper} {r : List Oper} (hi : l.drop i = o :: r) (hdst : o.dst = none) (hw : Region.wanted o (yielded l.toArray ts.toArray) = true) (hr : Region.ready md l.toArray listed = [i])
    (ty : TypeId) (x y : Operand) (ho : o.op = .store ty x y) (g : Nat) (hx : Act.eval ⟨ts.toArray, df⟩ x = .pointer (some ⟨g, 0, none⟩)) (c : Array Value) (hy : Act.eval ⟨ts.toArray, df⟩ y = .agg c) (t : TypeId) (old : Array Value) (hb : Blk w g t old) (hs : old.size = c.size)
    (hin : (P.info? ty).map (·.size) = some c.size) (h1 : ∀ v ∈ c.toList, v.oneCell' = true) (hS : S (w.setRow g c))
    (h : S (w.setRow g c) → wpAnyH P md l.toArray Q S fuel (listed.setIfInBounds i true) ⟨ts.toArray, df⟩ (w.setRow g c)) :
    wpAnyH P md l.toArray Q S (fuel + 1) listed ⟨ts.toArray, df⟩ w := by
  refine wpAnyH_ready hr (by simp) (AllReadyH.cons (drop_get hi) (fun K hK => ?_) AllReadyH.nil)
  rw [if_pos hw]
  unfold Oper.wp execOp
  simp only [ho, hx, hy, Instr.storeAt, Instr.sureAddr, Sem.run_bind, Sem.run_pure, Result.andThen_ok, run_storeVar_row hb c hs hin h1]
  refine hK.out _ _ hS fun hS => ?_
  rw [hdst]
  exact h hS
/-- an operation that yields in the world at hand, when it alone may come up -/
theorem stepH (fuel i d : Nat) (v : Value) {o : Oper} {r : List Oper} (hi : l.drop i = o :: r) (hdst : o.dst = some d) (hw : Region.wanted o (yielded l.toArray ts.toArray) = true) (hr : Region.ready md l.toArray listed = [i])
    (hrun : (execOp (Act.eval ⟨ts.toArray, df⟩) o).run P w = .ok (.value v) w) (hS : S w)
    (h : wpAnyH P md l.toArray Q S fuel (listed.setIfInBounds i true) ⟨(ts.set d v).toArray, df⟩ w) :
    wpAnyH P md l.toArray Q S (fuel + 1) listed ⟨ts.toArray, df⟩ w := by
  refine wpAnyH_ready hr (by simp) (AllReadyH.cons (drop_get hi) (fun K hK => ?_) AllReadyH.nil)
  rw [if_pos hw]
  unfold Oper.wp
  rw [hrun]
  refine hK.out _ _ hS fun _ => ?_
  rw [hdst]
  simpa [Act.put] using h
theorem exec_conv {op : Oper} {a : Act} {w : World} (src dst : TypeId) (x : Operand) (ho : op.op = .convert src dst x) (v u : Value) (hx : a.eval x = v) (hc : (convert src dst v).run P w = .ok u w) : (execOp a.eval op).run P w = .ok (.value u) w := by
  unfold execOp
  simp only [ho, hx, Sem.run_bind, hc, Result.andThen_ok, Sem.run_pure]
/-! a region in order, taken by hand -/
theorem runP {o : Oper} {rest : List Oper} {ops : Array Oper} (d : Nat) (v : Value) (hdst : o.dst = some d) (hw : Region.wanted o (yielded ops ts.toArray) = true)
    (hrun : (execOp (Act.eval ⟨ts.toArray, df⟩) o).run P w = .ok (.value v) w)
    (h : wpList P ops Q rest ⟨(ts.set d v).toArray, df⟩ w) : wpList P ops Q (o :: rest) ⟨ts.toArray, df⟩ w := by
  refine wpList_step fun K hK => ?_
  rw [if_pos hw]
  unfold Oper.wp
  rw [hrun]
  refine hK _ _ ?_
  rw [hdst]
  simpa [Act.put] using h
theorem callP {o : Oper} {rest : List Oper} {ops : Array Oper} (d : Nat) (hdst : o.dst = some d) (hw : Region.wanted o (yielded ops ts.toArray) = true)
    (h : ∀ K : Act → World → Prop, Shut (∀ v w, wpList P ops Q rest ⟨(ts.set d v).toArray, df⟩ w → K (Act.put ⟨ts.toArray, df⟩ o.dst v) w) → Oper.wp P o ⟨ts.toArray, df⟩ w K Q) :
    wpList P ops Q (o :: rest) ⟨ts.toArray, df⟩ w := by
  refine wpList_step fun K hK => ?_
  rw [if_pos hw]
  refine h K fun v w' hn => hK _ _ ?_
  rw [hdst]
  simpa [Act.put] using hn
theorem exec_row {op : Oper} {a : Act} {w : World} (ty : TypeId) (x : Operand) (ho : op.op = .load ty x) (g : Nat) (hx : a.eval x = .pointer (some ⟨g, 0, none⟩)) (t : TypeId) (cs : Array Value) (d : TypeDesc) (hg : Blk w g t cs)
    (hu : P.underlying ty = some d) (hd : (match d with | .struct _ | .array _ _ => true | _ => false) = true) (hi : (P.info? ty).map (·.size) = some cs.size) : (execOp a.eval op).run P w = .ok (.value (.agg cs)) w := by
  unfold execOp
  simp only [ho, hx, Instr.loadAt, Instr.sureAddr, Sem.run_bind, Sem.run_pure, Result.andThen_ok, run_loadVar_row w g t ty cs (0, 0) d hg hu hd hi]
theorem exec_build {op : Oper} {a : Act} {w : World} (t : TypeId) (pl : List (Nat × Operand)) (ho : op.op = .build t pl.toArray) (cs : Array Value) (hb : P.built t (pl.map fun x => (x.1, a.eval x.2)) = some cs) :
    (execOp a.eval op).run P w = .ok (.value (.agg cs)) w := by
  have hb2 : P.built t (pl.toArray.map fun (i, x) => (i, a.eval x)).toList = some cs := by
    rw [← hb]; simp
  unfold execOp
  simp only [ho, Sem.run_bind, run_build w t _ cs hb2, Result.andThen_ok, Sem.run_pure]
theorem exec_alloc {op : Oper} {a : Act} {w : World} (ty : TypeId) (ho : op.op = .alloc ty) (z : Array Value) (hz : (zeroValue ty).run P w = .ok (.agg z) w) :
    (execOp a.eval op).run P w = .ok (.value (.pointer (some ⟨w.heap.size, 0, none⟩))) (w.alloc (.cells z ty)) := by
  unfold execOp
  simp only [ho]
  simp [Instr.alloc, hz, newVar, newRow, Value.cells]
theorem allocP {o : Oper} {rest : List Oper} {ops : Array Oper} (d : Nat) (ty : TypeId) (ho : o.op = .alloc ty) (z : Array Value) (hz : (zeroValue ty).run P w = .ok (.agg z) w) (hdst : o.dst = some d) (hw : Region.wanted o (yielded ops ts.toArray) = true)
    (h : wpList P ops Q rest ⟨(ts.set d (.pointer (some ⟨w.heap.size, 0, none⟩))).toArray, df⟩ (w.alloc (.cells z ty))) : wpList P ops Q (o :: rest) ⟨ts.toArray, df⟩ w := by
  refine wpList_step fun K hK => ?_
  rw [if_pos hw]
  unfold Oper.wp
  rw [exec_alloc ty ho z hz]
  refine hK _ _ ?_
  rw [hdst]
  simpa [Act.put] using h
theorem storeP {o : Oper} {rest : List Oper} {ops : Array Oper} (hdst : o.dst = none) (hw : Region.wanted o (yielded ops ts.toArray) = true)
    (ty : TypeId) (x y : Operand) (ho : o.op = .store ty x y) (g : Nat) (hx : Act.eval ⟨ts.toArray, df⟩ x = .pointer (some ⟨g, 0, none⟩)) (c : Array Value) (hy : Act.eval ⟨ts.toArray, df⟩ y = .agg c) (t : TypeId) (old : Array Value) (hb : Blk w g t old) (hs : old.size = c.size)
    (hin : (P.info? ty).map (·.size) = some c.size) (h1 : ∀ v ∈ c.toList, v.oneCell' = true) (h : wpList P ops Q rest ⟨ts.toArray, df⟩ (w.setRow g c)) : wpList P ops Q (o :: rest) ⟨ts.toArray, df⟩ w := by
  refine wpList_step fun K hK => ?_
  rw [if_pos hw]
  unfold Oper.wp execOp
  simp only [ho, hx, hy, Instr.storeAt, Instr.sureAddr, Sem.run_bind, Sem.run_pure, Result.andThen_ok, run_storeVar_row hb c hs hin h1]
  refine hK _ _ ?_
  rw [hdst]
  exact h
theorem runW {o : Oper} {rest : List Oper} {ops : Array Oper} (d : Nat) (v : Value) (w2 : World) (hdst : o.dst = some d) (hw : Region.wanted o (yielded ops ts.toArray) = true)
    (hrun : (execOp (Act.eval ⟨ts.toArray, df⟩) o).run P w = .ok (.value v) w2)
    (h : wpList P ops Q rest ⟨(ts.set d v).toArray, df⟩ w2) : wpList P ops Q (o :: rest) ⟨ts.toArray, df⟩ w := by
  refine wpList_step fun K hK => ?_
  rw [if_pos hw]
  unfold Oper.wp
  rw [hrun]
  refine hK _ _ ?_
  rw [hdst]
  simpa [Act.put] using h
theorem runS {o : Oper} {rest : List Oper} {ops : Array Oper} (w2 : World) (hdst : o.dst = none) (hw : Region.wanted o (yielded ops ts.toArray) = true)
    (hrun : (execOp (Act.eval ⟨ts.toArray, df⟩) o).run P w = .ok .skip w2)
    (h : wpList P ops Q rest ⟨ts.toArray, df⟩ w2) : wpList P ops Q (o :: rest) ⟨ts.toArray, df⟩ w := by
  refine wpList_step fun K hK => ?_
  rw [if_pos hw]
  unfold Oper.wp
  rw [hrun]
  refine hK _ _ ?_
  rw [hdst]
  exact h
/-- a call of a Go function, met by its contract -/
theorem wp_callF {o : Oper} {a : Act} {w : World} {K : Act → World → Prop} {Q : Exit → Act → World → Prop} (f : FuncId) (vals : Array Value) {R : Ending → World → Prop} (hrun : (execOp a.eval o).run P w = .ok (.enter f vals) w) (hc : Calls P f vals w R)
    (h : ∀ e w', R e w' → ∃ v, e = .returned v ∧ K (a.put o.dst v) w') : Oper.wp P o a w K Q := by
  unfold Oper.wp
  rw [hrun]
  exact hc.mono fun e w' hR => by
    obtain ⟨v, rfl, hk⟩ := h e w' hR
    exact hk
/-! several operations may come up -/
theorem readyCons (fuel i d : Nat) {o : Oper} {r : List Oper} {rs : List Nat} (hi : l.drop i = o :: r) (hdst : o.dst = some d) (hw : Region.wanted o (yielded l.toArray ts.toArray) = true)
    (h : ∀ K : Act → World → Prop, Shut (∀ v w, S w → (S w → wpAnyH P md l.toArray Q S fuel (listed.setIfInBounds i true) ⟨(ts.set d v).toArray, df⟩ w) → K (Act.put ⟨ts.toArray, df⟩ o.dst v) w) → Oper.wp P o ⟨ts.toArray, df⟩ w K Q)
    (hs : AllReadyH P md l.toArray Q S fuel listed ⟨ts.toArray, df⟩ w rs) : AllReadyH P md l.toArray Q S fuel listed ⟨ts.toArray, df⟩ w (i :: rs) := by
  refine AllReadyH.cons (drop_get hi) (fun K hK => ?_) hs
  rw [if_pos hw]
  refine h K fun v w' hS hn => ?_
  refine hK.out _ _ hS fun hS => ?_
  have := hn hS
  rw [hdst]
  simpa [Act.put] using this
theorem readyAlloc (fuel i d : Nat) {o : Oper} {r : List Oper} {rs : List Nat} (hi : l.drop i = o :: r) (hdst : o.dst = some d) (hw : Region.wanted o (yielded l.toArray ts.toArray) = true)
    (ty : TypeId) (ho : o.op = .alloc ty) (z : Array Value) (hz : (zeroValue ty).run P w = .ok (.agg z) w) (hS : S (w.alloc (.cells z ty)))
    (h : S (w.alloc (.cells z ty)) → wpAnyH P md l.toArray Q S fuel (listed.setIfInBounds i true) ⟨(ts.set d (.pointer (some ⟨w.heap.size, 0, none⟩))).toArray, df⟩ (w.alloc (.cells z ty)))
    (hs : AllReadyH P md l.toArray Q S fuel listed ⟨ts.toArray, df⟩ w rs) : AllReadyH P md l.toArray Q S fuel listed ⟨ts.toArray, df⟩ w (i :: rs) := by
  refine AllReadyH.cons (drop_get hi) (fun K hK => ?_) hs
  rw [if_pos hw]
  unfold Oper.wp
  rw [exec_alloc ty ho z hz]
  refine hK.out _ _ hS fun hS => ?_
  rw [hdst]
  simpa [Act.put] using h hS
theorem readyStore (fuel i : Nat) {o : Oper} {r : List Oper} {rs : List Nat} (hi : l.drop i = o :: r) (hdst : o.dst = none) (hw : Region.wanted o (yielded l.toArray ts.toArray) = true)
    (ty : TypeId) (x y : Operand) (ho : o.op = .store ty x y) (g : Nat) (hx : Act.eval ⟨ts.toArray, df⟩ x = .pointer (some ⟨g, 0, none⟩)) (c : Array Value) (hy : Act.eval ⟨ts.toArray, df⟩ y = .agg c) (t : TypeId) (old : Array Value) (hb : Blk w g t old) (hsz : old.size = c.size)
    (hin : (P.info? ty).map (·.size) = some c.size) (h1 : ∀ v ∈ c.toList, v.oneCell' = true) (hS : S (w.setRow g c))
    (h : S (w.setRow g c) → wpAnyH P md l.toArray Q S fuel (listed.setIfInBounds i true) ⟨ts.toArray, df⟩ (w.setRow g c))
    (hs : AllReadyH P md l.toArray Q S fuel listed ⟨ts.toArray, df⟩ w rs) : AllReadyH P md l.toArray Q S fuel listed ⟨ts.toArray, df⟩ w (i :: rs) := by
  refine AllReadyH.cons (drop_get hi) (fun K hK => ?_) hs
  rw [if_pos hw]
  unfold Oper.wp execOp
  simp only [ho, hx, hy, Instr.storeAt, Instr.sureAddr, Sem.run_bind, Sem.run_pure, Result.andThen_ok, run_storeVar_row hb c hsz hin h1]
  refine hK.out _ _ hS fun hS => ?_
  rw [hdst]
  exact h hS
theorem readyRun (fuel i d : Nat) (v : Value) (w2 : World) {o : Oper} {r : List Oper} {rs : List Nat} (hi : l.drop i = o :: r) (hdst : o.dst = some d) (hw : Region.wanted o (yielded l.toArray ts.toArray) = true)
    (hrun : (execOp (Act.eval ⟨ts.toArray, df⟩) o).run P w = .ok (.value v) w2) (hS : S w2)
    (h : S w2 → wpAnyH P md l.toArray Q S fuel (listed.setIfInBounds i true) ⟨(ts.set d v).toArray, df⟩ w2)
    (hs : AllReadyH P md l.toArray Q S fuel listed ⟨ts.toArray, df⟩ w rs) : AllReadyH P md l.toArray Q S fuel listed ⟨ts.toArray, df⟩ w (i :: rs) := by
  refine AllReadyH.cons (drop_get hi) (fun K hK => ?_) hs
  rw [if_pos hw]
  unfold Oper.wp
  rw [hrun]
  refine hK.out _ _ hS fun hS => ?_
  rw [hdst]
  simpa [Act.put] using h hS
theorem exec_bslice {op : Oper} {a : Act} {w w2 : World} (t : TypeId) (n : Nat) (pl : List (Nat × Operand)) (ho : op.op = .buildSlice t n pl.toArray) (v : Value) (hb : (Instr.buildSlice t n (pl.map fun x => (x.1, a.eval x.2)).toArray).run P w = .ok v w2) :
    (execOp a.eval op).run P w = .ok (.value v) w2 := by
  have hb2 : (Instr.buildSlice t n (pl.toArray.map fun (i, x) => (i, a.eval x))).run P w = .ok v w2 := by
    rw [← hb]; simp
  unfold execOp
  simp only [ho, Sem.run_bind, hb2, Result.andThen_ok, Sem.run_pure]
theorem exec_convW {op : Oper} {a : Act} {w w2 : World} (src dst : TypeId) (x : Operand) (ho : op.op = .convert src dst x) (v u : Value) (hx : a.eval x = v) (hc : (convert src dst v).run P w = .ok u w2) : (execOp a.eval op).run P w = .ok (.value u) w2 := by
  unfold execOp
  simp only [ho, hx, Sem.run_bind, hc, Result.andThen_ok, Sem.run_pure]
end
end Go.Proofs.YtcdmbknmmnaocaaDoor
