/-
  A range over an iterator that never ends by itself and counts in a cell of its own: its contract, and the statement by it.
-/
import Derived.RangeFuncKeeps
import Derived.RangeFuncCalls
import Derived.RangeFuncBound
import Derived.OrdersIn
import Derived.Test.YtcdmbknmmnaocaaDoorHld
namespace Go.Proofs.YtcdmbknmmnaocaaDoor
open Go.RowKit

/-- from lo on no cells turn -/
structure Holds (lo : Nat) (A B : World) : Prop where
  size : A.heap.size ≤ B.heap.size
  cells : ∀ (b : Nat) (o : Obj), lo ≤ b → A.heap[b]? = some o → o.isCells = true → B.heap[b]? = some o
theorem Holds.refl (lo : Nat) (A : World) : Holds lo A A := ⟨Nat.le_refl _, fun _ _ _ h _ => h⟩
theorem Holds.trans {lo : Nat} {A B C : World} (h : Holds lo A B) (k : Holds lo B C) : Holds lo A C :=
  ⟨Nat.le_trans h.size k.size, fun b o hb ho hc => k.cells b o hb (h.cells b o hb ho hc) hc⟩
theorem Holds.put {lo l : Nat} {A : World} {o : Obj} (o' : Obj) (hl : A.heap[l]? = some o) (ho : o.isCells = false) : Holds lo A (A.putObj l o') :=
  ⟨by simp, fun b ob _ hb hc => by
    have hne : b ≠ l := fun e => by subst e; rw [hl] at hb; cases hb; rw [ho] at hc; cases hc
    rw [World.putObj_heap_other hne]; exact hb⟩
theorem Holds.below {lo : Nat} {A B : World} (h : Below A.heap.size A B) : Holds lo A B :=
  ⟨h.size, fun b o _ ho _ => (h.block b (Array.getElem?_eq_some_iff.1 ho).1).trans ho⟩

/-- the contract: it never ends by itself; its k-th value (k < M) goes to the k-th round; it turns no cell but the one at cB -/
def Endless (P : Program) (g : Nat) (lb : Array Value) (enc : Nat → Value) (lo cB M : Nat) (w : World) : Prop :=
  ∀ (n l N : Nat) (J : Nat → World → Prop) (Jx : World → Prop), N ≤ M →
    (∀ k A B, J k A → Below A.heap.size A B → J k B) → (∀ k A v, J k A → J k (A.setCell ⟨cB, 0, none⟩ v)) →
    (∀ k W, J k W → k < N ∧ YieldAt Fence.wide (n - 1) P l #[enc k] W fun e W' =>
      (e = .returned (.bool true) ∧ J (k + 1) W' ∧ Holds lo W W') ∨ (e = .returned (.bool false) ∧ Jx W')) →
    ∀ W, Holds lo w W → J 0 W →
    CallsIn Fence.wide n P g (#[.func (.yield l) #[] #[]] ++ lb) W fun e W' => (∃ v, e = .returned v) ∧ Jx W'

/-- how a round's body is left -/
def endPost (lo : Nat) (I Ix : World → Prop) (W : World) : Exit → Act → World → Prop
  | .normal, _, W' => KeepsOthers W W' ∧ Holds lo W W' ∧ I W'
  | .ret, _, W' => KeepsOthers W W' ∧ Ix W'
  | _, _, _ => False

theorem wp_rangeEndless {P : Program} {n : Nat} {g : Operand} {p : Tmp} {assign body : Code} {Q : Exit → Act → World → Prop} {a : Act} {w : World} {gf : Nat} {lb : Array Value}
    (hg : a.eval g = .func (.func gf) #[] lb) (eg : ∀ args w, (callFunc gf args).run P w = .ok (.enter gf args) w) {enc : Nat → Value} {lo cB M : Nat} (hseq : Endless P gf lb enc lo cB M w)
    (I : Nat → World → Prop) (Ix : World → Prop) (N : Nat) (hNM : N ≤ M) (Ax : Nat → Act → World → Prop)
    (hIb : ∀ k A B, I k A → Below A.heap.size A B → I k B) (hIc : ∀ k A v, I k A → I k (A.setCell ⟨cB, 0, none⟩ v))
    (hIp : ∀ k A l o o', w.heap.size ≤ l → I k A → A.heap[l]? = some o → o.isCells = false → I k (A.putObj l o'))
    (hXp : ∀ A l o o', w.heap.size ≤ l → Ix A → A.heap[l]? = some o → o.isCells = false → Ix (A.putObj l o'))
    (hAp : ∀ k a₁ A l o o', w.heap.size ≤ l → Ax k a₁ A → A.heap[l]? = some o → o.isCells = false → Ax k a₁ (A.putObj l o'))
    (h0 : I 0 w) (hN : ∀ k W, I k W → k < N)
    (hassign : ∀ (m l k : Nat) (W : World) (K : Act → World → Prop), I k W → (∀ a₁ W1, Below W.heap.size W W1 → Ax k a₁ W1 → K a₁ W1) →
      assign.wpIn (Fence.wide.inRound l) m P (Exit.then K (fun _ _ _ => False)) { tmps := a.tmps.setIfInBounds p (enc k), defers := [] } W)
    (hbody : ∀ (m l k : Nat) (a₁ : Act) (W : World), Ax k a₁ W → body.wpIn (Fence.wide.inRound l) m P (endPost lo (I (k + 1)) Ix W) a₁ W)
    (hstop : ∀ (D : Nat) (W : World), w.heap.size ≤ D → Ix W → W.heap[D]? = some (.deferred (some [])) → Q .ret { a with defers := { target := .collected D, args := #[] } :: a.defers } W) :
    (Code.rangeFunc g #[p] assign body).wpIn Fence.wide n P Q a w := by
  refine wpIn_rangeFunc fun fn _ => ?_
  let rec0 : LoopState → Option Code → Loop := fun st pe => { state := st, pending := pe, fn, tmps := a.tmps, params := #[p], assign, body, defers := w.heap.size }
  obtain ⟨rc, hrc⟩ : ∃ rc, rc = rec0 := ⟨_, rfl⟩
  obtain ⟨W1, hW1⟩ : ∃ W1, (w.alloc (.deferred (some []))).alloc (.loop (rc .ready none)) = W1 := ⟨_, rfl⟩
  have hb1 : Below w.heap.size w W1 := by rw [← hW1]; exact ((Below.refl _ w).alloc (Nat.le_refl _) _).alloc (by simp) _
  have hL1 : W1.heap[w.heap.size + 1]? = some (.loop (rc .ready none)) := by
    rw [← hW1]; have := World.alloc_heap_new (w.alloc (.deferred (some []))) (.loop (rc .ready none)); rwa [World.size_alloc] at this
  have hK1 : W1.heap[w.heap.size]? = some (.deferred (some [])) := by
    rw [← hW1]; exact (Below.heap_alloc _ _ _ (by simp)).trans (World.alloc_heap_new w _)
  have hlt1 : ∀ {A : World} {b : Nat} {o : Obj}, A.heap[b]? = some o → b < A.heap.size := fun h => (Array.getElem?_eq_some_iff.1 h).1
  refine ⟨w.heap.size + 1, [{ target := .collected w.heap.size, args := #[] }], W1, { target := .fn (.func gf) lb, args := #[.func (.yield (w.heap.size + 1)) #[] #[]] }, W1, gf,
    #[.func (.yield (w.heap.size + 1)) #[] #[]] ++ lb, W1, ?_, ?_, fun _ _ => trivial, ?_, fun h => by simp [Fence.wide] at h, ?_⟩
  · rw [← hW1, hrc]; exact run_enterLoop_outer _ _ _ _ _
  · simp only [resolve, hg]
    simp [go_sem]
  · simp [invoke, go_sem, eg]
  refine (hseq (n - 1) (w.heap.size + 1) N
    (fun k W => I k W ∧ W.heap[w.heap.size + 1]? = some (.loop (rc .ready none)) ∧ W.heap[w.heap.size]? = some (.deferred (some [])))
    (fun W => Ix W ∧ W.heap[w.heap.size + 1]? = some (.loop (rc .done (some .ret))) ∧ W.heap[w.heap.size]? = some (.deferred (some []))) hNM
    (fun k A B h hb => ⟨hIb k A B h.1 hb, (hb.block _ (hlt1 h.2.1)).trans h.2.1, (hb.block _ (hlt1 h.2.2)).trans h.2.2⟩)
    (fun k A v h => ⟨hIc k A v h.1, (KeepsOthers.setCell A _ v).same _ _ h.2.1 rfl, (KeepsOthers.setCell A _ v).same _ _ h.2.2 rfl⟩)
    ?_ W1 (Holds.below hb1) ⟨hIb 0 w W1 h0 hb1, hL1, hK1⟩).mono ?_
  · rintro k W ⟨hi, hl, hk⟩
    refine ⟨hN k W hi, ?_⟩
    have hy := run_yield (P := P) (args := #[enc k]) hl (by rw [hrc]; rfl)
    refine ⟨_, _, _, _, hy, roundIn_of_wpIn trivial ?_⟩
    have e1 : (rc .ready none).assign = assign := by rw [hrc]
    have e2 : (rc .ready none).body = body := by rw [hrc]
    have e3 : ((rc .ready none).params.zip #[enc k]).foldl (fun tmps (t, a) => tmps.setIfInBounds t a) (rc .ready none).tmps = a.tmps.setIfInBounds p (enc k) := by rw [hrc]; simp [rec0]
    rw [e1, e2, e3]
    refine hassign _ _ k W _ hi fun a₁ W2 hb2 hA => ?_
    have hl2 := (hb2.block _ (hlt1 hl)).trans hl
    have hk2 := (hb2.block _ (hlt1 hk)).trans hk
    refine ⟨_, run_beginRound hl2 (by rw [hrc]), ?_⟩
    have hA3 := hAp k a₁ W2 _ _ (.loop { rc .ready none with state := .busy }) (by omega) hA hl2 rfl
    have hh3 : Holds lo W2 (W2.putObj (w.heap.size + 1) (.loop { rc .ready none with state := .busy })) := Holds.put _ hl2 rfl
    have hl3 : (W2.putObj (w.heap.size + 1) (.loop { rc .ready none with state := .busy })).heap[w.heap.size + 1]? = some (.loop { rc .ready none with state := .busy }) := World.putObj_heap_same (hlt1 hl2)
    have hk3 : (W2.putObj (w.heap.size + 1) (.loop { rc .ready none with state := .busy })).heap[w.heap.size]? = some (.deferred (some [])) := (World.putObj_heap_other (by omega)).trans hk2
    refine wpIn_mono (hbody _ _ k a₁ _ hA3) ?_
    generalize W2.putObj (w.heap.size + 1) (.loop { rc .ready none with state := .busy }) = W3 at *
    have hlo3 : Holds lo W W3 := (Holds.below hb2).trans hh3
    rintro e a4 W4 hp
    cases e with
    | normal =>
      obtain ⟨hko, hh, hi4⟩ := hp
      have hl4 := hko.same _ _ hl3 rfl
      have hk4 := hko.same _ _ hk3 rfl
      refine ⟨_, _, run_endRound none hl4, .inl ⟨rfl, ⟨hIp _ _ _ _ _ (by omega) hi4 hl4 rfl, ?_, (World.putObj_heap_other (by omega)).trans hk4⟩, hlo3.trans (hh.trans (Holds.put _ hl4 rfl))⟩⟩
      rw [World.putObj_heap_same (hlt1 hl4), hrc]; rfl
    | ret =>
      obtain ⟨hko, hi4⟩ := hp
      have hl4 := hko.same _ _ hl3 rfl
      have hk4 := hko.same _ _ hk3 rfl
      refine ⟨_, _, run_endRound (some .ret) hl4, .inr ⟨rfl, hXp _ _ _ _ (by omega) hi4 hl4 rfl, ?_, (World.putObj_heap_other (by omega)).trans hk4⟩⟩
      rw [World.putObj_heap_same (hlt1 hl4), hrc]; rfl
    | exit id => exact hp.elim
    | goto t => exact hp.elim
    | panic ch => exact hp.elim
    | outgrown => exact hp.elim
  · rintro e W2 ⟨⟨v, rfl⟩, hi, hl, hk⟩
    refine ⟨_, _, run_endLoop hl (by rw [hrc]; simp [rec0]), ?_⟩
    have ep : (rc .done (some .ret)).pending = some .ret := by rw [hrc]
    rw [ep]
    exact wpIn_ret (hstop _ _ (Nat.le_refl _) (hXp _ _ _ _ (by omega) hi hl rfl) ((World.putObj_heap_other (by omega)).trans hk))

/-! ### A region whose last operation waits for all the others -/
/-- outside of rounds an operation of the plain calculus is one of the wide fence's -/
theorem opIn_of_op {P : Program} {n : Nat} {o : Oper} {a : Act} {w : World} {K K' : Act → World → Prop} {Q Q' : Exit → Act → World → Prop} (hK : ∀ a w, K a w → K' a w)
    (hp : ∀ c a w, Q (.panic c) a w → Q' (.panic c) a w) (ho : LetsOut Q → LetsOut Q') (h : o.wp P a w K Q) : o.wpIn Fence.wide n P a w K' Q' := by
  refine ⟨fun _ _ => trivial, ?_⟩
  show o.uponIn Fence.wide n P a K' Q' ((o.semAt none a.eval).run P w)
  rw [Oper.semAt_none]
  unfold Oper.wp at h
  generalize (execOp a.eval o).run P w = r at *
  cases r with
  | ok x w' =>
    cases x <;> simp only [Oper.upon, Oper.uponIn] at h ⊢
    case value u => exact hK _ _ h
    case skip => exact hK _ _ h
    case defer d => exact hK _ _ h
    case enter f args =>
      refine ⟨fun h => by simp [Fence.wide] at h, callsIn_wide.2 (h.mono fun e w'' he => ?_)⟩
      cases e with
      | returned u => exact hK _ _ he
      | panicked c => exact hp _ _ _ he
      | outgrown => exact ho he
    case row row args =>
      exact ⟨fun h => by simp [Fence.wide] at h, fun c cs _ => let ⟨v, w2, r, s⟩ := h c cs; ⟨v, w2, hK _ _ r, stepsIn_wide.2 s⟩⟩
  | halt x w' =>
    cases x <;> simp only [Oper.upon, Oper.uponIn] at h ⊢
    case panic u => exact hp _ _ _ h

/-- one more: where the last operation waits for all the others, the region is the others' region and then that one -/
theorem anyIn_last {P : Program} {n : Nat} {md : Region.Mode} {ops ops' : Array Oper} {Q : Exit → Act → World → Prop} {m : Nat} {o : Oper}
    (hm : ops'.size = m) (hlast : ops[m]? = some o) (hpre : ∀ i, i < m → ops[i]? = ops'[i]?) (hg : ∀ (i : Nat) (x : Oper), ops'[i]? = some x → x.guard = none) (hgo : o.guard = none)
    (good : List Bool → Bool) (hstep : ∀ bs : List Bool, bs.length = m → good bs = true → ∀ i ∈ Region.ready md ops' bs.toArray, good (bs.set i true) = true)
    (hready : ∀ bs : List Bool, bs.length = m → good bs = true → Region.ready md ops (bs.toArray.push false) = if Region.ready md ops' bs.toArray = [] then [m] else Region.ready md ops' bs.toArray)
    (hall : ∀ bs : List Bool, bs.length = m → good bs = true → Region.ready md ops' bs.toArray = [] → Region.ready md ops (bs.toArray.push true) = [])
    (hin : ∀ bs : List Bool, bs.length = m → good bs = true → ∀ i ∈ Region.ready md ops' bs.toArray, i < m) (hlet : ¬ LetsOut Q) :
    ∀ (fuel : Nat) (bs : List Bool) (a : Act) (w : World), bs.length = m → good bs = true →
      wpAny P md ops' (Exit.then (fun a w => o.wpIn Fence.wide n P a w (fun a w => Q .normal a w) Q) Q) fuel bs.toArray a w →
      wpAnyIn Fence.wide n P md ops Q (fuel + 1) (bs.toArray.push false) a w := by
  have wanted : ∀ (x : Oper) (y), x.guard = none → Region.wanted x y = true := fun x y h => by simp [Region.wanted, h]
  have fin : ∀ (fuel : Nat) (bs : List Bool) (a : Act) (w : World), bs.length = m → good bs = true → Region.ready md ops' bs.toArray = [] → o.wpIn Fence.wide n P a w (fun a w => Q .normal a w) Q →
      wpAnyIn Fence.wide n P md ops Q (fuel + 1) (bs.toArray.push false) a w := by
    intro fuel bs a w hl hgd hr h
    refine ⟨fun he => ?_, fun i hi => ?_⟩
    · rw [hready bs hl hgd, if_pos hr] at he; cases he
    · rw [hready bs hl hgd, if_pos hr] at hi
      obtain rfl : i = m := by simpa using hi
      unfold wpOpIn
      simp only [hlast, wanted o _ hgo, if_true]
      refine Oper.wpIn_mono (fun a w hq => ?_) h
      have e : (bs.toArray.push false).setIfInBounds i true = bs.toArray.push true := by
        apply Array.ext'; simp [← hl]
      rw [e]
      cases fuel with
      | zero => exact ⟨hall bs hl hgd hr, hq⟩
      | succ f => exact ⟨fun _ => hq, fun j hj => by rw [hall bs hl hgd hr] at hj; cases hj⟩
  intro fuel
  induction fuel with
  | zero => exact fun bs a w hl hgd h => fin 0 bs a w hl hgd h.1 h.2
  | succ f ih =>
    intro bs a w hl hgd h
    by_cases hr : Region.ready md ops' bs.toArray = []
    · exact fin _ bs a w hl hgd hr (h.1 hr)
    · refine ⟨fun he => ?_, fun i hi => ?_⟩
      · rw [hready bs hl hgd, if_neg hr] at he; exact absurd he hr
      · rw [hready bs hl hgd, if_neg hr] at hi
        have him := hin bs hl hgd i hi
        have h2 := h.2 i hi
        unfold wpOp at h2
        unfold wpOpIn
        rw [hpre i him]
        obtain ⟨x, hx⟩ : ∃ x, ops'[i]? = some x := ⟨_, Array.getElem?_eq_getElem (by omega)⟩
        simp only [hx, wanted x _ (hg i x hx), if_true] at h2 ⊢
        have e1 : bs.toArray.setIfInBounds i true = (bs.set i true).toArray := by simp
        have e2 : (bs.toArray.push false).setIfInBounds i true = (bs.set i true).toArray.push false := by
          apply Array.ext'
          simp [List.set_append_left, hl, him]
        rw [e2]
        rcases h2 with h2 | h2
        · rw [e1] at h2
          exact opIn_of_op (fun a w hh => ih _ a w (by simp [hl]) (hstep bs hl hgd i hi) hh) (fun _ _ _ hh => hh) (fun hh => hh) h2
        · exact absurd h2.2 hlet

def allBs : Nat → List (List Bool)
  | 0 => [[]]
  | n + 1 => (allBs n).map (false :: ·) ++ (allBs n).map (true :: ·)
theorem mem_allBs (bs : List Bool) : bs ∈ allBs bs.length := by
  induction bs with
  | nil => simp [allBs]
  | cons b bs ih => cases b <;> simp [allBs, ih]
/-- what is listed has come in its turn -/
def inTurn (md : Region.Mode) (m : Nat) (l : List Oper) (bs : List Bool) : Bool := (List.range m).all fun i => !(bs.getD i false) || (Region.ready md (l.take m).toArray (bs.set i false).toArray).contains i
/-- the last of l waits for all ahead of it -/
def lastOk (md : Region.Mode) (m : Nat) (l : List Oper) : Bool :=
  inTurn md m l (List.replicate m false) && (allBs m).all fun bs =>
    !(inTurn md m l bs) ||
    let r := Region.ready md (l.take m).toArray bs.toArray
    ((Region.ready md l.toArray (bs.toArray.push false) == (if r = [] then [m] else r)) && (r != [] || Region.ready md l.toArray (bs.toArray.push true) == []) && r.all (fun i => decide (i < m)) && r.all (fun i => inTurn md m l (bs.set i true)))
theorem region_last {P : Program} {n id : Nat} {l : List Oper} {Q : Exit → Act → World → Prop} {S : World → Prop} {a : Act} {w : World} (m : Nat) (o : Oper) (hm : P.follows .mixedOrders = true)
    (hlen : l.length = m + 1) (ho : l[m]? = some o) (hg : (l.all fun o => o.guard.isNone) = true) (hok : lastOk .any m l = true) (hlet : ¬ LetsOut Q) (hS : S w.drew)
    (h : S w.drew → wpAnyH P .any (l.take m).toArray (Exit.then (fun a w => o.wpIn Fence.wide n P a w (fun a w => Q .normal a w) Q) Q) S m (List.replicate m false).toArray a w.drew) :
    (Code.region id l.toArray true).wp P Q a w := by
  refine (wpIn_wide (n := n)).1 (wpIn_region_any hm ?_)
  have hgg : ∀ x ∈ l, x.guard = none := fun x hx => by
    have := List.all_eq_true.1 hg x hx
    simpa using this
  obtain ⟨hok0, hok1⟩ := Bool.and_eq_true_iff.1 hok
  have hL2 : ∀ bs : List Bool, bs.length = m → inTurn .any m l bs = true → (Region.ready .any l.toArray (bs.toArray.push false) = if Region.ready .any (l.take m).toArray bs.toArray = [] then [m] else Region.ready .any (l.take m).toArray bs.toArray) ∧
      (Region.ready .any (l.take m).toArray bs.toArray = [] → Region.ready .any l.toArray (bs.toArray.push true) = []) ∧ (∀ i ∈ Region.ready .any (l.take m).toArray bs.toArray, i < m) ∧ ∀ i ∈ Region.ready .any (l.take m).toArray bs.toArray, inTurn .any m l (bs.set i true) = true := fun bs hb hgd => by
    have := List.all_eq_true.1 hok1 bs (by rw [← hb]; exact mem_allBs bs)
    simp only [hgd, Bool.not_true, Bool.false_or, Bool.and_eq_true, beq_iff_eq, Bool.or_eq_true, bne_iff_ne, ne_eq, List.all_eq_true, decide_eq_true_eq] at this
    exact ⟨this.1.1.1, fun hr => this.1.1.2.resolve_left (fun hn => hn hr), this.1.2, this.2⟩
  have hx := anyIn_last (n := n) (Q := Q) (ops := l.toArray) (ops' := (l.take m).toArray) (m := m) (o := o) (by simp [hlen]) (by simpa using ho)
    (fun i hi => by simp [List.getElem?_take, hi]) (fun i x hx => hgg x (by
      have h1 : (l.take m)[i]? = some x := by simpa using hx
      exact List.mem_of_mem_take (List.mem_of_getElem? h1))) (hgg o (List.mem_of_getElem? ho))
    (inTurn .any m l) (fun bs hb hd => (hL2 bs hb hd).2.2.2) (fun bs hb hd => (hL2 bs hb hd).1) (fun bs hb hd => (hL2 bs hb hd).2.1) (fun bs hb hd => (hL2 bs hb hd).2.2.1) hlet m (List.replicate m false) a w.drew (by simp) hok0 (wpAny_of_held _ _ _ _ (h hS))
  have e : (List.replicate m false).toArray.push false = Array.replicate l.toArray.size false := by
    apply Array.ext'
    simp [hlen, List.replicate_succ']
  rw [e] at hx
  have e2 : l.toArray.size = m + 1 := by simpa using hlen
  rw [e2] at hx ⊢
  exact hx
end Go.Proofs.YtcdmbknmmnaocaaDoor
