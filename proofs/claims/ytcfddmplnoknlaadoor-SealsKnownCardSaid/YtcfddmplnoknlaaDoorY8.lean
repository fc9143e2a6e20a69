/-
  A range over an iterator that never ends by itself and counts in a cell of its own: its contract, and the statement by it.
-/
import Derived.Test.YtcfddmplnoknlaaDoorY7
import Derived.RangeFuncKeeps
import Derived.RangeFuncCalls
import Derived.RangeFuncBound
import Derived.OrdersIn
import Derived.RangeFuncNested
import Derived.RangeFuncLeaves
import Derived.WalkKit
import Derived.OwnWalkIn
import Derived.TacticsInMore
import Derived.LoopNIn
import Derived.LoopIn
namespace Go.Proofs.YtcfddmplnoknlaaDoor
set_option maxRecDepth 16384
open Go.RowKit

structure Holds (lo : Nat) (A B : World) : Prop where
 size : A.heap.size ≤ B.heap.size
 cells : ∀ (b : Nat) (o : Obj), lo ≤ b → A.heap[b]? = some o → o.isCells = true → B.heap[b]? = some o
theorem Holds.refl (lo : Nat) (A : World) : Holds lo A A := ⟨Nat.le_refl _, fun _ _ _ h _ => h⟩
theorem Holds.trans {lo : Nat} {A B C : World} (h : Holds lo A B) (k : Holds lo B C) : Holds lo A C :=
 ⟨Nat.le_trans h.size k.size, fun b o hb ho hc => k.cells b o hb (h.cells b o hb ho hc) hc⟩
theorem Holds.put {lo l : Nat} {A : World} {o : Obj} (o' : Obj) (hl : A.heap[l]? = some o) (ho : o.isCells = false) : Holds lo A (A.putObj l o') :=
 ⟨by simp, fun b ob _ hb hc => by
  have hne : b ≠ l := fun e => by subst e; rw [hl] at hb; cases hb; rw [ho] at hc; cases hc
  rw [World.putObj_heap_other hne]; exact hb⟩
theorem Holds.below {lo : Nat} {A B : World} (h : Below A.heap.size A B) : Holds lo A B :=
 ⟨h.size, fun b _o _ ho _ => (h.block b (Array.getElem?_eq_some_iff.1 ho).1).trans ho⟩

def Endless (P : Program) (g : Nat) (lb : Array Value) (enc : Nat → Value) (lo cB M : Nat) (w : World) : Prop :=
 ∀ (n l N : Nat) (J : Nat → World → Prop) (Jx : World → Prop), N ≤ M →
  (∀ k A B, J k A → Below A.heap.size A B → J k B) → (∀ k A v, J k A → J k (A.setCell ⟨cB, 0, none⟩ v)) →
  (∀ k W, J k W → k < N ∧ YieldAt Fence.wide (n - 1) P l #[enc k] W fun e W' =>
   (e = .returned (.bool true) ∧ J (k + 1) W' ∧ Holds lo W W') ∨ (e = .returned (.bool false) ∧ Jx W')) →
  ∀ W, Holds lo w W → J 0 W →
  CallsIn Fence.wide n P g (#[.func (.yield l) #[] #[]] ++ lb) W fun e W' => (∃ v, e = .returned v) ∧ Jx W'

def endPost (lo : Nat) (I Ix : World → Prop) (W : World) : Exit → Act → World → Prop
 | .normal, _, W' => KeepsOthers W W' ∧ Holds lo W W' ∧ I W'
 | .ret, _, W' => KeepsOthers W W' ∧ Ix W'
 | _, _, _ => False

theorem wp_rangeEndless {P : Program} {n : Nat} {g : Operand} {p : Tmp} {assign body : Code} {Q : Exit → Act → World → Prop} {a : Act} {w : World} {gf : Nat} {lb : Array Value}
    (hg : a.eval g = .func (.func gf) #[] lb) (eg : ∀ args w, (callFunc gf args).run P w = .ok (.enter gf args) w) {enc : Nat → Value} {lo cB M : Nat} (hseq : Endless P gf lb enc lo cB M w)
    (I : Nat → World → Prop) (Ix : World → Prop) (N : Nat) (hNM : N ≤ M) (Ax : Nat → Act → World → Prop)
    (hIb : ∀ k A B, I k A → Below A.heap.size A B → I k B) (hIc : ∀ k A v, I k A → I k (A.setCell ⟨cB, 0, none⟩ v))
    (hIp : ∀ k A l o o', w.heap.size ≤ l → I k A → A.heap[l]? = some o → o.isCells = false → I k (A.putObj l o'))
    (hXp : ∀ A l o o', w.heap.size ≤ l → Ix A → A.heap[l]? = some o → o.isCells = false → Ix (A.putObj l o'))
    (hAp : ∀ k a₁ A l o o', w.heap.size ≤ l → Ax k a₁ A → A.heap[l]? = some o → o.isCells = false → Ax k a₁ (A.putObj l o'))
    (h0 : I 0 w) (hN : ∀ k W, I k W → k < N)
    (hassign : ∀ (m l k : Nat) (W : World) (K : Act → World → Prop), I k W → (∀ a₁ W1, Below W.heap.size W W1 → Ax k a₁ W1 → K a₁ W1) →
      assign.wpIn (Fence.wide.inRound l) m P (Exit.then K (fun _ _ _ => False)) { tmps := a.tmps.setIfInBounds p (enc k), defers := [] } W)
    (hbody : ∀ (m l k : Nat) (a₁ : Act) (W : World), Ax k a₁ W → body.wpIn (Fence.wide.inRound l) m P (endPost lo (I (k + 1)) Ix W) a₁ W)
    (hstop : ∀ (D : Nat) (W : World), w.heap.size ≤ D → Ix W → W.heap[D]? = some (.deferred (some [])) → Q .ret { a with defers := { target := .collected D, args := #[] } :: a.defers } W) :
    (Code.rangeFunc g #[p] assign body).wpIn Fence.wide n P Q a w := by
  refine wpIn_rangeFunc fun fn _ => ?_
  let rec0 : LoopState → Option Code → Loop := fun st pe => { state := st, pending := pe, fn, tmps := a.tmps, params := #[p], assign, body, defers := w.heap.size }
  obtain ⟨rc, hrc⟩ : ∃ rc, rc = rec0 := ⟨_, rfl⟩
  obtain ⟨W1, hW1⟩ : ∃ W1, (w.alloc (.deferred (some []))).alloc (.loop (rc .ready none)) = W1 := ⟨_, rfl⟩
  have hb1 : Below w.heap.size w W1 := by rw [← hW1]; exact ((Below.refl _ w).alloc (Nat.le_refl _) _).alloc (by simp) _
  have hL1 : W1.heap[w.heap.size + 1]? = some (.loop (rc .ready none)) := by
    rw [← hW1]; have := World.alloc_heap_new (w.alloc (.deferred (some []))) (.loop (rc .ready none)); rwa [World.size_alloc] at this
  have hK1 : W1.heap[w.heap.size]? = some (.deferred (some [])) := by
    rw [← hW1]; exact (Below.heap_alloc _ _ _ (by simp)).trans (World.alloc_heap_new w _)
  have hlt1 : ∀ {A : World} {b : Nat} {o : Obj}, A.heap[b]? = some o → b < A.heap.size := fun h => (Array.getElem?_eq_some_iff.1 h).1
  refine ⟨w.heap.size + 1, [{ target := .collected w.heap.size, args := #[] }], W1, { target := .fn (.func gf) lb, args := #[.func (.yield (w.heap.size + 1)) #[] #[]] }, W1, gf,
    #[.func (.yield (w.heap.size + 1)) #[] #[]] ++ lb, W1, ?_, ?_, fun _ _ => trivial, ?_, fun h => by simp [Fence.wide] at h, ?_⟩
  · rw [← hW1, hrc]; exact run_enterLoop_outer _ _ _ _ _
  · simp only [resolve, hg]
    simp [go_sem]
  · simp [invoke, go_sem, eg]
  refine (hseq (n - 1) (w.heap.size + 1) N
    (fun k W => I k W ∧ W.heap[w.heap.size + 1]? = some (.loop (rc .ready none)) ∧ W.heap[w.heap.size]? = some (.deferred (some [])))
    (fun W => Ix W ∧ W.heap[w.heap.size + 1]? = some (.loop (rc .done (some .ret))) ∧ W.heap[w.heap.size]? = some (.deferred (some []))) hNM
    (fun k A B h hb => ⟨hIb k A B h.1 hb, (hb.block _ (hlt1 h.2.1)).trans h.2.1, (hb.block _ (hlt1 h.2.2)).trans h.2.2⟩)
    (fun k A v h => ⟨hIc k A v h.1, (KeepsOthers.setCell A _ v).same _ _ h.2.1 rfl, (KeepsOthers.setCell A _ v).same _ _ h.2.2 rfl⟩)
    ?_ W1 (Holds.below hb1) ⟨hIb 0 w W1 h0 hb1, hL1, hK1⟩).mono ?_
  · rintro k W ⟨hi, hl, hk⟩
    refine ⟨hN k W hi, ?_⟩
    have hy := run_yield (P := P) (args := #[enc k]) hl (by rw [hrc]; rfl)
    refine ⟨_, _, _, _, hy, roundIn_of_wpIn trivial ?_⟩
    have e1 : (rc .ready none).assign = assign := by rw [hrc]
    have e2 : (rc .ready none).body = body := by rw [hrc]
    have e3 : ((rc .ready none).params.zip #[enc k]).foldl (fun tmps (t, a) => tmps.setIfInBounds t a) (rc .ready none).tmps = a.tmps.setIfInBounds p (enc k) := by rw [hrc]; simp [rec0]
    rw [e1, e2, e3]
    refine hassign _ _ k W _ hi fun a₁ W2 hb2 hA => ?_
    have hl2 := (hb2.block _ (hlt1 hl)).trans hl
    have hk2 := (hb2.block _ (hlt1 hk)).trans hk
    refine ⟨_, run_beginRound hl2 (by rw [hrc]), ?_⟩
    have hA3 := hAp k a₁ W2 _ _ (.loop { rc .ready none with state := .busy }) (by omega) hA hl2 rfl
    have hh3 : Holds lo W2 (W2.putObj (w.heap.size + 1) (.loop { rc .ready none with state := .busy })) := Holds.put _ hl2 rfl
    have hl3 : (W2.putObj (w.heap.size + 1) (.loop { rc .ready none with state := .busy })).heap[w.heap.size + 1]? = some (.loop { rc .ready none with state := .busy }) := World.putObj_heap_same (hlt1 hl2)
    have hk3 : (W2.putObj (w.heap.size + 1) (.loop { rc .ready none with state := .busy })).heap[w.heap.size]? = some (.deferred (some [])) := (World.putObj_heap_other (by omega)).trans hk2
    refine wpIn_mono (hbody _ _ k a₁ _ hA3) ?_
    generalize W2.putObj (w.heap.size + 1) (.loop { rc .ready none with state := .busy }) = W3 at *
    have hlo3 : Holds lo W W3 := (Holds.below hb2).trans hh3
    rintro e a4 W4 hp
    cases e with
    | normal =>
      obtain ⟨hko, hh, hi4⟩ := hp
      have hl4 := hko.same _ _ hl3 rfl
      have hk4 := hko.same _ _ hk3 rfl
      refine ⟨_, _, run_endRound none hl4, .inl ⟨rfl, ⟨hIp _ _ _ _ _ (by omega) hi4 hl4 rfl, ?_, (World.putObj_heap_other (by omega)).trans hk4⟩, hlo3.trans (hh.trans (Holds.put _ hl4 rfl))⟩⟩
      rw [World.putObj_heap_same (hlt1 hl4), hrc]; rfl
    | ret =>
      obtain ⟨hko, hi4⟩ := hp
      have hl4 := hko.same _ _ hl3 rfl
      have hk4 := hko.same _ _ hk3 rfl
      refine ⟨_, _, run_endRound (some .ret) hl4, .inr ⟨rfl, hXp _ _ _ _ (by omega) hi4 hl4 rfl, ?_, (World.putObj_heap_other (by omega)).trans hk4⟩⟩
      rw [World.putObj_heap_same (hlt1 hl4), hrc]; rfl
    | exit id => exact hp.elim
    | goto t => exact hp.elim
    | panic ch => exact hp.elim
    | outgrown => exact hp.elim
  · rintro e W2 ⟨⟨v, rfl⟩, hi, hl, hk⟩
    refine ⟨_, _, run_endLoop hl (by rw [hrc]; simp [rec0]), ?_⟩
    have ep : (rc .done (some .ret)).pending = some .ret := by rw [hrc]
    rw [ep]
    exact wpIn_ret (hstop _ _ (Nat.le_refl _) (hXp _ _ _ _ (by omega) hi hl rfl) ((World.putObj_heap_other (by omega)).trans hk))

/-! ### A region whose last operation waits for all the others -/
theorem opIn_of_op {P : Program} {n : Nat} {o : Oper} {a : Act} {w : World} {K K' : Act → World → Prop} {Q Q' : Exit → Act → World → Prop} (hK : ∀ a w, K a w → K' a w)
  (hp : ∀ c a w, Q (.panic c) a w → Q' (.panic c) a w) (ho : LetsOut Q → LetsOut Q') (h : o.wp P a w K Q) : o.wpIn Fence.wide n P a w K' Q' := by
 refine ⟨fun _ _ => trivial, ?_⟩
 show o.uponIn Fence.wide n P a K' Q' ((o.semAt none a.eval).run P w)
 rw [Oper.semAt_none]
 unfold Oper.wp at h
 generalize (execOp a.eval o).run P w = r at *
 cases r with
 | ok x w' =>
  cases x <;> simp only [Oper.upon, Oper.uponIn] at h ⊢
  case value u => exact hK _ _ h
  case skip => exact hK _ _ h
  case defer d => exact hK _ _ h
  case enter f args =>
   refine ⟨fun h => by simp [Fence.wide] at h, callsIn_wide.2 (h.mono fun e w'' he => ?_)⟩
   cases e with
   | returned u => exact hK _ _ he
   | panicked c => exact hp _ _ _ he
   | outgrown => exact ho he
  case row row args =>
   exact ⟨fun h => by simp [Fence.wide] at h, fun c cs _ => let ⟨v, w2, r, s⟩ := h c cs; ⟨v, w2, hK _ _ r, stepsIn_wide.2 s⟩⟩
 | halt x w' =>
  cases x <;> simp only [Oper.upon, Oper.uponIn] at h ⊢
  case panic u => exact hp _ _ _ h

theorem anyIn_last {P : Program} {n : Nat} {md : Region.Mode} {ops ops' : Array Oper} {Q : Exit → Act → World → Prop} {m : Nat} {o : Oper}
    (hm : ops'.size = m) (hlast : ops[m]? = some o) (hpre : ∀ i, i < m → ops[i]? = ops'[i]?) (hg : ∀ (i : Nat) (x : Oper), ops'[i]? = some x → x.guard = none) (hgo : o.guard = none)
    (good : List Bool → Bool) (hstep : ∀ bs : List Bool, bs.length = m → good bs = true → ∀ i ∈ Region.ready md ops' bs.toArray, good (bs.set i true) = true)
    (hready : ∀ bs : List Bool, bs.length = m → good bs = true → Region.ready md ops (bs.toArray.push false) = if Region.ready md ops' bs.toArray = [] then [m] else Region.ready md ops' bs.toArray)
    (hall : ∀ bs : List Bool, bs.length = m → good bs = true → Region.ready md ops' bs.toArray = [] → Region.ready md ops (bs.toArray.push true) = [])
    (hin : ∀ bs : List Bool, bs.length = m → good bs = true → ∀ i ∈ Region.ready md ops' bs.toArray, i < m) (hlet : ¬ LetsOut Q) :
    ∀ (fuel : Nat) (bs : List Bool) (a : Act) (w : World), bs.length = m → good bs = true →
      wpAny P md ops' (Exit.then (fun a w => o.wpIn Fence.wide n P a w (fun a w => Q .normal a w) Q) Q) fuel bs.toArray a w →
      wpAnyIn Fence.wide n P md ops Q (fuel + 1) (bs.toArray.push false) a w := by
  have wanted : ∀ (x : Oper) y, x.guard = none → Region.wanted x y = true := fun x y h => by simp [Region.wanted, h]
  have fin : ∀ (fuel : Nat) (bs : List Bool) (a : Act) (w : World), bs.length = m → good bs = true → Region.ready md ops' bs.toArray = [] → o.wpIn Fence.wide n P a w (fun a w => Q .normal a w) Q →
      wpAnyIn Fence.wide n P md ops Q (fuel + 1) (bs.toArray.push false) a w := by
    intro fuel bs a w hl hgd hr h
    refine ⟨fun he => ?_, fun i hi => ?_⟩
    · rw [hready bs hl hgd, if_pos hr] at he; cases he
    · rw [hready bs hl hgd, if_pos hr] at hi
      obtain rfl : i = m := by simpa using hi
      unfold wpOpIn
      simp only [hlast, wanted o _ hgo, if_true]
      refine Oper.wpIn_mono (fun a w hq => ?_) h
      have e : (bs.toArray.push false).setIfInBounds i true = bs.toArray.push true := by
        apply Array.ext'; simp [← hl]
      rw [e]
      cases fuel with
      | zero => exact ⟨hall bs hl hgd hr, hq⟩
      | succ f => exact ⟨fun _ => hq, fun j hj => by rw [hall bs hl hgd hr] at hj; cases hj⟩
  intro fuel
  induction fuel with
  | zero => exact fun bs a w hl hgd h => fin 0 bs a w hl hgd h.1 h.2
  | succ f ih =>
    intro bs a w hl hgd h
    by_cases hr : Region.ready md ops' bs.toArray = []
    · exact fin _ bs a w hl hgd hr (h.1 hr)
    · refine ⟨fun he => ?_, fun i hi => ?_⟩
      · rw [hready bs hl hgd, if_neg hr] at he; exact absurd he hr
      · rw [hready bs hl hgd, if_neg hr] at hi
        have him := hin bs hl hgd i hi
        have h2 := h.2 i hi
        unfold wpOp at h2
        unfold wpOpIn
        rw [hpre i him]
        obtain ⟨x, hx⟩ : ∃ x, ops'[i]? = some x := ⟨_, Array.getElem?_eq_getElem (by omega)⟩
        simp only [hx, wanted x _ (hg i x hx), if_true] at h2 ⊢
        have e1 : bs.toArray.setIfInBounds i true = (bs.set i true).toArray := by simp
        have e2 : (bs.toArray.push false).setIfInBounds i true = (bs.set i true).toArray.push false := by
          apply Array.ext'
          simp [List.set_append_left, hl, him]
        rw [e2]
        rcases h2 with h2 | h2
        · rw [e1] at h2
          exact opIn_of_op (fun a w hh => ih _ a w (by simp [hl]) (hstep bs hl hgd i hi) hh) (fun _ _ _ hh => hh) (fun hh => hh) h2
        · exact absurd h2.2 hlet

def allBs : Nat → List (List Bool)
 | 0 => [[]]
 | n + 1 => (allBs n).map (false :: ·) ++ (allBs n).map (true :: ·)
theorem mem_allBs (bs : List Bool) : bs ∈ allBs bs.length := by
 induction bs with
 | nil => simp [allBs]
 | cons b bs ih => cases b <;> simp [allBs, ih]
def inTurn (md : Region.Mode) (m : Nat) (l : List Oper) (bs : List Bool) : Bool := (List.range m).all fun i => !(bs.getD i false) || (Region.ready md (l.take m).toArray (bs.set i false).toArray).contains i
def lastOk (md : Region.Mode) (m : Nat) (l : List Oper) : Bool :=
 inTurn md m l (List.replicate m false) && (allBs m).all fun bs =>
  !(inTurn md m l bs) ||
  let r := Region.ready md (l.take m).toArray bs.toArray
  ((Region.ready md l.toArray (bs.toArray.push false) == (if r = [] then [m] else r)) && (r != [] || Region.ready md l.toArray (bs.toArray.push true) == []) && r.all (fun i => decide (i < m)) && r.all (fun i => inTurn md m l (bs.set i true)))
theorem region_last {P : Program} {n id : Nat} {l : List Oper} {Q : Exit → Act → World → Prop} {S : World → Prop} {a : Act} {w : World} (m : Nat) (o : Oper) (hm : P.follows .mixedOrders = true)
  (hlen : l.length = m + 1) (ho : l[m]? = some o) (hg : (l.all fun o => o.guard.isNone) = true) (hok : lastOk .any m l = true) (hlet : ¬ LetsOut Q) (hS : S w.drew)
  (h : S w.drew → wpAnyH P .any (l.take m).toArray (Exit.then (fun a w => o.wpIn Fence.wide n P a w (fun a w => Q .normal a w) Q) Q) S m (List.replicate m false).toArray a w.drew) :
  (Code.region id l.toArray true).wp P Q a w := by
 refine (wpIn_wide (n := n)).1 (wpIn_region_any hm ?_)
 have hgg : ∀ x ∈ l, x.guard = none := fun x hx => by
  have := List.all_eq_true.1 hg x hx
  simpa using this
 obtain ⟨hok0, hok1⟩ := Bool.and_eq_true_iff.1 hok
 have hL2 : ∀ bs : List Bool, bs.length = m → inTurn .any m l bs = true → (Region.ready .any l.toArray (bs.toArray.push false) = if Region.ready .any (l.take m).toArray bs.toArray = [] then [m] else Region.ready .any (l.take m).toArray bs.toArray) ∧
   (Region.ready .any (l.take m).toArray bs.toArray = [] → Region.ready .any l.toArray (bs.toArray.push true) = []) ∧ (∀ i ∈ Region.ready .any (l.take m).toArray bs.toArray, i < m) ∧ ∀ i ∈ Region.ready .any (l.take m).toArray bs.toArray, inTurn .any m l (bs.set i true) = true := fun bs hb hgd => by
  have := List.all_eq_true.1 hok1 bs (by rw [← hb]; exact mem_allBs bs)
  simp only [hgd, Bool.not_true, Bool.false_or, Bool.and_eq_true, beq_iff_eq, Bool.or_eq_true, bne_iff_ne, ne_eq, List.all_eq_true, decide_eq_true_eq] at this
  exact ⟨this.1.1.1, fun hr => this.1.1.2.resolve_left (fun hn => hn hr), this.1.2, this.2⟩
 have hx := anyIn_last (n := n) (Q := Q) (ops := l.toArray) (ops' := (l.take m).toArray) (m := m) (o := o) (by simp [hlen]) (by simpa using ho)
  (fun i hi => by simp [hi]) (fun i x hx => hgg x (by
   have h1 : (l.take m)[i]? = some x := by simpa using hx
   exact List.mem_of_mem_take (List.mem_of_getElem? h1))) (hgg o (List.mem_of_getElem? ho))
  (inTurn .any m l) (fun bs hb hd => (hL2 bs hb hd).2.2.2) (fun bs hb hd => (hL2 bs hb hd).1) (fun bs hb hd => (hL2 bs hb hd).2.1) (fun bs hb hd => (hL2 bs hb hd).2.2.1) hlet m (List.replicate m false) a w.drew (by simp) hok0 (wpAny_of_held _ _ _ _ (h hS))
 have e : (List.replicate m false).toArray.push false = Array.replicate l.toArray.size false := by
  apply Array.ext'
  simp [hlen, List.replicate_succ']
 rw [e] at hx
 have e2 : l.toArray.size = m + 1 := by simpa using hlen
 rw [e2] at hx ⊢
 exact hx
end Go.Proofs.YtcfddmplnoknlaaDoor
namespace Go.Proofs.YtcfddmplnoknlaaDoor
set_option maxRecDepth 16384
open Go.RowKit Sh
theorem sz_sched (l : List Nat) (h : l.length = 176) : (Tryd.prog.info? 79).map (·.size) = some (va .u8 l).size := by rw [va_size, h]; kernel_rfl
theorem zv_sched (w : World) : (zeroValue 79).run Tryd.prog w = .ok (.agg (va .u8 (List.replicate 176 0))) w := by kernel_rfl
def ctrIs (w : World) (cB : Nat) : Nat := match w.cell? ⟨cB, 0, none⟩ with | some (.int _ z) => z.toNat | _ => 0
theorem ctr_is {w : World} {g v : Nat} {T : TypeId} (h : Blk w g T #[.int .u32 (v : Int)]) : ctrIs w g = v := by
 unfold ctrIs
 rw [h.cellIs 0 rfl]
 simp
theorem Blk.held {lo g : Nat} {A B : World} {T : TypeId} {cs : Array Value} (h : Blk A g T cs) (hh : Holds lo A B) (hg : lo ≤ g) : Blk B g T cs := hh.cells _ _ hg h rfl

set_option maxRecDepth 8000 in
set_option maxHeartbeats 2000000 in
theorem blocks_ends (key : List Nat) (s c c0 : Nat) (hkl : key.length = 16) (hkb : Byt key) (hs : s < 4294967296) (p1 p2 p3 lo M : Nat) (hM : c0 + M ≤ 4294967296) (w0 : World) (hp1 : Blk w0 p1 22 (va .u8 key)) (hp2 : Blk w0 p2 30 (noV s c))
    (hp3 : Blk w0 p3 27 #[.int .u32 (c0 : Int)]) (hl1 : lo ≤ p1) (hl2 : lo ≤ p2) (hl3 : lo ≤ p3) (n13 : p1 ≠ p3) (n23 : p2 ≠ p3) :
    Endless Tryd.prog 79 #[.pointer (some ⟨p1, 0, none⟩), .pointer (some ⟨p2, 0, none⟩), .pointer (some ⟨p3, 0, none⟩)] (fun k => .agg (va .u8 (sbl key s c (c0 + k)))) lo p3 M w0 := by
  intro n l N J Jx hNM hJb hJc hY w hH0 h0
  replace hp1 := hp1.held hH0 hl1
  replace hp2 := hp2.held hH0 hl2
  replace hp3 := hp3.held hH0 hl3
  have hlw : lo ≤ w.heap.size := Nat.le_trans hl1 (Nat.le_of_lt hp1.lt)
  have hYq := Lib.hid hY
  have hJbq := Lib.hid hJb
  have hJcq := Lib.hid hJc
  clear hY hJb hJc hH0
  refine callsIn_of_wp Tryd.func79 rfl trivial ?_
  refine (wpIn_wide (n := n)).2 ?_
  simp only [Tryd.ntmps79, List.size_toArray, List.length_cons, List.length_nil, Nat.reduceAdd, Nat.reduceSub, Array.replicate_succ, Array.replicate_zero, List.push_toArray, List.append_toArray, List.nil_append, List.cons_append]
  obtain ⟨B0, hB0e⟩ : ∃ b, w.heap.size = b := ⟨_, rfl⟩
  have hW : Below B0 w w := by rw [← hB0e]; exact Below.refl _ _
  have hB0 : B0 ≤ w.heap.size := by omega
  rw [hB0e] at hlw
  have hB0q := Lib.hid hB0e
  clear hB0e
  go_upto_region 0 with fail
  refine wl_lit ?_
  refine runL 6 (.agg (va .u8 key)) rfl (by rfl) (exec_row 22 (.tmp 1) rfl p1 rfl 22 (va .u8 key) _ hp1 (by exact Tryd.underlying22) rfl (sz__16_uint8 _ hkl)) ?_
  simp only [Ls]
  refine callL 7 rfl (by rfl) (fun K hK => wp_callF 39 #[.agg (va .u8 key)] (by go_simp) (expand_any key hkl hkb _) ?_)
  rintro e w1 ⟨rfl, bx⟩
  replace hp1 := blB hp1 bx
  replace hp2 := blB hp2 bx
  replace hp3 := blB hp3 bx
  replace hW := trB hW hB0 bx
  clear bx
  refine ⟨_, rfl, hK.out _ _ ?_⟩
  clear hK K
  simp only [Ls]
  refine runWL 5 (.pointer (some ⟨w1.heap.size, 0, none⟩)) (w1.alloc (.cells (va .u8 (List.replicate 176 0)) 79)) rfl (by rfl) (exec_allocV 79 rfl _ (zv_sched _)) ?_
  simp only [Ls]
  have lp1_p5 := hp1.lt
  have lp2_p5 := hp2.lt
  have lp3_p5 := hp3.lt
  have lw_p5 := Nat.le_trans hB0 hW.size
  have hp5 := Blk.new w1 79 (va .u8 (List.replicate 176 0))
  have bx := bAl w1 (.cells (va .u8 (List.replicate 176 0)) 79)
  replace hp1 := blB hp1 bx
  replace hp2 := blB hp2 bx
  replace hp3 := blB hp3 bx
  replace hW := trB hW hB0 bx
  clear bx
  generalize w1.alloc (.cells (va .u8 (List.replicate 176 0)) 79) = w2 at *
  generalize w1.heap.size = p5 at hp5 lw_p5 lp1_p5 lp2_p5 lp3_p5 ⊢
  refine runSL (w2.setRow p5 (va .u8 (Ci.exL key))) rfl (by rfl) (exec_storeRow 79 (.tmp 5) (.tmp 7) rfl p5 rfl (va .u8 (Ci.exL key)) rfl 79 (va .u8 (List.replicate 176 0)) hp5 (sz_eq (sz_sched _ (List.length_replicate)) (sz_sched _ (Ci.exL_len key))) (sz_sched _ (Ci.exL_len key)) (va_ones .u8 _)) ?_
  replace hp1 := hp1.rowFar (show p5 ≠ p1 from (by omega)) (va .u8 (Ci.exL key))
  replace hp2 := hp2.rowFar (show p5 ≠ p2 from (by omega)) (va .u8 (Ci.exL key))
  replace hp3 := hp3.rowFar (show p5 ≠ p3 from (by omega)) (va .u8 (Ci.exL key))
  replace hp5 := hp5.row (va .u8 (Ci.exL key))
  replace hW := below_setRow hW lw_p5 (va .u8 (Ci.exL key))
  generalize w2.setRow p5 (va .u8 (Ci.exL key)) = w3 at *
  refine nilL ?_
  have hl5 : lo ≤ p5 := Nat.le_trans hlw lw_p5
  have n53 : p5 ≠ p3 := by omega
  clear lw_p5 lp1_p5 lp2_p5 lp3_p5
  have hj := hJbq.out 0 _ _ h0 (by rw [hB0q.out]; exact hW)
  clear h0
  go_wp2
  go_loopw [15] (fun _ wr => ∃ k : Nat, J k wr ∧ Blk wr p1 22 (va .u8 key) ∧ Blk wr p2 30 (noV s c) ∧ Blk wr p3 27 #[.int .u32 ((c0 + k : Nat) : Int)] ∧ Blk wr p5 79 (va .u8 (Ci.exL key))) (fun _ wr => c0 + N - ctrIs wr p3)
  case atStart => exact ⟨0, hj, hp1, hp2, hp3, hp5⟩
  case round =>
    clear hp1 hp2 hp3 hp5 hW hj
    obtain ⟨k, hj, hp1, hp2, hp3, hp5⟩ := hrel
    obtain ⟨hkN, -⟩ := hYq.out k _ hj
    have hck : c0 + k < 4294967296 := by omega
    have hlr : lo ≤ wr.heap.size := Nat.le_trans hl1 (Nat.le_of_lt hp1.lt)
    generalize wr = w at *
    have hm0 := Lib.hid (ctr_is hp3)
    obtain ⟨B0, hB0e⟩ : ∃ b, w.heap.size = b := ⟨_, rfl⟩
    have hW : Below B0 w w := by rw [← hB0e]; exact Below.refl _ _
    have hB0 : B0 ≤ w.heap.size := by omega
    have hB0q := Lib.hid hB0e
    clear hB0e
    go_upto_region 1 with fail
    refine region_last (n := n) (S := fun wr => Blk wr p1 22 (va .u8 key) ∧ Blk wr p2 30 (noV s c) ∧ Blk wr p3 27 (#[.int .u32 ((c0 + k : Nat) : Int)]) ∧ Blk wr p5 79 (va .u8 (Ci.exL key)) ∧ Below B0 w wr) 6 _ (by kernel_rfl) rfl rfl (by kernel_rfl) (by kernel_rfl) (by rintro ⟨_, _, ⟨_, h⟩, _⟩; cases h) ⟨hp1.drew, hp2.drew, hp3.drew, hp5.drew, below_drewN hW 1⟩ (fun hH => ?_)
    simp only [List.take_succ_cons, List.take_zero]
    clear hp1 hp2 hp3 hp5 hW
    obtain ⟨hp1, hp2, hp3, hp5, hW⟩ := hH
    generalize w.drew = w4 at *
    refine takeH 5 0 8 (.func (.yield l) #[] #[]) rfl rfl (by kernel_rfl) (by kernel_rfl) (by kernel_rfl) (fun _ _ _ h => h) (Or.inl ⟨by rfl, fun w _ => by go_simp⟩) ⟨hp1, hp2, hp3, hp5, hW⟩ ?_
    simp only [Ls]
    refine takeH 4 1 9 (.agg (va .u8 (Ci.exL key))) rfl rfl (by kernel_rfl) (by kernel_rfl) (by kernel_rfl) (fun _ _ _ h => h) (Or.inl ⟨by rfl, fun _ h => exec_row 79 (.tmp 5) rfl p5 rfl 79 (va .u8 (Ci.exL key)) _ h.2.2.2.1 (by exact Tryd.underlying79) rfl (sz_sched _ (Ci.exL_len key))⟩) ⟨hp1, hp2, hp3, hp5, hW⟩ ?_
    simp only [Ls]
    refine takeH 3 2 10 (.agg (noV s c)) rfl rfl (by kernel_rfl) (by kernel_rfl) (by kernel_rfl) (fun _ _ _ h => h) (Or.inl ⟨by rfl, fun _ h => exec_row 30 (.tmp 2) rfl p2 rfl 30 (noV s c) _ h.2.1 (by exact Tryd.underlying30) rfl (noV_sz _ _)⟩) ⟨hp1, hp2, hp3, hp5, hW⟩ ?_
    simp only [Ls]
    refine takeH 2 3 11 (.int .u32 (((c0 + k : Nat) : Int))) rfl rfl (by kernel_rfl) (by kernel_rfl) (by kernel_rfl) (fun _ _ _ h => h) (Or.inl ⟨by rfl, fun _ h => exec_cell 27 (.tmp 3) rfl p3 0 rfl (.int .u32 (((c0 + k : Nat) : Int))) _ Tryd.underlying27 rfl (h.2.2.1.cellIs 0 rfl)⟩) ⟨hp1, hp2, hp3, hp5, hW⟩ ?_
    simp only [Ls]
    refine wpAnyH_ready (by kernel_rfl) (by simp) (readyCons 1 4 12 rfl rfl (by rfl) (fun K hK => wp_callF 41 #[.agg (noV s c), .int .u32 (((c0 + k : Nat) : Int))] (by go_simp) (counter_any s c (c0 + k) hs hck _) ?_) AllReadyH.nil)
    rintro e w5 ⟨rfl, bx⟩
    replace hp1 := blB hp1 bx
    replace hp2 := blB hp2 bx
    replace hp3 := blB hp3 bx
    replace hp5 := blB hp5 bx
    replace hW := trB hW hB0 bx
    clear bx
    refine ⟨_, rfl, hK.out _ _ ⟨hp1, hp2, hp3, hp5, hW⟩ (fun _ => ?_)⟩
    clear hK K
    simp only [Ls]
    refine wpAnyH_ready (by kernel_rfl) (by simp) (readyCons 0 5 13 rfl rfl (by rfl) (fun K hK => wp_callF 40 #[.agg (va .u8 (Ci.exL key)), .agg (va .u8 (cbl s c (c0 + k)))] (by go_simp) (encrypt_any (Ci.exL key) (cbl s c (c0 + k)) (Ci.exL_len key) (cbl_len _ _ _) (Ci.exL_byt hkb) (cbl_byt _ _ _) _) ?_) AllReadyH.nil)
    rintro e w6 ⟨rfl, bx⟩
    replace hp1 := blB hp1 bx
    replace hp2 := blB hp2 bx
    replace hp3 := blB hp3 bx
    replace hp5 := blB hp5 bx
    replace hW := trB hW hB0 bx
    clear bx
    refine ⟨_, rfl, hK.out _ _ ⟨hp1, hp2, hp3, hp5, hW⟩ (fun _ => ?_)⟩
    clear hK K
    simp only [Ls]
    refine wpAnyH_done (by kernel_rfl) ?_ _
    have hj6 := hJbq.out k _ _ hj (by rw [hB0q.out]; exact hW)
    obtain ⟨-, fn, tmps, assign, body, hy, hR⟩ := hYq.out k _ hj6
    refine ⟨fun _ _ => trivial, ?_⟩
    clear hj hj6
    simp only [sbl] at hy
    go_simp
    refine ⟨by simp [Fence.wide], hR.mono ?_⟩
    clear hR hy
    rintro e w9 (⟨rfl, hj, hh⟩ | ⟨rfl, hx⟩)
    · replace hp1 := hp1.held hh hl1
      replace hp2 := hp2.held hh hl2
      replace hp3 := hp3.held hh hl3
      replace hp5 := hp5.held hh hl5
      obtain ⟨hkN2, -⟩ := hYq.out (k + 1) _ hj
      have hc3 := hp3.cellIs 0 rfl
      have hf3 := hp3.frozen 0
      have hcI : IntKind.u32.wrap (((c0 + k : Nat) : Int) + 1) = ((c0 + (k + 1) : Nat) : Int) := by simp [IntKind.wrap, IntKind.bits, IntKind.signed]; omega
      have hjc := hJcq.out (k + 1) _ (.int .u32 ((c0 + (k + 1) : Nat) : Int)) hj
      have h1 := hp1.far (p := ⟨p3, 0, none⟩) n13 (.int .u32 ((c0 + (k + 1) : Nat) : Int))
      have h2 := hp2.far (p := ⟨p3, 0, none⟩) n23 (.int .u32 ((c0 + (k + 1) : Nat) : Int))
      have h5 := hp5.far (p := ⟨p3, 0, none⟩) n53 (.int .u32 ((c0 + (k + 1) : Nat) : Int))
      have h3 := hp3.set_ 0 (.int .u32 ((c0 + (k + 1) : Nat) : Int))
      have qs := Lib.hid (And.intro hjc (And.intro h1 (And.intro h2 (And.intro h3 h5))))
      clear hjc h1 h2 h3 h5 hp1 hp2 hp5 hj
      go_wp2
      go_roundw
      case rel => exact ⟨k + 1, qs.out.1, qs.out.2.1, qs.out.2.2.1, qs.out.2.2.2.1, qs.out.2.2.2.2⟩
      case measure =>
        have e := ctr_is (v := c0 + (k + 1)) qs.out.2.2.2.1
        refine Nat.lt_of_le_of_lt (Nat.le_of_eq (congrArg (c0 + N - ·) e)) ?_
        have e0 := hm0.out
        show c0 + N - (c0 + (k + 1)) < c0 + N - ctrIs w p3
        rw [e0]
        omega
    · go_wp2
      go_end0
      exact ⟨⟨_, rfl⟩, hx⟩

set_option maxRecDepth 8000 in
set_option maxHeartbeats 2000000 in
theorem blocks_any (key : List Nat) (s c c0 : Nat) (_hkl : key.length = 16) (w : World) :
  Calls Tryd.prog 68 #[.agg (va .u8 key), .agg (noV s c), .int .u32 (c0 : Int)] w fun e w' => ∃ p1 p2 p3, e = .returned (.func (.func 79) #[] #[.pointer (some ⟨p1, 0, none⟩), .pointer (some ⟨p2, 0, none⟩), .pointer (some ⟨p3, 0, none⟩)]) ∧
   Blk w' p1 22 (va .u8 key) ∧ Blk w' p2 30 (noV s c) ∧ Blk w' p3 27 #[.int .u32 (c0 : Int)] ∧ w.heap.size ≤ p1 ∧ w.heap.size ≤ p2 ∧ w.heap.size ≤ p3 ∧ Below w.heap.size w w' := by
 obtain ⟨B0, hB0e, hW, hB0⟩ := stB w
 rw [hB0e]
 have hB0q := Lib.hid hB0e
 clear hB0e
 go_enter Tryd.func68, Tryd.ntmps68
 go_upto_region 0 with fail
 refine wl_lit ?_
 refine runWL 3 (.pointer (some ⟨w.heap.size, 0, none⟩)) (w.alloc (.cells (va .u8 key) 22)) rfl (by rfl) (exec_box 22 (.tmp 0) rfl (.agg (va .u8 key)) rfl) ?_
 simp only [Ls]
 have lw_p3 := Nat.le_trans hB0 hW.size
 have hp3 := Blk.new w 22 (va .u8 key)
 replace hW := alB hW hB0 (.cells (va .u8 key) 22)
 generalize w.alloc (.cells (va .u8 key) 22) = w1 at *
 generalize w.heap.size = p3 at hp3 lw_p3  ⊢
 refine runWL 4 (.pointer (some ⟨w1.heap.size, 0, none⟩)) (w1.alloc (.cells (noV s c) 30)) rfl (by rfl) (exec_box 30 (.tmp 1) rfl (.agg (noV s c)) rfl) ?_
 simp only [Ls]
 have lp3_p4 := hp3.lt
 have lw_p4 := Nat.le_trans hB0 hW.size
 have hp4 := Blk.new w1 30 (noV s c)
 have bx := bAl w1 (.cells (noV s c) 30)
 replace hp3 := blB hp3 bx
 replace hW := trB hW hB0 bx
 clear bx
 generalize w1.alloc (.cells (noV s c) 30) = w2 at *
 generalize w1.heap.size = p4 at hp4 lw_p4 lp3_p4 ⊢
 refine runWL 5 (.pointer (some ⟨w2.heap.size, 0, none⟩)) (w2.alloc (.cells (#[.int .u32 ((c0 : Nat) : Int)]) 27)) rfl (by rfl) (exec_box 27 (.tmp 2) rfl (.int .u32 ((c0 : Nat) : Int)) rfl) ?_
 simp only [Ls]
 have lp3_p5 := hp3.lt
 have lp4_p5 := hp4.lt
 have lw_p5 := Nat.le_trans hB0 hW.size
 have hp5 := Blk.new w2 27 (#[.int .u32 ((c0 : Nat) : Int)])
 have bx := bAl w2 (.cells (#[.int .u32 ((c0 : Nat) : Int)]) 27)
 replace hp3 := blB hp3 bx
 replace hp4 := blB hp4 bx
 replace hW := trB hW hB0 bx
 clear bx
 generalize w2.alloc (.cells (#[.int .u32 ((c0 : Nat) : Int)]) 27) = w3 at *
 generalize w2.heap.size = p5 at hp5 lw_p5 lp3_p5 lp4_p5 ⊢
 refine runL 6 (.nilFunc) rfl (by rfl) (by go_simp) ?_
 simp only [Ls]
 refine nilL ?_
 go_upto_region 1 with fail
 refine wl_lit ?_
 refine runL 7 (.func (.func 79) #[] #[.pointer (some ⟨p3, 0, none⟩), .pointer (some ⟨p4, 0, none⟩), .pointer (some ⟨p5, 0, none⟩)]) rfl (by rfl) (by go_simp) ?_
 refine runL 6 (.func (.func 79) #[] #[.pointer (some ⟨p3, 0, none⟩), .pointer (some ⟨p4, 0, none⟩), .pointer (some ⟨p5, 0, none⟩)]) rfl (by rfl) (by go_simp) ?_
 simp only [Ls]
 refine nilL ?_
 go_wp2_with fail
 go_ret
 exact ⟨_, _, _, rfl, hp3, hp4, hp5, lw_p3, lw_p4, lw_p5, hW⟩
end Go.Proofs.YtcfddmplnoknlaaDoor
namespace Go.Proofs.YtcfddmplnoknlaaDoor
set_option maxRecDepth 16384
open Go.RowKit Sh

def chkS (f m : Int) : Int := if f < 0 ∨ m < 0 then 1 else if 1048576 < f ∨ 1048576 - f < m then 3 else 0
set_option maxRecDepth 8000 in
set_option maxHeartbeats 2000000 in
theorem check_anyS (f m e : Int) (he : chkS f m = e) (hf : -9223372036854775808 ≤ f ∧ f ≤ 9223372036854775807) (hm : -9223372036854775808 ≤ m ∧ m ≤ 9223372036854775807) (w : World) :
  Calls Tryd.prog 67 #[.int .i64 f, .int .i64 m] w fun e' w' => e' = .returned (.int .i64 e) ∧ Below w.heap.size w w' := by
 obtain ⟨B0, hB0e, hW, hB0⟩ := stB w
 rw [hB0e]
 have hB0q := Lib.hid hB0e
 clear hB0e
 unfold chkS at he
 by_cases h1 : f < 0
 ·
  have heq := Lib.hid (he.symm.trans (if_pos (Or.inl h1)))
  clear he
  go_enter Tryd.func67, Tryd.ntmps67
  go_upto_region 0 with fail
  refine wl_lit ?_
  refine runL 4 (.int .i64 0) rfl (by rfl) (by go_simp) ?_
  simp only [Ls]
  refine nilL ?_
  go_upto_region 1 with fail
  refine wl_lit ?_
  refine runL 6 (.int .i64 f) rfl (by rfl) (by go_simp) ?_
  refine runL 7 (.bool true) rfl (by rfl) (by go_simp) ?_
  refine runL 8 (.bool true) rfl (by rfl) (by go_simp) ?_
  simp only [Ls]
  refine skipL 9 rfl (by kernel_rfl) ?_
  simp only [Ls]
  refine skipL 10 rfl (by kernel_rfl) ?_
  refine runL 11 (.bool true) rfl (by rfl) (by go_simp) ?_
  refine runL 5 (.bool true) rfl (by rfl) (by go_simp) ?_
  simp only [Ls]
  refine nilL ?_
  go_upto_region 2 with fail
  refine wl_lit ?_
  refine runL 4 (.int .i64 1) rfl (by rfl) (by go_simp) ?_
  simp only [Ls]
  refine nilL ?_
  go_wp2_with fail
  go_ret
  exact ⟨by rw [heq.out]; rfl, hW⟩
 by_cases h2 : m < 0
 ·
  have heq := Lib.hid (he.symm.trans (if_pos (Or.inr h2)))
  clear he
  go_enter Tryd.func67, Tryd.ntmps67
  go_upto_region 0 with fail
  refine wl_lit ?_
  refine runL 4 (.int .i64 0) rfl (by rfl) (by go_simp) ?_
  simp only [Ls]
  refine nilL ?_
  go_upto_region 1 with fail
  refine wl_lit ?_
  refine runL 6 (.int .i64 f) rfl (by rfl) (by go_simp) ?_
  refine runL 7 (.bool false) rfl (by rfl) (by go_simp) ?_
  refine runL 8 (.bool false) rfl (by rfl) (by go_simp) ?_
  refine runL 9 (.int .i64 m) rfl (by rfl) (by go_simp) ?_
  refine runL 10 (.bool true) rfl (by rfl) (by go_simp) ?_
  refine runL 11 (.bool true) rfl (by rfl) (by go_simp) ?_
  refine runL 5 (.bool true) rfl (by rfl) (by go_simp) ?_
  simp only [Ls]
  refine nilL ?_
  go_upto_region 2 with fail
  refine wl_lit ?_
  refine runL 4 (.int .i64 1) rfl (by rfl) (by go_simp) ?_
  simp only [Ls]
  refine nilL ?_
  go_wp2_with fail
  go_ret
  exact ⟨by rw [heq.out]; rfl, hW⟩
 rw [if_neg (by omega)] at he
 by_cases h3 : 1048576 < f
 ·
  have heq := Lib.hid (he.symm.trans (if_pos (Or.inl h3)))
  clear he
  go_enter Tryd.func67, Tryd.ntmps67
  go_upto_region 0 with fail
  refine wl_lit ?_
  refine runL 4 (.int .i64 0) rfl (by rfl) (by go_simp) ?_
  simp only [Ls]
  refine nilL ?_
  go_upto_region 1 with fail
  refine wl_lit ?_
  refine runL 6 (.int .i64 f) rfl (by rfl) (by go_simp) ?_
  refine runL 7 (.bool false) rfl (by rfl) (by go_simp) ?_
  refine runL 8 (.bool false) rfl (by rfl) (by go_simp) ?_
  refine runL 9 (.int .i64 m) rfl (by rfl) (by go_simp) ?_
  refine runL 10 (.bool false) rfl (by rfl) (by go_simp) ?_
  refine runL 11 (.bool false) rfl (by rfl) (by go_simp) ?_
  refine runL 5 (.bool false) rfl (by rfl) (by go_simp) ?_
  simp only [Ls]
  refine nilL ?_
  go_upto_region 3 with fail
  refine wl_lit ?_
  refine runL 13 (.int .i64 f) rfl (by rfl) (by go_simp) ?_
  refine runL 14 (.bool true) rfl (by rfl) (by go_simp) ?_
  refine runL 15 (.bool true) rfl (by rfl) (by go_simp) ?_
  simp only [Ls]
  refine skipL 16 rfl (by kernel_rfl) ?_
  simp only [Ls]
  refine skipL 17 rfl (by kernel_rfl) ?_
  simp only [Ls]
  refine skipL 18 rfl (by kernel_rfl) ?_
  simp only [Ls]
  refine skipL 19 rfl (by kernel_rfl) ?_
  refine runL 20 (.bool true) rfl (by rfl) (by go_simp) ?_
  refine runL 12 (.bool true) rfl (by rfl) (by go_simp) ?_
  simp only [Ls]
  refine nilL ?_
  go_upto_region 4 with fail
  refine wl_lit ?_
  refine runL 4 (.int .i64 3) rfl (by rfl) (by go_simp) ?_
  simp only [Ls]
  refine nilL ?_
  go_wp2_with fail
  go_ret
  exact ⟨by rw [heq.out]; rfl, hW⟩
 have hw : IntKind.i64.wrap (1048576 - f) = 1048576 - f := IntWalk.i64_in _ (by omega)
 by_cases h4 : 1048576 - f < m
 ·
  have heq := Lib.hid (he.symm.trans (if_pos (Or.inr h4)))
  clear he
  go_enter Tryd.func67, Tryd.ntmps67
  go_upto_region 0 with fail
  refine wl_lit ?_
  refine runL 4 (.int .i64 0) rfl (by rfl) (by go_simp) ?_
  simp only [Ls]
  refine nilL ?_
  go_upto_region 1 with fail
  refine wl_lit ?_
  refine runL 6 (.int .i64 f) rfl (by rfl) (by go_simp) ?_
  refine runL 7 (.bool false) rfl (by rfl) (by go_simp) ?_
  refine runL 8 (.bool false) rfl (by rfl) (by go_simp) ?_
  refine runL 9 (.int .i64 m) rfl (by rfl) (by go_simp) ?_
  refine runL 10 (.bool false) rfl (by rfl) (by go_simp) ?_
  refine runL 11 (.bool false) rfl (by rfl) (by go_simp) ?_
  refine runL 5 (.bool false) rfl (by rfl) (by go_simp) ?_
  simp only [Ls]
  refine nilL ?_
  go_upto_region 3 with fail
  refine wl_lit ?_
  refine runL 13 (.int .i64 f) rfl (by rfl) (by go_simp) ?_
  refine runL 14 (.bool false) rfl (by rfl) (by go_simp) ?_
  refine runL 15 (.bool false) rfl (by rfl) (by go_simp) ?_
  refine runL 16 (.int .i64 m) rfl (by rfl) (by go_simp) ?_
  refine runL 17 (.int .i64 f) rfl (by rfl) (by go_simp) ?_
  refine runL 18 (.int .i64 (1048576 - f)) rfl (by rfl) (by go_simp) ?_
  refine runL 19 (.bool true) rfl (by rfl) (by go_simp) ?_
  refine runL 20 (.bool true) rfl (by rfl) (by go_simp) ?_
  refine runL 12 (.bool true) rfl (by rfl) (by go_simp) ?_
  simp only [Ls]
  refine nilL ?_
  go_upto_region 4 with fail
  refine wl_lit ?_
  refine runL 4 (.int .i64 3) rfl (by rfl) (by go_simp) ?_
  simp only [Ls]
  refine nilL ?_
  go_wp2_with fail
  go_ret
  exact ⟨by rw [heq.out]; rfl, hW⟩
 ·
  have heq := Lib.hid (he.symm.trans (if_neg (by omega)))
  clear he
  go_enter Tryd.func67, Tryd.ntmps67
  go_upto_region 0 with fail
  refine wl_lit ?_
  refine runL 4 (.int .i64 0) rfl (by rfl) (by go_simp) ?_
  simp only [Ls]
  refine nilL ?_
  go_upto_region 1 with fail
  refine wl_lit ?_
  refine runL 6 (.int .i64 f) rfl (by rfl) (by go_simp) ?_
  refine runL 7 (.bool false) rfl (by rfl) (by go_simp) ?_
  refine runL 8 (.bool false) rfl (by rfl) (by go_simp) ?_
  refine runL 9 (.int .i64 m) rfl (by rfl) (by go_simp) ?_
  refine runL 10 (.bool false) rfl (by rfl) (by go_simp) ?_
  refine runL 11 (.bool false) rfl (by rfl) (by go_simp) ?_
  refine runL 5 (.bool false) rfl (by rfl) (by go_simp) ?_
  simp only [Ls]
  refine nilL ?_
  go_upto_region 3 with fail
  refine wl_lit ?_
  refine runL 13 (.int .i64 f) rfl (by rfl) (by go_simp) ?_
  refine runL 14 (.bool false) rfl (by rfl) (by go_simp) ?_
  refine runL 15 (.bool false) rfl (by rfl) (by go_simp) ?_
  refine runL 16 (.int .i64 m) rfl (by rfl) (by go_simp) ?_
  refine runL 17 (.int .i64 f) rfl (by rfl) (by go_simp) ?_
  refine runL 18 (.int .i64 (1048576 - f)) rfl (by rfl) (by go_simp) ?_
  refine runL 19 (.bool false) rfl (by rfl) (by go_simp) ?_
  refine runL 20 (.bool false) rfl (by rfl) (by go_simp) ?_
  refine runL 12 (.bool false) rfl (by rfl) (by go_simp) ?_
  simp only [Ls]
  refine nilL ?_
  go_upto_region 5 with fail
  refine wl_lit ?_
  refine runL 4 (.int .i64 0) rfl (by rfl) (by go_simp) ?_
  simp only [Ls]
  refine nilL ?_
  go_wp2_with fail
  go_ret
  exact ⟨by rw [heq.out]; rfl, hW⟩

end Go.Proofs.YtcfddmplnoknlaaDoor
namespace Go.Proofs.YtcfddmplnoknlaaDoor
set_option maxRecDepth 16384
open Sh
def xb (key : List Nat) (s c f : Nat) (d : List Nat) (i : Nat) : Nat := d.getD i 0 ^^^ (sbl key s c ((f + i) / 16)).getD ((f + i) % 16) 0
def xmix (key : List Nat) (s c f : Nat) (d : List Nat) (k : Nat) : List Nat := (List.range d.length).map fun i => if i < k then xb key s c f d i else d.getD i 0
def kxor (key : List Nat) (s c f : Nat) (d : List Nat) : List Nat := (List.range d.length).map (xb key s c f d)
section
variable {key : List Nat} {s c f : Nat} {d : List Nat}
theorem xmix_len (k : Nat) : (xmix key s c f d k).length = d.length := by simp [xmix]
theorem kxor_len : (kxor key s c f d).length = d.length := by simp [kxor]
theorem xmix_get {k i : Nat} (hi : i < d.length) : (xmix key s c f d k).getD i 0 = if i < k then xb key s c f d i else d.getD i 0 := by
 simp [xmix, List.getD_eq_getElem?_getD, hi]
theorem xmix_zero : xmix key s c f d 0 = d := by
 apply List.ext_getElem (by simp [xmix])
 intro i h1 h2
 simp [xmix, List.getD_eq_getElem?_getD, h2]
theorem xmix_all {k : Nat} (h : d.length ≤ k) : xmix key s c f d k = kxor key s c f d := by
 apply List.map_congr_left
 intro i hi
 have := List.mem_range.1 hi
 simp [show i < k by omega]
theorem xmix_step {k : Nat} (_hk : k < d.length) : (xmix key s c f d k).set k (xb key s c f d k) = xmix key s c f d (k + 1) := by
  apply List.ext_getElem (by simp [xmix])
  intro i h1 h2
  have hi : i < d.length := by simpa [xmix] using h2
  rw [List.getElem_set]
  by_cases e : k = i
  · subst e; simp [xmix]
  · simp only [xmix, List.getElem_map, List.getElem_range, if_neg e]
    by_cases hl : i < k
    · simp [hl, show i < k + 1 by omega]
    · simp [hl, show ¬ i < k + 1 by omega]
theorem kxor_twice : kxor key s c f (kxor key s c f d) = d := by
 apply List.ext_getElem (by simp [kxor])
 intro i h1 h2
 simp [kxor, xb, List.getD_eq_getElem?_getD, h2, Nat.xor_assoc]
end
theorem sbl_byt (key : List Nat) (s c k : Nat) (hkb : Byt key) : Byt (sbl key s c k) := Ci.encS_byt (Ci.exL_byt hkb) (cbl_byt _ _ _) 10
theorem xb_byt {key : List Nat} {s c f : Nat} {d : List Nat} (hkb : Byt key) (hdb : Byt d) (i : Nat) : xb key s c f d i < 256 := Nat.xor_lt_two_pow (n := 8) (hdb.get i) ((sbl_byt key s c _ hkb).get _)
theorem kxor_byt {key : List Nat} {s c f : Nat} {d : List Nat} (hkb : Byt key) (hdb : Byt d) : Byt (kxor key s c f d) := Ci.byt_map fun i _ => xb_byt hkb hdb i
end Go.Proofs.YtcfddmplnoknlaaDoor
namespace Go.Proofs.YtcfddmplnoknlaaDoor
set_option maxRecDepth 16384
open Go.RowKit

def noDefer (o : Oper) : Bool := match o.op with | .defer _ => false | _ => true
section
variable {P : Program} {n r : Nat}
theorem opIn_round {o : Oper} {a : Act} {w : World} {K K' : Act → World → Prop} {Q : Exit → Act → World → Prop} (hd : noDefer o = true) (hK : ∀ a w, K a w → K' a w) (h : o.wp P a w K Q) : o.wpIn (Fence.wide.inRound r) n P a w K' Q := by
 refine ⟨fun _ _ => trivial, ?_⟩
 show o.uponIn (Fence.wide.inRound r) n P a K' Q ((o.semAt (some r) a.eval).run P w)
 rw [Oper.semAt_some r a.eval o (fun c hc => by rw [noDefer, hc] at hd; cases hd)]
 unfold Oper.wp at h
 generalize (execOp a.eval o).run P w = x at *
 cases x with
 | ok x w' =>
  cases x <;> simp only [Oper.upon, Oper.uponIn] at h ⊢
  case value u => exact hK _ _ h
  case skip => exact hK _ _ h
  case defer d => exact hK _ _ h
  case enter f args =>
   refine ⟨fun h => by simp [Fence.wide] at h, CallsIn.inRound r (callsIn_wide.2 (h.mono fun e w'' he => ?_))⟩
   cases e with
   | returned u => exact hK _ _ he
   | panicked c => exact he
   | outgrown => exact he
  case row row args =>
   exact ⟨fun h => by simp [Fence.wide] at h, fun c cs _ => let ⟨v, w2, r, s⟩ := h c cs; ⟨v, w2, hK _ _ r, stepsIn_wide.2 s⟩⟩
 | halt x w' =>
  cases x <;> simp only [Oper.upon, Oper.uponIn] at h ⊢
  case panic u => exact h

theorem listIn_of {ops : Array Oper} {Q : Exit → Act → World → Prop} (hlet : ¬ LetsOut Q) : ∀ (l : List Oper) (a : Act) (w : World), l.all noDefer = true → wpList P ops Q l a w → wpListIn (Fence.wide.inRound r) n P ops Q l a w
  | [], _, _, _, h => h
  | o :: l, a, w, hn, h => by
    rw [List.all_cons, Bool.and_eq_true] at hn
    unfold wpList at h
    unfold wpListIn
    by_cases hw : Region.wanted o (yielded ops a.tmps) = true
    · rw [if_pos hw] at h ⊢
      rcases h with h | h
      · exact opIn_round hn.1 (fun a w hh => listIn_of hlet l a w hn.2 hh) h
      · exact absurd h.2 hlet
    · rw [if_neg hw] at h ⊢
      exact ⟨fun _ _ => trivial, listIn_of hlet l _ w hn.2 h⟩
theorem wl_litIn {id : Nat} {l : List Oper} {Q : Exit → Act → World → Prop} {a : Act} {w : World} (hn : l.all noDefer = true) (hlet : ¬ LetsOut Q) (h : WL P l.toArray Q l a w) :
  (Code.region id l.toArray false).wpIn (Fence.wide.inRound r) n P Q a w := wpIn_region_lit (listIn_of hlet l a w hn h.out)

theorem opIn_round2 {o : Oper} {a : Act} {w : World} {K K' : Act → World → Prop} {Q : Exit → Act → World → Prop} (hd : noDefer o = true) (hK : ∀ a w, K a w → K' a w) (h : o.wp P a w K (Exit.then (fun a w => Q .normal a w) (fun _ _ _ => False))) : o.wpIn (Fence.wide.inRound r) n P a w K' Q := by
 refine ⟨fun _ _ => trivial, ?_⟩
 show o.uponIn (Fence.wide.inRound r) n P a K' Q ((o.semAt (some r) a.eval).run P w)
 rw [Oper.semAt_some r a.eval o (fun c hc => by rw [noDefer, hc] at hd; cases hd)]
 unfold Oper.wp at h
 generalize (execOp a.eval o).run P w = x at *
 cases x with
 | ok x w' =>
  cases x <;> simp only [Oper.upon, Oper.uponIn] at h ⊢
  case value u => exact hK _ _ h
  case skip => exact hK _ _ h
  case defer d => exact hK _ _ h
  case enter f args =>
   refine ⟨fun h => by simp [Fence.wide] at h, CallsIn.inRound r (callsIn_wide.2 (h.mono fun e w'' he => ?_))⟩
   cases e with
   | returned u => exact hK _ _ he
   | panicked c => exact he.elim
   | outgrown => obtain ⟨_, _, hh⟩ := he; exact hh.elim
  case row row args =>
   exact ⟨fun h => by simp [Fence.wide] at h, fun c cs _ => let ⟨v, w2, r, s⟩ := h c cs; ⟨v, w2, hK _ _ r, stepsIn_wide.2 s⟩⟩
 | halt x w' =>
  cases x <;> simp only [Oper.upon, Oper.uponIn] at h ⊢
  case panic u => exact h.elim
theorem listIn_round {ops : Array Oper} {Q : Exit → Act → World → Prop} : ∀ (l : List Oper) (a : Act) (w : World), l.all noDefer = true → wpList P ops (Exit.then (fun a w => Q .normal a w) (fun _ _ _ => False)) l a w → wpListIn (Fence.wide.inRound r) n P ops Q l a w
  | [], _, _, _, h => h
  | o :: l, a, w, hn, h => by
    rw [List.all_cons, Bool.and_eq_true] at hn
    unfold wpList at h
    unfold wpListIn
    by_cases hw : Region.wanted o (yielded ops a.tmps) = true
    · rw [if_pos hw] at h ⊢
      rcases h with h | h
      · exact opIn_round2 hn.1 (fun a w hh => listIn_round l a w hn.2 hh) h
      · obtain ⟨_, _, hh⟩ := h.2
        exact hh.elim
    · rw [if_neg hw] at h ⊢
      exact ⟨fun _ _ => trivial, listIn_round l _ w hn.2 h⟩
theorem wl_round {id : Nat} {l : List Oper} {Q : Exit → Act → World → Prop} {a : Act} {w : World} (hn : l.all noDefer = true) (h : WL P l.toArray (Exit.then (fun a w => Q .normal a w) (fun _ _ _ => False)) l a w) :
  (Code.region id l.toArray false).wpIn (Fence.wide.inRound r) n P Q a w := wpIn_region_lit (listIn_round l a w hn h.out)
theorem anyIn_round {md : Region.Mode} {ops : Array Oper} {Q : Exit → Act → World → Prop} (hn : ops.all noDefer = true) :
    ∀ (fuel : Nat) (listed : Array Bool) (a : Act) (w : World), wpAny P md ops (Exit.then (fun a w => Q .normal a w) (fun _ _ _ => False)) fuel listed a w → wpAnyIn (Fence.wide.inRound r) n P md ops Q fuel listed a w := by
  intro fuel
  induction fuel with
  | zero => exact fun _ _ _ h => h
  | succ f ih =>
    intro listed a w h
    refine ⟨h.1, fun i hi => ?_⟩
    have h2 := h.2 i hi
    unfold wpOp at h2
    unfold wpOpIn
    cases ho : ops[i]? with
    | none => rw [ho] at h2; exact ih _ _ _ h2
    | some o =>
      rw [ho] at h2
      simp only at h2 ⊢
      have hno : noDefer o = true := by
        have := Array.all_eq_true_iff_forall_mem.1 hn o (Array.mem_of_getElem? ho)
        exact this
      by_cases hw : Region.wanted o (yielded ops a.tmps) = true
      · rw [if_pos hw] at h2 ⊢
        rcases h2 with h2 | h2
        · exact opIn_round2 hno (fun a w hh => ih _ a w hh) h2
        · obtain ⟨_, _, hh⟩ := h2.2
          exact hh.elim
      · rw [if_neg hw] at h2 ⊢
        exact ⟨fun _ _ => trivial, ih _ _ _ h2⟩
theorem wl_anyRound {ops : Array Oper} {Q : Exit → Act → World → Prop} {S : World → Prop} {id : Nat} {a : Act} {w : World} (hn : ops.all noDefer = true) (hm : P.follows .mixedOrders = true) (hS : S w.drew)
  (h : S w.drew → wpAnyH P .any ops (Exit.then (fun a w => Q .normal a w) (fun _ _ _ => False)) S ops.size (Array.replicate ops.size false) a w.drew) : (Code.region id ops true).wpIn (Fence.wide.inRound r) n P Q a w :=
 wpIn_region_any hm (anyIn_round hn _ _ _ _ (wpAny_of_held _ _ _ _ (h hS)))
theorem notOut_false {K : Act → World → Prop} : ¬ LetsOut (Exit.then K (fun _ _ _ => False)) := fun ⟨_, _, h⟩ => h
end
end Go.Proofs.YtcfddmplnoknlaaDoor
