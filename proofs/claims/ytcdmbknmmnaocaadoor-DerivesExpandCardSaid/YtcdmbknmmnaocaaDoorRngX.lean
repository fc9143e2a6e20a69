/-
  A range over an iterator that is left by a break ahead of its end: its contract, and the statement by it.
-/
import Derived.Test.YtcdmbknmmnaocaaDoorRng
import Derived.ControlIn
namespace Go.Proofs.YtcdmbknmmnaocaaDoor
open Go.RowKit

/-- the contract: its k-th value (k < M) goes to the k-th round; it turns no cells; it needs G of the worlds -/
def EndlessG (P : Program) (g : Nat) (lb : Array Value) (enc : Nat → Value) (lo M : Nat) (G : World → Prop) (w : World) : Prop :=
  ∀ (n l N : Nat) (J : Nat → World → Prop) (Jx : World → Prop), N ≤ M →
    (∀ k A B, J k A → Below A.heap.size A B → J k B) → (∀ k A, J k A → G A) →
    (∀ k W, J k W → k < N ∧ YieldAt Fence.wide (n - 1) P l #[enc k] W fun e W' =>
      (e = .returned (.bool true) ∧ J (k + 1) W' ∧ Holds lo W W') ∨ (e = .returned (.bool false) ∧ Jx W')) →
    ∀ W, Holds lo w W → J 0 W →
    CallsIn Fence.wide n P g (#[.func (.yield l) #[] #[]] ++ lb) W fun e W' => (∃ v, e = .returned v) ∧ Jx W'

/-- how a round's body is left -/
def endPostX (id lo : Nat) (I Ix : World → Prop) (W : World) : Exit → Act → World → Prop
  | .normal, _, W' => KeepsOthers W W' ∧ Holds lo W W' ∧ I W'
  | .exit i, _, W' => i = id ∧ KeepsOthers W W' ∧ Ix W'
  | _, _, _ => False

theorem wp_rangeBreak {P : Program} {n : Nat} {g : Operand} {p : Tmp} {assign body : Code} {Q : Exit → Act → World → Prop} {a : Act} {w : World} {gf : Nat} {lb : Array Value}
    (hg : a.eval g = .func (.func gf) #[] lb) (eg : ∀ args w, (callFunc gf args).run P w = .ok (.enter gf args) w) {enc : Nat → Value} {id lo M : Nat} {G : World → Prop} (hseq : EndlessG P gf lb enc lo M G w)
    (I : Nat → World → Prop) (Ix : World → Prop) (N : Nat) (hNM : N ≤ M) (Ax : Nat → Act → World → Prop)
    (hIb : ∀ k A B, I k A → Below A.heap.size A B → I k B) (hIc : ∀ k A, I k A → G A)
    (hIp : ∀ k A l o o', w.heap.size ≤ l → I k A → A.heap[l]? = some o → o.isCells = false → I k (A.putObj l o'))
    (hXp : ∀ A l o o', w.heap.size ≤ l → Ix A → A.heap[l]? = some o → o.isCells = false → Ix (A.putObj l o'))
    (hAp : ∀ k a₁ A l o o', w.heap.size ≤ l → Ax k a₁ A → A.heap[l]? = some o → o.isCells = false → Ax k a₁ (A.putObj l o'))
    (h0 : I 0 w) (hN : ∀ k W, I k W → k < N)
    (hassign : ∀ (m l k : Nat) (W : World) (K : Act → World → Prop), I k W → (∀ a₁ W1, Below W.heap.size W W1 → Ax k a₁ W1 → K a₁ W1) →
      assign.wpIn (Fence.wide.inRound l) m P (Exit.then K (fun _ _ _ => False)) { tmps := a.tmps.setIfInBounds p (enc k), defers := [] } W)
    (hbody : ∀ (m l k : Nat) (a₁ : Act) (W : World), Ax k a₁ W → body.wpIn (Fence.wide.inRound l) m P (endPostX id lo (I (k + 1)) Ix W) a₁ W)
    (hstop : ∀ (D : Nat) (W : World), w.heap.size ≤ D → Ix W → W.heap[D]? = some (.deferred (some [])) → Q (.exit id) { a with defers := { target := .collected D, args := #[] } :: a.defers } W) :
    (Code.rangeFunc g #[p] assign body).wpIn Fence.wide n P Q a w := by
  refine wpIn_rangeFunc fun fn _ => ?_
  let rec0 : LoopState → Option Code → Loop := fun st pe => { state := st, pending := pe, fn, tmps := a.tmps, params := #[p], assign, body, defers := w.heap.size }
  obtain ⟨rc, hrc⟩ : ∃ rc, rc = rec0 := ⟨_, rfl⟩
  obtain ⟨W1, hW1⟩ : ∃ W1, (w.alloc (.deferred (some []))).alloc (.loop (rc .ready none)) = W1 := ⟨_, rfl⟩
  have hb1 : Below w.heap.size w W1 := by rw [← hW1]; exact ((Below.refl _ w).alloc (Nat.le_refl _) _).alloc (by simp) _
  have hL1 : W1.heap[w.heap.size + 1]? = some (.loop (rc .ready none)) := by
    rw [← hW1]; have := World.alloc_heap_new (w.alloc (.deferred (some []))) (.loop (rc .ready none)); rwa [World.size_alloc] at this
  have hK1 : W1.heap[w.heap.size]? = some (.deferred (some [])) := by
    rw [← hW1]; exact (Below.heap_alloc _ _ _ (by simp)).trans (World.alloc_heap_new w _)
  have hlt1 : ∀ {A : World} {b : Nat} {o : Obj}, A.heap[b]? = some o → b < A.heap.size := fun h => (Array.getElem?_eq_some_iff.1 h).1
  refine ⟨w.heap.size + 1, [{ target := .collected w.heap.size, args := #[] }], W1, { target := .fn (.func gf) lb, args := #[.func (.yield (w.heap.size + 1)) #[] #[]] }, W1, gf,
    #[.func (.yield (w.heap.size + 1)) #[] #[]] ++ lb, W1, ?_, ?_, fun _ _ => trivial, ?_, fun h => by simp [Fence.wide] at h, ?_⟩
  · rw [← hW1, hrc]; exact run_enterLoop_outer _ _ _ _ _
  · simp only [resolve, hg]
    simp [go_sem]
  · simp [invoke, go_sem, eg]
  refine (hseq (n - 1) (w.heap.size + 1) N
    (fun k W => I k W ∧ W.heap[w.heap.size + 1]? = some (.loop (rc .ready none)) ∧ W.heap[w.heap.size]? = some (.deferred (some [])))
    (fun W => Ix W ∧ W.heap[w.heap.size + 1]? = some (.loop (rc .done (some (.exit id)))) ∧ W.heap[w.heap.size]? = some (.deferred (some []))) hNM
    (fun k A B h hb => ⟨hIb k A B h.1 hb, (hb.block _ (hlt1 h.2.1)).trans h.2.1, (hb.block _ (hlt1 h.2.2)).trans h.2.2⟩)
    (fun k A h => hIc k A h.1)
    ?_ W1 (Holds.below hb1) ⟨hIb 0 w W1 h0 hb1, hL1, hK1⟩).mono ?_
  · rintro k W ⟨hi, hl, hk⟩
    refine ⟨hN k W hi, ?_⟩
    have hy := run_yield (P := P) (args := #[enc k]) hl (by rw [hrc]; rfl)
    refine ⟨_, _, _, _, hy, roundIn_of_wpIn trivial ?_⟩
    have e1 : (rc .ready none).assign = assign := by rw [hrc]
    have e2 : (rc .ready none).body = body := by rw [hrc]
    have e3 : ((rc .ready none).params.zip #[enc k]).foldl (fun tmps (t, a) => tmps.setIfInBounds t a) (rc .ready none).tmps = a.tmps.setIfInBounds p (enc k) := by rw [hrc]; simp [rec0]
    rw [e1, e2, e3]
    refine hassign _ _ k W _ hi fun a₁ W2 hb2 hA => ?_
    have hl2 := (hb2.block _ (hlt1 hl)).trans hl
    have hk2 := (hb2.block _ (hlt1 hk)).trans hk
    refine ⟨_, run_beginRound hl2 (by rw [hrc]), ?_⟩
    have hA3 := hAp k a₁ W2 _ _ (.loop { rc .ready none with state := .busy }) (by omega) hA hl2 rfl
    have hh3 : Holds lo W2 (W2.putObj (w.heap.size + 1) (.loop { rc .ready none with state := .busy })) := Holds.put _ hl2 rfl
    have hl3 : (W2.putObj (w.heap.size + 1) (.loop { rc .ready none with state := .busy })).heap[w.heap.size + 1]? = some (.loop { rc .ready none with state := .busy }) := World.putObj_heap_same (hlt1 hl2)
    have hk3 : (W2.putObj (w.heap.size + 1) (.loop { rc .ready none with state := .busy })).heap[w.heap.size]? = some (.deferred (some [])) := (World.putObj_heap_other (by omega)).trans hk2
    refine wpIn_mono (hbody _ _ k a₁ _ hA3) ?_
    generalize W2.putObj (w.heap.size + 1) (.loop { rc .ready none with state := .busy }) = W3 at *
    have hlo3 : Holds lo W W3 := (Holds.below hb2).trans hh3
    rintro e a4 W4 hp
    cases e with
    | normal =>
      obtain ⟨hko, hh, hi4⟩ := hp
      have hl4 := hko.same _ _ hl3 rfl
      have hk4 := hko.same _ _ hk3 rfl
      refine ⟨_, _, run_endRound none hl4, .inl ⟨rfl, ⟨hIp _ _ _ _ _ (by omega) hi4 hl4 rfl, ?_, (World.putObj_heap_other (by omega)).trans hk4⟩, hlo3.trans (hh.trans (Holds.put _ hl4 rfl))⟩⟩
      rw [World.putObj_heap_same (hlt1 hl4), hrc]; rfl
    | exit i =>
      obtain ⟨rfl, hko, hi4⟩ := hp
      have hl4 := hko.same _ _ hl3 rfl
      have hk4 := hko.same _ _ hk3 rfl
      refine ⟨_, _, run_endRound (some (.exit i)) hl4, .inr ⟨rfl, hXp _ _ _ _ (by omega) hi4 hl4 rfl, ?_, (World.putObj_heap_other (by omega)).trans hk4⟩⟩
      rw [World.putObj_heap_same (hlt1 hl4), hrc]; rfl
    | ret => exact hp.elim
    | goto t => exact hp.elim
    | panic ch => exact hp.elim
    | outgrown => exact hp.elim
  · rintro e W2 ⟨⟨v, rfl⟩, hi, hl, hk⟩
    refine ⟨_, _, run_endLoop hl (by rw [hrc]; simp [rec0]), ?_⟩
    have ep : (rc .done (some (.exit id))).pending = some (.exit id) := by rw [hrc]
    rw [ep]
    exact wpIn_exit (hstop _ _ (Nat.le_refl _) (hXp _ _ _ _ (by omega) hi hl rfl) ((World.putObj_heap_other (by omega)).trans hk))

theorem notOut_endX {id lo : Nat} {I Ix : World → Prop} {W : World} : ¬ LetsOut (endPostX id lo I Ix W) := fun ⟨_, _, h⟩ => h
end Go.Proofs.YtcdmbknmmnaocaaDoor
