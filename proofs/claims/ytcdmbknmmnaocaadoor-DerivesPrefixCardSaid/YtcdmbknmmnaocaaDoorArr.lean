/-
  Arguments that are arrays of integers, opened and shut.
-/
import Derived.Test.YtcdmbknmmnaocaaDoorAid
import Derived.OpenShut
import Derived.ChangeReads
import Derived.ChangeArms
import Derived.WideShapes
import Derived.ChangeShapes
namespace Go.Proofs.YtcdmbknmmnaocaaDoor
open Go.RowKit Go.ChangeShapes Go.WideShapes

section
variable {H : Type} {enc : TypeId × Value → H} {P : Program} {t e : TypeId} {n : Nat} {q : IntKind} {w : World} {base : Nat} {sp : Nat → Bool} {held : Bool}

theorem mapM_ints (he : P.underlying e = some (.int q)) {m : Nat} {cs : List Value} : ∀ (L : List Nat) (xs : List (DataW H × List MemPlace)),
    L.mapM (fun i => DataW.trod enc P w base sp held m e ((cs.drop (i * 1)).take 1)) = some xs →
    ∃ zs : List Int, xs = zs.map (fun z => (.lit (.int q z), [])) ∧ zs.length = L.length ∧ (∀ z ∈ zs, (Lit.int q z).wf = true) ∧ ∀ j (hj : j < L.length) (hz : j < zs.length), cs[L[j]]? = some (.int q zs[j])
  | [], xs, h => by
    simp at h
    subst h
    exact ⟨[], rfl, rfl, (fun z hz => by cases hz), (fun j hj => by cases hj)⟩
  | i :: L, xs, h => by
    rw [List.mapM_cons] at h
    simp only [bind, Option.bind_eq_some_iff, pure, Option.some.injEq] at h
    obtain ⟨y, hy, ys, hys, rfl⟩ := h
    obtain ⟨zs, rfl, hl, hw, hc⟩ := mapM_ints he L ys hys
    obtain ⟨a, ea, rfl, wa⟩ := DataW.trod_int he hy
    refine ⟨a :: zs, rfl, by simp [hl], fun z hz => ?_, fun j hj hz => ?_⟩
    · rcases List.mem_cons.1 hz with rfl | h0
      · exact wa
      · exact hw z h0
    · cases j with
      | zero =>
        have := congrArg (fun l : List Value => l[0]?) ea
        simpa [List.getElem?_take, List.getElem?_drop] using this
      | succ j => exact hc j (by simpa using hj) (by simpa using hz)

/-- an array of integers, opened -/
theorem open_numarr (hu : P.underlying t = some (.array n e)) (he : P.underlying e = some (.int q)) (hc1 : P.cellsOf e = 1) (hcn : P.cellsOf t = n) {r : Reach} {b0 : Nat} {v : Value} {d : DataW H} {ps : List MemPlace}
    (hval : Value.okWide P w r b0 t v) (hd : DataW.Trod enc P w base sp held t v d ps) :
    ∃ zs : List Int, v = .agg (zs.map (Value.int q)).toArray ∧ zs.length = n ∧ (∀ z ∈ zs, (Lit.int q z).wf = true) ∧ ps = [] ∧ d = .agg (zs.map fun z => .lit (.int q z)) := by
  simp only [Value.okWide, hu] at hval
  obtain ⟨xs, rfl, hsz, _⟩ := hval
  rw [hcn] at hsz
  obtain ⟨fuel, hf⟩ := hd
  cases fuel with
  | zero => simp [DataW.trod] at hf
  | succ m =>
    rw [DataW.trod_step] at hf
    unfold DataW.trodStep at hf
    simp only [hu, Value.cells] at hf
    rw [if_pos (by rw [hcn]; simpa using hsz), hc1] at hf
    simp only [Option.map_eq_some_iff] at hf
    obtain ⟨ys, hy, e1⟩ := hf
    obtain ⟨zs, rfl, hl, hw, hc⟩ := mapM_ints he _ ys hy
    rw [List.length_range] at hl
    simp only [Prod.mk.injEq] at e1
    refine ⟨zs, ?_, hl, hw, ?_, ?_⟩
    · congr 1
      apply Array.ext
      · simp [hl, hsz]
      · intro i h1 h2
        have h3 : i < zs.length := by simpa using h2
        have h4 := hc i (by rw [List.length_range]; omega) h3
        simp at h4
        have h5 : xs[i]? = some (.int q zs[i]) := by simpa using h4
        rw [Array.getElem?_eq_getElem h1] at h5
        simpa using Option.some.inj h5
    · rw [← e1.2]; simp [List.flatMap_eq_nil_iff]
    · rw [← e1.1]; simp [Function.comp_def]

theorem mapM_ints_mk (he : P.underlying e = some (.int q)) {cs : List Value} : ∀ (L : List Nat) (zs : List Int), zs.length = L.length → (∀ z ∈ zs, (Lit.int q z).wf = true) → (∀ j (hj : j < L.length) (hz : j < zs.length), (cs.drop (L[j] * 1)).take 1 = [.int q zs[j]]) →
    L.mapM (fun i => DataW.trod enc P w base sp held 1 e ((cs.drop (i * 1)).take 1)) = some (zs.map (fun z => (.lit (.int q z), [])))
  | [], zs, hl, _, _ => by
    obtain rfl := List.eq_nil_of_length_eq_zero hl
    rfl
  | i :: L, [], hl, _, _ => by simp at hl
  | i :: L, z :: zs, hl, hw, hc => by
    have h0 := hc 0 (by simp) (by simp)
    have ih := mapM_ints_mk he (cs := cs) L zs (by simpa using hl) (fun z hz => hw z (List.mem_cons_of_mem _ hz)) (fun j hj hz => hc (j + 1) (by simpa using hj) (by simpa using hz))
    have hz := hw z (List.mem_cons_self ..)
    rw [List.mapM_cons, ih]
    simp only [List.getElem_cons_zero] at h0
    rw [h0]
    simp [DataW.trod, he, hz]

/-- an array of integers, shut: in whatever world -/
theorem shut_numarr (hu : P.underlying t = some (.array n e)) (he : P.underlying e = some (.int q)) (hc1 : P.cellsOf e = 1) (hcn : P.cellsOf t = n) {zs : List Int} (hl : zs.length = n) (hw : ∀ z ∈ zs, (Lit.int q z).wf = true) :
    DataW.Trod enc P w base sp held t (.agg (zs.map (Value.int q)).toArray) (.agg (zs.map fun z => .lit (.int q z))) [] := by
  refine ⟨2, ?_⟩
  rw [DataW.trod_step]
  unfold DataW.trodStep
  simp only [hu, Value.cells]
  rw [if_pos (by rw [hcn]; simpa using hl), hc1, mapM_ints_mk he (List.range n) zs (by simpa using hl) hw (fun j hj hz => by
    simp only [List.getElem_range, Nat.mul_one]
    rw [List.drop_eq_getElem_cons (by simpa using hz)]
    simp)]
  simp [Function.comp_def, List.flatMap_eq_nil_iff]
end

/-- well-formed unsigned numbers are natural numbers -/
theorem nats_of (q : IntKind) (m : Nat) (hq : ∀ z : Int, (Lit.int q z).wf = true → 0 ≤ z ∧ z < (m : Int)) : ∀ zs : List Int, (∀ z ∈ zs, (Lit.int q z).wf = true) → ∃ l : List Nat, zs = l.map (fun x : Nat => (x : Int)) ∧ ∀ x ∈ l, x < m
  | [], _ => ⟨[], rfl, fun _ h => by cases h⟩
  | z :: zs, hw => by
    obtain ⟨h0, h1⟩ := hq z (hw z (List.mem_cons_self ..))
    obtain ⟨l, rfl, hl⟩ := nats_of q m hq zs (fun y hy => hw y (List.mem_cons_of_mem _ hy))
    refine ⟨z.toNat :: l, ?_, fun x hx => ?_⟩
    · rw [List.map_cons]; congr 1; omega
    · rcases List.mem_cons.1 hx with rfl | h2
      · omega
      · exact hl x h2
theorem u8_wf (z : Int) (h : (Lit.int .u8 z).wf = true) : 0 ≤ z ∧ z < ((256 : Nat) : Int) := by
  have hx : 0 ≤ z ∧ z ≤ 255 := by simpa [Lit.wf, IntKind.min, IntKind.max, IntKind.signed, IntKind.bits] using h
  omega
theorem u32_wf (z : Int) (h : (Lit.int .u32 z).wf = true) : 0 ≤ z ∧ z < ((4294967296 : Nat) : Int) := by
  have hx : 0 ≤ z ∧ z ≤ 4294967295 := by simpa [Lit.wf, IntKind.min, IntKind.max, IntKind.signed, IntKind.bits] using h
  omega
end Go.Proofs.YtcdmbknmmnaocaaDoor
