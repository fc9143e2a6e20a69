/-
  Arguments that are blocks of 16 bytes, opened.
-/
import Derived.Test.YtmickadnliidnaaCPlain
import Derived.Test.YtmickadnliidnaaArr
import Derived.Test.YtmickadnliidnaaRow
namespace Go.Proofs.Ytmickadnliidnaa
open Go.RowKit Go.WideShapes Go.ChangeShapes Go.Joins

theorem va_ints (l : List Nat) : ((l.map (fun x : Nat => (x : Int))).map (Value.int .u8)).toArray = va .u8 l := by
  simp [va, nv, Function.comp_def]
section
variable {H : Type} {enc : TypeId × Value → H} {W : World}
/-- a block, opened -/
theorem open_blk {r0 : Reach} {b0 base : Nat} {sp : Nat → Bool} {held : Bool} {v : Value} {d : DataW H} {ps : List MemPlace} (hval : Value.okWide Try.prog W r0 b0 22 v) (hd : DataW.Trod enc Try.prog W base sp held 22 v d ps) :
    ∃ l : List Nat, v = .agg (va .u8 l) ∧ l.length = 16 ∧ Ci.Byt l := by
  obtain ⟨zs, rfl, hl, hw, _, _⟩ := open_numarr (e := 5) (n := 16) (q := .u8) (by kernel_rfl) Try.underlying5 (by kernel_rfl) (by kernel_rfl) hval hd
  obtain ⟨l, rfl, hb⟩ := nats_of .u8 256 u8_wf zs hw
  exact ⟨l, by rw [va_ints], by simpa using hl, hb⟩
end

/-! arrays of arrays of integers -/
section
variable {H : Type} {enc : TypeId × Value → H} {P : Program} {W : World} {base : Nat} {sp : Nat → Bool} {held : Bool}
def RowOf (enc : TypeId × Value → H) (P : Program) (W : World) (base : Nat) (sp : Nat → Bool) (held : Bool) (t : TypeId) (c : Nat) (q : IntKind) : Prop :=
  ∀ m cells x, DataW.trod enc P W base sp held m t cells = some x → ∃ zs : List Int, cells = zs.map (Value.int q) ∧ zs.length = c ∧ ∀ z ∈ zs, (Lit.int q z).wf = true
theorem rowOf_int {t : TypeId} {q : IntKind} (hu : P.underlying t = some (.int q)) : RowOf enc P W base sp held t 1 q := fun _ _ _ h => by
  obtain ⟨a, e, _, hw⟩ := DataW.trod_int hu h
  exact ⟨[a], e, rfl, fun z hz => by obtain rfl := List.mem_singleton.1 hz; exact hw⟩
theorem mapM_each {A B : Type} {f : A → Option B} : ∀ (L : List A) (ys : List B), L.mapM f = some ys → ∀ i ∈ L, ∃ y, f i = some y
  | [], _, _ => fun _ hi => by cases hi
  | a :: L, ys, h => fun i hi => by
    rw [List.mapM_cons] at h
    simp only [bind, Option.bind_eq_some_iff, pure, Option.some.injEq] at h
    obtain ⟨y, hy, zs, hzs, _⟩ := h
    rcases List.mem_cons.1 hi with rfl | hi
    · exact ⟨y, hy⟩
    · exact mapM_each L zs hzs i hi
theorem chunks {c : Nat} {q : IntKind} : ∀ (n : Nat) (cells : List Value), cells.length = n * c → (∀ i, i < n → ∃ zs : List Int, (cells.drop (i * c)).take c = zs.map (Value.int q) ∧ ∀ z ∈ zs, (Lit.int q z).wf = true) →
    ∃ zs : List Int, cells = zs.map (Value.int q) ∧ zs.length = n * c ∧ ∀ z ∈ zs, (Lit.int q z).wf = true
  | 0, cells, hl, _ => ⟨[], by simpa using hl, by simp, fun _ h => by cases h⟩
  | n + 1, cells, hl, h => by
    obtain ⟨z0, e0, w0⟩ := h 0 (by omega)
    rw [Nat.zero_mul, List.drop_zero] at e0
    have hl' : (cells.drop c).length = n * c := by rw [List.length_drop, hl, Nat.add_mul, Nat.one_mul]; omega
    obtain ⟨z1, e1, _, w1⟩ := chunks n (cells.drop c) hl' (fun i hi => by
      obtain ⟨zs, e, hw⟩ := h (i + 1) (by omega)
      refine ⟨zs, ?_, hw⟩
      rw [List.drop_drop, show c + i * c = (i + 1) * c from by rw [Nat.add_mul]; omega]
      exact e)
    have ec : cells = (z0 ++ z1).map (Value.int q) := by rw [List.map_append, ← e0, ← e1, List.take_append_drop]
    refine ⟨z0 ++ z1, ec, ?_, fun z hz => ?_⟩
    · rw [← hl, ec, List.length_map]
    · rcases List.mem_append.1 hz with h1 | h1
      · exact w0 z h1
      · exact w1 z h1
theorem rowOf_array {t e : TypeId} {n c : Nat} {q : IntKind} (hu : P.underlying t = some (.array n e)) (he : RowOf enc P W base sp held e c q) (hce : P.cellsOf e = c) (hct : P.cellsOf t = n * c) : RowOf enc P W base sp held t (n * c) q := fun m cells x h => by
  cases m with
  | zero => simp [DataW.trod] at h
  | succ m =>
    rw [DataW.trod_step] at h
    unfold DataW.trodStep at h
    simp only [hu, hce, hct] at h
    by_cases hl : cells.length = n * c
    · rw [if_pos hl] at h
      simp only [Option.map_eq_some_iff] at h
      obtain ⟨ys, hy, _⟩ := h
      refine chunks n cells hl fun i hi => ?_
      obtain ⟨y, hy⟩ := mapM_each _ _ hy i (List.mem_range.2 hi)
      obtain ⟨zs, e1, _, hw⟩ := he m _ y hy
      exact ⟨zs, e1, hw⟩
    · rw [if_neg hl] at h
      cases h
/-- an array of blocks, opened -/
theorem open_sched {W : World} {r0 : Reach} {b0 : Nat} {v : Value} {d : DataW H} {ps : List MemPlace} (hval : Value.okWide Try.prog W r0 b0 23 v) (hd : DataW.Trod enc Try.prog W base sp held 23 v d ps) :
    ∃ l : List Nat, v = .agg (va .u8 l) ∧ l.length = 176 ∧ Ci.Byt l := by
  have hu : Try.prog.underlying 23 = some (.array 11 22) := by kernel_rfl
  simp only [Value.okWide, hu] at hval
  obtain ⟨xs, rfl, _, _⟩ := hval
  obtain ⟨fuel, hf⟩ := hd
  have h1 : RowOf enc Try.prog W base sp held 5 1 .u8 := rowOf_int Try.underlying5
  have h2 : RowOf enc Try.prog W base sp held 22 (16 * 1) .u8 := rowOf_array Try.underlying22 h1 (by kernel_rfl) (by kernel_rfl)
  have h3 : RowOf enc Try.prog W base sp held 23 (11 * (16 * 1)) .u8 := rowOf_array hu h2 (by kernel_rfl) (by kernel_rfl)
  obtain ⟨zs, e, hl, hw⟩ := h3 _ _ _ hf
  obtain ⟨l, rfl, hb⟩ := nats_of .u8 256 u8_wf zs hw
  refine ⟨l, ?_, by simpa using hl, hb⟩
  have e2 : xs.toList = (l.map (fun x : Nat => (x : Int))).map (Value.int .u8) := by simpa [Value.cells] using e
  rw [← va_ints, ← e2]
end
end Go.Proofs.Ytmickadnliidnaa
