/-
  DigestsCompress ('caisson/caissonlaw02.DigestsCompress'): for every state and every block the law returns true, and each argument reads behind the call as it read before. No condition: the package-level tables are tied to the program's text by the card.
-/
import Derived.Test.YtbjgkolblfpakaaDoorCards
import Derived.Test.YtbjgkolblfpakaaDoorTie
import Derived.Test.YtbjgkolblfpakaaDoorDgComp
import Derived.Test.YtbjgkolblfpakaaDoorArr
import Derived.Test.YtbjgkolblfpakaaDoorRow
import Derived.Deep.DeepHandedRow
import Derived.Lib.LaidTab
namespace Go.Proofs.YtbjgkolblfpakaaDoor.digestsCompress
open Go.ChangeShapes Go.WideShapes Go.ChangeAt Go.RowKit Sh

theorem own : ownKnob Tryd.prog.godebug = none := by kernel_rfl
theorem gI : Tryd.prog.globalNamed "caisson/digests.initial" = some 1 := by kernel_rfl
theorem gC : Tryd.prog.globalNamed "caisson/digests.constants" = some 0 := by kernel_rfl
theorem gIt : (Tryd.prog.globals[1]?).map (·.type) = some 23 := by kernel_rfl
theorem gCt : (Tryd.prog.globals[0]?).map (·.type) = some 26 := by kernel_rfl
def ints (l : List Nat) : List Int := l.map fun x : Nat => (x : Int)
theorem datI : (Rows.laid_caisson_digests_initial : DataW Unit) = Lib.tabData .u32 (ints hL) := by kernel_rfl
theorem datC : (Rows.laid_caisson_digests_constants : DataW Unit) = Lib.tabData .u32 (ints kL) := by kernel_rfl
theorem tab_second {P : Program} {W : World} {n1 : String} {d1 : DataW Unit} {name : String} {k : IntKind} {zs : List Int} {rest : List (String × DataW Unit)} {g : Nat} {t e : TypeId} {n : Nat}
    (hg : P.globalNamed name = some g) (hty : (P.globals[g]?).map (·.type) = some t) (ht : P.underlying t = some (.array n e)) (he : P.underlying e = some (.int k)) (hce : P.cellsOf e = 1) (hct : P.cellsOf t = n)
    (h : laidMet P ((n1, d1) :: (name, Lib.tabData k zs) :: rest) W) : Lib.TabIs P W name k zs := by
  obtain ⟨ps, ⟨_, _, _, _, _, q1, _, _, _, _, ⟨g', t', cs, fuel, p, q, hg', ht', hvar, hd, _, _⟩, _⟩, _⟩ := h
  obtain rfl := Option.some.inj (hg.symm.trans hg')
  obtain rfl := Option.some.inj (hty.symm.trans ht')
  unfold Lib.TabIs
  rw [hvar, ← Lib.cells_of_tab ht he hce hct hd]
theorem range_of {W : World} {name : String} {l : List Nat} {g : Nat} (h : Lib.TabIs Tryd.prog W name .u32 (ints l)) (hg : Tryd.prog.globalNamed name = some g) : W.rangeAt g 0 (nv .u32 l) := fun j v hv => by
  have hj : j < l.length := by
    rcases Nat.lt_or_ge j l.length with h0 | h0
    · exact h0
    · rw [List.getElem?_eq_none (by rw [nv_len]; exact h0)] at hv; cases hv
  have hc := h.cell hg j (by simpa [ints] using hj)
  rw [nv_get hj] at hv
  injection hv with hv
  subst hv
  rw [Nat.zero_add, hc]
  simp [ints, List.getD_eq_getElem?_getD, hj]
theorem glob {W : World} (h0 : laidMetH Tryd.prog Rows.digestsCompressRow.laid W) : Glob W := by
  have h : laidMet Tryd.prog [("caisson/digests.initial", Rows.laid_caisson_digests_initial), ("caisson/digests.constants", Rows.laid_caisson_digests_constants)] W := h0
  rw [datI, datC] at h
  have hI := range_of (Lib.tabIs_of_head (e := 22) (n := 8) gI gIt (by kernel_rfl) (by kernel_rfl) (by kernel_rfl) (by kernel_rfl) h) gI
  have hC := range_of (tab_second (e := 22) (n := 64) gC gCt (by kernel_rfl) (by kernel_rfl) (by kernel_rfl) (by kernel_rfl) h) gC
  refine ⟨hC, hI, ?_, ?_⟩
  · have := hC 0 _ (nv_get (by rw [kL_len]; omega))
    exact World.block_lt_of_cell? W _ this
  · have := hI 0 _ (nv_get (by rw [hL_len]; omega))
    exact World.block_lt_of_cell? W _ this
theorem vaInts (k : IntKind) (l : List Nat) : ((l.map (fun x : Nat => (x : Int))).map (Value.int k)).toArray = va k l := by
  simp [va, nv, Function.comp_def]

theorem contract (H : Type) (enc : TypeId × Value → H) (W : World) (base : Nat) (args : Array Value) (ds gs : List (DataW H)) (before : List MemPlace)
    (hval0 : ∀ (j : Nat) t v, Tryd.f3.params[j]? = some t → args[j]? = some v → Value.okWide Tryd.prog W .any base t v)
    (hW : DataW.Whole enc Tryd.prog Tryd.f3.params.toList Rows.digestsCompressSpec.vars false W args.toList ds gs before) (hL0 : laidMetH Tryd.prog Rows.digestsCompressRow.laid W) :
    Calls Tryd.prog 3 args W fun e W' => ∃ v, e = .returned v ∧ Rows.digestsCompressSpec.post enc Tryd.prog Tryd.f3 false true false false W args v W' := by
  have hval := hval0
  have hW' := hW
  obtain ⟨p, q, hA0, hV, rfl, hfz, hnd⟩ := hW
  have hA : DataW.TrodAll enc Tryd.prog W 0 (fun _ => true) true Tryd.f3.params.toList args.toList ds p := hA0
  rw [Tryd.params3] at hA hval
  obtain ⟨v0, vs0, d0, ds0, p0, q0, hargs, rfl, rfl, h0, r0⟩ := trodAll_cons hA
  obtain ⟨v1, vs1, d1, ds1, p1, q1, rfl, rfl, rfl, h1, r1⟩ := trodAll_cons r0
  obtain ⟨rfl, rfl, rfl⟩ := trodAll_nil r1
  obtain rfl : args = #[v0, v1] := by cases args; simp_all
  obtain ⟨rfl, rfl⟩ := trodVars_none hV
  obtain ⟨z0, rfl, hl0, hw0, _, _⟩ := open_numarr (e := 22) (n := 8) (q := .u32) (by kernel_rfl) Tryd.underlying22 (by kernel_rfl) (by kernel_rfl) (hval 0 23 v0 rfl rfl) h0
  obtain ⟨z1, rfl, hl1, hw1, _, _⟩ := open_numarr (e := 5) (n := 64) (q := .u8) (by kernel_rfl) Tryd.underlying5 (by kernel_rfl) (by kernel_rfl) (hval 1 24 v1 rfl rfl) h1
  obtain ⟨h, rfl, hb0⟩ := nats_of .u32 4294967296 u32_wf z0 hw0
  obtain ⟨b, rfl, hb1⟩ := nats_of .u8 256 u8_wf z1 hw1
  simp only [List.append_nil] at hW' hA0
  rw [vaInts, vaInts] at hW' hA0 ⊢
  refine (compress_law h b (by simpa using hl0) (W32_of_mem hb0) hb1 (by simpa using hl1) W (glob hL0)).mono fun e W' ⟨he, hg⟩ => ?_
  subst he
  exact ⟨_, rfl, post_of_keeps laidOut (by rw [Tryd.params3]; exact of_decide_eq_true (by kernel_rfl)) hW' hA0 (fun _ => rfl) (fun _ _ _ => (trodAll_cons_mk (shut_bool Tryd.underlying4 _) trodAll_mk0)) rfl hg
    (ok_one (by kernel_rfl) rfl (okWide_bool_mk Tryd.underlying4 _))⟩

def wargs : Array Value := #[.agg (Array.replicate 8 (.int .u32 0)), .agg (Array.replicate 64 (.int .u8 0))]
def lay (l : List Nat) : Obj → Obj
  | .cells _ t frozen => .cells (va .u32 l) t frozen
  | o => o
noncomputable def laidWorld (os : Os) : World :=
  { World.holding Tryd.prog os ⟨#[], #[], []⟩ with heap := ((World.holding Tryd.prog os ⟨#[], #[], []⟩).heap.modify 1 (lay hL)).modify 0 (lay kL) }
theorem laid_met (os : Os) : laidMet Tryd.prog Rows.digestsCompressRow.laid ((laidWorld os).forCall (fun _ _ => 0) ⟨#[], wargs, []⟩).memory :=
  laidMet_of_run' 8 (by kernel_rfl) (by kernel_rfl)
theorem reads (os : Os) {H : Type} (enc : TypeId × Value → H) : ∃ places, DataW.whole enc Tryd.prog ((laidWorld os).forCall (fun _ _ => 0) ⟨#[], wargs, []⟩).memory Tryd.f3.params.toList Rows.digestsCompressSpec.vars false wargs.toList 8 =
    some ([.agg (List.replicate 8 (.lit (.int .u32 0))), .agg (List.replicate 64 (.lit (.int .u8 0)))], [], places) :=
  ⟨[], by kernel_rfl⟩

set_option maxRecDepth 100000 in
theorem lifted (os : Os) (started : os.Started) (H : Type) (enc : TypeId × Value → H) (F : Stop.Interp) :
    ReturnsInHanded {} Tryd.checked os 3 .any ((OpenSpec.ofChange Rows.digestsCompressSpec).preRow enc Tryd.prog Tryd.f3 Rows.digestsCompressRow.domain false Rows.digestsCompressRow.laid) (((OpenSpec.ofChange Rows.digestsCompressSpec).at F).post enc Tryd.prog Tryd.f3 false true false false) := by
  obtain ⟨places, hx⟩ := reads os enc
  refine returnsInHanded_of_row (C := Tryd.checked) (s := OpenSpec.ofChange Rows.digestsCompressSpec) own started (by kernel_rfl) Tryd.func3
    (witness_row_at (enc := enc) (C := Tryd.checked) false (laidWorld os) wargs rfl (by kernel_rfl) (by kernel_rfl) (by kernel_rfl)
      (OpenSpec.preRow_of_cond 8 hx (by kernel_rfl) (fun k hk => by cases hk) (by kernel_rfl) (laid_met os))) ?_
  intro W base args ds gs before hval hW _ _ _ hL0 _ _
  exact contract H enc W base args ds gs before hval hW hL0

theorem said : Rows.DigestsCompressSaid :=
  OpenClaim.holds_of_cond 3 Tryd.f3 rfl rfl rfl rfl rfl rfl rfl ⟨rfl, rfl, rfl, rfl, rfl⟩ rfl rfl rfl rfl rfl (by kernel_rfl) Tryd.func3 (by kernel_rfl)
    (of_decide_eq_true (by kernel_rfl)) (by unfold Func.isWrapper; first | (rw [if_pos (by decide +kernel)]; kernel_rfl) | (rw [if_neg (by decide +kernel)]; exact ⟨rfl, rfl⟩))
    (fun os started H enc _ F => by rw [OpenClaim.pre_eq_preRow]; exact lifted os started H enc F)
theorem plain (f : FuncId) (fn : Func) (hf : Tryd.pinned.checked.prog.funcNamed "caisson/caissonlaw02.DigestsCompress" = some f) (hfn : Tryd.pinned.checked.prog.funcs[f]? = some fn) :
    false = Tryd.pinned.checked.prog.looks [] ∧ ∀ (j : Nat) t, fn.params[j]? = some t → Tryd.pinned.checked.prog.wantsStandIn t = false := by
  obtain rfl : f = 3 := Option.some.inj ((show Tryd.prog.funcNamed "caisson/caissonlaw02.DigestsCompress" = some 3 by kernel_rfl).symm.trans hf) |>.symm
  obtain rfl : fn = Tryd.f3 := (Option.some.inj (Tryd.func3.symm.trans hfn)).symm
  refine ⟨by kernel_rfl, fun j t ht => ?_⟩
  rw [Tryd.params3] at ht
  have hm : t = 23 ∨ t = 24 := by simpa using Array.mem_of_getElem? ht
  rcases hm with rfl | rfl
  · exact (show Tryd.prog.wantsStandIn 23 = false by kernel_rfl)
  · exact (show Tryd.prog.wantsStandIn 24 = false by kernel_rfl)
/-- THE CARD -/
theorem proved : Rows.DigestsCompressCardSaid :=
  Claim7.holds_tied_plain_at .later [] _ _ _ _ said (fun _ h => by cases h) (by kernel_rfl) (fun _ h => by cases h) digestsCompress_row_tie rfl ⟨rfl, rfl⟩ (by kernel_rfl) rfl plain (by kernel_rfl)
#print axioms proved
end Go.Proofs.YtbjgkolblfpakaaDoor.digestsCompress
