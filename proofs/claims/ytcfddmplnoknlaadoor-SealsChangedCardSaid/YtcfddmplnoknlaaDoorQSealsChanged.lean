/-
  SealsChanged ('caisson/caissonlaw09.SealsChanged'): for every input the law returns true, and each argument reads behind the call as it read before. No condition: the package-level tables are tied to the program's text by the card.
-/
import Derived.Test.YtcfddmplnoknlaaDoorZ2
import Derived.Test.YtcfddmplnoknlaaDoorQArgL
import Derived.Test.YtcfddmplnoknlaaDoorQSel9
namespace Go.Proofs.YtcfddmplnoknlaaDoor.sealsChanged
set_option maxRecDepth 16384
open Go.ChangeShapes Go.WideShapes Go.ChangeAt Go.RowKit Go.Joins Sh

theorem glob {W : World} (h0 : laidMetH Tryd.prog Rows.sealsChangedRow.laid W) : Glob W := glob_laid h0
theorem contract (H : Type) (enc : TypeId × Value → H) (W : World) (base : Nat) (args : Array Value) (ds gs : List (DataW H)) (before : List MemPlace)
  (hval0 : ∀ (j : Nat) t v, Tryd.f6.params[j]? = some t → args[j]? = some v → Value.okWide Tryd.prog W .any base t v)
  (hW : DataW.Whole enc Tryd.prog Tryd.f6.params.toList Rows.sealsChangedSpec.vars false W args.toList ds gs before) (hL0 : laidMetH Tryd.prog Rows.sealsChangedRow.laid W) :
  Calls Tryd.prog 6 args W fun e W' => ∃ v, e = .returned v ∧ Rows.sealsChangedSpec.post enc Tryd.prog Tryd.f6 false true false false W args v W' := by
 have hval : ∀ (j : Nat) t v, Tryd.f6.params[j]? = some t → args[j]? = some v → Value.okWide Tryd.prog W .any base t v := hval0
 have hW' := hW
 obtain ⟨p, q, hA0, hV, rfl, hfz, hnd⟩ := hW
 have hA : DataW.TrodAll enc Tryd.prog W 0 (fun _ => true) true Tryd.f6.params.toList args.toList ds p := hA0
 rw [Tryd.params6] at hA hval
 obtain ⟨v0, vs0, d0, ds0, p0, q0, hargs, rfl, rfl, h0, r0⟩ := trodAll_cons hA
 obtain ⟨v1, vs1, d1, ds1, p1, q1, rfl, rfl, rfl, h1, r1⟩ := trodAll_cons r0
 obtain ⟨v2, vs2, d2, ds2, p2, q2, rfl, rfl, rfl, h2, r2⟩ := trodAll_cons r1
 obtain ⟨rfl, rfl, rfl⟩ := trodAll_nil r2
 obtain rfl : args = #[v0, v1, v2] := by cases args; simp_all
 obtain ⟨rfl, rfl⟩ := trodVars_none hV
 obtain ⟨ke0, km0, x0, s0, c0, rfl, hel0, hml0, heb0, hmb0, hs0, hc0⟩ := open_S (hval 0 32 v0 rfl rfl) h0
 obtain ⟨l1, rfl, hl1, hb1⟩ := open_ba Tryd.underlying33 (by kernel_rfl) (hval 1 33 v1 rfl rfl) h1
 obtain ⟨l2, rfl, hl2, hb2⟩ := open_ba Tryd.underlying56 (by kernel_rfl) (hval 2 56 v2 rfl rfl) h2
 obtain ⟨a2, b2, e2, rfl⟩ : ∃ a b e, l2 = [a, b, e] := by
  match l2, hl2 with
  | [a, b, e], _ => exact ⟨a, b, e, rfl⟩
 simp only [List.append_nil] at hW' hA0
 refine (lawSChg_any ke0 km0 hel0 hml0 heb0 hmb0 x0 s0 c0 hs0 hc0 l1 hl1 hb1 a2 b2 e2 (hb2 _ (by simp)) (hb2 _ (by simp)) (hb2 _ (by simp)) W (glob hL0)).mono fun e W' ⟨he, hg⟩ => ?_
 subst he
 exact ⟨_, rfl, post_of_keeps laidOut (by rw [Tryd.params6]; exact of_decide_eq_true (by kernel_rfl)) hW' hA0 (fun _ => rfl) (fun _ _ _ => (trodAll_cons_mk (shut_bool Tryd.underlying4 _) trodAll_mk0)) rfl hg
  (ok_one (by kernel_rfl) rfl (okWide_bool_mk Tryd.underlying4 _))⟩

def wargs : Array Value := #[.agg ((List.replicate 48 (Value.int .u8 0) ++ [Value.int .i64 0, Value.int .u32 0, Value.int .u64 0]).toArray), .agg (Array.replicate 32 (.int .u8 0)), .agg #[.int .u8 0, .int .u8 0, .int .u8 0]]
theorem laid_met (os : Os) : laidMet Tryd.prog Rows.sealsChangedRow.laid ((laidWorld os).forCall (fun _ _ => 0) ⟨#[], wargs, []⟩).memory :=
 laidMet_of_run' 8 (by kernel_rfl) (by kernel_rfl)
theorem reads (os : Os) {H : Type} (enc : TypeId × Value → H) : ∃ places, DataW.whole enc Tryd.prog ((laidWorld os).forCall (fun _ _ => 0) ⟨#[], wargs, []⟩).memory Tryd.f6.params.toList Rows.sealsChangedSpec.vars false wargs.toList 8 =
  some ([.agg [.agg [.agg (List.replicate 16 (.lit (.int .u8 0))), .agg (List.replicate 32 (.lit (.int .u8 0)))], .lit (.int .i64 0), .agg [.lit (.int .u32 0), .lit (.int .u64 0)]], .agg (List.replicate 32 (.lit (.int .u8 0))), .agg [.lit (.int .u8 0), .lit (.int .u8 0), .lit (.int .u8 0)]], [], places) :=
 ⟨[], by kernel_rfl⟩

set_option maxRecDepth 100000 in
theorem lifted (os : Os) (started : os.Started) (H : Type) (enc : TypeId × Value → H) (F : Stop.Interp) :
  ReturnsInHanded {} Tryd.checked os 6 .any ((OpenSpec.ofChange Rows.sealsChangedSpec).preRow enc Tryd.prog Tryd.f6 Rows.sealsChangedRow.domain false Rows.sealsChangedRow.laid) (((OpenSpec.ofChange Rows.sealsChangedSpec).at F).post enc Tryd.prog Tryd.f6 false true false false) := by
 obtain ⟨places, hx⟩ := reads os enc
 refine returnsInHanded_of_row (C := Tryd.checked) (s := OpenSpec.ofChange Rows.sealsChangedSpec) ownC started (by kernel_rfl) Tryd.func6
  (witness_row_at (enc := enc) (C := Tryd.checked) false (laidWorld os) wargs rfl (by kernel_rfl) (by kernel_rfl) (by kernel_rfl)
   (OpenSpec.preRow_of_cond 8 hx (by kernel_rfl) (fun k hk => by cases hk) (by kernel_rfl) (laid_met os))) ?_
 intro W base args ds gs before hval hW _ _ _ hL0 _ _
 exact contract H enc W base args ds gs before hval hW hL0

theorem said : Rows.SealsChangedSaid :=
 OpenClaim.holds_of_cond 6 Tryd.f6 rfl rfl rfl rfl rfl rfl rfl ⟨rfl, rfl, rfl, rfl, rfl⟩ rfl rfl rfl rfl rfl (by kernel_rfl) Tryd.func6 (by kernel_rfl)
  (of_decide_eq_true (by kernel_rfl)) (by unfold Func.isWrapper; first | (rw [if_pos (by decide +kernel)]; kernel_rfl) | (rw [if_neg (by decide +kernel)]; exact ⟨rfl, rfl⟩))
  (fun os started H enc _ F => by rw [OpenClaim.pre_eq_preRow]; exact lifted os started H enc F)
theorem plain (f : FuncId) (fn : Func) (hf : Tryd.pinned.checked.prog.funcNamed "caisson/caissonlaw09.SealsChanged" = some f) (hfn : Tryd.pinned.checked.prog.funcs[f]? = some fn) :
    false = Tryd.pinned.checked.prog.looks [] ∧ ∀ (j : Nat) t, fn.params[j]? = some t → Tryd.pinned.checked.prog.wantsStandIn t = false := by
  obtain rfl : f = 6 := Option.some.inj ((show Tryd.prog.funcNamed "caisson/caissonlaw09.SealsChanged" = some 6 by kernel_rfl).symm.trans hf) |>.symm
  obtain rfl : fn = Tryd.f6 := (Option.some.inj (Tryd.func6.symm.trans hfn)).symm
  refine ⟨by kernel_rfl, fun j t ht => ?_⟩
  rw [Tryd.params6] at ht
  have hm : t = 32 ∨ t = 33 ∨ t = 56 := by have := Array.mem_of_getElem? ht; simpa using this
  rcases hm with rfl | rfl | rfl
  · exact (show Tryd.prog.wantsStandIn 32 = false by kernel_rfl)
  · exact (show Tryd.prog.wantsStandIn 33 = false by kernel_rfl)
  · exact (show Tryd.prog.wantsStandIn 56 = false by kernel_rfl)
/-- THE CARD -/
theorem proved : Rows.SealsChangedCardSaid :=
 Claim7.holds_tied_plain_at .later [] _ _ _ _ said (fun _ h => by cases h) (by kernel_rfl) (fun _ h => by cases h) sealsChanged_row_tie rfl ⟨rfl, rfl⟩ (by kernel_rfl) rfl plain (by kernel_rfl)
#print axioms proved
end Go.Proofs.YtcfddmplnoknlaaDoor.sealsChanged
