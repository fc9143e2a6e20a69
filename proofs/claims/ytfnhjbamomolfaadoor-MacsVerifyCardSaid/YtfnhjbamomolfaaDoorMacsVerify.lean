/-
  MacsVerify ('caisson/caissonlaw03.MacsVerify'): for every input the law returns true, and each argument reads behind the call as it read before. No condition: the package-level tables are tied to the program's text by the card.
-/
import Derived.Test.YtfnhjbamomolfaaDoorMcVerW
import Derived.Test.YtfnhjbamomolfaaDoorCardLib
namespace Go.Proofs.YtfnhjbamomolfaaDoor.macsVerify
open Go.ChangeShapes Go.WideShapes Go.ChangeAt Go.RowKit Go.Joins Sh
theorem open_z {H : Type} {enc : TypeId × Value → H} {W : World} {r0 : Reach} {b0 : Nat} {v : Value} {d : DataW H} {ps : List MemPlace} (hval : Value.okWide Tryd.prog W r0 b0 35 v) (hd : DataW.Trod enc Tryd.prog W 0 (fun _ => true) true 35 v d ps) :
    ∃ (tag : List Nat) (bit : Nat), v = .agg (zV tag bit) ∧ tag.length = 32 ∧ Byt tag ∧ bit < 256 := by
  obtain ⟨cs, rfl, hsz⟩ := okWide_struct Tryd.underlying35 hval
  have hsz2 : cs.size = 33 := hsz.trans (by kernel_rfl)
  obtain ⟨fuel, hf⟩ := hd
  obtain ⟨y0, y1, n, _, _, h0, h1⟩ := trod_struct2 Tryd.underlying35 hf
  have e0 : ((Value.agg cs).cells.toList.drop 0).take 32 = cs.toList.take 32 := by simp [Value.cells]
  have e1 : ((Value.agg cs).cells.toList.drop 32).take 1 = cs.toList.drop 32 := by
    rw [List.take_of_length_le (by simp [Value.cells, hsz2])]
    rfl
  have h0' : DataW.trod enc Tryd.prog W 0 (fun _ => true) true n 30 (cs.toList.take 32) = some y0 := by rw [← e0]; exact h0
  have h1' : DataW.trod enc Tryd.prog W 0 (fun _ => true) true n 5 (cs.toList.drop 32) = some y1 := by rw [← e1]; exact h1
  obtain ⟨tag, ht, hl, hb⟩ := trod_nums (n := 32) 256 u8_wf Tryd.underlying30 Tryd.underlying5 (by kernel_rfl) (by simp; omega) h0'
  obtain ⟨bit, hbt, hb2⟩ := trod_num 256 u8_wf Tryd.underlying5 h1'
  refine ⟨tag, bit, ?_, hl, hb, hb2⟩
  congr 1
  apply Array.toList_inj.1
  rw [← List.take_append_drop 32 cs.toList, ht, hbt]
  rfl

theorem glob {W : World} (h0 : laidMetH Tryd.prog Rows.macsVerifyRow.laid W) : Glob W := glob_laid h0
theorem contract (H : Type) (enc : TypeId × Value → H) (W : World) (base : Nat) (args : Array Value) (ds gs : List (DataW H)) (before : List MemPlace)
    (hval0 : ∀ (j : Nat) t v, Tryd.f5.params[j]? = some t → args[j]? = some v → Value.okWide Tryd.prog W .any base t v)
    (hW : DataW.Whole enc Tryd.prog Tryd.f5.params.toList Rows.macsVerifySpec.vars false W args.toList ds gs before) (hL0 : laidMetH Tryd.prog Rows.macsVerifyRow.laid W) :
    Calls Tryd.prog 5 args W fun e W' => ∃ v, e = .returned v ∧ Rows.macsVerifySpec.post enc Tryd.prog Tryd.f5 false true false false W args v W' := by
  have hval : ∀ (j : Nat) t v, Tryd.f5.params[j]? = some t → args[j]? = some v → Value.okWide Tryd.prog W .any base t v := hval0
  have hW' := hW
  obtain ⟨p, q, hA0, hV, rfl, hfz, hnd⟩ := hW
  have hA : DataW.TrodAll enc Tryd.prog W 0 (fun _ => true) true Tryd.f5.params.toList args.toList ds p := hA0
  rw [Tryd.params5] at hA hval
  obtain ⟨v0, vs0, d0, ds0, p0, q0, hargs, rfl, rfl, h0, r0⟩ := trodAll_cons hA
  obtain ⟨v1, vs1, d1, ds1, p1, q1, rfl, rfl, rfl, h1, r1⟩ := trodAll_cons r0
  obtain ⟨v2, vs2, d2, ds2, p2, q2, rfl, rfl, rfl, h2, r2⟩ := trodAll_cons r1
  obtain ⟨rfl, rfl, rfl⟩ := trodAll_nil r2
  obtain rfl : args = #[v0, v1, v2] := by cases args; simp_all
  obtain ⟨rfl, rfl⟩ := trodVars_none hV
  obtain ⟨A0, n0, c0, l0, rfl, hr0, hc0, hb0⟩ := open_bs (hval 0 22 v0 rfl rfl) h0
  obtain ⟨A1, n1, c1, l1, rfl, hr1, hc1, hb1⟩ := open_bs (hval 1 22 v1 rfl rfl) h1
  obtain ⟨tag, bit, rfl, htl, htb, hbit⟩ := open_z (hval 2 35 v2 rfl rfl) h2
  simp only [List.append_nil] at hW' hA0
  refine (lawVerify_any l0 l1 tag bit A0 n0 c0 W.heap.size A1 n1 c1 W.heap.size hb0 hc0 hb1 hc1 htl htb hbit W (glob hL0) hr0 (Nat.le_refl _) hr1 (Nat.le_refl _)).mono fun e W' ⟨he, hg⟩ => ?_
  subst he
  exact ⟨_, rfl, post_of_keeps laidOut (by rw [Tryd.params5]; exact of_decide_eq_true (by kernel_rfl)) hW' hA0 (fun _ => rfl) (fun _ _ _ => (trodAll_cons_mk (shut_bool Tryd.underlying4 _) trodAll_mk0)) rfl hg
    (ok_one (by kernel_rfl) rfl (okWide_bool_mk Tryd.underlying4 _))⟩

def wargs : Array Value := #[.slice none 0 0, .slice none 0 0, .agg (Array.replicate 33 (.int .u8 0))]
theorem laid_met (os : Os) : laidMet Tryd.prog Rows.macsVerifyRow.laid ((laidWorld os).forCall (fun _ _ => 0) ⟨#[], wargs, []⟩).memory :=
  laidMet_of_run' 8 (by kernel_rfl) (by kernel_rfl)
theorem reads (os : Os) {H : Type} (enc : TypeId × Value → H) : ∃ places, DataW.whole enc Tryd.prog ((laidWorld os).forCall (fun _ _ => 0) ⟨#[], wargs, []⟩).memory Tryd.f5.params.toList Rows.macsVerifySpec.vars false wargs.toList 8 =
    some ([.nil, .nil, .agg [.agg (List.replicate 32 (.lit (.int .u8 0))), .lit (.int .u8 0)]], [], places) :=
  ⟨[], by kernel_rfl⟩

set_option maxRecDepth 100000 in
theorem lifted (os : Os) (started : os.Started) (H : Type) (enc : TypeId × Value → H) (F : Stop.Interp) :
    ReturnsInHanded {} Tryd.checked os 5 .any ((OpenSpec.ofChange Rows.macsVerifySpec).preRow enc Tryd.prog Tryd.f5 Rows.macsVerifyRow.domain false Rows.macsVerifyRow.laid) (((OpenSpec.ofChange Rows.macsVerifySpec).at F).post enc Tryd.prog Tryd.f5 false true false false) := by
  obtain ⟨places, hx⟩ := reads os enc
  refine returnsInHanded_of_row (C := Tryd.checked) (s := OpenSpec.ofChange Rows.macsVerifySpec) ownC started (by kernel_rfl) Tryd.func5
    (witness_row_at (enc := enc) (C := Tryd.checked) false (laidWorld os) wargs rfl (by kernel_rfl) (by kernel_rfl) (by kernel_rfl)
      (OpenSpec.preRow_of_cond 8 hx (by kernel_rfl) (fun k hk => by cases hk) (by kernel_rfl) (laid_met os))) ?_
  intro W base args ds gs before hval hW _ _ _ hL0 _ _
  exact contract H enc W base args ds gs before hval hW hL0

theorem said : Rows.MacsVerifySaid :=
  OpenClaim.holds_of_cond 5 Tryd.f5 rfl rfl rfl rfl rfl rfl rfl ⟨rfl, rfl, rfl, rfl, rfl⟩ rfl rfl rfl rfl rfl (by kernel_rfl) Tryd.func5 (by kernel_rfl)
    (of_decide_eq_true (by kernel_rfl)) (by unfold Func.isWrapper; first | (rw [if_pos (by decide +kernel)]; kernel_rfl) | (rw [if_neg (by decide +kernel)]; exact ⟨rfl, rfl⟩))
    (fun os started H enc _ F => by rw [OpenClaim.pre_eq_preRow]; exact lifted os started H enc F)
theorem plain (f : FuncId) (fn : Func) (hf : Tryd.pinned.checked.prog.funcNamed "caisson/caissonlaw03.MacsVerify" = some f) (hfn : Tryd.pinned.checked.prog.funcs[f]? = some fn) :
    false = Tryd.pinned.checked.prog.looks [] ∧ ∀ (j : Nat) t, fn.params[j]? = some t → Tryd.pinned.checked.prog.wantsStandIn t = false := by
  obtain rfl : f = 5 := Option.some.inj ((show Tryd.prog.funcNamed "caisson/caissonlaw03.MacsVerify" = some 5 by kernel_rfl).symm.trans hf) |>.symm
  obtain rfl : fn = Tryd.f5 := (Option.some.inj (Tryd.func5.symm.trans hfn)).symm
  refine ⟨by kernel_rfl, fun j t ht => ?_⟩
  rw [Tryd.params5] at ht
  have hm : t = 22 ∨ t = 35 := by have := Array.mem_of_getElem? ht; simpa using this
  rcases hm with rfl | rfl
  · exact (show Tryd.prog.wantsStandIn 22 = false by kernel_rfl)
  · exact (show Tryd.prog.wantsStandIn 35 = false by kernel_rfl)
/-- THE CARD -/
theorem proved : Rows.MacsVerifyCardSaid :=
  Claim7.holds_tied_plain_at .later [] _ _ _ _ said (fun _ h => by cases h) (by kernel_rfl) (fun _ h => by cases h) macsVerify_row_tie rfl ⟨rfl, rfl⟩ (by kernel_rfl) rfl plain (by kernel_rfl)
#print axioms proved
end Go.Proofs.YtfnhjbamomolfaaDoor.macsVerify
