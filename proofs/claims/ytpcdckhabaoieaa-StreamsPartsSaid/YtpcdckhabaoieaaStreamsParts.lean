/-
  StreamsParts ('caisson/caissonlaw07.StreamsParts'): for every input the law returns true, and each argument reads behind the call as it read before. No condition.
-/
import Derived.Test.YtpcdckhabaoieaaArgX
import Derived.Test.YtpcdckhabaoieaaStmX
namespace Go.Proofs.Ytpcdckhabaoieaa.streamsParts
open Go.ChangeShapes Go.WideShapes Go.ChangeAt Go.RowKit Go.Joins

theorem own : ownKnob Try.prog.godebug = none := by kernel_rfl

set_option maxRecDepth 100000 in
theorem lifted (os : Os) (started : os.Started) (H : Type) (enc : TypeId × Value → H) :
    ReturnsInHanded {} Try.checked os 7 .any (Rows.streamsPartsSpec.pre6 enc Try.prog Try.f7 Rows.streamsPartsRow.domain false) (Rows.streamsPartsSpec.post enc Try.prog Try.f7 false true false false) := by
  refine returnsInHanded_of_change (C := Try.checked) own started (by kernel_rfl) Try.func7
    (ChangeSpec.witness6 (enc := enc) (C := Try.checked) false ⟨#[], #[.agg ((List.replicate 16 (Value.int .u8 0) ++ [Value.int .u32 0, Value.int .u64 0]).toArray), .int .u16 0, .agg #[.slice none 0 0, .slice none 0 0]], []⟩ 8 (by kernel_rfl) (by kernel_rfl) (by kernel_rfl) (by kernel_rfl)) ?_
  intro W base args ds gs before hval0 hW hcnd _
  have hval : ∀ (j : Nat) t v, Try.f7.params[j]? = some t → args[j]? = some v → Value.okWide Try.prog W .any base t v := hval0
  have hW' := hW
  obtain ⟨p, q, hA0, hV, rfl, hfz, hnd⟩ := hW
  have hA : DataW.TrodAll enc Try.prog W 0 (fun _ => true) true Try.f7.params.toList args.toList ds p := hA0
  rw [Try.params7] at hA hval
  obtain ⟨v0, vs0, d0, ds0, p0, q0, hargs, rfl, rfl, h0, r0⟩ := trodAll_cons hA
  obtain ⟨v1, vs1, d1, ds1, p1, q1, rfl, rfl, rfl, h1, r1⟩ := trodAll_cons r0
  obtain ⟨v2, vs2, d2, ds2, p2, q2, rfl, rfl, rfl, h2, r2⟩ := trodAll_cons r1
  obtain ⟨rfl, rfl, rfl⟩ := trodAll_nil r2
  obtain rfl : args = #[v0, v1, v2] := by cases args; simp_all
  obtain ⟨rfl, rfl⟩ := trodVars_none hV
  obtain ⟨key0, s0, c0, rfl, hkl0, hkb0, hs0, hc0⟩ := open_key (hval 0 28 v0 rfl rfl) h0
  obtain ⟨x1, rfl, hx1⟩ := open_u16 (hval 1 46 v1 rfl rfl) h1
  obtain ⟨A2, n2, c2, l2, E2, m2, k2, j2, rfl, hr2, hc2, hb2, hr22, hc22, hb22⟩ := open_b2 (hval 2 47 v2 rfl rfl) h2
  simp only [List.append_nil] at hW' hA0
  refine (lawSParts_any key0 s0 c0 x1 hkl0 hkb0 hs0 hx1 A2 n2 c2 _ l2 hb2 E2 m2 k2 _ j2 hb22 W hr2 (Nat.le_refl _) hr22 (Nat.le_refl _)).mono fun e W' ⟨he, hg⟩ => ?_
  subst he
  exact ⟨_, rfl, post_of_keeps laidOut (by rw [Try.params7]; exact of_decide_eq_true (by kernel_rfl)) hW' hA0 (fun _ => rfl) (fun _ _ _ => (trodAll_cons_mk (shut_bool Try.underlying4 _) trodAll_mk0)) rfl hg
    (ok_one (by kernel_rfl) rfl (okWide_bool_mk Try.underlying4 _))⟩

theorem over : Rows.streamsPartsRow.holds Try.pinned (OpenSpec.ofChange Rows.streamsPartsSpec) :=
  OpenClaim.holds_of_wide 7 Try.f7 rfl rfl rfl rfl rfl rfl rfl ⟨rfl, rfl, rfl, rfl, rfl⟩ rfl rfl rfl rfl rfl (by kernel_rfl) Try.func7 (by kernel_rfl)
    (of_decide_eq_true (by kernel_rfl)) (by unfold Func.isWrapper; first | (rw [if_pos (by decide +kernel)]; kernel_rfl) | (rw [if_neg (by decide +kernel)]; exact ⟨rfl, rfl⟩))
    (fun os started H enc _ => lifted os started H enc)

/-- THE STATEMENT -/
theorem proved : Rows.StreamsPartsSaid := over
#print axioms proved
end Go.Proofs.Ytpcdckhabaoieaa.streamsParts
