/-
  NoncesBytes ('caisson/caissonlaw08.NoncesBytes'): for every input the law returns true, and each argument reads behind the call as it read before. No condition.
-/
import Derived.Test.YtaaldjmopifcjaaNBy
import Derived.Test.YtaaldjmopifcjaaNYArg
namespace Go.Proofs.Ytaaldjmopifcjaa.noncesBytes
open Go.ChangeShapes Go.WideShapes Go.ChangeAt Go.RowKit

theorem own : ownKnob Try.prog.godebug = none := by kernel_rfl

set_option maxRecDepth 100000 in
theorem lifted (os : Os) (started : os.Started) (H : Type) (enc : TypeId × Value → H) :
    ReturnsInHanded {} Try.checked os 6 .any (Rows.noncesBytesSpec.pre6 enc Try.prog Try.f6 Rows.noncesBytesRow.domain false) (Rows.noncesBytesSpec.post enc Try.prog Try.f6 false true false false) := by
  refine returnsInHanded_of_change (C := Try.checked) own started (by kernel_rfl) Try.func6
    (ChangeSpec.witness6 (enc := enc) (C := Try.checked) false ⟨#[], #[.agg #[.int .u32 0, .int .u64 0], .agg #[.int .u32 0, .int .u64 0], .slice none 0 0], []⟩ 8 (by kernel_rfl) (by kernel_rfl) (by kernel_rfl) (by kernel_rfl)) ?_
  intro W base args ds gs before hval0 hW hcnd _
  have hval : ∀ (j : Nat) t v, Try.f6.params[j]? = some t → args[j]? = some v → Value.okWide Try.prog W .any base t v := hval0
  have hW' := hW
  obtain ⟨p, q, hA0, hV, rfl, hfz, hnd⟩ := hW
  have hA : DataW.TrodAll enc Try.prog W 0 (fun _ => true) true Try.f6.params.toList args.toList ds p := hA0
  rw [Try.params6] at hA hval
  obtain ⟨v0, vs0, d0, ds0, p0, q0, hargs, rfl, rfl, h0, r0⟩ := trodAll_cons hA
  obtain ⟨v1, vs1, d1, ds1, p1, q1, rfl, rfl, rfl, h1, r1⟩ := trodAll_cons r0
  obtain ⟨v2, vs2, d2, ds2, p2, q2, rfl, rfl, rfl, h2, r2⟩ := trodAll_cons r1
  obtain ⟨rfl, rfl, rfl⟩ := trodAll_nil r2
  obtain rfl : args = #[v0, v1, v2] := by cases args; simp_all
  obtain ⟨rfl, rfl⟩ := trodVars_none hV
  obtain ⟨s1, c1, rfl, hs1, hc1⟩ := open_no (hval 0 35 v0 rfl rfl) h0
  obtain ⟨s2, c2, rfl, hs2, hc2⟩ := open_no (hval 1 35 v1 rfl rfl) h1
  obtain ⟨A, n, cp, l, rfl, hr, hcp, hlb⟩ := open_bs (hval 2 47 v2 rfl rfl) h2
  simp only [List.append_nil] at hW' hA0
  refine (bytes_any s1 c1 s2 c2 n cp W.heap.size A l hs1 hc1 hs2 hc2 hlb hcp W hr (Nat.le_refl _)).mono fun e W' ⟨he, hg⟩ => ?_
  subst he
  exact ⟨_, rfl, post_of_keeps laidOut (by rw [Try.params6]; exact of_decide_eq_true (by kernel_rfl)) hW' hA0 (fun _ => rfl) (fun _ _ _ => (trodAll_cons_mk (shut_bool Try.underlying4 _) trodAll_mk0)) rfl hg
    (ok_one (by kernel_rfl) rfl (okWide_bool_mk Try.underlying4 _))⟩

theorem over : Rows.noncesBytesRow.holds Try.pinned (OpenSpec.ofChange Rows.noncesBytesSpec) :=
  OpenClaim.holds_of_wide 6 Try.f6 rfl rfl rfl rfl rfl rfl rfl ⟨rfl, rfl, rfl, rfl, rfl⟩ rfl rfl rfl rfl rfl (by kernel_rfl) Try.func6 (by kernel_rfl)
    (of_decide_eq_true (by kernel_rfl)) (by unfold Func.isWrapper; first | (rw [if_pos (by decide +kernel)]; kernel_rfl) | (rw [if_neg (by decide +kernel)]; exact ⟨rfl, rfl⟩))
    (fun os started H enc _ => lifted os started H enc)

/-- THE STATEMENT -/
theorem proved : Rows.NoncesBytesSaid := over
#print axioms proved
end Go.Proofs.Ytaaldjmopifcjaa.noncesBytes
