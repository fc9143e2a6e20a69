/-
  NoncesSteps ('caisson/caissonlaw08.NoncesSteps'): for every input the law returns true, and each argument reads behind the call as it read before. No condition.
-/
import Derived.Test.YtaaldjmopifcjaaNStokok
import Derived.Test.YtaaldjmopifcjaaNStokover
import Derived.Test.YtaaldjmopifcjaaNStstateok
import Derived.Test.YtaaldjmopifcjaaNStstateover
import Derived.Test.YtaaldjmopifcjaaNDa
namespace Go.Proofs.Ytaaldjmopifcjaa.noncesSteps
open Go.ChangeShapes Go.WideShapes Go.ChangeAt Go.RowKit

theorem walk (A : Option Addr) (n c mk rs rm B sh : Nat) (cs : List Nat) (hcs : ∀ x ∈ cs, x < 65536) (hsh : sh < 256) (w : World) (hr : Reads w B 1 A n (nv .u16 cs)) (hB : B ≤ w.heap.size) :
    Calls Try.prog 4 #[.agg (daV A n c mk rs rm), .int .u8 (sh : Int)] w fun e w' => e = .returned (.bool true) ∧ Below w.heap.size w w' := by
  have hlen := ofC_len cs mk rs
  have hle := ofC_le cs mk rs
  have hbd := ofL_bd mk rs rm
  have hmb := ofM_bd mk rs
  have hchk := ofC_chk cs mk rs rm
  have hCb : ∀ x ∈ ofC cs mk rs, x < 18446744073709551616 := fun x hx => by have := hle x hx; omega
  have hs : sh % (ofC cs mk rs).length < (ofC cs mk rs).length := Nat.mod_lt _ (by omega)
  have hv : (ofC cs mk rs).getD (sh % (ofC cs mk rs).length) 0 ≤ ofM mk rs := by
    rw [List.getD_eq_getElem?_getD, List.getElem?_eq_getElem hs]
    exact hle _ (List.getElem_mem hs)
  rcases Nat.lt_or_ge (ofL mk rs rm) (ofM mk rs + ofR rs) with hext | hext
  · by_cases hc : (ofC cs mk rs).getD (sh % (ofC cs mk rs).length) 0 = ofM mk rs
    · exact steps_state_over A n c mk rs rm _ _ _ _ B sh _ _ cs _ rfl rfl rfl rfl rfl hlen.1 hlen.2 hchk hcs hCb rfl hsh hc hbd.1 hbd.2.2 (ofR_bd rs).2 rfl hext w hr hB
    · exact steps_ok_over A n c mk rs rm _ _ _ _ B sh _ _ cs _ _ (by omega) rfl rfl rfl rfl rfl hlen.1 hlen.2 hchk hcs hCb rfl hsh rfl hbd.1 hbd.2.2 (ofR_bd rs).2 rfl hext w hr hB
  · by_cases hc : (ofC cs mk rs).getD (sh % (ofC cs mk rs).length) 0 = ofM mk rs
    · exact steps_state_ok A n c mk rs rm _ _ _ _ B sh _ _ cs _ rfl rfl rfl rfl rfl hlen.1 hlen.2 hchk hcs hCb rfl hsh hc hbd.1 hbd.2.2 rfl hext w hr hB
    · exact steps_ok_ok A n c mk rs rm _ _ _ _ B sh _ _ cs _ _ (by omega) rfl rfl rfl rfl rfl hlen.1 hlen.2 hchk hcs hCb rfl hsh rfl hbd.1 hbd.2.2 rfl hext w hr hB

theorem own : ownKnob Try.prog.godebug = none := by kernel_rfl

set_option maxRecDepth 100000 in
theorem lifted (os : Os) (started : os.Started) (H : Type) (enc : TypeId × Value → H) :
    ReturnsInHanded {} Try.checked os 4 .any (Rows.noncesStepsSpec.pre6 enc Try.prog Try.f4 Rows.noncesStepsRow.domain false) (Rows.noncesStepsSpec.post enc Try.prog Try.f4 false true false false) := by
  refine returnsInHanded_of_change (C := Try.checked) own started (by kernel_rfl) Try.func4
    (ChangeSpec.witness6 (enc := enc) (C := Try.checked) false ⟨#[], #[.agg #[.slice none 0 0, .int .u8 0, .int .u8 0, .int .u16 0], .int .u8 0], []⟩ 8 (by kernel_rfl) (by kernel_rfl) (by kernel_rfl) (by kernel_rfl)) ?_
  intro W base args ds gs before hval0 hW hcnd _
  have hval : ∀ (j : Nat) t v, Try.f4.params[j]? = some t → args[j]? = some v → Value.okWide Try.prog W .any base t v := hval0
  have hW' := hW
  obtain ⟨p, q, hA0, hV, rfl, hfz, hnd⟩ := hW
  have hA : DataW.TrodAll enc Try.prog W 0 (fun _ => true) true Try.f4.params.toList args.toList ds p := hA0
  rw [Try.params4] at hA hval
  obtain ⟨v0, vs0, d0, ds0, p0, q0, hargs, rfl, rfl, h0, r0⟩ := trodAll_cons hA
  obtain ⟨v1, vs1, d1, ds1, p1, q1, rfl, rfl, rfl, h1, r1⟩ := trodAll_cons r0
  obtain ⟨rfl, rfl, rfl⟩ := trodAll_nil r1
  obtain rfl : args = #[v0, v1] := by cases args; simp_all
  obtain ⟨rfl, rfl⟩ := trodVars_none hV
  obtain ⟨A, n, c, mk, rs, rm, cs, rfl, hr, _, _, _, hcs⟩ := open_da (hval 0 45 v0 rfl rfl) h0
  obtain ⟨k, rfl, rfl, rfl, w1⟩ := open_int Try.underlying5 (hval 1 5 v1 rfl rfl) h1
  simp only [List.append_nil] at hW' hA0
  obtain ⟨sh, hk, hsh⟩ := nat_of .u8 256 u8_wf w1
  rw [hk] at hW' hA0 ⊢
  refine (walk A n c mk rs rm W.heap.size sh cs hcs hsh W hr (Nat.le_refl _)).mono fun e W' ⟨he, hg⟩ => ?_
  subst he
  exact ⟨_, rfl, post_of_keeps laidOut (by rw [Try.params4]; exact of_decide_eq_true (by kernel_rfl)) hW' hA0 (fun _ => rfl) (fun _ _ _ => (trodAll_cons_mk (shut_bool Try.underlying4 _) trodAll_mk0)) rfl hg
    (ok_one (by kernel_rfl) rfl (okWide_bool_mk Try.underlying4 _))⟩

theorem over : Rows.noncesStepsRow.holds Try.pinned (OpenSpec.ofChange Rows.noncesStepsSpec) :=
  OpenClaim.holds_of_wide 4 Try.f4 rfl rfl rfl rfl rfl rfl rfl ⟨rfl, rfl, rfl, rfl, rfl⟩ rfl rfl rfl rfl rfl (by kernel_rfl) Try.func4 (by kernel_rfl)
    (of_decide_eq_true (by kernel_rfl)) (by unfold Func.isWrapper; first | (rw [if_pos (by decide +kernel)]; kernel_rfl) | (rw [if_neg (by decide +kernel)]; exact ⟨rfl, rfl⟩))
    (fun os started H enc _ => lifted os started H enc)

/-- THE STATEMENT -/
theorem proved : Rows.NoncesStepsSaid := over
#print axioms proved
end Go.Proofs.Ytaaldjmopifcjaa.noncesSteps
