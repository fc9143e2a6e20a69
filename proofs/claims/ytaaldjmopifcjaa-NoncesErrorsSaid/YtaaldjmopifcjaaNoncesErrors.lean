/-
  NoncesErrors ('caisson/caissonlaw08.NoncesErrors'): for every input the law returns true, and each argument reads behind the call as it read before. No condition.
-/
import Derived.Test.YtaaldjmopifcjaaNErrlow1
import Derived.Test.YtaaldjmopifcjaaNErrlow2
import Derived.Test.YtaaldjmopifcjaaNErrbad
import Derived.Test.YtaaldjmopifcjaaNErrgood
import Derived.Test.YtaaldjmopifcjaaNArg
namespace Go.Proofs.Ytaaldjmopifcjaa.noncesErrors
open Go.ChangeShapes Go.WideShapes Go.ChangeAt Go.RowKit

theorem big_walk (A : Option Addr) (n c m l r : Nat) (k : Int) (hn : 20 < n) (w : World) :
    Calls Try.prog 3 #[.agg (alV A n c m l r), .int .i64 k] w fun e w' => e = .returned (.bool true) ∧ Below w.heap.size w w' := by
  have hn' : (20 : Int) < (n : Int) := by omega
  unfold alV
  go_enter Try.func3, Try.ntmps3
  go_wp2_with fail
  refine (lives08 _).mono ?_
  rintro e w1 ⟨rfl, b⟩
  have HW := Lib.hid (((Below.refl w.heap.size w).alloc (Nat.le_refl _) _).trans (b.mono (by simp)))
  clear b
  go_wp2
  go_ret
  exact ⟨rfl, HW.out⟩

theorem walk (A : Option Addr) (n c m l r B : Nat) (cs : List Nat) (k : Int) (hm : m < 18446744073709551616) (hl : l < 18446744073709551616) (w : World) (hr : Reads w B 1 A n (nv .u64 cs)) (hB : B ≤ w.heap.size) :
    Calls Try.prog 3 #[.agg (alV A n c m l r), .int .i64 k] w fun e w' => e = .returned (.bool true) ∧ Below w.heap.size w w' := by
  by_cases hn : 20 < n
  · exact big_walk A n c m l r k hn w
  have hn20 : n ≤ 20 := by omega
  have hlen := hr.len
  rcases chk_le cs m l r with hw | hw
  · obtain ⟨hn1, hn8, hml⟩ := chk_zero hlen hw
    obtain ⟨ad, rfl, _, _⟩ := hr.num (i := 0) (by omega)
    by_cases h1 : k < 1
    · by_cases h0 : 0 ≤ k
      · exact errors_low1_T1 n c m l r B cs (some ad) k h1 hn20 hm hl hw h0 (by omega) w hr hB
      · by_cases hmr : m + r ≤ l
        · exact errors_low1_T3a n c m l r B cs ad k h1 hn20 hm hl hw (by omega) hn1 hn8 hml hmr w hr hB
        · exact errors_low1_T3b n c m l r B cs ad k h1 hn20 hm hl hw (by omega) hn1 hn8 hml (by omega) w hr hB
    · by_cases h8 : 8 < k
      · by_cases hkn : k < (n : Int)
        · exact errors_low2_T1 n c m l r B cs (some ad) k h8 hn20 hm hl hw (by omega) hkn w hr hB
        · by_cases hmr : m + r ≤ l
          · exact errors_low2_T3a n c m l r B cs ad k h8 hn20 hm hl hw (by omega) hn1 hn8 hml hmr w hr hB
          · exact errors_low2_T3b n c m l r B cs ad k h8 hn20 hm hl hw (by omega) hn1 hn8 hml (by omega) w hr hB
      · obtain ⟨k', rfl⟩ : ∃ k' : Nat, k = (k' : Int) := ⟨k.toNat, by omega⟩
        rcases chk_le [0] 0 l r with hz | hz
        · exact errors_good n c m l r B cs (some ad) k' (by omega) (by omega) ((chk_fill k' l r (by omega) (by omega)).trans hz) hz hn20 hm hl 0 hw (by omega) w hr hB
        · have hc := (chk_fill k' l r (by omega) (by omega)).trans hz
          by_cases hkn : (k' : Int) < (n : Int)
          · exact errors_bad_T1 n c m l r B cs (some ad) k' (by omega) (by omega) hc hz hn20 hm hl hw (by omega) hkn w hr hB
          · by_cases hmr : m + r ≤ l
            · exact errors_bad_T3a n c m l r B cs ad k' (by omega) (by omega) hc hz hn20 hm hl hw (by omega) hn1 hn8 hml hmr w hr hB
            · exact errors_bad_T3b n c m l r B cs ad k' (by omega) (by omega) hc hz hn20 hm hl hw (by omega) hn1 hn8 hml (by omega) w hr hB
  · by_cases h1 : k < 1
    · exact errors_low1_T2 n c m l r B cs A k h1 hn20 hm hl hw w hr hB
    · by_cases h8 : 8 < k
      · exact errors_low2_T2 n c m l r B cs A k h8 hn20 hm hl hw w hr hB
      · obtain ⟨k', rfl⟩ : ∃ k' : Nat, k = (k' : Int) := ⟨k.toNat, by omega⟩
        rcases chk_le [0] 0 l r with hz | hz
        · exact errors_good n c m l r B cs A k' (by omega) (by omega) ((chk_fill k' l r (by omega) (by omega)).trans hz) hz hn20 hm hl 1 hw (by omega) w hr hB
        · exact errors_bad_T2 n c m l r B cs A k' (by omega) (by omega) ((chk_fill k' l r (by omega) (by omega)).trans hz) hz hn20 hm hl hw w hr hB

theorem own : ownKnob Try.prog.godebug = none := by kernel_rfl

set_option maxRecDepth 100000 in
theorem lifted (os : Os) (started : os.Started) (H : Type) (enc : TypeId × Value → H) :
    ReturnsInHanded {} Try.checked os 3 .any (Rows.noncesErrorsSpec.pre6 enc Try.prog Try.f3 Rows.noncesErrorsRow.domain false) (Rows.noncesErrorsSpec.post enc Try.prog Try.f3 false true false false) := by
  refine returnsInHanded_of_change (C := Try.checked) own started (by kernel_rfl) Try.func3
    (ChangeSpec.witness6 (enc := enc) (C := Try.checked) false ⟨#[], #[.agg #[.slice none 0 0, .int .u64 0, .int .u64 0, .int .u64 0], .int .i64 0], []⟩ 8 (by kernel_rfl) (by kernel_rfl) (by kernel_rfl) (by kernel_rfl)) ?_
  intro W base args ds gs before hval0 hW hcnd _
  have hval : ∀ (j : Nat) t v, Try.f3.params[j]? = some t → args[j]? = some v → Value.okWide Try.prog W .any base t v := hval0
  have hW' := hW
  obtain ⟨p, q, hA0, hV, rfl, hfz, hnd⟩ := hW
  have hA : DataW.TrodAll enc Try.prog W 0 (fun _ => true) true Try.f3.params.toList args.toList ds p := hA0
  rw [Try.params3] at hA hval
  obtain ⟨v0, vs0, d0, ds0, p0, q0, hargs, rfl, rfl, h0, r0⟩ := trodAll_cons hA
  obtain ⟨v1, vs1, d1, ds1, p1, q1, rfl, rfl, rfl, h1, r1⟩ := trodAll_cons r0
  obtain ⟨rfl, rfl, rfl⟩ := trodAll_nil r1
  obtain rfl : args = #[v0, v1] := by cases args; simp_all
  obtain ⟨rfl, rfl⟩ := trodVars_none hV
  obtain ⟨A, n, c, m, l, r, cs, rfl, hr, hm, hl, hrr⟩ := open_alloc (hval 0 25 v0 rfl rfl) h0
  obtain ⟨k, rfl, rfl, rfl, w1⟩ := open_int Try.underlying3 (hval 1 3 v1 rfl rfl) h1
  simp only [List.append_nil] at hW' hA0
  refine (walk A n c m l r W.heap.size cs k hm hl W hr (Nat.le_refl _)).mono fun e W' ⟨he, hg⟩ => ?_
  subst he
  exact ⟨_, rfl, post_of_keeps laidOut (by rw [Try.params3]; exact of_decide_eq_true (by kernel_rfl)) hW' hA0 (fun _ => rfl) (fun _ _ _ => (trodAll_cons_mk (shut_bool Try.underlying4 _) trodAll_mk0)) rfl hg
    (ok_one (by kernel_rfl) rfl (okWide_bool_mk Try.underlying4 _))⟩

theorem over : Rows.noncesErrorsRow.holds Try.pinned (OpenSpec.ofChange Rows.noncesErrorsSpec) :=
  OpenClaim.holds_of_wide 3 Try.f3 rfl rfl rfl rfl rfl rfl rfl ⟨rfl, rfl, rfl, rfl, rfl⟩ rfl rfl rfl rfl rfl (by kernel_rfl) Try.func3 (by kernel_rfl)
    (of_decide_eq_true (by kernel_rfl)) (by unfold Func.isWrapper; first | (rw [if_pos (by decide +kernel)]; kernel_rfl) | (rw [if_neg (by decide +kernel)]; exact ⟨rfl, rfl⟩))
    (fun os started H enc _ => lifted os started H enc)

/-- THE STATEMENT -/
theorem proved : Rows.NoncesErrorsSaid := over
#print axioms proved
end Go.Proofs.Ytaaldjmopifcjaa.noncesErrors
