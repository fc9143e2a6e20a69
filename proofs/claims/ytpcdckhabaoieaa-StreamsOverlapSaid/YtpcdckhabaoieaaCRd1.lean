/-
  The walk of caissonref06.double.
-/
import Derived.Test.YtpcdckhabaoieaaCRdP
namespace Go.Proofs.Ytpcdckhabaoieaa
open Go.RowKit

theorem double_any (a : Nat) (ha : a < 256) (w : World) :
    Calls Try.prog 45 #[.int .u8 (a : Int)] w fun e w' => e = .returned (.int .u8 ((Ci.dbl a : Nat) : Int)) ∧ w' = w := by
  by_cases h : 127 < a
  · have hI : 127 < (a : Int) := by omega
    have e := Ci.dbl_hi ⟨a, ha⟩ h
    simp only at e
    have e2 : bits .xor .u8 ((a : Int) * 2 % 256) 27 = ((Ci.dbl a : Nat) : Int) := by
      rw [show (a : Int) * 2 % 256 = ((2 * a % 256 : Nat) : Int) from by omega, show (27 : Int) = ((27 : Nat) : Int) from rfl, u8_xor_nat _ _ (by omega) (by omega), e]
    clear e
    go_enter Try.func45, Try.ntmps45
    go_wp2
    go_ret
    exact ⟨rfl, rfl⟩
  · have hI : ¬ 127 < (a : Int) := by omega
    have e := Ci.dbl_lo ⟨a, ha⟩ h
    simp only at e
    have e2 : (a : Int) * 2 = ((Ci.dbl a : Nat) : Int) := by omega
    clear e
    go_enter Try.func45, Try.ntmps45
    go_wp2
    go_ret
    exact ⟨rfl, rfl⟩
theorem double_to (a D : Nat) (ha : a < 256) (hD : Ci.dbl a = D) (w : World) :
    Calls Try.prog 45 #[.int .u8 (a : Int)] w fun e w' => e = .returned (.int .u8 (D : Int)) ∧ w = w' := by
  subst hD
  exact (double_any a ha w).mono fun _ _ h => ⟨h.1, h.2.symm⟩
end Go.Proofs.Ytpcdckhabaoieaa
