/-
  The functions of package fields, and of its reference, with results that the caller names.
-/
import Derived.Test.YtpcdckhabaoieaaFTab
namespace Go.Proofs.Ytpcdckhabaoieaa
open Go.RowKit

theorem mul_to (a b c : Nat) (ha : a < 256) (hb : b < 256) (hc : Gf.gm a b = c) (w : World) :
    Calls Try.prog 42 #[.int .u8 (a : Int), .int .u8 (b : Int)] w fun e w' => e = .returned (.int .u8 (c : Int)) ∧ Below w.heap.size w w' := by
  rw [← hc]; exact mul_nat a b ha hb w
theorem rmul_to (a b c : Nat) (ha : a < 256) (hb : b < 256) (hc : Gf.gm a b = c) (w : World) :
    Calls Try.prog 46 #[.int .u8 (a : Int), .int .u8 (b : Int)] w fun e w' => e = .returned (.int .u8 (c : Int)) ∧ Below w.heap.size w w' := by
  rw [← hc]; exact rmul_any a b ha hb w
theorem power_to (a : Nat) (n : Int) (c : Nat) (ha : a < 256) (hc : Gf.powZ a n = c) (w : World) :
    Calls Try.prog 28 #[.int .u8 (a : Int), .int .i64 n] w fun e w' => e = .returned (.int .u8 (c : Int)) ∧ Below w.heap.size w w' :=
  power_any a n c (by omega) (by omega) hc w
theorem sub_to (a c : Nat) (ha : a < 256) (hc : Gf.sub a = c) (w : World) :
    Calls Try.prog 27 #[.int .u8 (a : Int)] w fun e w' => e = .returned (.int .u8 (c : Int)) ∧ Below w.heap.size w w' :=
  sub_any a c (by omega) (by omega) hc w
end Go.Proofs.Ytpcdckhabaoieaa
