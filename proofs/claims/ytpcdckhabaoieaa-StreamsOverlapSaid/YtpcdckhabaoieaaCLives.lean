/-
  The walk of caissonlaw06.lives: the examples of the chapter hold.
-/
import Derived.Test.YtpcdckhabaoieaaCExam
import Derived.Test.YtpcdckhabaoieaaCExp
import Derived.Test.YtpcdckhabaoieaaRes
import Derived.Test.YtpcdckhabaoieaaCEq
namespace Go.Proofs.Ytpcdckhabaoieaa
open Go.RowKit

theorem enc_len (L b : List Nat) : (Ci.enc L b).length = 16 := Ci.encS_len L b 10
theorem enc_to (L b c : List Nat) (hLl : L.length = 176) (hbl : b.length = 16) (hL : Ci.Byt L) (hb : Ci.Byt b) (hc : Ci.enc L b = c) (w : World) :
    Calls Try.prog 19 #[.agg (va .u8 L), .agg (va .u8 b)] w fun e w' => e = .returned (.agg (va .u8 c)) ∧ Below w.heap.size w w' := by
  rw [← hc]; exact encrypt_any L b hLl hbl hL hb w
theorem risL_len (n : Nat) : (risL n).length = 16 := by simp [risL]
theorem risL_byt (n : Nat) : Ci.Byt (risL n) := Ci.byt_map fun _ _ => Nat.mod_lt _ (by omega)
theorem key0_byt : Ci.Byt key0 := by unfold Ci.Byt key0; decide
theorem blk0_byt : Ci.Byt blk0 := by unfold Ci.Byt blk0; decide

end Go.Proofs.Ytpcdckhabaoieaa
