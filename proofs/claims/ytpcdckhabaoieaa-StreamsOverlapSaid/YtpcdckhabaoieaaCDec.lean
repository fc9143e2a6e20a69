/-
  The walk of ciphers.Decrypt.
-/
import Derived.Test.YtpcdckhabaoieaaCEnc
namespace Go.Proofs.Ytpcdckhabaoieaa
open Go.RowKit

namespace Ci
def decS (L b : List Nat) : Nat → List Nat
  | 0 => b
  | j + 1 => each Gf.back (rot 3 (if 10 - j < 10 then mix [14, 11, 13, 9] (addK (decS L b j) (ks L (10 - j))) else addK (decS L b j) (ks L (10 - j))))
def dec (L b : List Nat) : List Nat := addK (decS L b 10) (ks L 0)
theorem fac2_byt : Byt [14, 11, 13, 9] := by intro x hx; simp at hx; omega
theorem back_lt (a : Nat) : Gf.back a < 256 := Nat.mod_lt _ (by omega)
theorem decS_len (L b : List Nat) (hb : b.length = 16) : ∀ j, (decS L b j).length = 16
  | 0 => hb
  | _ + 1 => each_len _ _
theorem decS_byt {L b : List Nat} (hb : Byt b) : ∀ j, Byt (decS L b j)
  | 0 => hb
  | _ + 1 => each_byt back_lt _
end Ci

end Go.Proofs.Ytpcdckhabaoieaa
