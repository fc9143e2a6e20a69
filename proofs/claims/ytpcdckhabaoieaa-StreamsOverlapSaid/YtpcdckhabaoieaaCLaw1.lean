/-
  Walks of caissonlaw06.words and caissonlaw06.rising.
-/
import Derived.Test.YtpcdckhabaoieaaCDec
namespace Go.Proofs.Ytpcdckhabaoieaa
open Go.RowKit

def z176 : List Nat := List.replicate 176 0
theorem z176_len : z176.length = 176 := List.length_replicate ..
theorem zeroWords (w : World) : (zeroValue 75).run Try.prog w = .ok (.agg (va .u8 z176)) w := by kernel_rfl


end Go.Proofs.Ytpcdckhabaoieaa
