/-
  The walk of caissonlaw06.rising.
-/
import Derived.Test.YtpcdckhabaoieaaCLaw1
namespace Go.Proofs.Ytpcdckhabaoieaa
open Go.RowKit

def risL (by_ : Nat) : List Nat := (List.range 16).map fun i => by_ * i % 256


end Go.Proofs.Ytpcdckhabaoieaa
