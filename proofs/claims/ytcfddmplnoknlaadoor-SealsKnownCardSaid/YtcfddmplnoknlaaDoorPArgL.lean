/-
  Arguments of the laws of seals opened: what a block is sealed with.
-/
import Derived.Test.YtcfddmplnoknlaaDoorY22
import Derived.Deep.Strs
namespace Go.Proofs.YtcfddmplnoknlaaDoor
set_option maxRecDepth 16384
open Go.RowKit Go.WideShapes Go.ChangeShapes Go.Joins Sh
section
variable {H : Type} {enc : TypeId × Value → H} {W : World}
end
end Go.Proofs.YtcfddmplnoknlaaDoor
