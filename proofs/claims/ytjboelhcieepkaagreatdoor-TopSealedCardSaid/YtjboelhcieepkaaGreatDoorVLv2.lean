/- A part of the proof of TopSealed. -/
import Derived.Test.YtjboelhcieepkaaGreatDoorW24
noncomputable section
set_option maxRecDepth 16384
namespace Go.Proofs.YtjboelhcieepkaaGreatDoor
open Go.RowKit
section
set_option maxRecDepth 100000
theorem a6z(w:World):lD w F5 lv3:=(.one tQ w 18 [1,2,3,4] [2,28,32,456,491,502,841,876,881,884,885,886] (by kernel_rfl))
end
