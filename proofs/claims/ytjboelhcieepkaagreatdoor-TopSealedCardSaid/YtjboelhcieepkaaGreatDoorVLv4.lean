/- A part of the proof of TopSealed. -/
import Derived.Test.YtjboelhcieepkaaGreatDoorW24
noncomputable section
set_option maxRecDepth 16384
namespace Go.Proofs.YtjboelhcieepkaaGreatDoor
open Go.RowKit
section
set_option maxRecDepth 100000
theorem aPg(w:World):lD w G4 r8:=(.one tQ w 18 [1,2,3,4,5,6,7,9] [2,28,32,456,502,876,881,885,1071,1075,1083,1087,1095,1098,1099,1100,1106,1236,1327,2993] (by kernel_rfl))
end
