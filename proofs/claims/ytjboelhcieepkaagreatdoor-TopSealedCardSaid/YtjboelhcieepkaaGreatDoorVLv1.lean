/- A part of the proof of TopSealed. -/
import Derived.Test.YtjboelhcieepkaaGreatDoorW24
noncomputable section
set_option maxRecDepth 16384
namespace Go.Proofs.YtjboelhcieepkaaGreatDoor
open Go.RowKit
section
set_option maxRecDepth 100000
theorem a2l(w:World):lD w (W4 Xt 15 []) F5:=(.trans (.next tQ w 18 _) (.trans (.next tQ w 18 _) (.one tQ w 18 [1,2,3] [2,6,28,31,32,33,253,455,456] (by kernel_rfl))))
end
