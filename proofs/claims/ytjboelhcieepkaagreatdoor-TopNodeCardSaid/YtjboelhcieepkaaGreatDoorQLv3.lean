/-
  live22: a part of its run. (Printed by mklive.py.)
-/
import Derived.Test.YtjboelhcieepkaaGreatDoorZ22
namespace Go.Proofs.YtjboelhcieepkaaGreatDoor
set_option maxRecDepth 16384
open Go.RowKit
set_option maxRecDepth 100000
theorem live_c(w:World):Seg w lv3 lv5:=(.trans (.next H7_ok w 18 _) (.one H7_ok w 18 [1,2,3,4,5,6] [2,28,32,456,502,876,881,885,1071,1075,1083,1087,1095,1098,1099,1100,1106,1236,1327] (by kernel_rfl)))
end Go.Proofs.YtjboelhcieepkaaGreatDoor
