/-
  live22: a part of its run. (Printed by mklive.py.)
-/
import Derived.Test.YtjboelhcieepkaaGreatDoorZ22
namespace Go.Proofs.YtjboelhcieepkaaGreatDoor
set_option maxRecDepth 16384
open Go.RowKit
set_option maxRecDepth 100000
theorem live_b(w:World):Seg w lv2 lv3:=(.one H7_ok w 18 [1,2,3,4] [2,28,32,456,491,502,841,876,881,884,885,886] (by kernel_rfl))
end Go.Proofs.YtjboelhcieepkaaGreatDoor
