/-
  live22: a part of its run. (Printed by mklive.py.)
-/
import Derived.Test.YtjboelhcieepkaaGreatDoorZ22
namespace Go.Proofs.YtjboelhcieepkaaGreatDoor
set_option maxRecDepth 16384
open Go.RowKit
set_option maxRecDepth 100000
theorem live_a(w:World):Seg w (callPos Xt 15 []) lv2:=(.trans (.next H7_ok w 18 _) (.trans (.next H7_ok w 18 _) (.one H7_ok w 18 [1,2,3] [2,6,28,31,32,33,253,455,456] (by kernel_rfl))))
end Go.Proofs.YtjboelhcieepkaaGreatDoor
