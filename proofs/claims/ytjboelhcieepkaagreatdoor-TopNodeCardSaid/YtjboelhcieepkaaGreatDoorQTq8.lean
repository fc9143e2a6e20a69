/-
  caissontop.TopNode: the long runs. (Printed by mktn.py.)
-/
import Derived.Test.YtjboelhcieepkaaGreatDoorZ18
namespace Go.Proofs.YtjboelhcieepkaaGreatDoor
set_option maxRecDepth 16384
open Go.RowKit
theorem ki_8_5_2:KIp 8 5 1 0 92 137:=by intro n cut dg C X x0 x1 x2 x3 hl h;kernel_rfl
theorem ki_8_6_0:KIp 8 6 1 1 0 46:=by intro n cut dg C X x0 x1 x2 x3 hl h;kernel_rfl
theorem ki_8_6_1:KIp 8 6 1 1 46 92:=by intro n cut dg C X x0 x1 x2 x3 hl h;kernel_rfl
theorem ki_8_6_2:KIp 8 6 1 1 92 137:=by intro n cut dg C X x0 x1 x2 x3 hl h;kernel_rfl
theorem ki_8_7_0:KIp 8 7 2 0 0 46:=by intro n cut dg C X x0 x1 x2 x3 hl h;kernel_rfl
theorem ki_8_7_1:KIp 8 7 2 0 46 92:=by intro n cut dg C X x0 x1 x2 x3 hl h;kernel_rfl
theorem ki_8_7_2:KIp 8 7 2 0 92 137:=by intro n cut dg C X x0 x1 x2 x3 hl h;kernel_rfl
end Go.Proofs.YtjboelhcieepkaaGreatDoor
