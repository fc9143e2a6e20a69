/-
  caissontop.TopNode: the long runs. (Printed by mktn.py.)
-/
import Derived.Test.YtjboelhcieepkaaGreatDoorZ18
namespace Go.Proofs.YtjboelhcieepkaaGreatDoor
set_option maxRecDepth 16384
open Go.RowKit
theorem kl_8_3_0:KLp 8 3 3 0 46:=by intro n cut dg C X x0 x1 x2 x3 h;kernel_rfl
theorem kl_8_3_1:KLp 8 3 3 46 92:=by intro n cut dg C X x0 x1 x2 x3 h;kernel_rfl
theorem kl_8_3_2:KLp 8 3 3 92 137:=by intro n cut dg C X x0 x1 x2 x3 h;kernel_rfl
theorem kl_8_4_0:KLp 8 4 4 0 46:=by intro n cut dg C X x0 x1 x2 x3 h;kernel_rfl
theorem kl_8_4_1:KLp 8 4 4 46 92:=by intro n cut dg C X x0 x1 x2 x3 h;kernel_rfl
theorem kl_8_4_2:KLp 8 4 4 92 137:=by intro n cut dg C X x0 x1 x2 x3 h;kernel_rfl
theorem ki_8_5_0:KIp 8 5 1 0 0 46:=by intro n cut dg C X x0 x1 x2 x3 hl h;kernel_rfl
theorem ki_8_5_1:KIp 8 5 1 0 46 92:=by intro n cut dg C X x0 x1 x2 x3 hl h;kernel_rfl
end Go.Proofs.YtjboelhcieepkaaGreatDoor
