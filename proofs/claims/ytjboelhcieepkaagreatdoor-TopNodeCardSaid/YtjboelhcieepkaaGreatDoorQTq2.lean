/-
  caissontop.TopNode: the long runs. (Printed by mktn.py.)
-/
import Derived.Test.YtjboelhcieepkaaGreatDoorZ18
namespace Go.Proofs.YtjboelhcieepkaaGreatDoor
set_option maxRecDepth 16384
open Go.RowKit
theorem kl_3_1_2:KLp 3 1 1 92 137:=by intro n cut dg C X x0 x1 x2 x3 h;kernel_rfl
theorem ki_3_2_0:KIp 3 2 1 0 0 46:=by intro n cut dg C X x0 x1 x2 x3 hl h;kernel_rfl
theorem ki_3_2_1:KIp 3 2 1 0 46 92:=by intro n cut dg C X x0 x1 x2 x3 hl h;kernel_rfl
theorem ki_3_2_2:KIp 3 2 1 0 92 137:=by intro n cut dg C X x0 x1 x2 x3 hl h;kernel_rfl
theorem kl_4_0_0:KLp 4 0 0 0 46:=by intro n cut dg C X x0 x1 x2 x3 h;kernel_rfl
theorem kl_4_0_1:KLp 4 0 0 46 92:=by intro n cut dg C X x0 x1 x2 x3 h;kernel_rfl
theorem kl_4_0_2:KLp 4 0 0 92 137:=by intro n cut dg C X x0 x1 x2 x3 h;kernel_rfl
theorem kl_4_1_0:KLp 4 1 1 0 46:=by intro n cut dg C X x0 x1 x2 x3 h;kernel_rfl
end Go.Proofs.YtjboelhcieepkaaGreatDoor
