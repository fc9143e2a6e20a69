/-
  caissontop.TopNode: the long runs. (Printed by mktn.py.)
-/
import Derived.Test.YtjboelhcieepkaaGreatDoorZ18
namespace Go.Proofs.YtjboelhcieepkaaGreatDoor
set_option maxRecDepth 16384
open Go.RowKit
theorem kl_4_1_1:KLp 4 1 1 46 92:=by intro n cut dg C X x0 x1 x2 x3 h;kernel_rfl
theorem kl_4_1_2:KLp 4 1 1 92 137:=by intro n cut dg C X x0 x1 x2 x3 h;kernel_rfl
theorem kl_4_2_0:KLp 4 2 2 0 46:=by intro n cut dg C X x0 x1 x2 x3 h;kernel_rfl
theorem kl_4_2_1:KLp 4 2 2 46 92:=by intro n cut dg C X x0 x1 x2 x3 h;kernel_rfl
theorem kl_4_2_2:KLp 4 2 2 92 137:=by intro n cut dg C X x0 x1 x2 x3 h;kernel_rfl
theorem ki_4_3_0:KIp 4 3 1 0 0 46:=by intro n cut dg C X x0 x1 x2 x3 hl h;kernel_rfl
theorem ki_4_3_1:KIp 4 3 1 0 46 92:=by intro n cut dg C X x0 x1 x2 x3 hl h;kernel_rfl
theorem ki_4_3_2:KIp 4 3 1 0 92 137:=by intro n cut dg C X x0 x1 x2 x3 hl h;kernel_rfl
end Go.Proofs.YtjboelhcieepkaaGreatDoor
