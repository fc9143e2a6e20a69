/-
  caissontop.TopNode: the long runs. (Printed by mktn.py.)
-/
import Derived.Test.YtjboelhcieepkaaGreatDoorZ18
namespace Go.Proofs.YtjboelhcieepkaaGreatDoor
set_option maxRecDepth 16384
open Go.RowKit
theorem kl_5_2_2:KLp 5 2 2 92 137:=by intro n cut dg C X x0 x1 x2 x3 h;kernel_rfl
theorem kl_5_3_0:KLp 5 3 3 0 46:=by intro n cut dg C X x0 x1 x2 x3 h;kernel_rfl
theorem kl_5_3_1:KLp 5 3 3 46 92:=by intro n cut dg C X x0 x1 x2 x3 h;kernel_rfl
theorem kl_5_3_2:KLp 5 3 3 92 137:=by intro n cut dg C X x0 x1 x2 x3 h;kernel_rfl
theorem ki_5_4_0:KIp 5 4 1 0 0 46:=by intro n cut dg C X x0 x1 x2 x3 hl h;kernel_rfl
theorem ki_5_4_1:KIp 5 4 1 0 46 92:=by intro n cut dg C X x0 x1 x2 x3 hl h;kernel_rfl
theorem ki_5_4_2:KIp 5 4 1 0 92 137:=by intro n cut dg C X x0 x1 x2 x3 hl h;kernel_rfl
theorem kl_8_0_0:KLp 8 0 0 0 46:=by intro n cut dg C X x0 x1 x2 x3 h;kernel_rfl
end Go.Proofs.YtjboelhcieepkaaGreatDoor
