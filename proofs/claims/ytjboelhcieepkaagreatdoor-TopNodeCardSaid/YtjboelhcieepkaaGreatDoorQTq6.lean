/-
  caissontop.TopNode: the long runs. (Printed by mktn.py.)
-/
import Derived.Test.YtjboelhcieepkaaGreatDoorZ18
namespace Go.Proofs.YtjboelhcieepkaaGreatDoor
set_option maxRecDepth 16384
open Go.RowKit
theorem kl_8_0_1:KLp 8 0 0 46 92:=by intro n cut dg C X x0 x1 x2 x3 h;kernel_rfl
theorem kl_8_0_2:KLp 8 0 0 92 137:=by intro n cut dg C X x0 x1 x2 x3 h;kernel_rfl
theorem kl_8_1_0:KLp 8 1 1 0 46:=by intro n cut dg C X x0 x1 x2 x3 h;kernel_rfl
theorem kl_8_1_1:KLp 8 1 1 46 92:=by intro n cut dg C X x0 x1 x2 x3 h;kernel_rfl
theorem kl_8_1_2:KLp 8 1 1 92 137:=by intro n cut dg C X x0 x1 x2 x3 h;kernel_rfl
theorem kl_8_2_0:KLp 8 2 2 0 46:=by intro n cut dg C X x0 x1 x2 x3 h;kernel_rfl
theorem kl_8_2_1:KLp 8 2 2 46 92:=by intro n cut dg C X x0 x1 x2 x3 h;kernel_rfl
theorem kl_8_2_2:KLp 8 2 2 92 137:=by intro n cut dg C X x0 x1 x2 x3 h;kernel_rfl
end Go.Proofs.YtjboelhcieepkaaGreatDoor
