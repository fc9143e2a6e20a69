/-
  caissontop.TopNode: the long runs. (Printed by mktn.py.)
-/
import Derived.Test.YtjboelhcieepkaaGreatDoorZ18
namespace Go.Proofs.YtjboelhcieepkaaGreatDoor
set_option maxRecDepth 16384
open Go.RowKit
theorem kl_5_0_0:KLp 5 0 0 0 46:=by intro n cut dg C X x0 x1 x2 x3 h;kernel_rfl
theorem kl_5_0_1:KLp 5 0 0 46 92:=by intro n cut dg C X x0 x1 x2 x3 h;kernel_rfl
theorem kl_5_0_2:KLp 5 0 0 92 137:=by intro n cut dg C X x0 x1 x2 x3 h;kernel_rfl
theorem kl_5_1_0:KLp 5 1 1 0 46:=by intro n cut dg C X x0 x1 x2 x3 h;kernel_rfl
theorem kl_5_1_1:KLp 5 1 1 46 92:=by intro n cut dg C X x0 x1 x2 x3 h;kernel_rfl
theorem kl_5_1_2:KLp 5 1 1 92 137:=by intro n cut dg C X x0 x1 x2 x3 h;kernel_rfl
theorem kl_5_2_0:KLp 5 2 2 0 46:=by intro n cut dg C X x0 x1 x2 x3 h;kernel_rfl
theorem kl_5_2_1:KLp 5 2 2 46 92:=by intro n cut dg C X x0 x1 x2 x3 h;kernel_rfl
end Go.Proofs.YtjboelhcieepkaaGreatDoor
