/-
  live22: a part of its run. (Printed by mklive.py.)
-/
import Derived.Test.YtjboelhcieepkaaGreatDoorZ22
namespace Go.Proofs.YtjboelhcieepkaaGreatDoor
set_option maxRecDepth 16384
open Go.RowKit
set_option maxRecDepth 100000
noncomputable def end22:Option SV:=match entryS Xt.P 15 with
 |some (fn,_)=>(finS Xt fn (runWS H7 Xt 18 lv6)).map (·.1)
 |none=>none
theorem live_e:end22=some (.v (.bool true)):=by kernel_rfl
end Go.Proofs.YtjboelhcieepkaaGreatDoor
