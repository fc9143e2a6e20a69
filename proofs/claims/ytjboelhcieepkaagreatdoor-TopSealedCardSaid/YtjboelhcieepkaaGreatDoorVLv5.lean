/- A part of the proof of TopSealed. -/
import Derived.Test.YtjboelhcieepkaaGreatDoorW24
noncomputable section
set_option maxRecDepth 16384
namespace Go.Proofs.YtjboelhcieepkaaGreatDoor
open Go.RowKit
section
set_option maxRecDepth 100000
def aLw:Option SV:=match entryS Xt.P 15 with
 |some (fn,_)=>(uQ Xt fn (tG H7 Xt 18 r8)).map (·.1)
 |none=>none
theorem a2E:aLw=some (.v (.bool true)):=by kernel_rfl
end
