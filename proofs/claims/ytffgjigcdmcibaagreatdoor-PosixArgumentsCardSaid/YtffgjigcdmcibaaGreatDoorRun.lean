/- What is proved here: the closed run of the law comes to true. No conditions. -/
import Derived.Test.YtffgjigcdmcibaaGreatDoorKn
import Derived.Test.YtffgjigcdmcibaaGreatDoorPhi
import Derived.KernelRfl
set_option maxRecDepth 100000
namespace Go.Proofs.YtffgjigcdmcibaaGreatDoor
open Go Ev
noncomputable def ph3 : Nat → Option CF := upd ph1 7 (.orc gK)
theorem ph3_ok : PhiOk Tryz.prog ph3 := upd_ok ph1_ok okK
end Go.Proofs.YtffgjigcdmcibaaGreatDoor
