/- What is proved here: the closed run of the law comes to true. No conditions. -/
import Derived.Test.YtaogopbhjinmoaaGreatDoorKn
import Derived.Test.YtaogopbhjinmoaaGreatDoorPhi
import Derived.Test.YtaogopbhjinmoaaGreatDoorAl
import Derived.Test.YtaogopbhjinmoaaGreatDoorRb
import Derived.Test.YtaogopbhjinmoaaGreatDoorRc
import Derived.KernelRfl
set_option maxRecDepth 100000
namespace Go.Proofs.YtaogopbhjinmoaaGreatDoor
open Go Ev
noncomputable def ph3 : Nat → Option CF := upd ph1 4 (.orc gK)
theorem ph3_ok : PhiOk Tryz.prog ph3 := upd_ok ph1_ok okK
end Go.Proofs.YtaogopbhjinmoaaGreatDoor
