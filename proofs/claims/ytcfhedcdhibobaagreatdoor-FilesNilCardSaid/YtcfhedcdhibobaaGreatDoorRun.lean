/- What is proved here: the closed run of the law comes to true. No conditions. -/
import Derived.Test.YtcfhedcdhibobaaGreatDoorKn
import Derived.Test.YtcfhedcdhibobaaGreatDoorLvMa
import Derived.KernelRfl
set_option maxRecDepth 100000
namespace Go.Proofs.YtcfhedcdhibobaaGreatDoor
open Go Ev
noncomputable def ph3 : Nat → Option CF := upd phMa 20 (.orc gK)
theorem ph3_ok : PhiOk Tryz.prog ph3 := upd_ok phMa_ok okK
theorem ran : ∀ ty, isT (runF ph3 1000001 (tabF tabs ty) 3 []) = true := fun ty => by kernel_rfl
end Go.Proofs.YtcfhedcdhibobaaGreatDoor
