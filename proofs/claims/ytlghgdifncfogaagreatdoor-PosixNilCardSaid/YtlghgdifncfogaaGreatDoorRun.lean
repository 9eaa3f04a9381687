/- What is proved here: the closed run of the law comes to true. No conditions. -/
import Derived.Test.YtlghgdifncfogaaGreatDoorKn
import Derived.Test.YtlghgdifncfogaaGreatDoorLvMa
import Derived.KernelRfl
set_option maxRecDepth 100000
namespace Go.Proofs.YtlghgdifncfogaaGreatDoor
open Go Ev
noncomputable def ph3 : Nat → Option CF := upd phMa 15 (.orc gK)
theorem ph3_ok : PhiOk Tryz.prog ph3 := upd_ok phMa_ok okK
theorem ran : ∀ ty, isT (runF ph3 1000001 (tabF tabs ty) 3 []) = true := fun ty => by kernel_rfl
end Go.Proofs.YtlghgdifncfogaaGreatDoor
