/- What is proved here: a part of the law, run by the kernel. No conditions. -/
import Derived.Test.YtakeaojhkcbheaaGreatDoorSbL
import Derived.KernelRfl
set_option maxRecDepth 100000
namespace Go.Proofs.YtakeaojhkcbheaaGreatDoor
open Go Ev
theorem lB0 : ∀ ty q tm z, cvRun phF 1000000 3 (fL ty q tm z) (lpA bLb) (cs wl_0 wr_0 .nrm) = true := fun ty q tm z => by kernel_rfl
theorem lB1 : ∀ ty q tm z, cvRnd phF 1000000 3 (fL ty q tm z) (lpB bLb) 1400 (cs wr_0 wr_1 .nrm) = true := fun ty q tm z => by kernel_rfl
end Go.Proofs.YtakeaojhkcbheaaGreatDoor
