/- What is proved here: a part of the law, run by the kernel. No conditions. -/
import Derived.Test.YtakeaojhkcbheaaGreatDoorSbL
import Derived.KernelRfl
set_option maxRecDepth 100000
namespace Go.Proofs.YtakeaojhkcbheaaGreatDoor
open Go Ev
theorem lB2 : ∀ ty q tm z, cvRnd phF 1000000 3 (fL ty q tm z) (lpB bLb) 1400 (cs wr_1 wr_2 .nrm) = true := fun ty q tm z => by kernel_rfl
end Go.Proofs.YtakeaojhkcbheaaGreatDoor
