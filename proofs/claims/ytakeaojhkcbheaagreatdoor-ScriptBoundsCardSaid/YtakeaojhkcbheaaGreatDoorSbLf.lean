/- What is proved here: a part of the law, run by the kernel. No conditions. -/
import Derived.Test.YtakeaojhkcbheaaGreatDoorSbL
import Derived.KernelRfl
set_option maxRecDepth 100000
namespace Go.Proofs.YtakeaojhkcbheaaGreatDoor
open Go Ev
theorem lB3 : ∀ ty q tm z, cvRun phF 1000000 3 (fL ty q tm z) (.loop (lpB bLb)) (cs wr_2 wl_1 (.ext 6)) = true := fun ty q tm z => by kernel_rfl
end Go.Proofs.YtakeaojhkcbheaaGreatDoor
