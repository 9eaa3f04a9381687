/- What is proved here: a part of the law, run by the kernel. No conditions. -/
import Derived.Test.YtakeaojhkcbheaaGreatDoorSbL
import Derived.KernelRfl
set_option maxRecDepth 100000
namespace Go.Proofs.YtakeaojhkcbheaaGreatDoor
open Go Ev
theorem lA : ∀ ty q tm z, cvLnk phF 1000000 3 (fL ty q tm z) 12 bL (cs wl_s wl_0 .nrm) = true := fun ty q tm z => by kernel_rfl
end Go.Proofs.YtakeaojhkcbheaaGreatDoor
