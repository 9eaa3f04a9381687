/- What is proved here: the answer of a function at one long argument, run by the kernel. No conditions. -/
import Derived.Test.YtakeaojhkcbheaaGreatDoorSbD
import Derived.KernelRfl
set_option maxRecDepth 100000
namespace Go.Proofs.YtakeaojhkcbheaaGreatDoor
open Go Ev
theorem kp27b : tbRun pz0 1000000 27 p27b = true := by kernel_rfl
end Go.Proofs.YtakeaojhkcbheaaGreatDoor
