/- What is proved here: answers of functions that are handed no address, run by the kernel. No conditions. -/
import Derived.Test.YtakeaojhkcbheaaGreatDoorSbD
import Derived.KernelRfl
set_option maxRecDepth 100000
namespace Go.Proofs.YtakeaojhkcbheaaGreatDoor
open Go Ev
theorem kp14 : tbRun pz0 1000000 14 p14 = true := by kernel_rfl
theorem kp27a : tbRun pz0 1000000 27 p27a = true := by kernel_rfl
theorem kp20 : tbRun phA 1000000 20 p20 = true := by kernel_rfl
end Go.Proofs.YtakeaojhkcbheaaGreatDoor
