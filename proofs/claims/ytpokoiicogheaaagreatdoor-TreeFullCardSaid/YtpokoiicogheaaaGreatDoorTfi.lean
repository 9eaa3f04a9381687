/- What is proved here: a part of the law, run by the kernel. No conditions. -/
import Derived.Test.YtpokoiicogheaaaGreatDoorTfD
import Derived.KernelRfl
set_option maxRecDepth 100000
namespace Go.Proofs.YtpokoiicogheaaaGreatDoor
open Go Ev
theorem kFG : cvLnk ps 1000000 3 [] 4 rst cpFG = true := by kernel_rfl
theorem kGH : cvRun ps 1000000 3 [] rst5 cpGH = true := by kernel_rfl
end Go.Proofs.YtpokoiicogheaaaGreatDoor
