/- What is proved here: a part of the law, run by the kernel. No conditions. -/
import Derived.Test.YtpokoiicogheaaaGreatDoorTfD
import Derived.KernelRfl
set_option maxRecDepth 100000
namespace Go.Proofs.YtpokoiicogheaaaGreatDoor
open Go Ev
theorem kBx : cvRun ps 1000000 3 [] (.loop (lpB x1)) cpBx = true := by kernel_rfl
end Go.Proofs.YtpokoiicogheaaaGreatDoor
