/- What is proved here: a part of the law, run by the kernel. No conditions. -/
import Derived.Test.YtpokoiicogheaaaGreatDoorTfD
import Derived.KernelRfl
set_option maxRecDepth 100000
namespace Go.Proofs.YtpokoiicogheaaaGreatDoor
open Go Ev
theorem kE2 : cvRnd ps 1000000 3 [] (lpB x2) 24 cpE2 = true := by kernel_rfl
end Go.Proofs.YtpokoiicogheaaaGreatDoor
