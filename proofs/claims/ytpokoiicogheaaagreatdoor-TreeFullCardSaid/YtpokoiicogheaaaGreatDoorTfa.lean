/- What is proved here: a part of the law, run by the kernel. No conditions. -/
import Derived.Test.YtpokoiicogheaaaGreatDoorTfD
import Derived.KernelRfl
set_option maxRecDepth 100000
namespace Go.Proofs.YtpokoiicogheaaaGreatDoor
open Go Ev
theorem kS : cvLnk ps 1000000 3 [] 1 bL cpS = true := by kernel_rfl
theorem kZA : cvRun ps 1000000 3 [] (fst1 x1) cpZA = true := by kernel_rfl
theorem kB1 : cvRnd ps 1000000 3 [] (lpB x1) 24 cpB1 = true := by kernel_rfl
end Go.Proofs.YtpokoiicogheaaaGreatDoor
