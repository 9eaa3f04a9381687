/- What is proved here: a part of the law, run by the kernel. No conditions. -/
import Derived.Test.YtpokoiicogheaaaGreatDoorTfD
import Derived.KernelRfl
set_option maxRecDepth 100000
namespace Go.Proofs.YtpokoiicogheaaaGreatDoor
open Go Ev
theorem kCY : cvRun ps 1000000 3 [] (fst1 y2) cpCY = true := by kernel_rfl
theorem kYD : cvRun ps 1000000 3 [] (fst1 x2) cpYD = true := by kernel_rfl
theorem kE1 : cvRnd ps 1000000 3 [] (lpB x2) 24 cpE1 = true := by kernel_rfl
end Go.Proofs.YtpokoiicogheaaaGreatDoor
