/- What is proved here: calls of functions of the program that were run closed, as contracts. No conditions. -/
import Derived.Test.YtaogopbhjinmoaaGreatDoorPhi
import Derived.KernelRfl
set_option maxRecDepth 100000
namespace Go.Proofs.YtaogopbhjinmoaaGreatDoor
open Go Ev
theorem rr5 : rnRun ph1 1000001 5 r5 = true := by kernel_rfl
theorem g5 : OrcOk Tryz.prog 5 (rnO pk5) := orc_rn mixed ph1_ok (pk5_all rr5)
end Go.Proofs.YtaogopbhjinmoaaGreatDoor
