/- What is proved here: calls of functions of the program that were run closed, as contracts. No conditions. -/
import Derived.Test.YtaogopbhjinmoaaGreatDoorPhi
import Derived.KernelRfl
set_option maxRecDepth 100000
namespace Go.Proofs.YtaogopbhjinmoaaGreatDoor
open Go Ev
theorem rr6 : rnRun ph1 1000001 6 r6 = true := by kernel_rfl
theorem rr8a : rnRun ph1 1000001 8 r8a = true := by kernel_rfl
theorem rr8b : rnRun ph1 1000001 8 r8b = true := by kernel_rfl
theorem rr11a : rnRun ph1 1000001 11 r11a = true := by kernel_rfl
theorem rr11b : rnRun ph1 1000001 11 r11b = true := by kernel_rfl
theorem rr11c : rnRun ph1 1000001 11 r11c = true := by kernel_rfl
theorem g6 : OrcOk Tryz.prog 6 (rnO pk6) := orc_rn mixed ph1_ok (pk6_all rr6)
theorem g8 : OrcOk Tryz.prog 8 (rnO pk8) := orc_rn mixed ph1_ok (pk8_all rr8a rr8b)
theorem g11 : OrcOk Tryz.prog 11 (rnO pk11) := orc_rn mixed ph1_ok (pk11_all rr11a rr11b rr11c)
end Go.Proofs.YtaogopbhjinmoaaGreatDoor
