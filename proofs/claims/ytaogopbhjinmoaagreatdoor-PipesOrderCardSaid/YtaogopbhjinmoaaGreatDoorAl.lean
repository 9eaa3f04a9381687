/- What is proved here: calls of functions of the program that were run closed, as contracts. No conditions. -/
import Derived.Test.YtaogopbhjinmoaaGreatDoorPhi
import Derived.KernelRfl
set_option maxRecDepth 100000
namespace Go.Proofs.YtaogopbhjinmoaaGreatDoor
open Go Ev
theorem ranA : isT (runF ph1 1000001 [] 13 []) = true := by kernel_rfl
noncomputable def gA (_ : RO) (args : List V) (M : Mem) (ct : Nat) : RC := match args with | [] => .k (.b true) M ct | _ => .f
theorem okA : OrcOk Tryz.prog 13 gA := orc_closed mixed ph1_ok ranA
end Go.Proofs.YtaogopbhjinmoaaGreatDoor
