/- What is proved here: the closed run of the function known comes to true. No conditions. -/
import Derived.Test.YtaogopbhjinmoaaGreatDoorPhi
import Derived.KernelRfl
set_option maxRecDepth 100000
namespace Go.Proofs.YtaogopbhjinmoaaGreatDoor
open Go Ev
theorem ranK : isT (runF ph1 1000001 [] 4 []) = true := by kernel_rfl
noncomputable def gK (_ : RO) (args : List V) (M : Mem) (ct : Nat) : RC := match args with | [] => .k (.b true) M ct | _ => .f
theorem okK : OrcOk Tryz.prog 4 gK := orc_closed mixed ph1_ok ranK
end Go.Proofs.YtaogopbhjinmoaaGreatDoor
