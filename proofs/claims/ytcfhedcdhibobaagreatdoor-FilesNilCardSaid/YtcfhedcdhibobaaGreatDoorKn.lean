/- What is proved here: the closed run of the function known comes to true. No conditions. -/
import Derived.Test.YtcfhedcdhibobaaGreatDoorLvKa
import Derived.KernelRfl
set_option maxRecDepth 100000
namespace Go.Proofs.YtcfhedcdhibobaaGreatDoor
open Go Ev
theorem ranK : isT (runF phKa 1000001 [] 20 []) = true := by kernel_rfl
noncomputable def gK (_ : RO) (args : List V) (M : Mem) (ct : Nat) : RC := match args with | [] => .k (.b true) M ct | _ => .f
theorem okK : OrcOk Tryz.prog 20 gK := orc_closed mixed phKa_ok ranK
end Go.Proofs.YtcfhedcdhibobaaGreatDoor
