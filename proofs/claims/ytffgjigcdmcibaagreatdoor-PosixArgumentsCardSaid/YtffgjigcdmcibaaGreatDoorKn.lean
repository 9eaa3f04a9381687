/- What is proved here: the closed run of the function known comes to true. No conditions. -/
import Derived.Test.YtffgjigcdmcibaaGreatDoorLvKb
import Derived.KernelRfl
set_option maxRecDepth 100000
namespace Go.Proofs.YtffgjigcdmcibaaGreatDoor
open Go Ev
theorem ranK : isT (runF phKb 1000001 [] 7 []) = true := by kernel_rfl
noncomputable def gK (_ : RO) (args : List V) (M : Mem) (ct : Nat) : RC := match args with | [] => .k (.b true) M ct | _ => .f
theorem okK : OrcOk Tryz.prog 7 gK := orc_closed mixed phKb_ok ranK
end Go.Proofs.YtffgjigcdmcibaaGreatDoor
