/- What is proved here: the closed run of the law comes to true. No conditions. -/
import Derived.Test.YtjimcbpkpgempaaGreatDoorPhi
import Derived.KernelRfl
set_option maxRecDepth 100000
namespace Go.Proofs.YtjimcbpkpgempaaGreatDoor
open Go Ev
theorem ranK : isT (runF ph1 1000001 [] 20 []) = true := by kernel_rfl
noncomputable def gK (_ : RO) (args : List V) (M : Mem) (ct : Nat) : RC := match args with | [] => .k (.b true) M ct | _ => .f
noncomputable def ph3 : Nat → Option CF := upd ph1 20 (.orc gK)
theorem ph3_ok : PhiOk Tryz.prog ph3 := upd_ok ph1_ok (orc_closed mixed ph1_ok ranK)
end Go.Proofs.YtjimcbpkpgempaaGreatDoor
