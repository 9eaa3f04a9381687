/- What is proved here: the closed run of the law comes to true. No conditions. -/
import Derived.Test.YtmbfboidfbaeiaaGreatDoorSnK0
import Derived.Test.YtmbfboidfbaeiaaGreatDoorSnK1
import Derived.Test.YtmbfboidfbaeiaaGreatDoorSnM0
import Derived.Test.YtmbfboidfbaeiaaGreatDoorPhi
import Derived.KernelRfl
set_option maxRecDepth 100000
namespace Go.Proofs.YtmbfboidfbaeiaaGreatDoor
open Go Ev
noncomputable def lK : List Snap := [sK0, sK1, sK2, sK3, sK4]
theorem snK : ∀ s ∈ lK, snRun ph1 1000001 8 s = true := by
  intro s hs
  simp only [lK, List.mem_cons, List.mem_nil_iff, or_false] at hs
  rcases hs with rfl | rfl | rfl | rfl | rfl
  · exact rK0
  · exact rK1
  · exact rK2
  · exact rK3
  · exact rK4
noncomputable def lM : List Snap := [sM0, sM1, sM2]
theorem snM : ∀ s ∈ lM, snRun ph1 1000001 8 s = true := by
  intro s hs
  simp only [lM, List.mem_cons, List.mem_nil_iff, or_false] at hs
  rcases hs with rfl | rfl | rfl
  · exact rM0
  · exact rM1
  · exact rM2
noncomputable def ph2 : Nat → Option CF := upd ph1 8 (.orc (snO lK))
theorem ph2_ok : PhiOk Tryz.prog ph2 := upd_ok ph1_ok (orc_snap mixed ph1_ok snK)
theorem ranK : isT (runF ph2 1000001 [] 11 []) = true := by kernel_rfl
noncomputable def gK (_ : RO) (args : List V) (M : Mem) (ct : Nat) : RC := match args with | [] => .k (.b true) M ct | _ => .f
noncomputable def ph3 : Nat → Option CF := upd (upd ph1 8 (.orc (snO lM))) 11 (.orc gK)
theorem ph3_ok : PhiOk Tryz.prog ph3 := upd_ok (upd_ok ph1_ok (orc_snap mixed ph1_ok snM)) (orc_closed mixed ph2_ok ranK)
theorem ran : ∀ ty, isT (runF ph3 1000001 (tabF tabs ty) 4 []) = true := fun ty => by kernel_rfl
end Go.Proofs.YtmbfboidfbaeiaaGreatDoor
