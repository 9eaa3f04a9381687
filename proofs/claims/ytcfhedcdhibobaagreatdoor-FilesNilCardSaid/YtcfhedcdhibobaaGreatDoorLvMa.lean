/- What is proved here: the calls of a function that were run one by one make its contract. No conditions. -/
import Derived.Test.YtcfhedcdhibobaaGreatDoorSnMa0
import Derived.KernelRfl
set_option maxRecDepth 100000
namespace Go.Proofs.YtcfhedcdhibobaaGreatDoor
open Go Ev
noncomputable def lMa : List Snap := [sMa0]
theorem snMa : ∀ s ∈ lMa, snRun ph1 1000001 18 s = true := by
  intro s hs
  simp only [lMa, List.mem_cons, List.mem_nil_iff, or_false] at hs
  subst hs
  exact rMa0
noncomputable def phMa : Nat → Option CF := upd ph1 18 (.orc (snO lMa))
theorem phMa_ok : PhiOk Tryz.prog phMa := upd_ok ph1_ok (orc_snap mixed ph1_ok snMa)
end Go.Proofs.YtcfhedcdhibobaaGreatDoor
