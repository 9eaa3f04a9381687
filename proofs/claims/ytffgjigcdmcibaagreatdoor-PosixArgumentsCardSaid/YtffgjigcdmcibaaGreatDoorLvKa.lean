/- What is proved here: the calls of a function that were run one by one make its contract. No conditions. -/
import Derived.Test.YtffgjigcdmcibaaGreatDoorSnKa0
import Derived.Test.YtffgjigcdmcibaaGreatDoorSnKa1
import Derived.Test.YtffgjigcdmcibaaGreatDoorSnKa2
import Derived.Test.YtffgjigcdmcibaaGreatDoorSnKa3
import Derived.KernelRfl
set_option maxRecDepth 100000
namespace Go.Proofs.YtffgjigcdmcibaaGreatDoor
open Go Ev
noncomputable def lKa : List Snap := [sKa0, sKa1, sKa2, sKa3]
theorem snKa : ∀ s ∈ lKa, snRun ph1 1000001 24 s = true := by
  intro s hs
  simp only [lKa, List.mem_cons, List.mem_nil_iff, or_false] at hs
  rcases hs with rfl | rfl | rfl | rfl
  · exact rKa0
  · exact rKa1
  · exact rKa2
  · exact rKa3
noncomputable def phKa : Nat → Option CF := upd ph1 24 (.orc (snO lKa))
theorem phKa_ok : PhiOk Tryz.prog phKa := upd_ok ph1_ok (orc_snap mixed ph1_ok snKa)
end Go.Proofs.YtffgjigcdmcibaaGreatDoor
