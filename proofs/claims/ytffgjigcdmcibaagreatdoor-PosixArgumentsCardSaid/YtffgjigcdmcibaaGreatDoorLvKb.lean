/- What is proved here: the calls of a function that were run one by one make its contract. No conditions. -/
import Derived.Test.YtffgjigcdmcibaaGreatDoorSnKb0
import Derived.Test.YtffgjigcdmcibaaGreatDoorSnKb1
import Derived.Test.YtffgjigcdmcibaaGreatDoorSnKb2
import Derived.Test.YtffgjigcdmcibaaGreatDoorSnKb3
import Derived.KernelRfl
set_option maxRecDepth 100000
namespace Go.Proofs.YtffgjigcdmcibaaGreatDoor
open Go Ev
noncomputable def lKb : List Snap := [sKb0, sKb1, sKb2, sKb3]
theorem snKb : ∀ s ∈ lKb, ∃ Φ fuel, PhiOk Tryz.prog Φ ∧ snRun Φ fuel 10 s = true := by
  intro s hs
  simp only [lKb, List.mem_cons, List.mem_nil_iff, or_false] at hs
  rcases hs with rfl | rfl | rfl | rfl
  · exact ⟨phKa, 1000001, phKa_ok, rKb0⟩
  · exact ⟨phKa, 1000001, phKa_ok, rKb1⟩
  · exact ⟨phx2, 1000001, phx2_ok, rKb2⟩
  · exact ⟨phKa, 1000001, phKa_ok, rKb3⟩
noncomputable def phKb : Nat → Option CF := upd phKa 10 (.orc (snO lKb))
theorem phKb_ok : PhiOk Tryz.prog phKb := upd_ok phKa_ok (orc_snapX mixed snKb)
end Go.Proofs.YtffgjigcdmcibaaGreatDoor
