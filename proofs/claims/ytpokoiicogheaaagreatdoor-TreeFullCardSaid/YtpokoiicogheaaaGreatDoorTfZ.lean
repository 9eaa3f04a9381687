/- What is proved here: the law comes to true: its contract at the program. No conditions. -/
import Derived.Test.YtpokoiicogheaaaGreatDoorTfJ
import Derived.KernelRfl
set_option maxRecDepth 100000
namespace Go.Proofs.YtpokoiicogheaaaGreatDoor
open Go Ev
theorem mixz : Tryz.prog.follows .mixedOrders = true := by kernel_rfl
theorem pz_ok : PhiOk Tryz.prog pz := phi_ok
theorem ps_ok : PhiOk Tryz.prog ps := by
  obtain ⟨fn, h1, h2⟩ := ok9
  exact upd_ok pz_ok (orc_copy mixz pz_ok (by kernel_rfl) (by kernel_rfl) (by kernel_rfl) (by kernel_rfl) h1 h2)
theorem o3T : OrcOk Tryz.prog 3 (knownO []) := by
  obtain ⟨fn, h1, h2⟩ := ok3
  exact o3 mixz ps_ok h1 h2
end Go.Proofs.YtpokoiicogheaaaGreatDoor
