/- What is proved here: calls of a function of the program at memory that is written out, run one by one by the kernel. No conditions. -/
import Derived.Test.YtcfhedcdhibobaaGreatDoorPhi
import Derived.KernelRfl
set_option maxRecDepth 100000
namespace Go.Proofs.YtcfhedcdhibobaaGreatDoor
open Go Ev
noncomputable def sMa0 : Snap := ⟨1013, [.p0, (v6 0), (v6 16)], [], (.t [.p0, (v6 1)]), [], 1015⟩
theorem rMa0 : snRun ph1 1000001 18 sMa0 = true := by kernel_rfl
end Go.Proofs.YtcfhedcdhibobaaGreatDoor
