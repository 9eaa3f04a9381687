/- What is proved here: facts of the program and the row that the kernel computes, each by itself (the shape of the program's types, what the function reaches). No conditions. -/
import Derived.Test.YtffgjigcdmcibaaGreatDoorRows
import Derived.ProofKit
import Derived.JoinedOf
import Derived.KernelRfl
set_option maxRecDepth 100000
namespace Go.Proofs.YtffgjigcdmcibaaGreatDoor
open Go
theorem j0 : (Rows.posixArgumentsRow.wf (OpenSpec.ofChange Rows.posixArgumentsSpec)) = true := by kernel_rfl
theorem j8 : ((Tryz.prog.stopKnobs == [])) = true := by kernel_rfl
theorem j16 : ((Rows.posixArgumentsRow.loops == (Tryz.f3.params.toList ++ Rows.posixArgumentsSpec.plain.varTypes Tryz.prog).any (Tryz.prog.loopsFrom ·))) = true := by kernel_rfl
theorem j24 : (Tryz.prog.stopsHeard) = true := by kernel_rfl
end Go.Proofs.YtffgjigcdmcibaaGreatDoor
