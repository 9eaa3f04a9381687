/- What is proved here: facts of the program and the row that the kernel computes, each by itself (the shape of the program's types, what the function reaches). No conditions. -/
import Derived.Test.YtlghgdifncfogaaGreatDoorRows
import Derived.ProofKit
import Derived.JoinedOf
import Derived.KernelRfl
set_option maxRecDepth 100000
namespace Go.Proofs.YtlghgdifncfogaaGreatDoor
open Go
theorem j0 : (Rows.posixNilRow.wf (OpenSpec.ofChange Rows.posixNilSpec)) = true := by kernel_rfl
theorem j8 : ((Tryz.prog.stopKnobs == [])) = true := by kernel_rfl
theorem j16 : ((Rows.posixNilRow.loops == (Tryz.f3.params.toList ++ Rows.posixNilSpec.plain.varTypes Tryz.prog).any (Tryz.prog.loopsFrom ·))) = true := by kernel_rfl
theorem j24 : (Tryz.prog.stopsHeard) = true := by kernel_rfl
end Go.Proofs.YtlghgdifncfogaaGreatDoor
