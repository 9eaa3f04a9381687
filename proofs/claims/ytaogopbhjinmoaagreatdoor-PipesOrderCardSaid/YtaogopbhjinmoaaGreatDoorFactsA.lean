/- What is proved here: facts of the program and the row that the kernel computes, each by itself (the shape of the program's types, what the function reaches). No conditions. -/
import Derived.Test.YtaogopbhjinmoaaGreatDoorRows
import Derived.ProofKit
import Derived.JoinedOf
import Derived.KernelRfl
set_option maxRecDepth 100000
namespace Go.Proofs.YtaogopbhjinmoaaGreatDoor
open Go
theorem j0 : (Rows.pipesOrderRow.wf (OpenSpec.ofChange Rows.pipesOrderSpec)) = true := by kernel_rfl
theorem j4 : (namedTie Tryz.prog Rows.pipesOrderRow.named Rows.pipesOrderSpec.vars) = true := by kernel_rfl
theorem j8 : ((Tryz.prog.stopKnobs == [])) = true := by kernel_rfl
theorem j12 : ((Rows.pipesOrderRow.named == Tryz.prog.varsNamed 3)) = true := by kernel_rfl
theorem j16 : ((Rows.pipesOrderRow.loops == (Tryz.f3.params.toList ++ Rows.pipesOrderSpec.plain.varTypes Tryz.prog).any (Tryz.prog.loopsFrom ·))) = true := by kernel_rfl
theorem j20 : ((Rows.pipesOrderRow.ifacesOut == Tryz.f3.resultTypes.toList.any (Tryz.prog.ifacesRec ·))) = true := by kernel_rfl
theorem j24 : (Tryz.prog.stopsHeard) = true := by kernel_rfl
theorem j28 : ((Rows.pipesOrderRow.kinds == (if Rows.pipesOrderRow.domain.isEmpty then [] else Tryz.f3.params.toList.map fun t => match Tryz.prog.underlying t with | some (.int k) => some k | _ => none))) = true := by kernel_rfl
end Go.Proofs.YtaogopbhjinmoaaGreatDoor
