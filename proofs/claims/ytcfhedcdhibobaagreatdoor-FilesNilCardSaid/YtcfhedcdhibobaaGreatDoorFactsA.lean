/- What is proved here: facts of the program and the row that the kernel computes, each by itself (the shape of the program's types, what the function reaches). No conditions. -/
import Derived.Test.YtcfhedcdhibobaaGreatDoorRows
import Derived.ProofKit
import Derived.JoinedOf
import Derived.KernelRfl
set_option maxRecDepth 100000
namespace Go.Proofs.YtcfhedcdhibobaaGreatDoor
open Go
theorem j0 : (Rows.filesNilRow.wf (OpenSpec.ofChange Rows.filesNilSpec)) = true := by kernel_rfl
theorem j4 : (namedTie Tryz.prog Rows.filesNilRow.named Rows.filesNilSpec.vars) = true := by kernel_rfl
theorem j8 : ((Tryz.prog.stopKnobs == [])) = true := by kernel_rfl
theorem j12 : ((Rows.filesNilRow.named == Tryz.prog.varsNamed 3)) = true := by kernel_rfl
theorem j16 : ((Rows.filesNilRow.loops == (Tryz.f3.params.toList ++ Rows.filesNilSpec.plain.varTypes Tryz.prog).any (Tryz.prog.loopsFrom ·))) = true := by kernel_rfl
theorem j20 : ((Rows.filesNilRow.ifacesOut == Tryz.f3.resultTypes.toList.any (Tryz.prog.ifacesRec ·))) = true := by kernel_rfl
theorem j24 : (Tryz.prog.stopsHeard) = true := by kernel_rfl
theorem j28 : ((Rows.filesNilRow.kinds == (if Rows.filesNilRow.domain.isEmpty then [] else Tryz.f3.params.toList.map fun t => match Tryz.prog.underlying t with | some (.int k) => some k | _ => none))) = true := by kernel_rfl
end Go.Proofs.YtcfhedcdhibobaaGreatDoor
