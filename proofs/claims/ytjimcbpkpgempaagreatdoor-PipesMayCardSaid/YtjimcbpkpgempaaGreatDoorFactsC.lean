/- What is proved here: facts of the program and the row that the kernel computes, each by itself (the shape of the program's types, what the function reaches). No conditions. -/
import Derived.Test.YtjimcbpkpgempaaGreatDoorRows
import Derived.ProofKit
import Derived.JoinedOf
import Derived.KernelRfl
set_option maxRecDepth 100000
namespace Go.Proofs.YtjimcbpkpgempaaGreatDoor
open Go
theorem j11 : ((Rows.pipesMayRow.recurses == Tryz.prog.recurses 4)) = true := by kernel_rfl
theorem j12 : ((Rows.pipesMayRow.named == Tryz.prog.varsNamed 4)) = true := by kernel_rfl
theorem j25 : (Tryz.prog.mayEnter) = true := by kernel_rfl
theorem j26 : ((Rows.pipesMayRow.lifted == Tryz.prog.liftsFinal)) = true := by kernel_rfl
theorem j27 : ((Tryz.prog.make == some Rows.pipesMayRow.make)) = true := by kernel_rfl
theorem j28 : ((Rows.pipesMayRow.kinds == (if Rows.pipesMayRow.domain.isEmpty then [] else Tryz.f4.params.toList.map fun t => match Tryz.prog.underlying t with | some (.int k) => some k | _ => none))) = true := by kernel_rfl
theorem j29 : ((Rows.pipesMayRow.pinned == Rows.pipesMayRow.pinnedBy)) = true := by kernel_rfl
theorem j30 : ((Rows.pipesMayRow.veiled == (Tryz.f4.params.toList ++ Rows.pipesMaySpec.plain.varTypes Tryz.prog ++ Tryz.f4.resultTypes.toList).any (Tryz.prog.veiledRec ·))) = true := by kernel_rfl
theorem j31 : (Rows.pipesMayRow.veiledFits Tryz.prog Tryz.f4.params.toList (Tryz.f4.params.toList ++ Rows.pipesMaySpec.plain.varTypes Tryz.prog ++ Tryz.f4.resultTypes.toList)) = true := by kernel_rfl
end Go.Proofs.YtjimcbpkpgempaaGreatDoor
