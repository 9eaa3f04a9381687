/- What is proved here: facts of the program and the row that the kernel computes, each by itself (the shape of the program's types, what the function reaches). No conditions. -/
import Derived.Test.YtffgjigcdmcibaaGreatDoorRows
import Derived.ProofKit
import Derived.JoinedOf
import Derived.KernelRfl
set_option maxRecDepth 100000
namespace Go.Proofs.YtffgjigcdmcibaaGreatDoor
open Go
theorem j4 : (namedTie Tryz.prog Rows.posixArgumentsRow.named Rows.posixArgumentsSpec.vars) = true := by kernel_rfl
theorem j12 : ((Rows.posixArgumentsRow.named == Tryz.prog.varsNamed 3)) = true := by kernel_rfl
theorem j20 : ((Rows.posixArgumentsRow.ifacesOut == Tryz.f3.resultTypes.toList.any (Tryz.prog.ifacesRec ·))) = true := by kernel_rfl
theorem j28 : ((Rows.posixArgumentsRow.kinds == (if Rows.posixArgumentsRow.domain.isEmpty then [] else Tryz.f3.params.toList.map fun t => match Tryz.prog.underlying t with | some (.int k) => some k | _ => none))) = true := by kernel_rfl
end Go.Proofs.YtffgjigcdmcibaaGreatDoor
