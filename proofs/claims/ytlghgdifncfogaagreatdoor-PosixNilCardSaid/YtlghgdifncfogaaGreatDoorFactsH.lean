/- What is proved here: facts of the program and the row that the kernel computes, each by itself (the shape of the program's types, what the function reaches). No conditions. -/
import Derived.Test.YtlghgdifncfogaaGreatDoorRows
import Derived.ProofKit
import Derived.JoinedOf
import Derived.KernelRfl
set_option maxRecDepth 100000
namespace Go.Proofs.YtlghgdifncfogaaGreatDoor
open Go
theorem j7 : ((Rows.posixNilRow.knobs == [])) = true := by kernel_rfl
theorem j15 : ((Rows.posixNilRow.mapsOut == Tryz.prog.mapsAmong Tryz.f3.resultTypes.toList)) = true := by kernel_rfl
theorem j23 : (Rows.posixNilRow.shortTexts.isNone) = true := by kernel_rfl
theorem j31 : (Rows.posixNilRow.veiledFits Tryz.prog Tryz.f3.params.toList (Tryz.f3.params.toList ++ Rows.posixNilSpec.plain.varTypes Tryz.prog ++ Tryz.f3.resultTypes.toList)) = true := by kernel_rfl
end Go.Proofs.YtlghgdifncfogaaGreatDoor
