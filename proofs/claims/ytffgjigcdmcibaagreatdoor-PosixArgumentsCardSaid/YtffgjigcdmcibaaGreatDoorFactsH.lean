/- What is proved here: facts of the program and the row that the kernel computes, each by itself (the shape of the program's types, what the function reaches). No conditions. -/
import Derived.Test.YtffgjigcdmcibaaGreatDoorRows
import Derived.ProofKit
import Derived.JoinedOf
import Derived.KernelRfl
set_option maxRecDepth 100000
namespace Go.Proofs.YtffgjigcdmcibaaGreatDoor
open Go
theorem j7 : ((Rows.posixArgumentsRow.knobs == [])) = true := by kernel_rfl
theorem j15 : ((Rows.posixArgumentsRow.mapsOut == Tryz.prog.mapsAmong Tryz.f3.resultTypes.toList)) = true := by kernel_rfl
theorem j23 : (Rows.posixArgumentsRow.shortTexts.isNone) = true := by kernel_rfl
theorem j31 : (Rows.posixArgumentsRow.veiledFits Tryz.prog Tryz.f3.params.toList (Tryz.f3.params.toList ++ Rows.posixArgumentsSpec.plain.varTypes Tryz.prog ++ Tryz.f3.resultTypes.toList)) = true := by kernel_rfl
end Go.Proofs.YtffgjigcdmcibaaGreatDoor
