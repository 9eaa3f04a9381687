/- What is proved here: facts of the program and the row that the kernel computes, each by itself (the shape of the program's types, what the function reaches). No conditions. -/
import Derived.Test.YtffgjigcdmcibaaGreatDoorRows
import Derived.ProofKit
import Derived.JoinedOf
import Derived.KernelRfl
set_option maxRecDepth 100000
namespace Go.Proofs.YtffgjigcdmcibaaGreatDoor
open Go
theorem j6 : ((Tryz.prog.stops == [])) = true := by kernel_rfl
theorem j14 : ((Rows.posixArgumentsRow.ifaces == (Tryz.f3.params.toList ++ Rows.posixArgumentsSpec.plain.varTypes Tryz.prog).any (Tryz.prog.ifacesRec ·))) = true := by kernel_rfl
theorem j22 : ((Rows.posixArgumentsRow.plainKeys == Tryz.prog.plainKeys)) = true := by kernel_rfl
theorem j30 : ((Rows.posixArgumentsRow.veiled == (Tryz.f3.params.toList ++ Rows.posixArgumentsSpec.plain.varTypes Tryz.prog ++ Tryz.f3.resultTypes.toList).any (Tryz.prog.veiledRec ·))) = true := by kernel_rfl
end Go.Proofs.YtffgjigcdmcibaaGreatDoor
