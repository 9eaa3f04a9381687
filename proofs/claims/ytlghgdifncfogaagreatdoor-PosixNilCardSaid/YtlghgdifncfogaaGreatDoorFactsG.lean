/- What is proved here: facts of the program and the row that the kernel computes, each by itself (the shape of the program's types, what the function reaches). No conditions. -/
import Derived.Test.YtlghgdifncfogaaGreatDoorRows
import Derived.ProofKit
import Derived.JoinedOf
import Derived.KernelRfl
set_option maxRecDepth 100000
namespace Go.Proofs.YtlghgdifncfogaaGreatDoor
open Go
theorem j6 : ((Tryz.prog.stops == [])) = true := by kernel_rfl
theorem j14 : ((Rows.posixNilRow.ifaces == (Tryz.f3.params.toList ++ Rows.posixNilSpec.plain.varTypes Tryz.prog).any (Tryz.prog.ifacesRec ·))) = true := by kernel_rfl
theorem j22 : ((Rows.posixNilRow.plainKeys == Tryz.prog.plainKeys)) = true := by kernel_rfl
theorem j30 : ((Rows.posixNilRow.veiled == (Tryz.f3.params.toList ++ Rows.posixNilSpec.plain.varTypes Tryz.prog ++ Tryz.f3.resultTypes.toList).any (Tryz.prog.veiledRec ·))) = true := by kernel_rfl
end Go.Proofs.YtlghgdifncfogaaGreatDoor
