/- What is proved here: facts of the program and the row that the kernel computes, each by itself (the shape of the program's types, what the function reaches). No conditions. -/
import Derived.Test.YtffgjigcdmcibaaGreatDoorRows
import Derived.ProofKit
import Derived.JoinedOf
import Derived.KernelRfl
set_option maxRecDepth 100000
namespace Go.Proofs.YtffgjigcdmcibaaGreatDoor
open Go
theorem j5 : ((Rows.posixArgumentsRow.stops == [])) = true := by kernel_rfl
theorem j13 : ((Rows.posixArgumentsRow.maps == (Tryz.f3.params.toList ++ Rows.posixArgumentsSpec.plain.varTypes Tryz.prog).any (Tryz.prog.mapsRec ·))) = true := by kernel_rfl
theorem j21 : ((Rows.posixArgumentsRow.loopsOut == Tryz.f3.resultTypes.toList.any (Tryz.prog.loopsFrom ·))) = true := by kernel_rfl
theorem j29 : ((Rows.posixArgumentsRow.pinned == Rows.posixArgumentsRow.pinnedBy)) = true := by kernel_rfl
end Go.Proofs.YtffgjigcdmcibaaGreatDoor
