/- What is proved here: facts of the program and the row that the kernel computes, each by itself (the shape of the program's types, what the function reaches). No conditions. -/
import Derived.Test.YtaogopbhjinmoaaGreatDoorRows
import Derived.ProofKit
import Derived.JoinedOf
import Derived.KernelRfl
set_option maxRecDepth 100000
namespace Go.Proofs.YtaogopbhjinmoaaGreatDoor
open Go
theorem j1 : (laidOutB Tryz.prog) = true := by kernel_rfl
theorem j5 : ((Rows.pipesOrderRow.stops == [])) = true := by kernel_rfl
theorem j9 : ((Rows.pipesOrderRow.inPlace == Tryz.prog.inPlace 3)) = true := by kernel_rfl
theorem j13 : ((Rows.pipesOrderRow.maps == (Tryz.f3.params.toList ++ Rows.pipesOrderSpec.plain.varTypes Tryz.prog).any (Tryz.prog.mapsRec ·))) = true := by kernel_rfl
theorem j17 : ((Rows.pipesOrderRow.wideKeys == (Tryz.f3.params.toList ++ Rows.pipesOrderSpec.plain.varTypes Tryz.prog ++ Tryz.f3.resultTypes.toList).any (Tryz.prog.wideKeysFrom ·))) = true := by kernel_rfl
theorem j21 : ((Rows.pipesOrderRow.loopsOut == Tryz.f3.resultTypes.toList.any (Tryz.prog.loopsFrom ·))) = true := by kernel_rfl
theorem j25 : (Tryz.prog.mayEnter) = true := by kernel_rfl
theorem j29 : ((Rows.pipesOrderRow.pinned == Rows.pipesOrderRow.pinnedBy)) = true := by kernel_rfl
end Go.Proofs.YtaogopbhjinmoaaGreatDoor
