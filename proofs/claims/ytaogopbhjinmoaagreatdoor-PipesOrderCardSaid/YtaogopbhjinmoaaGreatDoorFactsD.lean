/- What is proved here: facts of the program and the row that the kernel computes, each by itself (the shape of the program's types, what the function reaches). No conditions. -/
import Derived.Test.YtaogopbhjinmoaaGreatDoorRows
import Derived.ProofKit
import Derived.JoinedOf
import Derived.KernelRfl
set_option maxRecDepth 100000
namespace Go.Proofs.YtaogopbhjinmoaaGreatDoor
open Go
theorem j3 : (Tryz.f3.params.all (Tryz.prog.readableRec ·)) = true := by kernel_rfl
theorem j7 : ((Rows.pipesOrderRow.knobs == [])) = true := by kernel_rfl
theorem j11 : ((Rows.pipesOrderRow.recurses == Tryz.prog.recurses 3)) = true := by kernel_rfl
theorem j15 : ((Rows.pipesOrderRow.mapsOut == Tryz.prog.mapsAmong Tryz.f3.resultTypes.toList)) = true := by kernel_rfl
theorem j19 : (Tryz.f3.resultTypes.all (fun t => Tryz.prog.readableRec t && decide (t < Tryz.prog.types.size))) = true := by kernel_rfl
theorem j23 : (Rows.pipesOrderRow.shortTexts.isNone) = true := by kernel_rfl
theorem j27 : ((Tryz.prog.make == some Rows.pipesOrderRow.make)) = true := by kernel_rfl
theorem j31 : (Rows.pipesOrderRow.veiledFits Tryz.prog Tryz.f3.params.toList (Tryz.f3.params.toList ++ Rows.pipesOrderSpec.plain.varTypes Tryz.prog ++ Tryz.f3.resultTypes.toList)) = true := by kernel_rfl
end Go.Proofs.YtaogopbhjinmoaaGreatDoor
