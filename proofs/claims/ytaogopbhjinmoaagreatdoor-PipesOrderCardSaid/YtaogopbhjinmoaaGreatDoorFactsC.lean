/- What is proved here: facts of the program and the row that the kernel computes, each by itself (the shape of the program's types, what the function reaches). No conditions. -/
import Derived.Test.YtaogopbhjinmoaaGreatDoorRows
import Derived.ProofKit
import Derived.JoinedOf
import Derived.KernelRfl
set_option maxRecDepth 100000
namespace Go.Proofs.YtaogopbhjinmoaaGreatDoor
open Go
theorem j2 : (mapsRowed Tryz.prog) = true := by kernel_rfl
theorem j6 : ((Tryz.prog.stops == [])) = true := by kernel_rfl
theorem j10 : ((Rows.pipesOrderRow.unfollowed == Tryz.prog.unfollowed 3)) = true := by kernel_rfl
theorem j14 : ((Rows.pipesOrderRow.ifaces == (Tryz.f3.params.toList ++ Rows.pipesOrderSpec.plain.varTypes Tryz.prog).any (Tryz.prog.ifacesRec ·))) = true := by kernel_rfl
theorem j18 : (Rows.pipesOrderSpec.vars.all (Tryz.prog.varReadable ·)) = true := by kernel_rfl
theorem j22 : ((Rows.pipesOrderRow.plainKeys == Tryz.prog.plainKeys)) = true := by kernel_rfl
theorem j26 : ((Rows.pipesOrderRow.lifted == Tryz.prog.liftsFinal)) = true := by kernel_rfl
theorem j30 : ((Rows.pipesOrderRow.veiled == (Tryz.f3.params.toList ++ Rows.pipesOrderSpec.plain.varTypes Tryz.prog ++ Tryz.f3.resultTypes.toList).any (Tryz.prog.veiledRec ·))) = true := by kernel_rfl
end Go.Proofs.YtaogopbhjinmoaaGreatDoor
