/- What is proved here: facts of the program and the row that the kernel computes, each by itself (the shape of the program's types, what the function reaches). No conditions. -/
import Derived.Test.YtjimcbpkpgempaaGreatDoorRows
import Derived.ProofKit
import Derived.JoinedOf
import Derived.KernelRfl
set_option maxRecDepth 100000
namespace Go.Proofs.YtjimcbpkpgempaaGreatDoor
open Go
theorem j0 : (Rows.pipesNilRow.wf (OpenSpec.ofChange Rows.pipesNilSpec)) = true := by kernel_rfl
theorem j1 : (laidOutB Tryz.prog) = true := by kernel_rfl
theorem j2 : (mapsRowed Tryz.prog) = true := by kernel_rfl
theorem j3 : (Tryz.f3.params.all (Tryz.prog.readableRec ·)) = true := by kernel_rfl
theorem j4 : (namedTie Tryz.prog Rows.pipesNilRow.named Rows.pipesNilSpec.vars) = true := by kernel_rfl
theorem j5 : ((Rows.pipesNilRow.stops == [])) = true := by kernel_rfl
theorem j6 : ((Tryz.prog.stops == [])) = true := by kernel_rfl
theorem j7 : ((Rows.pipesNilRow.knobs == [])) = true := by kernel_rfl
theorem j8 : ((Tryz.prog.stopKnobs == [])) = true := by kernel_rfl
theorem j13 : ((Rows.pipesNilRow.maps == (Tryz.f3.params.toList ++ Rows.pipesNilSpec.plain.varTypes Tryz.prog).any (Tryz.prog.mapsRec ·))) = true := by kernel_rfl
theorem j14 : ((Rows.pipesNilRow.ifaces == (Tryz.f3.params.toList ++ Rows.pipesNilSpec.plain.varTypes Tryz.prog).any (Tryz.prog.ifacesRec ·))) = true := by kernel_rfl
theorem j15 : ((Rows.pipesNilRow.mapsOut == Tryz.prog.mapsAmong Tryz.f3.resultTypes.toList)) = true := by kernel_rfl
theorem j16 : ((Rows.pipesNilRow.loops == (Tryz.f3.params.toList ++ Rows.pipesNilSpec.plain.varTypes Tryz.prog).any (Tryz.prog.loopsFrom ·))) = true := by kernel_rfl
theorem j17 : ((Rows.pipesNilRow.wideKeys == (Tryz.f3.params.toList ++ Rows.pipesNilSpec.plain.varTypes Tryz.prog ++ Tryz.f3.resultTypes.toList).any (Tryz.prog.wideKeysFrom ·))) = true := by kernel_rfl
theorem j18 : (Rows.pipesNilSpec.vars.all (Tryz.prog.varReadable ·)) = true := by kernel_rfl
end Go.Proofs.YtjimcbpkpgempaaGreatDoor
