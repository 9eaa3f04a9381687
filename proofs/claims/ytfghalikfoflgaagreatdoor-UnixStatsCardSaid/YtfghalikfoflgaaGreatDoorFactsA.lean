/- What is proved here: facts of the program and the row that the kernel computes, each by itself (the shape of the program's types, what the function reaches). No conditions. -/
import Derived.Test.YtfghalikfoflgaaGreatDoorRows
import Derived.ProofKit
import Derived.JoinedOf
import Derived.KernelRfl
set_option maxRecDepth 100000
namespace Go.Proofs.YtfghalikfoflgaaGreatDoor
open Go
theorem j0 : (Rows.unixStatsRow.wf (OpenSpec.ofChange Rows.unixStatsSpec)) = true := by kernel_rfl
theorem j1 : (laidOutB Tryz.prog) = true := by kernel_rfl
theorem j2 : (mapsRowed Tryz.prog) = true := by kernel_rfl
theorem j3 : (Tryz.f3.params.all (Tryz.prog.readableRec ·)) = true := by kernel_rfl
theorem j4 : (namedTie Tryz.prog Rows.unixStatsRow.named Rows.unixStatsSpec.vars) = true := by kernel_rfl
theorem j5 : ((Rows.unixStatsRow.stops == [])) = true := by kernel_rfl
theorem j6 : ((Tryz.prog.stops == [])) = true := by kernel_rfl
theorem j7 : ((Rows.unixStatsRow.knobs == [])) = true := by kernel_rfl
theorem j8 : ((Tryz.prog.stopKnobs == [])) = true := by kernel_rfl
theorem j13 : ((Rows.unixStatsRow.maps == (Tryz.f3.params.toList ++ Rows.unixStatsSpec.plain.varTypes Tryz.prog).any (Tryz.prog.mapsRec ·))) = true := by kernel_rfl
theorem j14 : ((Rows.unixStatsRow.ifaces == (Tryz.f3.params.toList ++ Rows.unixStatsSpec.plain.varTypes Tryz.prog).any (Tryz.prog.ifacesRec ·))) = true := by kernel_rfl
theorem j15 : ((Rows.unixStatsRow.mapsOut == Tryz.prog.mapsAmong Tryz.f3.resultTypes.toList)) = true := by kernel_rfl
theorem j16 : ((Rows.unixStatsRow.loops == (Tryz.f3.params.toList ++ Rows.unixStatsSpec.plain.varTypes Tryz.prog).any (Tryz.prog.loopsFrom ·))) = true := by kernel_rfl
theorem j17 : ((Rows.unixStatsRow.wideKeys == (Tryz.f3.params.toList ++ Rows.unixStatsSpec.plain.varTypes Tryz.prog ++ Tryz.f3.resultTypes.toList).any (Tryz.prog.wideKeysFrom ·))) = true := by kernel_rfl
theorem j18 : (Rows.unixStatsSpec.vars.all (Tryz.prog.varReadable ·)) = true := by kernel_rfl
end Go.Proofs.YtfghalikfoflgaaGreatDoor
