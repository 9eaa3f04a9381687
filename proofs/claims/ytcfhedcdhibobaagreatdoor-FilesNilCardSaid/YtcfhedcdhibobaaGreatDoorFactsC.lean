/- What is proved here: facts of the program and the row that the kernel computes, each by itself (the shape of the program's types, what the function reaches). No conditions. -/
import Derived.Test.YtcfhedcdhibobaaGreatDoorRows
import Derived.ProofKit
import Derived.JoinedOf
import Derived.KernelRfl
set_option maxRecDepth 100000
namespace Go.Proofs.YtcfhedcdhibobaaGreatDoor
open Go
theorem j2 : (mapsRowed Tryz.prog) = true := by kernel_rfl
theorem j6 : ((Tryz.prog.stops == [])) = true := by kernel_rfl
theorem j10 : ((Rows.filesNilRow.unfollowed == Tryz.prog.unfollowed 3)) = true := by kernel_rfl
theorem j14 : ((Rows.filesNilRow.ifaces == (Tryz.f3.params.toList ++ Rows.filesNilSpec.plain.varTypes Tryz.prog).any (Tryz.prog.ifacesRec ·))) = true := by kernel_rfl
theorem j18 : (Rows.filesNilSpec.vars.all (Tryz.prog.varReadable ·)) = true := by kernel_rfl
theorem j22 : ((Rows.filesNilRow.plainKeys == Tryz.prog.plainKeys)) = true := by kernel_rfl
theorem j26 : ((Rows.filesNilRow.lifted == Tryz.prog.liftsFinal)) = true := by kernel_rfl
theorem j30 : ((Rows.filesNilRow.veiled == (Tryz.f3.params.toList ++ Rows.filesNilSpec.plain.varTypes Tryz.prog ++ Tryz.f3.resultTypes.toList).any (Tryz.prog.veiledRec ·))) = true := by kernel_rfl
end Go.Proofs.YtcfhedcdhibobaaGreatDoor
