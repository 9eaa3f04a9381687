/- What is proved here: facts of the program and the row that the kernel computes, each by itself (the shape of the program's types, what the function reaches). No conditions. -/
import Derived.Test.YtlghgdifncfogaaGreatDoorRows
import Derived.ProofKit
import Derived.JoinedOf
import Derived.KernelRfl
set_option maxRecDepth 100000
namespace Go.Proofs.YtlghgdifncfogaaGreatDoor
open Go
theorem j2 : (mapsRowed Tryz.prog) = true := by kernel_rfl
theorem j10 : ((Rows.posixNilRow.unfollowed == Tryz.prog.unfollowed 3)) = true := by kernel_rfl
theorem j18 : (Rows.posixNilSpec.vars.all (Tryz.prog.varReadable ·)) = true := by kernel_rfl
theorem j26 : ((Rows.posixNilRow.lifted == Tryz.prog.liftsFinal)) = true := by kernel_rfl
end Go.Proofs.YtlghgdifncfogaaGreatDoor
