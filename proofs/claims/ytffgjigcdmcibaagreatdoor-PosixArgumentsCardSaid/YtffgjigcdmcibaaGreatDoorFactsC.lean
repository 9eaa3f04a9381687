/- What is proved here: facts of the program and the row that the kernel computes, each by itself (the shape of the program's types, what the function reaches). No conditions. -/
import Derived.Test.YtffgjigcdmcibaaGreatDoorRows
import Derived.ProofKit
import Derived.JoinedOf
import Derived.KernelRfl
set_option maxRecDepth 100000
namespace Go.Proofs.YtffgjigcdmcibaaGreatDoor
open Go
theorem j2 : (mapsRowed Tryz.prog) = true := by kernel_rfl
theorem j10 : ((Rows.posixArgumentsRow.unfollowed == Tryz.prog.unfollowed 3)) = true := by kernel_rfl
theorem j18 : (Rows.posixArgumentsSpec.vars.all (Tryz.prog.varReadable ·)) = true := by kernel_rfl
theorem j26 : ((Rows.posixArgumentsRow.lifted == Tryz.prog.liftsFinal)) = true := by kernel_rfl
end Go.Proofs.YtffgjigcdmcibaaGreatDoor
