/- What is proved here: calls of a function of the program at memory that is written out, run one by one by the kernel. No conditions. -/
import Derived.Test.YtmbfboidfbaeiaaGreatDoorPhi
import Derived.KernelRfl
set_option maxRecDepth 100000
namespace Go.Proofs.YtmbfboidfbaeiaaGreatDoor
open Go Ev
noncomputable def sM0 : Snap := ⟨1007, [.p0, (v6 0), (v6 1), (.s 4 1702195828)], [], (.t [(.g [.l0, (v6 0)]), (v6 1)]), [], 1011⟩
theorem rM0 : snRun ph1 1000001 8 sM0 = true := by kernel_rfl
noncomputable def sM1 : Snap := ⟨1029, [(.p 1028 0), (v6 65536), (v6 1), (.s 4 1702195828)], [(1025, (.map [((v6 1), (.p 1027 0), 0)] 1)), (1026, (.map [] 0)), (1027, (.cells 65 7 true 0 false [] (listTr [vT, (v6 0), (v6 61), (v6 0), (v6 0), .l0, (.m 1026)] 0 .e))), (1028, (.cells 68 2 true 0 false [] (listTr [(.m 1025), (v6 0)] 0 .e)))], (.t [(.g [.l0, (v6 0)]), (v6 2)]), [(1025, (.map [((v6 1), (.p 1027 0), 0)] 1)), (1026, (.map [] 0)), (1027, (.cells 65 7 true 0 false [] (listTr [vT, (v6 0), (v6 61), (v6 0), (v6 0), .l0, (.m 1026)] 0 .e))), (1028, (.cells 68 2 true 0 false [] (listTr [(.m 1025), (v6 0)] 0 .e)))], 1068⟩
theorem rM1 : snRun ph1 1000001 8 sM1 = true := by kernel_rfl
noncomputable def sM2 : Snap := ⟨1069, [(.p 1028 0), (v6 0), (v6 2), (.s 4 1702195828)], [(1025, (.map [((v6 1), (.p 1027 0), 0)] 1)), (1026, (.map [] 0)), (1027, (.cells 65 7 true 0 false [] (listTr [vT, (v6 0), (v6 61), (v6 0), (v6 0), .l0, (.m 1026)] 0 .e))), (1028, (.cells 68 2 true 0 false [] (listTr [(.m 1025), (v6 0)] 0 .e)))], (.t [(.g [.l0, (v6 0)]), (v6 2)]), [(1025, (.map [((v6 1), (.p 1027 0), 0)] 1)), (1026, (.map [] 0)), (1027, (.cells 65 7 true 0 false [] (listTr [vT, (v6 0), (v6 61), (v6 0), (v6 0), .l0, (.m 1026)] 0 .e))), (1028, (.cells 68 2 true 0 false [] (listTr [(.m 1025), (v6 0)] 0 .e)))], 1073⟩
theorem rM2 : snRun ph1 1000001 8 sM2 = true := by kernel_rfl
end Go.Proofs.YtmbfboidfbaeiaaGreatDoor
