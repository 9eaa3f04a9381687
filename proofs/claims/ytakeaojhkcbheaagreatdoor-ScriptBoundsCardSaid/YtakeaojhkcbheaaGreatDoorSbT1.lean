/- What is proved here: what Text answers, at memory that is written out. No conditions. -/
import Derived.Test.YtakeaojhkcbheaaGreatDoorSbD
import Derived.KernelRfl
set_option maxRecDepth 100000
namespace Go.Proofs.YtakeaojhkcbheaaGreatDoor
open Go Ev
theorem qr8_1 : RdOk phC tabp 8 r8_1 := rd_run (fuel := 1000000) fun ty => by kernel_rfl
end Go.Proofs.YtakeaojhkcbheaaGreatDoor
