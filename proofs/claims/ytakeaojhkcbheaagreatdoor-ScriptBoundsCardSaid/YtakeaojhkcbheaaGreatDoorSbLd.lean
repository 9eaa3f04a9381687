/- What is proved here: a part of the law, run by the kernel. No conditions. -/
import Derived.Test.YtakeaojhkcbheaaGreatDoorSbL
import Derived.KernelRfl
set_option maxRecDepth 100000
namespace Go.Proofs.YtakeaojhkcbheaaGreatDoor
open Go Ev
theorem lD : ∀ ty q tm z, cvChk (cs wl_2 wl_3 .ret) (exec phF 1000000 none 3 (fL ty q tm z) (.seq (.reg (opsD bLd)) (rstD bLd)) (.mk ((wl_2.t.setP a157 (.l wl_2.c 0 1048577 1048577)).setP a158 (.s 1048577 0)) wl_2.ks ((setAll .e wl_2.m : Mem).set wl_2.c (.cells 5 1048577 true 0 false [.i .u8 0] .e)) (wl_2.c + 1))) = true := fun ty q tm z => by kernel_rfl
end Go.Proofs.YtakeaojhkcbheaaGreatDoor
