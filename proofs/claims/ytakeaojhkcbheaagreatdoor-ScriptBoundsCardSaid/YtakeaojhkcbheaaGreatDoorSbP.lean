/- What is proved here: what Parse answers to short texts. No conditions. -/
import Derived.Test.YtakeaojhkcbheaaGreatDoorSbD
import Derived.KernelRfl
set_option maxRecDepth 100000
namespace Go.Proofs.YtakeaojhkcbheaaGreatDoor
open Go Ev
theorem qr7_0 : RdOk phD tabp 7 r7_0 := rd_run (fuel := 1000000) fun ty => by kernel_rfl
theorem qr7_2 : RdOk phD tabp 7 r7_2 := rd_run (fuel := 1000000) fun ty => by kernel_rfl
theorem qr7_3 : RdOk phD tabp 7 r7_3 := rd_run (fuel := 1000000) fun ty => by kernel_rfl
theorem qr7_4 : RdOk phD tabp 7 r7_4 := rd_run (fuel := 1000000) fun ty => by kernel_rfl
theorem qr7_5 : RdOk phD tabp 7 r7_5 := rd_run (fuel := 1000000) fun ty => by kernel_rfl
theorem qr7_6 : RdOk phD tabp 7 r7_6 := rd_run (fuel := 1000000) fun ty => by kernel_rfl
theorem qr7_7 : RdOk phD tabp 7 r7_7 := rd_run (fuel := 1000000) fun ty => by kernel_rfl
theorem qr7_8 : RdOk phD tabp 7 r7_8 := rd_run (fuel := 1000000) fun ty => by kernel_rfl
theorem qr7_9 : RdOk phD tabp 7 r7_9 := rd_run (fuel := 1000000) fun ty => by kernel_rfl
theorem qr7_10 : RdOk phD tabp 7 r7_10 := rd_run (fuel := 1000000) fun ty => by kernel_rfl
theorem qr7_11 : RdOk phD tabp 7 r7_11 := rd_run (fuel := 1000000) fun ty => by kernel_rfl
theorem qr7_12 : RdOk phD tabp 7 r7_12 := rd_run (fuel := 1000000) fun ty => by kernel_rfl
theorem qr7_13 : RdOk phD tabp 7 r7_13 := rd_run (fuel := 1000000) fun ty => by kernel_rfl
theorem qr7_14 : RdOk phD tabp 7 r7_14 := rd_run (fuel := 1000000) fun ty => by kernel_rfl
theorem qr7_15 : RdOk phD tabp 7 r7_15 := rd_run (fuel := 1000000) fun ty => by kernel_rfl
theorem qr7_16 : RdOk phD tabp 7 r7_16 := rd_run (fuel := 1000000) fun ty => by kernel_rfl
theorem qr7_17 : RdOk phD tabp 7 r7_17 := rd_run (fuel := 1000000) fun ty => by kernel_rfl
theorem qr7_18 : RdOk phD tabp 7 r7_18 := rd_run (fuel := 1000000) fun ty => by kernel_rfl
end Go.Proofs.YtakeaojhkcbheaaGreatDoor
