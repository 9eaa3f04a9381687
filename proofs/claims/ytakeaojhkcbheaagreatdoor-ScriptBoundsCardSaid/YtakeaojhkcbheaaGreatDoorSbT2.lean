/- What is proved here: what Text answers, at memory that is written out. No conditions. -/
import Derived.Test.YtakeaojhkcbheaaGreatDoorSbD
import Derived.KernelRfl
set_option maxRecDepth 100000
namespace Go.Proofs.YtakeaojhkcbheaaGreatDoor
open Go Ev
theorem kr8_2 : ∀ ty, pcRun phC 1000000 8 (tabF tabp ty) (pre 7 bd8) (ws0 7 r8_2) .nrm w8_2 = true := fun ty => by kernel_rfl
theorem qr8_2 : RdOk phC tabp 8 r8_2 := tx_rd (y0 := (v6 256)) (y1 := (v6 4096)) (y2 := (.u 3620 0 8 0 8)) (y3 := .l0) (y4 := .l0) (bx := 19375) (b := 19376) (bb := 19843) (ab := 19374) (n := 260) (len := 177) (x := hdx) (cap := 177) (row := row2) (line := ln2) (by kernel_rfl) (by kernel_rfl) (by kernel_rfl) (by kernel_rfl) (by kernel_rfl) (by kernel_rfl) (by kernel_rfl) (fun F M c => calls_tb (Φ := phC) (Φ0 := pz0) (fuel := 1000000) (L := [p27a, p27b]) (by kernel_rfl) (show tbF [.g row2] [p27a, p27b] = some (V.t [sV ln2, .b true]) by rw [show sV ln2 = .s 4101 (Nat.add 139140688236 (Nat.mul 1099511627776 xs4)) from sV_bl (by kernel_rfl)]; kernel_rfl)) rfl rfl kr8_2 (fun u hu => by subst hu; kernel_rfl) (by kernel_rfl) (by kernel_rfl) (by kernel_rfl) (by kernel_rfl) (by kernel_rfl) (by kernel_rfl)
  (by kernel_rfl) (by kernel_rfl) (by kernel_rfl) (by kernel_rfl) (by kernel_rfl) (by decide) (by rw [show ln2.length = 4101 from bl_length _ _]; decide) (by rw [if_neg (by rw [show ln2.length = 4101 from bl_length _ _]; decide)]; rfl)
end Go.Proofs.YtakeaojhkcbheaaGreatDoor
