/- What is proved here: what Text answers, at memory that is written out. No conditions. -/
import Derived.Test.YtakeaojhkcbheaaGreatDoorSbD
import Derived.KernelRfl
set_option maxRecDepth 100000
namespace Go.Proofs.YtakeaojhkcbheaaGreatDoor
open Go Ev
theorem kr8_0 : ∀ ty, pcRun phC 1000000 8 (tabF tabp ty) (pre 7 bd8) (ws0 7 r8_0) .nrm w8_0 = true := fun ty => by kernel_rfl
theorem qr8_0 : RdOk phC tabp 8 r8_0 := tx_rd (y0 := (v6 256)) (y1 := (v6 4096)) (y2 := (.u 3620 0 8 0 8)) (y3 := .l0) (y4 := .l0) (bx := 13585) (b := 13586) (bb := 14053) (ab := 13584) (n := 4096) (len := 177) (x := hdx) (cap := 177) (row := row1) (line := nm1) (by kernel_rfl) (by kernel_rfl) (by kernel_rfl) (by kernel_rfl) (by kernel_rfl) (by kernel_rfl) (by kernel_rfl) (fun F M c => calls_tb (Φ := phC) (Φ0 := pz0) (fuel := 1000000) (L := [p27a, p27b]) (by kernel_rfl) (show tbF [.g row1] [p27a, p27b] = some (V.t [sV nm1, .b true]) by kernel_rfl)) rfl rfl kr8_0 (fun u hu => by subst hu; kernel_rfl) (by kernel_rfl) (by kernel_rfl) (by kernel_rfl) (by kernel_rfl) (by kernel_rfl) (by kernel_rfl)
  (by kernel_rfl) (by kernel_rfl) (by kernel_rfl) (by kernel_rfl) (by kernel_rfl) (by decide) (by decide) (by rw [if_pos (by decide), show sV (bl 177 hdx ++ (List.replicate 4096 (nm1 ++ [10])).flatten) = .s 28849 (Nat.mod txt (Nat.pow 256 28849)) from str_rep (bl_length _ _) rfl (strN_blt (by kernel_rfl)) nm_x (by decide) (by kernel_rfl) (by kernel_rfl)]; rfl)
end Go.Proofs.YtakeaojhkcbheaaGreatDoor
