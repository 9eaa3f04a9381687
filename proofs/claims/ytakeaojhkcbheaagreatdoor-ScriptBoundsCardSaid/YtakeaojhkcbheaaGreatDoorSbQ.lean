/- What is proved here: what Parse answers to a text of one line too many. No conditions. -/
import Derived.Test.YtakeaojhkcbheaaGreatDoorSbD
import Derived.KernelRfl
set_option maxRecDepth 100000
namespace Go.Proofs.YtakeaojhkcbheaaGreatDoor
open Go Ev
theorem kr7_1a : ∀ ty, pcRun phD 1000000 7 (tabF tabp ty) b7_1 (ws0 6 r7_1) .nrm w7_1 = true := fun ty => by kernel_rfl
theorem kr7_1b : ∀ ty, pcRun phD 1000000 7 (tabF tabp ty) (pre 7 bd7) w7_1 .nrm v7_1 = true := fun ty => by kernel_rfl
theorem kr7_1c : sV (List.replicate 4097 (nm1 ++ [10])).flatten = .s 28679 (Nat.div txt (Nat.pow 256 177)) := by
  have h := str_rep (h := []) (l := nm1 ++ [10]) (k := 4097) (n := 28679) (x := Nat.div txt (Nat.pow 256 177)) (j := 0) (m := 7) (a := 0) rfl rfl rfl nm_x (by decide) (by kernel_rfl) (by kernel_rfl)
  rwa [List.nil_append] at h
theorem qr7_1 : RdOk phD tabp 7 r7_1 := ps_rd (x0 := (v6 256)) (x1 := (v6 4096)) (x2 := (.u 14800 0 8 0 8)) (x3 := .l0) (x4 := .l0) (b2 := 13585) (b5 := 13586) (b6 := 13587) (n0 := 9) (row := row1) (line := nm1) (by kernel_rfl) (by kernel_rfl) (by kernel_rfl) (by kernel_rfl) (by kernel_rfl) (fun F M c => calls_tb (Φ := phD) (Φ0 := phA) (fuel := 1000000) (L := [p20]) (by kernel_rfl) (show tbF [sV nm1] [p20] = some (V.t [.g row1, .i .i64 0]) by kernel_rfl)) rfl rfl (by decide) (by decide) rfl kr7_1a kr7_1b kr7_1c (fun u hu => by subst hu; kernel_rfl) (by kernel_rfl) (by kernel_rfl) (by kernel_rfl) (r2 := [v6 0, v6 0, .l0, .l0, .l0, .l0]) (by kernel_rfl) rfl (by kernel_rfl) (r6 := [v6 0, v6 0, .s 0 0, .l0, .l0]) (by kernel_rfl) rfl (by kernel_rfl) rfl
end Go.Proofs.YtakeaojhkcbheaaGreatDoor
