/- What is proved here: what Check answers, at memory that is written out. No conditions. -/
import Derived.Test.YtakeaojhkcbheaaGreatDoorSbD
import Derived.KernelRfl
set_option maxRecDepth 100000
namespace Go.Proofs.YtakeaojhkcbheaaGreatDoor
open Go Ev
theorem kr9_0 : ∀ ty, pcRun phB 1000000 9 (tabF tabp ty) (pre 1 bd9) (ws0 6 r9_0) .nrm w9_0 = true := fun ty => by kernel_rfl
theorem qr9_0 : RdOk phB tabp 9 r9_0 := ck_rd (y0 := (v6 256)) (y1 := (v6 4096)) (y2 := (.u 3620 0 8 0 8)) (y3 := .l0) (y4 := .l0) (bx := 13586) (ab := 13584) (n := 4096) (row := row1) (line := nm1) (by kernel_rfl) (fun F M c => calls_tb (Φ := phB) (Φ0 := pz0) (fuel := 1000000) (L := [p27a, p27b]) (by kernel_rfl) (show tbF [.g row1] [p27a, p27b] = some (V.t [sV nm1, .b true]) by kernel_rfl)) rfl rfl kr9_0 (fun u hu => by subst hu; kernel_rfl) (by kernel_rfl) (by kernel_rfl) (by kernel_rfl) (by kernel_rfl) (by kernel_rfl) (by kernel_rfl) (by kernel_rfl)
  (by kernel_rfl) (by kernel_rfl) (by decide) rfl
theorem kr9_1 : ∀ ty, pcRun phB 1000000 9 (tabF tabp ty) (pre 1 bd9) (ws0 6 r9_1) .nrm w9_1 = true := fun ty => by kernel_rfl
theorem qr9_1 : RdOk phB tabp 9 r9_1 := ck_rd (y0 := (v6 256)) (y1 := (v6 4096)) (y2 := (.u 3620 0 8 0 8)) (y3 := .l0) (y4 := .l0) (bx := 13588) (ab := 13587) (n := 4097) (row := row1) (line := nm1) (by kernel_rfl) (fun F M c => calls_tb (Φ := phB) (Φ0 := pz0) (fuel := 1000000) (L := [p27a, p27b]) (by kernel_rfl) (show tbF [.g row1] [p27a, p27b] = some (V.t [sV nm1, .b true]) by kernel_rfl)) rfl rfl kr9_1 (fun u hu => by subst hu; kernel_rfl) (by kernel_rfl) (by kernel_rfl) (by kernel_rfl) (by kernel_rfl) (by kernel_rfl) (by kernel_rfl) (by kernel_rfl)
  (by kernel_rfl) (by kernel_rfl) (by decide) rfl
theorem kr9_2 : ∀ ty, pcRun phB 1000000 9 (tabF tabp ty) (pre 1 bd9) (ws0 6 r9_2) .nrm w9_2 = true := fun ty => by kernel_rfl
theorem qr9_2 : RdOk phB tabp 9 r9_2 := ck_rd (y0 := (v6 256)) (y1 := (v6 4096)) (y2 := (.u 3620 0 8 0 8)) (y3 := .l0) (y4 := .l0) (bx := 13589) (ab := 13587) (n := 4097) (row := row1) (line := nm1) (by kernel_rfl) (fun F M c => calls_tb (Φ := phB) (Φ0 := pz0) (fuel := 1000000) (L := [p27a, p27b]) (by kernel_rfl) (show tbF [.g row1] [p27a, p27b] = some (V.t [sV nm1, .b true]) by kernel_rfl)) rfl rfl kr9_2 (fun u hu => by subst hu; kernel_rfl) (by kernel_rfl) (by kernel_rfl) (by kernel_rfl) (by kernel_rfl) (by kernel_rfl) (by kernel_rfl) (by kernel_rfl)
  (by kernel_rfl) (by kernel_rfl) (by decide) rfl
theorem kr9_3 : ∀ ty, pcRun phB 1000000 9 (tabF tabp ty) (pre 1 bd9) (ws0 6 r9_3) .nrm w9_3 = true := fun ty => by kernel_rfl
theorem qr9_3 : RdOk phB tabp 9 r9_3 := ck_rd (y0 := (v6 256)) (y1 := (v6 4096)) (y2 := (.u 3620 0 8 0 8)) (y3 := .l0) (y4 := .l0) (bx := 19375) (ab := 19374) (n := 260) (row := row2) (line := ln2) (by kernel_rfl) (fun F M c => calls_tb (Φ := phB) (Φ0 := pz0) (fuel := 1000000) (L := [p27a, p27b]) (by kernel_rfl) (show tbF [.g row2] [p27a, p27b] = some (V.t [sV ln2, .b true]) by rw [show sV ln2 = .s 4101 (Nat.add 139140688236 (Nat.mul 1099511627776 xs4)) from sV_bl (by kernel_rfl)]; kernel_rfl)) rfl rfl kr9_3 (fun u hu => by subst hu; kernel_rfl) (by kernel_rfl) (by kernel_rfl) (by kernel_rfl) (by kernel_rfl) (by kernel_rfl) (by kernel_rfl) (by kernel_rfl)
  (by kernel_rfl) (by kernel_rfl) (by decide) rfl
theorem kr9_4 : ∀ ty, pcRun phB 1000000 9 (tabF tabp ty) (pre 1 bd9) (ws0 6 r9_4) .nrm w9_4 = true := fun ty => by kernel_rfl
theorem qr9_4 : RdOk phB tabp 9 r9_4 := ck_rd (y0 := (v6 256)) (y1 := (v6 4096)) (y2 := (.u 3620 0 8 0 8)) (y3 := .l0) (y4 := .l0) (bx := 19376) (ab := 19374) (n := 260) (row := row2) (line := ln2) (by kernel_rfl) (fun F M c => calls_tb (Φ := phB) (Φ0 := pz0) (fuel := 1000000) (L := [p27a, p27b]) (by kernel_rfl) (show tbF [.g row2] [p27a, p27b] = some (V.t [sV ln2, .b true]) by rw [show sV ln2 = .s 4101 (Nat.add 139140688236 (Nat.mul 1099511627776 xs4)) from sV_bl (by kernel_rfl)]; kernel_rfl)) rfl rfl kr9_4 (fun u hu => by subst hu; kernel_rfl) (by kernel_rfl) (by kernel_rfl) (by kernel_rfl) (by kernel_rfl) (by kernel_rfl) (by kernel_rfl) (by kernel_rfl)
  (by kernel_rfl) (by kernel_rfl) (by decide) rfl
end Go.Proofs.YtakeaojhkcbheaaGreatDoor
