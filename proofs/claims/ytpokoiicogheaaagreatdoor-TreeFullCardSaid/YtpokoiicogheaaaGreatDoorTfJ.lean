/- What is proved here: the law, run in pieces, comes to true: its contract. No conditions. -/
import Derived.Test.YtpokoiicogheaaaGreatDoorTfa
import Derived.Test.YtpokoiicogheaaaGreatDoorTfb
import Derived.Test.YtpokoiicogheaaaGreatDoorTfc
import Derived.Test.YtpokoiicogheaaaGreatDoorTfd
import Derived.Test.YtpokoiicogheaaaGreatDoorTfe
import Derived.Test.YtpokoiicogheaaaGreatDoorTff
import Derived.Test.YtpokoiicogheaaaGreatDoorTfg
import Derived.Test.YtpokoiicogheaaaGreatDoorTfh
import Derived.Test.YtpokoiicogheaaaGreatDoorTfi
import Derived.KernelRfl
set_option maxRecDepth 100000
namespace Go.Proofs.YtpokoiicogheaaaGreatDoor
open Go Ev
theorem cutL : lsuf 1 bL = some y1 := by kernel_rfl
theorem cut1 : y1 = .seq x1 y2 := by kernel_rfl
theorem cut2 : y2 = .seq (fst1 y2) y3 := by kernel_rfl
theorem cut3 : y3 = .seq x2 rst := by kernel_rfl
theorem cutA : x1 = .seq (fst1 x1) (.block 0 (.loop (lpB x1))) := by kernel_rfl
theorem cutB : x2 = .seq (fst1 x2) (.block 2 (.loop (lpB x2))) := by kernel_rfl
theorem cutR : lsuf 4 rst = some rst5 := by kernel_rfl
theorem o3 {P : Program} (hm : P.follows .mixedOrders = true) (hΦ : PhiOk P ps) {fn : Func} (hf : P.funcs[3]? = some fn) (hcomp : comp P fn = some c3) : OrcOk P 3 (knownO []) := by
  have pX1 := pv_seq (pv_run hm hΦ (nt := fn.ntmps) kZA) (pv_block (id := 0) (e := .nrm) (pv_loop (pvl_rds hm hΦ (k := 24) kB1 rfl (pvl_rds hm hΦ (k := 24) kB2 rfl (pvl_rds hm hΦ (k := 24) kB3 rfl (pvl_run hm hΦ kBx) rfl rfl rfl rfl) rfl rfl rfl rfl) rfl rfl rfl rfl)) (.inl ⟨rfl, rfl⟩)) rfl rfl rfl rfl rfl
  rw [← cutA] at pX1
  have pX2 := pv_seq (pv_run hm hΦ (nt := fn.ntmps) kYD) (pv_block (id := 2) (e := .nrm) (pv_loop (pvl_rds hm hΦ (k := 24) kE1 rfl (pvl_rds hm hΦ (k := 24) kE2 rfl (pvl_rds hm hΦ (k := 24) kE3 rfl (pvl_run hm hΦ kEx) rfl rfl rfl rfl) rfl rfl rfl rfl) rfl rfl rfl rfl)) (.inl ⟨rfl, rfl⟩)) rfl rfl rfl rfl rfl
  rw [← cutB] at pX2
  have pR := pv_lnk hm hΦ (nt := fn.ntmps) (k := 4) kFG cutR rfl (pv_run hm hΦ kGH) rfl rfl rfl rfl
  have p3 := pv_seq pX2 pR rfl rfl rfl rfl rfl
  rw [← cut3] at p3
  have p2 := pv_seq (pv_run hm hΦ (nt := fn.ntmps) kCY) p3 rfl rfl rfl rfl rfl
  rw [← cut2] at p2
  have p1 := pv_seq pX1 p2 rfl rfl rfl rfl rfl
  rw [← cut1] at p1
  have p0 := pv_lnk hm hΦ (nt := fn.ntmps) (k := 1) kS cutL rfl p1 rfl rfl rfl rfl
  exact orc_pv_0 hm hf (n := 8) (res := [.t a0]) (body := bL) hcomp ⟨_, rfl, rfl, rfl, by kernel_rfl, by kernel_rfl, p0⟩
end Go.Proofs.YtpokoiicogheaaaGreatDoor
