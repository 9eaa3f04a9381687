/- What is proved here: the law, run in pieces, comes to true: its contract. No conditions. -/
import Derived.Test.YtakeaojhkcbheaaGreatDoorSbA
import Derived.Test.YtakeaojhkcbheaaGreatDoorSbB
import Derived.Test.YtakeaojhkcbheaaGreatDoorSbC
import Derived.Test.YtakeaojhkcbheaaGreatDoorSbT0
import Derived.Test.YtakeaojhkcbheaaGreatDoorSbT1
import Derived.Test.YtakeaojhkcbheaaGreatDoorSbT2
import Derived.Test.YtakeaojhkcbheaaGreatDoorSbP
import Derived.Test.YtakeaojhkcbheaaGreatDoorSbQ
import Derived.Test.YtakeaojhkcbheaaGreatDoorSbLa
import Derived.Test.YtakeaojhkcbheaaGreatDoorSbLb
import Derived.Test.YtakeaojhkcbheaaGreatDoorSbLc
import Derived.Test.YtakeaojhkcbheaaGreatDoorSbLd
import Derived.Test.YtakeaojhkcbheaaGreatDoorSbLe
import Derived.Test.YtakeaojhkcbheaaGreatDoorSbLf
import Derived.KernelRfl
set_option maxRecDepth 100000
namespace Go.Proofs.YtakeaojhkcbheaaGreatDoor
open Go Ev
theorem mixz : Tryz.prog.follows .mixedOrders = true := by kernel_rfl
theorem pz0_ok : PhiOk Tryz.prog pz0 := phi_ok
theorem t14_ok : OrcOk Tryz.prog 14 (tbE pz0 1000000 14 [p14]) := orc_tb mixz pz0_ok (fun s hs => by
  simp only [List.mem_cons, List.mem_nil_iff, or_false] at hs
  subst hs
  exact ⟨by kernel_rfl, pz0, pz0_ok, tb_run kp14⟩)
theorem t27_ok : OrcOk Tryz.prog 27 (tbE pz0 1000000 27 [p27a, p27b]) := orc_tb mixz pz0_ok (fun s hs => by
  simp only [List.mem_cons, List.mem_nil_iff, or_false] at hs
  rcases hs with rfl | rfl
  · exact ⟨by kernel_rfl, pz0, pz0_ok, tb_run kp27a⟩
  · exact ⟨by kernel_rfl, pz0, pz0_ok, tb_run kp27b⟩)
theorem phA_ok : PhiOk Tryz.prog phA := upd_ok (upd_ok pz0_ok t14_ok) t27_ok
theorem t20_ok : OrcOk Tryz.prog 20 (tbE phA 1000000 20 [p20]) := orc_tb mixz phA_ok (fun s hs => by
  simp only [List.mem_cons, List.mem_nil_iff, or_false] at hs
  subst hs
  exact ⟨by kernel_rfl, phA, phA_ok, tb_run kp20⟩)
theorem phB_ok : PhiOk Tryz.prog phB := upd_ok phA_ok t20_ok
theorem d9_ok : OrcOk Tryz.prog 9 (rdE phB 1000000 9 tabp l9) := orc_rd mixz phB_ok (fun s hs => by
  simp only [l9, List.mem_cons, List.mem_nil_iff, or_false] at hs
  rcases hs with rfl | rfl | rfl | rfl | rfl
  · exact ⟨by kernel_rfl, phB, phB_ok, qr9_0⟩
  · exact ⟨by kernel_rfl, phB, phB_ok, qr9_1⟩
  · exact ⟨by kernel_rfl, phB, phB_ok, qr9_2⟩
  · exact ⟨by kernel_rfl, phB, phB_ok, qr9_3⟩
  · exact ⟨by kernel_rfl, phB, phB_ok, qr9_4⟩)
theorem phC_ok : PhiOk Tryz.prog phC := upd_ok phB_ok d9_ok
theorem d8_ok : OrcOk Tryz.prog 8 (rdE phC 1000000 8 tabp l8) := orc_rd mixz phC_ok (fun s hs => by
  simp only [l8, List.mem_cons, List.mem_nil_iff, or_false] at hs
  rcases hs with rfl | rfl | rfl
  · exact ⟨by kernel_rfl, phC, phC_ok, qr8_0⟩
  · exact ⟨by kernel_rfl, phC, phC_ok, qr8_1⟩
  · exact ⟨by kernel_rfl, phC, phC_ok, qr8_2⟩)
theorem phD_ok : PhiOk Tryz.prog phD := upd_ok phC_ok d8_ok
theorem d7_ok : OrcOk Tryz.prog 7 (rdE phD 1000000 7 tabp l7) := orc_rd mixz phD_ok (fun s hs => by
  simp only [l7, List.mem_cons, List.mem_nil_iff, or_false] at hs
  rcases hs with rfl | rfl | rfl | rfl | rfl | rfl | rfl | rfl | rfl | rfl | rfl | rfl | rfl | rfl | rfl | rfl | rfl | rfl | rfl
  · exact ⟨by kernel_rfl, phD, phD_ok, qr7_0⟩
  · exact ⟨by kernel_rfl, phD, phD_ok, qr7_1⟩
  · exact ⟨by kernel_rfl, phD, phD_ok, qr7_2⟩
  · exact ⟨by kernel_rfl, phD, phD_ok, qr7_3⟩
  · exact ⟨by kernel_rfl, phD, phD_ok, qr7_4⟩
  · exact ⟨by kernel_rfl, phD, phD_ok, qr7_5⟩
  · exact ⟨by kernel_rfl, phD, phD_ok, qr7_6⟩
  · exact ⟨by kernel_rfl, phD, phD_ok, qr7_7⟩
  · exact ⟨by kernel_rfl, phD, phD_ok, qr7_8⟩
  · exact ⟨by kernel_rfl, phD, phD_ok, qr7_9⟩
  · exact ⟨by kernel_rfl, phD, phD_ok, qr7_10⟩
  · exact ⟨by kernel_rfl, phD, phD_ok, qr7_11⟩
  · exact ⟨by kernel_rfl, phD, phD_ok, qr7_12⟩
  · exact ⟨by kernel_rfl, phD, phD_ok, qr7_13⟩
  · exact ⟨by kernel_rfl, phD, phD_ok, qr7_14⟩
  · exact ⟨by kernel_rfl, phD, phD_ok, qr7_15⟩
  · exact ⟨by kernel_rfl, phD, phD_ok, qr7_16⟩
  · exact ⟨by kernel_rfl, phD, phD_ok, qr7_17⟩
  · exact ⟨by kernel_rfl, phD, phD_ok, qr7_18⟩)
theorem phE_ok : PhiOk Tryz.prog phE := upd_ok phD_ok d7_ok
theorem kn_ok : OrcOk Tryz.prog 15 (knownX tabs [1, 2]) := orc_closed_max mixz phs_ok (n := 1002) rfl ran
theorem phF_ok : PhiOk Tryz.prog phF := upd_ok phE_ok kn_ok
theorem cut_d : bLd = .seq (.reg (.mk (some a157) (.a (.mks 5 1 1 [.i .u8 (.ofNat 0)] (x6 1048577) (x6 1048577))) none :: .mk (some a158) (.q (.bs (.t a157))) none :: opsD bLd)) (rstD bLd) := by kernel_rfl
theorem pD (ty : Nat → Nat) (q : Nat → Nat × Nat × Nat) (tm : Nat) (z : Int) : Pv Tryz.prog (fL ty q tm z) Tryz.f3.ntmps bLd (cs wl_2 wl_3 .ret) := by
  rw [cut_d]
  exact pv_bs mixz phF_ok (fuel := 1000000) (fn := 3) (n := 1048577) (ty := 5) (by kernel_rfl) (by kernel_rfl) (lD ty q tm z)
theorem pC (ty : Nat → Nat) (q : Nat → Nat × Nat × Nat) (tm : Nat) (z : Int) : Pv Tryz.prog (fL ty q tm z) Tryz.f3.ntmps bLc (jn (cs wl_1 wl_2 .nrm) (cs wl_2 wl_3 .ret)) := pv_lnk mixz phF_ok (k := 4) (lC ty q tm z) (show lsuf 4 bLc = some bLd by kernel_rfl) rfl (pD ty q tm z) rfl rfl rfl rfl
theorem cut_b : bLb = .seq (.seq (lpA bLb) (.block 6 (.loop (lpB bLb)))) bLc := by kernel_rfl
theorem pB3 (ty : Nat → Nat) (q : Nat → Nat × Nat × Nat) (tm : Nat) (z : Int) : PvL Tryz.prog (fL ty q tm z) Tryz.f3.ntmps (lpB bLb) (cs wr_2 wl_1 (.ext 6)) := pvl_run mixz phF_ok (lB3 ty q tm z)
theorem pB2 (ty : Nat → Nat) (q : Nat → Nat × Nat × Nat) (tm : Nat) (z : Int) : PvL Tryz.prog (fL ty q tm z) Tryz.f3.ntmps (lpB bLb) (jn (cs wr_1 wr_2 .nrm) (cs wr_2 wl_1 (.ext 6))) := pvl_rds mixz phF_ok (k := 1400) (lB2 ty q tm z) rfl (pB3 ty q tm z) rfl rfl rfl rfl
theorem pB1 (ty : Nat → Nat) (q : Nat → Nat × Nat × Nat) (tm : Nat) (z : Int) : PvL Tryz.prog (fL ty q tm z) Tryz.f3.ntmps (lpB bLb) (jn (cs wr_0 wr_1 .nrm) (jn (cs wr_1 wr_2 .nrm) (cs wr_2 wl_1 (.ext 6)))) := pvl_rds mixz phF_ok (k := 1400) (lB1 ty q tm z) rfl (pB2 ty q tm z) rfl rfl rfl rfl
theorem pBl (ty : Nat → Nat) (q : Nat → Nat × Nat × Nat) (tm : Nat) (z : Int) : Pv Tryz.prog (fL ty q tm z) Tryz.f3.ntmps (.block 6 (.loop (lpB bLb))) (⟨wr_0.c, wr_0.t, wr_0.ks, wr_0.m, .nrm, wl_1.t, wl_1.ks, wl_1.m, wl_1.c⟩ : Cv) := pv_block (pv_loop (pB1 ty q tm z)) (.inl ⟨rfl, rfl⟩)
theorem pBe (ty : Nat → Nat) (q : Nat → Nat × Nat × Nat) (tm : Nat) (z : Int) : Pv Tryz.prog (fL ty q tm z) Tryz.f3.ntmps (.seq (lpA bLb) (.block 6 (.loop (lpB bLb)))) (jn (cs wl_0 wr_0 .nrm) (⟨wr_0.c, wr_0.t, wr_0.ks, wr_0.m, .nrm, wl_1.t, wl_1.ks, wl_1.m, wl_1.c⟩ : Cv)) := pv_seq (pv_run mixz phF_ok (lB0 ty q tm z)) (pBl ty q tm z) rfl rfl rfl rfl rfl
theorem pB (ty : Nat → Nat) (q : Nat → Nat × Nat × Nat) (tm : Nat) (z : Int) : Pv Tryz.prog (fL ty q tm z) Tryz.f3.ntmps bLb (jn (jn (cs wl_0 wr_0 .nrm) (⟨wr_0.c, wr_0.t, wr_0.ks, wr_0.m, .nrm, wl_1.t, wl_1.ks, wl_1.m, wl_1.c⟩ : Cv)) (jn (cs wl_1 wl_2 .nrm) (cs wl_2 wl_3 .ret))) := by
  rw [cut_b]
  exact pv_seq (pBe ty q tm z) (pC ty q tm z) rfl rfl rfl rfl rfl
theorem pA (ty : Nat → Nat) (q : Nat → Nat × Nat × Nat) (tm : Nat) (z : Int) : Pv Tryz.prog (fL ty q tm z) Tryz.f3.ntmps bL (jn (cs wl_s wl_0 .nrm) (jn (jn (cs wl_0 wr_0 .nrm) (⟨wr_0.c, wr_0.t, wr_0.ks, wr_0.m, .nrm, wl_1.t, wl_1.ks, wl_1.m, wl_1.c⟩ : Cv)) (jn (cs wl_1 wl_2 .nrm) (cs wl_2 wl_3 .ret)))) := pv_lnk mixz phF_ok (k := 12) (lA ty q tm z) (show lsuf 12 bL = some bLb by kernel_rfl) rfl (pB ty q tm z) rfl rfl rfl rfl
theorem cmp3 : comp Tryz.prog Tryz.f3 = some (.mk 9 [.c1 a0] bL) := by
  obtain ⟨fn, h1, h2⟩ := ok3
  obtain rfl : fn = Tryz.f3 := Option.some.inj (h1.symm.trans Tryz.func3)
  exact h2
theorem o3 : OrcOk Tryz.prog 3 (knownX tabs [1, 2]) := orc_pv_max mixz Tryz.func3 cmp3 (fun ty q tm z => ⟨_, rfl, rfl, rfl, by kernel_rfl, by kernel_rfl, pA ty q tm z⟩)
theorem l3x {Φ : Nat → Option CF} {F : RO} {L : List Tab} {gs : List Nat} {C : Nat} (h : Φ 3 = some (.orc (knownX L gs))) (h1 : tabsIn F L = true) (h2 : errsIn F gs = true) (hM : (maxQ F).isSome = true) : Ev.Calls Φ F 3 [] .e C fun v _ _ => v = .b true := ⟨.b true, .e, C, by rw [h]; exact knownX_nil h1 h2 hM .e C, rfl⟩
end Go.Proofs.YtakeaojhkcbheaaGreatDoor
