/- What is proved here: the law IsaOps returns true (a closed sentence: no input), as the given card says. Conditions: those of the given row (the package-level variables that it lists read as the program lays them). -/
import Derived.Test.YtffpeieapadocaaDoorRun
import Derived.Test.YtffpeieapadocaaDoorRows
import Derived.Test.YtffpeieapadocaaDoorCards
import Derived.Test.YtffpeieapadocaaDoorTie
import Derived.ProofKit
import Derived.OpenShut
import Derived.LaidMore
import Derived.Lay
import Derived.SevenTiedAt
import Derived.Stop.Joined
set_option linter.unusedSimpArgs false
set_option linter.unusedVariables false
set_option maxRecDepth 100000
namespace Go.Proofs.YtffpeieapadocaaDoor
open Go Ev
open Go.ChangeShapes Go.WideShapes Go.ChangeAt Go.RowKit
theorem own : ownKnob Tryd.prog.godebug = none := by kernel_rfl
theorem mixed : Tryd.prog.follows .mixedOrders = true := by kernel_rfl
theorem tab0 (W : World) (hL : laidMet Tryd.prog Rows.isaOpsRow.laid W) : TabAt W (4, .u8, [(.ofNat 0), (.ofNat 1), (.ofNat 28), (.ofNat 2), (.ofNat 29), (.ofNat 14), (.ofNat 24), (.ofNat 3), (.ofNat 30), (.ofNat 22), (.ofNat 20), (.ofNat 15), (.ofNat 25), (.ofNat 17), (.ofNat 4), (.ofNat 8), (.ofNat 31), (.ofNat 27), (.ofNat 13), (.ofNat 23), (.ofNat 21), (.ofNat 19), (.ofNat 16), (.ofNat 7), (.ofNat 26), (.ofNat 12), (.ofNat 18), (.ofNat 6), (.ofNat 11), (.ofNat 5), (.ofNat 10), (.ofNat 9)]) := tabAt_of (name := "math/bits.deBruijn32tab") (t := 147) (e := 5) (n := 32) (by kernel_rfl) (by kernel_rfl) (by kernel_rfl) (by kernel_rfl) (by kernel_rfl) (by kernel_rfl) (laid := Rows.isaOpsRow.laid) (List.Mem.head _) hL
theorem tab1 (W : World) (hL : laidMet Tryd.prog Rows.isaOpsRow.laid W) : TabAt W (5, .u8, [(.ofNat 0), (.ofNat 1), (.ofNat 56), (.ofNat 2), (.ofNat 57), (.ofNat 49), (.ofNat 28), (.ofNat 3), (.ofNat 61), (.ofNat 58), (.ofNat 42), (.ofNat 50), (.ofNat 38), (.ofNat 29), (.ofNat 17), (.ofNat 4), (.ofNat 62), (.ofNat 47), (.ofNat 59), (.ofNat 36), (.ofNat 45), (.ofNat 43), (.ofNat 51), (.ofNat 22), (.ofNat 53), (.ofNat 39), (.ofNat 33), (.ofNat 30), (.ofNat 24), (.ofNat 18), (.ofNat 12), (.ofNat 5), (.ofNat 63), (.ofNat 55), (.ofNat 48), (.ofNat 27), (.ofNat 60), (.ofNat 41), (.ofNat 37), (.ofNat 16), (.ofNat 46), (.ofNat 35), (.ofNat 44), (.ofNat 21), (.ofNat 52), (.ofNat 32), (.ofNat 23), (.ofNat 11), (.ofNat 54), (.ofNat 26), (.ofNat 40), (.ofNat 15), (.ofNat 34), (.ofNat 20), (.ofNat 31), (.ofNat 10), (.ofNat 25), (.ofNat 14), (.ofNat 19), (.ofNat 9), (.ofNat 13), (.ofNat 8), (.ofNat 7), (.ofNat 6)]) := tabAt_of (name := "math/bits.deBruijn64tab") (t := 148) (e := 5) (n := 64) (by kernel_rfl) (by kernel_rfl) (by kernel_rfl) (by kernel_rfl) (by kernel_rfl) (by kernel_rfl) (laid := Rows.isaOpsRow.laid) (List.Mem.tail _ (List.Mem.head _)) hL
theorem tab2 (W : World) (hL : laidMet Tryd.prog Rows.isaOpsRow.laid W) : TabAt W (3, .u64, [(.ofNat 1), (.ofNat 10), (.ofNat 100), (.ofNat 1000), (.ofNat 10000), (.ofNat 100000), (.ofNat 1000000), (.ofNat 10000000), (.ofNat 100000000), (.ofNat 1000000000), (.ofNat 10000000000), (.ofNat 100000000000), (.ofNat 1000000000000), (.ofNat 10000000000000), (.ofNat 100000000000000), (.ofNat 1000000000000000), (.ofNat 10000000000000000), (.ofNat 100000000000000000), (.ofNat 1000000000000000000), (.ofNat 10000000000000000000)]) := tabAt_of (name := "internal/strconv.uint64pow10") (t := 135) (e := 112) (n := 20) (by kernel_rfl) (by kernel_rfl) (by kernel_rfl) (by kernel_rfl) (by kernel_rfl) (by kernel_rfl) (laid := Rows.isaOpsRow.laid) (List.Mem.tail _ (List.Mem.tail _ (List.Mem.head _))) hL
theorem law_calls (W : World) (hL : laidMet Tryd.prog Rows.isaOpsRow.laid W) : Calls Tryd.prog 4 #[] W fun e W' => e = .returned (.bool true) ∧ ∀ may, W.keptBut W' may := closed_calls_tabs mixed phi_ok ran (fun t ht => by
  simp only [tabs, List.mem_cons, List.mem_nil_iff, or_false] at ht
  rcases ht with rfl | rfl | rfl
  · exact ⟨by decide, tab0 W hL⟩
  · exact ⟨by decide, tab1 W hL⟩
  · exact ⟨by decide, tab2 W hL⟩)
theorem law_lifted (os : Os) (started : os.Started) (H : Type) (enc : TypeId × Value → H) :
    ReturnsInHanded {} Tryd.checked os 4 .any (fun w args => (Rows.isaOpsSpec.pre enc Tryd.prog Tryd.f4 Rows.isaOpsRow.domain false w args ∧ laidMetH Tryd.prog Rows.isaOpsRow.laid w) ∧ sizedMet enc Tryd.prog Tryd.f4 (OpenSpec.ofChange Rows.isaOpsSpec) false w args)
      (Rows.isaOpsSpec.post enc Tryd.prog Tryd.f4 false true false false) := by
  refine returnsInHanded_of_change_and (C := Tryd.checked) (X := fun w _ => laidMetH Tryd.prog Rows.isaOpsRow.laid w) (fun _ _ _ hh h => h.of_heap hh) own started (by kernel_rfl) Tryd.func4
    (ChangeSpec.witness_shaped (enc := enc) (C := Tryd.checked) (os := os) (X := fun w _ => laidMetH Tryd.prog Rows.isaOpsRow.laid w) false (World.laidAll Tryd.prog os Rows.isaOpsRow.laid) #[] 8 (World.laidAll_os _ _ _)
      (World.shaped_of_ZipB (by kernel_rfl) (by kernel_rfl)) (by kernel_rfl) (by kernel_rfl) (by kernel_rfl)
      (by rw [MakeChecks.laidMetH_plain _ _ _ (by kernel_rfl)]; exact laidMet_laidAll _ (by kernel_rfl) (by kernel_rfl))) ?_
  intro W base args ds gs before hval0 hW hc _ hL _
  have hW' := hW
  obtain ⟨p, q, hA0, hV, rfl, _, _⟩ := hW
  have hA : DataW.TrodAll enc Tryd.prog W 0 (fun _ => true) true Tryd.f4.params.toList args.toList ds p := hA0
  rw [Tryd.params4] at hA
  have hargs : args.toList = [] ∧ ds = [] ∧ p = [] := by
    cases h1 : args.toList with
    | nil =>
      rw [h1] at hA
      cases ds with
      | nil => exact ⟨rfl, rfl, hA⟩
      | cons d r => exact absurd hA (by intro h; cases h)
    | cons v r => rw [h1] at hA; exact absurd hA (by cases ds <;> (intro h; cases h))
  obtain ⟨ha, rfl, rfl⟩ := hargs
  obtain rfl : args = #[] := by cases args; simpa using ha
  obtain ⟨rfl, rfl⟩ := trodVars_none hV
  rw [MakeChecks.laidMetH_plain _ _ _ (by kernel_rfl)] at hL
  refine (law_calls W hL).mono fun e W' ⟨he, hk⟩ => ?_
  subst he
  refine ⟨_, rfl, _, _, _, [], [], [], hW', trodAll_mk1 (shut_bool Tryd.underlying4 true), ?_, ?_, hk _, fun h => by cases h⟩
  · exact hA
  · exact hV
theorem law_holds : Rows.IsaOpsSaid :=
  OpenClaim.holds_of_wide 4 Tryd.f4 rfl rfl rfl rfl rfl rfl rfl ⟨rfl, rfl, rfl, rfl, rfl⟩ rfl rfl rfl rfl rfl (by kernel_rfl) Tryd.func4 (by kernel_rfl)
    (of_decide_eq_true (by kernel_rfl)) (by unfold Func.isWrapper; first | (rw [if_pos (by decide +kernel)]; kernel_rfl) | (rw [if_neg (by decide +kernel)]; exact ⟨rfl, rfl⟩))
    (fun os started H enc _ => law_lifted os started H enc)
theorem card_holds : Rows.IsaOpsCardSaid :=
  Claim7.holds_tied_plain_at .later [] [.data, .data, .data, .sentinel, .sentinel] true (true, "d539a37f9e976849a0ae5c8e2aac8164d0c6a4dcc7ee5cbe7124596763c859df") true
    law_holds (fun _ h => by cases h) (by kernel_rfl) (fun _ h => by cases h) isaOps_row_tie rfl ⟨rfl, rfl⟩ (by kernel_rfl) rfl
    (fun f fn hf hfn => by
      obtain rfl : f = 4 := Option.some.inj ((show Tryd.prog.funcNamed "steading/steadinglaw03.IsaOps" = some 4 by kernel_rfl).symm.trans hf) |>.symm
      obtain rfl : fn = Tryd.f4 := (Option.some.inj (Tryd.func4.symm.trans hfn)).symm
      exact ⟨by kernel_rfl, fun j t ht => by
        rw [Tryd.params4] at ht
        simp at ht⟩)
    (by kernel_rfl)
#print axioms card_holds
end Go.Proofs.YtffpeieapadocaaDoor
