/- What is proved here: the law MeanNil returns true (a closed sentence: no input), as the given card says. Conditions: those of the given row (the package-level variables that it lists read as the program lays them). -/
import Derived.Test.YtmbfboidfbaeiaaGreatDoorRun
import Derived.Test.YtmbfboidfbaeiaaGreatDoorRows
import Derived.Test.YtmbfboidfbaeiaaGreatDoorCards
import Derived.Test.YtmbfboidfbaeiaaGreatDoorTie
import Derived.ProofKit
import Derived.OpenShut
import Derived.LaidMore
import Derived.Lay
import Derived.SevenTiedAt
import Derived.Stop.Joined
set_option linter.unusedSimpArgs false
set_option linter.unusedVariables false
set_option maxRecDepth 100000
namespace Go.Proofs.YtmbfboidfbaeiaaGreatDoor
open Go Ev
open Go.ChangeShapes Go.WideShapes Go.ChangeAt Go.RowKit
theorem own : ownKnob Tryz.prog.godebug = none := by kernel_rfl
theorem law_calls (W : World) (hL : laidMet Tryz.prog Rows.meanNilRow.laid W) : Calls Tryz.prog 4 #[] W fun e W' => e = .returned (.bool true) ∧ ∀ may, W.keptBut W' may := closed_calls_tabs mixed ph3_ok ran (fun t ht => by cases ht)
theorem law_lifted (os : Os) (started : os.Started) (H : Type) (enc : TypeId × Value → H) :
    ReturnsInHanded {} Tryz.checked os 4 .any (fun w args => (Rows.meanNilSpec.pre enc Tryz.prog Tryz.f4 Rows.meanNilRow.domain false w args ∧ laidMetH Tryz.prog Rows.meanNilRow.laid w) ∧ sizedMet enc Tryz.prog Tryz.f4 (OpenSpec.ofChange Rows.meanNilSpec) false w args)
      (Rows.meanNilSpec.post enc Tryz.prog Tryz.f4 false true false false) := by
  refine returnsInHanded_of_change_and (C := Tryz.checked) (X := fun w _ => laidMetH Tryz.prog Rows.meanNilRow.laid w) (fun _ _ _ hh h => h.of_heap hh) own started (by kernel_rfl) Tryz.func4
    (ChangeSpec.witness_shaped (enc := enc) (C := Tryz.checked) (os := os) (X := fun w _ => laidMetH Tryz.prog Rows.meanNilRow.laid w) false (World.laidAll Tryz.prog os Rows.meanNilRow.laid) #[] 8 (World.laidAll_os _ _ _)
      (World.shaped_of_ZipB (by kernel_rfl) (by kernel_rfl)) (by kernel_rfl) (by kernel_rfl) (by kernel_rfl)
      (by rw [MakeChecks.laidMetH_plain _ _ _ (by kernel_rfl)]; exact laidMet_laidAll _ (by kernel_rfl) (by kernel_rfl))) ?_
  intro W base args ds gs before hval0 hW hc _ hL _
  have hW' := hW
  obtain ⟨p, q, hA0, hV, rfl, _, _⟩ := hW
  have hA : DataW.TrodAll enc Tryz.prog W 0 (fun _ => true) true Tryz.f4.params.toList args.toList ds p := hA0
  rw [Tryz.params4] at hA
  have hargs : args.toList = [] ∧ ds = [] ∧ p = [] := by
    cases h1 : args.toList with
    | nil =>
      rw [h1] at hA
      cases ds with
      | nil => exact ⟨rfl, rfl, hA⟩
      | cons d r => exact absurd hA (by intro h; cases h)
    | cons v r => rw [h1] at hA; exact absurd hA (by cases ds <;> (intro h; cases h))
  obtain ⟨ha, rfl, rfl⟩ := hargs
  obtain rfl : args = #[] := by cases args; simpa using ha
  obtain ⟨rfl, rfl⟩ := trodVars_none hV
  rw [MakeChecks.laidMetH_plain _ _ _ (by kernel_rfl)] at hL
  refine (law_calls W hL).mono fun e W' ⟨he, hk⟩ => ?_
  subst he
  refine ⟨_, rfl, _, _, _, [], [], [], hW', trodAll_mk1 (shut_bool Tryz.underlying4 true), ?_, ?_, hk _, fun h => by cases h⟩
  · exact hA
  · exact hV
theorem law_holds : Rows.MeanNilSaid :=
  OpenClaim.holds_of_wide 4 Tryz.f4 rfl rfl rfl rfl rfl rfl rfl ⟨rfl, rfl, rfl, rfl, rfl⟩ rfl rfl rfl rfl rfl (by kernel_rfl) Tryz.func4 (by kernel_rfl)
    (of_decide_eq_true (by kernel_rfl)) (by unfold Func.isWrapper; first | (rw [if_pos (by decide +kernel)]; kernel_rfl) | (rw [if_neg (by decide +kernel)]; exact ⟨rfl, rfl⟩))
    (fun os started H enc _ => law_lifted os started H enc)
theorem card_holds : Rows.MeanNilCardSaid :=
  Claim7.holds_tied_plain_at .later [] [.data, .data, .data, .data, .sentinel, .sentinel, .pinned] true (true, "fef9e904696bbca468165a48ee5c4cbd845651567d942f5b29b8b43567769ffc") true
    law_holds (fun _ h => by cases h) (by kernel_rfl) (fun _ h => by cases h) meanNil_row_tie rfl ⟨rfl, rfl⟩ (by kernel_rfl) rfl
    (fun f fn hf hfn => by
      obtain rfl : f = 4 := Option.some.inj ((show Tryz.prog.funcNamed "steading/steadinglaw27.MeanNil" = some 4 by kernel_rfl).symm.trans hf) |>.symm
      obtain rfl : fn = Tryz.f4 := (Option.some.inj (Tryz.func4.symm.trans hfn)).symm
      exact ⟨by kernel_rfl, fun j t ht => by
        rw [Tryz.params4] at ht
        simp at ht⟩)
    (by kernel_rfl)
#print axioms card_holds
end Go.Proofs.YtmbfboidfbaeiaaGreatDoor
