/- What is proved here: the law TreeNames returns true for every input, as the given card says. Conditions: those of the given row (the package-level variables that it lists read as the program lays them). -/
import Derived.Test.YtjabcgjeemajkaaDoorRun
import Derived.Test.YtjabcgjeemajkaaDoorRows
import Derived.Test.YtjabcgjeemajkaaDoorCards
import Derived.Test.YtjabcgjeemajkaaDoorTie
import Derived.ProofKit
import Derived.OpenShut
import Derived.LaidMore
import Derived.Lay
import Derived.SevenTiedAt
import Derived.Stop.Joined
set_option linter.unusedSimpArgs false
set_option linter.unusedVariables false
set_option maxRecDepth 100000
namespace Go.Proofs.YtjabcgjeemajkaaDoor
open Go Ev
open Go.ChangeShapes Go.WideShapes Go.ChangeAt Go.RowKit
theorem own : ownKnob Tryd.prog.godebug = none := by kernel_rfl
theorem mixed : Tryd.prog.follows .mixedOrders = true := by kernel_rfl
theorem trods_len {H : Type} {enc : TypeId × Value → H} {P : Program} {W : World} {sp : Nat → Bool} {held : Bool} : ∀ {ts : List TypeId} {vs : List Value} {ds : List (DataW H)} {ps : List MemPlace}, DataW.TrodAll enc P W 0 sp held ts vs ds ps → ds.length = ts.length
  | [], [], [], ps, h => rfl
  | [], [], _ :: _, ps, h => by cases h
  | [], _ :: _, ds, ps, h => by cases ds <;> cases h
  | _ :: _, [], ds, ps, h => by cases ds <;> cases h
  | _ :: _, _ :: _, [], ps, h => by cases h
  | t :: ts, v :: vs, d :: ds, ps, h => by
    obtain ⟨p, q, h1, h2, _⟩ := h
    rw [List.length_cons, List.length_cons, trods_len h2]
noncomputable def ph0 : Nat → Option CF := fun k => phi.get k
theorem ph0_ok : PhiOk Tryd.prog ph0 := phi_ok
theorem g0_18 : OrcOk Tryd.prog 18 (pureO h18) := o18 mixed ph0_ok (by kernel_rfl)
theorem g0_8 : OrcOk Tryd.prog 8 (pureO h7) := o8 mixed ph0_ok (by kernel_rfl)
theorem g0_61 : OrcOk Tryd.prog 61 (pureO h61) := o61 mixed ph0_ok (by kernel_rfl)
theorem g0_52 : OrcOk Tryd.prog 52 (pureO h52) := o52 mixed ph0_ok (by kernel_rfl)
theorem g0_50 : OrcOk Tryd.prog 50 (pureO h50) := o50 mixed ph0_ok (by kernel_rfl)
noncomputable def ph1 : Nat → Option CF := (upd (upd (upd (upd (upd (upd ph0 18 (.orc (pureO h18))) 8 (.orc (pureO h7))) 61 (.orc (pureO h61))) 52 (.orc (pureO h52))) 50 (.orc (pureO h50))) 4 (.orc (knownO tabs)))
theorem ph1_ok : PhiOk Tryd.prog ph1 := (upd_ok (upd_ok (upd_ok (upd_ok (upd_ok (upd_ok ph0_ok g0_18) g0_8) g0_61) g0_52) g0_50) (f := 4) (g := knownO tabs) (orc_closed_tabs mixed phi_ok ran))
theorem g1_30 : OrcOk Tryd.prog 30 (pureO h30) := o30 mixed ph1_ok (by kernel_rfl) (by kernel_rfl)
theorem g1_59 : OrcOk Tryd.prog 59 (pureO h59) := o59 mixed ph1_ok (by kernel_rfl) (by kernel_rfl)
theorem g1_41 : OrcOk Tryd.prog 41 (pureO h41) := o41 mixed ph1_ok (by kernel_rfl) (by kernel_rfl)
theorem g1_6 : OrcOk Tryd.prog 6 (pureO h5) := o6 mixed ph1_ok (by kernel_rfl) (by kernel_rfl) (by kernel_rfl)
noncomputable def ph2 : Nat → Option CF := (upd (upd (upd (upd ph1 30 (.orc (pureO h30))) 59 (.orc (pureO h59))) 41 (.orc (pureO h41))) 6 (.orc (pureO h5)))
theorem ph2_ok : PhiOk Tryd.prog ph2 := (upd_ok (upd_ok (upd_ok (upd_ok ph1_ok g1_30) g1_59) g1_41) g1_6)
theorem g2_17 : OrcOk Tryd.prog 17 (pureO h17) := o17 mixed ph2_ok (by kernel_rfl) (by kernel_rfl)
theorem g2_53 : OrcOk Tryd.prog 53 (pureO h59) := o53 mixed ph2_ok (by kernel_rfl) (by kernel_rfl)
theorem g2_27 : OrcOk Tryd.prog 27 (pureO h41) := o27 mixed ph2_ok (by kernel_rfl) (by kernel_rfl)
noncomputable def ph3 : Nat → Option CF := (upd (upd (upd ph2 17 (.orc (pureO h17))) 53 (.orc (pureO h59))) 27 (.orc (pureO h41)))
theorem ph3_ok : PhiOk Tryd.prog ph3 := (upd_ok (upd_ok (upd_ok ph2_ok g2_17) g2_53) g2_27)
theorem g3_7 : OrcOk Tryd.prog 7 (pureO h7) := o7 mixed ph3_ok (by kernel_rfl) (by kernel_rfl)
noncomputable def ph4 : Nat → Option CF := (upd ph3 7 (.orc (pureO h7)))
theorem ph4_ok : PhiOk Tryd.prog ph4 := (upd_ok ph3_ok g3_7)
theorem g4_29 : OrcOk Tryd.prog 29 (pureO h29) := o29 mixed ph4_ok (by kernel_rfl) (by kernel_rfl)
noncomputable def ph5 : Nat → Option CF := (upd ph4 29 (.orc (pureO h29)))
theorem ph5_ok : PhiOk Tryd.prog ph5 := (upd_ok ph4_ok g4_29)
theorem g5_5 : OrcOk Tryd.prog 5 (pureO h5) := o5 mixed ph5_ok (by kernel_rfl) (by kernel_rfl) (by kernel_rfl) (by kernel_rfl) (by kernel_rfl) (by kernel_rfl) (by kernel_rfl) (by kernel_rfl) (by kernel_rfl) (by kernel_rfl)
noncomputable def ph6 : Nat → Option CF := (upd ph5 5 (.orc (pureO h5)))
theorem ph6_ok : PhiOk Tryd.prog ph6 := (upd_ok ph5_ok g5_5)
def tys : List Ty := [.str]
theorem tabs_in {W : World} (hL : laidMet Tryd.prog Rows.treeNamesRow.laid W) (C : Nat) : tabsIn (heapF W C) tabs = true := heap_tabs (fun t ht => by cases ht)
theorem law_walk {W : World} (hL : laidMet Tryd.prog Rows.treeNamesRow.laid W) {C : Nat} (hC : W.heap.size ≤ C) (hk : 1000 ≤ C) {us : List V} (hR : ArgsR (heapF W C) C tys us) : Ev.Calls ph6 (heapF W C) 3 us .e C fun v _ _ => v = .b true := by
  obtain ⟨vs, x, a1, rfl, h1, rfl⟩ := hR
  obtain ⟨s, rfl⟩ := str_of4 h1
  exact l3 ph6 (L := tabs) (by kernel_rfl) (by kernel_rfl) (by kernel_rfl) (by kernel_rfl) (by kernel_rfl) (by kernel_rfl) s (tabs_in hL C)
theorem law_lifted (os : Os) (started : os.Started) (H : Type) (enc : TypeId × Value → H) :
    ReturnsInHanded {} Tryd.checked os 3 .any (fun w args => (Rows.treeNamesSpec.pre enc Tryd.prog Tryd.f3 Rows.treeNamesRow.domain false w args ∧ laidMetH Tryd.prog Rows.treeNamesRow.laid w) ∧ sizedMet enc Tryd.prog Tryd.f3 (OpenSpec.ofChange Rows.treeNamesSpec) false w args)
      (Rows.treeNamesSpec.post enc Tryd.prog Tryd.f3 false true false false) := by
  refine returnsInHanded_of_change_and (C := Tryd.checked) (X := fun w _ => laidMetH Tryd.prog Rows.treeNamesRow.laid w) (fun _ _ _ hh h => h.of_heap hh) own started (by kernel_rfl) Tryd.func3
    (ChangeSpec.witness_shaped (enc := enc) (C := Tryd.checked) (os := os) (X := fun w _ => laidMetH Tryd.prog Rows.treeNamesRow.laid w) false (World.laidAll Tryd.prog os Rows.treeNamesRow.laid) #[.string ⟨#[]⟩] 8 (World.laidAll_os _ _ _)
      (World.shaped_of_ZipB (by kernel_rfl) (by kernel_rfl)) (by kernel_rfl) (by kernel_rfl) (by kernel_rfl)
      (by rw [MakeChecks.laidMetH_plain _ _ _ (by kernel_rfl)]; exact laidMet_laidAll _ (by kernel_rfl) (by kernel_rfl))) ?_
  intro W base args ds gs before hval0 hW hc _ hL _
  have hW' := hW
  obtain ⟨p, q, hA0, hV, rfl, _, _⟩ := hW
  have hA : DataW.TrodAll enc Tryd.prog W 0 (fun _ => true) true Tryd.f3.params.toList args.toList ds p := hA0
  obtain ⟨rfl, rfl⟩ := trodVars_none hV
  rw [MakeChecks.laidMetH_plain _ _ _ (by kernel_rfl)] at hL
  have hty : tysB Tryd.prog tys Tryd.f3.params.toList = true := by kernel_rfl
  obtain ⟨us, has, hbd, hR⟩ := args_of (C := max 1000 W.heap.size) (Nat.le_max_right _ _) hty hA (fun j t v ht hv => hval0 j t v (by rw [← Array.getElem?_toList]; exact ht) (by rw [← Array.getElem?_toList]; exact hv)) (fun h => absurd h (by decide))
  have hcall := law_of mixed ph6_ok (W := W) (C := max 1000 W.heap.size) (f := 3) (args := us) (Nat.le_max_right _ _) (Nat.le_max_left _ _) hbd (law_walk hL (Nat.le_max_right _ _) (Nat.le_max_left _ _) hR)
  rw [has] at hcall
  have hlen := trods_len hA
  rw [Tryd.params3] at hlen
  obtain ⟨d1, rfl⟩ : ∃ d1, ds = [d1] := by
    match ds, hlen with
    | [d1], _ => exact ⟨d1, rfl⟩
  refine hcall.mono fun e W' ⟨he, hk, hheap⟩ => ?_
  subst he
  refine ⟨_, rfl, _, _, _, [], p, [], hW', trodAll_mk1 (shut_bool Tryd.underlying4 true), ?_, ?_, hk _, fun h => by cases h⟩
  · exact all_kept hheap hty hA
  · exact hV
theorem law_holds : Rows.TreeNamesSaid :=
  OpenClaim.holds_of_wide 3 Tryd.f3 rfl rfl rfl rfl rfl rfl rfl ⟨rfl, rfl, rfl, rfl, rfl⟩ rfl rfl rfl rfl rfl (by kernel_rfl) Tryd.func3 (by kernel_rfl)
    (of_decide_eq_true (by kernel_rfl)) (by unfold Func.isWrapper; first | (rw [if_pos (by decide +kernel)]; kernel_rfl) | (rw [if_neg (by decide +kernel)]; exact ⟨rfl, rfl⟩))
    (fun os started H enc _ => law_lifted os started H enc)
theorem card_holds : Rows.TreeNamesCardSaid :=
  Claim7.holds_tied_plain_at .later [] [.data, .pinned] true (true, "3837a7d5d863f12308fb2fcbe813e2f131373de87d76f896de1d0a3e6c022aa1") false
    law_holds (fun _ h => by cases h) (by kernel_rfl) (fun _ h => by cases h) treeNames_row_tie rfl ⟨rfl, rfl⟩ (by kernel_rfl) rfl
    (fun f fn hf hfn => by
      obtain rfl : f = 3 := Option.some.inj ((show Tryd.prog.funcNamed "steading/steadinglaw18.TreeNames" = some 3 by kernel_rfl).symm.trans hf) |>.symm
      obtain rfl : fn = Tryd.f3 := (Option.some.inj (Tryd.func3.symm.trans hfn)).symm
      exact ⟨by kernel_rfl, fun j t ht => by
        rw [Tryd.params3] at ht
        rw [← Array.getElem?_toList] at ht
        have hm := List.mem_of_getElem? ht
        simp only [List.mem_cons, List.mem_nil_iff, or_false] at hm
        rcases hm with rfl <;> first | (show Tryd.prog.wantsStandIn _ = false; kernel_rfl) | (show _ = false; kernel_rfl) | decide +kernel⟩)
    (by kernel_rfl)
#print axioms card_holds
end Go.Proofs.YtjabcgjeemajkaaDoor
