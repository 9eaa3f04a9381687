/- What is proved here: the law TreeFull returns true for every input, as0 the given card says. Conditions: those of the given row (the package-level variables that it lists read as0 the program lays them). -/
import Derived.Test.YtpokoiicogheaaaGreatDoorTfZ
import Derived.Test.YtpokoiicogheaaaGreatDoorRows
import Derived.Test.YtpokoiicogheaaaGreatDoorCards
import Derived.Test.YtpokoiicogheaaaGreatDoorTie
import Derived.ProofKit
import Derived.OpenShut
import Derived.LaidMore
import Derived.Lay
import Derived.SevenTiedAt
import Derived.Stop.Joined
set_option linter.unusedSimpArgs false
set_option linter.unusedVariables false
set_option maxRecDepth 100000
namespace Go.Proofs.YtpokoiicogheaaaGreatDoor
open Go Ev
open Go.ChangeShapes Go.WideShapes Go.ChangeAt Go.RowKit
theorem own : ownKnob Tryz.prog.godebug = none := by kernel_rfl
theorem mixed : Tryz.prog.follows .mixedOrders = true := by kernel_rfl
theorem trods_len {H : Type} {enc : TypeId × Value → H} {P : Program} {W : World} {sp : Nat → Bool} {held : Bool} : ∀ {ts : List TypeId} {vs : List Value} {ds : List (DataW H)} {ps : List MemPlace}, DataW.TrodAll enc P W 0 sp held ts vs ds ps → ds.length = ts.length
  | [], [], [], ps, h => rfl
  | [], [], _ :: _, ps, h => by cases h
  | [], _ :: _, ds, ps, h => by cases ds <;> cases h
  | _ :: _, [], ds, ps, h => by cases ds <;> cases h
  | _ :: _, _ :: _, [], ps, h => by cases h
  | t :: ts, v :: vs, d :: ds, ps, h => by
    obtain ⟨p, q, h1, h2, _⟩ := h
    rw [List.length_cons, List.length_cons, trods_len h2]
noncomputable def ph0 : Nat → Option CF := fun k => phi.get k
theorem ph0_ok : PhiOk Tryz.prog ph0 := phi_ok
noncomputable def ph1 : Nat → Option CF := (upd ph0 3 (.orc (knownO [])))
theorem ph1_ok : PhiOk Tryz.prog ph1 := (upd_ok ph0_ok o3T)
def tys : List Ty := []
theorem tabs_in {W : World} (hL : laidMet Tryz.prog Rows.treeFullRow.laid W) (C : Nat) : tabsIn (heapF W C) tabs = true := heap_tabs (fun t ht => by cases ht)
theorem law_walk {W : World} (hL : laidMet Tryz.prog Rows.treeFullRow.laid W) {C : Nat} (hC : W.heap.size ≤ C) (hk : 1000 ≤ C) {us : List V} (hR : ArgsR (heapF W C) C tys us) : Ev.Calls ph1 (heapF W C) 3 us .e C fun v _ _ => v = .b true := by
  obtain rfl : us = [] := hR
  exact l_known0 (Φ := ph1) (by kernel_rfl) (tabs_in hL C)
theorem law_lifted (os : Os) (started : os.Started) (H : Type) (enc : TypeId × Value → H) :
    ReturnsInHanded {} Tryz.checked os 3 .any (fun w args => (Rows.treeFullSpec.pre enc Tryz.prog Tryz.f3 Rows.treeFullRow.domain false w args ∧ laidMetH Tryz.prog Rows.treeFullRow.laid w) ∧ sizedMet enc Tryz.prog Tryz.f3 (OpenSpec.ofChange Rows.treeFullSpec) false w args)
      (Rows.treeFullSpec.post enc Tryz.prog Tryz.f3 false true false false) := by
  refine returnsInHanded_of_change_and (C := Tryz.checked) (X := fun w _ => laidMetH Tryz.prog Rows.treeFullRow.laid w) (fun _ _ _ hh h => h.of_heap hh) own started (by kernel_rfl) Tryz.func3
    (ChangeSpec.witness_shaped (enc := enc) (C := Tryz.checked) (os := os) (X := fun w _ => laidMetH Tryz.prog Rows.treeFullRow.laid w) false (World.laidAll Tryz.prog os Rows.treeFullRow.laid) #[] 8 (World.laidAll_os _ _ _)
      (World.shaped_of_ZipB (by kernel_rfl) (by kernel_rfl)) (by kernel_rfl) (by kernel_rfl) (by kernel_rfl)
      (by rw [MakeChecks.laidMetH_plain _ _ _ (by kernel_rfl)]; exact laidMet_laidAll _ (by kernel_rfl) (by kernel_rfl))) ?_
  intro W base args ds gs before hval0 hW hc _ hL _
  have hW' := hW
  obtain ⟨p, q, hA0, hV, rfl, _, _⟩ := hW
  have hA : DataW.TrodAll enc Tryz.prog W 0 (fun _ => true) true Tryz.f3.params.toList args.toList ds p := hA0
  obtain ⟨rfl, rfl⟩ := trodVars_none hV
  rw [MakeChecks.laidMetH_plain _ _ _ (by kernel_rfl)] at hL
  have hty : tysB Tryz.prog tys Tryz.f3.params.toList = true := by kernel_rfl
  obtain ⟨C, hk0, hC0, hD⟩ := deep_C W
  obtain ⟨us, has, hbd, hR⟩ := args_of (fun _ => rfl) (C := C) hC0 hty hA (fun j t v ht hv => hval0 j t v (by rw [← Array.getElem?_toList]; exact ht) (by rw [← Array.getElem?_toList]; exact hv)) (fun _ => hD)
  have hcall := law_of mixed ph1_ok (W := W) (C := C) (f := 3) (args := us) hC0 hk0 hbd (law_walk hL hC0 hk0 hR)
  rw [has] at hcall
  have hlen := trods_len hA
  rw [Tryz.params3] at hlen
  obtain rfl : ds = [] := by
    match ds, hlen with
    | [], _ => rfl
  refine hcall.mono fun e W' ⟨he, hk, hheap⟩ => ?_
  subst he
  refine ⟨_, rfl, _, _, _, [], p, [], hW', trodAll_mk1 (shut_bool Tryz.underlying4 true), ?_, ?_, hk _, fun h => by cases h⟩
  · exact all_kept hheap hty hA
  · exact hV
theorem law_holds : Rows.TreeFullSaid :=
  OpenClaim.holds_of_wide 3 Tryz.f3 rfl rfl rfl rfl rfl rfl rfl ⟨rfl, rfl, rfl, rfl, rfl⟩ rfl rfl rfl rfl rfl (by kernel_rfl) Tryz.func3 (by kernel_rfl)
    (of_decide_eq_true (by kernel_rfl)) (by unfold Func.isWrapper; first | (rw [if_pos (by decide +kernel)]; kernel_rfl) | (rw [if_neg (by decide +kernel)]; exact ⟨rfl, rfl⟩))
    (fun os started H enc _ => law_lifted os started H enc)
theorem card_holds : Rows.TreeFullCardSaid :=
  Claim7.holds_tied_plain_at .later [] [.data, .pinned] true (true, "9b49e47ca2206a2630a51f9b70a359ca92741b7230cb6c4d079da463d715fadf") true
    law_holds (fun _ h => by cases h) (by kernel_rfl) (fun _ h => by cases h) treeFull_row_tie rfl ⟨rfl, rfl⟩ (by kernel_rfl) rfl
    (fun f fn hf hfn => by
      obtain rfl : f = 3 := Option.some.inj ((show Tryz.prog.funcNamed "steading/steadinglaw18.TreeFull" = some 3 by kernel_rfl).symm.trans hf) |>.symm
      obtain rfl : fn = Tryz.f3 := (Option.some.inj (Tryz.func3.symm.trans hfn)).symm
      exact ⟨by kernel_rfl, fun j t ht => by
        rw [Tryz.params3] at ht
        rw [← Array.getElem?_toList] at ht
        have hm := List.mem_of_getElem? ht
        cases hm⟩)
    (by kernel_rfl)
#print axioms card_holds
end Go.Proofs.YtpokoiicogheaaaGreatDoor
