/- What is proved here: the law PosixArguments returns true for every input, as the given card says. Conditions: those of the given row (the package-level variables that it lists read as the program lays them). -/
import Derived.Test.YtffgjigcdmcibaaGreatDoorRun
import Derived.Test.YtffgjigcdmcibaaGreatDoorGoes
import Derived.Test.YtffgjigcdmcibaaGreatDoorFactsA
import Derived.Test.YtffgjigcdmcibaaGreatDoorFactsB
import Derived.Test.YtffgjigcdmcibaaGreatDoorFactsC
import Derived.Test.YtffgjigcdmcibaaGreatDoorFactsD
import Derived.Test.YtffgjigcdmcibaaGreatDoorFactsE
import Derived.Test.YtffgjigcdmcibaaGreatDoorFactsF
import Derived.Test.YtffgjigcdmcibaaGreatDoorFactsG
import Derived.Test.YtffgjigcdmcibaaGreatDoorFactsH
import Derived.Test.YtffgjigcdmcibaaGreatDoorRows
import Derived.Test.YtffgjigcdmcibaaGreatDoorCards
import Derived.Test.YtffgjigcdmcibaaGreatDoorTie
import Derived.ProofKit
import Derived.OpenShut
import Derived.LaidMore
import Derived.Lay
import Derived.SevenTiedAt
import Derived.Stop.Joined
set_option linter.unusedSimpArgs false
set_option linter.unusedVariables false
set_option maxRecDepth 100000
namespace Go.Proofs.YtffgjigcdmcibaaGreatDoor
open Go Ev
open Go.ChangeShapes Go.WideShapes Go.ChangeAt Go.RowKit
theorem own : ownKnob Tryz.prog.godebug = none := by kernel_rfl
theorem trods_len {H : Type} {enc : TypeId × Value → H} {P : Program} {W : World} {sp : Nat → Bool} {held : Bool} : ∀ {ts : List TypeId} {vs : List Value} {ds : List (DataW H)} {ps : List MemPlace}, DataW.TrodAll enc P W 0 sp held ts vs ds ps → ds.length = ts.length
  | [], [], [], ps, h => rfl
  | [], [], _ :: _, ps, h => by cases h
  | [], _ :: _, ds, ps, h => by cases ds <;> cases h
  | _ :: _, [], ds, ps, h => by cases ds <;> cases h
  | _ :: _, _ :: _, [], ps, h => by cases h
  | t :: ts, v :: vs, d :: ds, ps, h => by
    obtain ⟨p, q, h1, h2, _⟩ := h
    rw [List.length_cons, List.length_cons, trods_len h2]
theorem g17 : OrcOk Tryz.prog 17 (pureO hsg) := o17 mixed ph3_ok (by kernel_rfl)
theorem g9 : OrcOk Tryz.prog 9 (pureO hsg) := o9 mixed ph3_ok (by kernel_rfl)
noncomputable def ph4 : Nat → Option CF := upd (upd ph3 17 (.orc (pureO hsg))) 9 (.orc (pureO hsg))
theorem ph4_ok : PhiOk Tryz.prog ph4 := upd_ok (upd_ok ph3_ok g17) g9
theorem g15 : OrcOk Tryz.prog 15 (pureO (hcl 15)) := o15 mixed ph4_ok (by kernel_rfl) (by kernel_rfl)
theorem g16 : OrcOk Tryz.prog 16 (pureO (hcl 16)) := o16 mixed ph4_ok (by kernel_rfl) (by kernel_rfl)
theorem g18 : OrcOk Tryz.prog 18 (pureO (hcl 18)) := o18 mixed ph4_ok (by kernel_rfl) (by kernel_rfl)
theorem g19 : OrcOk Tryz.prog 19 (pureO (hcl 19)) := o19 mixed ph4_ok (by kernel_rfl) (by kernel_rfl)
theorem g20 : OrcOk Tryz.prog 20 (pureO (hcl 20)) := o20 mixed ph4_ok (by kernel_rfl) (by kernel_rfl)
theorem g21 : OrcOk Tryz.prog 21 (pureO (hcl 21)) := o21 mixed ph4_ok (by kernel_rfl) (by kernel_rfl)
theorem g22 : OrcOk Tryz.prog 22 (pureO (hcl 22)) := o22 mixed ph4_ok (by kernel_rfl) (by kernel_rfl)
theorem g23 : OrcOk Tryz.prog 23 (pureO (hcl 23)) := o23 mixed ph4_ok (by kernel_rfl) (by kernel_rfl)
noncomputable def ph5 : Nat → Option CF := (upd (upd (upd (upd (upd (upd (upd (upd ph4 15 (.orc (pureO (hcl 15)))) 16 (.orc (pureO (hcl 16)))) 18 (.orc (pureO (hcl 18)))) 19 (.orc (pureO (hcl 19)))) 20 (.orc (pureO (hcl 20)))) 21 (.orc (pureO (hcl 21)))) 22 (.orc (pureO (hcl 22)))) 23 (.orc (pureO (hcl 23))))
theorem ph5_ok : PhiOk Tryz.prog ph5 := (upd_ok (upd_ok (upd_ok (upd_ok (upd_ok (upd_ok (upd_ok (upd_ok ph4_ok g15) g16) g18) g19) g20) g21) g22) g23)
theorem g4 : OrcOk Tryz.prog 4 (pureO hA) := o4 mixed ph5_ok (by kernel_rfl) (by kernel_rfl) (by kernel_rfl) (by kernel_rfl) (by kernel_rfl) (by kernel_rfl) (by kernel_rfl) (by kernel_rfl) (by kernel_rfl) (by kernel_rfl)
theorem g5 : OrcOk Tryz.prog 5 (pureO hA) := o5 mixed ph5_ok (by kernel_rfl) (by kernel_rfl)
theorem g6 : OrcOk Tryz.prog 6 (pureO hS) := o6 mixed ph5_ok (by kernel_rfl)
noncomputable def ph6 : Nat → Option CF := upd (upd (upd ph5 4 (.orc (pureO hA))) 5 (.orc (pureO hA))) 6 (.orc (pureO hS))
theorem ph6_ok : PhiOk Tryz.prog ph6 := upd_ok (upd_ok (upd_ok ph5_ok g4) g5) g6
def tys : List Ty := [.int .i64, .arr 16 .u32]
theorem tabs_in {W : World} (hL : laidMet Tryz.prog Rows.posixArgumentsRow.laid W) (C : Nat) : tabsIn (heapF W C) tabs = true := heap_tabs (fun t ht => by cases ht)
theorem law_walk {W : World} (hL : laidMet Tryz.prog Rows.posixArgumentsRow.laid W) {C : Nat} (hC : W.heap.size ≤ C) (hk : 1000 ≤ C) {us : List V} (hR : ArgsR (heapF W C) C tys us) : Ev.Calls ph6 (heapF W C) 3 us .e C fun v _ _ => v = .b true := by
  obtain ⟨vs, x, a1, rfl, h1, vs2, y, a2, rfl, h2, rfl⟩ := hR
  obtain ⟨z, rfl, _⟩ := i64_of h1
  obtain ⟨w0, w1, w2, w3', rest, rfl, hl, ho, hb⟩ := regs_of h2
  exact w3 ph6 (by kernel_rfl) (by kernel_rfl) (by kernel_rfl) (by kernel_rfl) (g := gK) (by kernel_rfl) (fun _ _ => rfl) z w0 w1 w2 w3' rest hl ho hb
theorem law_lifted (os : Os) (started : os.Started) (H : Type) (enc : TypeId × Value → H) :
    ReturnsInHanded {} Tryz.checked os 3 .any (fun w args => (Rows.posixArgumentsSpec.pre enc Tryz.prog Tryz.f3 Rows.posixArgumentsRow.domain false w args ∧ laidMetH Tryz.prog Rows.posixArgumentsRow.laid w) ∧ sizedMet enc Tryz.prog Tryz.f3 (OpenSpec.ofChange Rows.posixArgumentsSpec) false w args)
      (Rows.posixArgumentsSpec.post enc Tryz.prog Tryz.f3 false true false false) := by
  refine returnsInHanded_of_change_and (C := Tryz.checked) (X := fun w _ => laidMetH Tryz.prog Rows.posixArgumentsRow.laid w) (fun _ _ _ hh h => h.of_heap hh) own started (by kernel_rfl) Tryz.func3
    (ChangeSpec.witness_shaped (enc := enc) (C := Tryz.checked) (os := os) (X := fun w _ => laidMetH Tryz.prog Rows.posixArgumentsRow.laid w) false (World.laidAll Tryz.prog os Rows.posixArgumentsRow.laid) #[.int .i64 0, .agg #[.int .u32 0, .int .u32 0, .int .u32 0, .int .u32 0, .int .u32 0, .int .u32 0, .int .u32 0, .int .u32 0, .int .u32 0, .int .u32 0, .int .u32 0, .int .u32 0, .int .u32 0, .int .u32 0, .int .u32 0, .int .u32 0]] 8 (World.laidAll_os _ _ _)
      (World.shaped_of_ZipB (by kernel_rfl) (by kernel_rfl)) (by kernel_rfl) (by kernel_rfl) (by kernel_rfl)
      (by rw [MakeChecks.laidMetH_plain _ _ _ (by kernel_rfl)]; exact laidMet_laidAll _ (by kernel_rfl) (by kernel_rfl))) ?_
  intro W base args ds gs before hval0 hW hc _ hL _
  have hW' := hW
  obtain ⟨p, q, hA0, hV, rfl, _, _⟩ := hW
  have hA : DataW.TrodAll enc Tryz.prog W 0 (fun _ => true) true Tryz.f3.params.toList args.toList ds p := hA0
  obtain ⟨rfl, rfl⟩ := trodVars_none hV
  rw [MakeChecks.laidMetH_plain _ _ _ (by kernel_rfl)] at hL
  have hty : tysB Tryz.prog tys Tryz.f3.params.toList = true := by kernel_rfl
  obtain ⟨C, hk0, hC0, hD⟩ := deep_C W
  obtain ⟨us, has, hbd, hR⟩ := args_of (fun _ => rfl) (C := C) hC0 hty hA (fun j t v ht hv => hval0 j t v (by rw [← Array.getElem?_toList]; exact ht) (by rw [← Array.getElem?_toList]; exact hv)) (fun _ => hD)
  have hcall := law_of mixed ph6_ok (W := W) (C := C) (f := 3) (args := us) hC0 hk0 hbd (law_walk hL hC0 hk0 hR)
  rw [has] at hcall
  have hlen := trods_len hA
  rw [Tryz.params3] at hlen
  obtain ⟨d1, d2, rfl⟩ : ∃ d1 d2, ds = [d1, d2] := by
    match ds, hlen with
    | [d1, d2], _ => exact ⟨d1, d2, rfl⟩
  refine hcall.mono fun e W' ⟨he, hk, hheap⟩ => ?_
  subst he
  refine ⟨_, rfl, _, _, _, [], p, [], hW', trodAll_mk1 (shut_bool Tryz.underlying4 true), ?_, ?_, hk _, fun h => by cases h⟩
  · exact all_kept hheap hty hA
  · exact hV
theorem ja {a b : Bool} (h : a = true) (g : b = true) : (a && b) = true := by rw [h, g]; rfl
theorem jf : joinedFacts Tryz.pinned.checked.prog 3 Tryz.f3 Rows.posixArgumentsSpec Rows.posixArgumentsRow = true := (ja (ja (ja (ja (ja (ja (ja (ja (ja (ja (ja (ja (ja (ja (ja (ja (ja (ja (ja (ja (ja (ja (ja (ja (ja (ja (ja (ja (ja (ja (ja j0 j1) j2) j3) j4) j5) j6) j7) j8) j9) j10) j11) j12) j13) j14) j15) j16) j17) j18) j19) j20) j21) j22) j23) j24) j25) j26) j27) j28) j29) j30) j31)
theorem law_holds : Rows.PosixArgumentsSaid :=
  OpenClaim.holds_of_wide 3 Tryz.f3 rfl rfl rfl rfl rfl rfl rfl ⟨rfl, rfl, rfl, rfl, rfl⟩ rfl rfl rfl rfl rfl (by kernel_rfl) Tryz.func3 jf
    (of_decide_eq_true (by kernel_rfl)) (by unfold Func.isWrapper; first | (rw [if_pos (by decide +kernel)]; kernel_rfl) | (rw [if_neg (by decide +kernel)]; exact ⟨rfl, rfl⟩))
    (fun os started H enc _ => law_lifted os started H enc)
theorem card_holds : Rows.PosixArgumentsCardSaid :=
  Claim7.holds_tied_plain_at .later [] [.data, .pinned] true (true, "ad0d039302bc8d0c006ff7e6ce8792e1089ea97685ce3351d674f054a5786b0b") true
    law_holds (fun _ h => by cases h) (by kernel_rfl) (fun _ h => by cases h) posixArguments_row_tie rfl ⟨rfl, rfl⟩ (by kernel_rfl) rfl
    (fun f fn hf hfn => by
      obtain rfl : f = 3 := Option.some.inj ((show Tryz.prog.funcNamed "steading/steadinglaw25.PosixArguments" = some 3 by kernel_rfl).symm.trans hf) |>.symm
      obtain rfl : fn = Tryz.f3 := (Option.some.inj (Tryz.func3.symm.trans hfn)).symm
      exact ⟨by kernel_rfl, fun j t ht => by
        rw [Tryz.params3] at ht
        rw [← Array.getElem?_toList] at ht
        have hm := List.mem_of_getElem? ht
        simp only [List.mem_cons, List.mem_nil_iff, or_false] at hm
        rcases hm with rfl | rfl <;> first | (show Tryz.prog.wantsStandIn _ = false; kernel_rfl) | (show _ = false; kernel_rfl) | decide +kernel⟩)
    goes_no
#print axioms card_holds
end Go.Proofs.YtffgjigcdmcibaaGreatDoor
