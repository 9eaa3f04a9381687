/- What is proved here: the law IsaTexts returns true for every input, as the given card says. Conditions: those of the given row (the package-level variables that it lists read as the program lays them). -/
import Derived.Test.YtffpeieapadocaaGreatDoorRun
import Derived.Test.YtffpeieapadocaaGreatDoorRows
import Derived.Test.YtffpeieapadocaaGreatDoorCards
import Derived.Test.YtffpeieapadocaaGreatDoorTie
import Derived.ProofKit
import Derived.OpenShut
import Derived.LaidMore
import Derived.Lay
import Derived.SevenTiedAt
import Derived.Stop.Joined
set_option linter.unusedSimpArgs false
set_option linter.unusedVariables false
set_option maxRecDepth 100000
namespace Go.Proofs.YtffpeieapadocaaGreatDoor
open Go Ev
open Go.ChangeShapes Go.WideShapes Go.ChangeAt Go.RowKit
theorem own : ownKnob Tryz.prog.godebug = none := by kernel_rfl
theorem mixed : Tryz.prog.follows .mixedOrders = true := by kernel_rfl
theorem trods_len {H : Type} {enc : TypeId × Value → H} {P : Program} {W : World} {sp : Nat → Bool} {held : Bool} : ∀ {ts : List TypeId} {vs : List Value} {ds : List (DataW H)} {ps : List MemPlace}, DataW.TrodAll enc P W 0 sp held ts vs ds ps → ds.length = ts.length
  | [], [], [], ps, h => rfl
  | [], [], _ :: _, ps, h => by cases h
  | [], _ :: _, ds, ps, h => by cases ds <;> cases h
  | _ :: _, [], ds, ps, h => by cases ds <;> cases h
  | _ :: _, _ :: _, [], ps, h => by cases h
  | t :: ts, v :: vs, d :: ds, ps, h => by
    obtain ⟨p, q, h1, h2, _⟩ := h
    rw [List.length_cons, List.length_cons, trods_len h2]
theorem tabs_self : TabsSelf tabs := fun ty => by kernel_rfl
noncomputable def ph0 : Nat → Option CF := fun k => phi.get k
theorem ph0_ok : PhiOk Tryz.prog ph0 := phi_ok
theorem g0_25 : OrcOk Tryz.prog 25 (pureO h25) := o25 mixed ph0_ok (by kernel_rfl)
theorem g0_26 : OrcOk Tryz.prog 26 (pureO h25) := o26 mixed ph0_ok (by kernel_rfl)
theorem g0_40 : OrcOk Tryz.prog 40 (pureO h40) := o40 mixed ph0_ok (by kernel_rfl)
theorem g0_38 : OrcOk Tryz.prog 38 (pureO h38) := o38 mixed ph0_ok (by kernel_rfl)
theorem g0_57 : OrcOk Tryz.prog 57 (pureO h57) := o57 mixed ph0_ok (by kernel_rfl)
theorem g0_54 : OrcOk Tryz.prog 54 (pureO h54) := o54 mixed ph0_ok (by kernel_rfl)
theorem g0_39 : OrcOk Tryz.prog 39 (pureO h39) := o39 mixed ph0_ok (by kernel_rfl)
theorem g0_53 : OrcOk Tryz.prog 53 (pureO h53) := o53 mixed ph0_ok (by kernel_rfl)
theorem g0_11 : OrcOk Tryz.prog 11 (pureO h11) := o11 mixed ph0_ok (by kernel_rfl)
theorem g0_52 : OrcOk Tryz.prog 52 (pureO h52) := o52b mixed ph0_ok (by kernel_rfl)
theorem g0_96 : OrcOk Tryz.prog 96 (pureO h96) := o96 mixed ph0_ok (by kernel_rfl)
theorem g0_78 : OrcOk Tryz.prog 78 (pureO h78) := o78 mixed ph0_ok (by kernel_rfl)
theorem g0_89 : OrcOk Tryz.prog 89 (pureO h89) := o89b mixed ph0_ok (by kernel_rfl)
theorem g0_109 : OrcOk Tryz.prog 109 (pureO h109) := o109 mixed ph0_ok (by kernel_rfl)
theorem g0_110 : OrcOk Tryz.prog 110 (pureO h110) := o110 mixed ph0_ok (by kernel_rfl)
theorem g0_90 : OrcOk Tryz.prog 90 (pureO h90) := o90 mixed ph0_ok (by kernel_rfl)
theorem g0_115 : OrcOk Tryz.prog 115 (pureO h115) := o115 mixed ph0_ok (by kernel_rfl)
theorem g0_101 : OrcOk Tryz.prog 101 (pureO h101) := o101 mixed ph0_ok (by kernel_rfl)
noncomputable def ph1 : Nat → Option CF := (upd (upd (upd (upd (upd (upd (upd (upd (upd (upd (upd (upd (upd (upd (upd (upd (upd (upd (upd ph0 25 (.orc (pureO h25))) 26 (.orc (pureO h25))) 40 (.orc (pureO h40))) 38 (.orc (pureO h38))) 57 (.orc (pureO h57))) 54 (.orc (pureO h54))) 39 (.orc (pureO h39))) 53 (.orc (pureO h53))) 11 (.orc (pureO h11))) 52 (.orc (pureO h52))) 96 (.orc (pureO h96))) 78 (.orc (pureO h78))) 89 (.orc (pureO h89))) 109 (.orc (pureO h109))) 110 (.orc (pureO h110))) 90 (.orc (pureO h90))) 115 (.orc (pureO h115))) 101 (.orc (pureO h101))) 8 (.orc (knownO tabs)))
theorem ph1_ok : PhiOk Tryz.prog ph1 := (upd_ok (upd_ok (upd_ok (upd_ok (upd_ok (upd_ok (upd_ok (upd_ok (upd_ok (upd_ok (upd_ok (upd_ok (upd_ok (upd_ok (upd_ok (upd_ok (upd_ok (upd_ok (upd_ok ph0_ok g0_25) g0_26) g0_40) g0_38) g0_57) g0_54) g0_39) g0_53) g0_11) g0_52) g0_96) g0_78) g0_89) g0_109) g0_110) g0_90) g0_115) g0_101) (f := 8) (g := knownO tabs) (orc_closed_tabs mixed phi_ok ran))
theorem g1_24 : OrcOk Tryz.prog 24 (pureO h24) := o24 mixed ph1_ok (by kernel_rfl) (by kernel_rfl)
theorem g1_12 : OrcOk Tryz.prog 12 (pureO h37) := o12b mixed ph1_ok (by kernel_rfl) (by kernel_rfl) (by kernel_rfl) (by kernel_rfl)
theorem g1_72 : OrcOk Tryz.prog 72 (pureO h72) := o72 mixed ph1_ok (by kernel_rfl) (by kernel_rfl)
theorem g1_65 : OrcOk Tryz.prog 65 (pureO h65) := o65 mixed ph1_ok (by kernel_rfl) (by kernel_rfl)
theorem g1_91 : OrcOk Tryz.prog 91 (pureT tabs h91) := o91 mixed ph1_ok (by kernel_rfl) (by kernel_rfl) (by kernel_rfl) (by kernel_rfl) tabs_self (List.mem_of_find?_eq_some (p := fun t => Nat.beq t.1 3) (by kernel_rfl))
noncomputable def ph2 : Nat → Option CF := (upd (upd (upd (upd (upd ph1 24 (.orc (pureO h24))) 12 (.orc (pureO h37))) 72 (.orc (pureO h72))) 65 (.orc (pureO h65))) 91 (.orc (pureT tabs h91)))
theorem ph2_ok : PhiOk Tryz.prog ph2 := (upd_ok (upd_ok (upd_ok (upd_ok (upd_ok ph1_ok g1_24) g1_12) g1_72) g1_65) g1_91)
theorem g2_37 : OrcOk Tryz.prog 37 (pureO h37) := o37 mixed ph2_ok (by kernel_rfl) (by kernel_rfl) (by kernel_rfl) (by kernel_rfl) (by kernel_rfl) (by kernel_rfl)
theorem g2_62 : OrcOk Tryz.prog 62 (pureO h62) := o62 mixed ph2_ok (by kernel_rfl) (by kernel_rfl)
theorem g2_47 : OrcOk Tryz.prog 47 (pureO h65) := o47 mixed ph2_ok (by kernel_rfl) (by kernel_rfl)
theorem g2_69 : OrcOk Tryz.prog 69 (pureT tabs h69) := o69 mixed ph2_ok (by kernel_rfl) (by kernel_rfl) (by kernel_rfl) (by kernel_rfl) tabs_self
noncomputable def ph3 : Nat → Option CF := (upd (upd (upd (upd ph2 37 (.orc (pureO h37))) 62 (.orc (pureO h62))) 47 (.orc (pureO h65))) 69 (.orc (pureT tabs h69)))
theorem ph3_ok : PhiOk Tryz.prog ph3 := (upd_ok (upd_ok (upd_ok (upd_ok ph2_ok g2_37) g2_62) g2_47) g2_69)
theorem g3_44 : OrcOk Tryz.prog 44 (pureO h62) := o44 mixed ph3_ok (by kernel_rfl) (by kernel_rfl)
theorem g3_58 : OrcOk Tryz.prog 58 (pureT tabs h58) := o58 mixed ph3_ok (by kernel_rfl) (by kernel_rfl) tabs_self
noncomputable def ph4 : Nat → Option CF := (upd (upd ph3 44 (.orc (pureO h62))) 58 (.orc (pureT tabs h58)))
theorem ph4_ok : PhiOk Tryz.prog ph4 := (upd_ok (upd_ok ph3_ok g3_44) g3_58)
theorem g4_41 : OrcOk Tryz.prog 41 (pureT tabs h58) := o41 mixed ph4_ok (by kernel_rfl) (by kernel_rfl) tabs_self
noncomputable def ph5 : Nat → Option CF := (upd ph4 41 (.orc (pureT tabs h58)))
theorem ph5_ok : PhiOk Tryz.prog ph5 := (upd_ok ph4_ok g4_41)
theorem g5_15 : OrcOk Tryz.prog 15 (pureT tabs h15) := o15 mixed ph5_ok (by kernel_rfl) (by kernel_rfl) (by kernel_rfl) (by kernel_rfl) (by kernel_rfl) (by kernel_rfl) (by kernel_rfl) (by kernel_rfl) (by kernel_rfl) (by kernel_rfl) (by kernel_rfl) (by kernel_rfl) tabs_self
theorem g5_18 : OrcOk Tryz.prog 18 (pureT tabs h18) := o18 mixed ph5_ok (by kernel_rfl) (by kernel_rfl) (by kernel_rfl) (by kernel_rfl) (by kernel_rfl) tabs_self
noncomputable def ph6 : Nat → Option CF := (upd (upd ph5 15 (.orc (pureT tabs h15))) 18 (.orc (pureT tabs h18)))
theorem ph6_ok : PhiOk Tryz.prog ph6 := (upd_ok (upd_ok ph5_ok g5_15) g5_18)
def tys : List Ty := [insTy, .str]
theorem tab0 (W : World) (hL : laidMet Tryz.prog Rows.isaTextsRow.laid W) : TabAt W (4, .u8, [(.ofNat 0), (.ofNat 1), (.ofNat 28), (.ofNat 2), (.ofNat 29), (.ofNat 14), (.ofNat 24), (.ofNat 3), (.ofNat 30), (.ofNat 22), (.ofNat 20), (.ofNat 15), (.ofNat 25), (.ofNat 17), (.ofNat 4), (.ofNat 8), (.ofNat 31), (.ofNat 27), (.ofNat 13), (.ofNat 23), (.ofNat 21), (.ofNat 19), (.ofNat 16), (.ofNat 7), (.ofNat 26), (.ofNat 12), (.ofNat 18), (.ofNat 6), (.ofNat 11), (.ofNat 5), (.ofNat 10), (.ofNat 9)]) := tabAt_of (name := "math/bits.deBruijn32tab") (t := 173) (e := 5) (n := 32) (by kernel_rfl) (by kernel_rfl) (by kernel_rfl) (by kernel_rfl) (by kernel_rfl) (by kernel_rfl) (laid := Rows.isaTextsRow.laid) (List.Mem.head _) hL
theorem tab1 (W : World) (hL : laidMet Tryz.prog Rows.isaTextsRow.laid W) : TabAt W (5, .u8, [(.ofNat 0), (.ofNat 1), (.ofNat 56), (.ofNat 2), (.ofNat 57), (.ofNat 49), (.ofNat 28), (.ofNat 3), (.ofNat 61), (.ofNat 58), (.ofNat 42), (.ofNat 50), (.ofNat 38), (.ofNat 29), (.ofNat 17), (.ofNat 4), (.ofNat 62), (.ofNat 47), (.ofNat 59), (.ofNat 36), (.ofNat 45), (.ofNat 43), (.ofNat 51), (.ofNat 22), (.ofNat 53), (.ofNat 39), (.ofNat 33), (.ofNat 30), (.ofNat 24), (.ofNat 18), (.ofNat 12), (.ofNat 5), (.ofNat 63), (.ofNat 55), (.ofNat 48), (.ofNat 27), (.ofNat 60), (.ofNat 41), (.ofNat 37), (.ofNat 16), (.ofNat 46), (.ofNat 35), (.ofNat 44), (.ofNat 21), (.ofNat 52), (.ofNat 32), (.ofNat 23), (.ofNat 11), (.ofNat 54), (.ofNat 26), (.ofNat 40), (.ofNat 15), (.ofNat 34), (.ofNat 20), (.ofNat 31), (.ofNat 10), (.ofNat 25), (.ofNat 14), (.ofNat 19), (.ofNat 9), (.ofNat 13), (.ofNat 8), (.ofNat 7), (.ofNat 6)]) := tabAt_of (name := "math/bits.deBruijn64tab") (t := 174) (e := 5) (n := 64) (by kernel_rfl) (by kernel_rfl) (by kernel_rfl) (by kernel_rfl) (by kernel_rfl) (by kernel_rfl) (laid := Rows.isaTextsRow.laid) (List.Mem.tail _ (List.Mem.head _)) hL
theorem tab2 (W : World) (hL : laidMet Tryz.prog Rows.isaTextsRow.laid W) : TabAt W (3, .u64, [(.ofNat 1), (.ofNat 10), (.ofNat 100), (.ofNat 1000), (.ofNat 10000), (.ofNat 100000), (.ofNat 1000000), (.ofNat 10000000), (.ofNat 100000000), (.ofNat 1000000000), (.ofNat 10000000000), (.ofNat 100000000000), (.ofNat 1000000000000), (.ofNat 10000000000000), (.ofNat 100000000000000), (.ofNat 1000000000000000), (.ofNat 10000000000000000), (.ofNat 100000000000000000), (.ofNat 1000000000000000000), (.ofNat 10000000000000000000)]) := tabAt_of (name := "internal/strconv.uint64pow10") (t := 161) (e := 138) (n := 20) (by kernel_rfl) (by kernel_rfl) (by kernel_rfl) (by kernel_rfl) (by kernel_rfl) (by kernel_rfl) (laid := Rows.isaTextsRow.laid) (List.Mem.tail _ (List.Mem.tail _ (List.Mem.head _))) hL
theorem star_ : "*" ++ "errors.errorString" = "*errors.errorString" := by decide
theorem row_es (u : TypeId) (h : Tryz.prog.typeName? 3 u = some "*errors.errorString") : u = 167 := typeName_ptr_named (nm := "errors.errorString") (by rw [star_]; kernel_rfl) (by kernel_rfl) (by decide) u (by rw [star_]; exact h)
theorem err1 {W : World} (hL : laidMet Tryz.prog Rows.isaTextsRow.laid W) {C : Nat} (hC : W.heap.size ≤ C) : ErrVar (heapF W C) 1 := errVar_of (n := "strconv.ErrSyntax") hC hL.tail.tail.tail.tail (by kernel_rfl) (show (Tryz.prog.globals[1]?).map (·.type) = some 90 by kernel_rfl) Tryz.underlying90 row_es Tryz.underlying167 Tryz.underlying169 rfl rfl Tryz.underlying9 (by kernel_rfl) (by kernel_rfl)
theorem err2 {W : World} (hL : laidMet Tryz.prog Rows.isaTextsRow.laid W) {C : Nat} (hC : W.heap.size ≤ C) : ErrVar (heapF W C) 2 := errVar_of (n := "strconv.ErrRange") hC hL.tail.tail.tail (by kernel_rfl) (show (Tryz.prog.globals[2]?).map (·.type) = some 90 by kernel_rfl) Tryz.underlying90 row_es Tryz.underlying167 Tryz.underlying169 rfl rfl Tryz.underlying9 (by kernel_rfl) (by kernel_rfl)
theorem tabs_in {W : World} (hL : laidMet Tryz.prog Rows.isaTextsRow.laid W) (C : Nat) : tabsIn (heapF W C) tabs = true := heap_tabs (fun t ht => by
  simp only [tabs, List.mem_cons, List.mem_nil_iff, or_false] at ht
  rcases ht with rfl | rfl | rfl
  · exact ⟨by decide, tab0 W hL⟩
  · exact ⟨by decide, tab1 W hL⟩
  · exact ⟨by decide, tab2 W hL⟩)
theorem law_walk {W : World} (hL : laidMet Tryz.prog Rows.isaTextsRow.laid W) {C : Nat} (hC : W.heap.size ≤ C) (hk : 1000 ≤ C) {us : List V} (hR : ArgsR (heapF W C) C tys us) : Ev.Calls ph6 (heapF W C) 4 us .e C fun v _ _ => v = .b true := by
  obtain ⟨vs, x, a1, rfl, h1, vs2, y, a2, rfl, h2, rfl⟩ := hR
  obtain ⟨q, rfl⟩ := ins_of h1
  obtain ⟨s, rfl⟩ := str_of4 h2
  exact l4 ph6 (by kernel_rfl) (L := tabs) (by kernel_rfl) (by kernel_rfl) (by kernel_rfl) (by kernel_rfl) (by kernel_rfl) (by kernel_rfl) (by kernel_rfl) (by kernel_rfl) (by kernel_rfl) (by kernel_rfl) (by kernel_rfl) (by kernel_rfl) (by kernel_rfl) (by kernel_rfl) (by kernel_rfl) (by kernel_rfl) (by kernel_rfl) (by kernel_rfl) (by kernel_rfl) (by kernel_rfl) (by kernel_rfl) (by kernel_rfl) (by kernel_rfl) (by kernel_rfl) (by kernel_rfl) (by kernel_rfl) (by kernel_rfl) (by kernel_rfl) (by kernel_rfl) (by kernel_rfl) (by kernel_rfl) q.op q.d q.a q.b q.i s (okm_heap hC hk) (tabs_in hL C) (err1 hL hC) (err2 hL hC) (fun g _ => rfl)
theorem law_lifted (os : Os) (started : os.Started) (H : Type) (enc : TypeId × Value → H) :
    ReturnsInHanded {} Tryz.checked os 4 .any (fun w args => (Rows.isaTextsSpec.pre enc Tryz.prog Tryz.f4 Rows.isaTextsRow.domain false w args ∧ laidMetH Tryz.prog Rows.isaTextsRow.laid w) ∧ sizedMet enc Tryz.prog Tryz.f4 (OpenSpec.ofChange Rows.isaTextsSpec) false w args)
      (Rows.isaTextsSpec.post enc Tryz.prog Tryz.f4 false true false false) := by
  refine returnsInHanded_of_change_and (C := Tryz.checked) (X := fun w _ => laidMetH Tryz.prog Rows.isaTextsRow.laid w) (fun _ _ _ hh h => h.of_heap hh) own started (by kernel_rfl) Tryz.func4
    (ChangeSpec.witness_shaped (enc := enc) (C := Tryz.checked) (os := os) (X := fun w _ => laidMetH Tryz.prog Rows.isaTextsRow.laid w) false (World.laidAll Tryz.prog os Rows.isaTextsRow.laid) #[.agg #[.int .i64 0, .int .i64 0, .int .i64 0, .int .i64 0, .int .i64 0], .string ⟨#[]⟩] 8 (World.laidAll_os _ _ _)
      (World.shaped_of_ZipB (by kernel_rfl) (by kernel_rfl)) (by kernel_rfl) (by kernel_rfl) (by kernel_rfl)
      (by rw [MakeChecks.laidMetH_plain _ _ _ (by kernel_rfl)]; exact laidMet_laidAll _ (by kernel_rfl) (by kernel_rfl))) ?_
  intro W base args ds gs before hval0 hW hc _ hL _
  have hW' := hW
  obtain ⟨p, q, hA0, hV, rfl, _, _⟩ := hW
  have hA : DataW.TrodAll enc Tryz.prog W 0 (fun _ => true) true Tryz.f4.params.toList args.toList ds p := hA0
  obtain ⟨rfl, rfl⟩ := trodVars_none hV
  rw [MakeChecks.laidMetH_plain _ _ _ (by kernel_rfl)] at hL
  have hty : tysB Tryz.prog tys Tryz.f4.params.toList = true := by kernel_rfl
  obtain ⟨us, has, hbd, hR⟩ := args_of (C := max 1000 W.heap.size) (Nat.le_max_right _ _) hty hA (fun j t v ht hv => hval0 j t v (by rw [← Array.getElem?_toList]; exact ht) (by rw [← Array.getElem?_toList]; exact hv)) (fun h => absurd h (by decide))
  have hcall := law_of mixed ph6_ok (W := W) (C := max 1000 W.heap.size) (f := 4) (args := us) (Nat.le_max_right _ _) (Nat.le_max_left _ _) hbd (law_walk hL (Nat.le_max_right _ _) (Nat.le_max_left _ _) hR)
  rw [has] at hcall
  have hlen := trods_len hA
  rw [Tryz.params4] at hlen
  obtain ⟨d1, d2, rfl⟩ : ∃ d1 d2, ds = [d1, d2] := by
    match ds, hlen with
    | [d1, d2], _ => exact ⟨d1, d2, rfl⟩
  refine hcall.mono fun e W' ⟨he, hk, hheap⟩ => ?_
  subst he
  refine ⟨_, rfl, _, _, _, [], p, [], hW', trodAll_mk1 (shut_bool Tryz.underlying4 true), ?_, ?_, hk _, fun h => by cases h⟩
  · exact all_kept hheap hty hA
  · exact hV
theorem law_holds : Rows.IsaTextsSaid :=
  OpenClaim.holds_of_wide 4 Tryz.f4 rfl rfl rfl rfl rfl rfl rfl ⟨rfl, rfl, rfl, rfl, rfl⟩ rfl rfl rfl rfl rfl (by kernel_rfl) Tryz.func4 (by kernel_rfl)
    (of_decide_eq_true (by kernel_rfl)) (by unfold Func.isWrapper; first | (rw [if_pos (by decide +kernel)]; kernel_rfl) | (rw [if_neg (by decide +kernel)]; exact ⟨rfl, rfl⟩))
    (fun os started H enc _ => law_lifted os started H enc)
theorem card_holds : Rows.IsaTextsCardSaid :=
  Claim7.holds_tied_plain_at .later [] [.data, .data, .data, .sentinel, .sentinel] true (true, "e21abc8748d6c8db5597deb8270235c749e0fadeefde202f2a1a4dcc8ddbd682") true
    law_holds (fun _ h => by cases h) (by kernel_rfl) (fun _ h => by cases h) isaTexts_row_tie rfl ⟨rfl, rfl⟩ (by kernel_rfl) rfl
    (fun f fn hf hfn => by
      obtain rfl : f = 4 := Option.some.inj ((show Tryz.prog.funcNamed "steading/steadinglaw03.IsaTexts" = some 4 by kernel_rfl).symm.trans hf) |>.symm
      obtain rfl : fn = Tryz.f4 := (Option.some.inj (Tryz.func4.symm.trans hfn)).symm
      exact ⟨by kernel_rfl, fun j t ht => by
        rw [Tryz.params4] at ht
        rw [← Array.getElem?_toList] at ht
        have hm := List.mem_of_getElem? ht
        simp only [List.mem_cons, List.mem_nil_iff, or_false] at hm
        rcases hm with rfl | rfl <;> first | (show Tryz.prog.wantsStandIn _ = false; kernel_rfl) | (show _ = false; kernel_rfl) | decide +kernel⟩)
    (by kernel_rfl)
#print axioms card_holds
end Go.Proofs.YtffpeieapadocaaGreatDoor
