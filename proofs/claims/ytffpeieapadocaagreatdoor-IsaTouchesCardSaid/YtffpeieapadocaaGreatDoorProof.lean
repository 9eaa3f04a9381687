/- What is proved here: the law IsaTouches returns true for every input, as the given card says. Conditions: those of the given row (the package-level variables that it lists read as the program lays them). -/
import Derived.Test.YtffpeieapadocaaGreatDoorRun
import Derived.Test.YtffpeieapadocaaGreatDoorRows
import Derived.Test.YtffpeieapadocaaGreatDoorCards
import Derived.Test.YtffpeieapadocaaGreatDoorTie
import Derived.ProofKit
import Derived.OpenShut
import Derived.LaidMore
import Derived.Lay
import Derived.SevenTiedAt
import Derived.Stop.Joined
set_option linter.unusedSimpArgs false
set_option linter.unusedVariables false
set_option maxRecDepth 100000
namespace Go.Proofs.YtffpeieapadocaaGreatDoor
open Go Ev
open Go.ChangeShapes Go.WideShapes Go.ChangeAt Go.RowKit
theorem own : ownKnob Tryz.prog.godebug = none := by kernel_rfl
theorem mixed : Tryz.prog.follows .mixedOrders = true := by kernel_rfl
theorem trods_len {H : Type} {enc : TypeId × Value → H} {P : Program} {W : World} {sp : Nat → Bool} {held : Bool} : ∀ {ts : List TypeId} {vs : List Value} {ds : List (DataW H)} {ps : List MemPlace}, DataW.TrodAll enc P W 0 sp held ts vs ds ps → ds.length = ts.length
  | [], [], [], ps, h => rfl
  | [], [], _ :: _, ps, h => by cases h
  | [], _ :: _, ds, ps, h => by cases ds <;> cases h
  | _ :: _, [], ds, ps, h => by cases ds <;> cases h
  | _ :: _, _ :: _, [], ps, h => by cases h
  | t :: ts, v :: vs, d :: ds, ps, h => by
    obtain ⟨p, q, h1, h2, _⟩ := h
    rw [List.length_cons, List.length_cons, trods_len h2]
noncomputable def ph0 : Nat → Option CF := fun k => phi.get k
theorem ph0_ok : PhiOk Tryz.prog ph0 := phi_ok
theorem g0_25 : OrcOk Tryz.prog 25 (pureO h25) := o25 mixed ph0_ok (by kernel_rfl)
theorem g0_26 : OrcOk Tryz.prog 26 (pureO h25) := o26 mixed ph0_ok (by kernel_rfl)
theorem g0_40 : OrcOk Tryz.prog 40 (pureO h40) := o40 mixed ph0_ok (by kernel_rfl)
theorem g0_38 : OrcOk Tryz.prog 38 (pureO h38) := o38 mixed ph0_ok (by kernel_rfl)
theorem g0_57 : OrcOk Tryz.prog 57 (pureO h57) := o57 mixed ph0_ok (by kernel_rfl)
theorem g0_54 : OrcOk Tryz.prog 54 (pureO h54) := o54 mixed ph0_ok (by kernel_rfl)
theorem g0_39 : OrcOk Tryz.prog 39 (pureO h39) := o39 mixed ph0_ok (by kernel_rfl)
theorem g0_53 : OrcOk Tryz.prog 53 (pureO h53) := o53 mixed ph0_ok (by kernel_rfl)
theorem g0_28 : OrcOk Tryz.prog 28 (pureO h28) := o28 mixed ph0_ok (by kernel_rfl)
theorem g0_52 : OrcOk Tryz.prog 52 (pureO h52) := o52 mixed ph0_ok (by kernel_rfl)
theorem g0_108 : OrcOk Tryz.prog 108 (pureO h108) := o108 mixed ph0_ok (by kernel_rfl)
theorem g0_89 : OrcOk Tryz.prog 89 (pureO h89) := o89 mixed ph0_ok (by kernel_rfl)
noncomputable def ph1 : Nat → Option CF := (upd (upd (upd (upd (upd (upd (upd (upd (upd (upd (upd (upd (upd ph0 25 (.orc (pureO h25))) 26 (.orc (pureO h25))) 40 (.orc (pureO h40))) 38 (.orc (pureO h38))) 57 (.orc (pureO h57))) 54 (.orc (pureO h54))) 39 (.orc (pureO h39))) 53 (.orc (pureO h53))) 28 (.orc (pureO h28))) 52 (.orc (pureO h52))) 108 (.orc (pureO h108))) 89 (.orc (pureO h89))) 8 (.orc (knownO tabs)))
theorem ph1_ok : PhiOk Tryz.prog ph1 := (upd_ok (upd_ok (upd_ok (upd_ok (upd_ok (upd_ok (upd_ok (upd_ok (upd_ok (upd_ok (upd_ok (upd_ok (upd_ok ph0_ok g0_25) g0_26) g0_40) g0_38) g0_57) g0_54) g0_39) g0_53) g0_28) g0_52) g0_108) g0_89) (f := 8) (g := knownO tabs) (orc_closed_tabs mixed phi_ok ran))
theorem g1_24 : OrcOk Tryz.prog 24 (pureO h24) := o24 mixed ph1_ok (by kernel_rfl) (by kernel_rfl)
theorem g1_12 : OrcOk Tryz.prog 12 (pureO h12) := o12 mixed ph1_ok (by kernel_rfl) (by kernel_rfl) (by kernel_rfl) (by kernel_rfl)
theorem g1_85 : OrcOk Tryz.prog 85 (pureO h85) := o85 mixed ph1_ok (by kernel_rfl) (by kernel_rfl)
theorem g1_67 : OrcOk Tryz.prog 67 (pureO h67) := o67 mixed ph1_ok (by kernel_rfl) (by kernel_rfl)
theorem g1_27 : OrcOk Tryz.prog 27 (pureO h27) := o27 mixed ph1_ok (by kernel_rfl) (by kernel_rfl)
noncomputable def ph2 : Nat → Option CF := (upd (upd (upd (upd (upd ph1 24 (.orc (pureO h24))) 12 (.orc (pureO h12))) 85 (.orc (pureO h85))) 67 (.orc (pureO h67))) 27 (.orc (pureO h27)))
theorem ph2_ok : PhiOk Tryz.prog ph2 := (upd_ok (upd_ok (upd_ok (upd_ok (upd_ok ph1_ok g1_24) g1_12) g1_85) g1_67) g1_27)
theorem g2_37 : OrcOk Tryz.prog 37 (pureO h37) := o37 mixed ph2_ok (by kernel_rfl) (by kernel_rfl) (by kernel_rfl) (by kernel_rfl) (by kernel_rfl) (by kernel_rfl)
noncomputable def ph3 : Nat → Option CF := (upd ph2 37 (.orc (pureO h37)))
theorem ph3_ok : PhiOk Tryz.prog ph3 := (upd_ok ph2_ok g2_37)
theorem g3_20 : OrcOk Tryz.prog 20 (pureO h20) := o20 mixed ph3_ok (by kernel_rfl) (by kernel_rfl) (by kernel_rfl) (by kernel_rfl)
theorem g3_21 : OrcOk Tryz.prog 21 (pureO h21) := o21 mixed ph3_ok (by kernel_rfl) (by kernel_rfl)
noncomputable def ph4 : Nat → Option CF := (upd (upd ph3 20 (.orc (pureO h20))) 21 (.orc (pureO h21)))
theorem ph4_ok : PhiOk Tryz.prog ph4 := (upd_ok (upd_ok ph3_ok g3_20) g3_21)
def tys : List Ty := [insTy, .int .u32, askTy]
theorem tab0 (W : World) (hL : laidMet Tryz.prog Rows.isaTouchesRow.laid W) : TabAt W (4, .u8, [(.ofNat 0), (.ofNat 1), (.ofNat 28), (.ofNat 2), (.ofNat 29), (.ofNat 14), (.ofNat 24), (.ofNat 3), (.ofNat 30), (.ofNat 22), (.ofNat 20), (.ofNat 15), (.ofNat 25), (.ofNat 17), (.ofNat 4), (.ofNat 8), (.ofNat 31), (.ofNat 27), (.ofNat 13), (.ofNat 23), (.ofNat 21), (.ofNat 19), (.ofNat 16), (.ofNat 7), (.ofNat 26), (.ofNat 12), (.ofNat 18), (.ofNat 6), (.ofNat 11), (.ofNat 5), (.ofNat 10), (.ofNat 9)]) := tabAt_of (name := "math/bits.deBruijn32tab") (t := 173) (e := 5) (n := 32) (by kernel_rfl) (by kernel_rfl) (by kernel_rfl) (by kernel_rfl) (by kernel_rfl) (by kernel_rfl) (laid := Rows.isaTouchesRow.laid) (List.Mem.head _) hL
theorem tab1 (W : World) (hL : laidMet Tryz.prog Rows.isaTouchesRow.laid W) : TabAt W (5, .u8, [(.ofNat 0), (.ofNat 1), (.ofNat 56), (.ofNat 2), (.ofNat 57), (.ofNat 49), (.ofNat 28), (.ofNat 3), (.ofNat 61), (.ofNat 58), (.ofNat 42), (.ofNat 50), (.ofNat 38), (.ofNat 29), (.ofNat 17), (.ofNat 4), (.ofNat 62), (.ofNat 47), (.ofNat 59), (.ofNat 36), (.ofNat 45), (.ofNat 43), (.ofNat 51), (.ofNat 22), (.ofNat 53), (.ofNat 39), (.ofNat 33), (.ofNat 30), (.ofNat 24), (.ofNat 18), (.ofNat 12), (.ofNat 5), (.ofNat 63), (.ofNat 55), (.ofNat 48), (.ofNat 27), (.ofNat 60), (.ofNat 41), (.ofNat 37), (.ofNat 16), (.ofNat 46), (.ofNat 35), (.ofNat 44), (.ofNat 21), (.ofNat 52), (.ofNat 32), (.ofNat 23), (.ofNat 11), (.ofNat 54), (.ofNat 26), (.ofNat 40), (.ofNat 15), (.ofNat 34), (.ofNat 20), (.ofNat 31), (.ofNat 10), (.ofNat 25), (.ofNat 14), (.ofNat 19), (.ofNat 9), (.ofNat 13), (.ofNat 8), (.ofNat 7), (.ofNat 6)]) := tabAt_of (name := "math/bits.deBruijn64tab") (t := 174) (e := 5) (n := 64) (by kernel_rfl) (by kernel_rfl) (by kernel_rfl) (by kernel_rfl) (by kernel_rfl) (by kernel_rfl) (laid := Rows.isaTouchesRow.laid) (List.Mem.tail _ (List.Mem.head _)) hL
theorem tab2 (W : World) (hL : laidMet Tryz.prog Rows.isaTouchesRow.laid W) : TabAt W (3, .u64, [(.ofNat 1), (.ofNat 10), (.ofNat 100), (.ofNat 1000), (.ofNat 10000), (.ofNat 100000), (.ofNat 1000000), (.ofNat 10000000), (.ofNat 100000000), (.ofNat 1000000000), (.ofNat 10000000000), (.ofNat 100000000000), (.ofNat 1000000000000), (.ofNat 10000000000000), (.ofNat 100000000000000), (.ofNat 1000000000000000), (.ofNat 10000000000000000), (.ofNat 100000000000000000), (.ofNat 1000000000000000000), (.ofNat 10000000000000000000)]) := tabAt_of (name := "internal/strconv.uint64pow10") (t := 161) (e := 138) (n := 20) (by kernel_rfl) (by kernel_rfl) (by kernel_rfl) (by kernel_rfl) (by kernel_rfl) (by kernel_rfl) (laid := Rows.isaTouchesRow.laid) (List.Mem.tail _ (List.Mem.tail _ (List.Mem.head _))) hL
theorem tabs_in {W : World} (hL : laidMet Tryz.prog Rows.isaTouchesRow.laid W) (C : Nat) : tabsIn (heapF W C) tabs = true := heap_tabs (fun t ht => by
  simp only [tabs, List.mem_cons, List.mem_nil_iff, or_false] at ht
  rcases ht with rfl | rfl | rfl
  · exact ⟨by decide, tab0 W hL⟩
  · exact ⟨by decide, tab1 W hL⟩
  · exact ⟨by decide, tab2 W hL⟩)
theorem law_walk {W : World} (hL : laidMet Tryz.prog Rows.isaTouchesRow.laid W) {C : Nat} (hC : W.heap.size ≤ C) (hk : 1000 ≤ C) {us : List V} (hR : ArgsR (heapF W C) C tys us) : Ev.Calls ph4 (heapF W C) 5 us .e C fun v _ _ => v = .b true := by
  obtain ⟨vs, x, a1, rfl, h1, vs2, y, a2, rfl, h2, vs3, z, a3, rfl, h3, rfl⟩ := hR
  obtain ⟨q, rfl⟩ := ins_of h1
  obtain ⟨w, rfl, hw⟩ := u32_of h2
  obtain ⟨xo, s, rfl⟩ := ask_of h3
  exact l5 ph4 (by kernel_rfl) (L := tabs) (by kernel_rfl) (by kernel_rfl) (by kernel_rfl) (by kernel_rfl) (by kernel_rfl) (by kernel_rfl) (by kernel_rfl) (by kernel_rfl) (by kernel_rfl) (by kernel_rfl) (by kernel_rfl) (by kernel_rfl) (by kernel_rfl) (by kernel_rfl) (by kernel_rfl) (by kernel_rfl) (by kernel_rfl) (by kernel_rfl) (by kernel_rfl) (by kernel_rfl) (by kernel_rfl) (by kernel_rfl) (by kernel_rfl) (by kernel_rfl) (by kernel_rfl) (by kernel_rfl) q.op q.d q.a q.b q.i xo w s hw (okm_heap hC hk) (tabs_in hL C)
theorem law_lifted (os : Os) (started : os.Started) (H : Type) (enc : TypeId × Value → H) :
    ReturnsInHanded {} Tryz.checked os 5 .any (fun w args => (Rows.isaTouchesSpec.pre enc Tryz.prog Tryz.f5 Rows.isaTouchesRow.domain false w args ∧ laidMetH Tryz.prog Rows.isaTouchesRow.laid w) ∧ sizedMet enc Tryz.prog Tryz.f5 (OpenSpec.ofChange Rows.isaTouchesSpec) false w args)
      (Rows.isaTouchesSpec.post enc Tryz.prog Tryz.f5 false true false false) := by
  refine returnsInHanded_of_change_and (C := Tryz.checked) (X := fun w _ => laidMetH Tryz.prog Rows.isaTouchesRow.laid w) (fun _ _ _ hh h => h.of_heap hh) own started (by kernel_rfl) Tryz.func5
    (ChangeSpec.witness_shaped (enc := enc) (C := Tryz.checked) (os := os) (X := fun w _ => laidMetH Tryz.prog Rows.isaTouchesRow.laid w) false (World.laidAll Tryz.prog os Rows.isaTouchesRow.laid) #[.agg #[.int .i64 0, .int .i64 0, .int .i64 0, .int .i64 0, .int .i64 0], .int .u32 0, .agg #[.int .i64 0, .string ⟨#[]⟩]] 8 (World.laidAll_os _ _ _)
      (World.shaped_of_ZipB (by kernel_rfl) (by kernel_rfl)) (by kernel_rfl) (by kernel_rfl) (by kernel_rfl)
      (by rw [MakeChecks.laidMetH_plain _ _ _ (by kernel_rfl)]; exact laidMet_laidAll _ (by kernel_rfl) (by kernel_rfl))) ?_
  intro W base args ds gs before hval0 hW hc _ hL _
  have hW' := hW
  obtain ⟨p, q, hA0, hV, rfl, _, _⟩ := hW
  have hA : DataW.TrodAll enc Tryz.prog W 0 (fun _ => true) true Tryz.f5.params.toList args.toList ds p := hA0
  obtain ⟨rfl, rfl⟩ := trodVars_none hV
  rw [MakeChecks.laidMetH_plain _ _ _ (by kernel_rfl)] at hL
  have hty : tysB Tryz.prog tys Tryz.f5.params.toList = true := by kernel_rfl
  obtain ⟨us, has, hbd, hR⟩ := args_of (C := max 1000 W.heap.size) (Nat.le_max_right _ _) hty hA (fun j t v ht hv => hval0 j t v (by rw [← Array.getElem?_toList]; exact ht) (by rw [← Array.getElem?_toList]; exact hv)) (fun h => absurd h (by decide))
  have hcall := law_of mixed ph4_ok (W := W) (C := max 1000 W.heap.size) (f := 5) (args := us) (Nat.le_max_right _ _) (Nat.le_max_left _ _) hbd (law_walk hL (Nat.le_max_right _ _) (Nat.le_max_left _ _) hR)
  rw [has] at hcall
  have hlen := trods_len hA
  rw [Tryz.params5] at hlen
  obtain ⟨d1, d2, d3, rfl⟩ : ∃ d1 d2 d3, ds = [d1, d2, d3] := by
    match ds, hlen with
    | [d1, d2, d3], _ => exact ⟨d1, d2, d3, rfl⟩
  refine hcall.mono fun e W' ⟨he, hk, hheap⟩ => ?_
  subst he
  refine ⟨_, rfl, _, _, _, [], p, [], hW', trodAll_mk1 (shut_bool Tryz.underlying4 true), ?_, ?_, hk _, fun h => by cases h⟩
  · exact all_kept hheap hty hA
  · exact hV
theorem law_holds : Rows.IsaTouchesSaid :=
  OpenClaim.holds_of_wide 5 Tryz.f5 rfl rfl rfl rfl rfl rfl rfl ⟨rfl, rfl, rfl, rfl, rfl⟩ rfl rfl rfl rfl rfl (by kernel_rfl) Tryz.func5 (by kernel_rfl)
    (of_decide_eq_true (by kernel_rfl)) (by unfold Func.isWrapper; first | (rw [if_pos (by decide +kernel)]; kernel_rfl) | (rw [if_neg (by decide +kernel)]; exact ⟨rfl, rfl⟩))
    (fun os started H enc _ => law_lifted os started H enc)
theorem card_holds : Rows.IsaTouchesCardSaid :=
  Claim7.holds_tied_plain_at .later [] [.data, .data, .data, .sentinel, .sentinel] true (true, "e21abc8748d6c8db5597deb8270235c749e0fadeefde202f2a1a4dcc8ddbd682") true
    law_holds (fun _ h => by cases h) (by kernel_rfl) (fun _ h => by cases h) isaTouches_row_tie rfl ⟨rfl, rfl⟩ (by kernel_rfl) rfl
    (fun f fn hf hfn => by
      obtain rfl : f = 5 := Option.some.inj ((show Tryz.prog.funcNamed "steading/steadinglaw03.IsaTouches" = some 5 by kernel_rfl).symm.trans hf) |>.symm
      obtain rfl : fn = Tryz.f5 := (Option.some.inj (Tryz.func5.symm.trans hfn)).symm
      exact ⟨by kernel_rfl, fun j t ht => by
        rw [Tryz.params5] at ht
        rw [← Array.getElem?_toList] at ht
        have hm := List.mem_of_getElem? ht
        simp only [List.mem_cons, List.mem_nil_iff, or_false] at hm
        rcases hm with rfl | rfl | rfl <;> first | (show Tryz.prog.wantsStandIn _ = false; kernel_rfl) | (show _ = false; kernel_rfl) | decide +kernel⟩)
    (by kernel_rfl)
#print axioms card_holds
end Go.Proofs.YtffpeieapadocaaGreatDoor
