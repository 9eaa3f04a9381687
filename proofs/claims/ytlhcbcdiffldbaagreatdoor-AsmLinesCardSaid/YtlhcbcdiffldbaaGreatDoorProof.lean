/- What is proved here: the law AsmLines returns true for every input, as the given card says. Conditions: those of the given row (the package-level variables that it lists read as the program lays them). -/
import Derived.Test.YtlhcbcdiffldbaaGreatDoorRun
import Derived.Test.YtlhcbcdiffldbaaGreatDoorRows
import Derived.Test.YtlhcbcdiffldbaaGreatDoorCards
import Derived.Test.YtlhcbcdiffldbaaGreatDoorTie
import Derived.ProofKit
import Derived.OpenShut
import Derived.LaidMore
import Derived.Lay
import Derived.SevenTiedAt
import Derived.Stop.Joined
set_option linter.unusedSimpArgs false
set_option linter.unusedVariables false
set_option maxRecDepth 100000
namespace Go.Proofs.YtlhcbcdiffldbaaGreatDoor
open Go Ev
open Go.ChangeShapes Go.WideShapes Go.ChangeAt Go.RowKit
theorem own : ownKnob Tryz.prog.godebug = none := by kernel_rfl
theorem mixed : Tryz.prog.follows .mixedOrders = true := by kernel_rfl
theorem trods_len {H : Type} {enc : TypeId × Value → H} {P : Program} {W : World} {sp : Nat → Bool} {held : Bool} : ∀ {ts : List TypeId} {vs : List Value} {ds : List (DataW H)} {ps : List MemPlace}, DataW.TrodAll enc P W 0 sp held ts vs ds ps → ds.length = ts.length
  | [], [], [], ps, h => rfl
  | [], [], _ :: _, ps, h => by cases h
  | [], _ :: _, ds, ps, h => by cases ds <;> cases h
  | _ :: _, [], ds, ps, h => by cases ds <;> cases h
  | _ :: _, _ :: _, [], ps, h => by cases h
  | t :: ts, v :: vs, d :: ds, ps, h => by
    obtain ⟨p, q, h1, h2, _⟩ := h
    rw [List.length_cons, List.length_cons, trods_len h2]
noncomputable def ph0 : Nat → Option CF := fun k => phi.get k
theorem ph0_ok : PhiOk Tryz.prog ph0 := phi_ok
theorem g0_22 : OrcOk Tryz.prog 22 (pureO h22) := o22 mixed ph0_ok (by kernel_rfl)
theorem g0_42 : OrcOk Tryz.prog 42 (pureO h42) := o42 mixed ph0_ok (by kernel_rfl)
theorem g0_72 : OrcOk Tryz.prog 72 (pureO h72) := o72 mixed ph0_ok (by kernel_rfl)
theorem g0_12 : OrcOk Tryz.prog 12 (pureO h12) := o12 mixed ph0_ok (by kernel_rfl)
theorem g0_19 : OrcOk Tryz.prog 19 (pureO h19) := o19 mixed ph0_ok (by kernel_rfl)
theorem g0_65 : OrcOk Tryz.prog 65 (pureO h65) := o65 mixed ph0_ok (by kernel_rfl)
theorem g0_106 : OrcOk Tryz.prog 106 (pureO h106) := o106 mixed ph0_ok (by kernel_rfl)
theorem g0_102 : OrcOk Tryz.prog 102 (pureO h102) := o102 mixed ph0_ok (by kernel_rfl)
theorem g0_9 : OrcOk Tryz.prog 9 (pureO h9) := o9 mixed ph0_ok (by kernel_rfl)
theorem g0_13 : OrcOk Tryz.prog 13 (pureO h9) := o13 mixed ph0_ok (by kernel_rfl)
theorem g0_11 : OrcOk Tryz.prog 11 (pureO h10) := o11 mixed ph0_ok (by kernel_rfl) (by kernel_rfl)
noncomputable def ph1 : Nat → Option CF := (upd (upd (upd (upd (upd (upd (upd (upd (upd (upd (upd (upd ph0 22 (.orc (pureO h22))) 42 (.orc (pureO h42))) 72 (.orc (pureO h72))) 12 (.orc (pureO h12))) 19 (.orc (pureO h19))) 65 (.orc (pureO h65))) 106 (.orc (pureO h106))) 102 (.orc (pureO h102))) 9 (.orc (pureO h9))) 13 (.orc (pureO h9))) 11 (.orc (pureO h10))) 4 (.orc (knownE tabs [1, 2])))
theorem ph1_ok : PhiOk Tryz.prog ph1 := (upd_ok (upd_ok (upd_ok (upd_ok (upd_ok (upd_ok (upd_ok (upd_ok (upd_ok (upd_ok (upd_ok (upd_ok ph0_ok g0_22) g0_42) g0_72) g0_12) g0_19) g0_65) g0_106) g0_102) g0_9) g0_13) g0_11) (f := 4) (g := knownE tabs [1, 2]) (orc_closed_errs mixed phi_ok (n := 1002) rfl ran))
theorem g1_73 : OrcOk Tryz.prog 73 (pureO h73) := o73 mixed ph1_ok (by kernel_rfl) (by kernel_rfl)
theorem g1_64 : OrcOk Tryz.prog 64 (pureO h64) := o64 mixed ph1_ok (by kernel_rfl) (by kernel_rfl)
noncomputable def ph2 : Nat → Option CF := (upd (upd ph1 73 (.orc (pureO h73))) 64 (.orc (pureO h64)))
theorem ph2_ok : PhiOk Tryz.prog ph2 := (upd_ok (upd_ok ph1_ok g1_73) g1_64)
theorem g2_43 : OrcOk Tryz.prog 43 (pureO h43) := o43 mixed ph2_ok (by kernel_rfl) (by kernel_rfl)
theorem g2_39 : OrcOk Tryz.prog 39 (pureO h39) := o39 mixed ph2_ok (by kernel_rfl) (by kernel_rfl)
noncomputable def ph3 : Nat → Option CF := (upd (upd ph2 43 (.orc (pureO h43))) 39 (.orc (pureO h39)))
theorem ph3_ok : PhiOk Tryz.prog ph3 := (upd_ok (upd_ok ph2_ok g2_43) g2_39)
theorem g3_21 : OrcOk Tryz.prog 21 (pureO h21) := o21 mixed ph3_ok (by kernel_rfl) (by kernel_rfl)
theorem g3_17 : OrcOk Tryz.prog 17 (pureO h39) := o17 mixed ph3_ok (by kernel_rfl) (by kernel_rfl)
noncomputable def ph4 : Nat → Option CF := (upd (upd ph3 21 (.orc (pureO h21))) 17 (.orc (pureO h39)))
theorem ph4_ok : PhiOk Tryz.prog ph4 := (upd_ok (upd_ok ph3_ok g3_21) g3_17)
theorem g4_10 : OrcOk Tryz.prog 10 (pureO h10) := o10 mixed ph4_ok (by kernel_rfl) (by kernel_rfl) (by kernel_rfl) (by kernel_rfl) (by kernel_rfl) (by kernel_rfl)
noncomputable def ph5 : Nat → Option CF := (upd ph4 10 (.orc (pureO h10)))
theorem ph5_ok : PhiOk Tryz.prog ph5 := (upd_ok ph4_ok g4_10)
def tys : List Ty := [.str, .str, .int .i64]
theorem tab0 (W : World) (hL : laidMet Tryz.prog Rows.asmLinesRow.laid W) : TabAt W (4, .u8, [(.ofNat 0), (.ofNat 1), (.ofNat 28), (.ofNat 2), (.ofNat 29), (.ofNat 14), (.ofNat 24), (.ofNat 3), (.ofNat 30), (.ofNat 22), (.ofNat 20), (.ofNat 15), (.ofNat 25), (.ofNat 17), (.ofNat 4), (.ofNat 8), (.ofNat 31), (.ofNat 27), (.ofNat 13), (.ofNat 23), (.ofNat 21), (.ofNat 19), (.ofNat 16), (.ofNat 7), (.ofNat 26), (.ofNat 12), (.ofNat 18), (.ofNat 6), (.ofNat 11), (.ofNat 5), (.ofNat 10), (.ofNat 9)]) := tabAt_of (name := "math/bits.deBruijn32tab") (t := 185) (e := 5) (n := 32) (by kernel_rfl) (by kernel_rfl) (by kernel_rfl) (by kernel_rfl) (by kernel_rfl) (by kernel_rfl) (laid := Rows.asmLinesRow.laid) (List.Mem.head _) hL
theorem tab1 (W : World) (hL : laidMet Tryz.prog Rows.asmLinesRow.laid W) : TabAt W (5, .u8, [(.ofNat 0), (.ofNat 1), (.ofNat 56), (.ofNat 2), (.ofNat 57), (.ofNat 49), (.ofNat 28), (.ofNat 3), (.ofNat 61), (.ofNat 58), (.ofNat 42), (.ofNat 50), (.ofNat 38), (.ofNat 29), (.ofNat 17), (.ofNat 4), (.ofNat 62), (.ofNat 47), (.ofNat 59), (.ofNat 36), (.ofNat 45), (.ofNat 43), (.ofNat 51), (.ofNat 22), (.ofNat 53), (.ofNat 39), (.ofNat 33), (.ofNat 30), (.ofNat 24), (.ofNat 18), (.ofNat 12), (.ofNat 5), (.ofNat 63), (.ofNat 55), (.ofNat 48), (.ofNat 27), (.ofNat 60), (.ofNat 41), (.ofNat 37), (.ofNat 16), (.ofNat 46), (.ofNat 35), (.ofNat 44), (.ofNat 21), (.ofNat 52), (.ofNat 32), (.ofNat 23), (.ofNat 11), (.ofNat 54), (.ofNat 26), (.ofNat 40), (.ofNat 15), (.ofNat 34), (.ofNat 20), (.ofNat 31), (.ofNat 10), (.ofNat 25), (.ofNat 14), (.ofNat 19), (.ofNat 9), (.ofNat 13), (.ofNat 8), (.ofNat 7), (.ofNat 6)]) := tabAt_of (name := "math/bits.deBruijn64tab") (t := 186) (e := 5) (n := 64) (by kernel_rfl) (by kernel_rfl) (by kernel_rfl) (by kernel_rfl) (by kernel_rfl) (by kernel_rfl) (laid := Rows.asmLinesRow.laid) (List.Mem.tail _ (List.Mem.head _)) hL
theorem tab2 (W : World) (hL : laidMet Tryz.prog Rows.asmLinesRow.laid W) : TabAt W (3, .u64, [(.ofNat 1), (.ofNat 10), (.ofNat 100), (.ofNat 1000), (.ofNat 10000), (.ofNat 100000), (.ofNat 1000000), (.ofNat 10000000), (.ofNat 100000000), (.ofNat 1000000000), (.ofNat 10000000000), (.ofNat 100000000000), (.ofNat 1000000000000), (.ofNat 10000000000000), (.ofNat 100000000000000), (.ofNat 1000000000000000), (.ofNat 10000000000000000), (.ofNat 100000000000000000), (.ofNat 1000000000000000000), (.ofNat 10000000000000000000)]) := tabAt_of (name := "internal/strconv.uint64pow10") (t := 173) (e := 51) (n := 20) (by kernel_rfl) (by kernel_rfl) (by kernel_rfl) (by kernel_rfl) (by kernel_rfl) (by kernel_rfl) (laid := Rows.asmLinesRow.laid) (List.Mem.tail _ (List.Mem.tail _ (List.Mem.head _))) hL
theorem star_ : "*" ++ "errors.errorString" = "*errors.errorString" := by decide
theorem row_es (u : TypeId) (h : Tryz.prog.typeName? 3 u = some "*errors.errorString") : u = 177 := typeName_ptr_named (nm := "errors.errorString") (by rw [star_]; kernel_rfl) (by kernel_rfl) (by decide) u (by rw [star_]; exact h)
theorem err1 {W : World} (hL : laidMet Tryz.prog Rows.asmLinesRow.laid W) {C : Nat} (hC : W.heap.size ≤ C) : (errQ (heapF W C) 1).isSome = true := errQ_of (n := "strconv.ErrSyntax") hC hL.tail.tail.tail.tail (by kernel_rfl) (show (Tryz.prog.globals[1]?).map (·.type) = some 53 by kernel_rfl) Tryz.underlying53 row_es Tryz.underlying177 Tryz.underlying179 rfl rfl Tryz.underlying9 (by kernel_rfl) (by kernel_rfl)
theorem err2 {W : World} (hL : laidMet Tryz.prog Rows.asmLinesRow.laid W) {C : Nat} (hC : W.heap.size ≤ C) : (errQ (heapF W C) 2).isSome = true := errQ_of (n := "strconv.ErrRange") hC hL.tail.tail.tail (by kernel_rfl) (show (Tryz.prog.globals[2]?).map (·.type) = some 53 by kernel_rfl) Tryz.underlying53 row_es Tryz.underlying177 Tryz.underlying179 rfl rfl Tryz.underlying9 (by kernel_rfl) (by kernel_rfl)
theorem errs_in {W : World} (hL : laidMet Tryz.prog Rows.asmLinesRow.laid W) {C : Nat} (hC : W.heap.size ≤ C) : errsIn (heapF W C) [1, 2] = true := by
  show (Nat.blt 1 1000 && ((errQ (heapF W C) 1).isSome && (Nat.blt 2 1000 && ((errQ (heapF W C) 2).isSome && true)))) = true
  rw [err1 hL hC, err2 hL hC]; rfl
theorem tabs_in {W : World} (hL : laidMet Tryz.prog Rows.asmLinesRow.laid W) (C : Nat) : tabsIn (heapF W C) tabs = true := heap_tabs (fun t ht => by
  simp only [tabs, List.mem_cons, List.mem_nil_iff, or_false] at ht
  rcases ht with rfl | rfl | rfl
  · exact ⟨by decide, tab0 W hL⟩
  · exact ⟨by decide, tab1 W hL⟩
  · exact ⟨by decide, tab2 W hL⟩)
theorem law_walk {W : World} (hL : laidMet Tryz.prog Rows.asmLinesRow.laid W) {C : Nat} (hC : W.heap.size ≤ C) (hk : 1000 ≤ C) {us : List V} (hR : ArgsR (heapF W C) C tys us) : Ev.Calls ph5 (heapF W C) 3 us .e C fun v _ _ => v = .b true := by
  obtain ⟨vs, x, a1, rfl, h1, vs2, y, a2, rfl, h2, vs3, z, a3, rfl, h3, rfl⟩ := hR
  obtain ⟨l, rfl⟩ := str_of4 h1
  obtain ⟨s, rfl⟩ := str_of4 h2
  obtain ⟨n, rfl, _⟩ := i64_of h3
  exact l3 ph5 (L := tabs) (by kernel_rfl) (by kernel_rfl) (by kernel_rfl) (by kernel_rfl) (by kernel_rfl) (by kernel_rfl) (by kernel_rfl) (by kernel_rfl) (by kernel_rfl) (by kernel_rfl) (by kernel_rfl) (by kernel_rfl) (by kernel_rfl) (by kernel_rfl) (by kernel_rfl) (by kernel_rfl) (by kernel_rfl) (by kernel_rfl) (by kernel_rfl) (by kernel_rfl) (by kernel_rfl) n (okm_heap hC hk) hk (fun g _ => rfl) (tabs_in hL C) (errs_in hL hC) l s
theorem law_lifted (os : Os) (started : os.Started) (H : Type) (enc : TypeId × Value → H) :
    ReturnsInHanded {} Tryz.checked os 3 .any (fun w args => (Rows.asmLinesSpec.pre enc Tryz.prog Tryz.f3 Rows.asmLinesRow.domain false w args ∧ laidMetH Tryz.prog Rows.asmLinesRow.laid w) ∧ sizedMet enc Tryz.prog Tryz.f3 (OpenSpec.ofChange Rows.asmLinesSpec) false w args)
      (Rows.asmLinesSpec.post enc Tryz.prog Tryz.f3 false true false false) := by
  refine returnsInHanded_of_change_and (C := Tryz.checked) (X := fun w _ => laidMetH Tryz.prog Rows.asmLinesRow.laid w) (fun _ _ _ hh h => h.of_heap hh) own started (by kernel_rfl) Tryz.func3
    (ChangeSpec.witness_shaped (enc := enc) (C := Tryz.checked) (os := os) (X := fun w _ => laidMetH Tryz.prog Rows.asmLinesRow.laid w) false (World.laidAll Tryz.prog os Rows.asmLinesRow.laid) #[.string ⟨#[]⟩, .string ⟨#[]⟩, .int .i64 0] 8 (World.laidAll_os _ _ _)
      (World.shaped_of_ZipB (by kernel_rfl) (by kernel_rfl)) (by kernel_rfl) (by kernel_rfl) (by kernel_rfl)
      (by rw [MakeChecks.laidMetH_plain _ _ _ (by kernel_rfl)]; exact laidMet_laidAll _ (by kernel_rfl) (by kernel_rfl))) ?_
  intro W base args ds gs before hval0 hW hc _ hL _
  have hW' := hW
  obtain ⟨p, q, hA0, hV, rfl, _, _⟩ := hW
  have hA : DataW.TrodAll enc Tryz.prog W 0 (fun _ => true) true Tryz.f3.params.toList args.toList ds p := hA0
  obtain ⟨rfl, rfl⟩ := trodVars_none hV
  rw [MakeChecks.laidMetH_plain _ _ _ (by kernel_rfl)] at hL
  have hty : tysB Tryz.prog tys Tryz.f3.params.toList = true := by kernel_rfl
  obtain ⟨us, has, hbd, hR⟩ := args_of (C := max 1000 W.heap.size) (Nat.le_max_right _ _) hty hA (fun j t v ht hv => hval0 j t v (by rw [← Array.getElem?_toList]; exact ht) (by rw [← Array.getElem?_toList]; exact hv)) (fun h => absurd h (by decide))
  have hcall := law_of mixed ph5_ok (W := W) (C := max 1000 W.heap.size) (f := 3) (args := us) (Nat.le_max_right _ _) (Nat.le_max_left _ _) hbd (law_walk hL (Nat.le_max_right _ _) (Nat.le_max_left _ _) hR)
  rw [has] at hcall
  have hlen := trods_len hA
  rw [Tryz.params3] at hlen
  obtain ⟨d1, d2, d3, rfl⟩ : ∃ d1 d2 d3, ds = [d1, d2, d3] := by
    match ds, hlen with
    | [d1, d2, d3], _ => exact ⟨d1, d2, d3, rfl⟩
  refine hcall.mono fun e W' ⟨he, hk, hheap⟩ => ?_
  subst he
  refine ⟨_, rfl, _, _, _, [], p, [], hW', trodAll_mk1 (shut_bool Tryz.underlying4 true), ?_, ?_, hk _, fun h => by cases h⟩
  · exact all_kept hheap hty hA
  · exact hV
theorem law_holds : Rows.AsmLinesSaid :=
  OpenClaim.holds_of_wide 3 Tryz.f3 rfl rfl rfl rfl rfl rfl rfl ⟨rfl, rfl, rfl, rfl, rfl⟩ rfl rfl rfl rfl rfl (by kernel_rfl) Tryz.func3 (by kernel_rfl)
    (of_decide_eq_true (by kernel_rfl)) (by unfold Func.isWrapper; first | (rw [if_pos (by decide +kernel)]; kernel_rfl) | (rw [if_neg (by decide +kernel)]; exact ⟨rfl, rfl⟩))
    (fun os started H enc _ => law_lifted os started H enc)
theorem card_holds : Rows.AsmLinesCardSaid :=
  Claim7.holds_tied_plain_at .later [] [.data, .data, .data, .sentinel, .sentinel] true (true, "6c930b157b439ab0eb17ad491007354e75c739558d30cc731f5c0035a08158c0") true
    law_holds (fun _ h => by cases h) (by kernel_rfl) (fun _ h => by cases h) asmLines_row_tie rfl ⟨rfl, rfl⟩ (by kernel_rfl) rfl
    (fun f fn hf hfn => by
      obtain rfl : f = 3 := Option.some.inj ((show Tryz.prog.funcNamed "steading/steadinglaw04.AsmLines" = some 3 by kernel_rfl).symm.trans hf) |>.symm
      obtain rfl : fn = Tryz.f3 := (Option.some.inj (Tryz.func3.symm.trans hfn)).symm
      exact ⟨by kernel_rfl, fun j t ht => by
        rw [Tryz.params3] at ht
        rw [← Array.getElem?_toList] at ht
        have hm := List.mem_of_getElem? ht
        simp only [List.mem_cons, List.mem_nil_iff, or_false] at hm
        rcases hm with rfl | rfl | rfl <;> first | (show Tryz.prog.wantsStandIn _ = false; kernel_rfl) | (show _ = false; kernel_rfl) | decide +kernel⟩)
    (by kernel_rfl)
#print axioms card_holds
end Go.Proofs.YtlhcbcdiffldbaaGreatDoor
