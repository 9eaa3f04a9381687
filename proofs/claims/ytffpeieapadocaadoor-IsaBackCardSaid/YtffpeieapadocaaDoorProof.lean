/- What is proved here: the law IsaBack returns true for every input, as the given card says. Conditions: those of the given row (the package-level variables that it lists read as the program lays them). -/
import Derived.Test.YtffpeieapadocaaDoorRun
import Derived.Test.YtffpeieapadocaaDoorRows
import Derived.Test.YtffpeieapadocaaDoorCards
import Derived.Test.YtffpeieapadocaaDoorTie
import Derived.ProofKit
import Derived.OpenShut
import Derived.LaidMore
import Derived.Lay
import Derived.SevenTiedAt
import Derived.Stop.Joined
set_option linter.unusedSimpArgs false
set_option linter.unusedVariables false
set_option maxRecDepth 100000
namespace Go.Proofs.YtffpeieapadocaaDoor
open Go Ev
open Go.ChangeShapes Go.WideShapes Go.ChangeAt Go.RowKit
theorem own : ownKnob Tryd.prog.godebug = none := by kernel_rfl
theorem mixed : Tryd.prog.follows .mixedOrders = true := by kernel_rfl
theorem trods_len {H : Type} {enc : TypeId × Value → H} {P : Program} {W : World} {sp : Nat → Bool} {held : Bool} : ∀ {ts : List TypeId} {vs : List Value} {ds : List (DataW H)} {ps : List MemPlace}, DataW.TrodAll enc P W 0 sp held ts vs ds ps → ds.length = ts.length
  | [], [], [], ps, h => rfl
  | [], [], _ :: _, ps, h => by cases h
  | [], _ :: _, ds, ps, h => by cases ds <;> cases h
  | _ :: _, [], ds, ps, h => by cases ds <;> cases h
  | _ :: _, _ :: _, [], ps, h => by cases h
  | t :: ts, v :: vs, d :: ds, ps, h => by
    obtain ⟨p, q, h1, h2, _⟩ := h
    rw [List.length_cons, List.length_cons, trods_len h2]
theorem tabs_self : TabsSelf tabs := fun ty => by kernel_rfl
noncomputable def ph0 : Nat → Option CF := fun k => phi.get k
theorem ph0_ok : PhiOk Tryd.prog ph0 := phi_ok
theorem g0_19 : OrcOk Tryd.prog 19 (pureO h19) := o19 mixed ph0_ok (by kernel_rfl)
theorem g0_18 : OrcOk Tryd.prog 18 (pureO h18) := o18 mixed ph0_ok (by kernel_rfl)
theorem g0_35 : OrcOk Tryd.prog 35 (pureO h35) := o35 mixed ph0_ok (by kernel_rfl)
theorem g0_20 : OrcOk Tryd.prog 20 (pureO h20) := o20 mixed ph0_ok (by kernel_rfl)
theorem g0_32 : OrcOk Tryd.prog 32 (pureO h32) := o32 mixed ph0_ok (by kernel_rfl)
theorem g0_7 : OrcOk Tryd.prog 7 (pureO h7) := o7 mixed ph0_ok (by kernel_rfl)
theorem g0_11 : OrcOk Tryd.prog 11 (pureO h11) := o11b mixed ph0_ok (by kernel_rfl)
theorem g0_73 : OrcOk Tryd.prog 73 (pureO h73) := o73 mixed ph0_ok (by kernel_rfl)
theorem g0_55 : OrcOk Tryd.prog 55 (pureO h55) := o55 mixed ph0_ok (by kernel_rfl)
theorem g0_66 : OrcOk Tryd.prog 66 (pureO h66) := o66b mixed ph0_ok (by kernel_rfl)
theorem g0_86 : OrcOk Tryd.prog 86 (pureO h86) := o86 mixed ph0_ok (by kernel_rfl)
theorem g0_87 : OrcOk Tryd.prog 87 (pureO h87) := o87 mixed ph0_ok (by kernel_rfl)
theorem g0_67 : OrcOk Tryd.prog 67 (pureO h67) := o67 mixed ph0_ok (by kernel_rfl)
theorem g0_92 : OrcOk Tryd.prog 92 (pureO h92) := o92 mixed ph0_ok (by kernel_rfl)
theorem g0_78 : OrcOk Tryd.prog 78 (pureO h78) := o78 mixed ph0_ok (by kernel_rfl)
noncomputable def ph1 : Nat → Option CF := (upd (upd (upd (upd (upd (upd (upd (upd (upd (upd (upd (upd (upd (upd (upd (upd ph0 19 (.orc (pureO h19))) 18 (.orc (pureO h18))) 35 (.orc (pureO h35))) 20 (.orc (pureO h20))) 32 (.orc (pureO h32))) 7 (.orc (pureO h7))) 11 (.orc (pureO h11))) 73 (.orc (pureO h73))) 55 (.orc (pureO h55))) 66 (.orc (pureO h66))) 86 (.orc (pureO h86))) 87 (.orc (pureO h87))) 67 (.orc (pureO h67))) 92 (.orc (pureO h92))) 78 (.orc (pureO h78))) 5 (.orc (knownO tabs)))
theorem ph1_ok : PhiOk Tryd.prog ph1 := (upd_ok (upd_ok (upd_ok (upd_ok (upd_ok (upd_ok (upd_ok (upd_ok (upd_ok (upd_ok (upd_ok (upd_ok (upd_ok (upd_ok (upd_ok (upd_ok ph0_ok g0_19) g0_18) g0_35) g0_20) g0_32) g0_7) g0_11) g0_73) g0_55) g0_66) g0_86) g0_87) g0_67) g0_92) g0_78) (f := 5) (g := knownO tabs) (orc_closed_tabs mixed phi_ok ran))
theorem g1_22 : OrcOk Tryd.prog 22 (pureO h22) := o22 mixed ph1_ok (by kernel_rfl) (by kernel_rfl)
theorem g1_49 : OrcOk Tryd.prog 49 (pureO h49) := o49 mixed ph1_ok (by kernel_rfl) (by kernel_rfl)
theorem g1_43 : OrcOk Tryd.prog 43 (pureO h43) := o43 mixed ph1_ok (by kernel_rfl) (by kernel_rfl)
theorem g1_68 : OrcOk Tryd.prog 68 (pureT tabs h68) := o68 mixed ph1_ok (by kernel_rfl) (by kernel_rfl) (by kernel_rfl) (by kernel_rfl) tabs_self (List.mem_of_find?_eq_some (p := fun t => Nat.beq t.1 3) (by kernel_rfl))
noncomputable def ph2 : Nat → Option CF := (upd (upd (upd (upd ph1 22 (.orc (pureO h22))) 49 (.orc (pureO h49))) 43 (.orc (pureO h43))) 68 (.orc (pureT tabs h68)))
theorem ph2_ok : PhiOk Tryd.prog ph2 := (upd_ok (upd_ok (upd_ok (upd_ok ph1_ok g1_22) g1_49) g1_43) g1_68)
theorem g2_21 : OrcOk Tryd.prog 21 (pureO h21) := o21 mixed ph2_ok (by kernel_rfl) (by kernel_rfl) (by kernel_rfl) (by kernel_rfl) (by kernel_rfl) (by kernel_rfl)
theorem g2_40 : OrcOk Tryd.prog 40 (pureO h40) := o40 mixed ph2_ok (by kernel_rfl) (by kernel_rfl)
theorem g2_29 : OrcOk Tryd.prog 29 (pureO h43) := o29 mixed ph2_ok (by kernel_rfl) (by kernel_rfl)
theorem g2_46 : OrcOk Tryd.prog 46 (pureT tabs h46) := o46 mixed ph2_ok (by kernel_rfl) (by kernel_rfl) (by kernel_rfl) (by kernel_rfl) tabs_self
noncomputable def ph3 : Nat → Option CF := (upd (upd (upd (upd ph2 21 (.orc (pureO h21))) 40 (.orc (pureO h40))) 29 (.orc (pureO h43))) 46 (.orc (pureT tabs h46)))
theorem ph3_ok : PhiOk Tryd.prog ph3 := (upd_ok (upd_ok (upd_ok (upd_ok ph2_ok g2_21) g2_40) g2_29) g2_46)
theorem g3_26 : OrcOk Tryd.prog 26 (pureO h40) := o26 mixed ph3_ok (by kernel_rfl) (by kernel_rfl)
theorem g3_36 : OrcOk Tryd.prog 36 (pureT tabs h36) := o36 mixed ph3_ok (by kernel_rfl) (by kernel_rfl) tabs_self
theorem g3_8 : OrcOk Tryd.prog 8 (pureO h8) := o8 mixed ph3_ok (by kernel_rfl) (by kernel_rfl)
noncomputable def ph4 : Nat → Option CF := (upd (upd (upd ph3 26 (.orc (pureO h40))) 36 (.orc (pureT tabs h36))) 8 (.orc (pureO h8)))
theorem ph4_ok : PhiOk Tryd.prog ph4 := (upd_ok (upd_ok (upd_ok ph3_ok g3_26) g3_36) g3_8)
theorem g4_23 : OrcOk Tryd.prog 23 (pureT tabs h36) := o23 mixed ph4_ok (by kernel_rfl) (by kernel_rfl) tabs_self
theorem g4_6 : OrcOk Tryd.prog 6 (pureO h6) := o6 mixed ph4_ok (by kernel_rfl) (by kernel_rfl) (by kernel_rfl) (by kernel_rfl) (by kernel_rfl)
noncomputable def ph5 : Nat → Option CF := (upd (upd ph4 23 (.orc (pureT tabs h36))) 6 (.orc (pureO h6)))
theorem ph5_ok : PhiOk Tryd.prog ph5 := (upd_ok (upd_ok ph4_ok g4_23) g4_6)
theorem g5_9 : OrcOk Tryd.prog 9 (pureT tabs h9) := o9 mixed ph5_ok (by kernel_rfl) (by kernel_rfl) (by kernel_rfl) (by kernel_rfl) (by kernel_rfl) (by kernel_rfl) (by kernel_rfl) (by kernel_rfl) (by kernel_rfl) (by kernel_rfl) (by kernel_rfl) (by kernel_rfl) tabs_self
noncomputable def ph6 : Nat → Option CF := (upd ph5 9 (.orc (pureT tabs h9)))
theorem ph6_ok : PhiOk Tryd.prog ph6 := (upd_ok ph5_ok g5_9)
def tys : List Ty := [insTy, insTy, .int .u32]
theorem tab0 (W : World) (hL : laidMet Tryd.prog Rows.isaBackRow.laid W) : TabAt W (4, .u8, [(.ofNat 0), (.ofNat 1), (.ofNat 28), (.ofNat 2), (.ofNat 29), (.ofNat 14), (.ofNat 24), (.ofNat 3), (.ofNat 30), (.ofNat 22), (.ofNat 20), (.ofNat 15), (.ofNat 25), (.ofNat 17), (.ofNat 4), (.ofNat 8), (.ofNat 31), (.ofNat 27), (.ofNat 13), (.ofNat 23), (.ofNat 21), (.ofNat 19), (.ofNat 16), (.ofNat 7), (.ofNat 26), (.ofNat 12), (.ofNat 18), (.ofNat 6), (.ofNat 11), (.ofNat 5), (.ofNat 10), (.ofNat 9)]) := tabAt_of (name := "math/bits.deBruijn32tab") (t := 147) (e := 5) (n := 32) (by kernel_rfl) (by kernel_rfl) (by kernel_rfl) (by kernel_rfl) (by kernel_rfl) (by kernel_rfl) (laid := Rows.isaBackRow.laid) (List.Mem.head _) hL
theorem tab1 (W : World) (hL : laidMet Tryd.prog Rows.isaBackRow.laid W) : TabAt W (5, .u8, [(.ofNat 0), (.ofNat 1), (.ofNat 56), (.ofNat 2), (.ofNat 57), (.ofNat 49), (.ofNat 28), (.ofNat 3), (.ofNat 61), (.ofNat 58), (.ofNat 42), (.ofNat 50), (.ofNat 38), (.ofNat 29), (.ofNat 17), (.ofNat 4), (.ofNat 62), (.ofNat 47), (.ofNat 59), (.ofNat 36), (.ofNat 45), (.ofNat 43), (.ofNat 51), (.ofNat 22), (.ofNat 53), (.ofNat 39), (.ofNat 33), (.ofNat 30), (.ofNat 24), (.ofNat 18), (.ofNat 12), (.ofNat 5), (.ofNat 63), (.ofNat 55), (.ofNat 48), (.ofNat 27), (.ofNat 60), (.ofNat 41), (.ofNat 37), (.ofNat 16), (.ofNat 46), (.ofNat 35), (.ofNat 44), (.ofNat 21), (.ofNat 52), (.ofNat 32), (.ofNat 23), (.ofNat 11), (.ofNat 54), (.ofNat 26), (.ofNat 40), (.ofNat 15), (.ofNat 34), (.ofNat 20), (.ofNat 31), (.ofNat 10), (.ofNat 25), (.ofNat 14), (.ofNat 19), (.ofNat 9), (.ofNat 13), (.ofNat 8), (.ofNat 7), (.ofNat 6)]) := tabAt_of (name := "math/bits.deBruijn64tab") (t := 148) (e := 5) (n := 64) (by kernel_rfl) (by kernel_rfl) (by kernel_rfl) (by kernel_rfl) (by kernel_rfl) (by kernel_rfl) (laid := Rows.isaBackRow.laid) (List.Mem.tail _ (List.Mem.head _)) hL
theorem tab2 (W : World) (hL : laidMet Tryd.prog Rows.isaBackRow.laid W) : TabAt W (3, .u64, [(.ofNat 1), (.ofNat 10), (.ofNat 100), (.ofNat 1000), (.ofNat 10000), (.ofNat 100000), (.ofNat 1000000), (.ofNat 10000000), (.ofNat 100000000), (.ofNat 1000000000), (.ofNat 10000000000), (.ofNat 100000000000), (.ofNat 1000000000000), (.ofNat 10000000000000), (.ofNat 100000000000000), (.ofNat 1000000000000000), (.ofNat 10000000000000000), (.ofNat 100000000000000000), (.ofNat 1000000000000000000), (.ofNat 10000000000000000000)]) := tabAt_of (name := "internal/strconv.uint64pow10") (t := 135) (e := 112) (n := 20) (by kernel_rfl) (by kernel_rfl) (by kernel_rfl) (by kernel_rfl) (by kernel_rfl) (by kernel_rfl) (laid := Rows.isaBackRow.laid) (List.Mem.tail _ (List.Mem.tail _ (List.Mem.head _))) hL
theorem star_ : "*" ++ "errors.errorString" = "*errors.errorString" := by decide
theorem row_es (u : TypeId) (h : Tryd.prog.typeName? 3 u = some "*errors.errorString") : u = 141 := typeName_ptr_named (nm := "errors.errorString") (by rw [star_]; kernel_rfl) (by kernel_rfl) (by decide) u (by rw [star_]; exact h)
theorem err1 {W : World} (hL : laidMet Tryd.prog Rows.isaBackRow.laid W) {C : Nat} (hC : W.heap.size ≤ C) : ErrVar (heapF W C) 1 := errVar_of (n := "strconv.ErrSyntax") hC hL.tail.tail.tail.tail (by kernel_rfl) (show (Tryd.prog.globals[1]?).map (·.type) = some 72 by kernel_rfl) Tryd.underlying72 row_es Tryd.underlying141 Tryd.underlying143 rfl rfl Tryd.underlying9 (by kernel_rfl) (by kernel_rfl)
theorem err2 {W : World} (hL : laidMet Tryd.prog Rows.isaBackRow.laid W) {C : Nat} (hC : W.heap.size ≤ C) : ErrVar (heapF W C) 2 := errVar_of (n := "strconv.ErrRange") hC hL.tail.tail.tail (by kernel_rfl) (show (Tryd.prog.globals[2]?).map (·.type) = some 72 by kernel_rfl) Tryd.underlying72 row_es Tryd.underlying141 Tryd.underlying143 rfl rfl Tryd.underlying9 (by kernel_rfl) (by kernel_rfl)
theorem tabs_in {W : World} (hL : laidMet Tryd.prog Rows.isaBackRow.laid W) (C : Nat) : tabsIn (heapF W C) tabs = true := heap_tabs (fun t ht => by
  simp only [tabs, List.mem_cons, List.mem_nil_iff, or_false] at ht
  rcases ht with rfl | rfl | rfl
  · exact ⟨by decide, tab0 W hL⟩
  · exact ⟨by decide, tab1 W hL⟩
  · exact ⟨by decide, tab2 W hL⟩)
theorem law_walk {W : World} (hL : laidMet Tryd.prog Rows.isaBackRow.laid W) {C : Nat} (hC : W.heap.size ≤ C) (hk : 1000 ≤ C) {us : List V} (hR : ArgsR (heapF W C) C tys us) : Ev.Calls ph6 (heapF W C) 3 us .e C fun v _ _ => v = .b true := by
  obtain ⟨vs, x, a1, rfl, h1, vs2, y, a2, rfl, h2, vs3, z, a3, rfl, h3, rfl⟩ := hR
  obtain ⟨q, rfl⟩ := ins_of h1
  obtain ⟨q2, rfl⟩ := ins_of h2
  obtain ⟨w, rfl, hw⟩ := u32_of h3
  exact l3 ph6 (L := tabs) (by kernel_rfl) (by kernel_rfl) (by kernel_rfl) (by kernel_rfl) (by kernel_rfl) (by kernel_rfl) (by kernel_rfl) (by kernel_rfl) (by kernel_rfl) (by kernel_rfl) (by kernel_rfl) (by kernel_rfl) (by kernel_rfl) (by kernel_rfl) (by kernel_rfl) (by kernel_rfl) (by kernel_rfl) (by kernel_rfl) (by kernel_rfl) (by kernel_rfl) (by kernel_rfl) (by kernel_rfl) (by kernel_rfl) (by kernel_rfl) (by kernel_rfl) (by kernel_rfl) q.op q.d q.a q.b q.i q2.op q2.d q2.a q2.b q2.i w hw (okm_heap hC hk) (tabs_in hL C) (err1 hL hC) (err2 hL hC) (fun g _ => rfl)
theorem law_lifted (os : Os) (started : os.Started) (H : Type) (enc : TypeId × Value → H) :
    ReturnsInHanded {} Tryd.checked os 3 .any (fun w args => (Rows.isaBackSpec.pre enc Tryd.prog Tryd.f3 Rows.isaBackRow.domain false w args ∧ laidMetH Tryd.prog Rows.isaBackRow.laid w) ∧ sizedMet enc Tryd.prog Tryd.f3 (OpenSpec.ofChange Rows.isaBackSpec) false w args)
      (Rows.isaBackSpec.post enc Tryd.prog Tryd.f3 false true false false) := by
  refine returnsInHanded_of_change_and (C := Tryd.checked) (X := fun w _ => laidMetH Tryd.prog Rows.isaBackRow.laid w) (fun _ _ _ hh h => h.of_heap hh) own started (by kernel_rfl) Tryd.func3
    (ChangeSpec.witness_shaped (enc := enc) (C := Tryd.checked) (os := os) (X := fun w _ => laidMetH Tryd.prog Rows.isaBackRow.laid w) false (World.laidAll Tryd.prog os Rows.isaBackRow.laid) #[.agg #[.int .i64 0, .int .i64 0, .int .i64 0, .int .i64 0, .int .i64 0], .agg #[.int .i64 0, .int .i64 0, .int .i64 0, .int .i64 0, .int .i64 0], .int .u32 0] 8 (World.laidAll_os _ _ _)
      (World.shaped_of_ZipB (by kernel_rfl) (by kernel_rfl)) (by kernel_rfl) (by kernel_rfl) (by kernel_rfl)
      (by rw [MakeChecks.laidMetH_plain _ _ _ (by kernel_rfl)]; exact laidMet_laidAll _ (by kernel_rfl) (by kernel_rfl))) ?_
  intro W base args ds gs before hval0 hW hc _ hL _
  have hW' := hW
  obtain ⟨p, q, hA0, hV, rfl, _, _⟩ := hW
  have hA : DataW.TrodAll enc Tryd.prog W 0 (fun _ => true) true Tryd.f3.params.toList args.toList ds p := hA0
  obtain ⟨rfl, rfl⟩ := trodVars_none hV
  rw [MakeChecks.laidMetH_plain _ _ _ (by kernel_rfl)] at hL
  have hty : tysB Tryd.prog tys Tryd.f3.params.toList = true := by kernel_rfl
  obtain ⟨us, has, hbd, hR⟩ := args_of (C := max 1000 W.heap.size) (Nat.le_max_right _ _) hty hA (fun j t v ht hv => hval0 j t v (by rw [← Array.getElem?_toList]; exact ht) (by rw [← Array.getElem?_toList]; exact hv)) (fun h => absurd h (by decide))
  have hcall := law_of mixed ph6_ok (W := W) (C := max 1000 W.heap.size) (f := 3) (args := us) (Nat.le_max_right _ _) (Nat.le_max_left _ _) hbd (law_walk hL (Nat.le_max_right _ _) (Nat.le_max_left _ _) hR)
  rw [has] at hcall
  have hlen := trods_len hA
  rw [Tryd.params3] at hlen
  obtain ⟨d1, d2, d3, rfl⟩ : ∃ d1 d2 d3, ds = [d1, d2, d3] := by
    match ds, hlen with
    | [d1, d2, d3], _ => exact ⟨d1, d2, d3, rfl⟩
  refine hcall.mono fun e W' ⟨he, hk, hheap⟩ => ?_
  subst he
  refine ⟨_, rfl, _, _, _, [], p, [], hW', trodAll_mk1 (shut_bool Tryd.underlying4 true), ?_, ?_, hk _, fun h => by cases h⟩
  · exact all_kept hheap hty hA
  · exact hV
theorem law_holds : Rows.IsaBackSaid :=
  OpenClaim.holds_of_wide 3 Tryd.f3 rfl rfl rfl rfl rfl rfl rfl ⟨rfl, rfl, rfl, rfl, rfl⟩ rfl rfl rfl rfl rfl (by kernel_rfl) Tryd.func3 (by kernel_rfl)
    (of_decide_eq_true (by kernel_rfl)) (by unfold Func.isWrapper; first | (rw [if_pos (by decide +kernel)]; kernel_rfl) | (rw [if_neg (by decide +kernel)]; exact ⟨rfl, rfl⟩))
    (fun os started H enc _ => law_lifted os started H enc)
theorem card_holds : Rows.IsaBackCardSaid :=
  Claim7.holds_tied_plain_at .later [] [.data, .data, .data, .sentinel, .sentinel] true (true, "d539a37f9e976849a0ae5c8e2aac8164d0c6a4dcc7ee5cbe7124596763c859df") true
    law_holds (fun _ h => by cases h) (by kernel_rfl) (fun _ h => by cases h) isaBack_row_tie rfl ⟨rfl, rfl⟩ (by kernel_rfl) rfl
    (fun f fn hf hfn => by
      obtain rfl : f = 3 := Option.some.inj ((show Tryd.prog.funcNamed "steading/steadinglaw03.IsaBack" = some 3 by kernel_rfl).symm.trans hf) |>.symm
      obtain rfl : fn = Tryd.f3 := (Option.some.inj (Tryd.func3.symm.trans hfn)).symm
      exact ⟨by kernel_rfl, fun j t ht => by
        rw [Tryd.params3] at ht
        rw [← Array.getElem?_toList] at ht
        have hm := List.mem_of_getElem? ht
        simp only [List.mem_cons, List.mem_nil_iff, or_false] at hm
        rcases hm with rfl | rfl | rfl <;> first | (show Tryd.prog.wantsStandIn _ = false; kernel_rfl) | (show _ = false; kernel_rfl) | decide +kernel⟩)
    (by kernel_rfl)
#print axioms card_holds
end Go.Proofs.YtffpeieapadocaaDoor
