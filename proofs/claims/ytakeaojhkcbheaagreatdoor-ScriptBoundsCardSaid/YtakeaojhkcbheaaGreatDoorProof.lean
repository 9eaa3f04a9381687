/- What is proved here: the law ScriptBounds returns true for every input, as0 the given card says. Conditions: those of the given row (the package-level variables that it lists read as0 the program lays them). -/
import Derived.Test.YtakeaojhkcbheaaGreatDoorSbZ
import Derived.Test.YtakeaojhkcbheaaGreatDoorRows
import Derived.Test.YtakeaojhkcbheaaGreatDoorCards
import Derived.Test.YtakeaojhkcbheaaGreatDoorTie
import Derived.ProofKit
import Derived.OpenShut
import Derived.LaidMore
import Derived.Lay
import Derived.SevenTiedAt
import Derived.Stop.Joined
set_option linter.unusedSimpArgs false
set_option linter.unusedVariables false
set_option maxRecDepth 100000
namespace Go.Proofs.YtakeaojhkcbheaaGreatDoor
open Go Ev
open Go.ChangeShapes Go.WideShapes Go.ChangeAt Go.RowKit
theorem own : ownKnob Tryz.prog.godebug = none := by kernel_rfl
theorem mixed : Tryz.prog.follows .mixedOrders = true := by kernel_rfl
theorem trods_len {H : Type} {enc : TypeId × Value → H} {P : Program} {W : World} {sp : Nat → Bool} {held : Bool} : ∀ {ts : List TypeId} {vs : List Value} {ds : List (DataW H)} {ps : List MemPlace}, DataW.TrodAll enc P W 0 sp held ts vs ds ps → ds.length = ts.length
  | [], [], [], ps, h => rfl
  | [], [], _ :: _, ps, h => by cases h
  | [], _ :: _, ds, ps, h => by cases ds <;> cases h
  | _ :: _, [], ds, ps, h => by cases ds <;> cases h
  | _ :: _, _ :: _, [], ps, h => by cases h
  | t :: ts, v :: vs, d :: ds, ps, h => by
    obtain ⟨p, q, h1, h2, _⟩ := h
    rw [List.length_cons, List.length_cons, trods_len h2]
noncomputable def ph0 : Nat → Option CF := fun k => phi.get k
theorem ph0_ok : PhiOk Tryz.prog ph0 := phi_ok
noncomputable def ph1 : Nat → Option CF := (upd ph0 3 (.orc (knownX tabs [1, 2])))
theorem ph1_ok : PhiOk Tryz.prog ph1 := (upd_ok ph0_ok o3)
def tys : List Ty := []
theorem tab0 (W : World) (hL : laidMet Tryz.prog Rows.scriptBoundsRow.laid W) : TabAt W (7, .u8, [(.ofNat 0), (.ofNat 1), (.ofNat 28), (.ofNat 2), (.ofNat 29), (.ofNat 14), (.ofNat 24), (.ofNat 3), (.ofNat 30), (.ofNat 22), (.ofNat 20), (.ofNat 15), (.ofNat 25), (.ofNat 17), (.ofNat 4), (.ofNat 8), (.ofNat 31), (.ofNat 27), (.ofNat 13), (.ofNat 23), (.ofNat 21), (.ofNat 19), (.ofNat 16), (.ofNat 7), (.ofNat 26), (.ofNat 12), (.ofNat 18), (.ofNat 6), (.ofNat 11), (.ofNat 5), (.ofNat 10), (.ofNat 9)]) := tabAt_of (name := "math/bits.deBruijn32tab") (t := 230) (e := 5) (n := 32) (by kernel_rfl) (by kernel_rfl) (by kernel_rfl) (by kernel_rfl) (by kernel_rfl) (by kernel_rfl) (laid := Rows.scriptBoundsRow.laid) (List.Mem.head _) hL
theorem tab1 (W : World) (hL : laidMet Tryz.prog Rows.scriptBoundsRow.laid W) : TabAt W (8, .u8, [(.ofNat 0), (.ofNat 1), (.ofNat 56), (.ofNat 2), (.ofNat 57), (.ofNat 49), (.ofNat 28), (.ofNat 3), (.ofNat 61), (.ofNat 58), (.ofNat 42), (.ofNat 50), (.ofNat 38), (.ofNat 29), (.ofNat 17), (.ofNat 4), (.ofNat 62), (.ofNat 47), (.ofNat 59), (.ofNat 36), (.ofNat 45), (.ofNat 43), (.ofNat 51), (.ofNat 22), (.ofNat 53), (.ofNat 39), (.ofNat 33), (.ofNat 30), (.ofNat 24), (.ofNat 18), (.ofNat 12), (.ofNat 5), (.ofNat 63), (.ofNat 55), (.ofNat 48), (.ofNat 27), (.ofNat 60), (.ofNat 41), (.ofNat 37), (.ofNat 16), (.ofNat 46), (.ofNat 35), (.ofNat 44), (.ofNat 21), (.ofNat 52), (.ofNat 32), (.ofNat 23), (.ofNat 11), (.ofNat 54), (.ofNat 26), (.ofNat 40), (.ofNat 15), (.ofNat 34), (.ofNat 20), (.ofNat 31), (.ofNat 10), (.ofNat 25), (.ofNat 14), (.ofNat 19), (.ofNat 9), (.ofNat 13), (.ofNat 8), (.ofNat 7), (.ofNat 6)]) := tabAt_of (name := "math/bits.deBruijn64tab") (t := 231) (e := 5) (n := 64) (by kernel_rfl) (by kernel_rfl) (by kernel_rfl) (by kernel_rfl) (by kernel_rfl) (by kernel_rfl) (laid := Rows.scriptBoundsRow.laid) (List.Mem.tail _ (List.Mem.head _)) hL
theorem tab2 (W : World) (hL : laidMet Tryz.prog Rows.scriptBoundsRow.laid W) : TabAt W (4, .u64, [(.ofNat 1), (.ofNat 10), (.ofNat 100), (.ofNat 1000), (.ofNat 10000), (.ofNat 100000), (.ofNat 1000000), (.ofNat 10000000), (.ofNat 100000000), (.ofNat 1000000000), (.ofNat 10000000000), (.ofNat 100000000000), (.ofNat 1000000000000), (.ofNat 10000000000000), (.ofNat 100000000000000), (.ofNat 1000000000000000), (.ofNat 10000000000000000), (.ofNat 100000000000000000), (.ofNat 1000000000000000000), (.ofNat 10000000000000000000)]) := tabAt_of (name := "internal/strconv.uint64pow10") (t := 212) (e := 131) (n := 20) (by kernel_rfl) (by kernel_rfl) (by kernel_rfl) (by kernel_rfl) (by kernel_rfl) (by kernel_rfl) (laid := Rows.scriptBoundsRow.laid) (List.Mem.tail _ (List.Mem.tail _ (List.Mem.head _))) hL
theorem star_ : "*" ++ "errors.errorString" = "*errors.errorString" := by decide
theorem row_es (u : TypeId) (h : Tryz.prog.typeName? 3 u = some "*errors.errorString") : u = 215 := typeName_ptr_named (nm := "errors.errorString") (by rw [star_]; kernel_rfl) (by kernel_rfl) (by decide) u (by rw [star_]; exact h)
theorem err1 {W : World} (hL : laidMet Tryz.prog Rows.scriptBoundsRow.laid W) {C : Nat} (hC : W.heap.size ≤ C) : (errQ (heapF W C) 1).isSome = true := errQ_of (n := "strconv.ErrSyntax") hC hL.tail.tail.tail.tail.tail (by kernel_rfl) (show (Tryz.prog.globals[1]?).map (·.type) = some 71 by kernel_rfl) Tryz.underlying71 row_es Tryz.underlying215 Tryz.underlying217 rfl rfl Tryz.underlying9 (by kernel_rfl) (by kernel_rfl)
theorem err2 {W : World} (hL : laidMet Tryz.prog Rows.scriptBoundsRow.laid W) {C : Nat} (hC : W.heap.size ≤ C) : (errQ (heapF W C) 2).isSome = true := errQ_of (n := "strconv.ErrRange") hC hL.tail.tail.tail.tail (by kernel_rfl) (show (Tryz.prog.globals[2]?).map (·.type) = some 71 by kernel_rfl) Tryz.underlying71 row_es Tryz.underlying215 Tryz.underlying217 rfl rfl Tryz.underlying9 (by kernel_rfl) (by kernel_rfl)
theorem errs_in {W : World} (hL : laidMet Tryz.prog Rows.scriptBoundsRow.laid W) {C : Nat} (hC : W.heap.size ≤ C) : errsIn (heapF W C) [1, 2] = true := by
  show (Nat.blt 1 1000 && ((errQ (heapF W C) 1).isSome && (Nat.blt 2 1000 && ((errQ (heapF W C) 2).isSome && true)))) = true
  rw [err1 hL hC, err2 hL hC]; rfl
theorem tabs_in {W : World} (hL : laidMet Tryz.prog Rows.scriptBoundsRow.laid W) (C : Nat) : tabsIn (heapF W C) tabs = true := heap_tabs (fun t ht => by
  simp only [tabs, List.mem_cons, List.mem_nil_iff, or_false] at ht
  rcases ht with rfl | rfl | rfl
  · exact ⟨by decide, tab0 W hL⟩
  · exact ⟨by decide, tab1 W hL⟩
  · exact ⟨by decide, tab2 W hL⟩)
theorem law_walk {W : World} (hL : laidMet Tryz.prog Rows.scriptBoundsRow.laid W) {C : Nat} (hC : W.heap.size ≤ C) (hk : 1000 ≤ C) {us : List V} (hR : ArgsR (heapF W C) C tys us) (hM : (maxQ (heapF W C)).isSome = true) : Ev.Calls ph1 (heapF W C) 3 us .e C fun v _ _ => v = .b true := by
  obtain rfl : us = [] := hR
  exact l3x (Φ := ph1) (L := tabs) (gs := [1, 2]) (by kernel_rfl) (tabs_in hL C) (errs_in hL hC) hM
theorem law_lifted (os : Os) (started : os.Started) (H : Type) (enc : TypeId × Value → H) :
    ReturnsInHanded {} Tryz.checked os 3 .any (fun w args => (Rows.scriptBoundsSpec.pre enc Tryz.prog Tryz.f3 Rows.scriptBoundsRow.domain false w args ∧ laidMetH Tryz.prog Rows.scriptBoundsRow.laid w) ∧ sizedMet enc Tryz.prog Tryz.f3 (OpenSpec.ofChange Rows.scriptBoundsSpec) false w args)
      (Rows.scriptBoundsSpec.post enc Tryz.prog Tryz.f3 false true false false) := by
  refine lift_shaped (C := Tryz.checked) (X := fun w _ => laidMetH Tryz.prog Rows.scriptBoundsRow.laid w) (fun _ _ _ hh h => h.of_heap hh) own started (by kernel_rfl) Tryz.func3
    (ChangeSpec.witness_shaped (enc := enc) (C := Tryz.checked) (os := os) (X := fun w _ => laidMetH Tryz.prog Rows.scriptBoundsRow.laid w) false (World.laidAll Tryz.prog os Rows.scriptBoundsRow.laid) #[] 8 (World.laidAll_os _ _ _)
      (World.shaped_of_ZipB (by kernel_rfl) (by kernel_rfl)) (by kernel_rfl) (by kernel_rfl) (by kernel_rfl)
      (by rw [MakeChecks.laidMetH_plain _ _ _ (by kernel_rfl)]; exact laidMet_laidAll _ (by kernel_rfl) (by kernel_rfl))) ?_
  intro W base args ds gs before hsh hval0 hW hc _ hL
  have hW' := hW
  obtain ⟨p, q, hA0, hV, rfl, _, _⟩ := hW
  have hA : DataW.TrodAll enc Tryz.prog W 0 (fun _ => true) true Tryz.f3.params.toList args.toList ds p := hA0
  obtain ⟨rfl, rfl⟩ := trodVars_none hV
  rw [MakeChecks.laidMetH_plain _ _ _ (by kernel_rfl)] at hL
  have hty : tysB Tryz.prog tys Tryz.f3.params.toList = true := by kernel_rfl
  obtain ⟨C, hk0, hC0, hD⟩ := deep_C W
  obtain ⟨us, has, hbd, hR⟩ := args_of (fun _ => rfl) (C := C) hC0 hty hA (fun j t v ht hv => hval0 j t v (by rw [← Array.getElem?_toList]; exact ht) (by rw [← Array.getElem?_toList]; exact hv)) (fun _ => hD)
  have hcall := law_of mixed ph1_ok (W := W) (C := C) (f := 3) (args := us) hC0 hk0 hbd (law_walk hL hC0 hk0 hR (max_of (show W.ShapedOpen Tryz.prog from hsh) (of_decide_eq_true (by kernel_rfl)) (t := 3) (by kernel_rfl) (by kernel_rfl) (by kernel_rfl) Tryz.underlying3))
  rw [has] at hcall
  have hlen := trods_len hA
  rw [Tryz.params3] at hlen
  obtain rfl : ds = [] := by
    match ds, hlen with
    | [], _ => rfl
  refine hcall.mono fun e W' ⟨he, hk, hheap⟩ => ?_
  subst he
  refine ⟨_, rfl, _, _, _, [], p, [], hW', trodAll_mk1 (shut_bool Tryz.underlying4 true), ?_, ?_, hk _, fun h => by cases h⟩
  · exact all_kept hheap hty hA
  · exact hV
theorem law_holds : Rows.ScriptBoundsSaid :=
  OpenClaim.holds_of_wide 3 Tryz.f3 rfl rfl rfl rfl rfl rfl rfl ⟨rfl, rfl, rfl, rfl, rfl⟩ rfl rfl rfl rfl rfl (by kernel_rfl) Tryz.func3 (by kernel_rfl)
    (of_decide_eq_true (by kernel_rfl)) (by unfold Func.isWrapper; first | (rw [if_pos (by decide +kernel)]; kernel_rfl) | (rw [if_neg (by decide +kernel)]; exact ⟨rfl, rfl⟩))
    (fun os started H enc _ => law_lifted os started H enc)
theorem card_holds : Rows.ScriptBoundsCardSaid :=
  Claim7.holds_tied_plain_at .later [] [.data, .data, .data, .data, .sentinel, .sentinel, .pinned, .pinned] true (true, "a0372ae48e293b595578175f6ac129cab9c29302d84dc6d8caace63cd08cf7c3") true
    law_holds (fun _ h => by cases h) (by kernel_rfl) (fun _ h => by cases h) scriptBounds_row_tie rfl ⟨rfl, rfl⟩ (by kernel_rfl) rfl
    (fun f fn hf hfn => by
      obtain rfl : f = 3 := Option.some.inj ((show Tryz.prog.funcNamed "steading/steadinglaw29.ScriptBounds" = some 3 by kernel_rfl).symm.trans hf) |>.symm
      obtain rfl : fn = Tryz.f3 := (Option.some.inj (Tryz.func3.symm.trans hfn)).symm
      exact ⟨by kernel_rfl, fun j t ht => by
        rw [Tryz.params3] at ht
        rw [← Array.getElem?_toList] at ht
        have hm := List.mem_of_getElem? ht
        cases hm⟩)
    (by kernel_rfl)
#print axioms card_holds
end Go.Proofs.YtakeaojhkcbheaaGreatDoor
