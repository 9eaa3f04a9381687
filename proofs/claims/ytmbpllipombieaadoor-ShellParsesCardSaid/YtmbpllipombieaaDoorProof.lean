/- What is proved here: the law ShellParses returns true for every input, as the given card says. Conditions: those of the given row (the package-level variables that it lists read as the program lays them). -/
import Derived.Test.YtmbpllipombieaaDoorRun
import Derived.Test.YtmbpllipombieaaDoorRows
import Derived.Test.YtmbpllipombieaaDoorCards
import Derived.Test.YtmbpllipombieaaDoorTie
import Derived.ProofKit
import Derived.OpenShut
import Derived.LaidMore
import Derived.Lay
import Derived.SevenTiedAt
import Derived.Stop.Joined
set_option linter.unusedSimpArgs false
set_option linter.unusedVariables false
set_option maxRecDepth 100000
namespace Go.Proofs.YtmbpllipombieaaDoor
open Go Ev
open Go.ChangeShapes Go.WideShapes Go.ChangeAt Go.RowKit
theorem own : ownKnob Tryd.prog.godebug = none := by kernel_rfl
theorem iQ : Tryd.prog.follows .mixedOrders = true := by kernel_rfl
theorem wT {H : Type} {enc : TypeId × Value → H} {P : Program} {W : World} {sp : Nat → Bool} {held : Bool} : ∀ {ts : List TypeId} {vs : List Value} {ds : List (DataW H)} {ps : List MemPlace}, DataW.TrodAll enc P W 0 sp held ts vs ds ps → ds.length = ts.length
  | [], [], [], ps, h => rfl
  | [], [], _ :: _, ps, h => by cases h
  | [], _ :: _, ds, ps, h => by cases ds <;> cases h
  | _ :: _, [], ds, ps, h => by cases ds <;> cases h
  | _ :: _, _ :: _, [], ps, h => by cases h
  | t :: ts, v :: vs, d :: ds, ps, h => by
    obtain ⟨p, q, h1, h2, _⟩ := h
    rw [List.length_cons, List.length_cons, wT h2]
noncomputable def ph0 : Nat → Option CF := fun k => phi.get k
theorem kq : ft Tryd.prog ph0 := T8
theorem bH6 : dy Tryd.prog 87 (aG Sv) := o87 iQ kq (by kernel_rfl)
theorem bH7 : dy Tryd.prog 88 (aG h88) := o88 iQ kq (by kernel_rfl)
theorem bH4 : dy Tryd.prog 78 (aG h78) := o78 iQ kq (by kernel_rfl)
theorem bH3 : dy Tryd.prog 69 (aG h78) := o69 iQ kq (by kernel_rfl)
theorem bH2 : dy Tryd.prog 68 (aG h75) := o68 iQ kq (by kernel_rfl)
theorem bH0 : dy Tryd.prog 44 (aG h44) := o44 iQ kq (by kernel_rfl)
theorem bH1 : dy Tryd.prog 65 (aG h65) := o65 iQ kq (by kernel_rfl)
theorem bH5 : dy Tryd.prog 84 (aG h84) := o84 iQ kq (by kernel_rfl)
noncomputable def ph1 : Nat → Option CF := (BG (BG (BG (BG (BG (BG (BG (BG (BG ph0 87 (.orc (aG Sv))) 88 (.orc (aG h88))) 78 (.orc (aG h78))) 69 (.orc (aG h78))) 68 (.orc (aG h75))) 44 (.orc (aG h44))) 65 (.orc (aG h65))) 84 (.orc (aG h84))) 9 (.orc (yq IL)))
theorem yw : ft Tryd.prog ph1 := (fZ (fZ (fZ (fZ (fZ (fZ (fZ (fZ (fZ kq bH6) bH7) bH4) bH3) bH2) bH0) bH1) bH5) (f := 9) (g := yq IL) (sf iQ T8 ran))
theorem bH8 : dy Tryd.prog 73 (aG h73) := o73 iQ yw (by kernel_rfl) (by kernel_rfl)
theorem bH9 : dy Tryd.prog 76 (aG h88) := o76 iQ yw (by kernel_rfl) (by kernel_rfl)
noncomputable def ph2 : Nat → Option CF := (BG (BG ph1 73 (.orc (aG h73))) 76 (.orc (aG h88)))
theorem DL : ft Tryd.prog ph2 := (fZ (fZ yw bH8) bH9)
theorem bI2 : dy Tryd.prog 75 (aG h75) := o75 iQ DL (by kernel_rfl) (by kernel_rfl)
theorem bI1 : dy Tryd.prog 55 (aG h55) := o55 iQ DL (by kernel_rfl) (by kernel_rfl)
noncomputable def ph3 : Nat → Option CF := (BG (BG ph2 75 (.orc (aG h75))) 55 (.orc (aG h55)))
theorem aX0 : ft Tryd.prog ph3 := (fZ (fZ DL bI2) bI1)
theorem bK1 : dy Tryd.prog 77 (aG h77) := o77 iQ aX0 (by kernel_rfl) (by kernel_rfl) (by kernel_rfl)
noncomputable def ph4 : Nat → Option CF := (BG ph3 77 (.orc (aG h77)))
theorem aX4 : ft Tryd.prog ph4 := (fZ aX0 bK1)
def BF : List Ty := [.str]
theorem cr2 (W : World) (hL : laidMet Tryd.prog Rows.shellParsesRow.laid W) : vM W (2, .u8, [(.ofNat 0), (.ofNat 1), (.ofNat 28), (.ofNat 2), (.ofNat 29), (.ofNat 14), (.ofNat 24), (.ofNat 3), (.ofNat 30), (.ofNat 22), (.ofNat 20), (.ofNat 15), (.ofNat 25), (.ofNat 17), (.ofNat 4), (.ofNat 8), (.ofNat 31), (.ofNat 27), (.ofNat 13), (.ofNat 23), (.ofNat 21), (.ofNat 19), (.ofNat 16), (.ofNat 7), (.ofNat 26), (.ofNat 12), (.ofNat 18), (.ofNat 6), (.ofNat 11), (.ofNat 5), (.ofNat 10), (.ofNat 9)]) := uv (name := "math/bits.deBruijn32tab") (t := 146) (e := 5) (n := 32) (by kernel_rfl) (by kernel_rfl) (by kernel_rfl) (by kernel_rfl) (by kernel_rfl) (by kernel_rfl) (laid := Rows.shellParsesRow.laid) (List.Mem.head _) hL
theorem cr3 (W : World) (hL : laidMet Tryd.prog Rows.shellParsesRow.laid W) : vM W (3, .u8, [(.ofNat 0), (.ofNat 1), (.ofNat 56), (.ofNat 2), (.ofNat 57), (.ofNat 49), (.ofNat 28), (.ofNat 3), (.ofNat 61), (.ofNat 58), (.ofNat 42), (.ofNat 50), (.ofNat 38), (.ofNat 29), (.ofNat 17), (.ofNat 4), (.ofNat 62), (.ofNat 47), (.ofNat 59), (.ofNat 36), (.ofNat 45), (.ofNat 43), (.ofNat 51), (.ofNat 22), (.ofNat 53), (.ofNat 39), (.ofNat 33), (.ofNat 30), (.ofNat 24), (.ofNat 18), (.ofNat 12), (.ofNat 5), (.ofNat 63), (.ofNat 55), (.ofNat 48), (.ofNat 27), (.ofNat 60), (.ofNat 41), (.ofNat 37), (.ofNat 16), (.ofNat 46), (.ofNat 35), (.ofNat 44), (.ofNat 21), (.ofNat 52), (.ofNat 32), (.ofNat 23), (.ofNat 11), (.ofNat 54), (.ofNat 26), (.ofNat 40), (.ofNat 15), (.ofNat 34), (.ofNat 20), (.ofNat 31), (.ofNat 10), (.ofNat 25), (.ofNat 14), (.ofNat 19), (.ofNat 9), (.ofNat 13), (.ofNat 8), (.ofNat 7), (.ofNat 6)]) := uv (name := "math/bits.deBruijn64tab") (t := 147) (e := 5) (n := 64) (by kernel_rfl) (by kernel_rfl) (by kernel_rfl) (by kernel_rfl) (by kernel_rfl) (by kernel_rfl) (laid := Rows.shellParsesRow.laid) (List.Mem.tail _ (List.Mem.head _)) hL
theorem cr4 (W : World) (hL : laidMet Tryd.prog Rows.shellParsesRow.laid W) : vM W (0, .u64, [(.ofNat 1), (.ofNat 10), (.ofNat 100), (.ofNat 1000), (.ofNat 10000), (.ofNat 100000), (.ofNat 1000000), (.ofNat 10000000), (.ofNat 100000000), (.ofNat 1000000000), (.ofNat 10000000000), (.ofNat 100000000000), (.ofNat 1000000000000), (.ofNat 10000000000000), (.ofNat 100000000000000), (.ofNat 1000000000000000), (.ofNat 10000000000000000), (.ofNat 100000000000000000), (.ofNat 1000000000000000000), (.ofNat 10000000000000000000)]) := uv (name := "internal/strconv.uint64pow10") (t := 139) (e := 131) (n := 20) (by kernel_rfl) (by kernel_rfl) (by kernel_rfl) (by kernel_rfl) (by kernel_rfl) (by kernel_rfl) (laid := Rows.shellParsesRow.laid) (List.Mem.tail _ (List.Mem.tail _ (List.Mem.head _))) hL
theorem Yl {W : World} (hL : laidMet Tryd.prog Rows.shellParsesRow.laid W) (C : Nat) : fY (eF W C) IL = true := wp (fun t ht => by
  simp only [IL, List.mem_cons, List.mem_nil_iff, or_false] at ht
  rcases ht with rfl | rfl | rfl
  · exact ⟨by decide, cr2 W hL⟩
  · exact ⟨by decide, cr3 W hL⟩
  · exact ⟨by decide, cr4 W hL⟩)
theorem SK {W : World} (hL : laidMet Tryd.prog Rows.shellParsesRow.laid W) {C : Nat} (hC : W.heap.size ≤ C) (hk : 1000 ≤ C) {us : List V} (hR : Jf (eF W C) C BF us) : Ev.Calls ph4 (eF W C) 3 us .e C fun v _ _ => v = .b true := by
  obtain ⟨vs, x, a1, rfl, h1, rfl⟩ := hR
  obtain ⟨s, rfl⟩ := Yh h1
  exact l3 ph4 (L := IL) (by kernel_rfl) (by kernel_rfl) (by kernel_rfl) (by kernel_rfl) (by kernel_rfl) (by kernel_rfl) (by kernel_rfl) (by kernel_rfl) (by kernel_rfl) (by kernel_rfl) (by kernel_rfl) (by kernel_rfl) (by kernel_rfl) (by kernel_rfl) (by kernel_rfl) (by kernel_rfl) (by kernel_rfl) (by kernel_rfl) (by kernel_rfl) (by kernel_rfl) (by kernel_rfl) (by kernel_rfl) (by kernel_rfl) (by kernel_rfl) (by kernel_rfl) (by kernel_rfl) (by kernel_rfl) (by kernel_rfl) (by kernel_rfl) (by kernel_rfl) (by kernel_rfl) (by kernel_rfl) (by kernel_rfl) (by kernel_rfl) (by kernel_rfl) (by kernel_rfl) (by kernel_rfl) (by kernel_rfl) (by kernel_rfl) (by kernel_rfl) (by kernel_rfl) (by kernel_rfl) (by kernel_rfl) (by kernel_rfl) (by kernel_rfl) (by kernel_rfl) (by kernel_rfl) (by kernel_rfl) (by kernel_rfl) (by kernel_rfl) (by kernel_rfl) (by kernel_rfl) (by kernel_rfl) (by kernel_rfl) (by kernel_rfl) (by kernel_rfl) (by kernel_rfl) (SX hC hk) (Yl hL C) s
theorem Dz (os : Os) (started : os.Started) (H : Type) (enc : TypeId × Value → H) :
    ReturnsInHanded {} Tryd.checked os 3 .any (fun w args => (Rows.shellParsesSpec.pre enc Tryd.prog Tryd.f3 Rows.shellParsesRow.domain false w args ∧ laidMetH Tryd.prog Rows.shellParsesRow.laid w) ∧ sizedMet enc Tryd.prog Tryd.f3 (OpenSpec.ofChange Rows.shellParsesSpec) false w args)
      (Rows.shellParsesSpec.post enc Tryd.prog Tryd.f3 false true false false) := by
  refine returnsInHanded_of_change_and (C := Tryd.checked) (X := fun w _ => laidMetH Tryd.prog Rows.shellParsesRow.laid w) (fun _ _ _ hh h => h.of_heap hh) own started (by kernel_rfl) Tryd.func3
    (ChangeSpec.witness_shaped (enc := enc) (C := Tryd.checked) (os := os) (X := fun w _ => laidMetH Tryd.prog Rows.shellParsesRow.laid w) false (World.laidAll Tryd.prog os Rows.shellParsesRow.laid) #[.string ⟨#[]⟩] 8 (World.laidAll_os _ _ _)
      (World.shaped_of_ZipB (by kernel_rfl) (by kernel_rfl)) (by kernel_rfl) (by kernel_rfl) (by kernel_rfl)
      (by rw [MakeChecks.laidMetH_plain _ _ _ (by kernel_rfl)]; exact laidMet_laidAll _ (by kernel_rfl) (by kernel_rfl))) ?_
  intro W base args ds gs before hval0 hW hc _ hL _
  have hW' := hW
  obtain ⟨p, q, hA0, hV, rfl, _, _⟩ := hW
  have hA : DataW.TrodAll enc Tryd.prog W 0 (fun _ => true) true Tryd.f3.params.toList args.toList ds p := hA0
  obtain ⟨rfl, rfl⟩ := trodVars_none hV
  rw [MakeChecks.laidMetH_plain _ _ _ (by kernel_rfl)] at hL
  have hty : IM Tryd.prog BF Tryd.f3.params.toList = true := by kernel_rfl
  obtain ⟨C, hk0, hC0, hD⟩ := aR9 W
  obtain ⟨us, has, hbd, hR⟩ := F8 (fun _ => rfl) (C := C) hC0 hty hA (fun j t v ht hv => hval0 j t v (by rw [← Array.getElem?_toList]; exact ht) (by rw [← Array.getElem?_toList]; exact hv)) (fun _ => hD)
  have hcall := aU9 iQ aX4 (W := W) (C := C) (f := 3) (args := us) hC0 hk0 hbd (SK hL hC0 hk0 hR)
  rw [has] at hcall
  have hlen := wT hA
  rw [Tryd.params3] at hlen
  obtain ⟨d1, rfl⟩ : ∃ d1, ds = [d1] := by
    match ds, hlen with
    | [d1], _ => exact ⟨d1, rfl⟩
  refine hcall.mono fun e W' ⟨he, hk, hheap⟩ => ?_
  subst he
  refine ⟨_, rfl, _, _, _, [], p, [], hW', trodAll_mk1 (shut_bool Tryd.underlying4 true), ?_, ?_, hk _, fun h => by cases h⟩
  · exact zF hheap hty hA
  · exact hV
theorem law_holds : Rows.ShellParsesSaid :=
  OpenClaim.holds_of_wide 3 Tryd.f3 rfl rfl rfl rfl rfl rfl rfl ⟨rfl, rfl, rfl, rfl, rfl⟩ rfl rfl rfl rfl rfl (by kernel_rfl) Tryd.func3 (by kernel_rfl)
    (of_decide_eq_true (by kernel_rfl)) (by unfold Func.isWrapper; first | (rw [if_pos (by decide +kernel)]; kernel_rfl) | (rw [if_neg (by decide +kernel)]; exact ⟨rfl, rfl⟩))
    (fun os started H enc _ => Dz os started H enc)
theorem card_holds : Rows.ShellParsesCardSaid :=
  Claim7.holds_tied_plain_at .later [] [.data, .data, .data] true (true, "2270e15249f9b873c26b916644616447053140a24bee2b698995d5265533c1fc") false
    law_holds (fun _ h => by cases h) (by kernel_rfl) (fun _ h => by cases h) shellParses_row_tie rfl ⟨rfl, rfl⟩ (by kernel_rfl) rfl
    (fun f fn hf hfn => by
      obtain rfl : f = 3 := Option.some.inj ((show Tryd.prog.funcNamed "steading/steadinglaw26.ShellParses" = some 3 by kernel_rfl).symm.trans hf) |>.symm
      obtain rfl : fn = Tryd.f3 := (Option.some.inj (Tryd.func3.symm.trans hfn)).symm
      exact ⟨by kernel_rfl, fun j t ht => by
        rw [Tryd.params3] at ht
        rw [← Array.getElem?_toList] at ht
        have hm := List.mem_of_getElem? ht
        simp only [List.mem_cons, List.mem_nil_iff, or_false] at hm
        rcases hm with rfl <;> first | (show Tryd.prog.wantsStandIn _ = false; kernel_rfl) | (show _ = false; kernel_rfl) | decide +kernel⟩)
    (by kernel_rfl)
#print axioms card_holds
end Go.Proofs.YtmbpllipombieaaDoor
