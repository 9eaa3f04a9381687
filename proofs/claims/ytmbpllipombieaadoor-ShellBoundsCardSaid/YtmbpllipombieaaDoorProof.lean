/- What is proved here: the law ShellBounds returns true for every input, as the given card says. Conditions: those of the given row (the package-level variables that it lists read as the program lays them). -/
import Derived.Test.YtmbpllipombieaaDoorRun
import Derived.Test.YtmbpllipombieaaDoorRows
import Derived.Test.YtmbpllipombieaaDoorCards
import Derived.Test.YtmbpllipombieaaDoorTie
import Derived.ProofKit
import Derived.OpenShut
import Derived.LaidMore
import Derived.Lay
import Derived.SevenTiedAt
import Derived.Stop.Joined
set_option linter.unusedSimpArgs false
set_option linter.unusedVariables false
set_option maxRecDepth 100000
namespace Go.Proofs.YtmbpllipombieaaDoor
open Go Ev
open Go.ChangeShapes Go.WideShapes Go.ChangeAt Go.RowKit
theorem own : ownKnob Tryd.prog.godebug = none := by kernel_rfl
theorem ke : Tryd.prog.follows .mixedOrders = true := by kernel_rfl
theorem u0 {H : Type} {enc : TypeId × Value → H} {P : Program} {W : World} {sp : Nat → Bool} {held : Bool} : ∀ {ts : List TypeId} {vs : List Value} {ds : List (DataW H)} {ps : List MemPlace}, DataW.TrodAll enc P W 0 sp held ts vs ds ps → ds.length = ts.length
  | [], [], [], ps, h => rfl
  | [], [], _ :: _, ps, h => by cases h
  | [], _ :: _, ds, ps, h => by cases ds <;> cases h
  | _ :: _, [], ds, ps, h => by cases ds <;> cases h
  | _ :: _, _ :: _, [], ps, h => by cases h
  | t :: ts, v :: vs, d :: ds, ps, h => by
    obtain ⟨p, q, h1, h2, _⟩ := h
    rw [List.length_cons, List.length_cons, u0 h2]
noncomputable def ph0 : Nat → Option CF := fun k => phi.get k
theorem ri : en Tryd.prog ph0 := ME
theorem aS8 : dK Tryd.prog 87 (bh LM) := o87 ke ri (by kernel_rfl)
theorem aS9 : dK Tryd.prog 88 (bh h88) := o88 ke ri (by kernel_rfl)
theorem aS7 : dK Tryd.prog 78 (bh FY) := o78 ke ri (by kernel_rfl)
theorem aS6 : dK Tryd.prog 24 (bh h24) := o24 ke ri (by kernel_rfl)
noncomputable def ph1 : Nat → Option CF := (G3 (G3 (G3 (G3 (G3 ph0 87 (.orc (bh LM))) 88 (.orc (bh h88))) 78 (.orc (bh FY))) 24 (.orc (bh h24))) 9 (.orc (uX FA)))
theorem Av : en Tryd.prog ph1 := (iD (iD (iD (iD (iD ri aS8) aS9) aS7) aS6) (f := 9) (g := uX FA) (pE ke ME ran))
theorem aT0 : dK Tryd.prog 73 (bh h73) := o73 ke Av (by kernel_rfl) (by kernel_rfl)
theorem aT1 : dK Tryd.prog 76 (bh h88) := o76 ke Av (by kernel_rfl) (by kernel_rfl)
noncomputable def ph2 : Nat → Option CF := (G3 (G3 ph1 73 (.orc (bh h73))) 76 (.orc (bh h88)))
theorem Aw : en Tryd.prog ph2 := (iD (iD Av aT0) aT1)
theorem aT3 : dK Tryd.prog 75 (bh h75) := o75 ke Aw (by kernel_rfl) (by kernel_rfl)
theorem aT2 : dK Tryd.prog 55 (bh h55) := o55 ke Aw (by kernel_rfl) (by kernel_rfl)
noncomputable def ph3 : Nat → Option CF := (G3 (G3 ph2 75 (.orc (bh h75))) 55 (.orc (bh h55)))
theorem MC : en Tryd.prog ph3 := (iD (iD Aw aT3) aT2)
theorem aT4 : dK Tryd.prog 77 (bh h77) := o77 ke MC (by kernel_rfl) (by kernel_rfl) (by kernel_rfl)
noncomputable def ph4 : Nat → Option CF := (G3 ph3 77 (.orc (bh h77)))
theorem ag7 : en Tryd.prog ph4 := (iD MC aT4)
def yG : List Ty := []
theorem bp9 (W : World) (hL : laidMet Tryd.prog Rows.shellBoundsRow.laid W) : sO W (2, .u8, [(.ofNat 0), (.ofNat 1), (.ofNat 28), (.ofNat 2), (.ofNat 29), (.ofNat 14), (.ofNat 24), (.ofNat 3), (.ofNat 30), (.ofNat 22), (.ofNat 20), (.ofNat 15), (.ofNat 25), (.ofNat 17), (.ofNat 4), (.ofNat 8), (.ofNat 31), (.ofNat 27), (.ofNat 13), (.ofNat 23), (.ofNat 21), (.ofNat 19), (.ofNat 16), (.ofNat 7), (.ofNat 26), (.ofNat 12), (.ofNat 18), (.ofNat 6), (.ofNat 11), (.ofNat 5), (.ofNat 10), (.ofNat 9)]) := rO (name := "math/bits.deBruijn32tab") (t := 146) (e := 5) (n := 32) (by kernel_rfl) (by kernel_rfl) (by kernel_rfl) (by kernel_rfl) (by kernel_rfl) (by kernel_rfl) (laid := Rows.shellBoundsRow.laid) (List.Mem.head _) hL
theorem bq0 (W : World) (hL : laidMet Tryd.prog Rows.shellBoundsRow.laid W) : sO W (3, .u8, [(.ofNat 0), (.ofNat 1), (.ofNat 56), (.ofNat 2), (.ofNat 57), (.ofNat 49), (.ofNat 28), (.ofNat 3), (.ofNat 61), (.ofNat 58), (.ofNat 42), (.ofNat 50), (.ofNat 38), (.ofNat 29), (.ofNat 17), (.ofNat 4), (.ofNat 62), (.ofNat 47), (.ofNat 59), (.ofNat 36), (.ofNat 45), (.ofNat 43), (.ofNat 51), (.ofNat 22), (.ofNat 53), (.ofNat 39), (.ofNat 33), (.ofNat 30), (.ofNat 24), (.ofNat 18), (.ofNat 12), (.ofNat 5), (.ofNat 63), (.ofNat 55), (.ofNat 48), (.ofNat 27), (.ofNat 60), (.ofNat 41), (.ofNat 37), (.ofNat 16), (.ofNat 46), (.ofNat 35), (.ofNat 44), (.ofNat 21), (.ofNat 52), (.ofNat 32), (.ofNat 23), (.ofNat 11), (.ofNat 54), (.ofNat 26), (.ofNat 40), (.ofNat 15), (.ofNat 34), (.ofNat 20), (.ofNat 31), (.ofNat 10), (.ofNat 25), (.ofNat 14), (.ofNat 19), (.ofNat 9), (.ofNat 13), (.ofNat 8), (.ofNat 7), (.ofNat 6)]) := rO (name := "math/bits.deBruijn64tab") (t := 147) (e := 5) (n := 64) (by kernel_rfl) (by kernel_rfl) (by kernel_rfl) (by kernel_rfl) (by kernel_rfl) (by kernel_rfl) (laid := Rows.shellBoundsRow.laid) (List.Mem.tail _ (List.Mem.head _)) hL
theorem bq1 (W : World) (hL : laidMet Tryd.prog Rows.shellBoundsRow.laid W) : sO W (0, .u64, [(.ofNat 1), (.ofNat 10), (.ofNat 100), (.ofNat 1000), (.ofNat 10000), (.ofNat 100000), (.ofNat 1000000), (.ofNat 10000000), (.ofNat 100000000), (.ofNat 1000000000), (.ofNat 10000000000), (.ofNat 100000000000), (.ofNat 1000000000000), (.ofNat 10000000000000), (.ofNat 100000000000000), (.ofNat 1000000000000000), (.ofNat 10000000000000000), (.ofNat 100000000000000000), (.ofNat 1000000000000000000), (.ofNat 10000000000000000000)]) := rO (name := "internal/strconv.uint64pow10") (t := 139) (e := 131) (n := 20) (by kernel_rfl) (by kernel_rfl) (by kernel_rfl) (by kernel_rfl) (by kernel_rfl) (by kernel_rfl) (laid := Rows.shellBoundsRow.laid) (List.Mem.tail _ (List.Mem.tail _ (List.Mem.head _))) hL
theorem RK {W : World} (hL : laidMet Tryd.prog Rows.shellBoundsRow.laid W) (C : Nat) : fi (dR W C) FA = true := tw (fun t ht => by
  simp only [FA, List.mem_cons, List.mem_nil_iff, or_false] at ht
  rcases ht with rfl | rfl | rfl
  · exact ⟨by decide, bp9 W hL⟩
  · exact ⟨by decide, bq0 W hL⟩
  · exact ⟨by decide, bq1 W hL⟩)
theorem Me {W : World} (hL : laidMet Tryd.prog Rows.shellBoundsRow.laid W) {C : Nat} (hC : W.heap.size ≤ C) (hk : 1000 ≤ C) {us : List V} (hR : Ge (dR W C) C yG us) : Ev.Calls ph4 (dR W C) 7 us .e C fun v _ _ => v = .b true := by
  obtain rfl : us = [] := hR
  exact l7 ph4 (L := FA) (by kernel_rfl) (by kernel_rfl) (by kernel_rfl) (by kernel_rfl) (by kernel_rfl) (by kernel_rfl) (by kernel_rfl) (by kernel_rfl) (by kernel_rfl) (by kernel_rfl) (by kernel_rfl) (by kernel_rfl) (by kernel_rfl) (by kernel_rfl) (by kernel_rfl) (by kernel_rfl) (by kernel_rfl) (by kernel_rfl) (by kernel_rfl) (by kernel_rfl) (by kernel_rfl) (by kernel_rfl) (by kernel_rfl) (by kernel_rfl) (by kernel_rfl) (by kernel_rfl) (by kernel_rfl) (by kernel_rfl) (by kernel_rfl) (by kernel_rfl) (by kernel_rfl) (by kernel_rfl) (by kernel_rfl) (by kernel_rfl) (by kernel_rfl) (by kernel_rfl) (by kernel_rfl) (by kernel_rfl) (by kernel_rfl) (by kernel_rfl) (by kernel_rfl) (by kernel_rfl) (by kernel_rfl) (by kernel_rfl) (by kernel_rfl) (by kernel_rfl) (by kernel_rfl) (Mt hC hk) (RK hL C)
theorem Ag (os : Os) (started : os.Started) (H : Type) (enc : TypeId × Value → H) :
    ReturnsInHanded {} Tryd.checked os 7 .any (fun w args => (Rows.shellBoundsSpec.pre enc Tryd.prog Tryd.f7 Rows.shellBoundsRow.domain false w args ∧ laidMetH Tryd.prog Rows.shellBoundsRow.laid w) ∧ sizedMet enc Tryd.prog Tryd.f7 (OpenSpec.ofChange Rows.shellBoundsSpec) false w args)
      (Rows.shellBoundsSpec.post enc Tryd.prog Tryd.f7 false true false false) := by
  refine returnsInHanded_of_change_and (C := Tryd.checked) (X := fun w _ => laidMetH Tryd.prog Rows.shellBoundsRow.laid w) (fun _ _ _ hh h => h.of_heap hh) own started (by kernel_rfl) Tryd.func7
    (ChangeSpec.witness_shaped (enc := enc) (C := Tryd.checked) (os := os) (X := fun w _ => laidMetH Tryd.prog Rows.shellBoundsRow.laid w) false (World.laidAll Tryd.prog os Rows.shellBoundsRow.laid) #[] 8 (World.laidAll_os _ _ _)
      (World.shaped_of_ZipB (by kernel_rfl) (by kernel_rfl)) (by kernel_rfl) (by kernel_rfl) (by kernel_rfl)
      (by rw [MakeChecks.laidMetH_plain _ _ _ (by kernel_rfl)]; exact laidMet_laidAll _ (by kernel_rfl) (by kernel_rfl))) ?_
  intro W base args ds gs before hval0 hW hc _ hL _
  have hW' := hW
  obtain ⟨p, q, hA0, hV, rfl, _, _⟩ := hW
  have hA : DataW.TrodAll enc Tryd.prog W 0 (fun _ => true) true Tryd.f7.params.toList args.toList ds p := hA0
  obtain ⟨rfl, rfl⟩ := trodVars_none hV
  rw [MakeChecks.laidMetH_plain _ _ _ (by kernel_rfl)] at hL
  have hty : FB Tryd.prog yG Tryd.f7.params.toList = true := by kernel_rfl
  obtain ⟨C, hk0, hC0, hD⟩ := ab7 W
  obtain ⟨us, has, hbd, hR⟩ := BX (fun _ => rfl) (C := C) hC0 hty hA (fun j t v ht hv => hval0 j t v (by rw [← Array.getElem?_toList]; exact ht) (by rw [← Array.getElem?_toList]; exact hv)) (fun _ => hD)
  have hcall := ae5 ke ag7 (W := W) (C := C) (f := 7) (args := us) hC0 hk0 hbd (Me hL hC0 hk0 hR)
  rw [has] at hcall
  have hlen := u0 hA
  rw [Tryd.params7] at hlen
  obtain rfl : ds = [] := by
    match ds, hlen with
    | [], _ => rfl
  refine hcall.mono fun e W' ⟨he, hk, hheap⟩ => ?_
  subst he
  refine ⟨_, rfl, _, _, _, [], p, [], hW', trodAll_mk1 (shut_bool Tryd.underlying4 true), ?_, ?_, hk _, fun h => by cases h⟩
  · exact wp hheap hty hA
  · exact hV
theorem law_holds : Rows.ShellBoundsSaid :=
  OpenClaim.holds_of_wide 7 Tryd.f7 rfl rfl rfl rfl rfl rfl rfl ⟨rfl, rfl, rfl, rfl, rfl⟩ rfl rfl rfl rfl rfl (by kernel_rfl) Tryd.func7 (by kernel_rfl)
    (of_decide_eq_true (by kernel_rfl)) (by unfold Func.isWrapper; first | (rw [if_pos (by decide +kernel)]; kernel_rfl) | (rw [if_neg (by decide +kernel)]; exact ⟨rfl, rfl⟩))
    (fun os started H enc _ => Ag os started H enc)
theorem card_holds : Rows.ShellBoundsCardSaid :=
  Claim7.holds_tied_plain_at .later [] [.data, .data, .data] true (true, "2270e15249f9b873c26b916644616447053140a24bee2b698995d5265533c1fc") false
    law_holds (fun _ h => by cases h) (by kernel_rfl) (fun _ h => by cases h) shellBounds_row_tie rfl ⟨rfl, rfl⟩ (by kernel_rfl) rfl
    (fun f fn hf hfn => by
      obtain rfl : f = 7 := Option.some.inj ((show Tryd.prog.funcNamed "steading/steadinglaw26.ShellBounds" = some 7 by kernel_rfl).symm.trans hf) |>.symm
      obtain rfl : fn = Tryd.f7 := (Option.some.inj (Tryd.func7.symm.trans hfn)).symm
      exact ⟨by kernel_rfl, fun j t ht => by
        rw [Tryd.params7] at ht
        rw [← Array.getElem?_toList] at ht
        have hm := List.mem_of_getElem? ht
        cases hm⟩)
    (by kernel_rfl)
#print axioms card_holds
end Go.Proofs.YtmbpllipombieaaDoor
