/- What is proved here: the law ShellTexts returns true for every input, as the given card says. Conditions: those of the given row (the package-level variables that it lists read as the program lays them). -/
import Derived.Test.YtmbpllipombieaaDoorRun
import Derived.Test.YtmbpllipombieaaDoorRows
import Derived.Test.YtmbpllipombieaaDoorCards
import Derived.Test.YtmbpllipombieaaDoorTie
import Derived.ProofKit
import Derived.OpenShut
import Derived.LaidMore
import Derived.Lay
import Derived.SevenTiedAt
import Derived.Stop.Joined
set_option linter.unusedSimpArgs false
set_option linter.unusedVariables false
set_option maxRecDepth 100000
namespace Go.Proofs.YtmbpllipombieaaDoor
open Go Ev
open Go.ChangeShapes Go.WideShapes Go.ChangeAt Go.RowKit
theorem own : ownKnob Tryd.prog.godebug = none := by kernel_rfl
theorem iL : Tryd.prog.follows .mixedOrders = true := by kernel_rfl
theorem wI {H : Type} {enc : TypeId × Value → H} {P : Program} {W : World} {sp : Nat → Bool} {held : Bool} : ∀ {ts : List TypeId} {vs : List Value} {ds : List (DataW H)} {ps : List MemPlace}, DataW.TrodAll enc P W 0 sp held ts vs ds ps → ds.length = ts.length
  | [], [], [], ps, h => rfl
  | [], [], _ :: _, ps, h => by cases h
  | [], _ :: _, ds, ps, h => by cases ds <;> cases h
  | _ :: _, [], ds, ps, h => by cases ds <;> cases h
  | _ :: _, _ :: _, [], ps, h => by cases h
  | t :: ts, v :: vs, d :: ds, ps, h => by
    obtain ⟨p, q, h1, h2, _⟩ := h
    rw [List.length_cons, List.length_cons, wI h2]
noncomputable def ph0 : Nat → Option CF := fun k => phi.get k
theorem ku : eR Tryd.prog ph0 := Sp
theorem bz1 : dh Tryd.prog 87 (aO RG) := o87 iL ku (by kernel_rfl)
theorem bz2 : dh Tryd.prog 88 (aO h88) := o88 iL ku (by kernel_rfl)
theorem by9 : dh Tryd.prog 78 (aO h78) := o78 iL ku (by kernel_rfl)
theorem by8 : dh Tryd.prog 69 (aO h78) := o69 iL ku (by kernel_rfl)
theorem by7 : dh Tryd.prog 68 (aO h75) := o68 iL ku (by kernel_rfl)
theorem by6 : dh Tryd.prog 65 (aO h65) := o65 iL ku (by kernel_rfl)
theorem bz0 : dh Tryd.prog 84 (aO h84) := o84 iL ku (by kernel_rfl)
noncomputable def ph1 : Nat → Option CF := (Bw (Bw (Bw (Bw (Bw (Bw (Bw (Bw ph0 87 (.orc (aO RG))) 88 (.orc (aO h88))) 78 (.orc (aO h78))) 69 (.orc (aO h78))) 68 (.orc (aO h75))) 65 (.orc (aO h65))) 84 (.orc (aO h84))) 9 (.orc (yf IC)))
theorem DG : eR Tryd.prog ph1 := (fT (fT (fT (fT (fT (fT (fT (fT ku bz1) bz2) by9) by8) by7) by6) bz0) (f := 9) (g := yf IC) (rN iL Sp ran))
theorem bz3 : dh Tryd.prog 73 (aO h73) := o73 iL DG (by kernel_rfl) (by kernel_rfl)
theorem bz4 : dh Tryd.prog 76 (aO h88) := o76 iL DG (by kernel_rfl) (by kernel_rfl)
noncomputable def ph2 : Nat → Option CF := (Bw (Bw ph1 73 (.orc (aO h73))) 76 (.orc (aO h88)))
theorem DH : eR Tryd.prog ph2 := (fT (fT DG bz3) bz4)
theorem bz6 : dh Tryd.prog 75 (aO h75) := o75 iL DH (by kernel_rfl) (by kernel_rfl)
theorem bz5 : dh Tryd.prog 55 (aO h55) := o55 iL DH (by kernel_rfl) (by kernel_rfl)
noncomputable def ph3 : Nat → Option CF := (Bw (Bw ph2 75 (.orc (aO h75))) 55 (.orc (aO h55)))
theorem Sn : eR Tryd.prog ph3 := (fT (fT DH bz6) bz5)
theorem bz7 : dh Tryd.prog 77 (aO h77) := o77 iL Sn (by kernel_rfl) (by kernel_rfl) (by kernel_rfl)
noncomputable def ph4 : Nat → Option CF := (Bw ph3 77 (.orc (aO h77)))
theorem aV3 : eR Tryd.prog ph4 := (fT Sn bz7)
def Bv : List Ty := [tK]
theorem ce9 (W : World) (hL : laidMet Tryd.prog Rows.shellTextsRow.laid W) : vv W (2, .u8, [(.ofNat 0), (.ofNat 1), (.ofNat 28), (.ofNat 2), (.ofNat 29), (.ofNat 14), (.ofNat 24), (.ofNat 3), (.ofNat 30), (.ofNat 22), (.ofNat 20), (.ofNat 15), (.ofNat 25), (.ofNat 17), (.ofNat 4), (.ofNat 8), (.ofNat 31), (.ofNat 27), (.ofNat 13), (.ofNat 23), (.ofNat 21), (.ofNat 19), (.ofNat 16), (.ofNat 7), (.ofNat 26), (.ofNat 12), (.ofNat 18), (.ofNat 6), (.ofNat 11), (.ofNat 5), (.ofNat 10), (.ofNat 9)]) := uk (name := "math/bits.deBruijn32tab") (t := 146) (e := 5) (n := 32) (by kernel_rfl) (by kernel_rfl) (by kernel_rfl) (by kernel_rfl) (by kernel_rfl) (by kernel_rfl) (laid := Rows.shellTextsRow.laid) (List.Mem.head _) hL
theorem cf0 (W : World) (hL : laidMet Tryd.prog Rows.shellTextsRow.laid W) : vv W (3, .u8, [(.ofNat 0), (.ofNat 1), (.ofNat 56), (.ofNat 2), (.ofNat 57), (.ofNat 49), (.ofNat 28), (.ofNat 3), (.ofNat 61), (.ofNat 58), (.ofNat 42), (.ofNat 50), (.ofNat 38), (.ofNat 29), (.ofNat 17), (.ofNat 4), (.ofNat 62), (.ofNat 47), (.ofNat 59), (.ofNat 36), (.ofNat 45), (.ofNat 43), (.ofNat 51), (.ofNat 22), (.ofNat 53), (.ofNat 39), (.ofNat 33), (.ofNat 30), (.ofNat 24), (.ofNat 18), (.ofNat 12), (.ofNat 5), (.ofNat 63), (.ofNat 55), (.ofNat 48), (.ofNat 27), (.ofNat 60), (.ofNat 41), (.ofNat 37), (.ofNat 16), (.ofNat 46), (.ofNat 35), (.ofNat 44), (.ofNat 21), (.ofNat 52), (.ofNat 32), (.ofNat 23), (.ofNat 11), (.ofNat 54), (.ofNat 26), (.ofNat 40), (.ofNat 15), (.ofNat 34), (.ofNat 20), (.ofNat 31), (.ofNat 10), (.ofNat 25), (.ofNat 14), (.ofNat 19), (.ofNat 9), (.ofNat 13), (.ofNat 8), (.ofNat 7), (.ofNat 6)]) := uk (name := "math/bits.deBruijn64tab") (t := 147) (e := 5) (n := 64) (by kernel_rfl) (by kernel_rfl) (by kernel_rfl) (by kernel_rfl) (by kernel_rfl) (by kernel_rfl) (laid := Rows.shellTextsRow.laid) (List.Mem.tail _ (List.Mem.head _)) hL
theorem cf1 (W : World) (hL : laidMet Tryd.prog Rows.shellTextsRow.laid W) : vv W (0, .u64, [(.ofNat 1), (.ofNat 10), (.ofNat 100), (.ofNat 1000), (.ofNat 10000), (.ofNat 100000), (.ofNat 1000000), (.ofNat 10000000), (.ofNat 100000000), (.ofNat 1000000000), (.ofNat 10000000000), (.ofNat 100000000000), (.ofNat 1000000000000), (.ofNat 10000000000000), (.ofNat 100000000000000), (.ofNat 1000000000000000), (.ofNat 10000000000000000), (.ofNat 100000000000000000), (.ofNat 1000000000000000000), (.ofNat 10000000000000000000)]) := uk (name := "internal/strconv.uint64pow10") (t := 139) (e := 131) (n := 20) (by kernel_rfl) (by kernel_rfl) (by kernel_rfl) (by kernel_rfl) (by kernel_rfl) (by kernel_rfl) (laid := Rows.shellTextsRow.laid) (List.Mem.tail _ (List.Mem.tail _ (List.Mem.head _))) hL
theorem XW {W : World} (hL : laidMet Tryd.prog Rows.shellTextsRow.laid W) (C : Nat) : fR (eB W C) IC = true := w8 (fun t ht => by
  simp only [IC, List.mem_cons, List.mem_nil_iff, or_false] at ht
  rcases ht with rfl | rfl | rfl
  · exact ⟨by decide, ce9 W hL⟩
  · exact ⟨by decide, cf0 W hL⟩
  · exact ⟨by decide, cf1 W hL⟩)
theorem RZ {W : World} (hL : laidMet Tryd.prog Rows.shellTextsRow.laid W) {C : Nat} (hC : W.heap.size ≤ C) (hk : 1000 ≤ C) {us : List V} (hR : J6 (eB W C) C 140737488351232 Bv us) : Ev.Calls ph4 (eB W C) 4 us .e C fun v _ _ => v = .b true := by
  obtain ⟨vs, x, a1, rfl, ⟨h1, z1⟩, rfl⟩ := hR
  obtain ⟨v1, l1, e1, hl1, hb1⟩ := S1 h1 z1
  rw [e1]
  exact l4 ph4 (L := IC) (by kernel_rfl) (by kernel_rfl) (by kernel_rfl) (by kernel_rfl) (by kernel_rfl) (by kernel_rfl) (by kernel_rfl) (by kernel_rfl) (by kernel_rfl) (by kernel_rfl) (by kernel_rfl) (by kernel_rfl) (by kernel_rfl) (by kernel_rfl) (by kernel_rfl) (by kernel_rfl) (by kernel_rfl) (by kernel_rfl) (by kernel_rfl) (by kernel_rfl) (by kernel_rfl) (by kernel_rfl) (by kernel_rfl) (by kernel_rfl) (by kernel_rfl) (by kernel_rfl) (by kernel_rfl) (by kernel_rfl) (by kernel_rfl) (by kernel_rfl) (by kernel_rfl) (by kernel_rfl) (by kernel_rfl) (by kernel_rfl) (by kernel_rfl) (by kernel_rfl) (by kernel_rfl) (by kernel_rfl) (by kernel_rfl) (by kernel_rfl) (by kernel_rfl) (by kernel_rfl) (by kernel_rfl) (by kernel_rfl) (by kernel_rfl) (by kernel_rfl) (by kernel_rfl) (by kernel_rfl) (by kernel_rfl) (by kernel_rfl) (by kernel_rfl) (by kernel_rfl) (by kernel_rfl) (by kernel_rfl) (by kernel_rfl) (Sc hC hk) (XW hL C) hl1 hb1
theorem Dq (os : Os) (started : os.Started) (H : Type) (enc : TypeId × Value → H) :
    ReturnsInHanded {} Tryd.checked os 4 .any (fun w args => (Rows.shellTextsSpec.pre enc Tryd.prog Tryd.f4 Rows.shellTextsRow.domain false w args ∧ laidMetH Tryd.prog Rows.shellTextsRow.laid w) ∧ sizedMet enc Tryd.prog Tryd.f4 (OpenSpec.ofChange Rows.shellTextsSpec) false w args)
      (Rows.shellTextsSpec.post enc Tryd.prog Tryd.f4 false true false false) := by
  refine returnsInHanded_of_change_and (C := Tryd.checked) (X := fun w _ => laidMetH Tryd.prog Rows.shellTextsRow.laid w) (fun _ _ _ hh h => h.of_heap hh) own started (by kernel_rfl) Tryd.func4
    (ChangeSpec.witness_shaped (enc := enc) (C := Tryd.checked) (os := os) (X := fun w _ => laidMetH Tryd.prog Rows.shellTextsRow.laid w) false (World.laidAll Tryd.prog os Rows.shellTextsRow.laid) #[.agg #[.slice none 0 0]] 8 (World.laidAll_os _ _ _)
      (World.shaped_of_ZipB (by kernel_rfl) (by kernel_rfl)) (by kernel_rfl) (by kernel_rfl) (by kernel_rfl)
      (by rw [MakeChecks.laidMetH_plain _ _ _ (by kernel_rfl)]; exact laidMet_laidAll _ (by kernel_rfl) (by kernel_rfl))) ?_
  intro W base args ds gs before hval0 hW hc hwt hL _
  have hW' := hW
  obtain ⟨p, q, hA0, hV, rfl, _, _⟩ := hW
  have hA : DataW.TrodAll enc Tryd.prog W 0 (fun _ => true) true Tryd.f4.params.toList args.toList ds p := hA0
  obtain ⟨rfl, rfl⟩ := trodVars_none hV
  rw [MakeChecks.laidMetH_plain _ _ _ (by kernel_rfl)] at hL
  have hty : ID Tryd.prog Bv Tryd.f4.params.toList = true := by kernel_rfl
  obtain ⟨C, hk0, hC0, hD⟩ := aP8 W
  obtain ⟨us, has, hbd, hR⟩ := zG (B := 140737488351232) (fun _ => rfl) (C := C) hC0 hty hA (fun j t v ht hv => hval0 j t v (by rw [← Array.getElem?_toList]; exact ht) (by rw [← Array.getElem?_toList]; exact hv)) (fun _ => hD) (fun n hn => of_decide_eq_true (List.all_eq_true.1 (show (DataW.weightsEach Tryd.prog Tryd.f4.params.toList ds).all (fun x => decide (x ≤ 140737488351232)) = true by have h := hwt; rw [List.append_nil] at h; exact h) n hn))
  have hcall := aT1 iL aV3 (W := W) (C := C) (f := 4) (args := us) hC0 hk0 hbd (RZ hL hC0 hk0 hR)
  rw [has] at hcall
  have hlen := wI hA
  rw [Tryd.params4] at hlen
  obtain ⟨d1, rfl⟩ : ∃ d1, ds = [d1] := by
    match ds, hlen with
    | [d1], _ => exact ⟨d1, rfl⟩
  refine hcall.mono fun e W' ⟨he, hk, hheap⟩ => ?_
  subst he
  refine ⟨_, rfl, _, _, _, [], p, [], hW', trodAll_mk1 (shut_bool Tryd.underlying4 true), ?_, ?_, hk _, fun h => by cases h⟩
  · exact zD hheap hty hA
  · exact hV
theorem law_holds : Rows.ShellTextsSaid :=
  OpenClaim.holds_of_wide 4 Tryd.f4 rfl rfl rfl rfl rfl rfl rfl ⟨rfl, rfl, rfl, rfl, rfl⟩ rfl rfl rfl rfl rfl (by kernel_rfl) Tryd.func4 (by kernel_rfl)
    (of_decide_eq_true (by kernel_rfl)) (by unfold Func.isWrapper; first | (rw [if_pos (by decide +kernel)]; kernel_rfl) | (rw [if_neg (by decide +kernel)]; exact ⟨rfl, rfl⟩))
    (fun os started H enc _ => Dq os started H enc)
theorem card_holds : Rows.ShellTextsCardSaid :=
  Claim7.holds_tied_plain_at .later [] [.data, .data, .data] true (true, "2270e15249f9b873c26b916644616447053140a24bee2b698995d5265533c1fc") false
    law_holds (fun _ h => by cases h) (by kernel_rfl) (fun _ h => by cases h) shellTexts_row_tie rfl ⟨rfl, rfl⟩ (by kernel_rfl) rfl
    (fun f fn hf hfn => by
      obtain rfl : f = 4 := Option.some.inj ((show Tryd.prog.funcNamed "steading/steadinglaw26.ShellTexts" = some 4 by kernel_rfl).symm.trans hf) |>.symm
      obtain rfl : fn = Tryd.f4 := (Option.some.inj (Tryd.func4.symm.trans hfn)).symm
      exact ⟨by kernel_rfl, fun j t ht => by
        rw [Tryd.params4] at ht
        rw [← Array.getElem?_toList] at ht
        have hm := List.mem_of_getElem? ht
        simp only [List.mem_cons, List.mem_nil_iff, or_false] at hm
        rcases hm with rfl <;> first | (show Tryd.prog.wantsStandIn _ = false; kernel_rfl) | (show _ = false; kernel_rfl) | decide +kernel⟩)
    (by kernel_rfl)
#print axioms card_holds
end Go.Proofs.YtmbpllipombieaaDoor
