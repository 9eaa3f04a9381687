/- What is proved here: the law ShellBack returns true for every input, as the given card says. Conditions: those of the given row (the package-level variables that it lists read as the program lays them). -/
import Derived.Test.YtmbpllipombieaaDoorRun
import Derived.Test.YtmbpllipombieaaDoorRows
import Derived.Test.YtmbpllipombieaaDoorCards
import Derived.Test.YtmbpllipombieaaDoorTie
import Derived.ProofKit
import Derived.OpenShut
import Derived.LaidMore
import Derived.Lay
import Derived.SevenTiedAt
import Derived.Stop.Joined
set_option linter.unusedSimpArgs false
set_option linter.unusedVariables false
set_option maxRecDepth 100000
namespace Go.Proofs.YtmbpllipombieaaDoor
open Go Ev
open Go.ChangeShapes Go.WideShapes Go.ChangeAt Go.RowKit
theorem own : ownKnob Tryd.prog.godebug = none := by kernel_rfl
theorem kH : Tryd.prog.follows .mixedOrders = true := by kernel_rfl
theorem uw {H : Type} {enc : TypeId × Value → H} {P : Program} {W : World} {sp : Nat → Bool} {held : Bool} : ∀ {ts : List TypeId} {vs : List Value} {ds : List (DataW H)} {ps : List MemPlace}, DataW.TrodAll enc P W 0 sp held ts vs ds ps → ds.length = ts.length
  | [], [], [], ps, h => rfl
  | [], [], _ :: _, ps, h => by cases h
  | [], _ :: _, ds, ps, h => by cases ds <;> cases h
  | _ :: _, [], ds, ps, h => by cases ds <;> cases h
  | _ :: _, _ :: _, [], ps, h => by cases h
  | t :: ts, v :: vs, d :: ds, ps, h => by
    obtain ⟨p, q, h1, h2, _⟩ := h
    rw [List.length_cons, List.length_cons, uw h2]
noncomputable def ph0 : Nat → Option CF := fun k => phi.get k
theorem rP : eA Tryd.prog ph0 := MR
theorem aL2 : dK Tryd.prog 87 (aN Me) := o87 kH rP (by kernel_rfl)
theorem aL3 : dK Tryd.prog 88 (aN h88) := o88 kH rP (by kernel_rfl)
theorem aL1 : dK Tryd.prog 78 (aN Gg) := o78 kH rP (by kernel_rfl)
theorem aL0 : dK Tryd.prog 26 (aN h26) := o26 kH rP (by kernel_rfl)
noncomputable def ph1 : Nat → Option CF := (Gi (Gi (Gi (Gi (Gi ph0 87 (.orc (aN Me))) 88 (.orc (aN h88))) 78 (.orc (aN Gg))) 26 (.orc (aN h26))) 9 (.orc (vw FM)))
theorem AM : eA Tryd.prog ph1 := (iQ (iQ (iQ (iQ (iQ rP aL2) aL3) aL1) aL0) (f := 9) (g := vw FM) (qi kH MR ran))
theorem aL4 : dK Tryd.prog 73 (aN h73) := o73 kH AM (by kernel_rfl) (by kernel_rfl)
theorem aL5 : dK Tryd.prog 76 (aN h88) := o76 kH AM (by kernel_rfl) (by kernel_rfl)
noncomputable def ph2 : Nat → Option CF := (Gi (Gi ph1 73 (.orc (aN h73))) 76 (.orc (aN h88)))
theorem AN : eA Tryd.prog ph2 := (iQ (iQ AM aL4) aL5)
theorem aL7 : dK Tryd.prog 75 (aN h75) := o75 kH AN (by kernel_rfl) (by kernel_rfl)
theorem aL6 : dK Tryd.prog 55 (aN h55) := o55 kH AN (by kernel_rfl) (by kernel_rfl)
noncomputable def ph3 : Nat → Option CF := (Gi (Gi ph2 75 (.orc (aN h75))) 55 (.orc (aN h55)))
theorem MP : eA Tryd.prog ph3 := (iQ (iQ AN aL7) aL6)
theorem aL8 : dK Tryd.prog 77 (aN h77) := o77 kH MP (by kernel_rfl) (by kernel_rfl) (by kernel_rfl)
noncomputable def ph4 : Nat → Option CF := (Gi ph3 77 (.orc (aN h77)))
theorem ae3 : eA Tryd.prog ph4 := (iQ MP aL8)
def zb : List Ty := [.str, .str, .int .i64]
theorem bg1 (W : World) (hL : laidMet Tryd.prog Rows.shellBackRow.laid W) : tz W (2, .u8, [(.ofNat 0), (.ofNat 1), (.ofNat 28), (.ofNat 2), (.ofNat 29), (.ofNat 14), (.ofNat 24), (.ofNat 3), (.ofNat 30), (.ofNat 22), (.ofNat 20), (.ofNat 15), (.ofNat 25), (.ofNat 17), (.ofNat 4), (.ofNat 8), (.ofNat 31), (.ofNat 27), (.ofNat 13), (.ofNat 23), (.ofNat 21), (.ofNat 19), (.ofNat 16), (.ofNat 7), (.ofNat 26), (.ofNat 12), (.ofNat 18), (.ofNat 6), (.ofNat 11), (.ofNat 5), (.ofNat 10), (.ofNat 9)]) := sw (name := "math/bits.deBruijn32tab") (t := 146) (e := 5) (n := 32) (by kernel_rfl) (by kernel_rfl) (by kernel_rfl) (by kernel_rfl) (by kernel_rfl) (by kernel_rfl) (laid := Rows.shellBackRow.laid) (List.Mem.head _) hL
theorem bg2 (W : World) (hL : laidMet Tryd.prog Rows.shellBackRow.laid W) : tz W (3, .u8, [(.ofNat 0), (.ofNat 1), (.ofNat 56), (.ofNat 2), (.ofNat 57), (.ofNat 49), (.ofNat 28), (.ofNat 3), (.ofNat 61), (.ofNat 58), (.ofNat 42), (.ofNat 50), (.ofNat 38), (.ofNat 29), (.ofNat 17), (.ofNat 4), (.ofNat 62), (.ofNat 47), (.ofNat 59), (.ofNat 36), (.ofNat 45), (.ofNat 43), (.ofNat 51), (.ofNat 22), (.ofNat 53), (.ofNat 39), (.ofNat 33), (.ofNat 30), (.ofNat 24), (.ofNat 18), (.ofNat 12), (.ofNat 5), (.ofNat 63), (.ofNat 55), (.ofNat 48), (.ofNat 27), (.ofNat 60), (.ofNat 41), (.ofNat 37), (.ofNat 16), (.ofNat 46), (.ofNat 35), (.ofNat 44), (.ofNat 21), (.ofNat 52), (.ofNat 32), (.ofNat 23), (.ofNat 11), (.ofNat 54), (.ofNat 26), (.ofNat 40), (.ofNat 15), (.ofNat 34), (.ofNat 20), (.ofNat 31), (.ofNat 10), (.ofNat 25), (.ofNat 14), (.ofNat 19), (.ofNat 9), (.ofNat 13), (.ofNat 8), (.ofNat 7), (.ofNat 6)]) := sw (name := "math/bits.deBruijn64tab") (t := 147) (e := 5) (n := 64) (by kernel_rfl) (by kernel_rfl) (by kernel_rfl) (by kernel_rfl) (by kernel_rfl) (by kernel_rfl) (laid := Rows.shellBackRow.laid) (List.Mem.tail _ (List.Mem.head _)) hL
theorem bg3 (W : World) (hL : laidMet Tryd.prog Rows.shellBackRow.laid W) : tz W (0, .u64, [(.ofNat 1), (.ofNat 10), (.ofNat 100), (.ofNat 1000), (.ofNat 10000), (.ofNat 100000), (.ofNat 1000000), (.ofNat 10000000), (.ofNat 100000000), (.ofNat 1000000000), (.ofNat 10000000000), (.ofNat 100000000000), (.ofNat 1000000000000), (.ofNat 10000000000000), (.ofNat 100000000000000), (.ofNat 1000000000000000), (.ofNat 10000000000000000), (.ofNat 100000000000000000), (.ofNat 1000000000000000000), (.ofNat 10000000000000000000)]) := sw (name := "internal/strconv.uint64pow10") (t := 139) (e := 131) (n := 20) (by kernel_rfl) (by kernel_rfl) (by kernel_rfl) (by kernel_rfl) (by kernel_rfl) (by kernel_rfl) (laid := Rows.shellBackRow.laid) (List.Mem.tail _ (List.Mem.tail _ (List.Mem.head _))) hL
theorem Si {W : World} (hL : laidMet Tryd.prog Rows.shellBackRow.laid W) (C : Nat) : fq (dR W C) FM = true := u0 (fun t ht => by
  simp only [FM, List.mem_cons, List.mem_nil_iff, or_false] at ht
  rcases ht with rfl | rfl | rfl
  · exact ⟨by decide, bg1 W hL⟩
  · exact ⟨by decide, bg2 W hL⟩
  · exact ⟨by decide, bg3 W hL⟩)
theorem Mv {W : World} (hL : laidMet Tryd.prog Rows.shellBackRow.laid W) {C : Nat} (hC : W.heap.size ≤ C) (hk : 1000 ≤ C) {us : List V} (hR : Gs (dR W C) C zb us) : Ev.Calls ph4 (dR W C) 8 us .e C fun v _ _ => v = .b true := by
  obtain ⟨vs, x, a1, rfl, h1, vs2, y, a2, rfl, h2, vs3, z, a3, rfl, h3, rfl⟩ := hR
  obtain ⟨s, rfl⟩ := Dw h1
  obtain ⟨t, rfl⟩ := Dw h2
  obtain ⟨n, rfl, _⟩ := ab8 h3
  exact l8 ph4 (L := FM) (by kernel_rfl) (by kernel_rfl) (by kernel_rfl) (by kernel_rfl) (by kernel_rfl) (by kernel_rfl) (by kernel_rfl) (by kernel_rfl) (by kernel_rfl) (by kernel_rfl) (by kernel_rfl) (by kernel_rfl) (by kernel_rfl) (by kernel_rfl) (by kernel_rfl) (by kernel_rfl) (by kernel_rfl) (by kernel_rfl) (by kernel_rfl) (by kernel_rfl) (by kernel_rfl) (by kernel_rfl) (by kernel_rfl) (by kernel_rfl) (by kernel_rfl) (by kernel_rfl) (by kernel_rfl) (by kernel_rfl) (by kernel_rfl) (by kernel_rfl) (by kernel_rfl) (by kernel_rfl) (by kernel_rfl) (by kernel_rfl) (by kernel_rfl) (by kernel_rfl) (by kernel_rfl) (by kernel_rfl) (by kernel_rfl) (by kernel_rfl) (by kernel_rfl) (by kernel_rfl) (by kernel_rfl) (by kernel_rfl) (by kernel_rfl) (by kernel_rfl) (by kernel_rfl) (by kernel_rfl) (by kernel_rfl) (MG hC hk) (Si hL C) s t n
theorem Ax (os : Os) (started : os.Started) (H : Type) (enc : TypeId × Value → H) :
    ReturnsInHanded {} Tryd.checked os 8 .any (fun w args => (Rows.shellBackSpec.pre enc Tryd.prog Tryd.f8 Rows.shellBackRow.domain false w args ∧ laidMetH Tryd.prog Rows.shellBackRow.laid w) ∧ sizedMet enc Tryd.prog Tryd.f8 (OpenSpec.ofChange Rows.shellBackSpec) false w args)
      (Rows.shellBackSpec.post enc Tryd.prog Tryd.f8 false true false false) := by
  refine returnsInHanded_of_change_and (C := Tryd.checked) (X := fun w _ => laidMetH Tryd.prog Rows.shellBackRow.laid w) (fun _ _ _ hh h => h.of_heap hh) own started (by kernel_rfl) Tryd.func8
    (ChangeSpec.witness_shaped (enc := enc) (C := Tryd.checked) (os := os) (X := fun w _ => laidMetH Tryd.prog Rows.shellBackRow.laid w) false (World.laidAll Tryd.prog os Rows.shellBackRow.laid) #[.string ⟨#[]⟩, .string ⟨#[]⟩, .int .i64 0] 8 (World.laidAll_os _ _ _)
      (World.shaped_of_ZipB (by kernel_rfl) (by kernel_rfl)) (by kernel_rfl) (by kernel_rfl) (by kernel_rfl)
      (by rw [MakeChecks.laidMetH_plain _ _ _ (by kernel_rfl)]; exact laidMet_laidAll _ (by kernel_rfl) (by kernel_rfl))) ?_
  intro W base args ds gs before hval0 hW hc _ hL _
  have hW' := hW
  obtain ⟨p, q, hA0, hV, rfl, _, _⟩ := hW
  have hA : DataW.TrodAll enc Tryd.prog W 0 (fun _ => true) true Tryd.f8.params.toList args.toList ds p := hA0
  obtain ⟨rfl, rfl⟩ := trodVars_none hV
  rw [MakeChecks.laidMetH_plain _ _ _ (by kernel_rfl)] at hL
  have hty : FP Tryd.prog zb Tryd.f8.params.toList = true := by kernel_rfl
  obtain ⟨C, hk0, hC0, hD⟩ := a02 W
  obtain ⟨us, has, hbd, hR⟩ := Ce (fun _ => rfl) (C := C) hC0 hty hA (fun j t v ht hv => hval0 j t v (by rw [← Array.getElem?_toList]; exact ht) (by rw [← Array.getElem?_toList]; exact hv)) (fun _ => hD)
  have hcall := ac1 kH ae3 (W := W) (C := C) (f := 8) (args := us) hC0 hk0 hbd (Mv hL hC0 hk0 hR)
  rw [has] at hcall
  have hlen := uw hA
  rw [Tryd.params8] at hlen
  obtain ⟨d1, d2, d3, rfl⟩ : ∃ d1 d2 d3, ds = [d1, d2, d3] := by
    match ds, hlen with
    | [d1, d2, d3], _ => exact ⟨d1, d2, d3, rfl⟩
  refine hcall.mono fun e W' ⟨he, hk, hheap⟩ => ?_
  subst he
  refine ⟨_, rfl, _, _, _, [], p, [], hW', trodAll_mk1 (shut_bool Tryd.underlying4 true), ?_, ?_, hk _, fun h => by cases h⟩
  · exact wW hheap hty hA
  · exact hV
theorem law_holds : Rows.ShellBackSaid :=
  OpenClaim.holds_of_wide 8 Tryd.f8 rfl rfl rfl rfl rfl rfl rfl ⟨rfl, rfl, rfl, rfl, rfl⟩ rfl rfl rfl rfl rfl (by kernel_rfl) Tryd.func8 (by kernel_rfl)
    (of_decide_eq_true (by kernel_rfl)) (by unfold Func.isWrapper; first | (rw [if_pos (by decide +kernel)]; kernel_rfl) | (rw [if_neg (by decide +kernel)]; exact ⟨rfl, rfl⟩))
    (fun os started H enc _ => Ax os started H enc)
theorem card_holds : Rows.ShellBackCardSaid :=
  Claim7.holds_tied_plain_at .later [] [.data, .data, .data] true (true, "2270e15249f9b873c26b916644616447053140a24bee2b698995d5265533c1fc") false
    law_holds (fun _ h => by cases h) (by kernel_rfl) (fun _ h => by cases h) shellBack_row_tie rfl ⟨rfl, rfl⟩ (by kernel_rfl) rfl
    (fun f fn hf hfn => by
      obtain rfl : f = 8 := Option.some.inj ((show Tryd.prog.funcNamed "steading/steadinglaw26.ShellBack" = some 8 by kernel_rfl).symm.trans hf) |>.symm
      obtain rfl : fn = Tryd.f8 := (Option.some.inj (Tryd.func8.symm.trans hfn)).symm
      exact ⟨by kernel_rfl, fun j t ht => by
        rw [Tryd.params8] at ht
        rw [← Array.getElem?_toList] at ht
        have hm := List.mem_of_getElem? ht
        simp only [List.mem_cons, List.mem_nil_iff, or_false] at hm
        rcases hm with rfl | rfl | rfl <;> first | (show Tryd.prog.wantsStandIn _ = false; kernel_rfl) | (show _ = false; kernel_rfl) | decide +kernel⟩)
    (by kernel_rfl)
#print axioms card_holds
end Go.Proofs.YtmbpllipombieaaDoor
