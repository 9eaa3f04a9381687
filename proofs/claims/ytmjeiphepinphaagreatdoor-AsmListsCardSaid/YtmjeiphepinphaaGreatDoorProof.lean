/- What is proved here: the law AsmLists returns true for every input, as the given card says. Conditions: those of the given row (the package-level variables that it lists read as the program lays them). -/
import Derived.Test.YtmjeiphepinphaaGreatDoorRun
import Derived.Test.YtmjeiphepinphaaGreatDoorRows
import Derived.Test.YtmjeiphepinphaaGreatDoorCards
import Derived.Test.YtmjeiphepinphaaGreatDoorTie
import Derived.ProofKit
import Derived.OpenShut
import Derived.LaidMore
import Derived.Lay
import Derived.SevenTiedAt
import Derived.Stop.Joined
set_option linter.unusedSimpArgs false
set_option linter.unusedVariables false
set_option maxRecDepth 100000
namespace Go.Proofs.YtmjeiphepinphaaGreatDoor
open Go Ev
open Go.ChangeShapes Go.WideShapes Go.ChangeAt Go.RowKit
theorem own : ownKnob Tryz.prog.godebug = none := by kernel_rfl
theorem cK : Tryz.prog.follows .mixedOrders = true := by kernel_rfl
theorem yT {H : Type} {enc : TypeId × Value → H} {P : Program} {W : World} {sp : Nat → Bool} {held : Bool} : ∀ {ts : List TypeId} {vs : List Value} {ds : List (DataW H)} {ps : List MemPlace}, DataW.TrodAll enc P W 0 sp held ts vs ds ps → ds.length = ts.length
  | [], [], [], ps, h => rfl
  | [], [], _ :: _, ps, h => by cases h
  | [], _ :: _, ds, ps, h => by cases ds <;> cases h
  | _ :: _, [], ds, ps, h => by cases ds <;> cases h
  | _ :: _, _ :: _, [], ps, h => by cases h
  | t :: ts, v :: vs, d :: ds, ps, h => by
    obtain ⟨p, q, h1, h2, _⟩ := h
    rw [List.length_cons, List.length_cons, yT h2]
theorem jx : iL mA := fun ty => by kernel_rfl
noncomputable def ph0 : Nat → Option CF := fun k => phi.get k
theorem ey : eO Tryz.prog ph0 := XT
theorem cl8 : b7 Tryz.prog 35 (ah h35) := o35 cK ey (by kernel_rfl)
theorem cm0 : b7 Tryz.prog 41 (ah h35) := o41 cK ey (by kernel_rfl)
theorem cl7 : b7 Tryz.prog 34 (ah h34) := o34 cK ey (by kernel_rfl)
theorem cl9 : b7 Tryz.prog 40 (ah vP) := o40 cK ey (by kernel_rfl)
theorem cm2 : b7 Tryz.prog 63 (ah Mg) := o63 cK ey (by kernel_rfl)
theorem cm1 : b7 Tryz.prog 61 (ah BK) := o61 cK ey (by kernel_rfl)
theorem bz5 : b7 Tryz.prog 105 (ah vL) := cY3 cK ey (by kernel_rfl)
theorem cm3 : b7 Tryz.prog 64 (ah h64) := o64 cK ey (by kernel_rfl)
theorem bz8 : b7 Tryz.prog 120 (ah vN) := cY8 cK ey (by kernel_rfl)
theorem bz9 : b7 Tryz.prog 127 (ah ub) := cZ0 cK ey (by kernel_rfl)
theorem bz3 : b7 Tryz.prog 101 (ah u7) := cY1 cK ey (by kernel_rfl)
theorem bz4 : b7 Tryz.prog 102 (ah u9) := cY2 cK ey (by kernel_rfl)
theorem cm4 : b7 Tryz.prog 65 (ah h65) := o65 cK ey (by kernel_rfl)
theorem cm7 : b7 Tryz.prog 94 (ah h94) := o94 cK ey (by kernel_rfl)
theorem bz7 : b7 Tryz.prog 116 (ah h116) := cY7 cK ey (by kernel_rfl)
theorem bz6 : b7 Tryz.prog 107 (ah h107) := cr8 cK ey (by kernel_rfl)
theorem cm6 : b7 Tryz.prog 92 (ah h92) := cZ1 cK ey (by kernel_rfl)
theorem cX1 : b7 Tryz.prog 8 (ah h8) := o8 cK ey (by kernel_rfl)
theorem cm5 : b7 Tryz.prog 76 (ah KF) := o76 cK ey (by kernel_rfl)
noncomputable def ph1 : Nat → Option CF := (ky (ky (ky (ky (ky (ky (ky (ky (ky (ky (ky (ky (ky (ky (ky (ky (ky (ky (ky (ky ph0 35 (.orc (ah h35))) 41 (.orc (ah h35))) 34 (.orc (ah h34))) 40 (.orc (ah vP))) 63 (.orc (ah Mg))) 61 (.orc (ah BK))) 105 (.orc (ah vL))) 64 (.orc (ah h64))) 120 (.orc (ah vN))) 127 (.orc (ah ub))) 101 (.orc (ah u7))) 102 (.orc (ah u9))) 65 (.orc (ah h65))) 94 (.orc (ah h94))) 116 (.orc (ah h116))) 107 (.orc (ah h107))) 92 (.orc (ah h92))) 8 (.orc (ah h8))) 76 (.orc (ah KF))) 4 (.orc (vY mA [2, 3])))
theorem nP : eO Tryz.prog ph1 := (bS (bS (bS (bS (bS (bS (bS (bS (bS (bS (bS (bS (bS (bS (bS (bS (bS (bS (bS (bS ey cl8) cm0) cl7) cl9) cm2) cm1) bz5) cm3) bz8) bz9) bz3) bz4) cm4) cm7) bz7) bz6) cm6) cX1) cm5) (f := 4) (g := vY mA [2, 3]) (uh cK XT (n := 1002) rfl ran))
theorem cm8 : b7 Tryz.prog 36 (ah BJ) := o36 cK nP (by kernel_rfl) (by kernel_rfl)
theorem cn0 : b7 Tryz.prog 70 (ah KE) := o70 cK nP (by kernel_rfl) (by kernel_rfl) (by kernel_rfl) (by kernel_rfl)
theorem cn1 : b7 Tryz.prog 71 (ah Xc) := o71 cK nP (by kernel_rfl) (by kernel_rfl)
theorem bA0 : b7 Tryz.prog 106 (ah ua) := cY4 cK nP (by kernel_rfl) (by kernel_rfl)
theorem bA1 : b7 Tryz.prog 110 (ah kJ) := cY6 cK nP (by kernel_rfl) (by kernel_rfl)
theorem cm9 : b7 Tryz.prog 66 (bT mA h66) := o66 cK nP (by kernel_rfl) (by kernel_rfl) (by kernel_rfl) (by kernel_rfl) jx (List.mem_of_find?_eq_some (p := fun t => Nat.beq t.1 1) (by kernel_rfl))
theorem bA2 : b7 Tryz.prog 125 (ah vO) := cY9 cK nP (by kernel_rfl) (by kernel_rfl)
noncomputable def ph2 : Nat → Option CF := (ky (ky (ky (ky (ky (ky (ky ph1 36 (.orc (ah BJ))) 70 (.orc (ah KE))) 71 (.orc (ah Xc))) 106 (.orc (ah ua))) 110 (.orc (ah kJ))) 66 (.orc (bT mA h66))) 125 (.orc (ah vO)))
theorem qm : eO Tryz.prog ph2 := (bS (bS (bS (bS (bS (bS (bS nP cm8) cn0) cn1) bA0) bA1) cm9) bA2)
theorem cn2 : b7 Tryz.prog 33 (ah uc) := o33 cK qm (by kernel_rfl) (by kernel_rfl) (by kernel_rfl) (by kernel_rfl) (by kernel_rfl) (by kernel_rfl)
theorem cn3 : b7 Tryz.prog 39 (ah h39) := o39 cK qm (by kernel_rfl) (by kernel_rfl) (by kernel_rfl) (by kernel_rfl) (by kernel_rfl)
theorem cn5 : b7 Tryz.prog 72 (ah uy) := o72 cK qm (by kernel_rfl) (by kernel_rfl)
theorem cn6 : b7 Tryz.prog 80 (ah kJ) := o80 cK qm (by kernel_rfl) (by kernel_rfl)
theorem cn4 : b7 Tryz.prog 69 (bT mA Xb) := o69 cK qm (by kernel_rfl) (by kernel_rfl) (by kernel_rfl) (by kernel_rfl) jx
theorem bA3 : b7 Tryz.prog 108 (ah vM) := cY5 cK qm (by kernel_rfl) (by kernel_rfl)
noncomputable def ph3 : Nat → Option CF := (ky (ky (ky (ky (ky (ky ph2 33 (.orc (ah uc))) 39 (.orc (ah h39))) 72 (.orc (ah uy))) 80 (.orc (ah kJ))) 69 (.orc (bT mA Xb))) 108 (.orc (ah vM)))
theorem wh : eO Tryz.prog ph3 := (bS (bS (bS (bS (bS (bS qm cn2) cn3) cn5) cn6) cn4) bA3)
theorem cn9 : b7 Tryz.prog 62 (ah h62) := o62 cK wh (by kernel_rfl) (by kernel_rfl)
theorem cn8 : b7 Tryz.prog 44 (ah uy) := o44 cK wh (by kernel_rfl) (by kernel_rfl)
theorem cn7 : b7 Tryz.prog 38 (bT mA h38) := o38 cK wh (by kernel_rfl) (by kernel_rfl) jx
theorem co0 : b7 Tryz.prog 75 (ah Xd) := o75 cK wh (by kernel_rfl) (by kernel_rfl)
noncomputable def ph4 : Nat → Option CF := (ky (ky (ky (ky ph3 62 (.orc (ah h62))) 44 (.orc (ah uy))) 38 (.orc (bT mA h38))) 75 (.orc (ah Xd)))
theorem Ai : eO Tryz.prog ph4 := (bS (bS (bS (bS wh cn9) cn8) cn7) co0)
theorem co2 : b7 Tryz.prog 32 (ah h32) := o32 cK Ai (by kernel_rfl) (by kernel_rfl) (by kernel_rfl) (by kernel_rfl) (by kernel_rfl)
theorem co1 : b7 Tryz.prog 17 (bT mA h38) := o17 cK Ai (by kernel_rfl) (by kernel_rfl) jx
theorem co3 : b7 Tryz.prog 46 (ah h46) := o46 cK Ai (by kernel_rfl) (by kernel_rfl) (by kernel_rfl) (by kernel_rfl) (by kernel_rfl) (by kernel_rfl)
noncomputable def ph5 : Nat → Option CF := (ky (ky (ky ph4 32 (.orc (ah h32))) 17 (.orc (bT mA h38))) 46 (.orc (ah h46)))
theorem EZ : eO Tryz.prog ph5 := (bS (bS (bS Ai co2) co1) co3)
theorem co4 : b7 Tryz.prog 15 (bT mA h15) := o15 cK EZ (by kernel_rfl) (by kernel_rfl) (by kernel_rfl) (by kernel_rfl) (by kernel_rfl) (by kernel_rfl) (by kernel_rfl) (by kernel_rfl) (by kernel_rfl) (by kernel_rfl) (by kernel_rfl) (by kernel_rfl) jx
theorem co5 : b7 Tryz.prog 20 (bT mA h20) := o20 cK EZ (by kernel_rfl) (by kernel_rfl) (by kernel_rfl) (by kernel_rfl) (by kernel_rfl) jx
noncomputable def ph6 : Nat → Option CF := (ky (ky ph5 15 (.orc (bT mA h15))) 20 (.orc (bT mA h20)))
theorem bF1 : eO Tryz.prog ph6 := (bS (bS EZ co4) co5)
def Dp : List Ty := [.sl (.int .u8)]
theorem dc2 (W : World) (hL : laidMet Tryz.prog Rows.asmListsRow.laid W) : xW W (4, .u8, [(.ofNat 0), (.ofNat 1), (.ofNat 28), (.ofNat 2), (.ofNat 29), (.ofNat 14), (.ofNat 24), (.ofNat 3), (.ofNat 30), (.ofNat 22), (.ofNat 20), (.ofNat 15), (.ofNat 25), (.ofNat 17), (.ofNat 4), (.ofNat 8), (.ofNat 31), (.ofNat 27), (.ofNat 13), (.ofNat 23), (.ofNat 21), (.ofNat 19), (.ofNat 16), (.ofNat 7), (.ofNat 26), (.ofNat 12), (.ofNat 18), (.ofNat 6), (.ofNat 11), (.ofNat 5), (.ofNat 10), (.ofNat 9)]) := wL (name := "math/bits.deBruijn32tab") (t := 187) (e := 5) (n := 32) (by kernel_rfl) (by kernel_rfl) (by kernel_rfl) (by kernel_rfl) (by kernel_rfl) (by kernel_rfl) (laid := Rows.asmListsRow.laid) (List.Mem.head _) hL
theorem dc3 (W : World) (hL : laidMet Tryz.prog Rows.asmListsRow.laid W) : xW W (5, .u8, [(.ofNat 0), (.ofNat 1), (.ofNat 56), (.ofNat 2), (.ofNat 57), (.ofNat 49), (.ofNat 28), (.ofNat 3), (.ofNat 61), (.ofNat 58), (.ofNat 42), (.ofNat 50), (.ofNat 38), (.ofNat 29), (.ofNat 17), (.ofNat 4), (.ofNat 62), (.ofNat 47), (.ofNat 59), (.ofNat 36), (.ofNat 45), (.ofNat 43), (.ofNat 51), (.ofNat 22), (.ofNat 53), (.ofNat 39), (.ofNat 33), (.ofNat 30), (.ofNat 24), (.ofNat 18), (.ofNat 12), (.ofNat 5), (.ofNat 63), (.ofNat 55), (.ofNat 48), (.ofNat 27), (.ofNat 60), (.ofNat 41), (.ofNat 37), (.ofNat 16), (.ofNat 46), (.ofNat 35), (.ofNat 44), (.ofNat 21), (.ofNat 52), (.ofNat 32), (.ofNat 23), (.ofNat 11), (.ofNat 54), (.ofNat 26), (.ofNat 40), (.ofNat 15), (.ofNat 34), (.ofNat 20), (.ofNat 31), (.ofNat 10), (.ofNat 25), (.ofNat 14), (.ofNat 19), (.ofNat 9), (.ofNat 13), (.ofNat 8), (.ofNat 7), (.ofNat 6)]) := wL (name := "math/bits.deBruijn64tab") (t := 188) (e := 5) (n := 64) (by kernel_rfl) (by kernel_rfl) (by kernel_rfl) (by kernel_rfl) (by kernel_rfl) (by kernel_rfl) (laid := Rows.asmListsRow.laid) (List.Mem.tail _ (List.Mem.head _)) hL
theorem dc4 (W : World) (hL : laidMet Tryz.prog Rows.asmListsRow.laid W) : xW W (1, .u64, [(.ofNat 1), (.ofNat 10), (.ofNat 100), (.ofNat 1000), (.ofNat 10000), (.ofNat 100000), (.ofNat 1000000), (.ofNat 10000000), (.ofNat 100000000), (.ofNat 1000000000), (.ofNat 10000000000), (.ofNat 100000000000), (.ofNat 1000000000000), (.ofNat 10000000000000), (.ofNat 100000000000000), (.ofNat 1000000000000000), (.ofNat 10000000000000000), (.ofNat 100000000000000000), (.ofNat 1000000000000000000), (.ofNat 10000000000000000000)]) := wL (name := "internal/strconv.uint64pow10") (t := 161) (e := 56) (n := 20) (by kernel_rfl) (by kernel_rfl) (by kernel_rfl) (by kernel_rfl) (by kernel_rfl) (by kernel_rfl) (laid := Rows.asmListsRow.laid) (List.Mem.tail _ (List.Mem.tail _ (List.Mem.head _))) hL
theorem bl0 : "*" ++ "errors.errorString" = "*errors.errorString" := by decide
theorem Yb (u : TypeId) (h : Tryz.prog.typeName? 3 u = some "*errors.errorString") : u = 184 := typeName_ptr_named (nm := "errors.errorString") (by rw [bl0]; kernel_rfl) (by kernel_rfl) (by decide) u (by rw [bl0]; exact h)
theorem cW8 {W : World} (hL : laidMet Tryz.prog Rows.asmListsRow.laid W) {C : Nat} (hC : W.heap.size ≤ C) : (pZ (dR W C) 2).isSome = true := Ic (n := "strconv.ErrSyntax") hC hL.tail.tail.tail.tail (by kernel_rfl) (show (Tryz.prog.globals[2]?).map (·.type) = some 44 by kernel_rfl) Tryz.underlying44 Yb Tryz.underlying184 Tryz.underlying186 rfl rfl Tryz.underlying9 (by kernel_rfl) (by kernel_rfl)
theorem cW9 {W : World} (hL : laidMet Tryz.prog Rows.asmListsRow.laid W) {C : Nat} (hC : W.heap.size ≤ C) : (pZ (dR W C) 3).isSome = true := Ic (n := "strconv.ErrRange") hC hL.tail.tail.tail (by kernel_rfl) (show (Tryz.prog.globals[3]?).map (·.type) = some 44 by kernel_rfl) Tryz.underlying44 Yb Tryz.underlying184 Tryz.underlying186 rfl rfl Tryz.underlying9 (by kernel_rfl) (by kernel_rfl)
theorem ag2 {W : World} (hL : laidMet Tryz.prog Rows.asmListsRow.laid W) {C : Nat} (hC : W.heap.size ≤ C) : jH (dR W C) [2, 3] = true := by
  show (Nat.blt 2 1000 && ((pZ (dR W C) 2).isSome && (Nat.blt 3 1000 && ((pZ (dR W C) 3).isSome && true)))) = true
  rw [cW8 hL hC, cW9 hL hC]; rfl
theorem aq9 {W : World} (hL : laidMet Tryz.prog Rows.asmListsRow.laid W) (C : Nat) : bE (dR W C) mA = true := yq (fun t ht => by
  simp only [mA, List.mem_cons, List.mem_nil_iff, or_false] at ht
  rcases ht with rfl | rfl | rfl
  · exact ⟨by decide, dc2 W hL⟩
  · exact ⟨by decide, dc3 W hL⟩
  · exact ⟨by decide, dc4 W hL⟩)
theorem Xt {W : World} (hL : laidMet Tryz.prog Rows.asmListsRow.laid W) {C : Nat} (hC : W.heap.size ≤ C) (hk : 1000 ≤ C) {us : List V} (hR : Mn (dR W C) C Dp us) : Ev.Calls ph6 (dR W C) 3 us .e C fun v _ _ => v = .b true := by
  obtain ⟨vs, x, a1, rfl, h1, rfl⟩ := hR
  obtain ⟨v, l, rfl, hs, hl⟩ := We h1
  exact l3 ph6 (by kernel_rfl) (L := mA) (by kernel_rfl) ⟨⟨by kernel_rfl, by kernel_rfl, by kernel_rfl, by kernel_rfl, by kernel_rfl, by kernel_rfl, by kernel_rfl, by kernel_rfl, by kernel_rfl, by kernel_rfl, by kernel_rfl, by kernel_rfl, by kernel_rfl, by kernel_rfl, by kernel_rfl, by kernel_rfl, by kernel_rfl, by kernel_rfl, by kernel_rfl, by kernel_rfl, by kernel_rfl, by kernel_rfl, by kernel_rfl, by kernel_rfl, by kernel_rfl, by kernel_rfl, by kernel_rfl, by kernel_rfl, by kernel_rfl, by kernel_rfl, by kernel_rfl, by kernel_rfl, by kernel_rfl, by kernel_rfl, by kernel_rfl⟩, by kernel_rfl, by kernel_rfl, by kernel_rfl, by kernel_rfl, by kernel_rfl, by kernel_rfl, by kernel_rfl, by kernel_rfl, by kernel_rfl, by kernel_rfl, by kernel_rfl, by kernel_rfl, by kernel_rfl, by kernel_rfl, by kernel_rfl, by kernel_rfl, by kernel_rfl, by kernel_rfl, by kernel_rfl, by kernel_rfl, by kernel_rfl, by kernel_rfl, by kernel_rfl, by kernel_rfl, by kernel_rfl, by kernel_rfl, by kernel_rfl, by kernel_rfl, by kernel_rfl, by kernel_rfl, by kernel_rfl⟩ (XN hC hk) hs (fun g _ => rfl) (aq9 hL C) (ag2 hL hC)
theorem EI (os : Os) (started : os.Started) (H : Type) (enc : TypeId × Value → H) :
    ReturnsInHanded {} Tryz.checked os 3 .any (fun w args => (Rows.asmListsSpec.pre enc Tryz.prog Tryz.f3 Rows.asmListsRow.domain false w args ∧ laidMetH Tryz.prog Rows.asmListsRow.laid w) ∧ sizedMet enc Tryz.prog Tryz.f3 (OpenSpec.ofChange Rows.asmListsSpec) false w args)
      (Rows.asmListsSpec.post enc Tryz.prog Tryz.f3 false true false false) := by
  refine returnsInHanded_of_change_and (C := Tryz.checked) (X := fun w _ => laidMetH Tryz.prog Rows.asmListsRow.laid w) (fun _ _ _ hh h => h.of_heap hh) own started (by kernel_rfl) Tryz.func3
    (ChangeSpec.witness_shaped (enc := enc) (C := Tryz.checked) (os := os) (X := fun w _ => laidMetH Tryz.prog Rows.asmListsRow.laid w) false (World.laidAll Tryz.prog os Rows.asmListsRow.laid) #[.slice none 0 0] 8 (World.laidAll_os _ _ _)
      (World.shaped_of_ZipB (by kernel_rfl) (by kernel_rfl)) (by kernel_rfl) (by kernel_rfl) (by kernel_rfl)
      (by rw [MakeChecks.laidMetH_plain _ _ _ (by kernel_rfl)]; exact laidMet_laidAll _ (by kernel_rfl) (by kernel_rfl))) ?_
  intro W base args ds gs before hval0 hW hc _ hL _
  have hW' := hW
  obtain ⟨p, q, hA0, hV, rfl, _, _⟩ := hW
  have hA : DataW.TrodAll enc Tryz.prog W 0 (fun _ => true) true Tryz.f3.params.toList args.toList ds p := hA0
  obtain ⟨rfl, rfl⟩ := trodVars_none hV
  rw [MakeChecks.laidMetH_plain _ _ _ (by kernel_rfl)] at hL
  have hty : LF Tryz.prog Dp Tryz.f3.params.toList = true := by kernel_rfl
  obtain ⟨C, hk0, hC0, hD⟩ := bx3 W
  obtain ⟨us, has, hbd, hR⟩ := Gh (fun _ => rfl) (C := C) hC0 hty hA (fun j t v ht hv => hval0 j t v (by rw [← Array.getElem?_toList]; exact ht) (by rw [← Array.getElem?_toList]; exact hv)) (fun _ => hD)
  have hcall := bC0 cK bF1 (W := W) (C := C) (f := 3) (args := us) hC0 hk0 hbd (Xt hL hC0 hk0 hR)
  rw [has] at hcall
  have hlen := yT hA
  rw [Tryz.params3] at hlen
  obtain ⟨d1, rfl⟩ : ∃ d1, ds = [d1] := by
    match ds, hlen with
    | [d1], _ => exact ⟨d1, rfl⟩
  refine hcall.mono fun e W' ⟨he, hk, hheap⟩ => ?_
  subst he
  refine ⟨_, rfl, _, _, _, [], p, [], hW', trodAll_mk1 (shut_bool Tryz.underlying4 true), ?_, ?_, hk _, fun h => by cases h⟩
  · exact Bg hheap hty hA
  · exact hV
theorem law_holds : Rows.AsmListsSaid :=
  OpenClaim.holds_of_wide 3 Tryz.f3 rfl rfl rfl rfl rfl rfl rfl ⟨rfl, rfl, rfl, rfl, rfl⟩ rfl rfl rfl rfl rfl (by kernel_rfl) Tryz.func3 (by kernel_rfl)
    (of_decide_eq_true (by kernel_rfl)) (by unfold Func.isWrapper; first | (rw [if_pos (by decide +kernel)]; kernel_rfl) | (rw [if_neg (by decide +kernel)]; exact ⟨rfl, rfl⟩))
    (fun os started H enc _ => EI os started H enc)
theorem card_holds : Rows.AsmListsCardSaid :=
  Claim7.holds_tied_plain_at .later [] [.data, .data, .data, .sentinel, .sentinel] true (true, "3863390bf6570a32940eefe6185d860b5168e99b0ad97224b93d5b53c822d2b1") true
    law_holds (fun _ h => by cases h) (by kernel_rfl) (fun _ h => by cases h) asmLists_row_tie rfl ⟨rfl, rfl⟩ (by kernel_rfl) rfl
    (fun f fn hf hfn => by
      obtain rfl : f = 3 := Option.some.inj ((show Tryz.prog.funcNamed "steading/steadinglaw04.AsmLists" = some 3 by kernel_rfl).symm.trans hf) |>.symm
      obtain rfl : fn = Tryz.f3 := (Option.some.inj (Tryz.func3.symm.trans hfn)).symm
      exact ⟨by kernel_rfl, fun j t ht => by
        rw [Tryz.params3] at ht
        rw [← Array.getElem?_toList] at ht
        have hm := List.mem_of_getElem? ht
        simp only [List.mem_cons, List.mem_nil_iff, or_false] at hm
        rcases hm with rfl <;> first | (show Tryz.prog.wantsStandIn _ = false; kernel_rfl) | (show _ = false; kernel_rfl) | decide +kernel⟩)
    (by kernel_rfl)
#print axioms card_holds
end Go.Proofs.YtmjeiphepinphaaGreatDoor
