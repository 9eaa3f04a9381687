/- What is proved here: the law ScriptPrograms returns true for every input, as0 the given card says. Conditions: those of the given row (the package-level variables that it lists read as0 the program lays them). -/
import Derived.Test.YtkcelmimbmbfkaaGreatDoorRun
import Derived.Test.YtkcelmimbmbfkaaGreatDoorRows
import Derived.Test.YtkcelmimbmbfkaaGreatDoorCards
import Derived.Test.YtkcelmimbmbfkaaGreatDoorTie
import Derived.ProofKit
import Derived.OpenShut
import Derived.LaidMore
import Derived.Lay
import Derived.SevenTiedAt
import Derived.Stop.Joined
set_option linter.unusedSimpArgs false
set_option linter.unusedVariables false
set_option maxRecDepth 100000
namespace Go.Proofs.YtkcelmimbmbfkaaGreatDoor
open Go Ev
open Go.ChangeShapes Go.WideShapes Go.ChangeAt Go.RowKit
theorem own : ownKnob Tryz.prog.godebug = none := by kernel_rfl
theorem cK : Tryz.prog.follows .mixedOrders = true := by kernel_rfl
theorem yo {H : Type} {enc : TypeId × Value → H} {P : Program} {W : World} {sp : Nat → Bool} {held : Bool} : ∀ {ts : List TypeId} {vs : List Value} {ds : List (DataW H)} {ps : List MemPlace}, DataW.TrodAll enc P W 0 sp held ts vs ds ps → ds.length = ts.length
  | [], [], [], ps, h => rfl
  | [], [], _ :: _, ps, h => by cases h
  | [], _ :: _, ds, ps, h => by cases ds <;> cases h
  | _ :: _, [], ds, ps, h => by cases ds <;> cases h
  | _ :: _, _ :: _, [], ps, h => by cases h
  | t :: ts, v :: vs, d :: ds, ps, h => by
    obtain ⟨p, q, h1, h2, _⟩ := h
    rw [List.length_cons, List.length_cons, yo h2]
theorem jI : iN mB := fun ty => by kernel_rfl
noncomputable def ph0 : Nat → Option CF := fun k => phi.get k
theorem ep : eC Tryz.prog ph0 := VG
theorem bJ3 : bg Tryz.prog 41 (aj h41) := o41 cK ep (by kernel_rfl)
theorem bJ6 : bg Tryz.prog 60 (aj h41) := o60 cK ep (by kernel_rfl)
theorem bJ2 : bg Tryz.prog 40 (aj h40) := o40 cK ep (by kernel_rfl)
theorem bJ5 : bg Tryz.prog 59 (aj h59) := o59 cK ep (by kernel_rfl)
theorem bJ8 : bg Tryz.prog 78 (aj V0) := o78 cK ep (by kernel_rfl)
theorem bJ7 : bg Tryz.prog 77 (aj AK) := o77 cK ep (by kernel_rfl)
theorem bK2 : bg Tryz.prog 92 (aj V3) := o92 cK ep (by kernel_rfl)
theorem bJ9 : bg Tryz.prog 79 (aj h79) := o79 cK ep (by kernel_rfl)
theorem bc7 : bg Tryz.prog 128 (aj vl) := cn2 cK ep (by kernel_rfl)
theorem bK0 : bg Tryz.prog 83 (aj xO) := o83 cK ep (by kernel_rfl)
theorem bd0 : bg Tryz.prog 143 (aj tQ) := cn6 cK ep (by kernel_rfl)
theorem bd2 : bg Tryz.prog 145 (aj tS) := cn7 cK ep (by kernel_rfl)
theorem bc8 : bg Tryz.prog 132 (aj vm) := cn3 cK ep (by kernel_rfl)
theorem bc6 : bg Tryz.prog 110 (aj h110) := cn1 cK ep (by kernel_rfl)
theorem bc9 : bg Tryz.prog 136 (aj h136) := cn5 cK ep (by kernel_rfl)
theorem bd1 : bg Tryz.prog 144 (aj tR) := bP1 cK ep (by kernel_rfl)
theorem bK1 : bg Tryz.prog 91 (aj h91) := cn8 cK ep (by kernel_rfl)
theorem cm4 : bg Tryz.prog 9 (aj h9) := o9 cK ep (by kernel_rfl)
theorem bJ4 : bg Tryz.prog 56 (aj h56) := o56 cK ep (by kernel_rfl)
noncomputable def ph1 : Nat → Option CF := (kM (kM (kM (kM (kM (kM (kM (kM (kM (kM (kM (kM (kM (kM (kM (kM (kM (kM (kM (kM (kM ph0 41 (.orc (aj h41))) 60 (.orc (aj h41))) 40 (.orc (aj h40))) 59 (.orc (aj h59))) 78 (.orc (aj V0))) 77 (.orc (aj AK))) 92 (.orc (aj V3))) 79 (.orc (aj h79))) 128 (.orc (aj vl))) 83 (.orc (aj xO))) 143 (.orc (aj tQ))) 145 (.orc (aj tS))) 132 (.orc (aj vm))) 110 (.orc (aj h110))) 136 (.orc (aj h136))) 144 (.orc (aj tR))) 91 (.orc (aj h91))) 9 (.orc (aj h9))) 56 (.orc (aj h56))) 19 (.orc (pX 9 0))) 4 (.orc (zl mB [1, 2])))
theorem nO : eC Tryz.prog ph1 := (bH (bH (bH (bH (bH (bH (bH (bH (bH (bH (bH (bH (bH (bH (bH (bH (bH (bH (bH (bH (bH ep bJ3) bJ6) bJ2) bJ5) bJ8) bJ7) bK2) bJ9) bc7) bK0) bd0) bd2) bc8) bc6) bc9) bd1) bK1) cm4) bJ4) BG) (f := 4) (g := zl mB [1, 2]) (vK cK bh9 (n := 1002) rfl ran))
theorem bK4 : bg Tryz.prog 42 (aj AJ) := o42 cK nO (by kernel_rfl) (by kernel_rfl)
theorem bK6 : bg Tryz.prog 62 (aj h62) := o62 cK nO (by kernel_rfl) (by kernel_rfl) (by kernel_rfl) (by kernel_rfl)
theorem bK3 : bg Tryz.prog 25 (aj h25) := o25 cK nO (by kernel_rfl) (by kernel_rfl)
theorem bd3 : bg Tryz.prog 106 (aj tO) := cm9 cK nO (by kernel_rfl) (by kernel_rfl)
theorem bK7 : bg Tryz.prog 90 (aj wM) := o90 cK nO (by kernel_rfl) (by kernel_rfl)
theorem bd4 : bg Tryz.prog 133 (ce mB tP) := cn4 cK nO (by kernel_rfl) (by kernel_rfl) (by kernel_rfl) (by kernel_rfl) jI (List.mem_of_find?_eq_some (p := fun t => Nat.beq t.1 4) (by kernel_rfl))
theorem bK5 : bg Tryz.prog 47 (aj HG) := o47 cK nO (by kernel_rfl) (by kernel_rfl)
noncomputable def ph2 : Nat → Option CF := (kM (kM (kM (kM (kM (kM (kM ph1 42 (.orc (aj AJ))) 62 (.orc (aj h62))) 25 (.orc (aj h25))) 106 (.orc (aj tO))) 90 (.orc (aj wM))) 133 (.orc (ce mB tP))) 47 (.orc (aj HG)))
theorem pU : eC Tryz.prog ph2 := (bH (bH (bH (bH (bH (bH (bH nO bK4) bK6) bK3) bd3) bK7) bd4) bK5)
theorem bK9 : bg Tryz.prog 39 (aj h39) := o39 cK pU (by kernel_rfl) (by kernel_rfl) (by kernel_rfl) (by kernel_rfl) (by kernel_rfl) (by kernel_rfl)
theorem bL1 : bg Tryz.prog 75 (aj vn) := o75 cK pU (by kernel_rfl) (by kernel_rfl)
theorem bL0 : bg Tryz.prog 53 (aj wM) := o53 cK pU (by kernel_rfl) (by kernel_rfl)
theorem bd5 : bg Tryz.prog 107 (ce mB vk) := cn0 cK pU (by kernel_rfl) (by kernel_rfl) (by kernel_rfl) (by kernel_rfl) jI
theorem bL2 : bg Tryz.prog 93 (aj h93) := o93 cK pU (by kernel_rfl) (by kernel_rfl) (by kernel_rfl) (by kernel_rfl) (by kernel_rfl)
theorem bK8 : bg Tryz.prog 17 (aj HG) := o17 cK pU (by kernel_rfl) (by kernel_rfl)
noncomputable def ph3 : Nat → Option CF := (kM (kM (kM (kM (kM (kM ph2 39 (.orc (aj h39))) 75 (.orc (aj vn))) 53 (.orc (aj wM))) 107 (.orc (ce mB vk))) 93 (.orc (aj h93))) 17 (.orc (aj HG)))
theorem zu : eC Tryz.prog ph3 := (bH (bH (bH (bH (bH (bH pU bK9) bL1) bL0) bd5) bL2) bK8)
theorem bL4 : bg Tryz.prog 55 (aj h55) := o55 cK zu (by kernel_rfl) (by kernel_rfl)
theorem bL3 : bg Tryz.prog 35 (aj vn) := o35 cK zu (by kernel_rfl) (by kernel_rfl)
theorem bL5 : bg Tryz.prog 80 (ce mB wL) := o80 cK zu (by kernel_rfl) (by kernel_rfl) jI
noncomputable def ph4 : Nat → Option CF := (kM (kM (kM ph3 55 (.orc (aj h55))) 35 (.orc (aj vn))) 80 (.orc (ce mB wL)))
theorem DG : eC Tryz.prog ph4 := (bH (bH (bH zu bL4) bL3) bL5)
theorem bL7 : bg Tryz.prog 76 (aj h76) := o76 cK DG (by kernel_rfl) (by kernel_rfl) (by kernel_rfl) (by kernel_rfl) (by kernel_rfl)
theorem bL6 : bg Tryz.prog 43 (ce mB wL) := o43 cK DG (by kernel_rfl) (by kernel_rfl) jI
noncomputable def ph5 : Nat → Option CF := (kM (kM ph4 76 (.orc (aj h76))) 43 (.orc (ce mB wL)))
theorem DH : eC Tryz.prog ph5 := (bH (bH DG bL7) bL6)
theorem bL8 : bg Tryz.prog 14 (ce mB h14) := o14 cK DH (by kernel_rfl) (by kernel_rfl) (by kernel_rfl) (by kernel_rfl) (by kernel_rfl) (by kernel_rfl) (by kernel_rfl) (by kernel_rfl) (by kernel_rfl) (by kernel_rfl) (by kernel_rfl) (by kernel_rfl) jI
theorem bL9 : bg Tryz.prog 28 (ce mB h28) := o28 cK DH (by kernel_rfl) (by kernel_rfl) (by kernel_rfl) (by kernel_rfl) (by kernel_rfl) jI
noncomputable def ph6 : Nat → Option CF := (kM (kM ph5 14 (.orc (ce mB h14))) 28 (.orc (ce mB h28)))
theorem bh8 : eC Tryz.prog ph6 := (bH (bH DH bL8) bL9)
def C8 : List Ty := [.sl (.int .u8), .str]
theorem cA5 (W : World) (hL : laidMet Tryz.prog Rows.scriptProgramsRow.laid W) : x4 W (7, .u8, [(.ofNat 0), (.ofNat 1), (.ofNat 28), (.ofNat 2), (.ofNat 29), (.ofNat 14), (.ofNat 24), (.ofNat 3), (.ofNat 30), (.ofNat 22), (.ofNat 20), (.ofNat 15), (.ofNat 25), (.ofNat 17), (.ofNat 4), (.ofNat 8), (.ofNat 31), (.ofNat 27), (.ofNat 13), (.ofNat 23), (.ofNat 21), (.ofNat 19), (.ofNat 16), (.ofNat 7), (.ofNat 26), (.ofNat 12), (.ofNat 18), (.ofNat 6), (.ofNat 11), (.ofNat 5), (.ofNat 10), (.ofNat 9)]) := wj (name := "math/bits.deBruijn32tab") (t := 224) (e := 5) (n := 32) (by kernel_rfl) (by kernel_rfl) (by kernel_rfl) (by kernel_rfl) (by kernel_rfl) (by kernel_rfl) (laid := Rows.scriptProgramsRow.laid) (List.Mem.head _) hL
theorem cA6 (W : World) (hL : laidMet Tryz.prog Rows.scriptProgramsRow.laid W) : x4 W (8, .u8, [(.ofNat 0), (.ofNat 1), (.ofNat 56), (.ofNat 2), (.ofNat 57), (.ofNat 49), (.ofNat 28), (.ofNat 3), (.ofNat 61), (.ofNat 58), (.ofNat 42), (.ofNat 50), (.ofNat 38), (.ofNat 29), (.ofNat 17), (.ofNat 4), (.ofNat 62), (.ofNat 47), (.ofNat 59), (.ofNat 36), (.ofNat 45), (.ofNat 43), (.ofNat 51), (.ofNat 22), (.ofNat 53), (.ofNat 39), (.ofNat 33), (.ofNat 30), (.ofNat 24), (.ofNat 18), (.ofNat 12), (.ofNat 5), (.ofNat 63), (.ofNat 55), (.ofNat 48), (.ofNat 27), (.ofNat 60), (.ofNat 41), (.ofNat 37), (.ofNat 16), (.ofNat 46), (.ofNat 35), (.ofNat 44), (.ofNat 21), (.ofNat 52), (.ofNat 32), (.ofNat 23), (.ofNat 11), (.ofNat 54), (.ofNat 26), (.ofNat 40), (.ofNat 15), (.ofNat 34), (.ofNat 20), (.ofNat 31), (.ofNat 10), (.ofNat 25), (.ofNat 14), (.ofNat 19), (.ofNat 9), (.ofNat 13), (.ofNat 8), (.ofNat 7), (.ofNat 6)]) := wj (name := "math/bits.deBruijn64tab") (t := 225) (e := 5) (n := 64) (by kernel_rfl) (by kernel_rfl) (by kernel_rfl) (by kernel_rfl) (by kernel_rfl) (by kernel_rfl) (laid := Rows.scriptProgramsRow.laid) (List.Mem.tail _ (List.Mem.head _)) hL
theorem cA7 (W : World) (hL : laidMet Tryz.prog Rows.scriptProgramsRow.laid W) : x4 W (4, .u64, [(.ofNat 1), (.ofNat 10), (.ofNat 100), (.ofNat 1000), (.ofNat 10000), (.ofNat 100000), (.ofNat 1000000), (.ofNat 10000000), (.ofNat 100000000), (.ofNat 1000000000), (.ofNat 10000000000), (.ofNat 100000000000), (.ofNat 1000000000000), (.ofNat 10000000000000), (.ofNat 100000000000000), (.ofNat 1000000000000000), (.ofNat 10000000000000000), (.ofNat 100000000000000000), (.ofNat 1000000000000000000), (.ofNat 10000000000000000000)]) := wj (name := "internal/strconv.uint64pow10") (t := 206) (e := 111) (n := 20) (by kernel_rfl) (by kernel_rfl) (by kernel_rfl) (by kernel_rfl) (by kernel_rfl) (by kernel_rfl) (laid := Rows.scriptProgramsRow.laid) (List.Mem.tail _ (List.Mem.tail _ (List.Mem.head _))) hL
theorem b07 : "*" ++ "errors.errorString" = "*errors.errorString" := by decide
theorem VY (u : TypeId) (h : Tryz.prog.typeName? 3 u = some "*errors.errorString") : u = 209 := typeName_ptr_named (nm := "errors.errorString") (by rw [b07]; kernel_rfl) (by kernel_rfl) (by decide) u (by rw [b07]; exact h)
theorem bI7 {W : World} (hL : laidMet Tryz.prog Rows.scriptProgramsRow.laid W) {C : Nat} (hC : W.heap.size ≤ C) : (pF (dJ W C) 1).isSome = true := Hs (n := "strconv.ErrSyntax") hC hL.tail.tail.tail.tail.tail (by kernel_rfl) (show (Tryz.prog.globals[1]?).map (·.type) = some 106 by kernel_rfl) Tryz.underlying106 VY Tryz.underlying209 Tryz.underlying211 rfl rfl Tryz.underlying9 (by kernel_rfl) (by kernel_rfl)
theorem bI8 {W : World} (hL : laidMet Tryz.prog Rows.scriptProgramsRow.laid W) {C : Nat} (hC : W.heap.size ≤ C) : (pF (dJ W C) 2).isSome = true := Hs (n := "strconv.ErrRange") hC hL.tail.tail.tail.tail (by kernel_rfl) (show (Tryz.prog.globals[2]?).map (·.type) = some 106 by kernel_rfl) Tryz.underlying106 VY Tryz.underlying209 Tryz.underlying211 rfl rfl Tryz.underlying9 (by kernel_rfl) (by kernel_rfl)
theorem Zd {W : World} (hL : laidMet Tryz.prog Rows.scriptProgramsRow.laid W) {C : Nat} (hC : W.heap.size ≤ C) : j6 (dJ W C) [1, 2] = true := by
  show (Nat.blt 1 1000 && ((pF (dJ W C) 1).isSome && (Nat.blt 2 1000 && ((pF (dJ W C) 2).isSome && true)))) = true
  rw [bI7 hL hC, bI8 hL hC]; rfl
theorem IC {W : World} (hL : laidMet Tryz.prog Rows.scriptProgramsRow.laid W) (C : Nat) : bB (dJ W C) mB = true := xQ (fun t ht => by
  simp only [mB, List.mem_cons, List.mem_nil_iff, or_false] at ht
  rcases ht with rfl | rfl | rfl
  · exact ⟨by decide, cA5 W hL⟩
  · exact ⟨by decide, cA6 W hL⟩
  · exact ⟨by decide, cA7 W hL⟩)
theorem Vk {W : World} (hL : laidMet Tryz.prog Rows.scriptProgramsRow.laid W) {C : Nat} (hC : W.heap.size ≤ C) (hk : 1000 ≤ C) {us : List V} (hR : Lx (dJ W C) C C8 us) (hM : (rZ (dJ W C)).isSome = true) : Ev.Calls ph6 (dJ W C) 3 us .e C fun v _ _ => v = .b true := by
  obtain ⟨vs, x, a1, rfl, h1, vs2, y, a2, rfl, h2, rfl⟩ := hR
  obtain ⟨v, l, rfl, hs, hl⟩ := Ue h1
  obtain ⟨s, rfl⟩ := ae3 h2
  exact l3 ph6 (by kernel_rfl) (L := mB) (by kernel_rfl) (by kernel_rfl) ⟨⟨by kernel_rfl, by kernel_rfl, by kernel_rfl, by kernel_rfl, by kernel_rfl, by kernel_rfl, by kernel_rfl, by kernel_rfl, by kernel_rfl, by kernel_rfl, by kernel_rfl, by kernel_rfl, by kernel_rfl⟩, by kernel_rfl, by kernel_rfl, by kernel_rfl, by kernel_rfl, by kernel_rfl, by kernel_rfl, by kernel_rfl, by kernel_rfl, by kernel_rfl, by kernel_rfl, by kernel_rfl, by kernel_rfl, by kernel_rfl, by kernel_rfl, by kernel_rfl, by kernel_rfl, by kernel_rfl, by kernel_rfl, by kernel_rfl, by kernel_rfl, by kernel_rfl, by kernel_rfl, by kernel_rfl, by kernel_rfl, by kernel_rfl, by kernel_rfl, by kernel_rfl⟩ (by kernel_rfl) (by kernel_rfl) ⟨by kernel_rfl, by kernel_rfl, by kernel_rfl, by kernel_rfl, by kernel_rfl, by kernel_rfl, by kernel_rfl, by kernel_rfl, by kernel_rfl, by kernel_rfl, by kernel_rfl, by kernel_rfl, by kernel_rfl, by kernel_rfl, by kernel_rfl, by kernel_rfl, by kernel_rfl, by kernel_rfl, by kernel_rfl, by kernel_rfl, by kernel_rfl, by kernel_rfl, by kernel_rfl, by kernel_rfl, by kernel_rfl, by kernel_rfl⟩ (fun M c => Dp (IC hL C) (Zd hL hC) hM M c) (Vz hC hk) hs (fun g _ => rfl) (IC hL C) (xH (bI7 hL hC)) (xH (bI8 hL hC)) (ZY hM)
theorem Dr (os : Os) (started : os.Started) (H : Type) (enc : TypeId × Value → H) :
    ReturnsInHanded {} Tryz.checked os 3 .any (fun w args => (Rows.scriptProgramsSpec.pre enc Tryz.prog Tryz.f3 Rows.scriptProgramsRow.domain false w args ∧ laidMetH Tryz.prog Rows.scriptProgramsRow.laid w) ∧ sizedMet enc Tryz.prog Tryz.f3 (OpenSpec.ofChange Rows.scriptProgramsSpec) false w args)
      (Rows.scriptProgramsSpec.post enc Tryz.prog Tryz.f3 false true false false) := by
  refine AV (C := Tryz.checked) (X := fun w _ => laidMetH Tryz.prog Rows.scriptProgramsRow.laid w) (fun _ _ _ hh h => h.of_heap hh) own started (by kernel_rfl) Tryz.func3
    (ChangeSpec.witness_shaped (enc := enc) (C := Tryz.checked) (os := os) (X := fun w _ => laidMetH Tryz.prog Rows.scriptProgramsRow.laid w) false (World.laidAll Tryz.prog os Rows.scriptProgramsRow.laid) #[.slice none 0 0, .string ⟨#[]⟩] 8 (World.laidAll_os _ _ _)
      (World.shaped_of_ZipB (by kernel_rfl) (by kernel_rfl)) (by kernel_rfl) (by kernel_rfl) (by kernel_rfl)
      (by rw [MakeChecks.laidMetH_plain _ _ _ (by kernel_rfl)]; exact laidMet_laidAll _ (by kernel_rfl) (by kernel_rfl))) ?_
  intro W base args ds gs before hsh hval0 hW hc _ hL
  have hW' := hW
  obtain ⟨p, q, hA0, hV, rfl, _, _⟩ := hW
  have hA : DataW.TrodAll enc Tryz.prog W 0 (fun _ => true) true Tryz.f3.params.toList args.toList ds p := hA0
  obtain ⟨rfl, rfl⟩ := trodVars_none hV
  rw [MakeChecks.laidMetH_plain _ _ _ (by kernel_rfl)] at hL
  have hty : L3 Tryz.prog C8 Tryz.f3.params.toList = true := by kernel_rfl
  obtain ⟨C, hk0, hC0, hD⟩ := ba3 W
  obtain ⟨us, has, hbd, hR⟩ := Fe (fun _ => rfl) (C := C) hC0 hty hA (fun j t v ht hv => hval0 j t v (by rw [← Array.getElem?_toList]; exact ht) (by rw [← Array.getElem?_toList]; exact hv)) (fun _ => hD)
  have hcall := be6 cK bh8 (W := W) (C := C) (f := 3) (args := us) hC0 hk0 hbd (Vk hL hC0 hk0 hR (bg0 (show W.ShapedOpen Tryz.prog from hsh) (of_decide_eq_true (by kernel_rfl)) (t := 3) (by kernel_rfl) (by kernel_rfl) (by kernel_rfl) Tryz.underlying3))
  rw [has] at hcall
  have hlen := yo hA
  rw [Tryz.params3] at hlen
  obtain ⟨d1, d2, rfl⟩ : ∃ d1 d2, ds = [d1, d2] := by
    match ds, hlen with
    | [d1, d2], _ => exact ⟨d1, d2, rfl⟩
  refine hcall.mono fun e W' ⟨he, hk, hheap⟩ => ?_
  subst he
  refine ⟨_, rfl, _, _, _, [], p, [], hW', trodAll_mk1 (shut_bool Tryz.underlying4 true), ?_, ?_, hk _, fun h => by cases h⟩
  · exact Aj hheap hty hA
  · exact hV
theorem law_holds : Rows.ScriptProgramsSaid :=
  OpenClaim.holds_of_wide 3 Tryz.f3 rfl rfl rfl rfl rfl rfl rfl ⟨rfl, rfl, rfl, rfl, rfl⟩ rfl rfl rfl rfl rfl (by kernel_rfl) Tryz.func3 (by kernel_rfl)
    (of_decide_eq_true (by kernel_rfl)) (by unfold Func.isWrapper; first | (rw [if_pos (by decide +kernel)]; kernel_rfl) | (rw [if_neg (by decide +kernel)]; exact ⟨rfl, rfl⟩))
    (fun os started H enc _ => Dr os started H enc)
theorem card_holds : Rows.ScriptProgramsCardSaid :=
  Claim7.holds_tied_plain_at .later [] [.data, .data, .data, .data, .sentinel, .sentinel, .pinned, .pinned] true (true, "9be6af2d51d04cc339a36db618ef66166d78547fb77f01dd21156fbbc7ab0135") true
    law_holds (fun _ h => by cases h) (by kernel_rfl) (fun _ h => by cases h) scriptPrograms_row_tie rfl ⟨rfl, rfl⟩ (by kernel_rfl) rfl
    (fun f fn hf hfn => by
      obtain rfl : f = 3 := Option.some.inj ((show Tryz.prog.funcNamed "steading/steadinglaw29.ScriptPrograms" = some 3 by kernel_rfl).symm.trans hf) |>.symm
      obtain rfl : fn = Tryz.f3 := (Option.some.inj (Tryz.func3.symm.trans hfn)).symm
      exact ⟨by kernel_rfl, fun j t ht => by
        rw [Tryz.params3] at ht
        rw [← Array.getElem?_toList] at ht
        have hm := List.mem_of_getElem? ht
        simp only [List.mem_cons, List.mem_nil_iff, or_false] at hm
        rcases hm with rfl | rfl <;> first | (show Tryz.prog.wantsStandIn _ = false; kernel_rfl) | (show _ = false; kernel_rfl) | decide +kernel⟩)
    (by kernel_rfl)
#print axioms card_holds
end Go.Proofs.YtkcelmimbmbfkaaGreatDoor
