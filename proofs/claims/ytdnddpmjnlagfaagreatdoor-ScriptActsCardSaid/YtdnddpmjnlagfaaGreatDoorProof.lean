/- What is proved here: the law ScriptActs returns true for every input, as0 the given card says. Conditions: those of the given row (the package-level variables that it lists read as0 the program lays them). -/
import Derived.Test.YtdnddpmjnlagfaaGreatDoorRun
import Derived.Test.YtdnddpmjnlagfaaGreatDoorRows
import Derived.Test.YtdnddpmjnlagfaaGreatDoorCards
import Derived.Test.YtdnddpmjnlagfaaGreatDoorTie
import Derived.ProofKit
import Derived.OpenShut
import Derived.LaidMore
import Derived.Lay
import Derived.SevenTiedAt
import Derived.Stop.Joined
set_option linter.unusedSimpArgs false
set_option linter.unusedVariables false
set_option maxRecDepth 100000
namespace Go.Proofs.YtdnddpmjnlagfaaGreatDoor
open Go Ev
open Go.ChangeShapes Go.WideShapes Go.ChangeAt Go.RowKit
theorem own : ownKnob Tryz.prog.godebug = none := by kernel_rfl
theorem gS : Tryz.prog.follows .mixedOrders = true := by kernel_rfl
theorem zz {H : Type} {enc : TypeId × Value → H} {P : Program} {W : World} {sp : Nat → Bool} {held : Bool} : ∀ {ts : List TypeId} {vs : List Value} {ds : List (DataW H)} {ps : List MemPlace}, DataW.TrodAll enc P W 0 sp held ts vs ds ps → ds.length = ts.length
  | [], [], [], ps, h => rfl
  | [], [], _ :: _, ps, h => by cases h
  | [], _ :: _, ds, ps, h => by cases ds <;> cases h
  | _ :: _, [], ds, ps, h => by cases ds <;> cases h
  | _ :: _, _ :: _, [], ps, h => by cases h
  | t :: ts, v :: vs, d :: ds, ps, h => by
    obtain ⟨p, q, h1, h2, _⟩ := h
    rw [List.length_cons, List.length_cons, zz h2]
theorem od : kV pM := fun ty => by kernel_rfl
noncomputable def ph0 : Nat → Option CF := fun k => phi.get k
theorem jT : fo Tryz.prog ph0 := YK
theorem bQ9 : ce Tryz.prog 35 (bg h35) := o35 gS jT (by kernel_rfl)
theorem bQ8 : ce Tryz.prog 13 (bg h13) := o13 gS jT (by kernel_rfl)
theorem bR0 : ce Tryz.prog 89 (bg h89) := o89 gS jT (by kernel_rfl)
theorem bd5 : ce Tryz.prog 166 (bg vG) := cB1 gS jT (by kernel_rfl)
theorem bd6 : ce Tryz.prog 177 (bg tT) := cB2 gS jT (by kernel_rfl)
theorem bd8 : ce Tryz.prog 179 (bg tV) := cB3 gS jT (by kernel_rfl)
theorem bd4 : ce Tryz.prog 158 (bg vF) := cA9 gS jT (by kernel_rfl)
theorem bd2 : ce Tryz.prog 149 (bg h149) := cA7 gS jT (by kernel_rfl)
theorem bd3 : ce Tryz.prog 156 (bg h156) := cA8 gS jT (by kernel_rfl)
theorem bd7 : ce Tryz.prog 178 (bg tU) := bX4 gS jT (by kernel_rfl)
noncomputable def ph1 : Nat → Option CF := (wQ (wQ (wQ (wQ (wQ (wQ (wQ (wQ (wQ (wQ (wQ (wQ (wQ ph0 35 (.orc (bg h35))) 13 (.orc (bg h13))) 89 (.orc (bg h89))) 166 (.orc (bg vG))) 177 (.orc (bg tT))) 179 (.orc (bg tV))) 158 (.orc (bg vF))) 149 (.orc (bg h149))) 156 (.orc (bg h156))) 178 (.orc (bg tU))) 73 (.orc (wG 9 2))) 86 (.orc (Fj Tryz.prog 3 5 6))) 8 (.orc (Ah pM [0, 1])))
theorem Fv : fo Tryz.prog ph1 := (dV (dV (dV (dV (dV (dV (dV (dV (dV (dV (dV (dV (dV jT bQ9) bQ8) bR0) bd5) bd6) bd8) bd4) bd2) bd3) bd7) D9) Yy) (f := 8) (g := Ah pM [0, 1]) (wh gS bh0 (n := 1002) rfl ran))
theorem bd9 : ce Tryz.prog 134 (bg tR) := cA6 gS Fv (by kernel_rfl) (by kernel_rfl)
theorem be0 : ce Tryz.prog 159 (eQ pM tS) := cB0 gS Fv (by kernel_rfl) (by kernel_rfl) (by kernel_rfl) (by kernel_rfl) od (List.mem_of_find?_eq_some (p := fun t => Nat.beq t.1 4) (by kernel_rfl))
noncomputable def ph2 : Nat → Option CF := (wQ (wQ ph1 134 (.orc (bg tR))) 159 (.orc (eQ pM tS)))
theorem Fw : fo Tryz.prog ph2 := (dV (dV Fv bd9) be0)
theorem be1 : ce Tryz.prog 100 (bg py) := cA4 gS Fw (by kernel_rfl) (by kernel_rfl)
theorem be2 : ce Tryz.prog 128 (eQ pM vE) := cA5 gS Fw (by kernel_rfl) (by kernel_rfl) (by kernel_rfl) (by kernel_rfl) od
noncomputable def ph3 : Nat → Option CF := (wQ (wQ ph2 100 (.orc (bg py))) 128 (.orc (eQ pM vE)))
theorem Fx : fo Tryz.prog ph3 := (dV (dV Fw be1) be2)
theorem bR1 : ce Tryz.prog 64 (bg py) := o64 gS Fx (by kernel_rfl) (by kernel_rfl)
theorem bR2 : ce Tryz.prog 90 (eQ pM DG) := o90 gS Fx (by kernel_rfl) (by kernel_rfl) od
noncomputable def ph4 : Nat → Option CF := (wQ (wQ ph3 64 (.orc (bg py))) 90 (.orc (eQ pM DG)))
theorem YI : fo Tryz.prog ph4 := (dV (dV Fx bR1) bR2)
theorem bR3 : ce Tryz.prog 44 (eQ pM DG) := o44 gS YI (by kernel_rfl) (by kernel_rfl) od
noncomputable def ph5 : Nat → Option CF := (wQ ph4 44 (.orc (eQ pM DG)))
theorem bg9 : fo Tryz.prog ph5 := (dV YI bR3)
def DH : List Ty := [Qm, .str]
theorem cK9 (W : World) (hL : laidMet Tryz.prog Rows.scriptActsRow.laid W) : yk W (7, .u8, [(.ofNat 0), (.ofNat 1), (.ofNat 28), (.ofNat 2), (.ofNat 29), (.ofNat 14), (.ofNat 24), (.ofNat 3), (.ofNat 30), (.ofNat 22), (.ofNat 20), (.ofNat 15), (.ofNat 25), (.ofNat 17), (.ofNat 4), (.ofNat 8), (.ofNat 31), (.ofNat 27), (.ofNat 13), (.ofNat 23), (.ofNat 21), (.ofNat 19), (.ofNat 16), (.ofNat 7), (.ofNat 26), (.ofNat 12), (.ofNat 18), (.ofNat 6), (.ofNat 11), (.ofNat 5), (.ofNat 10), (.ofNat 9)]) := wL (name := "math/bits.deBruijn32tab") (t := 255) (e := 5) (n := 32) (by kernel_rfl) (by kernel_rfl) (by kernel_rfl) (by kernel_rfl) (by kernel_rfl) (by kernel_rfl) (laid := Rows.scriptActsRow.laid) (List.Mem.head _) hL
theorem cL0 (W : World) (hL : laidMet Tryz.prog Rows.scriptActsRow.laid W) : yk W (8, .u8, [(.ofNat 0), (.ofNat 1), (.ofNat 56), (.ofNat 2), (.ofNat 57), (.ofNat 49), (.ofNat 28), (.ofNat 3), (.ofNat 61), (.ofNat 58), (.ofNat 42), (.ofNat 50), (.ofNat 38), (.ofNat 29), (.ofNat 17), (.ofNat 4), (.ofNat 62), (.ofNat 47), (.ofNat 59), (.ofNat 36), (.ofNat 45), (.ofNat 43), (.ofNat 51), (.ofNat 22), (.ofNat 53), (.ofNat 39), (.ofNat 33), (.ofNat 30), (.ofNat 24), (.ofNat 18), (.ofNat 12), (.ofNat 5), (.ofNat 63), (.ofNat 55), (.ofNat 48), (.ofNat 27), (.ofNat 60), (.ofNat 41), (.ofNat 37), (.ofNat 16), (.ofNat 46), (.ofNat 35), (.ofNat 44), (.ofNat 21), (.ofNat 52), (.ofNat 32), (.ofNat 23), (.ofNat 11), (.ofNat 54), (.ofNat 26), (.ofNat 40), (.ofNat 15), (.ofNat 34), (.ofNat 20), (.ofNat 31), (.ofNat 10), (.ofNat 25), (.ofNat 14), (.ofNat 19), (.ofNat 9), (.ofNat 13), (.ofNat 8), (.ofNat 7), (.ofNat 6)]) := wL (name := "math/bits.deBruijn64tab") (t := 256) (e := 5) (n := 64) (by kernel_rfl) (by kernel_rfl) (by kernel_rfl) (by kernel_rfl) (by kernel_rfl) (by kernel_rfl) (laid := Rows.scriptActsRow.laid) (List.Mem.tail _ (List.Mem.head _)) hL
theorem cL1 (W : World) (hL : laidMet Tryz.prog Rows.scriptActsRow.laid W) : yk W (4, .u64, [(.ofNat 1), (.ofNat 10), (.ofNat 100), (.ofNat 1000), (.ofNat 10000), (.ofNat 100000), (.ofNat 1000000), (.ofNat 10000000), (.ofNat 100000000), (.ofNat 1000000000), (.ofNat 10000000000), (.ofNat 100000000000), (.ofNat 1000000000000), (.ofNat 10000000000000), (.ofNat 100000000000000), (.ofNat 1000000000000000), (.ofNat 10000000000000000), (.ofNat 100000000000000000), (.ofNat 1000000000000000000), (.ofNat 10000000000000000000)]) := wL (name := "internal/strconv.uint64pow10") (t := 236) (e := 136) (n := 20) (by kernel_rfl) (by kernel_rfl) (by kernel_rfl) (by kernel_rfl) (by kernel_rfl) (by kernel_rfl) (laid := Rows.scriptActsRow.laid) (List.Mem.tail _ (List.Mem.tail _ (List.Mem.head _))) hL
theorem b17 : "*" ++ "errors.errorString" = "*errors.errorString" := by decide
theorem Z3 (u : TypeId) (h : Tryz.prog.typeName? 3 u = some "*errors.errorString") : u = 232 := typeName_ptr_named (nm := "errors.errorString") (by rw [b17]; kernel_rfl) (by kernel_rfl) (by decide) u (by rw [b17]; exact h)
theorem bQ3 {W : World} (hL : laidMet Tryz.prog Rows.scriptActsRow.laid W) {C : Nat} (hC : W.heap.size ≤ C) : (pv (cQ W C) 0).isSome = true := Lc (n := "strconv.ErrSyntax") hC hL.tail.tail.tail.tail.tail (by kernel_rfl) (show (Tryz.prog.globals[0]?).map (·.type) = some 90 by kernel_rfl) Tryz.underlying90 Z3 Tryz.underlying232 Tryz.underlying234 rfl rfl Tryz.underlying9 (by kernel_rfl) (by kernel_rfl)
theorem bQ4 {W : World} (hL : laidMet Tryz.prog Rows.scriptActsRow.laid W) {C : Nat} (hC : W.heap.size ≤ C) : (pv (cQ W C) 1).isSome = true := Lc (n := "strconv.ErrRange") hC hL.tail.tail.tail.tail (by kernel_rfl) (show (Tryz.prog.globals[1]?).map (·.type) = some 90 by kernel_rfl) Tryz.underlying90 Z3 Tryz.underlying232 Tryz.underlying234 rfl rfl Tryz.underlying9 (by kernel_rfl) (by kernel_rfl)
theorem aj1 {W : World} (hL : laidMet Tryz.prog Rows.scriptActsRow.laid W) {C : Nat} (hC : W.heap.size ≤ C) : j4 (cQ W C) [0, 1] = true := by
  show (Nat.blt 0 1000 && ((pv (cQ W C) 0).isSome && (Nat.blt 1 1000 && ((pv (cQ W C) 1).isSome && true)))) = true
  rw [bQ3 hL hC, bQ4 hL hC]; rfl
theorem MN {W : World} (hL : laidMet Tryz.prog Rows.scriptActsRow.laid W) (C : Nat) : bA (cQ W C) pM = true := yO (fun t ht => by
  simp only [pM, List.mem_cons, List.mem_nil_iff, or_false] at ht
  rcases ht with rfl | rfl | rfl
  · exact ⟨by decide, cK9 W hL⟩
  · exact ⟨by decide, cL0 W hL⟩
  · exact ⟨by decide, cL1 W hL⟩)
theorem Yp {W : World} (hL : laidMet Tryz.prog Rows.scriptActsRow.laid W) {C : Nat} (hC : W.heap.size ≤ C) (hk : 1000 ≤ C) {us : List V} (hR : PO (cQ W C) C DH us) (hM : (wf (cQ W C)).isSome = true) : Ev.Calls ph5 (cQ W C) 3 us .e C fun v _ _ => v = .b true := by
  obtain ⟨vs, x, a1, rfl, h1, vs2, y, a2, rfl, h2, rfl⟩ := hR
  obtain ⟨y, vd, vl, rfl, ra, rl, sd, sl⟩ := b66 h1
  obtain ⟨s, rfl⟩ := aq6 h2
  have hlow : BJ Tryz.prog 3 5 6 (cQ W C) := Yx Z1 ⟨by kernel_rfl, by kernel_rfl, by kernel_rfl, by kernel_rfl, by kernel_rfl, by kernel_rfl⟩ ⟨by kernel_rfl, by kernel_rfl, by kernel_rfl, by kernel_rfl, by kernel_rfl, by kernel_rfl, by kernel_rfl⟩ hL hC (by decide) (by decide) (by decide) (d1 := Rows.laid_unicode_CaseRanges) (d2 := Rows.laid_unicode_utf8_first) (d3 := Rows.laid_unicode_utf8_acceptRanges) (by kernel_rfl) (by kernel_rfl) (by kernel_rfl) (List.Mem.tail _ (List.Mem.tail _ (List.Mem.tail _ (List.Mem.tail _ (List.Mem.tail _ (List.Mem.tail _ (List.Mem.head _))))))) (List.Mem.tail _ (List.Mem.tail _ (List.Mem.tail _ (List.Mem.tail _ (List.Mem.tail _ (List.Mem.tail _ (List.Mem.tail _ (List.Mem.head _)))))))) (List.Mem.tail _ (List.Mem.tail _ (List.Mem.tail _ (List.Mem.head _))))
  exact l3 (q13 := 3) (q3 := 5) (q4 := 6) (Φ := ph5) (L := pM) ⟨⟨⟨⟨⟨by kernel_rfl, by kernel_rfl, by kernel_rfl, by kernel_rfl, by kernel_rfl, by kernel_rfl, by kernel_rfl, by kernel_rfl, by kernel_rfl, by kernel_rfl, by kernel_rfl, by kernel_rfl⟩, by kernel_rfl, by kernel_rfl, by kernel_rfl, by kernel_rfl, by kernel_rfl⟩, by kernel_rfl, by kernel_rfl, by kernel_rfl, by kernel_rfl, by kernel_rfl, by kernel_rfl, by kernel_rfl, by kernel_rfl, by kernel_rfl, by kernel_rfl, by kernel_rfl, by kernel_rfl⟩, by kernel_rfl, by kernel_rfl, by kernel_rfl, by kernel_rfl, by kernel_rfl, by kernel_rfl, by kernel_rfl, by kernel_rfl, by kernel_rfl, by kernel_rfl, by kernel_rfl⟩, ⟨⟨⟨by kernel_rfl, by kernel_rfl, by kernel_rfl, by kernel_rfl, by kernel_rfl, by kernel_rfl, by kernel_rfl, by kernel_rfl, by kernel_rfl, by kernel_rfl, by kernel_rfl, by kernel_rfl⟩, by kernel_rfl, by kernel_rfl, by kernel_rfl⟩, by kernel_rfl, by kernel_rfl, by kernel_rfl, by kernel_rfl, by kernel_rfl, by kernel_rfl, by kernel_rfl, by kernel_rfl, by kernel_rfl, by kernel_rfl, by kernel_rfl, by kernel_rfl⟩, by kernel_rfl, by kernel_rfl, by kernel_rfl, by kernel_rfl, by kernel_rfl⟩ (by kernel_rfl) (fun M c => Fc (MN hL C) (aj1 hL hC) hM M c) (YE hC hk) ⟨MN hL C, yG (bQ3 hL hC), yG (bQ4 hL hC), fun g _ => rfl, hlow⟩ ra rl sd sl
theorem Fe (os : Os) (started : os.Started) (H : Type) (enc : TypeId × Value → H) :
    ReturnsInHanded {} Tryz.checked os 3 .any (fun w args => (Rows.scriptActsSpec.pre enc Tryz.prog Tryz.f3 Rows.scriptActsRow.domain false w args ∧ laidMetH Tryz.prog Rows.scriptActsRow.laid w) ∧ sizedMet enc Tryz.prog Tryz.f3 (OpenSpec.ofChange Rows.scriptActsSpec) false w args)
      (Rows.scriptActsSpec.post enc Tryz.prog Tryz.f3 false true false false) := by
  refine CA (C := Tryz.checked) (X := fun w _ => laidMetH Tryz.prog Rows.scriptActsRow.laid w) (fun _ _ _ hh h => h.of_heap hh) own started (by kernel_rfl) Tryz.func3
    (ChangeSpec.witness_shaped (enc := enc) (C := Tryz.checked) (os := os) (X := fun w _ => laidMetH Tryz.prog Rows.scriptActsRow.laid w) false (World.laidAll Tryz.prog os Rows.scriptActsRow.laid) #[.agg #[.int .i64 0, .int .i64 0, .string ⟨#[]⟩, .slice none 0 0, .slice none 0 0], .string ⟨#[]⟩] 8 (World.laidAll_os _ _ _)
      (World.shaped_of_ZipB (by kernel_rfl) (by kernel_rfl)) (by kernel_rfl) (by kernel_rfl) (by kernel_rfl)
      (by rw [MakeChecks.laidMetH_plain _ _ _ (by kernel_rfl)]; exact laidMet_laidAll _ (by kernel_rfl) (by kernel_rfl))) ?_
  intro W base args ds gs before hsh hval0 hW hc _ hL
  have hW' := hW
  obtain ⟨p, q, hA0, hV, rfl, _, _⟩ := hW
  have hA : DataW.TrodAll enc Tryz.prog W 0 (fun _ => true) true Tryz.f3.params.toList args.toList ds p := hA0
  obtain ⟨rfl, rfl⟩ := trodVars_none hV
  rw [MakeChecks.laidMetH_plain _ _ _ (by kernel_rfl)] at hL
  have hty : Pq Tryz.prog DH Tryz.f3.params.toList = true := by kernel_rfl
  obtain ⟨C, hk0, hC0, hD⟩ := bb0 W
  obtain ⟨us, has, hbd, hR⟩ := He (fun _ => rfl) (C := C) hC0 hty hA (fun j t v ht hv => hval0 j t v (by rw [← Array.getElem?_toList]; exact ht) (by rw [← Array.getElem?_toList]; exact hv)) (fun _ => hD)
  have hcall := be8 gS bg9 (W := W) (C := C) (f := 3) (args := us) hC0 hk0 hbd (Yp hL hC0 hk0 hR (bf4 (show W.ShapedOpen Tryz.prog from hsh) (of_decide_eq_true (by kernel_rfl)) (t := 3) (by kernel_rfl) (by kernel_rfl) (by kernel_rfl) Tryz.underlying3))
  rw [has] at hcall
  have hlen := zz hA
  rw [Tryz.params3] at hlen
  obtain ⟨d1, d2, rfl⟩ : ∃ d1 d2, ds = [d1, d2] := by
    match ds, hlen with
    | [d1, d2], _ => exact ⟨d1, d2, rfl⟩
  refine hcall.mono fun e W' ⟨he, hk, hheap⟩ => ?_
  subst he
  refine ⟨_, rfl, _, _, _, [], p, [], hW', trodAll_mk1 (shut_bool Tryz.underlying4 true), ?_, ?_, hk _, fun h => by cases h⟩
  · exact C1 hheap hty hA
  · exact hV
theorem law_holds : Rows.ScriptActsSaid :=
  OpenClaim.holds_of_wide 3 Tryz.f3 rfl rfl rfl rfl rfl rfl rfl ⟨rfl, rfl, rfl, rfl, rfl⟩ rfl rfl rfl rfl rfl (by kernel_rfl) Tryz.func3 (by kernel_rfl)
    (of_decide_eq_true (by kernel_rfl)) (by unfold Func.isWrapper; first | (rw [if_pos (by decide +kernel)]; kernel_rfl) | (rw [if_neg (by decide +kernel)]; exact ⟨rfl, rfl⟩))
    (fun os started H enc _ => Fe os started H enc)
theorem card_holds : Rows.ScriptActsCardSaid :=
  Claim7.holds_tied_plain_at .later [] [.data, .data, .data, .data, .sentinel, .sentinel, .pinned, .pinned] true (true, "8b84cf2ac2a77e2c43e40bfd5c79d0776538754c6d5c711cc12f4c9c4a71b818") true
    law_holds (fun _ h => by cases h) (by kernel_rfl) (fun _ h => by cases h) scriptActs_row_tie rfl ⟨rfl, rfl⟩ (by kernel_rfl) rfl
    (fun f fn hf hfn => by
      obtain rfl : f = 3 := Option.some.inj ((show Tryz.prog.funcNamed "steading/steadinglaw29.ScriptActs" = some 3 by kernel_rfl).symm.trans hf) |>.symm
      obtain rfl : fn = Tryz.f3 := (Option.some.inj (Tryz.func3.symm.trans hfn)).symm
      exact ⟨by kernel_rfl, fun j t ht => by
        rw [Tryz.params3] at ht
        rw [← Array.getElem?_toList] at ht
        have hm := List.mem_of_getElem? ht
        simp only [List.mem_cons, List.mem_nil_iff, or_false] at hm
        rcases hm with rfl | rfl <;> first | (show Tryz.prog.wantsStandIn _ = false; kernel_rfl) | (show _ = false; kernel_rfl) | decide +kernel⟩)
    (by kernel_rfl)
#print axioms card_holds
end Go.Proofs.YtdnddpmjnlagfaaGreatDoor
