/- What is proved here: the law ScriptTexts returns true for every input, as0 the given card says. Conditions: those of the given row (the package-level variables that it lists read as0 the program lays them). -/
import Derived.Test.YtcnblipfcihcpaaGreatDoorRun
import Derived.Test.YtcnblipfcihcpaaGreatDoorRows
import Derived.Test.YtcnblipfcihcpaaGreatDoorCards
import Derived.Test.YtcnblipfcihcpaaGreatDoorTie
import Derived.ProofKit
import Derived.OpenShut
import Derived.LaidMore
import Derived.Lay
import Derived.SevenTiedAt
import Derived.Stop.Joined
set_option linter.unusedSimpArgs false
set_option linter.unusedVariables false
set_option maxRecDepth 100000
namespace Go.Proofs.YtcnblipfcihcpaaGreatDoor
open Go Ev
open Go.ChangeShapes Go.WideShapes Go.ChangeAt Go.RowKit
theorem own : ownKnob Tryz.prog.godebug = none := by kernel_rfl
theorem ej : Tryz.prog.follows .mixedOrders = true := by kernel_rfl
theorem zH {H : Type} {enc : TypeId × Value → H} {P : Program} {W : World} {sp : Nat → Bool} {held : Bool} : ∀ {ts : List TypeId} {vs : List Value} {ds : List (DataW H)} {ps : List MemPlace}, DataW.TrodAll enc P W 0 sp held ts vs ds ps → ds.length = ts.length
  | [], [], [], ps, h => rfl
  | [], [], _ :: _, ps, h => by cases h
  | [], _ :: _, ds, ps, h => by cases ds <;> cases h
  | _ :: _, [], ds, ps, h => by cases ds <;> cases h
  | _ :: _, _ :: _, [], ps, h => by cases h
  | t :: ts, v :: vs, d :: ds, ps, h => by
    obtain ⟨p, q, h1, h2, _⟩ := h
    rw [List.length_cons, List.length_cons, zH h2]
theorem jT : j0 mS := fun ty => by kernel_rfl
noncomputable def ph0 : Nat → Option CF := fun k => phi.get k
theorem gL : fo Tryz.prog ph0 := Yr
theorem cC4 : bY Tryz.prog 81 (aJ nZ) := o81 ej gL (by kernel_rfl)
theorem bI6 : bY Tryz.prog 127 (aJ nZ) := dk6 ej gL (by kernel_rfl)
theorem cC3 : bY Tryz.prog 80 (aJ wt) := o80 ej gL (by kernel_rfl)
theorem bI5 : bY Tryz.prog 126 (aJ kb) := dk5 ej gL (by kernel_rfl)
theorem bI3 : bY Tryz.prog 118 (aJ wl) := dk2 ej gL (by kernel_rfl)
theorem bI2 : bY Tryz.prog 117 (aJ nY) := dk1 ej gL (by kernel_rfl)
theorem bJ1 : bY Tryz.prog 173 (aJ wq) := dl4 ej gL (by kernel_rfl)
theorem bI4 : bY Tryz.prog 119 (aJ wm) := dk3 ej gL (by kernel_rfl)
theorem bI8 : bY Tryz.prog 161 (aJ ux) := dl0 ej gL (by kernel_rfl)
theorem bJ0 : bY Tryz.prog 163 (aJ uz) := dl1 ej gL (by kernel_rfl)
theorem bI7 : bY Tryz.prog 149 (aJ wo) := dk7 ej gL (by kernel_rfl)
theorem bI9 : bY Tryz.prog 162 (aJ uy) := cH4 ej gL (by kernel_rfl)
theorem cC2 : bY Tryz.prog 42 (aJ h42) := o42 ej gL (by kernel_rfl)
theorem cC1 : bY Tryz.prog 11 (aJ h11) := o11 ej gL (by kernel_rfl)
noncomputable def ph1 : Nat → Option CF := (pN (pN (pN (pN (pN (pN (pN (pN (pN (pN (pN (pN (pN (pN (pN (pN ph0 81 (.orc (aJ nZ))) 127 (.orc (aJ nZ))) 80 (.orc (aJ wt))) 126 (.orc (aJ kb))) 118 (.orc (aJ wl))) 117 (.orc (aJ nY))) 173 (.orc (aJ wq))) 119 (.orc (aJ wm))) 161 (.orc (aJ ux))) 163 (.orc (aJ uz))) 149 (.orc (aJ wo))) 162 (.orc (aJ uy))) 42 (.orc (aJ h42))) 11 (.orc (aJ h11))) 47 (.orc (xz 9 0))) 5 (.orc (Ax mS [1, 2])))
theorem wS : fo Tryz.prog ph1 := (de (de (de (de (de (de (de (de (de (de (de (de (de (de (de (de gL cC4) bI6) cC3) bI5) bI3) bI2) bJ1) bI4) bI8) bJ0) bI7) bI9) cC2) cC1) D3) (f := 5) (g := Ax mS [1, 2]) (wQ ej bM5 (n := 1002) rfl ran))
theorem cC5 : bY Tryz.prog 92 (aJ Cl) := o92 ej wS (by kernel_rfl) (by kernel_rfl)
theorem bJ3 : bY Tryz.prog 166 (aJ sX) := dl2 ej wS (by kernel_rfl) (by kernel_rfl) (by kernel_rfl) (by kernel_rfl)
theorem bJ4 : bY Tryz.prog 167 (aJ wp) := dl3 ej wS (by kernel_rfl) (by kernel_rfl)
theorem bJ2 : bY Tryz.prog 150 (cI mS uw) := dk8 ej wS (by kernel_rfl) (by kernel_rfl) (by kernel_rfl) (by kernel_rfl) jT (List.mem_of_find?_eq_some (p := fun t => Nat.beq t.1 4) (by kernel_rfl))
noncomputable def ph2 : Nat → Option CF := (pN (pN (pN (pN ph1 92 (.orc (aJ Cl))) 166 (.orc (aJ sX))) 167 (.orc (aJ wp))) 150 (.orc (cI mS uw)))
theorem AD : fo Tryz.prog ph2 := (de (de (de (de wS cC5) bJ3) bJ4) bJ2)
theorem cC6 : bY Tryz.prog 91 (aJ uA) := o91 ej AD (by kernel_rfl) (by kernel_rfl) (by kernel_rfl) (by kernel_rfl) (by kernel_rfl) (by kernel_rfl)
theorem bJ6 : bY Tryz.prog 153 (aJ h153) := dk9 ej AD (by kernel_rfl) (by kernel_rfl) (by kernel_rfl) (by kernel_rfl) (by kernel_rfl)
theorem bJ5 : bY Tryz.prog 122 (cI mS wn) := dk4 ej AD (by kernel_rfl) (by kernel_rfl) (by kernel_rfl) (by kernel_rfl) jT
noncomputable def ph3 : Nat → Option CF := (pN (pN (pN ph2 91 (.orc (aJ uA))) 153 (.orc (aJ h153))) 122 (.orc (cI mS wn)))
theorem Fg : fo Tryz.prog ph3 := (de (de (de AD cC6) bJ6) bJ5)
theorem cC7 : bY Tryz.prog 82 (aJ Ob) := o82 ej Fg (by kernel_rfl) (by kernel_rfl)
theorem cC8 : bY Tryz.prog 96 (cI mS qR) := o96 ej Fg (by kernel_rfl) (by kernel_rfl) jT
noncomputable def ph4 : Nat → Option CF := (pN (pN ph3 82 (.orc (aJ Ob))) 96 (.orc (cI mS qR)))
theorem Fh : fo Tryz.prog ph4 := (de (de Fg cC7) cC8)
theorem bJ7 : bY Tryz.prog 116 (aJ h116) := dk0 ej Fh (by kernel_rfl) (by kernel_rfl) (by kernel_rfl) (by kernel_rfl) (by kernel_rfl)
theorem cC9 : bY Tryz.prog 56 (cI mS qR) := o56 ej Fh (by kernel_rfl) (by kernel_rfl) jT
noncomputable def ph5 : Nat → Option CF := (pN (pN ph4 116 (.orc (aJ h116))) 56 (.orc (cI mS qR)))
theorem Fi : fo Tryz.prog ph5 := (de (de Fh bJ7) cC9)
theorem cD0 : bY Tryz.prog 53 (cI mS h53) := o53 ej Fi (by kernel_rfl) (by kernel_rfl) (by kernel_rfl) (by kernel_rfl) (by kernel_rfl) (by kernel_rfl) (by kernel_rfl) (by kernel_rfl) (by kernel_rfl) (by kernel_rfl) (by kernel_rfl) (by kernel_rfl) jT
theorem bJ8 : bY Tryz.prog 101 (cI mS h101) := dj9 ej Fi (by kernel_rfl) (by kernel_rfl) (by kernel_rfl) (by kernel_rfl) (by kernel_rfl) jT
noncomputable def ph6 : Nat → Option CF := (pN (pN ph5 53 (.orc (cI mS h53))) 101 (.orc (cI mS h101)))
theorem bM4 : fo Tryz.prog ph6 := (de (de Fi cD0) bJ8)
def Do : List Ty := [YL]
theorem dy2 (W : World) (hL : laidMet Tryz.prog Rows.scriptTextsRow.laid W) : yF W (7, .u8, [(.ofNat 0), (.ofNat 1), (.ofNat 28), (.ofNat 2), (.ofNat 29), (.ofNat 14), (.ofNat 24), (.ofNat 3), (.ofNat 30), (.ofNat 22), (.ofNat 20), (.ofNat 15), (.ofNat 25), (.ofNat 17), (.ofNat 4), (.ofNat 8), (.ofNat 31), (.ofNat 27), (.ofNat 13), (.ofNat 23), (.ofNat 21), (.ofNat 19), (.ofNat 16), (.ofNat 7), (.ofNat 26), (.ofNat 12), (.ofNat 18), (.ofNat 6), (.ofNat 11), (.ofNat 5), (.ofNat 10), (.ofNat 9)]) := xG (name := "math/bits.deBruijn32tab") (t := 239) (e := 5) (n := 32) (by kernel_rfl) (by kernel_rfl) (by kernel_rfl) (by kernel_rfl) (by kernel_rfl) (by kernel_rfl) (laid := Rows.scriptTextsRow.laid) (List.Mem.head _) hL
theorem dy3 (W : World) (hL : laidMet Tryz.prog Rows.scriptTextsRow.laid W) : yF W (8, .u8, [(.ofNat 0), (.ofNat 1), (.ofNat 56), (.ofNat 2), (.ofNat 57), (.ofNat 49), (.ofNat 28), (.ofNat 3), (.ofNat 61), (.ofNat 58), (.ofNat 42), (.ofNat 50), (.ofNat 38), (.ofNat 29), (.ofNat 17), (.ofNat 4), (.ofNat 62), (.ofNat 47), (.ofNat 59), (.ofNat 36), (.ofNat 45), (.ofNat 43), (.ofNat 51), (.ofNat 22), (.ofNat 53), (.ofNat 39), (.ofNat 33), (.ofNat 30), (.ofNat 24), (.ofNat 18), (.ofNat 12), (.ofNat 5), (.ofNat 63), (.ofNat 55), (.ofNat 48), (.ofNat 27), (.ofNat 60), (.ofNat 41), (.ofNat 37), (.ofNat 16), (.ofNat 46), (.ofNat 35), (.ofNat 44), (.ofNat 21), (.ofNat 52), (.ofNat 32), (.ofNat 23), (.ofNat 11), (.ofNat 54), (.ofNat 26), (.ofNat 40), (.ofNat 15), (.ofNat 34), (.ofNat 20), (.ofNat 31), (.ofNat 10), (.ofNat 25), (.ofNat 14), (.ofNat 19), (.ofNat 9), (.ofNat 13), (.ofNat 8), (.ofNat 7), (.ofNat 6)]) := xG (name := "math/bits.deBruijn64tab") (t := 240) (e := 5) (n := 64) (by kernel_rfl) (by kernel_rfl) (by kernel_rfl) (by kernel_rfl) (by kernel_rfl) (by kernel_rfl) (laid := Rows.scriptTextsRow.laid) (List.Mem.tail _ (List.Mem.head _)) hL
theorem dy4 (W : World) (hL : laidMet Tryz.prog Rows.scriptTextsRow.laid W) : yF W (4, .u64, [(.ofNat 1), (.ofNat 10), (.ofNat 100), (.ofNat 1000), (.ofNat 10000), (.ofNat 100000), (.ofNat 1000000), (.ofNat 10000000), (.ofNat 100000000), (.ofNat 1000000000), (.ofNat 10000000000), (.ofNat 100000000000), (.ofNat 1000000000000), (.ofNat 10000000000000), (.ofNat 100000000000000), (.ofNat 1000000000000000), (.ofNat 10000000000000000), (.ofNat 100000000000000000), (.ofNat 1000000000000000000), (.ofNat 10000000000000000000)]) := xG (name := "internal/strconv.uint64pow10") (t := 219) (e := 125) (n := 20) (by kernel_rfl) (by kernel_rfl) (by kernel_rfl) (by kernel_rfl) (by kernel_rfl) (by kernel_rfl) (laid := Rows.scriptTextsRow.laid) (List.Mem.tail _ (List.Mem.tail _ (List.Mem.head _))) hL
theorem bo8 : "*" ++ "errors.errorString" = "*errors.errorString" := by decide
theorem YG (u : TypeId) (h : Tryz.prog.typeName? 3 u = some "*errors.errorString") : u = 223 := typeName_ptr_named (nm := "errors.errorString") (by rw [bo8]; kernel_rfl) (by kernel_rfl) (by decide) u (by rw [bo8]; exact h)
theorem dj1 {W : World} (hL : laidMet Tryz.prog Rows.scriptTextsRow.laid W) {C : Nat} (hC : W.heap.size ≤ C) : (rz (dV W C) 1).isSome = true := Jp (n := "strconv.ErrSyntax") hC hL.tail.tail.tail.tail.tail (by kernel_rfl) (show (Tryz.prog.globals[1]?).map (·.type) = some 68 by kernel_rfl) Tryz.underlying68 YG Tryz.underlying223 Tryz.underlying225 rfl rfl Tryz.underlying9 (by kernel_rfl) (by kernel_rfl)
theorem dj2 {W : World} (hL : laidMet Tryz.prog Rows.scriptTextsRow.laid W) {C : Nat} (hC : W.heap.size ≤ C) : (rz (dV W C) 2).isSome = true := Jp (n := "strconv.ErrRange") hC hL.tail.tail.tail.tail (by kernel_rfl) (show (Tryz.prog.globals[2]?).map (·.type) = some 68 by kernel_rfl) Tryz.underlying68 YG Tryz.underlying223 Tryz.underlying225 rfl rfl Tryz.underlying9 (by kernel_rfl) (by kernel_rfl)
theorem ar2 {W : World} (hL : laidMet Tryz.prog Rows.scriptTextsRow.laid W) {C : Nat} (hC : W.heap.size ≤ C) : jl (dV W C) [1, 2] = true := by
  show (Nat.blt 1 1000 && ((rz (dV W C) 1).isSome && (Nat.blt 2 1000 && ((rz (dV W C) 2).isSome && true)))) = true
  rw [dj1 hL hC, dj2 hL hC]; rfl
theorem KE {W : World} (hL : laidMet Tryz.prog Rows.scriptTextsRow.laid W) (C : Nat) : bn (dV W C) mS = true := yX (fun t ht => by
  simp only [mS, List.mem_cons, List.mem_nil_iff, or_false] at ht
  rcases ht with rfl | rfl | rfl
  · exact ⟨by decide, dy2 W hL⟩
  · exact ⟨by decide, dy3 W hL⟩
  · exact ⟨by decide, dy4 W hL⟩)
theorem XU {W : World} (hL : laidMet Tryz.prog Rows.scriptTextsRow.laid W) {C : Nat} (hC : W.heap.size ≤ C) (hk : 1000 ≤ C) {us : List V} (hR : Od (dV W C) C 140737488351232 Do us) (hM : (wJ (dV W C)).isSome = true) : Ev.Calls ph6 (dV W C) 3 us .e C fun v _ _ => v = .b true := by
  obtain ⟨vs, x, a1, rfl, ⟨h1, z1⟩, rfl⟩ := hR
  obtain ⟨s, va, vp, vi, vt, e1, hs, ⟨r1, r2, r3, r4⟩, y1, y2, y3, y4⟩ := bO1 h1 z1
  rw [e1]
  exact l3 (Φ := ph6) (L := mS) ⟨⟨⟨by kernel_rfl, by kernel_rfl, by kernel_rfl, by kernel_rfl⟩, by kernel_rfl, by kernel_rfl, by kernel_rfl, by kernel_rfl, by kernel_rfl, by kernel_rfl, by kernel_rfl, by kernel_rfl, by kernel_rfl⟩, ⟨⟨by kernel_rfl, by kernel_rfl, by kernel_rfl, by kernel_rfl, by kernel_rfl, by kernel_rfl, by kernel_rfl, by kernel_rfl, by kernel_rfl⟩, by kernel_rfl, by kernel_rfl, by kernel_rfl, by kernel_rfl, by kernel_rfl, by kernel_rfl, by kernel_rfl, by kernel_rfl, by kernel_rfl, by kernel_rfl, by kernel_rfl, by kernel_rfl⟩, ⟨by kernel_rfl, by kernel_rfl, by kernel_rfl, by kernel_rfl, by kernel_rfl, by kernel_rfl, by kernel_rfl, by kernel_rfl, by kernel_rfl, by kernel_rfl, by kernel_rfl, by kernel_rfl, by kernel_rfl⟩, ⟨by kernel_rfl, by kernel_rfl, by kernel_rfl, by kernel_rfl, by kernel_rfl, by kernel_rfl⟩, by kernel_rfl, by kernel_rfl, by kernel_rfl, by kernel_rfl, by kernel_rfl, by kernel_rfl, by kernel_rfl, by kernel_rfl, by kernel_rfl, by kernel_rfl, by kernel_rfl, by kernel_rfl, by kernel_rfl, by kernel_rfl, by kernel_rfl, by kernel_rfl, by kernel_rfl, by kernel_rfl, by kernel_rfl, by kernel_rfl, by kernel_rfl, by kernel_rfl, by kernel_rfl, by kernel_rfl, by kernel_rfl, by kernel_rfl, by kernel_rfl⟩ (by kernel_rfl) (fun M c => EW (KE hL C) (ar2 hL hC) hM M c) (Yk hC hk) (KE hL C) hs r1 r2 r3 r4 (by omega) (by omega) (by omega) (by omega)
theorem EY (os : Os) (started : os.Started) (H : Type) (enc : TypeId × Value → H) :
    ReturnsInHanded {} Tryz.checked os 3 .any (fun w args => (Rows.scriptTextsSpec.pre enc Tryz.prog Tryz.f3 Rows.scriptTextsRow.domain false w args ∧ laidMetH Tryz.prog Rows.scriptTextsRow.laid w) ∧ sizedMet enc Tryz.prog Tryz.f3 (OpenSpec.ofChange Rows.scriptTextsSpec) false w args)
      (Rows.scriptTextsSpec.post enc Tryz.prog Tryz.f3 false true false false) := by
  refine Cn (C := Tryz.checked) (X := fun w _ => laidMetH Tryz.prog Rows.scriptTextsRow.laid w) (fun _ _ _ hh h => h.of_heap hh) own started (by kernel_rfl) Tryz.func3
    (ChangeSpec.witness_shaped (enc := enc) (C := Tryz.checked) (os := os) (X := fun w _ => laidMetH Tryz.prog Rows.scriptTextsRow.laid w) false (World.laidAll Tryz.prog os Rows.scriptTextsRow.laid) #[.agg #[.int .i64 0, .int .i64 0, .slice none 0 0, .slice none 0 0, .slice none 0 0, .slice none 0 0]] 8 (World.laidAll_os _ _ _)
      (World.shaped_of_ZipB (by kernel_rfl) (by kernel_rfl)) (by kernel_rfl) (by kernel_rfl) (by kernel_rfl)
      (by rw [MakeChecks.laidMetH_plain _ _ _ (by kernel_rfl)]; exact laidMet_laidAll _ (by kernel_rfl) (by kernel_rfl))) ?_
  intro W base args ds gs before hsh hval0 hW hc hwt hL
  have hW' := hW
  obtain ⟨p, q, hA0, hV, rfl, _, _⟩ := hW
  have hA : DataW.TrodAll enc Tryz.prog W 0 (fun _ => true) true Tryz.f3.params.toList args.toList ds p := hA0
  obtain ⟨rfl, rfl⟩ := trodVars_none hV
  rw [MakeChecks.laidMetH_plain _ _ _ (by kernel_rfl)] at hL
  have hty : Nu Tryz.prog Do Tryz.f3.params.toList = true := by kernel_rfl
  obtain ⟨C, hk0, hC0, hD⟩ := bG2 W
  obtain ⟨us, has, hbd, hR⟩ := BV (B := 140737488351232) (fun _ => rfl) (C := C) hC0 hty hA (fun j t v ht hv => hval0 j t v (by rw [← Array.getElem?_toList]; exact ht) (by rw [← Array.getElem?_toList]; exact hv)) (fun _ => hD) (fun n hn => of_decide_eq_true (List.all_eq_true.1 (show (DataW.weightsEach Tryz.prog Tryz.f3.params.toList ds).all (fun x => decide (x ≤ 140737488351232)) = true by have h := hwt; rw [List.append_nil] at h; exact h) n hn))
  have hcall := bK5 ej bM4 (W := W) (C := C) (f := 3) (args := us) hC0 hk0 hbd (XU hL hC0 hk0 hR (bK9 (show W.ShapedOpen Tryz.prog from hsh) (of_decide_eq_true (by kernel_rfl)) (t := 3) (by kernel_rfl) (by kernel_rfl) (by kernel_rfl) Tryz.underlying3))
  rw [has] at hcall
  have hlen := zH hA
  rw [Tryz.params3] at hlen
  obtain ⟨d1, rfl⟩ : ∃ d1, ds = [d1] := by
    match ds, hlen with
    | [d1], _ => exact ⟨d1, rfl⟩
  refine hcall.mono fun e W' ⟨he, hk, hheap⟩ => ?_
  subst he
  refine ⟨_, rfl, _, _, _, [], p, [], hW', trodAll_mk1 (shut_bool Tryz.underlying4 true), ?_, ?_, hk _, fun h => by cases h⟩
  · exact BR hheap hty hA
  · exact hV
theorem law_holds : Rows.ScriptTextsSaid :=
  OpenClaim.holds_of_wide 3 Tryz.f3 rfl rfl rfl rfl rfl rfl rfl ⟨rfl, rfl, rfl, rfl, rfl⟩ rfl rfl rfl rfl rfl (by kernel_rfl) Tryz.func3 (by kernel_rfl)
    (of_decide_eq_true (by kernel_rfl)) (by unfold Func.isWrapper; first | (rw [if_pos (by decide +kernel)]; kernel_rfl) | (rw [if_neg (by decide +kernel)]; exact ⟨rfl, rfl⟩))
    (fun os started H enc _ => EY os started H enc)
theorem card_holds : Rows.ScriptTextsCardSaid :=
  Claim7.holds_tied_plain_at .later [] [.data, .data, .data, .data, .sentinel, .sentinel, .pinned, .pinned] true (true, "c609f40c3f3c1a3d019486e15049f62e3d9d60ca17f60e26a2f0e117199f7cdb") true
    law_holds (fun _ h => by cases h) (by kernel_rfl) (fun _ h => by cases h) scriptTexts_row_tie rfl ⟨rfl, rfl⟩ (by kernel_rfl) rfl
    (fun f fn hf hfn => by
      obtain rfl : f = 3 := Option.some.inj ((show Tryz.prog.funcNamed "steading/steadinglaw29.ScriptTexts" = some 3 by kernel_rfl).symm.trans hf) |>.symm
      obtain rfl : fn = Tryz.f3 := (Option.some.inj (Tryz.func3.symm.trans hfn)).symm
      exact ⟨by kernel_rfl, fun j t ht => by
        rw [Tryz.params3] at ht
        rw [← Array.getElem?_toList] at ht
        have hm := List.mem_of_getElem? ht
        simp only [List.mem_cons, List.mem_nil_iff, or_false] at hm
        rcases hm with rfl <;> first | (show Tryz.prog.wantsStandIn _ = false; kernel_rfl) | (show _ = false; kernel_rfl) | decide +kernel⟩)
    (by kernel_rfl)
#print axioms card_holds
end Go.Proofs.YtcnblipfcihcpaaGreatDoor
