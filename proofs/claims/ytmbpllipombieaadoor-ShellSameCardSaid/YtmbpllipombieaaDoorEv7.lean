/- What is proved here: pieces of the evaluator's soundness: if the evaluator comes to a value, the model's run comes to it, for every world and tape; no conditions beyond the hypotheses of each theorem. -/
import Derived.Test.YtmbpllipombieaaDoorEv6
set_option linter.unusedSimpArgs false
set_option linter.unusedVariables false
set_option linter.defProp false
set_option maxRecDepth 10000
set_option maxHeartbeats 16000000
namespace Go.Proofs.YtmbpllipombieaaDoor.Ev
open Go
noncomputable section
theorem m14w (Φ : Nat → Option CF) (h37 : Φ 37 = some c37) {F : RO} {M : Mem} {c1 pc pb k : Nat} {m z : Int} {iv vc : V} (ok : Okm F M c1) {cs : List (List (List Pc))} (hk : k < cs.length) (hc : CsAt F M c1 vc cs) (A5 : load1 F M pb 5 = some vc) (hb : pb < c1) (u : List (Option V)) (Q : Ex → St → Prop)
  (hQ : ∀ (u : List (Option V)) (z : Int) M' c', Gr c1 M c' M' → Q (.ext 4) (.mk ((.n (.n (.n (.n (uv7 u 63 31 95 15 79 47 111) (some (.p pb 0)) (uv7 u 71 39 103 23 87 55 119)) (uO u 3) (.n (uv7 u 67 35 99 19 83 51 115) (uO u 11) (uv7 u 75 43 107 27 91 59 123))) (some (.i .i64 m)) (.n (.n (uv7 u 65 33 97 17 81 49 113) (uO u 9) (uv7 u 73 41 105 25 89 57 121)) (some (.i .i64 z)) (.n (uv7 u 69 37 101 21 85 53 117) (uO u 13) (uv7 u 77 45 109 29 93 61 125)))) (uO u 0) (.n (.n (.n (uv7 u 64 32 96 16 80 48 112) (some (.i .i64 (k : Int))) (uv7 u 72 40 104 24 88 56 120)) (uO u 4) (.n (uv7 u 68 36 100 20 84 52 116) (uO u 12) (uv7 u 76 44 108 28 92 60 124))) (some (.p pc 0)) (.n (.n (uv7 u 66 34 98 18 82 50 114) (uO u 10) (uv7 u 74 42 106 26 90 58 122)) (some (iv)) (.n (uv7 u 70 38 102 22 86 54 118) (uO u 14) (uv7 u 78 46 110 30 94 62 126)))))) [] M' c')) :
  Wp b14_17 (K Φ none 14 F) (.mk ((.n (.n (.n (.n (uv7 u 63 31 95 15 79 47 111) (some (.p pb 0)) (uv7 u 71 39 103 23 87 55 119)) (uO u 3) (.n (uv7 u 67 35 99 19 83 51 115) (uO u 11) (uv7 u 75 43 107 27 91 59 123))) (some (.i .i64 m)) (.n (.n (uv7 u 65 33 97 17 81 49 113) (some (.i .i64 0)) (uv7 u 73 41 105 25 89 57 121)) (some (.i .i64 z)) (.n (uv7 u 69 37 101 21 85 53 117) (uO u 13) (uv7 u 77 45 109 29 93 61 125)))) (uO u 0) (.n (.n (.n (uv7 u 64 32 96 16 80 48 112) (some (.i .i64 (k : Int))) (uv7 u 72 40 104 24 88 56 120)) (uO u 4) (.n (uv7 u 68 36 100 20 84 52 116) (uO u 12) (uv7 u 76 44 108 28 92 60 124))) (some (.p pc 0)) (.n (.n (uv7 u 66 34 98 18 82 50 114) (uO u 10) (uv7 u 74 42 106 26 90 58 122)) (some (iv)) (.n (uv7 u 70 38 102 22 86 54 118) (uO u 14) (uv7 u 78 46 110 30 94 62 126)))))) [] M c1) Q := by
 obtain ⟨b, o, x, hbx, ia, ld, _, w⟩ := LsAt.at1 hc k hk
 have ia := ia .i64
 have n1 := w.len
 have mx1 := w.max
 generalize cs[k] = wl at w n1 mx1
 show Wp (.loop (.seq (.seq b14_13 b14_14) (.seq (.block 5 b14_15) b14_16))) _ _ _
 obtain ⟨I, hI⟩ : ∃ I : Nat → St → Prop, ∀ n s', I n s' ↔ (∃ (i c2 : Nat) (z : Int) (M1 : Mem) (u : List (Option V)), n = wl.length - i ∧ i ≤ wl.length ∧ s' = .mk ((.n (.n (.n (.n (uv7 u 63 31 95 15 79 47 111) (some (.p pb 0)) (uv7 u 71 39 103 23 87 55 119)) (uO u 3) (.n (uv7 u 67 35 99 19 83 51 115) (uO u 11) (uv7 u 75 43 107 27 91 59 123))) (some (.i .i64 m)) (.n (.n (uv7 u 65 33 97 17 81 49 113) (some (.i .i64 (i : Int))) (uv7 u 73 41 105 25 89 57 121)) (some (.i .i64 z)) (.n (uv7 u 69 37 101 21 85 53 117) (uO u 13) (uv7 u 77 45 109 29 93 61 125)))) (uO u 0) (.n (.n (.n (uv7 u 64 32 96 16 80 48 112) (some (.i .i64 (k : Int))) (uv7 u 72 40 104 24 88 56 120)) (uO u 4) (.n (uv7 u 68 36 100 20 84 52 116) (uO u 12) (uv7 u 76 44 108 28 92 60 124))) (some (.p pc 0)) (.n (.n (uv7 u 66 34 98 18 82 50 114) (uO u 10) (uv7 u 74 42 106 26 90 58 122)) (some (iv)) (.n (uv7 u 70 38 102 22 86 54 118) (uO u 14) (uv7 u 78 46 110 30 94 62 126)))))) [] M1 c2 ∧ Gr c1 M c2 M1) := ⟨fun n s' => _, fun _ _ => Iff.rfl⟩
 refine wp_while I ?_ wl.length _ ((hI _ _).2 ⟨0, _, _, _, [_, none, none, _, _, none, none, none, none, none, _, _, _, _, _, _, _, _, _, _, _, _, _, _, _, _, _, _, _, _, _, _, _, _, _, _, _, _, _, _, _, _, _, _, _, _, _, _, _, _, _, _, _, _, _, _, _, _, _, _, _, _, _, _, _, _, _, _, _, _, _, _, _, _, _, _, _, _, _, _, _, _, _, _, _, _, _, _, _, _, _, _, _, _, _, _, _, _, _, _, _, _, _, _, _, _, _, _, _, _, _, _, _, _, _, _, _, _, _, _, _, _, _, _, _, _, _], rfl, Nat.zero_le _, rfl, Gr.refl ok⟩)
 intro n s' hIs
 obtain ⟨i, c2, z, M1, u, rfl, hi, rfl, gr1⟩ := (hI _ _).1 hIs
 clear hIs
 have A5 : load1 F M1 pb 5 = some vc := (gr1.load1 hb _).trans A5
 have ld : load1 F M1 b o = some x := (gr1.load1 hbx _).trans ld
 by_cases hlt : i < wl.length
 · have q8 : biV .add (.i .i64 (i : Int)) (.i .i64 1) = some (.i .i64 ((i + 1 : Nat) : Int)) := by rw [i64_add _ _ (by omega) (by omega)]; simp
   have d1 : decide ((i : Int) < (wl.length : Int)) = true := decide_eq_true (by omega)
   by_cases hz : z ≤ m
   · have d2 : decide (z ≤ m) = true := decide_eq_true hz
     have ok1 := gr1.ok ok
     obtain ⟨b1, o1, y, hb1, ia1, _, ld1, w1⟩ := LsAt.at1 (w.grow gr1) i hlt
     have ia1 := ia1 .i64
     simp only [WX, B14, Nat.add_zero, A5, ia, ld, n1, d1, d2, ia1, ld1]
     refine putE_to ((w37 Φ h37 ok1 w1 m).mono ?_)
     rintro r M2 c3 ⟨⟨z1, rfl⟩, g2⟩
     obtain ⟨z2, hz2⟩ := add_any z z1
     simp only [WX, B14, hz2, q8]
     exact ⟨wl.length - (i + 1), by omega, (hI _ _).2 ⟨i + 1, _, _, _, [_, none, none, _, _, none, none, none, none, none, _, _, _, _, _, _, _, _, _, _, _, _, _, _, _, _, _, _, _, _, _, _, _, _, _, _, _, _, _, _, _, _, _, _, _, _, _, _, _, _, _, _, _, _, _, _, _, _, _, _, _, _, _, _, _, _, _, _, _, _, _, _, _, _, _, _, _, _, _, _, _, _, _, _, _, _, _, _, _, _, _, _, _, _, _, _, _, _, _, _, _, _, _, _, _, _, _, _, _, _, _, _, _, _, _, _, _, _, _, _, _, _, _, _, _, _, _], rfl, hlt, rfl, gr1.trans g2⟩⟩
   · have d2 : decide (z ≤ m) = false := decide_eq_false hz
     simp only [WX, B14, Nat.add_zero, A5, ia, ld, n1, d1, d2]
     exact hQ [_, none, none, _, _, none, none, none, none, _, _, _, _, _, _, _, _, _, _, _, _, _, _, _, _, _, _, _, _, _, _, _, _, _, _, _, _, _, _, _, _, _, _, _, _, _, _, _, _, _, _, _, _, _, _, _, _, _, _, _, _, _, _, _, _, _, _, _, _, _, _, _, _, _, _, _, _, _, _, _, _, _, _, _, _, _, _, _, _, _, _, _, _, _, _, _, _, _, _, _, _, _, _, _, _, _, _, _, _, _, _, _, _, _, _, _, _, _, _, _, _, _, _, _, _, _, _] _ _ _ gr1
 · obtain rfl : i = wl.length := by omega
   have d1 : decide ((wl.length : Int) < (wl.length : Int)) = false := decide_eq_false (by omega)
   simp only [WX, B14, Nat.add_zero, A5, ia, ld, n1, d1]
   exact hQ [_, none, none, _, _, none, none, none, none, _, _, _, _, _, _, _, _, _, _, _, _, _, _, _, _, _, _, _, _, _, _, _, _, _, _, _, _, _, _, _, _, _, _, _, _, _, _, _, _, _, _, _, _, _, _, _, _, _, _, _, _, _, _, _, _, _, _, _, _, _, _, _, _, _, _, _, _, _, _, _, _, _, _, _, _, _, _, _, _, _, _, _, _, _, _, _, _, _, _, _, _, _, _, _, _, _, _, _, _, _, _, _, _, _, _, _, _, _, _, _, _, _, _, _, _, _, _] _ _ _ gr1
theorem m14c (Φ : Nat → Option CF) (h37 : Φ 37 = some c37) {F : RO} {M : Mem} {c1 pc pb : Nat} {m z : Int} {iv : V} (ok : Okm F M c1) {r1 : List V} {p : Prt} (hp : P1 F M c1 r1 p) (mb : M.get pb = some (rowB 39 r1)) (hb : pb < c1) (u : List (Option V)) (Q : Ex → St → Prop)
  (hQ : ∀ (u : List (Option V)) (z : Int) M' c', Gr c1 M c' M' → Q .nrm (.mk ((.n (.n (.n (.n (uv7 u 63 31 95 15 79 47 111) (uO u 7) (uv7 u 71 39 103 23 87 55 119)) (uO u 3) (.n (uv7 u 67 35 99 19 83 51 115) (uO u 11) (uv7 u 75 43 107 27 91 59 123))) (some (.i .i64 m)) (.n (.n (uv7 u 65 33 97 17 81 49 113) (uO u 9) (uv7 u 73 41 105 25 89 57 121)) (some (.i .i64 z)) (.n (uv7 u 69 37 101 21 85 53 117) (uO u 13) (uv7 u 77 45 109 29 93 61 125)))) (uO u 0) (.n (.n (.n (uv7 u 64 32 96 16 80 48 112) (uO u 8) (uv7 u 72 40 104 24 88 56 120)) (uO u 4) (.n (uv7 u 68 36 100 20 84 52 116) (uO u 12) (uv7 u 76 44 108 28 92 60 124))) (some (.p pc 0)) (.n (.n (uv7 u 66 34 98 18 82 50 114) (uO u 10) (uv7 u 74 42 106 26 90 58 122)) (some (iv)) (.n (uv7 u 70 38 102 22 86 54 118) (uO u 14) (uv7 u 78 46 110 30 94 62 126)))))) [] M' c')) :
  Wp b14_21 (K Φ none 14 F) (.mk ((.n (.n (.n (.n (uv7 u 63 31 95 15 79 47 111) (some (.p pb 0)) (uv7 u 71 39 103 23 87 55 119)) (uO u 3) (.n (uv7 u 67 35 99 19 83 51 115) (uO u 11) (uv7 u 75 43 107 27 91 59 123))) (some (.i .i64 m)) (.n (.n (uv7 u 65 33 97 17 81 49 113) (uO u 9) (uv7 u 73 41 105 25 89 57 121)) (some (.i .i64 z)) (.n (uv7 u 69 37 101 21 85 53 117) (uO u 13) (uv7 u 77 45 109 29 93 61 125)))) (uO u 0) (.n (.n (.n (uv7 u 64 32 96 16 80 48 112) (uO u 8) (uv7 u 72 40 104 24 88 56 120)) (uO u 4) (.n (uv7 u 68 36 100 20 84 52 116) (uO u 12) (uv7 u 76 44 108 28 92 60 124))) (some (.p pc 0)) (.n (.n (uv7 u 66 34 98 18 82 50 114) (uO u 10) (uv7 u 74 42 106 26 90 58 122)) (some (iv)) (.n (uv7 u 70 38 102 22 86 54 118) (uO u 14) (uv7 u 78 46 110 30 94 62 126)))))) [] M c1) Q := by
 obtain ⟨i1, o1, k1, hr1, a1, a2, a3⟩ := hp
 have A5 : load1 F M pb 5 = some k1 := (load_row mb 5).trans (by rw [hr1]; rfl)
 have A2 : loadN F M pb 2 1 = some [i1] := by rw [set_same mb, loadN_same _ _ _ _ _ _ (by rw [hr1]; simp), hr1]; rfl
 have A3 : loadN F M pb 3 1 = some [o1] := by rw [set_same mb, loadN_same _ _ _ _ _ _ (by rw [hr1]; simp), hr1]; rfl
 clear mb hr1
 have n1 := a3.len
 have mx1 := a3.max
 simp only [WX, w14_8, w14_21]
 obtain ⟨I, hI⟩ : ∃ I : Nat → St → Prop, ∀ n s', I n s' ↔ (∃ (i c2 : Nat) (z : Int) (M1 : Mem) (u : List (Option V)), n = p.cmds.length - i ∧ i ≤ p.cmds.length ∧ s' = .mk ((.n (.n (.n (.n (uv7 u 63 31 95 15 79 47 111) (some (.p pb 0)) (uv7 u 71 39 103 23 87 55 119)) (uO u 3) (.n (uv7 u 67 35 99 19 83 51 115) (uO u 11) (uv7 u 75 43 107 27 91 59 123))) (some (.i .i64 m)) (.n (.n (uv7 u 65 33 97 17 81 49 113) (uO u 9) (uv7 u 73 41 105 25 89 57 121)) (some (.i .i64 z)) (.n (uv7 u 69 37 101 21 85 53 117) (uO u 13) (uv7 u 77 45 109 29 93 61 125)))) (uO u 0) (.n (.n (.n (uv7 u 64 32 96 16 80 48 112) (some (.i .i64 (i : Int))) (uv7 u 72 40 104 24 88 56 120)) (uO u 4) (.n (uv7 u 68 36 100 20 84 52 116) (uO u 12) (uv7 u 76 44 108 28 92 60 124))) (some (.p pc 0)) (.n (.n (uv7 u 66 34 98 18 82 50 114) (uO u 10) (uv7 u 74 42 106 26 90 58 122)) (some (iv)) (.n (uv7 u 70 38 102 22 86 54 118) (uO u 14) (uv7 u 78 46 110 30 94 62 126)))))) [] M1 c2 ∧ Gr c1 M c2 M1) := ⟨fun n s' => _, fun _ _ => Iff.rfl⟩
 have FIN : ∀ (u : List (Option V)) (z : Int) (M1 : Mem) (c2 : Nat), Gr c1 M c2 M1 → Wp b14_20 (K Φ none 14 F) (.mk ((.n (.n (.n (.n (uv7 u 63 31 95 15 79 47 111) (some (.p pb 0)) (uv7 u 71 39 103 23 87 55 119)) (uO u 3) (.n (uv7 u 67 35 99 19 83 51 115) (uO u 11) (uv7 u 75 43 107 27 91 59 123))) (some (.i .i64 m)) (.n (.n (uv7 u 65 33 97 17 81 49 113) (uO u 9) (uv7 u 73 41 105 25 89 57 121)) (some (.i .i64 z)) (.n (uv7 u 69 37 101 21 85 53 117) (uO u 13) (uv7 u 77 45 109 29 93 61 125)))) (uO u 0) (.n (.n (.n (uv7 u 64 32 96 16 80 48 112) (uO u 8) (uv7 u 72 40 104 24 88 56 120)) (uO u 4) (.n (uv7 u 68 36 100 20 84 52 116) (uO u 12) (uv7 u 76 44 108 28 92 60 124))) (some (.p pc 0)) (.n (.n (uv7 u 66 34 98 18 82 50 114) (uO u 10) (uv7 u 74 42 106 26 90 58 122)) (some (iv)) (.n (uv7 u 70 38 102 22 86 54 118) (uO u 14) (uv7 u 78 46 110 30 94 62 126)))))) [] M1 c2) Q := by
  intro u z M1 c2 gr1
  have A2 : loadN F M1 pb 2 1 = some [i1] := (gr1.loadN hb _ _).trans A2
  have A3 : loadN F M1 pb 3 1 = some [o1] := (gr1.loadN hb _ _).trans A3
  have ok1 := gr1.ok ok
  have g12 : Gr c2 M1 (c2 + 12) M1 := (Gr.refl ok1).up (by omega)
  have ok2 := g12.ok ok1
  simp only [WX, B14, A2, A3]
  refine wd_ef _ _ _ _ _ _ _ _ _ _ _ ok2 ?_
  intro F1 N1 okn hlk
  have b1 := (a1.grow gr1).grow g12
  refine (show RTo (callC (den Φ) F1 37 [.g [i1], .i .i64 m] N1 (c2 + 12) (Φ 37)) _ from (w37 Φ h37 okn ⟨b1.1.lk hlk, b1.2⟩ m).mono ?_)
  rintro v M2 c3 ⟨⟨z1, rfl⟩, g2⟩
  refine ⟨g2, fun M3 g3 _ => ?_⟩
  obtain ⟨z2, hz2⟩ := add_any z z1
  simp only [WX, Nat.reducePow, Nat.reduceDiv, Nat.reduceMod, Nat.reduceBEq, wd_e1, hz2]
  have b2 := (a2.grow gr1).grow (g12.trans g3)
  refine putDE_to ((w37 Φ h37 (g3.ok ok2) b2 m).mono ?_)
  rintro v M5 c4 ⟨⟨z3, rfl⟩, g5⟩
  refine ⟨(g5.ok (g3.ok ok2)).free, ?_⟩
  obtain ⟨z4, hz4⟩ := add_any z2 z3
  simp only [WX, hz4]
  exact hQ [_, none, none, _, _, none, none, _, _, _, _, _, _, _, _, _, _, _, _, _, _, _, _, _, _, _, _, _, _, _, _, _, _, _, _, _, _, _, _, _, _, _, _, _, _, _, _, _, _, _, _, _, _, _, _, _, _, _, _, _, _, _, _, _, _, _, _, _, _, _, _, _, _, _, _, _, _, _, _, _, _, _, _, _, _, _, _, _, _, _, _, _, _, _, _, _, _, _, _, _, _, _, _, _, _, _, _, _, _, _, _, _, _, _, _, _, _, _, _, _, _, _, _, _, _, _, _] _ _ _ (gr1.trans ((g12.trans g3).trans g5))
 refine wp_while I ?_ p.cmds.length _ ((hI _ _).2 ⟨0, _, _, _, [_, none, none, _, _, none, none, none, none, _, _, _, _, _, _, _, _, _, _, _, _, _, _, _, _, _, _, _, _, _, _, _, _, _, _, _, _, _, _, _, _, _, _, _, _, _, _, _, _, _, _, _, _, _, _, _, _, _, _, _, _, _, _, _, _, _, _, _, _, _, _, _, _, _, _, _, _, _, _, _, _, _, _, _, _, _, _, _, _, _, _, _, _, _, _, _, _, _, _, _, _, _, _, _, _, _, _, _, _, _, _, _, _, _, _, _, _, _, _, _, _, _, _, _, _, _, _], rfl, Nat.zero_le _, rfl, Gr.refl ok⟩)
 intro n s' hIs
 obtain ⟨i, c2, z, M1, u, rfl, hi, rfl, gr1⟩ := (hI _ _).1 hIs
 clear hIs
 have A5 : load1 F M1 pb 5 = some k1 := (gr1.load1 hb _).trans A5
 have hle := gr1.le
 by_cases hlt : i < p.cmds.length
 · have q8 : biV .add (.i .i64 (i : Int)) (.i .i64 1) = some (.i .i64 ((i + 1 : Nat) : Int)) := by rw [i64_add _ _ (by omega) (by omega)]; simp
   have d1 : decide ((i : Int) < (p.cmds.length : Int)) = true := decide_eq_true (by omega)
   by_cases hz : z ≤ m
   · have d2 : decide (z ≤ m) = true := decide_eq_true hz
     have ok1 := gr1.ok ok
     obtain ⟨b, o, x, hbx, ia, ld, _, w⟩ := LsAt.at1 (a3.grow gr1) i hlt
     have ia := ia .i64
     have n2 := w.len
     obtain ⟨z1, hz1⟩ := add_any z (p.cmds[i].length : Int)
     simp only [WX, w14_9, w14_10, w14_11, w14_12, w14_19, Nat.add_zero, A5, n1, d1, d2, ia, ld, n2, hz1]
     refine m14w Φ h37 ok1 hlt (a3.grow gr1) A5 (by omega) [_, none, none, _, _, none, none, none, none, none, _, _, _, _, _, _, _, _, _, _, _, _, _, _, _, _, _, _, _, _, _, _, _, _, _, _, _, _, _, _, _, _, _, _, _, _, _, _, _, _, _, _, _, _, _, _, _, _, _, _, _, _, _, _, _, _, _, _, _, _, _, _, _, _, _, _, _, _, _, _, _, _, _, _, _, _, _, _, _, _, _, _, _, _, _, _, _, _, _, _, _, _, _, _, _, _, _, _, _, _, _, _, _, _, _, _, _, _, _, _, _, _, _, _, _, _, _] _ ?_
     intro u z' M' c' g
     simp only [WX, Nat.reduceEqDiff, B14, q8]
     exact ⟨p.cmds.length - (i + 1), by omega, (hI _ _).2 ⟨i + 1, _, _, _, [_, none, none, _, _, none, none, none, none, _, _, _, _, _, _, _, _, _, _, _, _, _, _, _, _, _, _, _, _, _, _, _, _, _, _, _, _, _, _, _, _, _, _, _, _, _, _, _, _, _, _, _, _, _, _, _, _, _, _, _, _, _, _, _, _, _, _, _, _, _, _, _, _, _, _, _, _, _, _, _, _, _, _, _, _, _, _, _, _, _, _, _, _, _, _, _, _, _, _, _, _, _, _, _, _, _, _, _, _, _, _, _, _, _, _, _, _, _, _, _, _, _, _, _, _, _, _], rfl, hlt, rfl, gr1.trans g⟩⟩
   · have d2 : decide (z ≤ m) = false := decide_eq_false hz
     simp only [WX, w14_9, w14_10, A5, n1, d1, d2]
     exact FIN [_, none, none, _, _, none, none, none, _, _, _, _, _, _, _, _, _, _, _, _, _, _, _, _, _, _, _, _, _, _, _, _, _, _, _, _, _, _, _, _, _, _, _, _, _, _, _, _, _, _, _, _, _, _, _, _, _, _, _, _, _, _, _, _, _, _, _, _, _, _, _, _, _, _, _, _, _, _, _, _, _, _, _, _, _, _, _, _, _, _, _, _, _, _, _, _, _, _, _, _, _, _, _, _, _, _, _, _, _, _, _, _, _, _, _, _, _, _, _, _, _, _, _, _, _, _, _] _ _ _ gr1
 · obtain rfl : i = p.cmds.length := by omega
   have d1 : decide ((p.cmds.length : Int) < (p.cmds.length : Int)) = false := decide_eq_false (by omega)
   simp only [WX, w14_9, w14_10, A5, n1, d1]
   exact FIN [_, none, none, _, _, none, none, none, _, _, _, _, _, _, _, _, _, _, _, _, _, _, _, _, _, _, _, _, _, _, _, _, _, _, _, _, _, _, _, _, _, _, _, _, _, _, _, _, _, _, _, _, _, _, _, _, _, _, _, _, _, _, _, _, _, _, _, _, _, _, _, _, _, _, _, _, _, _, _, _, _, _, _, _, _, _, _, _, _, _, _, _, _, _, _, _, _, _, _, _, _, _, _, _, _, _, _, _, _, _, _, _, _, _, _, _, _, _, _, _, _, _, _, _, _, _, _] _ _ _ gr1
theorem w14 (Φ : Nat → Option CF) (h : Φ 14 = some c14) (h37 : Φ 37 = some c37) {F : RO} {M : Mem} {c : Nat} (ok : Okm F M c) {v : V} {l : List Prt} (hl : LnAt F M c v l) (m : Int) :
  Calls Φ F 14 [.g [v], .i .i64 m] M c fun r M' c' => (∃ b, r = .b b) ∧ Gr c M c' M' := by
 refine calls_walk h ?_
 obtain ⟨y1, y2, y3⟩ := hl.one
 have hG : ∀ v, flatten (V.g [v]) = [v] := fun _ => rfl
 have gX := (Gr.refl ok).set c (rowB 25 [v]) (Nat.le_refl _) (Nat.lt_succ_self _) (Nat.le_succ _)
 have m0 : (M.set c (rowB 25 [v])).get c = some (rowB 25 [v]) := get_same _ _ _
 have k0 : load1 F (M.set c (rowB 25 [v])) c 0 = some v := load_row m0 0
 have n1 := hl.len
 have mx1 := hl.max
 have hl := hl.grow gX
 simp only [WX, e14, w14_1, w14_2, w14_3, w14_25, hG, y3, k0, n1]
 generalize M.set c (rowB 25 [v]) = X at gX k0 hl ⊢
 have okX := gX.ok ok
 obtain ⟨I, hI⟩ : ∃ I : Nat → St → Prop, ∀ n s', I n s' ↔ (∃ (i c1 : Nat) (z : Int) (M1 : Mem) (u : List (Option V)), n = l.length - i ∧ i ≤ l.length ∧ s' = .mk ((.n (.n (.n (.n (uv7 u 63 31 95 15 79 47 111) (uO u 7) (uv7 u 71 39 103 23 87 55 119)) (uO u 3) (.n (uv7 u 67 35 99 19 83 51 115) (uO u 11) (uv7 u 75 43 107 27 91 59 123))) (some (.i .i64 m)) (.n (.n (uv7 u 65 33 97 17 81 49 113) (uO u 9) (uv7 u 73 41 105 25 89 57 121)) (some (.i .i64 z)) (.n (uv7 u 69 37 101 21 85 53 117) (uO u 13) (uv7 u 77 45 109 29 93 61 125)))) (uO u 0) (.n (.n (.n (uv7 u 64 32 96 16 80 48 112) (uO u 8) (uv7 u 72 40 104 24 88 56 120)) (uO u 4) (.n (uv7 u 68 36 100 20 84 52 116) (uO u 12) (uv7 u 76 44 108 28 92 60 124))) (some (.p c 0)) (.n (.n (uv7 u 66 34 98 18 82 50 114) (uO u 10) (uv7 u 74 42 106 26 90 58 122)) (some (.i .i64 (i : Int))) (.n (uv7 u 70 38 102 22 86 54 118) (uO u 14) (uv7 u 78 46 110 30 94 62 126)))))) [] M1 c1 ∧ Gr (c + 1) X c1 M1) := ⟨fun n s' => _, fun _ _ => Iff.rfl⟩
 refine wp_while I ?_ l.length _ ((hI _ _).2 ⟨0, _, _, _, [_, none, none, _, _, none, none, _, _, _, _, _, _, _, _, _, _, _, _, _, _, _, _, _, _, _, _, _, _, _, _, _, _, _, _, _, _, _, _, _, _, _, _, _, _, _, _, _, _, _, _, _, _, _, _, _, _, _, _, _, _, _, _, _, _, _, _, _, _, _, _, _, _, _, _, _, _, _, _, _, _, _, _, _, _, _, _, _, _, _, _, _, _, _, _, _, _, _, _, _, _, _, _, _, _, _, _, _, _, _, _, _, _, _, _, _, _, _, _, _, _, _, _, _, _, _, _], rfl, Nat.zero_le _, rfl, Gr.refl okX⟩)
 intro n s' hIs
 obtain ⟨i, c1, z, M1, u, rfl, hi, rfl, gr1⟩ := (hI _ _).1 hIs
 clear hIs
 have hle1 := gr1.le
 have k0 : load1 F M1 c 0 = some v := (gr1.load1 (by omega) _).trans k0
 by_cases hlt : i < l.length
 · have q8 : biV .add (.i .i64 (i : Int)) (.i .i64 1) = some (.i .i64 ((i + 1 : Nat) : Int)) := by rw [i64_add _ _ (by omega) (by omega)]; simp
   have d1 : decide ((i : Int) < (l.length : Int)) = true := decide_eq_true (by omega)
   by_cases hz : z ≤ m
   · have d2 : decide (z ≤ m) = true := decide_eq_true hz
     have ok1 := gr1.ok okX
     obtain ⟨b1, o1, e1, hb1, ia1, ld1, el1, r1⟩ := LsAt.at (hl.grow gr1) (by decide) i hlt
     have ia1 := ia1 .i64
     have hov1 : over [V.i .i64 0, .b false, .l0, .l0, .b false, .l0] 0 e1 = e1 := over_all el1.symm
     have hf1 : flatten (V.g e1) = e1 := rfl
     have ha1 := r1.all
     have g1 : Gr c1 M1 (c1 + 1) (M1.set c1 (rowB 39 e1)) := (Gr.refl ok1).set c1 _ (Nat.le_refl _) (Nat.lt_succ_self _) (Nat.le_succ _)
     have ma : (M1.set c1 (rowB 39 e1)).get c1 = some (rowB 39 e1) := get_same _ _ _
     have hp := P1.grow g1 _ _ r1
     obtain ⟨vi, vo, vc, he, w1, w2, w3⟩ := hp
     have A5 : load1 F (M1.set c1 (rowB 39 e1)) c1 5 = some vc := (load_row ma 5).trans (by rw [he]; rfl)
     have A2 : load1 F (M1.set c1 (rowB 39 e1)) c1 2 = some vi := (load_row ma 2).trans (by rw [he]; rfl)
     have A3 : load1 F (M1.set c1 (rowB 39 e1)) c1 3 = some vo := (load_row ma 3).trans (by rw [he]; rfl)
     have n5 := w3.len
     have n2 := w1.len
     have n3 := w2.len
     obtain ⟨z1, hz1⟩ := add_any z (l[i].cmds.length : Int)
     obtain ⟨z2, hz2⟩ := add_any z1 (l[i].inp.length : Int)
     obtain ⟨z3, hz3⟩ := add_any z2 (l[i].out.length : Int)
     simp only [WX, Nat.reduceAdd, Nat.reduceLeDiff, w14_4, w14_5, w14_6, w14_7, w14_23, Nat.add_zero, k0, n1, d1, d2, ia1, ld1, hov1, hf1, ha1, el1, A5, A2, A3, n5, n2, n3, hz1, hz2, hz3]
     refine m14c Φ h37 (g1.ok ok1) (P1.grow g1 _ _ r1) ma (Nat.lt_succ_self _) [_, none, none, _, _, none, none, none, _, _, _, _, _, _, _, _, _, _, _, _, _, _, _, _, _, _, _, _, _, _, _, _, _, _, _, _, _, _, _, _, _, _, _, _, _, _, _, _, _, _, _, _, _, _, _, _, _, _, _, _, _, _, _, _, _, _, _, _, _, _, _, _, _, _, _, _, _, _, _, _, _, _, _, _, _, _, _, _, _, _, _, _, _, _, _, _, _, _, _, _, _, _, _, _, _, _, _, _, _, _, _, _, _, _, _, _, _, _, _, _, _, _, _, _, _, _, _] _ ?_
     intro u z' M' c' g
     simp only [WX, B14, q8]
     exact ⟨l.length - (i + 1), by omega, (hI _ _).2 ⟨i + 1, _, _, _, [_, none, none, _, _, none, none, _, _, _, _, _, _, _, _, _, _, _, _, _, _, _, _, _, _, _, _, _, _, _, _, _, _, _, _, _, _, _, _, _, _, _, _, _, _, _, _, _, _, _, _, _, _, _, _, _, _, _, _, _, _, _, _, _, _, _, _, _, _, _, _, _, _, _, _, _, _, _, _, _, _, _, _, _, _, _, _, _, _, _, _, _, _, _, _, _, _, _, _, _, _, _, _, _, _, _, _, _, _, _, _, _, _, _, _, _, _, _, _, _, _, _, _, _, _, _, _], rfl, hlt, rfl, gr1.trans (g1.trans g)⟩⟩
   · have d2 : decide (z ≤ m) = false := decide_eq_false hz
     simp only [WX, B14, k0, n1, d1, d2]
     exact ⟨⟨_, rfl⟩, gX.trans gr1⟩
 · obtain rfl : i = l.length := by omega
   have d1 : decide ((l.length : Int) < (l.length : Int)) = false := decide_eq_false (by omega)
   simp only [WX, B14, k0, n1, d1]
   exact ⟨⟨_, rfl⟩, gX.trans gr1⟩
def b6_1 : CC := (.reg [(aa a2 (.bx 25 1 z0)), (aa a3 (.bx 25 1 z1)), (qq a4 (.mv xF))])
def w6_1 := wu b6_1.eq_1
def b6_2 : CC := (.reg [(qq a5 (.ldn 1 z2)), (ee a6 (.call 14 [z5, (x6 9000)])), (qq a7 (.mv z6)), ⟨(some a8), .q (.ldn 1 z3), (some (a7, false))⟩, ⟨(some a9), .e (.call 14 [z8, (x6 9000)]), (some (a7, false))⟩, (qq a10 (.pk z7 xT z9))])
def w6_2 := wu b6_2.eq_1
def b6_3 : CC := (.reg [(ee a11 (.call 9 [])), (qq a4 (.mv z11))])
def w6_3 := wu b6_3.eq_1
def b6_4 : CC := (.seq b6_2 (.cond z10 (.seq b6_3 .ret) .skip))
def w6_4 := wu b6_4.eq_1
def b6_5 : CC := (.dreg 16 [(0, 0, (qq a12 (.ldn 1 z2))), (1, 0, (qq a13 (.ldn 1 z3))), (3, 0, (qq a15 (.ldn 1 z2))), (4, 0, (qq a16 (.ldn 1 z3))), (2, 3, (ee a14 (.call 23 [z12, z13]))), (5, 31, (ee a17 (.call 12 [z15, z16]))), (6, 63, (qq a18 (.eq false .bool false z14 z17))), (7, 127, (qq a19 (.mv z18))), (8, 255, ⟨(some a20), .q (.ldn 1 z2), (some (a19, true))⟩), (9, 255, ⟨(some a21), .q (.ldn 1 z2), (some (a19, true))⟩), (10, 1023, ⟨(some a22), .e (.call 23 [z20, z21]), (some (a19, true))⟩), (11, 2047, (qq a23 (.pk z19 z22 xF))), (12, 4095, (qq a24 (.mv z23))), (13, 8191, ⟨(some a25), .e (.call 9 []), (some (a24, true))⟩), (14, 16383, (qq a26 (.pk z24 z25 xF))), (15, 32767, (qq a4 (.mv z26)))])
def w6_5 := wu b6_5.eq_1
def c6 : CF := .mk 5 [.t a4] (.seq b6_1 (.seq b6_4 (.seq b6_5 .ret)))
theorem e6 (v0 v1 : V) : argTr 5 [v0, v1] = (.n (.n sk3 (some v1) sk3) (some v0) sk4) := rfl
def B6 := ai @e6 (ai @w6_1 (ai @w6_2 (ai @w6_3 (ai @w6_4 (@w6_5)))))
theorem LsAt.lk {α : Type} {F F' : RO} {R R' : Mem → Nat → List V → α → Prop} {sz : Nat} {M M' : Mem} {c : Nat} {v : V} {l : List α} (hlk : ∀ b, look F' M' b = look F M b) (hR : ∀ e x, R M c e x → R' M' c e x) (h : LsAt F R sz M c v l) : LsAt F' R' sz M' c v l := by
 obtain ⟨es, h1, h2, h3, h4⟩ := h
 exact ⟨es, h1.lk hlk, h2, h3, fun i h h' => hR _ _ (h4 i h h')⟩
theorem WdAt.lk {F F' : RO} {M M' : Mem} {c : Nat} {v : V} {w : List Pc} (hlk : ∀ b, look F' M' b = look F M b) (h : WdAt F M c v w) : WdAt F' M' c v w := ⟨h.1.lk hlk, h.2⟩
theorem CmAt.lk {F F' : RO} {M M' : Mem} {c : Nat} {v : V} {l : List (List Pc)} (hlk : ∀ b, look F' M' b = look F M b) (h : CmAt F M c v l) : CmAt F' M' c v l := LsAt.lk hlk (fun e w ⟨x, h1, h2⟩ => ⟨x, h1, h2.lk hlk⟩) h
theorem CsAt.lk {F F' : RO} {M M' : Mem} {c : Nat} {v : V} {l : List (List (List Pc))} (hlk : ∀ b, look F' M' b = look F M b) (h : CsAt F M c v l) : CsAt F' M' c v l := LsAt.lk hlk (fun e w ⟨x, h1, h2⟩ => ⟨x, h1, h2.lk hlk⟩) h
theorem LnAt.lk {F F' : RO} {M M' : Mem} {c : Nat} {v : V} {l : List Prt} (hlk : ∀ b, look F' M' b = look F M b) (h : LnAt F M c v l) : LnAt F' M' c v l := LsAt.lk hlk (fun e w ⟨a, b, d, h1, h2, h3, h4⟩ => ⟨a, b, d, h1, h2.lk hlk, h3.lk hlk, h4.lk hlk⟩) h
theorem l6 (Φ : Nat → Option CF) (h : Φ 6 = some c6) {L : List Tab} (h9 : Φ 9 = some (.orc (knownO L))) (h14 : Φ 14 = some c14) (h37 : Φ 37 = some c37) (h12 : Φ 12 = some c12) (h22 : Φ 22 = some c22) (h23 : Φ 23 = some c23) (h46 : Φ 46 = some c46) (h47 : Φ 47 = some c47) (h49 : Φ 49 = some c49) (h50 : Φ 50 = some c50) (h51 : Φ 51 = some c51) (h48 : Φ 48 = some c48) (h70 : Φ 70 = some c70)
  {F : RO} {M : Mem} {c : Nat} (ok : Okm F M c) (ht : tabsIn F L = true) {v1 v2 : V} {l1 l2 : List Prt} (h1 : LnAt F M c v1 l1) (h2 : LnAt F M c v2 l2) :
  Calls Φ F 6 [.g [v1], .g [v2]] M c fun r _ _ => r = .b true := by
 have hkn := fun M c => knownO_nil ht M c
 refine calls_walk h ?_
 obtain ⟨y1, y2, y3⟩ := h1.one
 obtain ⟨z1, z2, z3⟩ := h2.one
 have hG : ∀ v, flatten (V.g [v]) = [v] := fun _ => rfl
 have gX := ((Gr.refl ok).set c (rowB 25 [v1]) (Nat.le_refl _) (Nat.lt_succ_self _) (Nat.le_succ _)).set (c + 1) (rowB 25 [v2]) (by omega) (show c + 1 < c + 2 by omega) (by omega)
 have m0 : ((M.set c (rowB 25 [v1])).set (c + 1) (rowB 25 [v2])).get c = some (rowB 25 [v1]) := by rw [get_ne _ _ (by omega)]; exact get_same _ _ _
 have m1 : ((M.set c (rowB 25 [v1])).set (c + 1) (rowB 25 [v2])).get (c + 1) = some (rowB 25 [v2]) := get_same _ _ _
 have k0 : loadN F ((M.set c (rowB 25 [v1])).set (c + 1) (rowB 25 [v2])) c 0 1 = some [v1] := loadN_row m0 1 rfl
 have k1 : loadN F ((M.set c (rowB 25 [v1])).set (c + 1) (rowB 25 [v2])) (c + 1) 0 1 = some [v2] := loadN_row m1 1 rfl
 have h1 := h1.grow gX
 have h2 := h2.grow gX
 have okX := gX.ok ok
 simp only [WX, Nat.reduceAdd, e6, w6_1, w6_4, hG, y3, z3]
 generalize (M.set c (rowB 25 [v1])).set (c + 1) (rowB 25 [v2]) = X at gX h1 h2 okX k0 k1 ⊢
 clear m0 m1
 simp only [WX, B6, k0]
 refine putE_to ((w14 Φ h14 h37 okX h1 9000).mono ?_)
 rintro r M2 c2 ⟨⟨b1, rfl⟩, g2⟩
 cases b1 with
 | true => simp only [WX, B6, h9, hkn]
 | false =>
 have k0 : loadN F M2 c 0 1 = some [v1] := (g2.loadN (by omega) _ _).trans k0
 have k1 : loadN F M2 (c + 1) 0 1 = some [v2] := (g2.loadN (by omega) _ _).trans k1
 have ok2 := g2.ok okX
 have hle2 := g2.le
 simp only [WX, k1]
 refine putE_to ((w14 Φ h14 h37 ok2 (h2.grow g2) 9000).mono ?_)
 rintro r M3 c3 ⟨⟨b2, rfl⟩, g3⟩
 cases b2 with
 | true => simp only [WX, B6, h9, hkn]
 | false =>
 have k0 : loadN F M3 c 0 1 = some [v1] := (g3.loadN (by omega) _ _).trans k0
 have k1 : loadN F M3 (c + 1) 0 1 = some [v2] := (g3.loadN (by omega) _ _).trans k1
 have ok3 := g3.ok ok2
 have hle3 := g3.le
 have g4 : Gr c3 M3 (c3 + 16) M3 := (Gr.refl ok3).up (by omega)
 have ok4 := g4.ok ok3
 have a1 := (h1.grow (g2.trans g3)).grow g4
 have a2 := (h2.grow (g2.trans g3)).grow g4
 simp only [WX, B6, k0, k1]
 refine wd_ef _ _ _ _ _ _ _ _ _ _ _ ok4 ?_
 intro F1 N1 okn hlk
 refine (show RTo (callC (den Φ) F1 23 [.g [v1], .g [v2]] N1 (c3 + 16) (Φ 23)) _ from (w23 Φ h23 h46 h47 h49 h50 h51 h48 h70 okn (a1.lk hlk) (a2.lk hlk)).mono ?_)
 rintro v M5 c5 ⟨rfl, g5'⟩
 refine ⟨g5', fun M5 g5 _ => ?_⟩
 have ok5 := g5.ok ok4
 have hle5 := g5.le
 have k0 : loadN F M5 c 0 1 = some [v1] := (g5.loadN (by omega) _ _).trans k0
 simp only [WX, Nat.reducePow, Nat.reduceDiv, Nat.reduceMod, Nat.reduceBEq, wd_e1]
 refine putDE_to ((w12 Φ h12 h22 ok5 (a1.grow g5) (a2.grow g5)).mono ?_)
 rintro v M6 c6 ⟨rfl, g6⟩
 have ok6 := g6.ok ok5
 have k0 : loadN F M6 c 0 1 = some [v1] := (g6.loadN (by omega) _ _).trans k0
 refine ⟨ok6.free, ?_⟩
 have hbb : ∀ (x : Bool), decide (x = x) = true := fun x => decide_eq_true rfl
 simp only [WX, Nat.reducePow, Nat.reduceDiv, Nat.reduceMod, Nat.reduceBEq, wd_e1, k0]
 refine putDE_to ((w23 Φ h23 h46 h47 h49 h50 h51 h48 h70 ok6 ((a1.grow g5).grow g6) ((a1.grow g5).grow g6)).mono ?_)
 rintro v M7 c7 ⟨rfl, g7⟩
 have ok7 := g7.ok ok6
 refine ⟨ok7.free, ?_⟩
 have hll : decide (l1 = l1) = true := decide_eq_true rfl
 have hfr := ok7.free
 simp only [WX, Nat.reducePow, Nat.reduceDiv, Nat.reduceMod, Nat.reduceBEq, wd_e1, h9, hkn, hfr]
def pieceTy : Ty := .cons .str (.cons .bool .nil)
def wordTy : Ty := .cons (.sl pieceTy) .nil
def cmdTy : Ty := .cons (.sl wordTy) .nil
def partTy : Ty := .cons (.int .i64) (.cons .bool (.cons wordTy (.cons wordTy (.cons .bool (.cons (.sl cmdTy) .nil)))))
def lineTy : Ty := .cons (.sl partTy) .nil
theorem rp_sl {F : RO} {M : Mem} {c : Nat} {e : Ty} {vs : List V} {x : List e.D} (h : Rp F M c (.sl e) vs x) : ∃ v es, vs = [v] ∧ SlAt F M c e.size v es ∧ x.length ≤ maxI ∧ es.length = x.length ∧ ∀ i (h : i < es.length) (h' : i < x.length), Rp F M c e es[i] x[i] := by
 have key : ∀ l : List e.D, (∃ v es, vs = [v] ∧ SlAt F M c e.size v es ∧ l.length ≤ Go.maxLen ∧ es.length = l.length ∧ ∀ i (h : i < es.length) (h' : i < l.length), Rp F M c e es[i] l[i]) → ∃ v es, vs = [v] ∧ SlAt F M c e.size v es ∧ l.length ≤ maxI ∧ es.length = l.length ∧ ∀ i (h : i < es.length) (h' : i < l.length), Rp F M c e es[i] l[i] := by
  rintro l ⟨v, es, h1, h2, h3, h4, h5⟩
  have h3' : l.length ≤ 2 ^ 63 - 1 := h3
  exact ⟨v, es, h1, h2, by show l.length ≤ 9223372036854775807; omega, h4, h5⟩
 exact key x h
theorem rp_cons {F : RO} {M : Mem} {c : Nat} {a b : Ty} {vs : List V} {x : (Ty.cons a b).D} (h : Rp F M c (.cons a b) vs x) : ∃ v1 v2 x1 x2, vs = v1 ++ v2 ∧ Rp F M c a v1 x1 ∧ Rp F M c b v2 x2 := by
 obtain ⟨v1, v2, h1, h2, h3⟩ := h
 exact ⟨v1, v2, _, _, h1, h2, h3⟩
theorem rp_nil {F : RO} {M : Mem} {c : Nat} {vs : List V} {x : Ty.nil.D} (h : Rp F M c .nil vs x) : vs = [] := h
theorem piece_of {F : RO} {M : Mem} {c : Nat} {vs : List V} {x : pieceTy.D} (h : Rp F M c pieceTy vs x) : ∃ p : Pc, vs = pcV p := by
 obtain ⟨v1, v2, x1, x2, rfl, h1, h2⟩ := rp_cons h
 obtain ⟨v3, v4, x3, x4, rfl, h3, h4⟩ := rp_cons h2
 obtain rfl := rp_nil h4
 have k1 : ∀ l : List UInt8, (v1 = [sV l] ∧ l.length ≤ Go.maxLen) → ∃ l : List UInt8, v1 = [sV l] := fun l h => ⟨l, h.1⟩
 obtain ⟨l, rfl⟩ := k1 x1 h1
 have k2 : ∀ b : Bool, v3 = [.b b] → ∃ b : Bool, v3 = [.b b] := fun b h => ⟨b, h⟩
 obtain ⟨b, rfl⟩ := k2 x3 h3
 exact ⟨(l, b), rfl⟩
theorem word_of {F : RO} {M : Mem} {c : Nat} {vs : List V} {x : wordTy.D} (h : Rp F M c wordTy vs x) : ∃ w, W1 F M c vs w := by
 obtain ⟨v1, v2, x1, x2, rfl, h1, h2⟩ := rp_cons h
 obtain rfl := rp_nil h2
 obtain ⟨v, es, rfl, hs, hl, he, hr⟩ := rp_sl h1
 obtain ⟨ps, hp1, hp2⟩ := list_of (n := es.length) (Q := fun i p => ∀ h : i < es.length, es[i] = pcV p) (fun i hi => by
  obtain ⟨p, hp⟩ := piece_of (hr i hi (by omega))
  exact ⟨p, fun _ => hp⟩)
 have e : es = pcE ps := by
  refine List.ext_getElem (by rw [pcE_len]; omega) fun i h1 h2 => ?_
  rw [hp2 i (by rw [pcE_len] at h2; exact h2) h1]
  simp [pcE]
 subst e
 exact ⟨ps, v, rfl, hs, by rw [hp1, he]; exact hl⟩
theorem ls_of {α : Type} {F : RO} {R : Mem → Nat → List V → α → Prop} {M : Mem} {c : Nat} {e : Ty} {vs : List V} {x : List e.D} (hR : ∀ (vs : List V) (y : e.D), Rp F M c e vs y → ∃ a, R M c vs a) (h : Rp F M c (.sl e) vs x) : ∃ v l, vs = [v] ∧ LsAt F R e.size M c v l := by
 obtain ⟨v, es, rfl, hs, hl, he, hr⟩ := rp_sl h
 obtain ⟨ps, hp1, hp2⟩ := list_of (n := es.length) (Q := fun i p => ∀ h : i < es.length, R M c es[i] p) (fun i hi => by
  obtain ⟨p, hp⟩ := hR _ _ (hr i hi (by omega))
  exact ⟨p, fun _ => hp⟩)
 exact ⟨v, ps, rfl, es, hs, by omega, by rw [hp1, he]; exact hl, fun i h h' => hp2 i h' h⟩
theorem cmd_of {F : RO} {M : Mem} {c : Nat} {vs : List V} {x : cmdTy.D} (h : Rp F M c cmdTy vs x) : ∃ w, C1 F M c vs w := by
 obtain ⟨v1, v2, x1, x2, rfl, h1, h2⟩ := rp_cons h
 obtain rfl := rp_nil h2
 obtain ⟨v, l, rfl, hl⟩ := ls_of (R := W1 F) (fun vs y => word_of) h1
 exact ⟨l, v, rfl, hl⟩
theorem part_of {F : RO} {M : Mem} {c : Nat} {vs : List V} {x : partTy.D} (h : Rp F M c partTy vs x) : ∃ p, P1 F M c vs p := by
 obtain ⟨v1, w1, x1, y1, rfl, h1, k1⟩ := rp_cons h
 obtain ⟨v2, w2, x2, y2, rfl, h2, k2⟩ := rp_cons k1
 obtain ⟨v3, w3, x3, y3, rfl, h3, k3⟩ := rp_cons k2
 obtain ⟨v4, w4, x4, y4, rfl, h4, k4⟩ := rp_cons k3
 obtain ⟨v5, w5, x5, y5, rfl, h5, k5⟩ := rp_cons k4
 obtain ⟨v6, w6, x6, y6, rfl, h6, k6⟩ := rp_cons k5
 obtain rfl := rp_nil k6
 obtain ⟨j, rfl, _⟩ := i64_of h1
 have kb : ∀ (v : List V) (b : Bool), v = [.b b] → ∃ b : Bool, v = [.b b] := fun v b h => ⟨b, h⟩
 obtain ⟨nt, rfl⟩ := kb v2 x2 h2
 obtain ⟨beh, rfl⟩ := kb v5 x5 h5
 obtain ⟨wi, vi, rfl, hi⟩ := word_of h3
 obtain ⟨wo, vo, rfl, ho⟩ := word_of h4
 obtain ⟨vc, l, rfl, hl⟩ := ls_of (R := C1 F) (fun vs y => cmd_of) h6
 exact ⟨⟨j, nt, wi, wo, beh, l⟩, vi, vo, vc, rfl, hi, ho, hl⟩
theorem line_of {F : RO} {M : Mem} {c : Nat} {vs : List V} {x : lineTy.D} (h : Rp F M c lineTy vs x) : ∃ v l, lineTy.arg vs = .g [v] ∧ LnAt F M c v l := by
 obtain ⟨v1, v2, x1, x2, rfl, h1, h2⟩ := rp_cons h
 obtain rfl := rp_nil h2
 obtain ⟨v, l, rfl, hl⟩ := ls_of (R := P1 F) (fun vs y => part_of) h1
 exact ⟨v, l, rfl, hl⟩
end
end Go.Proofs.YtmbpllipombieaaDoor.Ev
