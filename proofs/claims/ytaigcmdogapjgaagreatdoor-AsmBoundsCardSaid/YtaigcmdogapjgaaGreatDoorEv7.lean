/- What is proved here: pieces of the evaluator's soundness: if the evaluator comes to a value, the model's run comes to it, for every world and tape; no conditions beyond the hypotheses of each theorem. -/
import Derived.Test.YtaigcmdogapjgaaGreatDoorEv6
set_option linter.unusedSimpArgs false
set_option linter.unusedVariables false
set_option linter.defProp false
set_option maxRecDepth 10000
set_option maxHeartbeats 16000000
namespace Go.Proofs.YtaigcmdogapjgaaGreatDoor.Ev
open Go
theorem take_s {α : Type} {l : List α} {j : Nat} (h : j < l.length) : l.take (j + 1) = l.take j ++ [l[j]] := by rw [List.take_add_one, List.getElem?_eq_getElem h]; rfl
theorem not_take {α : Type} {l : List α} (h : l.Nodup) {j : Nat} (hj : j < l.length) : l[j] ∉ l.take j := by
  intro hm
  obtain ⟨i, hi, e⟩ := List.mem_iff_getElem.1 hm
  rw [List.getElem_take] at e
  rw [List.length_take] at hi
  have := (List.getElem_inj h).1 e
  omega
theorem tail8 (Φ : Nat → Option CF) (h12 : Φ 12 = some c12) (h13 : Φ 13 = some c13) (h34 : Φ 34 = some c34) {F : RO} {M0 M : Mem} {ds : List Nat} {c cS cc : Nat} {acc : V} {s : List UInt8} {l : List (List UInt8)}
    (hS : l.length ≤ 256 → ∀ M c b, M.get b = some (rowU 55 (lbE l).flatten) → Calls Φ F 14 [.u b 0 l.length 0 l.length, .f 15 [] []] M c fun r M' c' => M' = M ∧ c' = c)
    (h : P8 F M0 M c cS cc acc l) (hl : ([] : List UInt8) ∉ l) (hnd : l.Nodup) (hl0 : 0 < l.length) (hlen : l.length ≤ 257) (hs : endB s [10] = true) (hsl : s.length ≤ 1000000) (u : List (Option V)) (Q : Ex → St → Prop)
    (hQ : ∀ (u : List (Option V)) M' c' es k e, Okm F M' c' → cc ≤ c' → (∀ y, y < cc → y ≠ c → y ≠ c + 2 → y ≠ c + 3 → M'.get y = M.get y) → M'.get c = some (rowB 26 es) → es.length = 3 → allOne es = true → (l.length ≤ 256 → k = 0 ∧ e = 0) → (l.length = 257 → k = 256 ∧ e = 5) → Q .ret (.mk ((.n (.n (.n (.n (uv7 u 63 31 95 15 79 47 111) (uO u 7) (uv7 u 71 39 103 23 87 55 119)) (some (.i .i64 k)) (.n (uv7 u 67 35 99 19 83 51 115) (uO u 11) (uv7 u 75 43 107 27 91 59 123))) (uO u 1) (.n (.n (uv7 u 65 33 97 17 81 49 113) (uO u 9) (uv7 u 73 41 105 25 89 57 121)) (uO u 5) (.n (uv7 u 69 37 101 21 85 53 117) (uO u 13) (uv7 u 77 45 109 29 93 61 125)))) (uO u 0) (.n (.n (.n (uv7 u 64 32 96 16 80 48 112) (uO u 8) (uv7 u 72 40 104 24 88 56 120)) (some (.i .i64 e)) (.n (uv7 u 68 36 100 20 84 52 116) (uO u 12) (uv7 u 76 44 108 28 92 60 124))) (some (.p c 0)) (.n (.n (uv7 u 66 34 98 18 82 50 114) (uO u 10) (uv7 u 74 42 106 26 90 58 122)) (uO u 6) (.n (uv7 u 70 38 102 22 86 54 118) (uO u 14) (uv7 u 78 46 110 30 94 62 126)))))) ds M' c')) :
    Wp (.seq b4_18 (.seq .skip (.seq b4_29 b4_38))) (K Φ none 4 F) (.mk ((.n (.n (.n (.n (uv7 u 63 31 95 15 79 47 111) (some (.p (c + 6) 0)) (uv7 u 71 39 103 23 87 55 119)) (some (.i .i64 0)) (.n (uv7 u 67 35 99 19 83 51 115) (uO u 11) (uv7 u 75 43 107 27 91 59 123))) (uO u 1) (.n (.n (uv7 u 65 33 97 17 81 49 113) (uO u 9) (uv7 u 73 41 105 25 89 57 121)) (some (.p (c + 4) 0)) (.n (uv7 u 69 37 101 21 85 53 117) (uO u 13) (uv7 u 77 45 109 29 93 61 125)))) (some (sV s)) (.n (.n (.n (uv7 u 64 32 96 16 80 48 112) (uO u 8) (uv7 u 72 40 104 24 88 56 120)) (some (.i .i64 0)) (.n (uv7 u 68 36 100 20 84 52 116) (uO u 12) (uv7 u 76 44 108 28 92 60 124))) (some (.p c 0)) (.n (.n (uv7 u 66 34 98 18 82 50 114) (uO u 10) (uv7 u 74 42 106 26 90 58 122)) (some (.p (c + 5) 0)) (.n (uv7 u 70 38 102 22 86 54 118) (uO u 14) (uv7 u 78 46 110 30 94 62 126)))))) ds M cc) Q := by
  obtain ⟨ok, ⟨le1, le2⟩, old, r0, m1, m2, r3, r4, r5, r6, ⟨ab, hA⟩⟩ := h
  have l5 := load_row (F := F) r5 0
  have hll : (l.map labE).length = l.length := List.length_map _
  have hln := (hA.sl (F := F)).len
  rw [hll] at hln
  rw [show ([acc] : List V)[0]? = some acc from rfl] at l5
  simp only [WX, w4_18, w4_19, w4_29, l5, hln]
  obtain ⟨I, hI⟩ : ∃ I : Nat → St → Prop, ∀ n s', I n s' ↔ (∃ (j c2 b1 : Nat) (lv : V) (M2 : Mem) (u : List (Option V)), n = l.length - j ∧ j ≤ l.length ∧ j ≤ 256 ∧ s' = .mk ((.n (.n (.n (.n (uv7 u 63 31 95 15 79 47 111) (some (.p (c + 6) 0)) (uv7 u 71 39 103 23 87 55 119)) (some (.i .i64 0)) (.n (uv7 u 67 35 99 19 83 51 115) (uO u 11) (uv7 u 75 43 107 27 91 59 123))) (uO u 1) (.n (.n (.n (.n (.n .e (some (.i .i64 (l.length : Int))) .e) (uO u 33) (uv1 u 97)) (uO u 17) (uv3 u 81 49 113)) (uO u 9) (uv7 u 73 41 105 25 89 57 121)) (some (.p (c + 4) 0)) (.n (uv7 u 69 37 101 21 85 53 117) (some (.i .i64 0)) (uv7 u 77 45 109 29 93 61 125)))) (some (sV s)) (.n (.n (.n (.n (.n (.n .e (some (acc)) .e) (uO u 32) (uv1 u 96)) (uO u 16) (uv3 u 80 48 112)) (uO u 8) (uv7 u 72 40 104 24 88 56 120)) (some (.i .i64 0)) (.n (uv7 u 68 36 100 20 84 52 116) (uO u 12) (uv7 u 76 44 108 28 92 60 124))) (some (.p c 0)) (.n (.n (.n (.n (.n .e (some (.i .i64 (j : Int))) .e) (uO u 34) (uv1 u 98)) (uO u 18) (uv3 u 82 50 114)) (uO u 10) (uv7 u 74 42 106 26 90 58 122)) (some (.p (c + 5) 0)) (.n (uv7 u 70 38 102 22 86 54 118) (some (.i .i64 0)) (uv7 u 78 46 110 30 94 62 126)))))) ds M2 c2 ∧ Okm F M2 c2 ∧ cc ≤ c2 ∧ (∀ y, y < cc → y ≠ c + 2 → y ≠ c + 3 → M2.get y = M.get y) ∧ M2.get (c + 2) = some (.map (entL (.b true) (l.take j) 0) (l.take j).length) ∧ M2.get (c + 3) = some (rowB 39 (row68 .l0 lv (c + 1) (c + 2))) ∧ AccAt M2 cc c2 b1 55 2 lv (lbE (l.take j))) := ⟨fun n s' => _, fun _ _ => Iff.rfl⟩
  refine wp_while I ?_ l.length _ ((hI _ _).2 ⟨0, cc, 0, .l0, M, [none, _, none, none, none, none, none, none, _, _, _, _, _, none, none, _, _, _, _, _, _, _, _, _, _, _, _, _, _, _, _, _, _, _, _, _, _, _, _, _, _, _, _, _, _, _, _, _, _, _, _, _, _, _, _, _, _, _, _, _, _, _, _, _, none, none, none, _, _, _, _, _, _, _, _, _, _, _, _, _, _, _, _, _, _, _, _, _, _, _, _, _, _, _, _, _, _, _, _, _, _, _, _, _, _, _, _, _, _, _, _, _, _, _, _, _, _, _, _, _, _, _, _, _, _, _, _], rfl, Nat.zero_le _, Nat.zero_le _, rfl, ok, Nat.le_refl _, fun _ _ _ _ => rfl, by rw [List.take_zero]; exact m2, r3, by rw [List.take_zero]; exact AccAt.nil⟩)
  intro n s' hIs
  obtain ⟨j, c2, b1, lv, M2, u, rfl, hj, hj2, rfl, ok2, le3, o2, rm2, r79, hAc⟩ := (hI _ _).1 hIs
  clear hIs
  have b8 := (o2 (c + 4) (by omega) (by omega) (by omega)).trans r4
  have l8 := load_row (F := F) b8 0
  rw [show ([V.p (c + 3) 0] : List V)[0]? = some (.p (c + 3) 0) from rfl] at l8
  by_cases hlt : j < l.length
  · have d1 : decide ((j : Int) < (l.length : Int)) = true := decide_eq_true (by omega)
    have hA2 := hA.keep (M' := M2) (c' := c2) (by omega) fun y y1 y2 => o2 y y2 (by omega) (by omega)
    obtain ⟨pb, po, hpb, hia, hcs⟩ := (hA2.sl (F := F)).at j (by omega)
    have hel : (l.map labE)[j]'(by omega) = labE l[j] := List.getElem_map _
    rw [hel] at hcs
    have n1 : (labE l[j]).length = 12 := rfl
    have n2 : allOne (labE l[j]) = true := rfl
    have hld := hcs.load (by intro e; cases e)
    rw [n1] at hld
    have hia := hia .i64
    have hna := not_take hnd hlt
    have hne : l[j] ≠ [] := fun e => hl (e ▸ List.getElem_mem hlt)
    obtain ⟨a, hae⟩ : ∃ a, a = l[j] := ⟨_, rfl⟩
    rw [← hae] at hld n1 n2 hna hne
    have ov : over [V.b false, .b false, .b false, .b false, .i .i64 0, .i .i64 0, .i .i64 0, .i .i64 0, .i .i64 0, .s 0 0, .s 0 0, .l0] 0 (labE a) = labE a := over_full _ _ n1
    have st0 := store_row (get_same M2 c2 row74) 0 (labE a) (by show 0 + (labE a).length ≤ 12; omega) n2
    rw [ov] at st0
    unfold row74 at st0
    simp only [WX, w4_20, w4_21, w4_22, w4_23, w4_28, d1, hia, hld, n1, st0]
    have gN : Gr c2 M2 (c2 + 1) ((M2.set c2 row74).set c2 (rowB 48 (labE a))) := ((Gr.refl ok2).set c2 row74 (Nat.le_refl _) (Nat.lt_succ_self _) (Nat.le_succ _)).set c2 (rowB 48 (labE a)) (Nat.le_refl _) (Nat.lt_succ_self _) (Nat.le_refl _)
    have nA : ((M2.set c2 row74).set c2 (rowB 48 (labE a))).get c2 = some (rowB 48 (labE a)) := get_same _ _ _
    unfold row74 at gN nA
    generalize (M2.set c2 (rowB 48 [V.b false, .b false, .b false, .b false, .i .i64 0, .i .i64 0, .i .i64 0, .i .i64 0, .i .i64 0, .s 0 0, .s 0 0, .l0])).set c2 (rowB 48 (labE a)) = N at gN nA ⊢
    have l8' := load_row (F := F) ((gN.old (c + 4) (by omega)).trans b8) 0
    rw [show ([V.p (c + 3) 0] : List V)[0]? = some (.p (c + 3) 0) from rfl] at l8'
    have kn := loadN_row (F := F) nA 12 n1
    have okN := gN.ok ok2
    have oN : ∀ y, y < cc → y ≠ c + 2 → y ≠ c + 3 → N.get y = M.get y := fun y y1 y2 y3 => (gN.old y (by omega)).trans (o2 y y1 y2 y3)
    have nm1 := (oN (c + 1) (by omega) (by omega) (by omega)).trans m1
    have nm2 := (gN.old (c + 2) (by omega)).trans rm2
    have n79 := (gN.old (c + 3) (by omega)).trans r79
    have htl : (l.take j).length = j := by rw [List.length_take]; omega
    simp only [WX, l8', kn]
    by_cases hfull : j = 256
    · refine putE_to ((r12f Φ h12 okN n79 nm1 nm2 (by omega) (by omega) (by omega) (by omega) hna hne hl).mono ?_)
      rintro r M3 c3 ⟨rfl, g3⟩
      have g3l := g3.le
      have r0' := ((g3.old c (by omega)).trans (oN c (by omega) (by omega) (by omega))).trans r0
      have st := store_row r0' 0 [.l0, .l0, .l0] (by simp) rfl
      rw [show over [V.l0, .l0, .l0] 0 [.l0, .l0, .l0] = [.l0, .l0, .l0] from rfl] at st
      have q5 : ∀ d : Decidable ((5 : Int) = 0), @decide ((5 : Int) = 0) d = false := fun d => decide_eq_false (by omega)
      simp only [WX, Nat.reduceEqDiff, Int.reduceEq, Nat.reduceAdd, B4, st, ne_eq, eq_self, not_false_eq_true]
      exact hQ [_, _, none, none, none, _, _, _, _, _, _, _, _, _, _, _, _, _, _, _, _, _, _, _, _, _, _, _, _, _, _, _, _, _, _, _, _, _, _, _, _, _, _, _, _, _, _, _, _, _, _, _, _, _, _, _, _, _, _, _, _, _, _, _, _, _, _, _, _, _, _, _, _, _, _, _, _, _, _, _, _, _, _, _, _, _, _, _, _, _, _, _, _, _, _, _, _, _, _, _, _, _, _, _, _, _, _, _, _, _, _, _, _, _, _, _, _, _, _, _, _, _, _, _, _, _, _] _ _ [.l0, .l0, .l0] (j : Int) 5 ((g3.ok okN).put (by omega) r0') (by omega) (fun y y1 y2 y3 y4 => (get_ne _ _ y2).trans ((g3.old y (by omega)).trans (oN y y1 y3 y4))) (get_same _ _ _) rfl rfl (fun h => by omega) (fun _ => ⟨by rw [hfull]; rfl, rfl⟩)
    · refine putE_to ((r12l Φ h12 (cB := cc) okN n79 nm1 nm2 (by omega) (by omega) (by omega) (by omega) (by omega) (hAc.gr gN) (by omega) hna hne hl).mono ?_)
      rintro r M3 c3 ⟨rfl, ok3, le4, o3, rm3, lv', b1', r59, hAc3⟩
      have q8 : biV .add (.i .i64 (j : Int)) (.i .i64 1) = some (.i .i64 ((j + 1 : Nat) : Int)) := by rw [i64_add _ _ (by omega) (by omega)]; simp
      simp only [WX, w4_24, w4_26, w4_27, q8, ne_eq, eq_self, not_true_eq_false]
      refine ⟨l.length - (j + 1), by omega, (hI _ _).2 ⟨j + 1, c3, b1', lv', M3, [none, _, none, none, none, none, none, none, _, _, _, _, _, none, none, _, _, _, _, _, _, _, _, _, _, _, _, _, _, _, _, _, _, _, _, _, _, _, _, _, _, _, _, _, _, _, _, _, _, _, _, _, _, _, _, _, _, _, _, _, _, _, _, _, none, none, none, _, _, _, _, _, _, _, _, _, _, _, _, _, _, _, _, _, _, _, _, _, _, _, _, _, _, _, _, _, _, _, _, _, _, _, _, _, _, _, _, _, _, _, _, _, _, _, _, _, _, _, _, _, _, _, _, _, _, _, _], rfl, hlt, by omega, rfl, ok3, by omega, fun y y1 y2 y3 => (o3 y y1 y3 y2).trans (oN y y1 y2 y3), ?_, r59, ?_⟩⟩
      · rw [take_s hlt, ← hae]; exact rm3
      · rw [take_s hlt, ← hae]; exact hAc3
  · obtain rfl : j = l.length := by omega
    have d1 : decide ((l.length : Int) < (l.length : Int)) = false := decide_eq_false (by omega)
    rw [List.take_length] at hAc
    rw [List.take_length] at rm2
    have hne : s ≠ [] := by intro e; rw [e] at hs; exact absurd hs (by decide)
    have s0 : biV .neq (sV s) (.s 0 0) = some (.b true) := sne hne
    have e24 : V.s 1 10 = sV [10] := rfl
    have hll2 : (lbE l).length = l.length := List.length_map _
    obtain ⟨z1, z2, z3⟩ := accOne hAc
    obtain ⟨hlv, hb1⟩ : lv = .u b1 0 l.length 0 l.length ∧ M2.get b1 = some (rowU 55 (lbE l).flatten) := by
      rcases id hAc with ⟨_, ⟨h0, _⟩ | ⟨_, _, h3, h4⟩⟩
      · rw [h0] at hll2; simp at hll2; omega
      · rw [hll2] at h3; exact ⟨h3, h4⟩
    have l78 := load_row (F := F) r79 1
    rw [show (row68 .l0 lv (c + 1) (c + 2))[1]? = some lv from rfl] at l78
    have l59 : loadN F M2 (c + 3) 0 3 = some [.l0, lv, .l0] := (rowAt_cells r79).loadN 0 3 (show 0 + 3 ≤ 5 by decide)
    have b0 := (o2 c (by omega) (by omega) (by omega)).trans r0
    have hal : allOne [.l0, lv, .l0] = true := by rw [hlv]; rfl
    have st := store_row b0 0 [.l0, lv, .l0] (by simp) hal
    rw [show over [V.l0, .l0, .l0] 0 [.l0, lv, .l0] = [.l0, lv, .l0] from rfl] at st
    simp only [WX, B4, d1, s0, e24, eq_self]
    refine putE_to ((r13 Φ h13 h34 s [10] hsl (by decide)).mono ?_)
    rintro r M3 c3 ⟨rfl, rfl, rfl⟩
    rw [hs]
    simp only [WX, B4, l8, l78, v_nck, nckV_p, ne_eq, eq_self, not_true_eq_false]
    have hsort := hS (by omega) M3 c3 b1 hb1
    rw [← hlv] at hsort
    refine putE_to (hsort.mono ?_)
    rintro r M4 c4 ⟨rfl, rfl⟩
    simp only [WX, Nat.reduceAdd, B4, l8, l59, st, v_nck, nckV_p]
    exact hQ [_, _, none, none, none, _, _, _, _, _, _, _, _, _, _, _, _, _, _, _, _, _, _, _, _, _, _, _, _, _, _, _, _, _, _, _, _, _, _, _, _, _, _, _, _, _, _, _, _, _, _, _, _, _, _, _, _, _, _, _, _, _, _, _, _, _, _, _, _, _, _, _, _, _, _, _, _, _, _, _, _, _, _, _, _, _, _, _, _, _, _, _, _, _, _, _, _, _, _, _, _, _, _, _, _, _, _, _, _, _, _, _, _, _, _, _, _, _, _, _, _, _, _, _, _, _, _] _ _ [.l0, lv, .l0] 0 0 (ok2.put (by omega) b0) le3 (fun y y1 y2 y3 y4 => (get_ne _ _ y2).trans (o2 y y1 y3 y4)) (get_same _ _ _) rfl hal (fun _ => ⟨rfl, rfl⟩) (fun h => by omega)
end Go.Proofs.YtaigcmdogapjgaaGreatDoor.Ev
set_option maxRecDepth 10000
set_option maxHeartbeats 16000000
namespace Go.Proofs.YtaigcmdogapjgaaGreatDoor.Ev
open Go
def scF : Nat → Nat → St → Prop := fun _ _ _ => False
theorem a_mkm_eq (b : Nat) (t : T) : aop .mkm b t = some (.m b, .map [] 0) := Eq.trans rfl (Eq.refl _)
theorem P8.loop {F : RO} {M0 M : Mem} {c cS cc y : Nat} {acc : V} {l : List (List UInt8)} {b b' : Blk} (h : P8 F M0 M c cS cc acc l) (h1 : c + 7 ≤ y) (h2 : y < cS) (hM : M.get y = some b) : P8 F M0 (M.set y b') c cS cc acc l := by
  have := h.le
  obtain ⟨ab, hA⟩ := h.acs
  exact ⟨h.ok.put (by omega) hM, h.le, fun x hx => (get_ne _ _ (by omega)).trans (h.old x hx), (get_ne _ _ (by omega)).trans h.r0, (get_ne _ _ (by omega)).trans h.m1, (get_ne _ _ (by omega)).trans h.m2, (get_ne _ _ (by omega)).trans h.r3, (get_ne _ _ (by omega)).trans h.r4, (get_ne _ _ (by omega)).trans h.r5, (get_ne _ _ (by omega)).trans h.r6, ab, hA.keep (Nat.le_refl _) fun x hx _ => get_ne _ _ (by omega)⟩
theorem Okm.up {F : RO} {M : Mem} {c c' : Nat} (h : Okm F M c) (hc : c ≤ c') : Okm F M c' := ⟨fun y hy => h.hiM y (by omega), fun y hy => h.hiF y (by omega), h.ap, by have := h.ge; omega⟩
theorem P8.up {F : RO} {M0 M : Mem} {c cS cc cc' : Nat} {acc : V} {l : List (List UInt8)} (h : P8 F M0 M c cS cc acc l) (hc : cc ≤ cc') : P8 F M0 M c cS cc' acc l := by
  obtain ⟨ab, hA⟩ := h.acs
  exact ⟨h.ok.up hc, ⟨h.le.1, by have := h.le.2; omega⟩, h.old, h.r0, h.m1, h.m2, h.r3, h.r4, h.r5, h.r6, ab, hA.keep hc fun x _ _ => rfl⟩
theorem mid8 (Φ : Nat → Option CF) (h9 : Φ 9 = some c9) (h25 : Φ 25 = some c25) (h26 : Φ 26 = some c26) (h49 : Φ 49 = some c49) (h83 : Φ 83 = some c83) (h106 : Φ 106 = some c106) (h10 : Φ 10 = some c10) (h11 : Φ 11 = some c11) (h27 : Φ 27 = some c27) (h50 : Φ 50 = some c50) (h34 : Φ 34 = some c34) (h7' : Φ 7 = some (.orc (pureO h7)))
    {F : RO} {M0 M : Mem} {c : Nat} (hc : 1000 ≤ c) {s : List UInt8} {l : List (List UInt8)} (hsl : s.length ≤ 131072) (hlns : lns s = l.map fun a => a ++ [58]) (hlab : ∀ a ∈ l, labelOk a = true) (hnd : l.Nodup) (hlen : l.length ≤ 100000)
    (h : P8 F M0 M c (c + 7) (c + 7) .l0 []) (u : List (Option V)) (Q : Ex → St → Prop)
    (hT : ∀ (u : List (Option V)) (d cS cc : Nat) M' acc, c + 7 ≤ d → d < cS → M'.get d = some (.defs false) → P8 F M0 M' c cS cc acc l → Wp (.seq b4_18 (.seq .skip (.seq b4_29 b4_38))) (K Φ none 4 F) (.mk ((.n (.n (.n (.n (uv7 u 63 31 95 15 79 47 111) (some (.p (c + 6) 0)) (uv7 u 71 39 103 23 87 55 119)) (some (.i .i64 0)) (.n (uv7 u 67 35 99 19 83 51 115) (uO u 11) (uv7 u 75 43 107 27 91 59 123))) (uO u 1) (.n (.n (uv7 u 65 33 97 17 81 49 113) (uO u 9) (uv7 u 73 41 105 25 89 57 121)) (some (.p (c + 4) 0)) (.n (uv7 u 69 37 101 21 85 53 117) (uO u 13) (uv7 u 77 45 109 29 93 61 125)))) (some (sV s)) (.n (.n (.n (uv7 u 64 32 96 16 80 48 112) (uO u 8) (uv7 u 72 40 104 24 88 56 120)) (some (.i .i64 0)) (.n (uv7 u 68 36 100 20 84 52 116) (uO u 12) (uv7 u 76 44 108 28 92 60 124))) (some (.p c 0)) (.n (.n (uv7 u 66 34 98 18 82 50 114) (uO u 10) (uv7 u 74 42 106 26 90 58 122)) (some (.p (c + 5) 0)) (.n (uv7 u 70 38 102 22 86 54 118) (uO u 14) (uv7 u 78 46 110 30 94 62 126)))))) [d] M' cc) Q) :
    Wp b4_39 (K Φ none 4 F) (.mk ((.n (.n (.n (.n (uv7 u 63 31 95 15 79 47 111) (some (.p (c + 6) 0)) (uv7 u 71 39 103 23 87 55 119)) (some (.i .i64 0)) (.n (uv7 u 67 35 99 19 83 51 115) (uO u 11) (uv7 u 75 43 107 27 91 59 123))) (uO u 1) (.n (.n (uv7 u 65 33 97 17 81 49 113) (uO u 9) (uv7 u 73 41 105 25 89 57 121)) (some (.p (c + 4) 0)) (.n (uv7 u 69 37 101 21 85 53 117) (uO u 13) (uv7 u 77 45 109 29 93 61 125)))) (some (sV s)) (.n (.n (.n (uv7 u 64 32 96 16 80 48 112) (uO u 8) (uv7 u 72 40 104 24 88 56 120)) (some (.i .i64 0)) (.n (uv7 u 68 36 100 20 84 52 116) (uO u 12) (uv7 u 76 44 108 28 92 60 124))) (some (.p c 0)) (.n (.n (uv7 u 66 34 98 18 82 50 114) (uO u 10) (uv7 u 74 42 106 26 90 58 122)) (some (.p (c + 5) 0)) (.n (uv7 u 70 38 102 22 86 54 118) (uO u 14) (uv7 u 78 46 110 30 94 62 126)))))) [] M (c + 7)) Q := by
  have hll : (lns s).length = l.length := by rw [hlns, List.length_map]
  simp only [WX, w4_7, w4_39]
  refine putE_to ((r9 Φ h9 h.ok s).mono ?_)
  rintro r M1 c1 ⟨pb, rfl, p1, p2, p3, hg⟩
  have ok1 := hg.ok h.ok
  have gle := hg.le
  simp only [WX, w4_17]
  refine wp_rf0 ?_
  simp only [WX, callI_f]
  obtain ⟨BL, hBL⟩ : ∃ BL : LS → Pend → Blk, BL = fun s' p => Blk.loop s' p 4 ((.n (.n (.n (.n (uv7 u 63 31 95 15 79 47 111) (some (.p (c + 6) 0)) (uv7 u 71 39 103 23 87 55 119)) (some (.i .i64 0)) (.n (uv7 u 67 35 99 19 83 51 115) (uO u 11) (uv7 u 75 43 107 27 91 59 123))) (uO u 1) (.n (.n (uv7 u 65 33 97 17 81 49 113) (uO u 9) (.n (uv3 u 73 41 105) (some (sV s)) (uv3 u 89 57 121))) (some (.p (c + 4) 0)) (.n (uv7 u 69 37 101 21 85 53 117) (uO u 13) (uv7 u 77 45 109 29 93 61 125)))) (some (sV s)) (.n (.n (.n (uv7 u 64 32 96 16 80 48 112) (uO u 8) (uv7 u 72 40 104 24 88 56 120)) (some (.i .i64 0)) (.n (uv7 u 68 36 100 20 84 52 116) (uO u 12) (uv7 u 76 44 108 28 92 60 124))) (some (.p c 0)) (.n (.n (uv7 u 66 34 98 18 82 50 114) (uO u 10) (.n (uv3 u 74 42 106) (some (.f 25 [] [.p pb 0])) (uv3 u 90 58 122))) (some (.p (c + 5) 0)) (.n (uv7 u 70 38 102 22 86 54 118) (uO u 14) (uv7 u 78 46 110 30 94 62 126)))))) [(.l (.l (.r (.r .h)))), (.r (.l (.r (.r .h))))] b4_8 b4_16 c1 := ⟨_, rfl⟩
  obtain ⟨Ik, hIk⟩ : ∃ I : Nat → Mem → Nat → Prop, ∀ k M cc, I k M cc ↔ (∃ acc, P8 F M0 M c (c1 + 2) cc acc (l.take k) ∧ M.get (c1 + 1) = some (BL .ready .none) ∧ M.get c1 = some (.defs false) ∧ k ≤ l.length) := ⟨fun k M cc => _, fun _ _ _ => Iff.rfl⟩
  have gZ : Gr (c + 7) M (c1 + 2) ((M1.set c1 (.defs false)).set (c1 + 1) (BL .ready .none)) := ((hg.set c1 _ (by omega) (show c1 < c1 + 1 by omega) (by omega)).set (c1 + 1) _ (by omega) (by omega) (by omega))
  have okZ := gZ.ok h.ok
  refine (r25c Φ h25 h26 h49 h83 h106 (y := c1 + 1) (pb := pb) (l := s) (by omega) ?_ (I := Ik) (J := fun _ _ => False) ?_ ?_ ?_).mono ?_
  · rw [get_ne _ _ (by omega), get_ne _ _ (by omega)]; exact p3
  · refine (hIk _ _ _).2 ⟨.l0, ⟨?_, ⟨by omega, Nat.le_refl _⟩, fun y hy => ?_, ?_, ?_, ?_, ?_, ?_, ?_, ?_, ⟨0, by rw [List.take_zero]; exact AccAt.nil⟩⟩, ?_, ?_, Nat.zero_le _⟩
    · rw [hBL] at okZ; exact okZ
    · rw [get_ne _ _ (by omega), get_ne _ _ (by omega), hg.old _ (by omega), h.old y hy]
    · rw [get_ne _ _ (by omega), get_ne _ _ (by omega), hg.old _ (by omega)]; exact h.r0
    · rw [get_ne _ _ (by omega), get_ne _ _ (by omega), hg.old _ (by omega), List.take_zero]; exact h.m1
    · rw [get_ne _ _ (by omega), get_ne _ _ (by omega), hg.old _ (by omega)]; exact h.m2
    · rw [get_ne _ _ (by omega), get_ne _ _ (by omega), hg.old _ (by omega)]; exact h.r3
    · rw [get_ne _ _ (by omega), get_ne _ _ (by omega), hg.old _ (by omega)]; exact h.r4
    · rw [get_ne _ _ (by omega), get_ne _ _ (by omega), hg.old _ (by omega)]; exact h.r5
    · rw [get_ne _ _ (by omega), get_ne _ _ (by omega), hg.old _ (by omega)]; exact h.r6
    · rw [hBL]; exact get_same _ _ _
    · rw [get_ne _ _ (by omega)]; exact get_same _ _ _
  · intro k M2 cc cc' hcc hi
    obtain ⟨acc, a1, a2, a3, a4⟩ := (hIk _ _ _).1 hi
    exact (hIk _ _ _).2 ⟨acc, a1.up hcc, a2, a3, a4⟩
  · intro k M2 cc hklt hi
    obtain ⟨acc, a1, a2, a3, a4⟩ := (hIk _ _ _).1 hi
    have hk : k < l.length := by omega
    have hlk : (lns s)[k] = l[k] ++ [58] := by simp only [hlns, List.getElem_map]
    rw [hlk]
    have hl5 := a2
    rw [hBL] at hl5
    refine yield_of hl5 (setParams_two _ _ _ _ _) ?_
    simp only [WX, B4]
    refine asgQ_of hl5 ?_
    have aB := a1.loop (b' := BL .busy .none) (by omega) (show c1 + 1 < c1 + 2 by omega) a2
    have yB : (M2.set (c1 + 1) (BL .busy .none)).get (c1 + 1) = some (BL .busy .none) := get_same _ _ _
    have dB : (M2.set (c1 + 1) (BL .busy .none)).get c1 = some (.defs false) := (get_ne _ _ (by omega)).trans a3
    rw [show Blk.loop LS.busy _ _ _ _ _ _ _ = BL .busy .none by rw [hBL]]
    generalize M2.set (c1 + 1) (BL .busy .none) = MB at aB yB dB ⊢
    refine body8 Φ h10 h11 h27 h50 h34 h7' (c := c) (cS := c1 + 2) (fv := .f 25 [] [.p pb 0]) (sv := sV s) (kv := .i .i64 (k : Int)) (a := l[k]) aB (hlab _ (List.getElem_mem hk)) (not_take hnd hk) (by rw [List.length_take]; omega) [none, _, none, none, none, none, none, none, _, none, _, _, _, _, _, _, _, _, _, _, _, _, _, _, _, _, none, none, none, _, _, _, _, _, _, _, _, _, _, _, _, _, _, _, _, _, _, _, _, _, _, _, _, _, _, _, _, _, _, _, _, _, _, _, _, _, _, _, _, _, _, _, _, _, _, _, _, _, _, _, _, _, _, _, _, _, _, _, _, _, _, _, _, _, _, _, _, _, _, _, _, _, _, _, _, _, _, _, _, _, _, _, _, _, _, _, _, _, _, _, _, _, _, _, _, _, _] _ ?_
    intro t' M' c' acc' hP hMM hcc
    have hly := (hMM (c1 + 1) (by omega) (by omega) (by omega) (by omega)).trans yB
    rw [hBL] at hly
    refine yq_nrm hly ?_
    refine ⟨rfl, (hIk _ _ _).2 ⟨acc', ?_, by rw [hBL]; exact get_same _ _ _, ?_, hk⟩⟩
    · rw [take_s hk]
      exact hP.loop (by omega) (show c1 + 1 < c1 + 2 by omega) hly
    · rw [get_ne _ _ (by omega), hMM c1 (by omega) (by omega) (by omega) (by omega)]; exact dB
  · intro v' M2 cc hij
    rcases hij with hi | hj
    rotate_left
    · exact hj.elim
    obtain ⟨acc, a1, a2, a3, a4⟩ := (hIk _ _ _).1 hi
    rw [hll, List.take_length] at a1
    have hl5 := a2
    rw [hBL] at hl5
    refine ⟨_, _, _, _, _, _, _, _, hl5, (by intro h; cases h), ?_⟩
    have aB := a1.loop (b' := BL .exhausted .none) (by omega) (show c1 + 1 < c1 + 2 by omega) a2
    have dB : (M2.set (c1 + 1) (BL .exhausted .none)).get c1 = some (.defs false) := (get_ne _ _ (by omega)).trans a3
    rw [show Blk.loop LS.exhausted _ _ _ _ _ _ _ = BL .exhausted .none by rw [hBL]]
    generalize M2.set (c1 + 1) (BL .exhausted .none) = MX at aB dB ⊢
    simp only [WX, pendEx_none]
    rw [← wp_seq]
    exact hT [none, _, none, none, none, none, none, none, _, _, _, _, _, _, _, _, _, _, _, _, _, _, _, _, _, _, _, _, _, _, _, _, _, _, _, _, _, _, _, _, _, _, _, _, _, _, _, _, _, _, _, _, _, _, _, _, _, _, _, _, _, _, _, _, _, _, _, _, _, _, _, _, _, _, _, _, _, _, _, _, _, _, _, _, _, _, _, _, _, _, _, _, _, _, _, _, _, _, _, _, _, _, _, _, _, _, _, _, _, _, _, _, _, _, _, _, _, _, _, _, _, _, _, _, _, _, _] c1 (c1 + 2) cc MX acc (by omega) (by omega) dB aB
theorem r4m (Φ : Nat → Option CF) (h : Φ 4 = some c4) (h9 : Φ 9 = some c9) (h25 : Φ 25 = some c25) (h26 : Φ 26 = some c26) (h49 : Φ 49 = some c49) (h83 : Φ 83 = some c83) (h106 : Φ 106 = some c106) (h10 : Φ 10 = some c10) (h11 : Φ 11 = some c11) (h27 : Φ 27 = some c27) (h50 : Φ 50 = some c50) (h34 : Φ 34 = some c34) (h7' : Φ 7 = some (.orc (pureO h7)))
    {F : RO} {M : Mem} {c : Nat} (ok : Okm F M c) {s : List UInt8} {l : List (List UInt8)} (hsl : s.length ≤ 131072) (hlns : lns s = l.map fun a => a ++ [58]) (hlab : ∀ a ∈ l, labelOk a = true) (hnd : l.Nodup) (hlen : l.length ≤ 100000) (k e : Int)
    (hT : ∀ (u : List (Option V)) (d cS cc : Nat) M' acc Q, c + 7 ≤ d → d < cS → M'.get d = some (.defs false) → P8 F M M' c cS cc acc l →
      (∀ (u : List (Option V)) M2 c' es, Okm F M2 c' → cc ≤ c' → (∀ y, y < cc → y ≠ c → y ≠ c + 2 → y ≠ c + 3 → M2.get y = M'.get y) → M2.get c = some (rowB 26 es) → es.length = 3 → allOne es = true → Q .ret (.mk ((.n (.n (.n (.n (uv7 u 63 31 95 15 79 47 111) (uO u 7) (uv7 u 71 39 103 23 87 55 119)) (some (.i .i64 k)) (.n (uv7 u 67 35 99 19 83 51 115) (uO u 11) (uv7 u 75 43 107 27 91 59 123))) (uO u 1) (.n (.n (uv7 u 65 33 97 17 81 49 113) (uO u 9) (uv7 u 73 41 105 25 89 57 121)) (uO u 5) (.n (uv7 u 69 37 101 21 85 53 117) (uO u 13) (uv7 u 77 45 109 29 93 61 125)))) (uO u 0) (.n (.n (.n (uv7 u 64 32 96 16 80 48 112) (uO u 8) (uv7 u 72 40 104 24 88 56 120)) (some (.i .i64 e)) (.n (uv7 u 68 36 100 20 84 52 116) (uO u 12) (uv7 u 76 44 108 28 92 60 124))) (some (.p c 0)) (.n (.n (uv7 u 66 34 98 18 82 50 114) (uO u 10) (uv7 u 74 42 106 26 90 58 122)) (uO u 6) (.n (uv7 u 70 38 102 22 86 54 118) (uO u 14) (uv7 u 78 46 110 30 94 62 126)))))) [d] M2 c')) →
      Wp (.seq b4_18 (.seq .skip (.seq b4_29 b4_38))) (K Φ none 4 F) (.mk ((.n (.n (.n (.n (uv7 u 63 31 95 15 79 47 111) (some (.p (c + 6) 0)) (uv7 u 71 39 103 23 87 55 119)) (some (.i .i64 0)) (.n (uv7 u 67 35 99 19 83 51 115) (uO u 11) (uv7 u 75 43 107 27 91 59 123))) (uO u 1) (.n (.n (uv7 u 65 33 97 17 81 49 113) (uO u 9) (uv7 u 73 41 105 25 89 57 121)) (some (.p (c + 4) 0)) (.n (uv7 u 69 37 101 21 85 53 117) (uO u 13) (uv7 u 77 45 109 29 93 61 125)))) (some (sV s)) (.n (.n (.n (uv7 u 64 32 96 16 80 48 112) (uO u 8) (uv7 u 72 40 104 24 88 56 120)) (some (.i .i64 0)) (.n (uv7 u 68 36 100 20 84 52 116) (uO u 12) (uv7 u 76 44 108 28 92 60 124))) (some (.p c 0)) (.n (.n (uv7 u 66 34 98 18 82 50 114) (uO u 10) (uv7 u 74 42 106 26 90 58 122)) (some (.p (c + 5) 0)) (.n (uv7 u 70 38 102 22 86 54 118) (uO u 14) (uv7 u 78 46 110 30 94 62 126)))))) [d] M' cc) Q) :
    Calls Φ F 4 [sV s] M c fun r M' c' => ∃ es, r = .t [.g es, .i .i64 k, .i .i64 e] ∧ es.length = 3 ∧ allOne es = true ∧ Gr c M c' M' := by
  refine calls_walk h ?_
  have hge := ok.ge
  have hd : decide ((131072 : Int) < (s.length : Int)) = false := decide_eq_false (by omega)
  simp only [WX, e4, w4_1, w4_61]
  refine wp_scopes scF (fun n l s h => h.elim) 0 _ _ ?_
  simp only [WX, Nat.reduceAdd, Nat.reduceLeDiff, w4_2, w4_4, w4_5, w4_6, w4_40, hd, a_mkm_eq]
  have gX : Gr c M (c + 7) (((((((M.set c (rowB 26 [V.l0, V.l0, V.l0])).set (c + 1) (Blk.map [] 0)).set (c + 2) (Blk.map [] 0)).set (c + 3) (rowB 39 [V.l0, V.l0, V.l0, V.m (c + 1), V.m (c + 2)])).set (c + 4) (rowB 35 [V.p (c + 3) 0])).set (c + 5) (rowB 40 [V.l0])).set (c + 6) (rowB 3 [V.i IntKind.i64 0])) :=
    (((((((Gr.refl ok).set c _ (Nat.le_refl _) (show c < c + 1 by omega) (by omega)).set (c + 1) _ (by omega) (show c + 1 < c + 2 by omega) (by omega)).set (c + 2) _ (by omega) (show c + 2 < c + 3 by omega) (by omega)).set (c + 3) _ (by omega) (show c + 3 < c + 4 by omega) (by omega)).set (c + 4) _ (by omega) (show c + 4 < c + 5 by omega) (by omega)).set (c + 5) _ (by omega) (show c + 5 < c + 6 by omega) (by omega)).set (c + 6) _ (by omega) (by omega) (by omega)
  refine mid8 Φ h9 h25 h26 h49 h83 h106 h10 h11 h27 h50 h34 h7' hge hsl hlns hlab hnd hlen ⟨gX.ok ok, ⟨Nat.le_refl _, Nat.le_refl _⟩, gX.old, ?_, ?_, ?_, ?_, ?_, ?_, get_same _ _ _, ⟨0, AccAt.nil⟩⟩ [none, _, none, none, none, none, none, none, _, _, _, _, _, _, _, _, _, _, _, _, _, _, _, _, _, _, _, _, _, _, _, _, _, _, _, _, _, _, _, _, _, _, _, _, _, _, _, _, _, _, _, _, _, _, _, _, _, _, _, _, _, _, _, _, _, _, _, _, _, _, _, _, _, _, _, _, _, _, _, _, _, _, _, _, _, _, _, _, _, _, _, _, _, _, _, _, _, _, _, _, _, _, _, _, _, _, _, _, _, _, _, _, _, _, _, _, _, _, _, _, _, _, _, _, _, _, _] _ ?_
  · rw [get_ne _ _ (by omega), get_ne _ _ (by omega), get_ne _ _ (by omega), get_ne _ _ (by omega), get_ne _ _ (by omega), get_ne _ _ (by omega)]; exact get_same _ _ _
  · rw [get_ne _ _ (by omega), get_ne _ _ (by omega), get_ne _ _ (by omega), get_ne _ _ (by omega), get_ne _ _ (by omega)]; exact get_same _ _ _
  · rw [get_ne _ _ (by omega), get_ne _ _ (by omega), get_ne _ _ (by omega), get_ne _ _ (by omega)]; exact get_same _ _ _
  · rw [get_ne _ _ (by omega), get_ne _ _ (by omega), get_ne _ _ (by omega)]; exact get_same _ _ _
  · rw [get_ne _ _ (by omega), get_ne _ _ (by omega)]; exact get_same _ _ _
  · rw [get_ne _ _ (by omega)]; exact get_same _ _ _
  intro u d cS cc M' acc k1 k2 k3 hP
  refine hT u d cS cc M' acc _ k1 k2 k3 hP ?_
  intro u M2 c' es k4 k5 k6 k7 k8 k9
  rw [scopeQ_ret]
  have hPl := hP.le
  have hd2 : M2.get d = some (.defs false) := (k6 d (by omega) (by omega) (by omega) (by omega)).trans k3
  have ht1 : takeDefs [d] M2 = some (M2.set d (.defs true)) := by rw [takeDefs_one hd2]; rfl
  have ln := loadN_row (F := F) ((get_ne M2 (.defs true) (show c ≠ d by omega)).trans k7) 3 k8
  rw [endQ_ret1, ht1, endD_some]
  simp only [WX, ln]
  exact ⟨_, rfl, k8, k9, ⟨by omega, fun y hy => (get_ne _ _ (by omega)).trans ((k6 y (by omega) (by omega) (by omega) (by omega)).trans (hP.old y hy)), fun y hy => (get_ne _ _ (by omega)).trans (k4.hiM y hy)⟩⟩
end Go.Proofs.YtaigcmdogapjgaaGreatDoor.Ev
set_option maxRecDepth 10000
set_option maxHeartbeats 16000000
namespace Go.Proofs.YtaigcmdogapjgaaGreatDoor.Ev
open Go
structure R4 (Φ : Nat → Option CF) : Prop where
  h4 : Φ 4 = some c4
  h9 : Φ 9 = some c9
  h25 : Φ 25 = some c25
  h26 : Φ 26 = some c26
  h49 : Φ 49 = some c49
  h83 : Φ 83 = some c83
  h106 : Φ 106 = some c106
  h10 : Φ 10 = some c10
  h11 : Φ 11 = some c11
  h27 : Φ 27 = some c27
  h50 : Φ 50 = some c50
  h34 : Φ 34 = some c34
  h7 : Φ 7 = some (.orc (pureO h7))
  h12 : Φ 12 = some c12
  h13 : Φ 13 = some c13
def LabT (s : List UInt8) (l : List (List UInt8)) : Prop := s.length ≤ 131072 ∧ lns s = (l.map fun a => a ++ [58]) ∧ (∀ a ∈ l, labelOk a = true) ∧ l.Nodup ∧ 0 < l.length ∧ endB s [10] = true
theorem LabT.ne {s : List UInt8} {l : List (List UInt8)} (h : LabT s l) : ([] : List UInt8) ∉ l := fun hm => by have := (lab_facts (h.2.2.1 _ hm)).1; exact absurd this (by decide)
theorem r4C (Φ : Nat → Option CF) (e : R4 Φ) {F : RO} {M : Mem} {c : Nat} (ok : Okm F M c) {s : List UInt8} {l : List (List UInt8)} (h : LabT s l) (hl : l.length ≤ 256)
    (hS : ∀ M c b, M.get b = some (rowU 55 (lbE l).flatten) → Calls Φ F 14 [.u b 0 l.length 0 l.length, .f 15 [] []] M c fun r M' c' => M' = M ∧ c' = c) :
    Calls Φ F 4 [sV s] M c fun r M' c' => ∃ es, r = .t [.g es, .i .i64 0, .i .i64 0] ∧ es.length = 3 ∧ allOne es = true ∧ Gr c M c' M' := by
  have hne := h.ne
  obtain ⟨a1, a2, a3, a4, a5, a6⟩ := h
  refine r4m Φ e.h4 e.h9 e.h25 e.h26 e.h49 e.h83 e.h106 e.h10 e.h11 e.h27 e.h50 e.h34 e.h7 ok a1 a2 a3 a4 (by omega) 0 0 ?_
  intro u d cS cc M' acc Q k1 k2 k3 hP hQ
  refine tail8 Φ e.h12 e.h13 e.h34 (fun _ => hS) hP hne a4 a5 (by omega) a6 (by omega) u Q ?_
  intro u M2 c' es k e b1 b2 b3 b4 b5 b6 b7 b8
  obtain ⟨rfl, rfl⟩ := b7 hl
  exact hQ u M2 c' es b1 b2 b3 b4 b5 b6
theorem r4D (Φ : Nat → Option CF) (e : R4 Φ) {F : RO} {M : Mem} {c : Nat} (ok : Okm F M c) {s : List UInt8} {l : List (List UInt8)} (h : LabT s l) (hl : l.length = 257) :
    Calls Φ F 4 [sV s] M c fun r M' c' => ∃ es, r = .t [.g es, .i .i64 256, .i .i64 5] ∧ es.length = 3 ∧ allOne es = true ∧ Gr c M c' M' := by
  have hne := h.ne
  obtain ⟨a1, a2, a3, a4, a5, a6⟩ := h
  refine r4m Φ e.h4 e.h9 e.h25 e.h26 e.h49 e.h83 e.h106 e.h10 e.h11 e.h27 e.h50 e.h34 e.h7 ok a1 a2 a3 a4 (by omega) 256 5 ?_
  intro u d cS cc M' acc Q k1 k2 k3 hP hQ
  refine tail8 Φ e.h12 e.h13 e.h34 (fun h => by omega) hP hne a4 a5 (by omega) a6 (by omega) u Q ?_
  intro u M2 c' es k e b1 b2 b3 b4 b5 b6 b7 b8
  obtain ⟨rfl, rfl⟩ := b8 hl
  exact hQ u M2 c' es b1 b2 b3 b4 b5 b6
theorem fnd_no {c : UInt8} : ∀ (l : List UInt8) (i : Nat), (∀ x ∈ l, x ≠ c) → fnd c l i = none
  | [], _, _ => rfl
  | x :: r, i, h => by
    unfold fnd
    rw [if_neg (h x (List.mem_cons_self ..))]
    exact fnd_no r _ fun y hy => h y (List.mem_cons_of_mem _ hy)
theorem end_no {s : List UInt8} (h : ∀ x ∈ s, x ≠ 10) : endB s [10] = false := by
  cases hh : endB s [10] with
  | false => rfl
  | true =>
    unfold endB at hh
    rw [Bool.and_eq_true] at hh
    have h2 : s.drop (s.length - 1) = [10] := of_decide_eq_true hh.2
    exact absurd rfl (h 10 (List.mem_of_mem_drop (i := s.length - 1) (by rw [h2]; exact List.mem_singleton.2 rfl)))
theorem r4h (Φ : Nat → Option CF) (e : R4 Φ) {F : RO} {M : Mem} {c : Nat} (ok : Okm F M c) {s : List UInt8} (hsl : s.length ≤ 131072) (hs : ∀ x ∈ s, x ≠ 10) (hne : s ≠ []) :
    Calls Φ F 4 [sV s] M c fun r M' c' => ∃ es, r = .t [.g es, .i .i64 0, .i .i64 4] ∧ es.length = 3 ∧ allOne es = true ∧ Gr c M c' M' := by
  refine r4m Φ e.h4 e.h9 e.h25 e.h26 e.h49 e.h83 e.h106 e.h10 e.h11 e.h27 e.h50 e.h34 e.h7 ok (l := []) hsl (lns_none s [] 0 (fnd_no s 0 hs)) (fun a h => by cases h) List.nodup_nil (Nat.zero_le _) 0 4 ?_
  intro u d cS cc M' acc Q k1 k2 k3 hP hQ
  obtain ⟨ok', ⟨le1, le2⟩, old, r0, m1, m2, r3, r4, r5, r6, ⟨ab, hA⟩⟩ := hP
  have l5 := load_row (F := F) r5 0
  rw [show ([acc] : List V)[0]? = some acc from rfl] at l5
  have hln : lnL acc = some (.i .i64 0) := (hA.sl (F := F)).len
  simp only [WX, w4_18, w4_19, w4_29, l5, hln]
  obtain ⟨I, hI⟩ : ∃ I : Nat → St → Prop, ∀ n s', I n s' ↔ (∃ (u : List (Option V)), n = 0 ∧ s' = .mk ((.n (.n (.n (.n (uv7 u 63 31 95 15 79 47 111) (some (.p (c + 6) 0)) (uv7 u 71 39 103 23 87 55 119)) (some (.i .i64 0)) (.n (uv7 u 67 35 99 19 83 51 115) (uO u 11) (uv7 u 75 43 107 27 91 59 123))) (uO u 1) (.n (.n (.n (.n (.n .e (some (.i .i64 0)) .e) (uO u 33) (uv1 u 97)) (uO u 17) (uv3 u 81 49 113)) (uO u 9) (uv7 u 73 41 105 25 89 57 121)) (some (.p (c + 4) 0)) (.n (uv7 u 69 37 101 21 85 53 117) (some (.i .i64 0)) (uv7 u 77 45 109 29 93 61 125)))) (some (sV s)) (.n (.n (.n (.n (.n (.n .e (some (acc)) .e) (uO u 32) (uv1 u 96)) (uO u 16) (uv3 u 80 48 112)) (uO u 8) (uv7 u 72 40 104 24 88 56 120)) (some (.i .i64 0)) (.n (uv7 u 68 36 100 20 84 52 116) (uO u 12) (uv7 u 76 44 108 28 92 60 124))) (some (.p c 0)) (.n (.n (.n (.n (.n .e (some (.i .i64 0)) .e) (uO u 34) (uv1 u 98)) (uO u 18) (uv3 u 82 50 114)) (uO u 10) (uv7 u 74 42 106 26 90 58 122)) (some (.p (c + 5) 0)) (.n (uv7 u 70 38 102 22 86 54 118) (some (.i .i64 0)) (uv7 u 78 46 110 30 94 62 126)))))) [d] M' cc) := ⟨fun n s' => _, fun _ _ => Iff.rfl⟩
  refine wp_while I ?_ 0 _ ((hI _ _).2 ⟨[none, _, none, none, none, none, none, none, _, _, _, _, _, none, none, _, _, _, _, _, _, _, _, _, _, _, _, _, _, _, _, _, _, _, _, _, _, _, _, _, _, _, _, _, _, _, _, _, _, _, _, _, _, _, _, _, _, _, _, _, _, _, _, _, none, none, none, _, _, _, _, _, _, _, _, _, _, _, _, _, _, _, _, _, _, _, _, _, _, _, _, _, _, _, _, _, _, _, _, _, _, _, _, _, _, _, _, _, _, _, _, _, _, _, _, _, _, _, _, _, _, _, _, _, _, _, _], rfl, rfl⟩)
  intro n s' hIs
  obtain ⟨u, rfl, rfl⟩ := (hI _ _).1 hIs
  clear hIs
  have d1 : decide ((0 : Int) < 0) = false := rfl
  have s0 : biV .neq (sV s) (.s 0 0) = some (.b true) := sne hne
  have e24 : V.s 1 10 = sV [10] := rfl
  simp only [WX, Int.reduceLT, B4, s0, e24, eq_self]
  refine putE_to ((r13 Φ e.h13 e.h34 s [10] (by omega) (by decide)).mono ?_)
  rintro r M3 c3 ⟨rfl, rfl, rfl⟩
  rw [end_no hs]
  have st := store_row r0 0 [.l0, .l0, .l0] (by simp) rfl
  rw [show over [V.l0, .l0, .l0] 0 [.l0, .l0, .l0] = [.l0, .l0, .l0] from rfl] at st
  have q5 : ∀ d : Decidable ((4 : Int) = 0), @decide ((4 : Int) = 0) d = false := fun d => decide_eq_false (by omega)
  simp only [WX, Int.reduceEq, Nat.reduceAdd, B4, l5, hln, st, ne_eq, eq_self, not_false_eq_true]
  exact hQ [_, _, none, none, none, _, _, _, _, _, _, _, _, _, _, _, _, _, _, _, _, _, _, _, _, _, _, _, _, _, _, _, _, _, _, _, _, _, _, _, _, _, _, _, _, _, _, _, _, _, _, _, _, _, _, _, _, _, _, _, _, _, _, _, _, _, _, _, _, _, _, _, _, _, _, _, _, _, _, _, _, _, _, _, _, _, _, _, _, _, _, _, _, _, _, _, _, _, _, _, _, _, _, _, _, _, _, _, _, _, _, _, _, _, _, _, _, _, _, _, _, _, _, _, _, _, _] _ _ [.l0, .l0, .l0] (ok'.put (by omega) r0) (Nat.le_refl _) (fun y y1 y2 y3 y4 => get_ne _ _ y2) (get_same _ _ _) rfl rfl
theorem r4x (Φ : Nat → Option CF) (h : Φ 4 = some c4) {F : RO} {M : Mem} {c : Nat} (ok : Okm F M c) {s : List UInt8} (hsl : 131072 < s.length) (hs2 : s.length ≤ 1000000) :
    Calls Φ F 4 [sV s] M c fun r M' c' => ∃ es, r = .t [.g es, .i .i64 0, .i .i64 3] ∧ es.length = 3 ∧ allOne es = true ∧ Gr c M c' M' := by
  refine calls_walk h ?_
  have hd : decide ((131072 : Int) < (s.length : Int)) = true := decide_eq_true (by omega)
  simp only [WX, e4, w4_1, w4_61]
  refine wp_scopes scF (fun n l s h => h.elim) 0 _ _ ?_
  have st := store_row (get_same M c (rowB 26 [V.l0, V.l0, V.l0])) 0 [.l0, .l0, .l0] (by simp) rfl
  rw [show over [V.l0, .l0, .l0] 0 [.l0, .l0, .l0] = [.l0, .l0, .l0] from rfl] at st
  have ln := loadN_row (F := F) (get_same (M.set c (rowB 26 [V.l0, V.l0, V.l0])) c (rowB 26 [V.l0, V.l0, V.l0])) 3 rfl
  simp only [WX, Nat.reduceAdd, w4_2, w4_3, w4_4, hd, st, scopeQ_ret, ln]
  exact ⟨_, rfl, rfl, rfl, ((Gr.refl ok).set c _ (Nat.le_refl _) (Nat.lt_succ_self _) (Nat.le_succ _)).set c _ (Nat.le_refl _) (Nat.lt_succ_self _) (Nat.le_refl _)⟩
end Go.Proofs.YtaigcmdogapjgaaGreatDoor.Ev
set_option maxRecDepth 100000
set_option maxHeartbeats 16000000
namespace Go.Proofs.YtaigcmdogapjgaaGreatDoor.Ev
open Go
noncomputable def b3_1 : CC := (.reg [(qq a27 (.mv z2)), (qq a28 (.bi .lss z27 (x6 2)))])
def w3_1 := wu b3_1.eq_1
noncomputable def b3_2 : CC := (.seq b3_1 (.cond z28 .skip (.exit 0)))
def w3_2 := wu b3_2.eq_1
noncomputable def b3_3 : CC := (.reg [(qq a31 (.mv z1)), (qq a32 (.bi .add z31 (.c (.s 12 3160402156561993337255523118)))), (qq a1 (.mv z32))])
def w3_3 := wu b3_3.eq_1
noncomputable def b3_4 : CC := (.reg [(qq a29 (.mv z2)), (qq a30 (.bi .add z29 (x6 1))), (qq a2 (.mv z30))])
def w3_4 := wu b3_4.eq_1
noncomputable def b3_5 : CC := (.seq (.reg [(qq a2 (.mv (x6 0)))]) (.block 0 (.loop (.seq b3_2 (.seq (.block 1 b3_3) b3_4)))))
def w3_5 := wu b3_5.eq_1
noncomputable def b3_6 : CC := (.reg [(qq a34 (.mv z1)), (qq a35 (.bi .add z34 (.c (.s 5 43929333349)))), (ee a36 (.call 4 [z35])), (qq a33 (.mv z36)), (qq a37 (.ex 0 z33)), (qq a38 (.ex 1 z33)), (qq a39 (.ex 2 z33)), (aa a3 (.al 26 [.l0, .l0, .l0])), (ez (.st 3 z3 z37)), (qq a4 (.mv z38)), (qq a5 (.mv z39))])
def w3_6 := wu b3_6.eq_1
noncomputable def b3_7 : CC := (.reg [(qq a41 (.mv z1)), (qq a42 (.bi .add z41 (.c (.s 13 807485555357700638868790079077)))), (ee a43 (.call 4 [z42])), (qq a40 (.mv z43)), (qq a44 (.ex 0 z40)), (qq a45 (.ex 1 z40)), (qq a46 (.ex 2 z40)), (aa a6 (.al 26 [.l0, .l0, .l0])), (ez (.st 3 z6 z44)), (qq a7 (.mv z45)), (qq a8 (.mv z46))])
def w3_7 := wu b3_7.eq_1
noncomputable def b3_8 : CC := (.reg [(qq a48 (.ldn 3 z3)), (ee a49 (.call 5 [z48, (.c (.s 3 6581861))])), (qq a47 (.mv z49)), (qq a50 (.ex 0 z47)), (qq a51 (.ex 1 z47)), (qq a9 (.mv z50)), (qq a10 (.mv z51))])
def w3_8 := wu b3_8.eq_1
noncomputable def b3_9 : CC := (.reg [(qq a11 (.mv (.c (.s 0 0))))])
def w3_9 := wu b3_9.eq_1
noncomputable def b3_10 : CC := (.reg [(qq a12 (.mv (x6 0)))])
def w3_10 := wu b3_10.eq_1
noncomputable def b3_11 : CC := (.reg [(qq a52 (.mv z12)), (qq a53 (.bi .lss z52 (x6 256)))])
def w3_11 := wu b3_11.eq_1
noncomputable def b3_12 : CC := (.seq b3_11 (.cond z53 .skip (.exit 2)))
def w3_12 := wu b3_12.eq_1
noncomputable def b3_13 : CC := (.reg [(qq a56 (.mv z11)), (qq a57 (.bi .add z56 (.c (.s 1 108)))), (qq a58 (.mv z12)), (qq a59 (.bi .quo z58 (x6 16))), (qq a60 (.bi .add (x6 97) z59)), (qq a61 (.ci .u8 z60)), (qq a62 (.mv z12)), (qq a63 (.bi .rem z62 (x6 16))), (qq a64 (.bi .add (x6 97) z63)), (qq a65 (.ci .u8 z64)), (aa a66 (.bsl 5 2 1 [(.i .u8 0)] [(0, z61), (1, z65)])), (qq a67 (.bs z66)), (qq a68 (.bi .add z57 z67)), (qq a69 (.bi .add z68 (.c (.s 2 2618)))), (qq a11 (.mv z69))])
def w3_13 := wu b3_13.eq_1
noncomputable def b3_14 : CC := (.reg [(qq a54 (.mv z12)), (qq a55 (.bi .add z54 (x6 1))), (qq a12 (.mv z55))])
def w3_14 := wu b3_14.eq_1
noncomputable def b3_15 : CC := (.block 2 (.loop (.seq b3_12 (.seq (.block 3 b3_13) b3_14))))
def w3_15 := wu b3_15.eq_1
noncomputable def b3_16 : CC := (.reg [(qq a71 (.mv z11)), (ee a72 (.call 4 [z71])), (qq a70 (.mv z72)), (qq a73 (.ex 0 z70)), (qq a74 (.ex 1 z70)), (qq a75 (.ex 2 z70)), (aa a13 (.al 26 [.l0, .l0, .l0])), (ez (.st 3 z13 z73)), (qq a14 (.mv z74)), (qq a15 (.mv z75))])
def w3_16 := wu b3_16.eq_1
noncomputable def b3_17 : CC := (.reg [(qq a77 (.mv z11)), (qq a78 (.bi .add z77 (.c (.s 6 11245926379373)))), (ee a79 (.call 4 [z78])), (qq a76 (.mv z79)), (qq a80 (.ex 0 z76)), (qq a81 (.ex 1 z76)), (qq a82 (.ex 2 z76)), (aa a16 (.al 26 [.l0, .l0, .l0])), (ez (.st 3 z16 z80)), (qq a17 (.mv z81)), (qq a18 (.mv z82))])
def w3_17 := wu b3_17.eq_1
noncomputable def b3_18 : CC := (.reg [(aa a83 (.mks 5 1 1 [(.i .u8 0)] (x6 131072) (x6 131072))), (qq a19 (.mv z83))])
def w3_18 := wu b3_18.eq_1
noncomputable def b3_19 : CC := (.reg [(qq a20 (.mv (x6 0)))])
def w3_19 := wu b3_19.eq_1
noncomputable def b3_20 : CC := (.reg [(qq a84 (.mv z20)), (qq a85 (.mv z19)), (qq a86 (.ln .slice z85)), (qq a87 (.bi .lss z84 z86))])
def w3_20 := wu b3_20.eq_1
noncomputable def b3_21 : CC := (.cond z87 .skip (.exit 4))
def w3_21 := wu b3_21.eq_1
noncomputable def b3_22 : CC := (.reg [(qq a90 (.mv z19)), (qq a91 (.mv z20)), (qq a92 (.iaS 1 z90 z91)), (ez (.st 1 z92 (.c (.i .u8 35))))])
def w3_22 := wu b3_22.eq_1
noncomputable def b3_23 : CC := (.reg [(qq a88 (.mv z20)), (qq a89 (.bi .add z88 (x6 1))), (qq a20 (.mv z89))])
def w3_23 := wu b3_23.eq_1
noncomputable def b3_24 : CC := (.loop (.seq (.seq b3_20 b3_21) (.seq (.block 5 b3_22) b3_23)))
def w3_24 := wu b3_24.eq_1
noncomputable def b3_25 : CC := (.reg [(qq a94 (.mv z19)), (qq a95 (.bs z94)), (qq a96 (.bi .add z95 (.c (.s 1 35)))), (ee a97 (.call 4 [z96])), (qq a93 (.mv z97)), (qq a98 (.ex 0 z93)), (qq a99 (.ex 1 z93)), (qq a100 (.ex 2 z93)), (aa a21 (.al 26 [.l0, .l0, .l0])), (ez (.st 3 z21 z98)), (qq a22 (.mv z99)), (qq a23 (.mv z100))])
def w3_25 := wu b3_25.eq_1
noncomputable def b3_26 : CC := (.reg [(qq a102 (.mv z19)), (qq a103 (.bs z102)), (ee a104 (.call 4 [z103])), (qq a101 (.mv z104)), (qq a105 (.ex 0 z101)), (qq a106 (.ex 1 z101)), (qq a107 (.ex 2 z101)), (aa a24 (.al 26 [.l0, .l0, .l0])), (ez (.st 3 z24 z105)), (qq a25 (.mv z106)), (qq a26 (.mv z107))])
def w3_26 := wu b3_26.eq_1
noncomputable def b3_27 : CC := (.reg [(qq a108 (.fa 0 z3)), (qq a109 (.ld1 z108)), (qq a110 (.ln .slice z109)), (qq a111 (.bi .eql z110 (x6 8192))), (qq a112 (.mv z111)), ⟨(some a113), .q (.mv z5), (some (a112, true))⟩, ⟨(some a114), .e (.call 6 [z113]), (some (a112, true))⟩, ⟨(some a115), .q (.bi .eql z114 (x6 0)), (some (a112, true))⟩, (qq a116 (.pk z112 z115 xF)), (qq a117 (.mv z116)), ⟨(some a118), .q (.mv z9), (some (a117, true))⟩, ⟨(some a119), .q (.bi .eql z118 (x6 8192)), (some (a117, true))⟩, (qq a120 (.pk z117 z119 xF)), (qq a121 (.mv z120)), ⟨(some a122), .q (.mv z10), (some (a121, true))⟩, (qq a123 (.pk z121 z122 xF)), (qq a124 (.mv z123)), ⟨(some a125), .q (.mv z7), (some (a124, true))⟩, ⟨(some a126), .q (.bi .eql z125 (x6 3)), (some (a124, true))⟩, (qq a127 (.pk z124 z126 xF)), (qq a128 (.mv z127)), ⟨(some a129), .q (.mv z8), (some (a128, true))⟩, ⟨(some a130), .e (.call 6 [z129]), (some (a128, true))⟩, ⟨(some a131), .q (.bi .eql z130 (x6 5)), (some (a128, true))⟩, (qq a132 (.pk z128 z131 xF)), (qq a133 (.mv z132)), ⟨(some a134), .q (.mv z15), (some (a133, true))⟩, ⟨(some a135), .e (.call 6 [z134]), (some (a133, true))⟩, ⟨(some a136), .q (.bi .eql z135 (x6 0)), (some (a133, true))⟩, (qq a137 (.pk z133 z136 xF)), (qq a138 (.mv z137)), ⟨(some a139), .q (.mv z17), (some (a138, true))⟩, ⟨(some a140), .q (.bi .eql z139 (x6 256)), (some (a138, true))⟩, (qq a141 (.pk z138 z140 xF)), (qq a142 (.mv z141)), ⟨(some a143), .q (.mv z18), (some (a142, true))⟩, ⟨(some a144), .e (.call 6 [z143]), (some (a142, true))⟩, ⟨(some a145), .q (.bi .eql z144 (x6 5)), (some (a142, true))⟩, (qq a146 (.pk z142 z145 xF)), (qq a147 (.mv z146)), ⟨(some a148), .q (.mv z22), (some (a147, true))⟩, ⟨(some a149), .q (.bi .eql z148 (x6 0)), (some (a147, true))⟩, (qq a150 (.pk z147 z149 xF)), (qq a151 (.mv z150)), ⟨(some a152), .q (.mv z23), (some (a151, true))⟩, ⟨(some a153), .e (.call 6 [z152]), (some (a151, true))⟩, ⟨(some a154), .q (.bi .eql z153 (x6 3)), (some (a151, true))⟩, (qq a155 (.pk z151 z154 xF)), (qq a156 (.mv z155)), ⟨(some a157), .q (.mv z25), (some (a156, true))⟩, ⟨(some a158), .q (.bi .eql z157 (x6 0)), (some (a156, true))⟩, (qq a159 (.pk z156 z158 xF)), (qq a160 (.mv z159)), ⟨(some a161), .q (.mv z26), (some (a160, true))⟩, ⟨(some a162), .e (.call 6 [z161]), (some (a160, true))⟩, ⟨(some a163), .q (.bi .eql z162 (x6 4)), (some (a160, true))⟩, (qq a164 (.pk z160 z163 xF)), (qq a165 (.mv z164)), ⟨(some a166), .e (.call 7 [(.c (.s 12 33554238638682438954073154145))]), (some (a165, true))⟩, (qq a167 (.pk z165 z166 xF)), (qq a168 (.mv z167)), ⟨(some a169), .e (.call 7 [(.c (.s 13 8669423952693495236650363740769))]), (some (a168, true))⟩, ⟨(some a170), .q (.un .not z169), (some (a168, true))⟩, (qq a171 (.pk z168 z170 xF)), (qq a172 (.mv z171)), ⟨(some a173), .e (.call 7 [(.c (.s 3 6579297))]), (some (a172, true))⟩, ⟨(some a174), .q (.un .not z173), (some (a172, true))⟩, (qq a175 (.pk z172 z174 xF)), (qq a176 (.mv z175)), ⟨(some a177), .e (.call 7 [(.c (.s 0 0))]), (some (a176, true))⟩, ⟨(some a178), .q (.un .not z177), (some (a176, true))⟩, (qq a179 (.pk z176 z178 xF)), (qq a180 (.mv z179)), ⟨(some a181), .e (.call 7 [(.c (.s 2 24881))]), (some (a180, true))⟩, ⟨(some a182), .q (.un .not z181), (some (a180, true))⟩, (qq a183 (.pk z180 z182 xF)), (qq a184 (.mv z183)), ⟨(some a185), .e (.call 7 [(.c (.s 3 3235681))]), (some (a184, true))⟩, (qq a186 (.pk z184 z185 xF)), (qq a187 (.mv z186)), ⟨(some a188), .e (.call 8 []), (some (a187, true))⟩, (qq a189 (.pk z187 z188 xF)), (qq a0 (.mv z189))])
def w3_27 := wu b3_27.eq_1
noncomputable def b3_28 : CC := (.seq (.seq b3_19 (.block 4 b3_24)) (.seq b3_25 (.seq b3_26 (.seq b3_27 .ret))))
def w3_28 := wu b3_28.eq_1
noncomputable def b3_29 : CC := (.seq (.seq b3_10 b3_15) (.seq b3_16 (.seq b3_17 (.seq b3_18 b3_28))))
def w3_29 := wu b3_29.eq_1
noncomputable def b3_30 : CC := (.seq b3_5 (.seq b3_6 (.seq b3_7 (.seq b3_8 (.seq b3_9 b3_29)))))
def w3_30 := wu b3_30.eq_1
noncomputable def b3_31 : CC := (.seq (.reg [(qq a1 (.mv (.c (.s 0 0))))]) b3_30)
def w3_31 := wu b3_31.eq_1
noncomputable def b3_32 : CC := (.seq (.reg [(qq a0 (.mv xF))]) b3_31)
def w3_32 := wu b3_32.eq_1
noncomputable def c3 : CF := .mk 8 [.t a0] b3_32
theorem e3 : argTr 8 [] = sk8 := rfl
def B3 := ai @e3 (ai @w3_1 (ai @w3_2 (ai @w3_3 (ai @w3_4 (ai @w3_5 (ai @w3_6 (ai @w3_7 (ai @w3_8 (ai @w3_9 (ai @w3_10 (ai @w3_11 (ai @w3_12 (ai @w3_13 (ai @w3_14 (ai @w3_15 (ai @w3_16 (ai @w3_17 (ai @w3_18 (ai @w3_19 (ai @w3_20 (ai @w3_21 (ai @w3_22 (ai @w3_23 (ai @w3_24 (ai @w3_25 (ai @w3_26 (ai @w3_27 (ai @w3_28 (ai @w3_29 (ai @w3_30 (ai @w3_31 (@w3_32))))))))))))))))))))))))))))))))
def nmC : List (List UInt8) := (List.range 256).map fun i => [108, UInt8.ofNat (97 + i / 16), UInt8.ofNat (97 + i % 16)]
def moreL : List UInt8 := [109, 111, 114, 101]
def txC : List UInt8 := nmC.flatMap fun a => a ++ [58, 10]
def txD : List UInt8 := txC ++ [109, 111, 114, 101, 58, 10]
theorem nmC_len : nmC.length = 256 := by unfold nmC; rw [List.length_map, List.length_range]
theorem nodC : nmC.Nodup := by
  unfold nmC
  rw [List.Nodup, List.pairwise_map]
  refine List.Pairwise.imp_of_mem ?_ (List.pairwise_lt_range (n := 256))
  intro a b ha hb hlt he
  rw [List.mem_range] at ha hb
  injection he with _ h1
  injection h1 with h1 h2
  injection h2 with h2 _
  have h3 := congrArg UInt8.toNat h1
  have h4 := congrArg UInt8.toNat h2
  rw [UInt8.toNat_ofNat', UInt8.toNat_ofNat'] at h3 h4
  omega
theorem lenC (a : List UInt8) (h : a ∈ nmC) : a.length = 3 := by
  obtain ⟨i, _, rfl⟩ := List.mem_map.1 h; rfl
theorem okC : nmC.all labelOk = true := by decide +kernel
theorem txC_len : txC.length = 1280 := by decide +kernel
theorem txD_len : txD.length = 1286 := by decide +kernel
theorem lnC : lns txC = nmC.map fun a => a ++ [58] := by decide +kernel
theorem lnD : lns txD = (nmC ++ [moreL]).map fun a => a ++ [58] := by decide +kernel
theorem enC : endB txC [10] = true := by decide +kernel
theorem enD : endB txD [10] = true := by decide +kernel
theorem labC : LabT txC nmC := ⟨by rw [txC_len]; omega, lnC, List.all_eq_true.1 okC, nodC, by rw [nmC_len]; omega, enC⟩
theorem labD : LabT txD (nmC ++ [moreL]) := by
  refine ⟨by rw [txD_len]; omega, lnD, fun a ha => ?_, ?_, by rw [List.length_append, nmC_len]; decide, enD⟩
  · rcases List.mem_append.1 ha with h | h
    · exact List.all_eq_true.1 okC a h
    · rw [List.mem_singleton] at h; subst h; decide +kernel
  · refine List.nodup_append.2 ⟨nodC, by simp, fun a ha b hb e => ?_⟩
    rw [List.mem_singleton] at hb
    have := lenC a ha
    rw [e, hb] at this
    exact absurd this (by decide)
def hsh : List UInt8 := List.replicate 131072 35
theorem hsh_len : hsh.length = 131072 := List.length_replicate ..
theorem hsh_ne (x : UInt8) (h : x ∈ hsh) : x ≠ 10 := by
  have := List.eq_of_mem_replicate h
  rw [this]; decide
noncomputable def pre3 (Φ : Nat → Option CF) (F : RO) : Option St :=
  runS Φ 1000000 3 F (.seq b3_10 b3_15) (runS Φ 1000000 3 F b3_9 (runS Φ 1000000 3 F b3_8 (runS Φ 1000000 3 F b3_7 (runS Φ 1000000 3 F b3_6 (runS Φ 1000000 3 F b3_5 (runS Φ 1000000 3 F (.reg [(qq a1 (.mv (.c (.s 0 0))))]) (runS Φ 1000000 3 F (.reg [(qq a0 (.mv xF))]) (some (.mk (argTr 8 []) [] .e 1002)))))))))
def fullT : Nat → T → Bool
  | 0, .e => true
  | 0, .n _ _ _ => false
  | _ + 1, .e => false
  | n + 1, .n l _ r => fullT n l && fullT n r
def mkT : Nat → (Nat → Option V) → T
  | 0, _ => .e
  | n + 1, f => .n (mkT n fun i => f (2 * i + 1)) (f 0) (mkT n fun i => f (2 * i + 2))
theorem fullT_mk : ∀ (n : Nat) (t : T), fullT n t = true → t = mkT n fun i => t.get i
  | 0, .e, _ => rfl
  | 0, .n _ _ _, h => by cases h
  | _ + 1, .e, h => by cases h
  | n + 1, .n l v r, h => by
    have h' : (fullT n l && fullT n r) = true := h
    rw [Bool.and_eq_true] at h'
    have h1 := fullT_mk n l h'.1
    have h2 := fullT_mk n r h'.2
    show _ = Tr.n (mkT n fun i => (Tr.n l v r).get (2 * i + 1)) ((Tr.n l v r).get 0) (mkT n fun i => (Tr.n l v r).get (2 * i + 2))
    have e1 : (fun i => (Tr.n l v r).get (2 * i + 1)) = fun i => l.get i := funext fun i => by
      rw [Tr.get_n, if_neg (by omega), if_neg (by omega), show (2 * i + 1) / 2 = i by omega]
    have e2 : (fun i => (Tr.n l v r).get (2 * i + 2)) = fun i => r.get i := funext fun i => by
      rw [Tr.get_n, if_neg (by omega), if_pos (by omega), show (2 * i + 2) / 2 - 1 = i by omega]
    rw [e1, e2, ← h1, ← h2]; rfl
theorem full3 (t : T) (h : fullT 8 t = true) : ∃ u : List (Option V), t = (.n (.n (.n (.n (.n (uv7 u 127 63 191 31 159 95 223) (uO u 15) (uv7 u 143 79 207 47 175 111 239)) (uO u 7) (.n (uv7 u 135 71 199 39 167 103 231) (uO u 23) (uv7 u 151 87 215 55 183 119 247))) (uO u 3) (.n (.n (uv7 u 131 67 195 35 163 99 227) (uO u 19) (uv7 u 147 83 211 51 179 115 243)) (uO u 11) (.n (uv7 u 139 75 203 43 171 107 235) (uO u 27) (uv7 u 155 91 219 59 187 123 251)))) (uO u 1) (.n (.n (.n (uv7 u 129 65 193 33 161 97 225) (uO u 17) (uv7 u 145 81 209 49 177 113 241)) (uO u 9) (.n (uv7 u 137 73 201 41 169 105 233) (uO u 25) (uv7 u 153 89 217 57 185 121 249))) (uO u 5) (.n (.n (uv7 u 133 69 197 37 165 101 229) (uO u 21) (uv7 u 149 85 213 53 181 117 245)) (uO u 13) (.n (uv7 u 141 77 205 45 173 109 237) (uO u 29) (uv7 u 157 93 221 61 189 125 253))))) (uO u 0) (.n (.n (.n (.n (uv7 u 128 64 192 32 160 96 224) (uO u 16) (uv7 u 144 80 208 48 176 112 240)) (uO u 8) (.n (uv7 u 136 72 200 40 168 104 232) (uO u 24) (uv7 u 152 88 216 56 184 120 248))) (uO u 4) (.n (.n (uv7 u 132 68 196 36 164 100 228) (uO u 20) (uv7 u 148 84 212 52 180 116 244)) (uO u 12) (.n (uv7 u 140 76 204 44 172 108 236) (uO u 28) (uv7 u 156 92 220 60 188 124 252)))) (uO u 2) (.n (.n (.n (uv7 u 130 66 194 34 162 98 226) (uO u 18) (uv7 u 146 82 210 50 178 114 242)) (uO u 10) (.n (uv7 u 138 74 202 42 170 106 234) (uO u 26) (uv7 u 154 90 218 58 186 122 250))) (uO u 6) (.n (.n (uv7 u 134 70 198 38 166 102 230) (uO u 22) (uv7 u 150 86 214 54 182 118 246)) (uO u 14) (.n (uv7 u 142 78 206 46 174 110 238) (uO u 30) (uv7 u 158 94 222 62 190 126 254)))))) ∧ uO u 3 = t.get 3 ∧ uO u 5 = t.get 5 ∧ uO u 7 = t.get 7 ∧ uO u 8 = t.get 8 ∧ uO u 9 = t.get 9 ∧ uO u 10 = t.get 10 ∧ uO u 11 = t.get 11 :=
  ⟨[t.get 0, t.get 1, t.get 2, t.get 3, t.get 4, t.get 5, t.get 6, t.get 7, t.get 8, t.get 9, t.get 10, t.get 11, t.get 12, t.get 13, t.get 14, t.get 15, t.get 16, t.get 17, t.get 18, t.get 19, t.get 20, t.get 21, t.get 22, t.get 23, t.get 24, t.get 25, t.get 26, t.get 27, t.get 28, t.get 29, t.get 30, t.get 31, t.get 32, t.get 33, t.get 34, t.get 35, t.get 36, t.get 37, t.get 38, t.get 39, t.get 40, t.get 41, t.get 42, t.get 43, t.get 44, t.get 45, t.get 46, t.get 47, t.get 48, t.get 49, t.get 50, t.get 51, t.get 52, t.get 53, t.get 54, t.get 55, t.get 56, t.get 57, t.get 58, t.get 59, t.get 60, t.get 61, t.get 62, t.get 63, t.get 64, t.get 65, t.get 66, t.get 67, t.get 68, t.get 69, t.get 70, t.get 71, t.get 72, t.get 73, t.get 74, t.get 75, t.get 76, t.get 77, t.get 78, t.get 79, t.get 80, t.get 81, t.get 82, t.get 83, t.get 84, t.get 85, t.get 86, t.get 87, t.get 88, t.get 89, t.get 90, t.get 91, t.get 92, t.get 93, t.get 94, t.get 95, t.get 96, t.get 97, t.get 98, t.get 99, t.get 100, t.get 101, t.get 102, t.get 103, t.get 104, t.get 105, t.get 106, t.get 107, t.get 108, t.get 109, t.get 110, t.get 111, t.get 112, t.get 113, t.get 114, t.get 115, t.get 116, t.get 117, t.get 118, t.get 119, t.get 120, t.get 121, t.get 122, t.get 123, t.get 124, t.get 125, t.get 126, t.get 127, t.get 128, t.get 129, t.get 130, t.get 131, t.get 132, t.get 133, t.get 134, t.get 135, t.get 136, t.get 137, t.get 138, t.get 139, t.get 140, t.get 141, t.get 142, t.get 143, t.get 144, t.get 145, t.get 146, t.get 147, t.get 148, t.get 149, t.get 150, t.get 151, t.get 152, t.get 153, t.get 154, t.get 155, t.get 156, t.get 157, t.get 158, t.get 159, t.get 160, t.get 161, t.get 162, t.get 163, t.get 164, t.get 165, t.get 166, t.get 167, t.get 168, t.get 169, t.get 170, t.get 171, t.get 172, t.get 173, t.get 174, t.get 175, t.get 176, t.get 177, t.get 178, t.get 179, t.get 180, t.get 181, t.get 182, t.get 183, t.get 184, t.get 185, t.get 186, t.get 187, t.get 188, t.get 189, t.get 190, t.get 191, t.get 192, t.get 193, t.get 194, t.get 195, t.get 196, t.get 197, t.get 198, t.get 199, t.get 200, t.get 201, t.get 202, t.get 203, t.get 204, t.get 205, t.get 206, t.get 207, t.get 208, t.get 209, t.get 210, t.get 211, t.get 212, t.get 213, t.get 214, t.get 215, t.get 216, t.get 217, t.get 218, t.get 219, t.get 220, t.get 221, t.get 222, t.get 223, t.get 224, t.get 225, t.get 226, t.get 227, t.get 228, t.get 229, t.get 230, t.get 231, t.get 232, t.get 233, t.get 234, t.get 235, t.get 236, t.get 237, t.get 238, t.get 239, t.get 240, t.get 241, t.get 242, t.get 243, t.get 244, t.get 245, t.get 246, t.get 247, t.get 248, t.get 249, t.get 250, t.get 251, t.get 252, t.get 253, t.get 254], (fullT_mk 8 t h).trans rfl, rfl, rfl, rfl, rfl, rfl, rfl, rfl⟩
noncomputable def bndT : Mem → Nat → Bool
  | .e, _ => true
  | .n l v r, n => (v.isNone || Nat.blt 0 n) && (bndT l (Nat.div n 2) && bndT r (Nat.div (Nat.sub n 1) 2))
theorem bndT_get : ∀ (M : Mem) (n : Nat), bndT M n = true → ∀ b, n ≤ b → M.get b = none
  | .e, _, _, b, _ => rfl
  | .n l v r, n, h, b, hb => by
    have h' : ((v.isNone || Nat.blt 0 n) && (bndT l (n / 2) && bndT r ((n - 1) / 2))) = true := h
    rw [Bool.and_eq_true, Bool.and_eq_true] at h'
    obtain ⟨h0, h1, h2⟩ := h'
    rw [Tr.get_n]
    split
    · rename_i hz
      subst hz
      rw [bltN, decide_eq_false (by omega), Bool.or_false] at h0
      cases v with
      | none => rfl
      | some x => cases h0
    · split
      · exact bndT_get r _ h2 _ (by omega)
      · exact bndT_get l _ h1 _ (by omega)
theorem roFree_get (M : Mem) : ∀ F : RO, roFree M F = true → ∀ b, (roGet F b).isSome → M.get b = none
  | [], _, b, h => by cases h
  | (x, blk) :: F, h, b, hb => by
    rw [roFree_cons] at h
    have hb' : (Bool.rec (motive := fun _ => Option Blk) (roGet F b) (some blk) (Nat.beq x b)).isSome = true := hb
    cases hx : M.get x with
    | some y => rw [hx] at h; cases h
    | none =>
      rw [hx] at h
      rw [bb, beqN] at hb'
      by_cases e : x = b
      · subst e; exact hx
      · rw [if_neg (by simpa using e)] at hb'
        exact roFree_get M F h b hb'
noncomputable def roLow : RO → Bool
  | [] => true
  | (b, _) :: r => Nat.blt b 1000 && roLow r
theorem roLow_get : ∀ F : RO, roLow F = true → ∀ b, 1000 ≤ b → roGet F b = none
  | [], _, b, _ => rfl
  | (x, blk) :: F, h, b, hb => by
    have h' : (Nat.blt x 1000 && roLow F) = true := h
    rw [Bool.and_eq_true, bltN] at h'
    have hx := of_decide_eq_true h'.1
    show Bool.rec (motive := fun _ => Option Blk) (roGet F b) (some blk) (Nat.beq x b) = none
    rw [bb, beqN, if_neg (by simpa using (show x ≠ b by omega))]
    exact roLow_get F h'.2 b hb
def ckI : Option V → Nat → Bool
  | some (.i .i64 (.ofNat m)), n => Nat.beq m n
  | _, _ => false
theorem ckI_of {o : Option V} {n : Nat} (h : ckI o n = true) : o = some (.i .i64 (n : Int)) := by
  unfold ckI at h
  split at h
  · rw [beqN] at h; rw [of_decide_eq_true h]; rfl
  · cases h
def ckB : Option V → Bool
  | some (.b true) => true
  | _ => false
theorem ckB_of {o : Option V} (h : ckB o = true) : o = some (.b true) := by
  unfold ckB at h
  split at h
  · rfl
  · cases h
def ckT : Option V → Nat → Nat → Bool
  | some (.s n x), m, y => Nat.beq n m && Nat.beq x y
  | _, _, _ => false
theorem ckT_of {o : Option V} {m y : Nat} (h : ckT o m y = true) : o = some (.s m y) := by
  unfold ckT at h
  split at h
  · rw [Bool.and_eq_true, beqN, beqN] at h
    rw [of_decide_eq_true h.1, of_decide_eq_true h.2]
  · cases h
noncomputable def chkP (F : RO) (M : Mem) : Option V → Bool
  | some (.p b o) => Nat.beq o 0 && ((M.get b).isSome && ckI ((load1 F M b 0).bind lnL) 8192)
  | _ => false
theorem chkP_of {F : RO} {M : Mem} {o : Option V} (h : chkP F M o = true) : ∃ b v, o = some (.p b 0) ∧ (M.get b).isSome = true ∧ load1 F M b 0 = some v ∧ lnL v = some (.i .i64 8192) := by
  unfold chkP at h
  split at h
  · rename_i b o
    rw [Bool.and_eq_true, Bool.and_eq_true, beqN] at h
    obtain ⟨h1, h2, h3⟩ := h
    obtain rfl := of_decide_eq_true h1
    obtain ⟨v, hv, hl⟩ := Option.bind_eq_some_iff.1 (ckI_of h3)
    exact ⟨b, v, rfl, h2, hv, hl⟩
  · cases h
noncomputable def chk3 (F : RO) : Option St → Bool
  | some (.mk t [] M c) => fullT 8 t && (bndT M c && (roFree M F && (roLow F && (Nat.ble 1000 c && (ckI (t.get 5) 0 && (ckI (t.get 7) 3 && (ckI (t.get 8) 5 && (ckI (t.get 9) 8192 && (ckB (t.get 10) && (ckT (t.get 11) txC.length (strN txC) && chkP F M (t.get 3)))))))))))
  | _ => false
theorem pre_walk (Φ : Nat → Option CF) {F : RO} {s : St} (h : pre3 Φ F = some s) {Q : Ex → St → Prop} (hq : Wp (.seq b3_16 (.seq b3_17 (.seq b3_18 b3_28))) (K Φ none 3 F) s Q) : Wp b3_32 (K Φ none 3 F) (.mk (argTr 8 []) [] .e 1002) Q := by
  unfold pre3 at h
  obtain ⟨s8, h, w8⟩ := runS_some h
  obtain ⟨s7, h, w7⟩ := runS_some h
  obtain ⟨s6, h, w6⟩ := runS_some h
  obtain ⟨s5, h, w5⟩ := runS_some h
  obtain ⟨s4, h, w4⟩ := runS_some h
  obtain ⟨s3, h, w3⟩ := runS_some h
  obtain ⟨s2, h, w2⟩ := runS_some h
  obtain ⟨s1, h, w1⟩ := runS_some h
  obtain rfl := Option.some.inj h
  have sq : ∀ (a b : CC) (s : St) (Q : Ex → St → Prop), Wp a (K Φ none 3 F) s (seqQ b (K Φ none 3 F) Q) → Wp (.seq a b) (K Φ none 3 F) s Q := fun a b s Q h => by rw [wp_seq]; exact h
  show Wp (.seq (.reg [(qq a0 (.mv xF))]) (.seq (.reg [(qq a1 (.mv (.c (.s 0 0))))]) (.seq b3_5 (.seq b3_6 (.seq b3_7 (.seq b3_8 (.seq b3_9 (.seq (.seq b3_10 b3_15) (.seq b3_16 (.seq b3_17 (.seq b3_18 b3_28))))))))))) _ _ _
  refine sq _ _ _ _ (w1 _ ?_)
  refine sq _ _ _ _ (w2 _ ?_)
  refine sq _ _ _ _ (w3 _ ?_)
  refine sq _ _ _ _ (w4 _ ?_)
  refine sq _ _ _ _ (w5 _ ?_)
  refine sq _ _ _ _ (w6 _ ?_)
  refine sq _ _ _ _ (w7 _ ?_)
  exact sq _ _ _ _ (w8 _ hq)
end Go.Proofs.YtaigcmdogapjgaaGreatDoor.Ev
set_option maxRecDepth 100000
set_option maxHeartbeats 16000000
namespace Go.Proofs.YtaigcmdogapjgaaGreatDoor.Ev
open Go
noncomputable def rowC : Blk := rowU 55 (lbE nmC).flatten
theorem l3a (Φ : Nat → Option CF) (e : R4 Φ) {F : RO}
    (hS : ∀ M c b, M.get b = some (rowU 55 (lbE nmC).flatten) → Calls Φ F 14 [.u b 0 nmC.length 0 nmC.length, .f 15 [] []] M c fun r M' c' => M' = M ∧ c' = c)
    {M : Mem} {c b3 : Nat} {vb : V} (ok : Okm F M c) (hb : b3 < c) (hl3 : load1 F M b3 0 = some vb) (hv : lnL vb = some (.i .i64 8192)) (u : List (Option V)) (Q : Ex → St → Prop)
    (hQ : ∀ (u : List (Option V)) M' c', Okm F M' c' → load1 F M' b3 0 = some vb → Wp b3_27 (K Φ none 3 F) (.mk ((.n (.n (.n (.n (.n (uv7 u 127 63 191 31 159 95 223) (some (.i .i64 0)) (uv7 u 143 79 207 47 175 111 239)) (some (.i .i64 3)) (.n (uv7 u 135 71 199 39 167 103 231) (some (.i .i64 3)) (uv7 u 151 87 215 55 183 119 247))) (some (.p b3 0)) (.n (.n (uv7 u 131 67 195 35 163 99 227) (uO u 19) (uv7 u 147 83 211 51 179 115 243)) (uO u 11) (.n (uv7 u 139 75 203 43 171 107 235) (uO u 27) (uv7 u 155 91 219 59 187 123 251)))) (uO u 1) (.n (.n (.n (uv7 u 129 65 193 33 161 97 225) (some (.i .i64 256)) (uv7 u 145 81 209 49 177 113 241)) (some (.i .i64 8192)) (.n (uv7 u 137 73 201 41 169 105 233) (some (.i .i64 0)) (uv7 u 153 89 217 57 185 121 249))) (some (.i .i64 0)) (.n (.n (uv7 u 133 69 197 37 165 101 229) (uO u 21) (uv7 u 149 85 213 53 181 117 245)) (uO u 13) (.n (uv7 u 141 77 205 45 173 109 237) (uO u 29) (uv7 u 157 93 221 61 189 125 253))))) (uO u 0) (.n (.n (.n (.n (uv7 u 128 64 192 32 160 96 224) (uO u 16) (uv7 u 144 80 208 48 176 112 240)) (some (.i .i64 5)) (.n (uv7 u 136 72 200 40 168 104 232) (uO u 24) (uv7 u 152 88 216 56 184 120 248))) (uO u 4) (.n (.n (uv7 u 132 68 196 36 164 100 228) (uO u 20) (uv7 u 148 84 212 52 180 116 244)) (uO u 12) (.n (uv7 u 140 76 204 44 172 108 236) (uO u 28) (uv7 u 156 92 220 60 188 124 252)))) (uO u 2) (.n (.n (.n (uv7 u 130 66 194 34 162 98 226) (some (.i .i64 5)) (uv7 u 146 82 210 50 178 114 242)) (some (.b true)) (.n (uv7 u 138 74 202 42 170 106 234) (some (.i .i64 4)) (uv7 u 154 90 218 58 186 122 250))) (uO u 6) (.n (.n (uv7 u 134 70 198 38 166 102 230) (some (.i .i64 0)) (uv7 u 150 86 214 54 182 118 246)) (uO u 14) (.n (uv7 u 142 78 206 46 174 110 238) (uO u 30) (uv7 u 158 94 222 62 190 126 254))))))) [] M' c') (seqQ .ret (K Φ none 3 F) Q)) :
    Wp (.seq b3_16 (.seq b3_17 (.seq b3_18 b3_28))) (K Φ none 3 F) (.mk ((.n (.n (.n (.n (.n (uv7 u 127 63 191 31 159 95 223) (uO u 15) (uv7 u 143 79 207 47 175 111 239)) (some (.i .i64 3)) (.n (uv7 u 135 71 199 39 167 103 231) (uO u 23) (uv7 u 151 87 215 55 183 119 247))) (some (.p b3 0)) (.n (.n (uv7 u 131 67 195 35 163 99 227) (uO u 19) (uv7 u 147 83 211 51 179 115 243)) (some (sV txC)) (.n (uv7 u 139 75 203 43 171 107 235) (uO u 27) (uv7 u 155 91 219 59 187 123 251)))) (uO u 1) (.n (.n (.n (uv7 u 129 65 193 33 161 97 225) (uO u 17) (uv7 u 145 81 209 49 177 113 241)) (some (.i .i64 8192)) (.n (uv7 u 137 73 201 41 169 105 233) (uO u 25) (uv7 u 153 89 217 57 185 121 249))) (some (.i .i64 0)) (.n (.n (uv7 u 133 69 197 37 165 101 229) (uO u 21) (uv7 u 149 85 213 53 181 117 245)) (uO u 13) (.n (uv7 u 141 77 205 45 173 109 237) (uO u 29) (uv7 u 157 93 221 61 189 125 253))))) (uO u 0) (.n (.n (.n (.n (uv7 u 128 64 192 32 160 96 224) (uO u 16) (uv7 u 144 80 208 48 176 112 240)) (some (.i .i64 5)) (.n (uv7 u 136 72 200 40 168 104 232) (uO u 24) (uv7 u 152 88 216 56 184 120 248))) (uO u 4) (.n (.n (uv7 u 132 68 196 36 164 100 228) (uO u 20) (uv7 u 148 84 212 52 180 116 244)) (uO u 12) (.n (uv7 u 140 76 204 44 172 108 236) (uO u 28) (uv7 u 156 92 220 60 188 124 252)))) (uO u 2) (.n (.n (.n (uv7 u 130 66 194 34 162 98 226) (uO u 18) (uv7 u 146 82 210 50 178 114 242)) (some (.b true)) (.n (uv7 u 138 74 202 42 170 106 234) (uO u 26) (uv7 u 154 90 218 58 186 122 250))) (uO u 6) (.n (.n (uv7 u 134 70 198 38 166 102 230) (uO u 22) (uv7 u 150 86 214 54 182 118 246)) (uO u 14) (.n (uv7 u 142 78 206 46 174 110 238) (uO u 30) (uv7 u 158 94 222 62 190 126 254))))))) [] M c) Q := by
  have ov : ∀ es : List V, es.length = 3 → over [V.l0, .l0, .l0] 0 es = es := fun es h => over_full _ _ h
  simp only [WX, w3_16]
  refine putE_to ((r4C Φ e ok labC (by rw [nmC_len]; omega) hS).mono ?_)
  rintro r M1 c1 ⟨es1, rfl, n1, n2, g1⟩
  have ok1 := g1.ok ok
  have st1 := store_row (get_same M1 c1 (rowB 26 [.l0, .l0, .l0])) 0 es1 (by show 0 + es1.length ≤ 3; omega) n2
  rw [ov es1 n1] at st1
  simp only [WX, w3_17, n1, st1]
  have hadd : biV .add (sV txC) (.s 6 11245926379373) = some (sV txD) := bi_scat txC [109, 111, 114, 101, 58, 10] (by rw [txC_len]; decide)
  have gX : Gr c1 M1 (c1 + 1) ((M1.set c1 (rowB 26 [.l0, .l0, .l0])).set c1 (rowB 26 es1)) := ((Gr.refl ok1).set c1 _ (Nat.le_refl _) (Nat.lt_succ_self _) (Nat.le_succ _)).set c1 _ (Nat.le_refl _) (Nat.lt_succ_self _) (Nat.le_refl _)
  have gA := g1.trans gX
  generalize (M1.set c1 (rowB 26 [.l0, .l0, .l0])).set c1 (rowB 26 es1) = MA at gA ⊢
  have okA := gA.ok ok
  simp only [WX, hadd]
  refine putE_to ((r4D Φ e okA labD (by rw [List.length_append, nmC_len]; rfl)).mono ?_)
  rintro r M2 c2 ⟨es2, rfl, n3, n4, g2⟩
  have ok2 := g2.ok okA
  have st2 := store_row (get_same M2 c2 (rowB 26 [.l0, .l0, .l0])) 0 es2 (by show 0 + es2.length ≤ 3; omega) n4
  rw [ov es2 n3] at st2
  simp only [WX, n3, st2]
  have gX2 : Gr c2 M2 (c2 + 1) ((M2.set c2 (rowB 26 [.l0, .l0, .l0])).set c2 (rowB 26 es2)) := ((Gr.refl ok2).set c2 _ (Nat.le_refl _) (Nat.lt_succ_self _) (Nat.le_succ _)).set c2 _ (Nat.le_refl _) (Nat.lt_succ_self _) (Nat.le_refl _)
  have gB := (gA.trans g2).trans gX2
  generalize (M2.set c2 (rowB 26 [.l0, .l0, .l0])).set c2 (rowB 26 es2) = MB at gB ⊢
  have okB := gB.ok ok
  have hmk : mksA 5 1 1 [.i .u8 0] (.i .i64 131072) (.i .i64 131072) (c2 + 1) = some (.l (c2 + 1) 0 131072 131072, .cells 5 131072 true 0 false [.i .u8 0] .e) := mksA_i 5 1 1 [.i .u8 0] .i64 .i64 131072 131072 (c2 + 1) (Nat.le_refl _) (by omega)
  simp only [WX, Nat.reduceAdd, w3_18, w3_19, w3_24, w3_28, hmk]
  obtain ⟨I, hI⟩ : ∃ I : Nat → St → Prop, ∀ n s', I n s' ↔ (∃ (i : Nat) (t : Ev.T) (u : List (Option V)), n = 131072 - i ∧ i ≤ 131072 ∧ s' = .mk ((.n (.n (.n (.n (.n (uv7 u 127 63 191 31 159 95 223) (some (.i .i64 0)) (uv7 u 143 79 207 47 175 111 239)) (some (.i .i64 3)) (.n (uv7 u 135 71 199 39 167 103 231) (uO u 23) (uv7 u 151 87 215 55 183 119 247))) (some (.p b3 0)) (.n (.n (uv7 u 131 67 195 35 163 99 227) (some (.l (c2 + 1) 0 131072 131072)) (uv7 u 147 83 211 51 179 115 243)) (uO u 11) (.n (uv7 u 139 75 203 43 171 107 235) (uO u 27) (uv7 u 155 91 219 59 187 123 251)))) (uO u 1) (.n (.n (.n (uv7 u 129 65 193 33 161 97 225) (some (.i .i64 256)) (uv7 u 145 81 209 49 177 113 241)) (some (.i .i64 8192)) (.n (uv7 u 137 73 201 41 169 105 233) (uO u 25) (uv7 u 153 89 217 57 185 121 249))) (some (.i .i64 0)) (.n (.n (uv7 u 133 69 197 37 165 101 229) (uO u 21) (uv7 u 149 85 213 53 181 117 245)) (uO u 13) (.n (uv7 u 141 77 205 45 173 109 237) (uO u 29) (uv7 u 157 93 221 61 189 125 253))))) (uO u 0) (.n (.n (.n (.n (uv7 u 128 64 192 32 160 96 224) (uO u 16) (uv7 u 144 80 208 48 176 112 240)) (some (.i .i64 5)) (.n (uv7 u 136 72 200 40 168 104 232) (uO u 24) (uv7 u 152 88 216 56 184 120 248))) (uO u 4) (.n (.n (uv7 u 132 68 196 36 164 100 228) (some (.i .i64 (i : Int))) (uv7 u 148 84 212 52 180 116 244)) (uO u 12) (.n (uv7 u 140 76 204 44 172 108 236) (uO u 28) (uv7 u 156 92 220 60 188 124 252)))) (uO u 2) (.n (.n (.n (uv7 u 130 66 194 34 162 98 226) (some (.i .i64 5)) (uv7 u 146 82 210 50 178 114 242)) (some (.b true)) (.n (uv7 u 138 74 202 42 170 106 234) (uO u 26) (uv7 u 154 90 218 58 186 122 250))) (uO u 6) (.n (.n (uv7 u 134 70 198 38 166 102 230) (uO u 22) (uv7 u 150 86 214 54 182 118 246)) (uO u 14) (.n (uv7 u 142 78 206 46 174 110 238) (uO u 30) (uv7 u 158 94 222 62 190 126 254))))))) [] (MB.set (c2 + 1) (.cells 5 131072 true 0 false [.i .u8 0] t)) (c2 + 2) ∧ ∀ k, k < 131072 → cell 131072 [V.i .u8 0] t k = some (if k < i then bV 35 else .i .u8 0)) := ⟨fun n s' => _, fun _ _ => Iff.rfl⟩
  refine wp_while I ?_ 131072 _ ((hI _ _).2 ⟨0, .e, [_, _, _, none, _, none, _, none, none, none, none, _, _, _, _, none, _, none, none, none, none, _, _, _, _, _, _, _, _, _, _, _, _, _, _, _, _, _, _, _, _, _, _, _, _, _, _, _, _, _, _, _, _, _, _, _, _, _, _, _, _, _, _, _, _, _, _, _, _, _, _, _, _, _, _, _, _, _, _, _, _, _, _, _, _, _, _, _, _, _, _, _, _, _, _, _, _, _, _, _, _, _, _, _, _, _, _, _, _, _, _, _, _, _, _, _, _, _, _, _, _, _, _, _, _, _, _, _, _, _, _, _, _, _, _, _, _, _, _, _, _, _, _, _, _, _, _, _, _, _, _, _, _, _, _, _, _, _, _, _, _, _, _, _, _, _, _, _, _, _, _, _, _, _, _, _, _, _, _, _, _, _, _, _, _, _, _, _, _, _, _, _, _, _, _, _, _, _, _, _, _, _, _, _, _, _, _, _, _, _, _, _, _, _, _, _, _, _, _, _, _, _, _, _, _, _, _, _, _, _, _, _, _, _, _, _, _, _, _, _, _, _, _, _, _, _, _, _, _, _, _, _, _, _, _], rfl, Nat.zero_le _, rfl, fun k hk => by rw [cell_eq, if_pos hk, if_neg (by omega)]; show [V.i .u8 0][k % 1]? = _; rw [Nat.mod_one]; rfl⟩)
  intro n s' hIs
  obtain ⟨i, t, u, rfl, hi, rfl, hc⟩ := (hI _ _).1 hIs
  clear hIs
  have q8 : biV .add (.i .i64 (i : Int)) (.i .i64 1) = some (.i .i64 ((i + 1 : Nat) : Int)) := by rw [i64_add _ _ (by omega) (by omega)]; simp
  by_cases hlt : i < 131072
  · have d1 : decide ((i : Int) < ((131072 : Nat) : Int)) = true := decide_eq_true (by omega)
    have hia := iaS_l 1 (c2 + 1) 0 131072 131072 i .i64 hlt
    rw [Nat.zero_add, Nat.mul_one] at hia
    have st := storeN_of (M := MB.set (c2 + 1) (.cells 5 131072 true 0 false [.i .u8 0] t)) (b := c2 + 1) (o := i) (vs := [V.i .u8 35]) (get_same _ _ _) (by simp only [List.length_cons, List.length_nil]; omega) (Nat.zero_le _) rfl
    rw [set_set] at st
    simp only [WX, w3_20, w3_21, w3_22, w3_23, d1, hia, st, q8]
    refine ⟨131072 - (i + 1), by omega, (hI _ _).2 ⟨i + 1, _, [_, _, _, none, _, none, _, none, none, none, none, _, _, _, _, none, _, none, none, none, none, _, _, _, _, _, _, _, _, _, _, _, _, _, _, _, _, _, _, _, _, _, _, _, _, _, _, _, _, _, _, _, _, _, _, _, _, _, _, _, _, _, _, _, _, _, _, _, _, _, _, _, _, _, _, _, _, _, _, _, _, _, _, _, _, _, _, _, _, _, _, _, _, _, _, _, _, _, _, _, _, _, _, _, _, _, _, _, _, _, _, _, _, _, _, _, _, _, _, _, _, _, _, _, _, _, _, _, _, _, _, _, _, _, _, _, _, _, _, _, _, _, _, _, _, _, _, _, _, _, _, _, _, _, _, _, _, _, _, _, _, _, _, _, _, _, _, _, _, _, _, _, _, _, _, _, _, _, _, _, _, _, _, _, _, _, _, _, _, _, _, _, _, _, _, _, _, _, _, _, _, _, _, _, _, _, _, _, _, _, _, _, _, _, _, _, _, _, _, _, _, _, _, _, _, _, _, _, _, _, _, _, _, _, _, _, _, _, _, _, _, _, _, _, _, _, _, _, _, _, _, _, _, _, _], rfl, by omega, rfl, fun k hk => ?_⟩⟩
    have hk' := hc k hk
    rw [cell_eq, if_pos hk] at hk' ⊢
    rw [listTr_get]
    simp only [List.length_cons, List.length_nil]
    by_cases hki : k = i
    · subst hki
      rw [if_pos (by omega), if_pos (by omega), Nat.sub_self]; rfl
    · rw [if_neg (by omega)]
      refine Eq.trans hk' ?_
      by_cases hk2 : k < i
      · rw [if_pos hk2, if_pos (by omega)]
      · rw [if_neg hk2, if_neg (by omega)]
  · obtain rfl : i = 131072 := by omega
    have d1 : decide (((131072 : Nat) : Int) < ((131072 : Nat) : Int)) = false := decide_eq_false (by omega)
    have gL := gB.set (c2 := c2 + 2) (c2 + 1) (.cells 5 131072 true 0 false [.i .u8 0] t) (by have := gB.le; omega) (by omega) (by omega)
    have hB : SlB F (MB.set (c2 + 1) (.cells 5 131072 true 0 false [.i .u8 0] t)) (c2 + 2) (.l (c2 + 1) 0 131072 131072) hsh := by
      refine ⟨fun e he => ?_, .inr ⟨c2 + 1, 0, .inl ⟨131072, by rw [List.length_map, hsh_len]; exact Nat.le_refl _, by rw [List.length_map, hsh_len]⟩, Nat.lt_succ_self _, fun k hk => ?_⟩⟩
      · obtain ⟨b, _, rfl⟩ := List.mem_map.1 he; rfl
      · rw [flat_bytes, List.length_map] at hk
        have hk' : k < 131072 := by rw [hsh_len] at hk; exact hk
        have hr : hsh[k]? = some 35 := by unfold hsh; rw [List.getElem?_replicate, if_pos hk']
        rw [flat_bytes, List.getElem?_map, hr, Nat.zero_add]
        unfold load1
        rw [look_some_M (get_same _ _ _)]
        show cell 131072 [V.i .u8 0] t k = _
        rw [hc k hk', if_pos hk']; rfl
    have hbs := bs_of hB
    generalize MB.set (c2 + 1) (.cells 5 131072 true 0 false [.i .u8 0] t) = MC at gL hB hbs ⊢
    have okC := gL.ok ok
    have hadd2 : biV .add (sV hsh) (.s 1 35) = some (sV (hsh ++ [35])) := bi_scat hsh [35] (by rw [hsh_len]; decide)
    have hl1 : (hsh ++ [35]).length = 131073 := by rw [List.length_append, hsh_len]; rfl
    simp only [WX, w3_20, w3_21, w3_25, d1, hbs, hadd2]
    refine putE_to ((r4x Φ e.h4 okC (s := hsh ++ [35]) (by rw [hl1]; omega) (by rw [hl1]; omega)).mono ?_)
    rintro r M3 c3 ⟨es3, rfl, n5, n6, g3⟩
    have ok3 := g3.ok okC
    have st3 := store_row (get_same M3 c3 (rowB 26 [.l0, .l0, .l0])) 0 es3 (by show 0 + es3.length ≤ 3; omega) n6
    rw [ov es3 n5] at st3
    simp only [WX, n5, st3]
    have gX3 : Gr c3 M3 (c3 + 1) ((M3.set c3 (rowB 26 [.l0, .l0, .l0])).set c3 (rowB 26 es3)) := ((Gr.refl ok3).set c3 _ (Nat.le_refl _) (Nat.lt_succ_self _) (Nat.le_succ _)).set c3 _ (Nat.le_refl _) (Nat.lt_succ_self _) (Nat.le_refl _)
    have gD := gL.trans (g3.trans gX3)
    have hB2 := hB.grow (g3.trans gX3)
    generalize (M3.set c3 (rowB 26 [.l0, .l0, .l0])).set c3 (rowB 26 es3) = MD at gD hB2 ⊢
    have okD := gD.ok ok
    have hbs2 := bs_of hB2
    simp only [WX, w3_26, hbs2]
    refine putE_to ((r4h Φ e okD (s := hsh) (by rw [hsh_len]; omega) hsh_ne (fun h => by have := hsh_len; rw [h] at this; cases this)).mono ?_)
    rintro r M4 c4 ⟨es4, rfl, n7, n8, g4⟩
    have ok4 := g4.ok okD
    have st4 := store_row (get_same M4 c4 (rowB 26 [.l0, .l0, .l0])) 0 es4 (by show 0 + es4.length ≤ 3; omega) n8
    rw [ov es4 n7] at st4
    simp only [WX, n7, st4]
    have gX4 : Gr c4 M4 (c4 + 1) ((M4.set c4 (rowB 26 [.l0, .l0, .l0])).set c4 (rowB 26 es4)) := ((Gr.refl ok4).set c4 _ (Nat.le_refl _) (Nat.lt_succ_self _) (Nat.le_succ _)).set c4 _ (Nat.le_refl _) (Nat.lt_succ_self _) (Nat.le_refl _)
    have gE := gD.trans (g4.trans gX4)
    exact hQ [_, _, _, none, _, none, _, none, none, none, none, _, _, _, _, none, _, none, none, _, _, _, none, none, _, none, none, _, _, _, _, _, _, _, _, _, _, _, _, _, _, _, _, _, _, _, _, _, _, _, _, _, _, _, _, _, _, _, _, _, _, _, _, _, _, _, _, _, _, _, _, _, _, _, _, _, _, _, _, _, _, _, _, _, _, _, _, _, _, _, _, _, _, _, _, _, _, _, _, _, _, _, _, _, _, _, _, _, _, _, _, _, _, _, _, _, _, _, _, _, _, _, _, _, _, _, _, _, _, _, _, _, _, _, _, _, _, _, _, _, _, _, _, _, _, _, _, _, _, _, _, _, _, _, _, _, _, _, _, _, _, _, _, _, _, _, _, _, _, _, _, _, _, _, _, _, _, _, _, _, _, _, _, _, _, _, _, _, _, _, _, _, _, _, _, _, _, _, _, _, _, _, _, _, _, _, _, _, _, _, _, _, _, _, _, _, _, _, _, _, _, _, _, _, _, _, _, _, _, _, _, _, _, _, _, _, _, _, _, _, _, _, _, _, _, _, _, _, _, _, _, _, _, _, _] _ _ (gE.ok ok) ((gE.load1 hb 0).trans hl3)
end Go.Proofs.YtaigcmdogapjgaaGreatDoor.Ev
set_option maxRecDepth 100000
set_option maxHeartbeats 16000000
namespace Go.Proofs.YtaigcmdogapjgaaGreatDoor.Ev
open Go
theorem lab_lit (l : List UInt8) (n x : Nat) (h : V.s n x = sV l) (hl : l.length ≤ 1000000) (b : Bool) (hb : labelOk l = b) : h7 [.s n x] = some (.b b) := by rw [h, h7_eq l hl, hb]
theorem l3 (Φ : Nat → Option CF) (h3 : Φ 3 = some c3) (e : R4 Φ) (h6' : Φ 6 = some (.orc (pureO h6))) {L : List Tab} {gs : List Nat} (h8' : Φ 8 = some (.orc (knownE L gs))) {F : RO}
    (hS : ∀ M c b, M.get b = some (rowU 55 (lbE nmC).flatten) → Calls Φ F 14 [.u b 0 nmC.length 0 nmC.length, .f 15 [] []] M c fun r M' c' => M' = M ∧ c' = c)
    (ht : tabsIn F L = true) (he : errsIn F gs = true) (hc : chk3 F (pre3 Φ F) = true) : Calls Φ F 3 [] .e 1002 fun r _ _ => r = .b true := by
  refine calls_walk h3 ?_
  cases hp : pre3 Φ F with
  | none => rw [hp] at hc; cases hc
  | some s =>
  obtain ⟨t, d, M, c⟩ := s
  rw [hp] at hc
  cases d with
  | cons x r => cases hc
  | nil =>
  have hc' : (fullT 8 t && (bndT M c && (roFree M F && (roLow F && (Nat.ble 1000 c && (ckI (t.get 5) 0 && (ckI (t.get 7) 3 && (ckI (t.get 8) 5 && (ckI (t.get 9) 8192 && (ckB (t.get 10) && (ckT (t.get 11) txC.length (strN txC) && chkP F M (t.get 3)))))))))))) = true := hc
  simp only [Bool.and_eq_true] at hc'
  obtain ⟨a1, a2, a3, a4, a5, a6, a7, a8, a9, a10, a11, a12⟩ := hc'
  rw [bleN] at a5
  have a5' := of_decide_eq_true a5
  refine pre_walk Φ hp ?_
  obtain ⟨u, hu, u3, u5, u7, u8, u9, u10, u11⟩ := full3 t a1
  obtain ⟨b3, vb, p1, p2, p3, p4⟩ := chkP_of a12
  rw [p1] at u3
  rw [ckI_of a6] at u5
  rw [ckI_of a7] at u7
  rw [ckI_of a8] at u8
  rw [ckI_of a9] at u9
  rw [ckB_of a10] at u10
  rw [ckT_of a11] at u11
  have okm : Okm F M c := ⟨bndT_get M c a2, fun b hb => roLow_get F a4 b (by omega), roFree_get M F a3, a5'⟩
  have hb3 : b3 < c := by
    by_cases hlt : b3 < c
    · exact hlt
    · rw [bndT_get M c a2 b3 (by omega)] at p2; cases p2
  rw [hu, u3, u5, u7, u8, u9, u10, u11]
  refine l3a Φ e hS okm hb3 p3 p4 u _ ?_
  intro u M' c' ok' hl'
  have kn := knownE_nil ht he M' c'
  have k0 := lab_lit [97, 98, 99, 100, 101, 102, 103, 104, 105, 106, 107, 108] 12 33554238638682438954073154145 rfl (by decide) true (by decide +kernel)
  have k1 := lab_lit [97, 98, 99, 100, 101, 102, 103, 104, 105, 106, 107, 108, 109] 13 8669423952693495236650363740769 rfl (by decide) false (by decide +kernel)
  have k2 := lab_lit [97, 100, 100] 3 6579297 rfl (by decide) false (by decide +kernel)
  have k3 := lab_lit [] 0 0 rfl (by decide) false (by decide +kernel)
  have k4 := lab_lit [49, 97] 2 24881 rfl (by decide) false (by decide +kernel)
  have k5 := lab_lit [97, 95, 49] 3 3235681 rfl (by decide) true (by decide +kernel)
  have h7' := e.h7
  simp only [WX, B3, hl', p4, h6', h6_eq, h7', k0, k1, k2, k3, k4, k5, h8', kn]
end Go.Proofs.YtaigcmdogapjgaaGreatDoor.Ev
set_option maxRecDepth 100000
set_option maxHeartbeats 4000000
namespace Go.Proofs.YtaigcmdogapjgaaGreatDoor.Ev
open Go
def q14 : List V → Bool
  | [.u _ _ n _ _, _] => Nat.beq n 256
  | _ => false
noncomputable def get14 : RC → Option (V × Option Blk)
  | .k v M _ => some (v, M.get 1000)
  | .f => none
theorem rowC_bd : bdBlk (fun _ => False) rowC := by
  intro k v hk
  have hk' := cell_list hk
  have hm := List.mem_of_getElem? hk'
  obtain ⟨r, hr, hv⟩ := List.mem_flatten.1 hm
  obtain ⟨a, _, rfl⟩ := List.mem_map.1 hr
  simp only [List.mem_cons, List.mem_nil_iff, or_false] at hv
  rcases hv with rfl | rfl <;> trivial
theorem sortS {Φ Φ0 : Nat → Option CF} (h : Φ 14 = some (.orc (elseO Φ0 1000000 14 q14 (atO 256 rowC (.f 15 [] []) (.t []))))) {F : RO} : ∀ M c b, M.get b = some (rowU 55 (lbE nmC).flatten) → Calls Φ F 14 [.u b 0 nmC.length 0 nmC.length, .f 15 [] []] M c fun r M' c' => M' = M ∧ c' = c := by
  intro M c b hM
  refine ⟨.t [], M, c, ?_, rfl, rfl⟩
  rw [nmC_len, h]
  show elseO Φ0 1000000 14 q14 (atO 256 rowC (.f 15 [] []) (.t [])) F [.u b 0 256 0 256, .f 15 [] []] M c = _
  unfold elseO
  rw [show q14 [V.u b 0 256 0 256, .f 15 [] []] = true from rfl, cond_true]
  exact atO_eq hM
theorem bindS {v w : V} {f : List UInt8 → Option V} (h : (asS v).bind f = some w) : ∃ l, v = sV l ∧ f l = some w := by
  obtain ⟨l, h1, h2⟩ := Option.bind_eq_some_iff.1 h
  exact ⟨l, of_asS h1, h2⟩
theorem okm_e {ct : Nat} (h : 1000 ≤ ct) : Okm [] (.e : Mem) ct := ⟨fun b _ => rfl, fun b _ => rfl, fun b hb => (by cases hb), h⟩
section
variable {P : Program} (hm : P.follows .mixedOrders = true) {Φ : Nat → Option CF} (hΦ : PhiOk P Φ)
include hm hΦ
theorem o21 (h : Φ 21 = some c21) : OrcOk P 21 (pureO h21) := pure_of hm hΦ (by
  intro args v ct hv hct; unfold h21 at hv; split at hv
  · obtain rfl := Option.some.inj hv; exact ⟨trivial, t21 Φ h _ _⟩
  · cases hv)
theorem o74 (h : Φ 74 = some c74) (h21 : Φ 21 = some (.orc (pureO h21))) : OrcOk P 74 (pureO h74) := pure_of hm hΦ (by
  intro args v ct hv hct; unfold h74 at hv; split at hv
  · obtain ⟨l, rfl, hv1⟩ := bindS hv
    split at hv1
    · rename_i hl
      obtain rfl := Option.some.inj hv1
      obtain ⟨r, M1, c1, e, rfl⟩ := r74 Φ h h21 (okm_e hct) l hl
      exact ⟨trivial, M1, c1, e⟩
    · cases hv1
  · cases hv)
theorem o39 (h : Φ 39 = some c39) (h74 : Φ 74 = some (.orc (pureO h74))) : OrcOk P 39 (pureO h39) := pure_of hm hΦ (by
  intro args v ct hv hct; unfold h39 at hv; split at hv
  · obtain ⟨l, rfl, hv1⟩ := bindS hv
    split at hv1
    · rename_i hl; obtain rfl := Option.some.inj hv1; exact ⟨trivial, t39 Φ h h74 l hl _⟩
    · cases hv1
  · cases hv)
theorem o20 (h : Φ 20 = some c20) (h39 : Φ 39 = some (.orc (pureO h39))) : OrcOk P 20 (pureO h20) := pure_of hm hΦ (by
  intro args v ct hv hct; unfold h20 at hv; split at hv
  · obtain ⟨l, rfl, hv1⟩ := bindS hv
    split at hv1
    · rename_i hl; obtain rfl := Option.some.inj hv1; exact ⟨trivial, t20 Φ h h39 l hl _⟩
    · cases hv1
  · cases hv)
theorem o38 (h : Φ 38 = some c38) : OrcOk P 38 (pureO h38) := pure_of hm hΦ (by
  intro args v ct hv hct; unfold h38 at hv; split at hv
  · obtain rfl := Option.some.inj hv; exact ⟨⟨trivial, trivial⟩, t38 Φ h _⟩
  · cases hv)
theorem o7 (h : Φ 7 = some c7) (h19 : Φ 19 = some c19) (h38 : Φ 38 = some (.orc (pureO h38))) (h73 : Φ 73 = some (.orc (pureO h73))) (h72 : Φ 72 = some c72) (h20 : Φ 20 = some (.orc (pureO h20))) : OrcOk P 7 (pureO h7) := pure_of hm hΦ (by
  intro args v ct hv hct; unfold h7 at hv; split at hv
  · obtain ⟨l, rfl, hv1⟩ := bindS hv
    split at hv1
    · rename_i hl
      obtain rfl := Option.some.inj hv1
      obtain ⟨r, M1, c1, e, rfl⟩ := r7 Φ h h19 h38 h73 h72 h20 (okm_e hct) l hl
      exact ⟨trivial, M1, c1, e⟩
    · cases hv1
  · cases hv)
theorem o6 (h : Φ 6 = some c6) : OrcOk P 6 (pureO h6) := pure_of hm hΦ (by
  intro args v ct hv hct; unfold h6 at hv; split at hv
  · obtain rfl := Option.some.inj hv; exact ⟨trivial, t6 Φ h _ _⟩
  · cases hv)
theorem o14 (hr : get14 (callC (exec Φ 1000000) [] 14 [.u 1000 0 256 0 256, .f 15 [] []] (Tr.set .e 1000 rowC) 1001 (Φ 14)) = some (.t [], some rowC)) : OrcOk P 14 (elseO Φ 1000000 14 q14 (atO 256 rowC (.f 15 [] []) (.t []))) := by
  refine orc_else hm hΦ (orc_at (fuel := 1000000) hm hΦ (f := 14) (k := 256) (fv := .f 15 [] []) (v := .t []) ⟨trivial, trivial⟩ trivial rowC_bd ?_)
  have hr' : get14 (callC (exec Φ 1000000) [] 14 [.u 1000 0 256 0 256, .f 15 [] []] (Tr.set .e 1000 rowC) 1001 (Φ 14)) = some (.t [], some rowC) := hr
  clear hr
  cases hx : callC (exec Φ 1000000) [] 14 [.u 1000 0 256 0 256, .f 15 [] []] (Tr.set .e 1000 rowC) 1001 (Φ 14) with
  | f => rw [hx] at hr'; cases hr'
  | k v M c =>
    rw [hx] at hr'
    have h2 : some (v, M.get 1000) = some (V.t [], some rowC) := hr'
    injection h2 with h2
    injection h2 with h3 h4
    subst h3
    exact ⟨M, c, hx, h4⟩
theorem o3 (h : Φ 3 = some c3) (e : R4 Φ) (h6' : Φ 6 = some (.orc (pureO h6))) {L : List Tab} (h8' : Φ 8 = some (.orc (knownE L [1, 2]))) {Φ0 : Nat → Option CF} (h14' : Φ 14 = some (.orc (elseO Φ0 1000000 14 q14 (atO 256 rowC (.f 15 [] []) (.t [])))))
    (hT : ∀ ty q, tabsIn (errF (tabF L ty) q [1, 2] 1000) L = true) (hE : ∀ ty q, errsIn (errF (tabF L ty) q [1, 2] 1000) [1, 2] = true) (hC : ∀ ty q, chk3 (errF (tabF L ty) q [1, 2] 1000) (pre3 Φ (errF (tabF L ty) q [1, 2] 1000)) = true) : OrcOk P 3 (knownE L [1, 2]) :=
  orc_den_errs hm hΦ rfl fun ty q => l3 Φ h e h6' h8' (sortS h14') (hT ty q) (hE ty q) (hC ty q)
end
theorem l3z {Φ : Nat → Option CF} {L : List Tab} (h : Φ 3 = some (.orc (knownE L [1, 2]))) {F : RO} {M : Mem} {c : Nat} (ht : tabsIn F L = true) (he : errsIn F [1, 2] = true) : Calls Φ F 3 [] M c fun r _ _ => r = .b true :=
  ⟨_, _, _, by rw [h]; exact knownE_nil ht he M c, rfl⟩
end Go.Proofs.YtaigcmdogapjgaaGreatDoor.Ev
