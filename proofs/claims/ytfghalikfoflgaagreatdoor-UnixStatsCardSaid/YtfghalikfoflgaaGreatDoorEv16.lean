/- What is proved here: pieces of the evaluator's soundness: if the evaluator comes to a value, the model's run comes to it, for every world and tape; no conditions beyond the hypotheses of each theorem. -/
import Derived.Test.YtfghalikfoflgaaGreatDoorEv15
set_option linter.unusedSimpArgs false
set_option linter.unusedVariables false
set_option linter.defProp false
set_option maxRecDepth 10000
set_option maxHeartbeats 4000000
namespace Go.Proofs.YtfghalikfoflgaaGreatDoor.Ev
open Go
theorem not_bad {z : Int} (h : badZ z = false) : 0 ≤ z ∧ z ≤ 2147483647 := by
  unfold badZ at h
  rw [Bool.or_eq_false_iff] at h
  have h1 := of_decide_eq_false h.1
  have h2 := of_decide_eq_false h.2
  omega
theorem any_get {L : List Int} (h : L.any badZ = false) {i : Nat} (hi : i < L.length) : badZ L[i] = false := by
  cases hb : badZ L[i] with
  | false => rfl
  | true => rw [List.any_eq_true.2 ⟨_, List.getElem_mem hi, hb⟩] at h; cases h
theorem statN_get {L : List Int} (hL : L.length = 5) {i : Nat} (hi : i < 5) : ∃ n, n ≤ 2147483647 ∧ (statN L)[i]? = some n ∧ (L.any badZ = true → n = 0) ∧ (L.any badZ = false → L[i]? = some (n : Int)) := by
  unfold statN
  cases hb : L.any badZ with
  | true =>
    rw [if_pos rfl]
    refine ⟨0, by omega, ?_, fun _ => rfl, fun h => (by cases h)⟩
    match i, hi with
    | 0, _ => rfl
    | 1, _ => rfl
    | 2, _ => rfl
    | 3, _ => rfl
    | 4, _ => rfl
  | false =>
    rw [if_neg Bool.noConfusion]
    have h := not_bad (any_get hb (show i < L.length by omega))
    refine ⟨L[i].toNat, by omega, ?_, fun h => (by cases h), fun _ => ?_⟩
    · rw [List.getElem?_map, List.getElem?_eq_getElem (show i < L.length by omega)]; rfl
    · rw [List.getElem?_eq_getElem (show i < L.length by omega), Int.toNat_of_nonneg h.1]
theorem statN_len {L : List Int} (hL : L.length = 5) : (statN L).length = 5 := by
  unfold statN
  split
  · rfl
  · rw [List.length_map, hL]
noncomputable def b7_1 : CC := (.reg [(paa pa1 (.bx 23 7 pz0)), (pqq pa2 (.mv (.c .l0)))])
def w7_1 := wu b7_1.eq_1
noncomputable def b7_2 : CC := (.reg [(pqq pa9 (.fa 2 pz1)), (pqq pa10 (.ld1 pz9)), (pqq pa11 (.fa 3 pz1)), (pqq pa12 (.ld1 pz11)), (pqq pa13 (.fa 4 pz1)), (pqq pa14 (.ld1 pz13)), (pqq pa15 (.fa 5 pz1)), (pqq pa16 (.ld1 pz15)), (paa pa17 (.bsl 3 5 1 [(.i .i64 0)] [(0, (px6 0)), (1, pz10), (2, pz12), (3, pz14), (4, pz16)])), (pqq pa3 (.mv pz17))])
def w7_2 := wu b7_2.eq_1
noncomputable def b7_3 : CC := (.reg [(pqq pa18 (.fa 1 pz1)), (pqq pa19 (.ld1 pz18))])
def w7_3 := wu b7_3.eq_1
noncomputable def b7_4 : CC := (.reg [(pqq pa20 (.mv pz3)), (pqq pa21 (.iaS 1 pz20 (px6 0))), (pez (.st 1 pz21 (px6 1)))])
def w7_4 := wu b7_4.eq_1
noncomputable def b7_5 : CC := (.reg [(pqq pa4 (.mv pxT))])
def w7_5 := wu b7_5.eq_1
noncomputable def b7_6 : CC := (.reg [(pqq pa5 (.mv (px6 0)))])
def w7_6 := wu b7_6.eq_1
noncomputable def b7_7 : CC := (.reg [(pqq pa22 (.mv pz5)), (pqq pa23 (.mv pz3)), (pqq pa24 (.ln .slice pz23)), (pqq pa25 (.bi .lss pz22 pz24))])
def w7_7 := wu b7_7.eq_1
noncomputable def b7_8 : CC := (.seq b7_7 (.cond pz25 .skip (.exit 0)))
def w7_8 := wu b7_8.eq_1
noncomputable def b7_9 : CC := (.reg [(pqq pa28 (.mv pz4)), (pqq pa29 (.mv pz28)), ⟨(some pa30), .q (.mv pz3), (some (pa29, true))⟩, ⟨(some pa31), .q (.mv pz5), (some (pa29, true))⟩, ⟨(some pa32), .q (.iaS 1 pz30 pz31), (some (pa29, true))⟩, ⟨(some pa33), .q (.ld1 pz32), (some (pa29, true))⟩, ⟨(some pa34), .q (.bi .geq pz33 (px6 0)), (some (pa29, true))⟩, (pqq pa35 (.pk pz29 pz34 pxF)), (pqq pa36 (.mv pz35)), ⟨(some pa37), .q (.mv pz3), (some (pa36, true))⟩, ⟨(some pa38), .q (.mv pz5), (some (pa36, true))⟩, ⟨(some pa39), .q (.iaS 1 pz37 pz38), (some (pa36, true))⟩, ⟨(some pa40), .q (.ld1 pz39), (some (pa36, true))⟩, ⟨(some pa41), .q (.bi .leq pz40 (px6 2147483647)), (some (pa36, true))⟩, (pqq pa42 (.pk pz36 pz41 pxF)), (pqq pa4 (.mv pz42))])
def w7_9 := wu b7_9.eq_1
noncomputable def b7_10 : CC := (.reg [(pqq pa26 (.mv pz5)), (pqq pa27 (.bi .add pz26 (px6 1))), (pqq pa5 (.mv pz27))])
def w7_10 := wu b7_10.eq_1
noncomputable def b7_11 : CC := (.seq b7_6 (.block 0 (.loop (.seq b7_8 (.seq (.block 1 b7_9) b7_10)))))
def w7_11 := wu b7_11.eq_1
noncomputable def b7_12 : CC := (.reg [(pqq pa7 (.mv (px6 0)))])
def w7_12 := wu b7_12.eq_1
noncomputable def b7_13 : CC := (.reg [(pqq pa43 (.mv pz7)), (pqq pa44 (.mv pz3)), (pqq pa45 (.ln .slice pz44)), (pqq pa46 (.bi .lss pz43 pz45))])
def w7_13 := wu b7_13.eq_1
noncomputable def b7_14 : CC := (.seq b7_13 (.cond pz46 .skip (.exit 2)))
def w7_14 := wu b7_14.eq_1
noncomputable def b7_15 : CC := (.reg [(pqq pa49 (.mv pz3)), (pqq pa50 (.mv pz7)), (pqq pa51 (.iaS 1 pz49 pz50)), (pqq pa52 (.ld1 pz51)), (pqq pa8 (.mv pz52))])
def w7_15 := wu b7_15.eq_1
noncomputable def b7_16 : CC := (.reg [(pqq pa53 (.mv pz4)), (pqq pa54 (.un .not pz53))])
def w7_16 := wu b7_16.eq_1
noncomputable def b7_17 : CC := (.reg [(pqq pa8 (.mv (px6 0)))])
def w7_17 := wu b7_17.eq_1
noncomputable def b7_18 : CC := (.seq b7_16 (.cond pz54 b7_17 .skip))
def w7_18 := wu b7_18.eq_1
noncomputable def b7_19 : CC := (.reg [(pqq pa55 (.mv pz6)), (pqq pa56 (.mv pz8)), (pqq pa57 (.ci .u64 pz56)), (pee pa58 (.call 18 [pz57])), (pee pa59 (.app 5 1 1 pz55 pz58)), (pqq pa6 (.mv pz59))])
def w7_19 := wu b7_19.eq_1
noncomputable def b7_20 : CC := (.reg [(pqq pa47 (.mv pz7)), (pqq pa48 (.bi .add pz47 (px6 1))), (pqq pa7 (.mv pz48))])
def w7_20 := wu b7_20.eq_1
noncomputable def b7_21 : CC := (.seq b7_14 (.seq (.block 3 (.seq b7_15 (.seq b7_18 b7_19))) b7_20))
def w7_21 := wu b7_21.eq_1
noncomputable def b7_22 : CC := (.reg [(pqq pa60 (.mv pz6)), (pqq pa2 (.mv pz60))])
def w7_22 := wu b7_22.eq_1
noncomputable def b7_23 : CC := (.seq (.seq b7_12 (.block 2 (.loop b7_21))) (.seq b7_22 .ret))
def w7_23 := wu b7_23.eq_1
noncomputable def b7_24 : CC := (.seq (.reg [(pqq pa6 (.mv (.c .l0)))]) b7_23)
def w7_24 := wu b7_24.eq_1
noncomputable def b7_25 : CC := (.seq (.seq b7_3 (.cond pz19 b7_4 .skip)) (.seq b7_5 (.seq b7_11 b7_24)))
def w7_25 := wu b7_25.eq_1
noncomputable def c7 : CF := .mk 6 [.t pa2] (.seq b7_1 (.seq b7_2 b7_25))
theorem e7 (v0 : V) : argTr 6 [v0] = (.n sk5 (some v0) sk5) := rfl
def B7 := ai @e7 (ai @w7_1 (ai @w7_2 (ai @w7_3 (ai @w7_4 (ai @w7_5 (ai @w7_6 (ai @w7_7 (ai @w7_8 (ai @w7_9 (ai @w7_10 (ai @w7_11 (ai @w7_12 (ai @w7_13 (ai @w7_14 (ai @w7_15 (ai @w7_16 (ai @w7_17 (ai @w7_18 (ai @w7_19 (ai @w7_20 (ai @w7_21 (ai @w7_22 (ai @w7_23 (ai @w7_24 (@w7_25)))))))))))))))))))))))))
theorem w7 (Φ : Nat → Option CF) (h : Φ 7 = some c7) (h18 : Φ 18 = some c18) {F : RO} {M : Mem} {c : Nat} (ok : Okm F M c) (zn zo zr zl zs zh : Int) (dir : Bool) :
    Calls Φ F 7 [.g [.i .i64 zn, .b dir, .i .i64 zo, .i .i64 zr, .i .i64 zl, .i .i64 zs, .i .i64 zh]] M c fun r M' c' => SlB F M' c' r (numsB (statN [if dir = true then 1 else 0, zo, zr, zl, zs])) ∧ Gr c M c' M' := by
  refine calls_walk h ?_
  generalize hzs : ([if dir = true then 1 else 0, zo, zr, zl, zs] : List Int) = L
  have hL : L.length = 5 := by rw [← hzs]; rfl
  have hn5 := statN_len hL
  have T2 : ∀ (M1 : Mem) (c1 : Nat) (v : V) (u : List (Option V)), SlAt F M1 c1 1 v (zE L) → Gr c M c1 M1 → Wp b7_24 (K Φ none 7 F) (.mk ((.n (.n (.n (uv7 u 31 15 47 7 39 23 55) (some (v)) (uv7 u 35 19 51 11 43 27 59)) (uO u 1) (.n (uv7 u 33 17 49 9 41 25 57) (uO u 5) (uv7 u 37 21 53 13 45 29 61))) (uO u 0) (.n (.n (uv7 u 32 16 48 8 40 24 56) (some (.b (!L.any badZ))) (uv7 u 36 20 52 12 44 28 60)) (uO u 2) (.n (uv7 u 34 18 50 10 42 26 58) (uO u 6) (uv7 u 38 22 54 14 46 30 62))))) [] M1 c1) (endQ F [.t pa2] fun r M' c' => SlB F M' c' r (numsB (statN L)) ∧ Gr c M c' M') := by
    intro M1 c1 v u hs hg
    have hln : lnL v = some (.i .i64 5) := by have := hs.len; rwa [zE_len, hL] at this
    have ok1 := hg.ok ok
    simp only [WX, B7]
    obtain ⟨I, hI⟩ : ∃ I : Nat → St → Prop, ∀ n s, I n s ↔ (∃ (i b : Nat) (M2 : Mem) (c2 : Nat) (acc : V) (u : List (Option V)), n = 5 - i ∧ i ≤ 5 ∧ s = .mk ((.n (.n (.n (.n (uv3 u 31 15 47) (some (.i .i64 (i : Int))) (uv3 u 39 23 55)) (some (v)) (uv7 u 35 19 51 11 43 27 59)) (uO u 1) (.n (uv7 u 33 17 49 9 41 25 57) (uO u 5) (uv7 u 37 21 53 13 45 29 61))) (uO u 0) (.n (.n (uv7 u 32 16 48 8 40 24 56) (some (.b (!L.any badZ))) (uv7 u 36 20 52 12 44 28 60)) (uO u 2) (.n (uv7 u 34 18 50 10 42 26 58) (some (acc)) (uv7 u 38 22 54 14 46 30 62))))) [] M2 c2 ∧ Gr c1 M1 c2 M2 ∧ AccAt M2 c1 c2 b 5 1 acc ((numsB ((statN L).take i)).map fun x => [bV x])) := ⟨fun n s => _, fun _ _ => Iff.rfl⟩
    refine wp_while I ?_ 5 _ ((hI _ _).2 ⟨0, 0, _, _, _, [_, _, _, none, none, _, none, none, _, _, _, _, _, _, _, _, _, _, _, _, _, _, _, _, _, _, _, _, _, _, _, _, _, _, _, _, _, _, _, _, _, _, _, _, _, _, _, _, _, _, _, _, _, _, _, _, _, _, _, _, _, _, _], rfl, Nat.zero_le _, rfl, Gr.refl ok1, .nil⟩)
    intro n s hIs
    obtain ⟨i, b, M2, c2, acc, u, rfl, hi, rfl, hg2, hacc⟩ := (hI _ _).1 hIs
    clear hIs
    have ok2 := hg2.ok ok1
    by_cases hlt : i < 5
    · have hd : decide ((i : Int) < 5) = true := decide_eq_true (by omega)
      obtain ⟨x, hx, hget, hx0, hx1⟩ := statN_get hL hlt
      have hli : i < L.length := by omega
      obtain ⟨pb, po, hpb, hia, hld⟩ := (hs.grow hg2).one i (by rw [zE_len]; exact hli) (x := .i .i64 L[i]) (by unfold zE; rw [List.getElem_map])
      have hia := hia .i64
      have htk : (statN L).take (i + 1) = (statN L).take i ++ [x] := by
        have hi5 : i < (statN L).length := by omega
        rw [take_sn hi5]
        rw [List.getElem?_eq_getElem hi5] at hget
        rw [Option.some.inj hget]
      have hw := wrap_u64n x hx
      have q8 : biV .add (.i .i64 (i : Int)) (.i .i64 1) = some (.i .i64 ((i + 1 : Nat) : Int)) := by rw [i64_add _ _ (by omega) (by omega)]; simp
      have fin : ∀ (M3 : Mem) (c3 : Nat) (r : V), SlB F M3 c3 r (numB 9 x) → Gr c2 M2 c3 M3 → RTo (appV F M3 c3 5 1 1 acc r) fun v' M' c' => (∃ b', AccAt M' c1 c' b' 5 1 v' ((numsB ((statN L).take (i + 1))).map fun x => [bV x])) ∧ Gr c1 M1 c' M' := by
        intro M3 c3 r hr hg3
        have h1 := numsB_len ((statN L).take i)
        have h2 := numB_len 9 x
        rw [List.length_take] at h1
        have hro : room (((numsB ((statN L).take i)).map fun x => [bV x]).length + ((numB 9 x).map fun x => [bV x]).length) 1 = true := room_of (by rw [bE_len, bE_len]; omega) (by rw [bE_len, bE_len]; omega)
        refine (appV_to (bytes := 1) (hacc.gr hg3) (hg2.trans hg3) Nat.one_pos hr (allOne_sl _) hro).mono ?_
        rintro v' M' c' ⟨b', h', hg', -⟩
        refine ⟨⟨b', ?_⟩, hg'⟩
        rw [htk, numsB_snoc, List.map_append]; exact h'
      cases hb : L.any badZ with
      | true =>
        obtain rfl := hx0 hb
        have hb' : (!L.any badZ) = false := by rw [hb]; rfl
        rw [Int.ofNat_zero] at hw
        simp only [WX, B7, hln, hd, hia, hld, hw]
        refine putE_to ((w18 Φ h18 ok2 (n := 0) (by omega)).mono ?_)
        rintro r M3 c3 ⟨hr, hg3⟩
        simp only [WX]
        refine putE_to ((fin M3 c3 r hr hg3).mono ?_)
        rintro v' M4 c4 ⟨⟨b', h'⟩, hg4⟩
        simp only [WX, B7, q8]
        exact ⟨5 - (i + 1), by omega, (hI _ _).2 ⟨i + 1, b', M4, _, v', [_, _, _, none, none, _, none, none, _, _, _, _, _, _, _, _, _, _, _, _, _, _, _, _, _, _, _, _, _, _, _, _, _, _, _, _, _, _, _, _, _, _, _, _, _, _, _, _, _, _, _, _, _, _, _, _, _, _, _, _, _, _, _], rfl, by omega, by rw [hb]; rfl, hg4, h'⟩⟩
      | false =>
        have hz := hx1 hb
        rw [List.getElem?_eq_getElem hli] at hz
        rw [Option.some.inj hz] at hld
        have hb' : (!L.any badZ) = true := by rw [hb]; rfl
        simp only [WX, B7, hln, hd, hia, hld, hw]
        refine putE_to ((w18 Φ h18 ok2 (n := x) (by omega)).mono ?_)
        rintro r M3 c3 ⟨hr, hg3⟩
        simp only [WX]
        refine putE_to ((fin M3 c3 r hr hg3).mono ?_)
        rintro v' M4 c4 ⟨⟨b', h'⟩, hg4⟩
        simp only [WX, B7, q8]
        exact ⟨5 - (i + 1), by omega, (hI _ _).2 ⟨i + 1, b', M4, _, v', [_, _, _, none, none, _, none, none, _, _, _, _, _, _, _, _, _, _, _, _, _, _, _, _, _, _, _, _, _, _, _, _, _, _, _, _, _, _, _, _, _, _, _, _, _, _, _, _, _, _, _, _, _, _, _, _, _, _, _, _, _, _, _], rfl, by omega, by rw [hb]; rfl, hg4, h'⟩⟩
    · have hd : decide ((i : Int) < 5) = false := decide_eq_false (by omega)
      obtain rfl : i = 5 := by omega
      rw [List.take_of_length_le (by omega)] at hacc
      simp only [WX, B7, hln, hd]
      exact ⟨hacc.sl, hg.trans hg2⟩
  have T1 : ∀ (M1 : Mem) (c1 : Nat) (v : V) (u : List (Option V)), SlAt F M1 c1 1 v (zE L) → Gr c M c1 M1 → Wp (.seq b7_5 (.seq b7_11 b7_24)) (K Φ none 7 F) (.mk ((.n (.n (.n (uv7 u 31 15 47 7 39 23 55) (some (v)) (uv7 u 35 19 51 11 43 27 59)) (uO u 1) (.n (uv7 u 33 17 49 9 41 25 57) (uO u 5) (uv7 u 37 21 53 13 45 29 61))) (uO u 0) (.n (.n (uv7 u 32 16 48 8 40 24 56) (uO u 4) (uv7 u 36 20 52 12 44 28 60)) (uO u 2) (.n (uv7 u 34 18 50 10 42 26 58) (uO u 6) (uv7 u 38 22 54 14 46 30 62))))) [] M1 c1) (endQ F [.t pa2] fun r M' c' => SlB F M' c' r (numsB (statN L)) ∧ Gr c M c' M') := by
    intro M1 c1 v u hs hg
    have hln : lnL v = some (.i .i64 5) := by have := hs.len; rwa [zE_len, hL] at this
    simp only [WX, w7_5, w7_6, w7_11]
    obtain ⟨I, hI⟩ : ∃ I : Nat → St → Prop, ∀ n s, I n s ↔ (∃ (i : Nat) (u : List (Option V)), n = 5 - i ∧ i ≤ 5 ∧ s = .mk ((.n (.n (.n (uv7 u 31 15 47 7 39 23 55) (some (v)) (uv7 u 35 19 51 11 43 27 59)) (uO u 1) (.n (uv7 u 33 17 49 9 41 25 57) (some (.i .i64 (i : Int))) (uv7 u 37 21 53 13 45 29 61))) (uO u 0) (.n (.n (uv7 u 32 16 48 8 40 24 56) (some (.b (!(L.take i).any badZ))) (uv7 u 36 20 52 12 44 28 60)) (uO u 2) (.n (uv7 u 34 18 50 10 42 26 58) (uO u 6) (uv7 u 38 22 54 14 46 30 62))))) [] M1 c1) := ⟨fun n s => _, fun _ _ => Iff.rfl⟩
    refine wp_while I ?_ 5 _ ((hI _ _).2 ⟨0, [_, _, _, none, none, none, _, _, _, _, _, _, _, _, _, _, _, _, _, _, _, _, _, _, _, _, _, _, _, _, _, _, _, _, _, _, _, _, _, _, _, _, _, _, _, _, _, _, _, _, _, _, _, _, _, _, _, _, _, _, _, _, _], rfl, Nat.zero_le _, rfl⟩)
    intro n s hIs
    obtain ⟨i, u, rfl, hi, rfl⟩ := (hI _ _).1 hIs
    clear hIs
    by_cases hlt : i < 5
    · have hd : decide ((i : Int) < 5) = true := decide_eq_true (by omega)
      have hli : i < L.length := by omega
      obtain ⟨pb, po, hpb, hia, hld⟩ := hs.one i (by rw [zE_len]; exact hli) (x := .i .i64 L[i]) (by unfold zE; rw [List.getElem_map])
      have hia := hia .i64
      have htk := take_sn hli
      have q8 : biV .add (.i .i64 (i : Int)) (.i .i64 1) = some (.i .i64 ((i + 1 : Nat) : Int)) := by rw [i64_add _ _ (by omega) (by omega)]; simp
      have hany : (L.take (i + 1)).any badZ = ((L.take i).any badZ || badZ L[i]) := by rw [htk, List.any_append]; simp
      generalize L[i] = z at hld hany
      cases hb : (L.take i).any badZ with
      | true =>
        have hb' : (!(L.take i).any badZ) = false := by rw [hb]; rfl
        simp only [WX, B7, hln, hd, q8]
        exact ⟨5 - (i + 1), by omega, (hI _ _).2 ⟨i + 1, [_, _, _, none, none, none, _, _, _, _, _, _, _, _, _, _, _, _, _, _, _, _, _, _, _, _, _, _, _, _, _, _, _, _, _, _, _, _, _, _, _, _, _, _, _, _, _, _, _, _, _, _, _, _, _, _, _, _, _, _, _, _, _], rfl, by omega, by rw [hany, hb]; rfl⟩⟩
      | false =>
        have hb' : (!(L.take i).any badZ) = true := by rw [hb]; rfl
        by_cases h1 : z < 0
        · have d1 : decide (z ≥ 0) = false := decide_eq_false (by omega)
          have d1' : decide (0 ≤ z) = false := decide_eq_false (by omega)
          have hbz : badZ z = true := by unfold badZ; rw [decide_eq_true h1]; rfl
          simp only [WX, B7, hln, hd, hia, hld, d1, q8]
          exact ⟨5 - (i + 1), by omega, (hI _ _).2 ⟨i + 1, [_, _, _, none, none, none, _, _, _, _, _, _, _, _, _, _, _, _, _, _, _, _, _, _, _, _, _, _, _, _, _, _, _, _, _, _, _, _, _, _, _, _, _, _, _, _, _, _, _, _, _, _, _, _, _, _, _, _, _, _, _, _, _], rfl, by omega, by rw [hany, hb, hbz]; rfl⟩⟩
        · have d1 : decide (z ≥ 0) = true := decide_eq_true (by omega)
          have d1' : decide (0 ≤ z) = true := decide_eq_true (by omega)
          have hbz : badZ z = !decide (z ≤ 2147483647) := by
            unfold badZ; rw [decide_eq_false h1, Bool.false_or, ← decide_not]; exact decide_eq_decide.2 (by omega)
          have hfin : (!(L.take (i + 1)).any badZ) = decide (z ≤ 2147483647) := by rw [hany, hb, hbz, Bool.false_or, Bool.not_not]
          simp only [WX, B7, hln, hd, hia, hld, d1, q8]
          exact ⟨5 - (i + 1), by omega, (hI _ _).2 ⟨i + 1, [_, _, _, none, none, none, _, _, _, _, _, _, _, _, _, _, _, _, _, _, _, _, _, _, _, _, _, _, _, _, _, _, _, _, _, _, _, _, _, _, _, _, _, _, _, _, _, _, _, _, _, _, _, _, _, _, _, _, _, _, _, _, _], rfl, by omega, by rw [hfin]; rfl⟩⟩
    · have hd : decide ((i : Int) < 5) = false := decide_eq_false (by omega)
      obtain rfl : i = 5 := by omega
      simp only [WX, w7_7, w7_8, hln, hd]
      rw [List.take_of_length_le (by omega)]
      exact T2 _ _ _ [_, _, _, none, none, _, _, _, _, _, _, _, _, _, _, _, _, _, _, _, _, _, _, _, _, _, _, _, _, _, _, _, _, _, _, _, _, _, _, _, _, _, _, _, _, _, _, _, _, _, _, _, _, _, _, _, _, _, _, _, _, _, _] hs hg
  have hg0 := fun x y => ((Gr.refl ok).set c x (Nat.le_refl _) (Nat.lt_succ_self _) (Nat.le_succ _)).set (c + 1) y (Nat.le_succ _) (Nat.lt_succ_self _) (Nat.le_succ _)
  cases dir
  · simp only [WX, Nat.reduceAdd, e7, w7_1, w7_2, w7_3, w7_25]
    rw [← wp_seq]
    refine T1 _ _ _ [_, _, _, none, _, _, _, _, _, _, _, _, _, _, _, _, _, _, _, _, _, _, _, _, _, _, _, _, _, _, _, _, _, _, _, _, _, _, _, _, _, _, _, _, _, _, _, _, _, _, _, _, _, _, _, _, _, _, _, _, _, _, _] (slD (d := [.i .i64 0]) (ty := 3) (by rw [← hzs]; exact get_same _ _ _) (Nat.lt_succ_self _) (by intro e he; obtain ⟨x, _, rfl⟩ := List.mem_map.1 he; rfl) ?_) (hg0 _ _)
    rw [zE_len, hL]
  · have hst : ∀ x, storeN ((M.set c x).set (c + 1) (rowD [.i .i64 0] 3 [.i .i64 0, .i .i64 zo, .i .i64 zr, .i .i64 zl, .i .i64 zs])) (c + 1) 0 [.i .i64 1] = some (((M.set c x).set (c + 1) (rowD [.i .i64 0] 3 [.i .i64 0, .i .i64 zo, .i .i64 zr, .i .i64 zl, .i .i64 zs])).set (c + 1) (.cells 3 5 true 0 false [.i .i64 0] (listTr [.i .i64 1] 0 (rowT [.i .i64 0, .i .i64 zo, .i .i64 zr, .i .i64 zl, .i .i64 zs])))) := fun x => storeN_of (get_same _ _ _) (by simp) (Nat.le_refl _) rfl
    have i0 : iaSV 1 (.l (c + 1) 0 5 5) (.i .i64 0) = some (.p (c + 1) 0) := iaS_l 1 (c + 1) 0 5 5 0 .i64 (by omega)
    simp only [WX, Nat.reduceAdd, e7, w7_1, w7_2, w7_3, w7_4, w7_25, i0, hst]
    rw [← wp_seq]
    refine T1 _ _ _ [_, _, _, none, _, _, _, _, _, _, _, _, _, _, _, _, _, _, _, _, _, _, _, _, _, _, _, _, _, _, _, _, _, _, _, _, _, _, _, _, _, _, _, _, _, _, _, _, _, _, _, _, _, _, _, _, _, _, _, _, _, _, _] ⟨by intro e he; obtain ⟨x, _, rfl⟩ := List.mem_map.1 he; rfl, .inr ⟨c + 1, 0, .inl ⟨5, by rw [zE_len, hL]; exact Nat.le_refl _, by rw [zE_len, hL]⟩, Nat.lt_succ_self _, fun k hk => ?_⟩⟩ ((hg0 _ _).set (c + 1) _ (by omega) (Nat.lt_succ_self _) (Nat.le_refl _))
    rw [← hzs] at hk ⊢
    have hk : k < 5 := hk
    have hlk := look_some_M (F := F) (get_same ((M.set c (rowB 23 [.i .i64 zn, .b true, .i .i64 zo, .i .i64 zr, .i .i64 zl, .i .i64 zs, .i .i64 zh])).set (c + 1) (rowD [.i .i64 0] 3 [.i .i64 0, .i .i64 zo, .i .i64 zr, .i .i64 zl, .i .i64 zs])) (c + 1) (.cells 3 5 true 0 false [.i .i64 0] (listTr [.i .i64 1] 0 (rowT [.i .i64 0, .i .i64 zo, .i .i64 zr, .i .i64 zl, .i .i64 zs]))))
    show asCells (look F _ (c + 1)) none (fun n d c => cell n d c (0 + k)) = _
    rw [hlk]
    match k, hk with
    | 0, _ => rfl
    | 1, _ => rfl
    | 2, _ => rfl
    | 3, _ => rfl
    | 4, _ => rfl
end Go.Proofs.YtfghalikfoflgaaGreatDoor.Ev
set_option maxRecDepth 10000
set_option maxHeartbeats 4000000
namespace Go.Proofs.YtfghalikfoflgaaGreatDoor.Ev
open Go
theorem i64_sub (a b : Int) (h1 : -9223372036854775808 ≤ a - b) (h2 : a - b < 9223372036854775808) : biV .sub (.i .i64 a) (.i .i64 b) = some (.i .i64 (a - b)) := by rw [bi_sub, wrap_i64 h1 h2]
def NvOk (F : RO) (v : V) : Prop := ∀ M : Mem, eqV F M .slice true v .l0 = some false
structure RdAt (F : RO) (M : Mem) (c rb ty : Nat) (v : V) (l : List UInt8) (a : Nat) : Prop where
  lt : rb < c
  blk : M.get rb = some (rowB ty [v, .i .i64 (a : Int)])
  sl : SlB F M c v l
  le : a ≤ l.length
  mx : l.length ≤ 140737488355328
theorem RdAt.l0 {F : RO} {M : Mem} {c rb ty : Nat} {v : V} {l : List UInt8} {a : Nat} (h : RdAt F M c rb ty v l a) : load1 F M rb 0 = some v := load_row h.blk 0
theorem RdAt.l1 {F : RO} {M : Mem} {c rb ty : Nat} {v : V} {l : List UInt8} {a : Nat} (h : RdAt F M c rb ty v l a) : load1 F M rb 1 = some (.i .i64 (a : Int)) := load_row h.blk 1
theorem SlAt.le {F : RO} {M : Mem} {c c' sz : Nat} {v : V} {es : List (List V)} (h : SlAt F M c sz v es) (hc : c ≤ c') : SlAt F M c' sz v es := by
  rcases h with ⟨h0, h | ⟨b, o, h1, h2, h3⟩⟩
  · exact ⟨h0, .inl h⟩
  · exact ⟨h0, .inr ⟨b, o, h1, Nat.lt_of_lt_of_le h2 hc, h3⟩⟩
def SlLow (F : RO) (M : Mem) (rb : Nat) (v : V) (l : List UInt8) : Prop := ∀ M' : Mem, (∀ b, b < rb → M'.get b = M.get b) → SlB F M' rb v l
theorem slLow {F : RO} {M : Mem} {c : Nat} {v : V} {l : List UInt8} (h : SlB F M c v l) : SlLow F M c v l := by
  intro M' hM
  rcases h with ⟨h0, h | ⟨b, o, h1, h2, h3⟩⟩
  · exact ⟨h0, .inl h⟩
  · exact ⟨h0, .inr ⟨b, o, h1, h2, h3.of_get (hM b h2)⟩⟩
theorem SlLow.up {F : RO} {M M' : Mem} {rb : Nat} {v : V} {l : List UInt8} (h : SlLow F M rb v l) (hM : ∀ b, b < rb → M'.get b = M.get b) : SlLow F M' rb v l := fun M2 h2 => h M2 fun b hb => (h2 b hb).trans (hM b hb)
noncomputable def b25_1 : CC := (.reg [(pqq pa3 (.mv pz0)), (pqq pa4 (.eq true .ptr true pz3 (.c .p0))), (pqq pa5 (.mv pz4)), ⟨(some pa6), .q (.mv pz0), (some (pa5, true))⟩, ⟨(some pa7), .q (.nck pz6), (some (pa5, true))⟩, ⟨(some pa8), .q (.fa 0 pz7), (some (pa5, true))⟩, ⟨(some pa9), .q (.ld1 pz8), (some (pa5, true))⟩, ⟨(some pa10), .q (.eq true .slice true pz9 (.c .l0)), (some (pa5, true))⟩, (pqq pa11 (.pk pz5 pz10 pxF)), (pqq pa2 (.mv pz11))])
noncomputable def b25_2 : CC := (.seq (.reg [(pqq pa2 (.mv pxF))]) (.seq b25_1 .ret))
noncomputable def c25 : CF := .mk 4 [.t pa2] b25_2
theorem e25 (v0 : V) : argTr 4 [v0] = (.n sk3 (some v0) sk3) := rfl
def B25 := ai @e25 (ai (wu b25_1.eq_1) (wu b25_2.eq_1))
theorem w25 (Φ : Nat → Option CF) (h : Φ 25 = some c25) {F : RO} {M : Mem} {c rb ty : Nat} {v : V} {l : List UInt8} {a : Nat} (hr : RdAt F M c rb ty v l a) (hv : NvOk F v) :
    Calls Φ F 25 [.p rb 0] M c fun r M' c' => r = .b true ∧ M' = M ∧ c' = c := by
  refine calls_walk h ?_
  have e1 : eqV F M .ptr true (.p rb 0) .p0 = some false := Eq.trans rfl (Eq.refl _)
  have e2 := hv M
  have l0 := hr.l0
  simp only [WX, B25, v_nck, nckV_p, l0, e1, e2]
noncomputable def b26_1 : CC := (.reg [(pqq pa3 (.mv pz0)), (pee pa4 (.call 25 [pz3])), (pqq pa5 (.un .not pz4))])
noncomputable def b26_2 : CC := (.seq (.reg [(pqq pa2 (.mv (px6 0)))]) .ret)
noncomputable def b26_3 : CC := (.dreg 11 [(0, 0, (pqq pa6 (.mv pz0))), (1, 1, (pqq pa7 (.nck pz6))), (2, 3, (pqq pa8 (.fa 0 pz7))), (3, 7, (pqq pa9 (.ld1 pz8))), (4, 15, (pqq pa10 (.ln .slice pz9))), (5, 0, (pqq pa11 (.mv pz0))), (6, 32, (pqq pa12 (.nck pz11))), (7, 96, (pqq pa13 (.fa 1 pz12))), (8, 224, (pqq pa14 (.ld1 pz13))), (9, 511, (pqq pa15 (.bi .sub pz10 pz14))), (10, 1023, (pqq pa2 (.mv pz15)))])
noncomputable def b26_4 : CC := (.seq (.seq b26_1 (.cond pz5 b26_2 .skip)) (.seq b26_3 .ret))
noncomputable def b26_5 : CC := (.seq (.reg [(pqq pa2 (.mv (px6 0)))]) b26_4)
noncomputable def c26 : CF := .mk 5 [.t pa2] b26_5
theorem e26 (v0 : V) : argTr 5 [v0] = (.n sk4 (some v0) sk4) := rfl
def B26 := ai @e26 (ai (wu b26_1.eq_1) (ai (wu b26_2.eq_1) (ai (wu b26_3.eq_1) (ai (wu b26_4.eq_1) (wu b26_5.eq_1)))))
theorem w26 (Φ : Nat → Option CF) (h : Φ 26 = some c26) (h25 : Φ 25 = some c25) {F : RO} {M : Mem} {c rb ty : Nat} {v : V} {l : List UInt8} {a : Nat} (ok : Okm F M c) (hr : RdAt F M c rb ty v l a) (hv : NvOk F v) :
    Calls Φ F 26 [.p rb 0] M c fun r M' c' => r = .i .i64 ((l.length - a : Nat) : Int) ∧ M' = M ∧ c ≤ c' := by
  refine calls_walk h ?_
  have l0 := hr.l0
  have l1 := hr.l1
  have hle := hr.le
  have hmx := hr.mx
  have hln := hr.sl.len
  have qs : biV .sub (.i .i64 (l.length : Int)) (.i .i64 (a : Int)) = some (.i .i64 ((l.length - a : Nat) : Int)) := by rw [i64_sub _ _ (by omega) (by omega)]; congr 2; omega
  simp only [WX, B26]
  refine putE_to ((w25 Φ h25 hr hv).mono ?_)
  rintro r M1 c1 ⟨rfl, rfl, rfl⟩
  simp only [WX, B26, nckV_p, dq_nck, l0, l1, hln, qs]
  exact Nat.le_add_right _ _
noncomputable def b17_1 : CC := (.dreg 11 [(0, 0, (pqq pa3 (.mv pz0))), (1, 1, (pqq pa4 (.nck pz3))), (2, 3, (pqq pa5 (.fa 0 pz4))), (3, 7, (pqq pa6 (.ld1 pz5))), (4, 15, (pqq pa7 (.ln .slice pz6))), (5, 0, (pqq pa8 (.mv pz0))), (6, 32, (pqq pa9 (.nck pz8))), (7, 96, (pqq pa10 (.fa 1 pz9))), (8, 224, (pqq pa11 (.ld1 pz10))), (9, 511, (pqq pa12 (.bi .sub pz7 pz11))), (10, 1023, (pqq pa2 (.mv pz12)))])
noncomputable def b17_2 : CC := (.seq (.reg [(pqq pa2 (.mv (px6 0)))]) (.seq b17_1 .ret))
noncomputable def c17 : CF := .mk 4 [.t pa2] b17_2
theorem e17 (v0 : V) : argTr 4 [v0] = (.n sk3 (some v0) sk3) := rfl
def B17 := ai @e17 (ai (wu b17_1.eq_1) (wu b17_2.eq_1))
theorem w17 (Φ : Nat → Option CF) (h : Φ 17 = some c17) {F : RO} {M : Mem} {c rb ty : Nat} {v : V} {l : List UInt8} {a : Nat} (ok : Okm F M c) (hr : RdAt F M c rb ty v l a) :
    Calls Φ F 17 [.p rb 0] M c fun r M' c' => r = .i .i64 ((l.length - a : Nat) : Int) ∧ M' = M ∧ c ≤ c' := by
  refine calls_walk h ?_
  have l0 := hr.l0
  have l1 := hr.l1
  have hle := hr.le
  have hmx := hr.mx
  have hln := hr.sl.len
  have qs : biV .sub (.i .i64 (l.length : Int)) (.i .i64 (a : Int)) = some (.i .i64 ((l.length - a : Nat) : Int)) := by rw [i64_sub _ _ (by omega) (by omega)]; congr 2; omega
  simp only [WX, B17, nckV_p, dq_nck, l0, l1, hln, qs]
  exact Nat.le_add_right _ _
noncomputable def b15_1 : CC := (.reg [(pqq pa4 (.mv pz0)), (pee pa5 (.call 25 [pz4])), (pqq pa6 (.un .not pz5)), (pqq pa3 (.mv pz6))])
noncomputable def b15_2 : CC := (.seq (.reg [(pqq pa2 (.mv (px6 1)))]) .ret)
noncomputable def b15_3 : CC := (.reg [(pqq pa8 (.mv pz0)), (pee pa9 (.call 26 [pz8])), (pqq pa10 (.bi .gtr pz9 (px6 0))), (pqq pa7 (.mv pz10))])
noncomputable def b15_4 : CC := (.seq (.reg [(pqq pa2 (.mv (px6 4)))]) .ret)
noncomputable def b15_5 : CC := (.cond pz3 b15_2 (.seq b15_3 (.cond pz7 b15_4 .skip)))
noncomputable def b15_6 : CC := (.seq (.reg [(pqq pa2 (.mv (px6 0)))]) .ret)
noncomputable def b15_7 : CC := (.seq (.reg [(pqq pa2 (.mv (px6 0)))]) (.seq (.block 0 (.seq b15_1 b15_5)) b15_6))
noncomputable def c15 : CF := .mk 4 [.t pa2] b15_7
theorem e15 (v0 : V) : argTr 4 [v0] = (.n sk3 (some v0) sk3) := rfl
def B15 := ai @e15 (ai (wu b15_1.eq_1) (ai (wu b15_2.eq_1) (ai (wu b15_3.eq_1) (ai (wu b15_4.eq_1) (ai (wu b15_5.eq_1) (ai (wu b15_6.eq_1) (wu b15_7.eq_1)))))))
theorem w15 (Φ : Nat → Option CF) (h : Φ 15 = some c15) (h25 : Φ 25 = some c25) (h26 : Φ 26 = some c26) {F : RO} {M : Mem} {c rb ty : Nat} {v : V} {l : List UInt8} {a : Nat} (ok : Okm F M c) (hr : RdAt F M c rb ty v l a) (hv : NvOk F v) :
    Calls Φ F 15 [.p rb 0] M c fun r M' c' => r = .i .i64 (if a = l.length then 0 else 4) ∧ M' = M ∧ c ≤ c' := by
  refine calls_walk h ?_
  have hle := hr.le
  simp only [WX, B15]
  refine putE_to ((w25 Φ h25 hr hv).mono ?_)
  rintro r M1 c1 ⟨rfl, rfl, rfl⟩
  simp only [WX, B15]
  refine putE_to ((w26 Φ h26 h25 ok hr hv).mono ?_)
  rintro r M2 c2 ⟨rfl, rfl, hc⟩
  by_cases ha : a = l.length
  · have d1 : decide ((0 : Int) < ((l.length - a : Nat) : Int)) = false := decide_eq_false (by omega)
    rw [if_pos ha]
    simp only [WX, B15, d1]
    exact hc
  · have d1 : decide ((0 : Int) < ((l.length - a : Nat) : Int)) = true := decide_eq_true (by omega)
    rw [if_neg ha]
    simp only [WX, B15, d1]
    exact hc
noncomputable def b13_1 : CC := (.reg [(pqq pa3 (.mv pz0)), (pqq pa4 (.ln .slice pz3)), (pqq pa5 (.bi .add pz4 (px6 1))), (paa pa6 (.mks 5 1 1 [(.i .u8 0)] (px6 0) pz5)), (pqq pa7 (.mv pz0)), (pee pa8 (.app 5 1 1 pz6 pz7)), (pqq pa9 (.bld [.l0, (.i .i64 0)] [(0, 1, pz8)])), (paa pa10 (.bx 69 2 pz9)), (pqq pa2 (.mv pz10))])
noncomputable def b13_2 : CC := (.seq (.reg [(pqq pa2 (.mv (.c .p0)))]) (.seq b13_1 .ret))
noncomputable def c13 : CF := .mk 4 [.t pa2] b13_2
theorem e13 (v0 : V) : argTr 4 [v0] = (.n sk3 (some v0) sk3) := rfl
def B13 := ai @e13 (ai (wu b13_1.eq_1) (wu b13_2.eq_1))
theorem w13 (Φ : Nat → Option CF) (h : Φ 13 = some c13) {F : RO} {M : Mem} {c : Nat} {v : V} {l : List UInt8} (ok : Okm F M c) (hs : SlB F M c v l) (hl : l.length < 140737488355328) :
    Calls Φ F 13 [v] M c fun r M' c' => ∃ rb v', r = .p rb 0 ∧ RdAt F M' c' rb 69 v' l 0 ∧ NvOk F v' ∧ SlLow F M' rb v' l ∧ c ≤ rb ∧ Gr c M c' M' := by
  refine calls_walk h ?_
  have hln := hs.len
  have q1 : biV .add (.i .i64 (l.length : Int)) (.i .i64 1) = some (.i .i64 ((l.length + 1 : Nat) : Int)) := by rw [i64_add _ _ (by omega) (by omega)]; simp
  have q2 : ∀ b, mksA 5 1 1 [V.i .u8 0] (.i .i64 0) (.i .i64 ((l.length + 1 : Nat) : Int)) b = some (.l b 0 0 (l.length + 1), .cells 5 ((l.length + 1) * 1) true 0 false [V.i .u8 0] .e) := fun b => mksA_i 5 1 1 _ .i64 .i64 0 (l.length + 1) b (by omega) (by omega)
  have g0 := fun x => (Gr.refl ok).set c x (Nat.le_refl _) (Nat.lt_succ_self _) (Nat.le_succ _)
  have cap0 : CapAt (M.set c (.cells 5 ((l.length + 1) * 1) true 0 false [V.i .u8 0] .e)) c (c + 1) c 5 1 (l.length + 1) (.l c 0 0 (l.length + 1)) [] := capNil (get_same _ _ _) (Nat.le_refl _) (Nat.lt_succ_self _)
  have fin : ∀ (M1 : Mem) (c1 : Nat) (v1 : V) (n : Nat), SlB F M1 c1 v1 l → Gr c M c1 M1 → v1 = .l c 0 n (l.length + 1) → ∃ rb v', V.p c1 0 = .p rb 0 ∧ RdAt F (M1.set c1 (rowB 69 [v1, .i .i64 0])) (c1 + 1) rb 69 v' l 0 ∧ NvOk F v' ∧ SlLow F (M1.set c1 (rowB 69 [v1, .i .i64 0])) rb v' l ∧ c ≤ rb ∧ Gr c M (c1 + 1) (M1.set c1 (rowB 69 [v1, .i .i64 0])) := by
    intro M1 c1 v1 n hs1 hg1 hv1
    have hg2 := hg1.set c1 (rowB 69 [v1, .i .i64 0]) hg1.le (Nat.lt_succ_self _) (Nat.le_succ _)
    refine ⟨c1, v1, rfl, ⟨Nat.lt_succ_self _, get_same _ _ _, hs1.grow ((Gr.refl (hg1.ok ok)).set c1 _ (Nat.le_refl _) (Nat.lt_succ_self _) (Nat.le_succ _)), Nat.zero_le _, by omega⟩, fun M => ?_, (slLow hs1).up fun b hb => get_ne _ _ (Nat.ne_of_lt hb), hg1.le, hg2⟩
    rw [hv1]; exact Eq.trans rfl (Eq.refl _)
  have fl : ∀ b o n m, flatten (.l b o n m) = [.l b o n m] := fun _ _ _ _ => rfl
  simp only [WX, B13, hln, q1, q2]
  by_cases hne : l = []
  · subst hne
    have e1 : appV F (M.set c (.cells 5 ((([] : List UInt8).length + 1) * 1) true 0 false [V.i .u8 0] .e)) (c + 1) 5 1 1 (.l c 0 0 (([] : List UInt8).length + 1)) v = .k (.l c 0 0 (([] : List UInt8).length + 1)) (M.set c (.cells 5 ((([] : List UInt8).length + 1) * 1) true 0 false [V.i .u8 0] .e)) (c + 1) := by
      unfold appV
      rw [split_sl Nat.one_pos (SlAt.grow hs (g0 _))]
      rfl
    refine putE_to ⟨_, _, _, e1, ?_⟩
    simp only [WX, Nat.reduceAdd, Nat.reduceLeDiff, fl]
    exact fin _ _ _ 0 cap0.sl (g0 _) rfl
  · refine putE_to ((cappV_to cap0 (g0 _) Nat.one_pos (SlAt.grow hs (g0 _)) (allOne_sl _) (by rw [bE_len, List.length_nil]; omega) (by simpa using hne)).mono ?_)
    rintro v1 M1 c1 ⟨rfl, hc1, hg1, -⟩
    rw [List.nil_append] at hc1
    have hv1 := hc1.2.2.2.2.1
    have hs1 : SlB F M1 (c + 1) v1 l := hc1.sl
    subst hv1
    simp only [WX, Nat.reduceAdd, Nat.reduceLeDiff, fl]
    exact fin _ _ _ _ hs1 hg1 rfl
end Go.Proofs.YtfghalikfoflgaaGreatDoor.Ev
set_option maxRecDepth 10000
set_option maxHeartbeats 4000000
namespace Go.Proofs.YtfghalikfoflgaaGreatDoor.Ev
open Go
def rdN : List UInt8 → Nat → Nat → Option (Nat × Nat)
  | [], _, _ => none
  | x :: r, i, acc => if (i = 9 ∧ 1 < x.toNat) ∨ (0 < i ∧ x.toNat = 0) then none else if x.toNat < 128 then some (acc + x.toNat % 128 * 128 ^ i, i + 1) else rdN r (i + 1) (acc + x.toNat % 128 * 128 ^ i)
theorem rdN_bad {x : UInt8} {r : List UInt8} {i acc : Nat} (h : (i = 9 ∧ 1 < x.toNat) ∨ (0 < i ∧ x.toNat = 0)) : rdN (x :: r) i acc = none := by rw [rdN, if_pos h]
theorem rdN_end {x : UInt8} {r : List UInt8} {i acc : Nat} (h : ¬ ((i = 9 ∧ 1 < x.toNat) ∨ (0 < i ∧ x.toNat = 0))) (h2 : x.toNat < 128) : rdN (x :: r) i acc = some (acc + x.toNat % 128 * 128 ^ i, i + 1) := by rw [rdN, if_neg h, if_pos h2]
theorem rdN_go {x : UInt8} {r : List UInt8} {i acc : Nat} (h : ¬ ((i = 9 ∧ 1 < x.toNat) ∨ (0 < i ∧ x.toNat = 0))) (h2 : ¬ x.toNat < 128) : rdN (x :: r) i acc = rdN r (i + 1) (acc + x.toNat % 128 * 128 ^ i) := by rw [rdN, if_neg h, if_neg h2]
theorem u8_and127 (x : UInt8) : biV .and (.i .u8 (x.toNat : Int)) (.i .u8 127) = some (.i .u8 ((x.toNat % 128 : Nat) : Int)) := by
  have hx := x.toNat_lt
  rw [bi_and, toU_u8, toU_u8, wrap_u8]
  have e1 : ((x.toNat : Int) % 256).toNat = x.toNat := by omega
  have e2 : ((127 : Int) % 256).toNat = 2 ^ 7 - 1 := rfl
  rw [e1, e2, Nat.and_two_pow_sub_one_eq_mod]
  congr 2; omega
theorem u8_rem128 (x : UInt8) : biV .rem (.i .u8 (x.toNat : Int)) (.i .u8 128) = some (.i .u8 ((x.toNat % 128 : Nat) : Int)) := by
  show (b_rem .u8 (x.toNat : Int) ((128 : Nat) : Int)).val = _
  unfold b_rem
  rw [eqI_iff, decide_eq_false (by omega), cond_false, vI_eq, ← Int.ofNat_tmod]; rfl
theorem pow7 (i : Nat) : (2 : Nat) ^ (7 * i) = 128 ^ i := by rw [Nat.pow_mul]
theorem lim9 {i x acc : Nat} (hi : i ≤ 9) (hx : ¬ (i = 9 ∧ 1 < x)) (ha : acc < 128 ^ i) : acc + x % 128 * 128 ^ i < 18446744073709551616 := by
  have h1 : x % 128 ≤ 127 := by omega
  rcases Nat.lt_or_ge i 9 with h | h
  · have h8 : 128 ^ i ≤ 128 ^ 8 := Nat.pow_le_pow_right (by omega) (by omega)
    have h2 : x % 128 * 128 ^ i ≤ 127 * 128 ^ i := Nat.mul_le_mul_right _ h1
    have e8 : (128 : Nat) ^ 8 = 72057594037927936 := by decide
    rw [e8] at h8
    generalize 128 ^ i = p at ha h8 h2
    generalize x % 128 * p = q at h2 ⊢
    omega
  · obtain rfl : i = 9 := by omega
    have h3 : x ≤ 1 := by omega
    have e9 : (128 : Nat) ^ 9 = 9223372036854775808 := by decide
    rw [e9] at ha ⊢
    have : x % 128 * 9223372036854775808 ≤ 1 * 9223372036854775808 := Nat.mul_le_mul_right _ (by omega)
    omega
theorem acc_lt {i x acc : Nat} (ha : acc < 128 ^ i) : acc + x % 128 * 128 ^ i < 128 ^ (i + 1) := by
  have h1 : x % 128 ≤ 127 := by omega
  have h2 : x % 128 * 128 ^ i ≤ 127 * 128 ^ i := Nat.mul_le_mul_right _ h1
  rw [Nat.pow_succ]
  generalize 128 ^ i = p at ha h2 ⊢
  generalize x % 128 * p = q at h2 ⊢
  omega
theorem shc (n : Nat) (hn : n ≤ 64) : shCount .u64 n = n := by
  unfold shCount
  rw [bleN, decide_eq_true (show n ≤ kbits .u64 from hn)]; rfl
theorem u64_shl7 (k : IntKind) (x i : Nat) (hi : i ≤ 9) (h : x * 128 ^ i < 18446744073709551616) : biV .shl (.i .u64 (x : Int)) (.i k ((7 * i : Nat) : Int)) = some (.i .u64 ((x * 128 ^ i : Nat) : Int)) := by
  rw [bi_shl, shc _ (by omega), pow7, wrap_u64, ← Int.natCast_mul]
  generalize x * 128 ^ i = p at h ⊢
  congr 2; omega
theorem or_add (acc y i : Nat) (h : acc < 128 ^ i) : acc ||| y * 128 ^ i = acc + y * 128 ^ i := by
  rw [← pow7] at h ⊢
  rw [Nat.mul_comm y, Nat.or_comm, ← Nat.two_pow_add_eq_or_of_lt h y, Nat.add_comm]
def RdP (M : Mem) (c rb ty : Nat) (v : V) (l : List UInt8) (a : Nat) (r : V) (M' : Mem) (c' : Nat) : Prop :=
  c ≤ c' ∧ match rdN (l.drop a) 0 0 with
    | some (n, j) => r = .t [.i .u64 (n : Int), .i .i64 0] ∧ M' = M.set rb (rowB ty [v, .i .i64 ((a + j : Nat) : Int)])
    | none => r = .t [.i .u64 0, .i .i64 4] ∧ M' = M
theorem RdP.no {M : Mem} {c rb ty : Nat} {v : V} {l : List UInt8} {a c' : Nat} (h : rdN (l.drop a) 0 0 = none) (hc : c ≤ c') : RdP M c rb ty v l a (.t [.i .u64 0, .i .i64 4]) M c' := by
  unfold RdP; rw [h]; exact ⟨hc, rfl, rfl⟩
theorem RdP.yes {M : Mem} {c rb ty : Nat} {v : V} {l : List UInt8} {a c' n j : Nat} (h : rdN (l.drop a) 0 0 = some (n, j)) (hc : c ≤ c') : RdP M c rb ty v l a (.t [.i .u64 (n : Int), .i .i64 0]) (M.set rb (rowB ty [v, .i .i64 ((a + j : Nat) : Int)])) c' := by
  unfold RdP; rw [h]; exact ⟨hc, rfl, rfl⟩
theorem drop_get {l : List UInt8} {k : Nat} (h : k < l.length) : l.drop k = l[k] :: l.drop (k + 1) := List.drop_eq_getElem_cons h
end Go.Proofs.YtfghalikfoflgaaGreatDoor.Ev
set_option maxRecDepth 10000
set_option maxHeartbeats 8000000
namespace Go.Proofs.YtfghalikfoflgaaGreatDoor.Ev
open Go
def scF (_ _ : Nat) (_ : St) : Prop := False
noncomputable def b14_1 : CC := (.reg [(pqq pa2 (.mv (.c (.i .u64 0)))), (pqq pa3 (.mv (px6 0)))])
noncomputable def b14_2 : CC := (.reg [(pqq pa8 (.mv pz0)), (pee pa9 (.call 25 [pz8])), (pqq pa10 (.un .not pz9))])
noncomputable def b14_3 : CC := (.reg [(pqq pa2 (.mv (.c (.i .u64 0)))), (pqq pa3 (.mv (px6 1)))])
noncomputable def b14_4 : CC := (.seq b14_2 (.cond pz10 (.seq b14_3 .ret) .skip))
noncomputable def b14_5 : CC := (.dreg 6 [(0, 0, (pqq pa11 (.mv pz0))), (1, 1, (pqq pa12 (.nck pz11))), (2, 3, (pqq pa13 (.fa 1 pz12))), (3, 7, (pqq pa14 (.ld1 pz13))), (4, 0, (pqq pa4 (.mv (.c (.i .u64 0))))), (5, 31, (pqq pa5 (.mv pz14)))])
noncomputable def b14_6 : CC := (.reg [(pqq pa6 (.mv (.c (.i .u64 0))))])
noncomputable def b14_7 : CC := (.reg [(pqq pa15 (.mv pz5)), (pqq pa16 (.mv pz0)), (pqq pa17 (.nck pz16)), (pqq pa18 (.fa 0 pz17)), (pqq pa19 (.ld1 pz18)), (pqq pa20 (.ln .slice pz19)), (pqq pa21 (.bi .lss pz15 pz20))])
noncomputable def b14_8 : CC := (.seq b14_7 (.cond pz21 .skip (.exit 0)))
noncomputable def b14_9 : CC := (.reg [(pqq pa24 (.mv pz0)), (pqq pa25 (.nck pz24)), (pqq pa26 (.fa 0 pz25)), (pqq pa27 (.ld1 pz26)), (pqq pa28 (.mv pz5)), (pqq pa29 (.iaS 1 pz27 pz28)), (pqq pa30 (.ld1 pz29)), (pqq pa7 (.mv pz30))])
noncomputable def b14_10 : CC := (.reg [(pqq pa31 (.mv pz6)), (pqq pa32 (.bi .eql pz31 (.c (.i .u64 63)))), (pqq pa33 (.mv pz32)), ⟨(some pa34), .q (.mv pz7), (some (pa33, true))⟩, ⟨(some pa35), .q (.bi .gtr pz34 (.c (.i .u8 1))), (some (pa33, true))⟩, (pqq pa36 (.pk pz33 pz35 pxF)), (pqq pa37 (.mv pz36)), ⟨(some pa38), .q (.mv pz6), (some (pa37, false))⟩, ⟨(some pa39), .q (.bi .gtr pz38 (.c (.i .u64 0))), (some (pa37, false))⟩, ⟨(some pa40), .q (.mv pz39), (some (pa37, false))⟩, ⟨(some pa41), .q (.mv pz7), (some (pa40, true))⟩, ⟨(some pa42), .q (.bi .eql pz41 (.c (.i .u8 0))), (some (pa40, true))⟩, ⟨(some pa43), .q (.pk pz40 pz42 pxF), (some (pa37, false))⟩, (pqq pa44 (.pk pz37 pxT pz43))])
noncomputable def b14_11 : CC := (.seq b14_10 (.cond pz44 (.exit 0) .skip))
noncomputable def b14_12 : CC := (.reg [(pqq pa45 (.mv pz5)), (pqq pa46 (.bi .add pz45 (px6 1))), (pqq pa5 (.mv pz46))])
noncomputable def b14_13 : CC := (.reg [(pqq pa47 (.mv pz4)), (pqq pa48 (.mv pz7)), (pqq pa49 (.bi .and pz48 (.c (.i .u8 127)))), (pqq pa50 (.ci .u64 pz49)), (pqq pa51 (.mv pz6)), (pqq pa52 (.bi .shl pz50 pz51)), (pqq pa53 (.bi .or pz47 pz52)), (pqq pa4 (.mv pz53))])
noncomputable def b14_14 : CC := (.reg [(pqq pa54 (.mv pz7)), (pqq pa55 (.bi .lss pz54 (.c (.i .u8 128))))])
noncomputable def b14_15 : CC := (.reg [(pqq pa56 (.mv pz0)), (pqq pa57 (.mv pz5)), (pqq pa58 (.nck pz56)), (pqq pa59 (.fa 1 pz58)), (pez (.st 1 pz59 pz57))])
noncomputable def b14_16 : CC := (.reg [(pqq pa60 (.mv pz4)), (pqq pa2 (.mv pz60)), (pqq pa3 (.mv (px6 0)))])
noncomputable def b14_17 : CC := (.cond pz55 (.seq b14_15 (.seq b14_16 .ret)) .skip)
noncomputable def b14_18 : CC := (.seq b14_11 (.seq b14_12 (.seq b14_13 (.seq b14_14 b14_17))))
noncomputable def b14_19 : CC := (.reg [(pqq pa22 (.mv pz6)), (pqq pa23 (.bi .add pz22 (.c (.i .u64 7)))), (pqq pa6 (.mv pz23))])
noncomputable def b14_20 : CC := (.loop (.seq b14_8 (.seq (.block 1 (.seq b14_9 b14_18)) b14_19)))
noncomputable def b14_21 : CC := (.reg [(pqq pa2 (.mv (.c (.i .u64 0)))), (pqq pa3 (.mv (px6 4)))])
noncomputable def b14_22 : CC := (.seq .skip (.seq (.seq b14_6 (.block 0 b14_20)) (.seq b14_21 .ret)))
noncomputable def b14_23 : CC := (.reg [(pqq pa6 (.mv (.c (.i .u64 0))))])
noncomputable def b14_24 : CC := (.reg [(pqq pa15 (.mv pz5)), (pqq pa16 (.mv pz0)), (pqq pa17 (.nck pz16)), (pqq pa18 (.fa 0 pz17)), (pqq pa19 (.ld1 pz18)), (pqq pa20 (.ln .slice pz19)), (pqq pa21 (.bi .lss pz15 pz20))])
noncomputable def b14_25 : CC := (.seq b14_24 (.cond pz21 .skip (.exit 0)))
noncomputable def b14_26 : CC := (.reg [(pqq pa24 (.mv pz0)), (pqq pa25 (.nck pz24)), (pqq pa26 (.fa 0 pz25)), (pqq pa27 (.ld1 pz26)), (pqq pa28 (.mv pz5)), (pqq pa29 (.iaS 1 pz27 pz28)), (pqq pa30 (.ld1 pz29)), (pqq pa7 (.mv pz30))])
noncomputable def b14_27 : CC := (.reg [(pqq pa31 (.mv pz6)), (pqq pa32 (.bi .eql pz31 (.c (.i .u64 63)))), (pqq pa33 (.mv pz32)), ⟨(some pa34), .q (.mv pz7), (some (pa33, true))⟩, ⟨(some pa35), .q (.bi .gtr pz34 (.c (.i .u8 1))), (some (pa33, true))⟩, (pqq pa36 (.pk pz33 pz35 pxF)), (pqq pa37 (.mv pz36)), ⟨(some pa38), .q (.mv pz6), (some (pa37, false))⟩, ⟨(some pa39), .q (.bi .gtr pz38 (.c (.i .u64 0))), (some (pa37, false))⟩, ⟨(some pa40), .q (.mv pz39), (some (pa37, false))⟩, ⟨(some pa41), .q (.mv pz7), (some (pa40, true))⟩, ⟨(some pa42), .q (.bi .eql pz41 (.c (.i .u8 0))), (some (pa40, true))⟩, ⟨(some pa43), .q (.pk pz40 pz42 pxF), (some (pa37, false))⟩, (pqq pa44 (.pk pz37 pxT pz43))])
noncomputable def b14_28 : CC := (.seq b14_27 (.cond pz44 (.exit 0) .skip))
noncomputable def b14_29 : CC := (.reg [(pqq pa45 (.mv pz5)), (pqq pa46 (.bi .add pz45 (px6 1))), (pqq pa5 (.mv pz46))])
noncomputable def b14_30 : CC := (.reg [(pqq pa47 (.mv pz4)), (pqq pa48 (.mv pz7)), (pqq pa49 (.bi .and pz48 (.c (.i .u8 127)))), (pqq pa50 (.ci .u64 pz49)), (pqq pa51 (.mv pz6)), (pqq pa52 (.bi .shl pz50 pz51)), (pqq pa53 (.bi .or pz47 pz52)), (pqq pa4 (.mv pz53))])
noncomputable def b14_31 : CC := (.reg [(pqq pa54 (.mv pz7)), (pqq pa55 (.bi .lss pz54 (.c (.i .u8 128))))])
noncomputable def b14_32 : CC := (.reg [(pqq pa56 (.mv pz0)), (pqq pa57 (.mv pz5)), (pqq pa58 (.nck pz56)), (pqq pa59 (.fa 1 pz58)), (pez (.st 1 pz59 pz57))])
noncomputable def b14_33 : CC := (.reg [(pqq pa60 (.mv pz4)), (pqq pa2 (.mv pz60)), (pqq pa3 (.mv (px6 0)))])
noncomputable def b14_34 : CC := (.cond pz55 (.seq b14_32 (.seq b14_33 .ret)) .skip)
noncomputable def b14_35 : CC := (.seq b14_28 (.seq b14_29 (.seq b14_30 (.seq b14_31 b14_34))))
noncomputable def b14_36 : CC := (.reg [(pqq pa22 (.mv pz6)), (pqq pa23 (.bi .add pz22 (.c (.i .u64 7)))), (pqq pa6 (.mv pz23))])
noncomputable def b14_37 : CC := (.loop (.seq b14_25 (.seq (.block 1 (.seq b14_26 b14_35)) b14_36)))
noncomputable def b14_38 : CC := (.reg [(pqq pa2 (.mv (.c (.i .u64 0)))), (pqq pa3 (.mv (px6 4)))])
noncomputable def b14_39 : CC := (.seq .skip (.seq (.seq b14_23 (.block 0 b14_37)) (.seq b14_38 .ret)))
noncomputable def b14_40 : CC := (.scope (.seq b14_4 (.seq b14_5 b14_22)) (.tab 0 b14_39 .skip))
noncomputable def c14 : CF := .mk 6 [.t pa2, .t pa3] (.seq b14_1 b14_40)
theorem e14 (v0 : V) : argTr 6 [v0] = (.n sk5 (some v0) sk5) := rfl
def B14 := ai @e14 (ai (wu b14_1.eq_1) (ai (wu b14_2.eq_1) (ai (wu b14_3.eq_1) (ai (wu b14_4.eq_1) (ai (wu b14_5.eq_1) (ai (wu b14_6.eq_1) (ai (wu b14_7.eq_1) (ai (wu b14_8.eq_1) (ai (wu b14_9.eq_1) (ai (wu b14_10.eq_1) (ai (wu b14_11.eq_1) (ai (wu b14_12.eq_1) (ai (wu b14_13.eq_1) (ai (wu b14_14.eq_1) (ai (wu b14_15.eq_1) (ai (wu b14_16.eq_1) (ai (wu b14_17.eq_1) (ai (wu b14_18.eq_1) (ai (wu b14_19.eq_1) (ai (wu b14_20.eq_1) (ai (wu b14_21.eq_1) (ai (wu b14_22.eq_1) (ai (wu b14_23.eq_1) (ai (wu b14_24.eq_1) (ai (wu b14_25.eq_1) (ai (wu b14_26.eq_1) (ai (wu b14_27.eq_1) (ai (wu b14_28.eq_1) (ai (wu b14_29.eq_1) (ai (wu b14_30.eq_1) (ai (wu b14_31.eq_1) (ai (wu b14_32.eq_1) (ai (wu b14_33.eq_1) (ai (wu b14_34.eq_1) (ai (wu b14_35.eq_1) (ai (wu b14_36.eq_1) (ai (wu b14_37.eq_1) (ai (wu b14_38.eq_1) (ai (wu b14_39.eq_1) (wu b14_40.eq_1))))))))))))))))))))))))))))))))))))))))
theorem w14 (Φ : Nat → Option CF) (h : Φ 14 = some c14) (h25 : Φ 25 = some c25) {F : RO} {M : Mem} {c rb : Nat} {v : V} {l : List UInt8} {a : Nat} (ok : Okm F M c) (hr : RdAt F M c rb 69 v l a) (hv : NvOk F v) :
    Calls Φ F 14 [.p rb 0] M c fun r M' c' => RdP M c rb 69 v l a r M' c' := by
  refine calls_walk h ?_
  have l0 := hr.l0
  have l1 := hr.l1
  have hle := hr.le
  have hmx := hr.mx
  have hln := hr.sl.len
  simp only [WX, B14]
  refine wp_scopes scF (fun n l s h => h.elim) 0 _ _ ?_
  simp only [WX, B14]
  refine putE_to ((w25 Φ h25 hr hv).mono ?_)
  rintro r M1 c1 ⟨rfl, rfl, rfl⟩
  simp only [WX, B14, nckV_p, dq_nck, l1]
  obtain ⟨I, hI⟩ : ∃ I : Nat → St → Prop, ∀ n s, I n s ↔ (∃ (i acc : Nat) (u : List (Option V)), n = 10 - i ∧ i ≤ 9 ∧ acc < 128 ^ i ∧ a + i ≤ l.length ∧ rdN (l.drop a) 0 0 = rdN (l.drop (a + i)) i acc ∧ s = .mk ((.n (.n (.n (uv7 u 31 15 47 7 39 23 55) (uO u 3) (uv7 u 35 19 51 11 43 27 59)) (uO u 1) (.n (uv7 u 33 17 49 9 41 25 57) (some (.i .i64 ((a + i : Nat) : Int))) (uv7 u 37 21 53 13 45 29 61))) (some (.p rb 0)) (.n (.n (uv7 u 32 16 48 8 40 24 56) (some (.i .u64 (acc : Int))) (uv7 u 36 20 52 12 44 28 60)) (uO u 2) (.n (uv7 u 34 18 50 10 42 26 58) (some (.i .u64 ((7 * i : Nat) : Int))) (uv7 u 38 22 54 14 46 30 62))))) [] M1 (c1 + 6)) := ⟨fun n s => _, fun _ _ => Iff.rfl⟩
  refine wp_while I ?_ 10 _ ((hI _ _).2 ⟨0, 0, [none, _, _, _, none, none, none, _, _, _, _, _, _, _, _, _, _, _, _, _, _, _, _, _, _, _, _, _, _, _, _, _, _, _, _, _, _, _, _, _, _, _, _, _, _, _, _, _, _, _, _, _, _, _, _, _, _, _, _, _, _, _, _], rfl, by omega, by decide, hle, rfl, rfl⟩)
  intro n s hIs
  obtain ⟨i, acc, u, rfl, hi, hacc, hal, hrd, rfl⟩ := (hI _ _).1 hIs
  clear hIs
  by_cases hlt : a + i < l.length
  · have hd : decide (((a + i : Nat) : Int) < (l.length : Int)) = true := decide_eq_true (by omega)
    obtain ⟨pb, po, hpb, hia, hld⟩ := hr.sl.get (a + i) hlt
    have hia := hia .i64
    rw [drop_get hlt] at hrd
    generalize l[a + i] = x at hld hrd
    have hld : load1 F M1 pb po = some (.i .u8 (x.toNat : Int)) := hld
    have hx := x.toNat_lt
    have q1 : biV .add (.i .i64 ((a + i : Nat) : Int)) (.i .i64 1) = some (.i .i64 ((a + (i + 1) : Nat) : Int)) := by rw [i64_add _ _ (by omega) (by omega)]; congr 2
    have q2 := u8_and127 x
    have q3 : IntKind.u64.wrap ((x.toNat % 128 : Nat) : Int) = ((x.toNat % 128 : Nat) : Int) := by rw [wrap_u64]; omega
    have q6 : biV .add (.i .u64 ((7 * i : Nat) : Int)) (.i .u64 7) = some (.i .u64 ((7 * (i + 1) : Nat) : Int)) := by
      have := u64_add (7 * i) 7 (by omega)
      exact this
    by_cases hbad : (i = 9 ∧ 1 < x.toNat) ∨ (0 < i ∧ x.toNat = 0)
    · rw [rdN_bad hbad] at hrd
      have fin := fun c' hc => RdP.no (M := M1) (c := c1) (rb := rb) (ty := 69) (v := v) (l := l) (a := a) (c' := c') hrd hc
      by_cases h9 : i = 9
      · have e63 : decide (((7 * i : Nat) : Int) = 63) = true := decide_eq_true (by omega)
        by_cases hx1 : 1 < x.toNat
        · have e1 : decide ((1 : Int) < (x.toNat : Int)) = true := decide_eq_true (by omega)
          simp only [WX, reduceCtorEq, B14, scopeQ_ret, scopeQ_ext, v_nck, nckV_p, l0, hln, hd, hia, hld, e63, e1]
          exact fin _ (Nat.le_add_right _ _)
        · have e1 : decide ((1 : Int) < (x.toNat : Int)) = false := decide_eq_false (by omega)
          have e0 : decide ((0 : Int) < ((7 * i : Nat) : Int)) = true := decide_eq_true (by omega)
          have pez : decide ((x.toNat : Int) = 0) = true := decide_eq_true (by omega)
          simp only [WX, reduceCtorEq, B14, scopeQ_ret, scopeQ_ext, v_nck, nckV_p, l0, hln, hd, hia, hld, e63, e1, e0, pez]
          exact fin _ (Nat.le_add_right _ _)
      · have e63 : decide (((7 * i : Nat) : Int) = 63) = false := decide_eq_false (by omega)
        have e0 : decide ((0 : Int) < ((7 * i : Nat) : Int)) = true := decide_eq_true (by omega)
        have pez : decide ((x.toNat : Int) = 0) = true := decide_eq_true (by omega)
        simp only [WX, reduceCtorEq, B14, scopeQ_ret, scopeQ_ext, v_nck, nckV_p, l0, hln, hd, hia, hld, e63, e0, pez]
        exact fin _ (Nat.le_add_right _ _)
    · have hl9 := lim9 (x := x.toNat) hi (fun h => hbad (.inl h)) hacc
      have q4 := u64_shl7 .u64 (x.toNat % 128) i hi (by omega)
      have q5 : biV .or (.i .u64 (acc : Int)) (.i .u64 ((x.toNat % 128 * 128 ^ i : Nat) : Int)) = some (.i .u64 ((acc + x.toNat % 128 * 128 ^ i : Nat) : Int)) := by rw [u64_or _ _ (by omega) (by omega), or_add _ _ _ hacc]
      have hst := store_row hr.blk 1 [.i .i64 ((a + (i + 1) : Nat) : Int)] (by simp) rfl
      have hov : over [v, V.i .i64 (a : Int)] 1 [.i .i64 ((a + (i + 1) : Nat) : Int)] = [v, .i .i64 ((a + (i + 1) : Nat) : Int)] := rfl
      rw [hov] at hst
      have hal' := acc_lt (x := x.toNat) hacc
      generalize hA : acc + x.toNat % 128 * 128 ^ i = acc' at q5 hl9 hal'
      generalize x.toNat % 128 * 128 ^ i = y at q4 q5
      have he := fun h2 => hrd.trans (rdN_end (r := l.drop (a + i + 1)) hbad h2)
      have hg := fun h2 => hrd.trans (rdN_go (r := l.drop (a + i + 1)) hbad h2)
      rw [hA] at he hg
      by_cases hlast : x.toNat < 128
      · have dl : decide ((x.toNat : Int) < 128) = true := decide_eq_true (by omega)
        have fin := fun c' hc => RdP.yes (M := M1) (c := c1) (rb := rb) (ty := 69) (v := v) (l := l) (a := a) (c' := c') (he hlast) hc
        by_cases h9 : i = 9
        · have e63 : decide (((7 * i : Nat) : Int) = 63) = true := decide_eq_true (by omega)
          have e1 : decide ((1 : Int) < (x.toNat : Int)) = false := decide_eq_false (by omega)
          have e0 : decide ((0 : Int) < ((7 * i : Nat) : Int)) = true := decide_eq_true (by omega)
          have pez : decide ((x.toNat : Int) = 0) = false := decide_eq_false (by omega)
          simp only [WX, B14, scopeQ_ret, v_nck, nckV_p, l0, hln, hd, hia, hld, e63, e1, e0, pez, q1, q2, q3, q4, q5, dl, hst]
          exact fin _ (Nat.le_add_right _ _)
        · have e63 : decide (((7 * i : Nat) : Int) = 63) = false := decide_eq_false (by omega)
          by_cases h0 : 0 < i
          · have e0 : decide ((0 : Int) < ((7 * i : Nat) : Int)) = true := decide_eq_true (by omega)
            have pez : decide ((x.toNat : Int) = 0) = false := decide_eq_false (by omega)
            simp only [WX, B14, scopeQ_ret, v_nck, nckV_p, l0, hln, hd, hia, hld, e63, e0, pez, q1, q2, q3, q4, q5, dl, hst]
            exact fin _ (Nat.le_add_right _ _)
          · have e0 : decide ((0 : Int) < ((7 * i : Nat) : Int)) = false := decide_eq_false (by omega)
            simp only [WX, B14, scopeQ_ret, v_nck, nckV_p, l0, hln, hd, hia, hld, e63, e0, q1, q2, q3, q4, q5, dl, hst]
            exact fin _ (Nat.le_add_right _ _)
      · have dl : decide ((x.toNat : Int) < 128) = false := decide_eq_false (by omega)
        have h9 : i ≠ 9 := fun e => hbad (.inl ⟨e, by omega⟩)
        have e63 : decide (((7 * i : Nat) : Int) = 63) = false := decide_eq_false (by omega)
        by_cases h0 : 0 < i
        · have e0 : decide ((0 : Int) < ((7 * i : Nat) : Int)) = true := decide_eq_true (by omega)
          have pez : decide ((x.toNat : Int) = 0) = false := decide_eq_false (by omega)
          simp only [WX, B14, v_nck, nckV_p, l0, hln, hd, hia, hld, e63, e0, pez, q1, q2, q3, q4, q5, q6, dl]
          exact ⟨10 - (i + 1), by omega, (hI _ _).2 ⟨i + 1, acc', [none, _, _, _, none, none, none, _, _, _, _, _, _, _, _, _, _, _, _, _, _, _, _, _, _, _, _, _, _, _, _, _, _, _, _, _, _, _, _, _, _, _, _, _, _, _, _, _, _, _, _, _, _, _, _, _, _, _, _, _, _, _, _], rfl, by omega, hal', by omega, hg hlast, rfl⟩⟩
        · have e0 : decide ((0 : Int) < ((7 * i : Nat) : Int)) = false := decide_eq_false (by omega)
          simp only [WX, B14, v_nck, nckV_p, l0, hln, hd, hia, hld, e63, e0, q1, q2, q3, q4, q5, q6, dl]
          exact ⟨10 - (i + 1), by omega, (hI _ _).2 ⟨i + 1, acc', [none, _, _, _, none, none, none, _, _, _, _, _, _, _, _, _, _, _, _, _, _, _, _, _, _, _, _, _, _, _, _, _, _, _, _, _, _, _, _, _, _, _, _, _, _, _, _, _, _, _, _, _, _, _, _, _, _, _, _, _, _, _, _], rfl, by omega, hal', by omega, hg hlast, rfl⟩⟩
  · have hd : decide (((a + i : Nat) : Int) < (l.length : Int)) = false := decide_eq_false (by omega)
    rw [show l.drop (a + i) = [] from List.drop_of_length_le (by omega)] at hrd
    have hrd : rdN (l.drop a) 0 0 = none := hrd.trans (by rw [rdN])
    have fin := fun c' hc => RdP.no (M := M1) (c := c1) (rb := rb) (ty := 69) (v := v) (l := l) (a := a) (c' := c') hrd hc
    simp only [WX, B14, scopeQ_ret, scopeQ_ext, v_nck, nckV_p, l0, hln, hd]
    exact fin _ (Nat.le_add_right _ _)
end Go.Proofs.YtfghalikfoflgaaGreatDoor.Ev
set_option maxRecDepth 10000
set_option maxHeartbeats 8000000
namespace Go.Proofs.YtfghalikfoflgaaGreatDoor.Ev
open Go
noncomputable def b16_1 : CC := (.reg [(pqq pa2 (.mv (.c (.i .u64 0)))), (pqq pa3 (.mv (px6 0)))])
noncomputable def b16_2 : CC := (.reg [(pqq pa4 (.mv (.c (.i .u64 0))))])
noncomputable def b16_3 : CC := (.reg [(pqq pa5 (.mv (px6 0)))])
noncomputable def b16_4 : CC := (.dreg 16 [(0, 0, (pqq pa7 (.mv pz5))), (1, 1, (pqq pa8 (.bi .lss pz7 (px6 10)))), (2, 3, (pqq pa9 (.mv pz8))), (3, 7, ⟨(some pa10), .q (.mv pz0), (some (pa9, true))⟩), (4, 15, ⟨(some pa11), .q (.nck pz10), (some (pa9, true))⟩), (5, 31, ⟨(some pa12), .q (.fa 1 pz11), (some (pa9, true))⟩), (6, 63, ⟨(some pa13), .q (.ld1 pz12), (some (pa9, true))⟩), (7, 7, ⟨(some pa14), .q (.mv pz5), (some (pa9, true))⟩), (8, 255, ⟨(some pa15), .q (.bi .add pz13 pz14), (some (pa9, true))⟩), (9, 7, ⟨(some pa16), .q (.mv pz0), (some (pa9, true))⟩), (10, 519, ⟨(some pa17), .q (.nck pz16), (some (pa9, true))⟩), (11, 1543, ⟨(some pa18), .q (.fa 0 pz17), (some (pa9, true))⟩), (12, 3591, ⟨(some pa19), .q (.ld1 pz18), (some (pa9, true))⟩), (13, 7687, ⟨(some pa20), .q (.ln .slice pz19), (some (pa9, true))⟩), (14, 16383, ⟨(some pa21), .q (.bi .lss pz15 pz20), (some (pa9, true))⟩), (15, 32767, (pqq pa22 (.pk pz9 pz21 pxF)))])
noncomputable def b16_5 : CC := (.seq b16_4 (.cond pz22 .skip (.exit 0)))
noncomputable def b16_6 : CC := (.dreg 13 [(0, 0, (pqq pa25 (.mv pz0))), (1, 1, (pqq pa26 (.nck pz25))), (2, 3, (pqq pa27 (.fa 0 pz26))), (3, 7, (pqq pa28 (.ld1 pz27))), (4, 0, (pqq pa29 (.mv pz0))), (5, 16, (pqq pa30 (.nck pz29))), (6, 48, (pqq pa31 (.fa 1 pz30))), (7, 112, (pqq pa32 (.ld1 pz31))), (8, 0, (pqq pa33 (.mv pz5))), (9, 496, (pqq pa34 (.bi .add pz32 pz33))), (10, 1023, (pqq pa35 (.iaS 1 pz28 pz34))), (11, 2047, (pqq pa36 (.ld1 pz35))), (12, 4095, (pqq pa6 (.mv pz36)))])
noncomputable def b16_7 : CC := (.reg [(pqq pa37 (.mv pz5)), (pqq pa38 (.bi .eql pz37 (px6 9))), (pqq pa39 (.mv pz38)), ⟨(some pa40), .q (.mv pz6), (some (pa39, true))⟩, ⟨(some pa41), .q (.bi .gtr pz40 (.c (.i .u8 1))), (some (pa39, true))⟩, (pqq pa42 (.pk pz39 pz41 pxF)), (pqq pa43 (.mv pz42)), ⟨(some pa44), .q (.mv pz5), (some (pa43, false))⟩, ⟨(some pa45), .q (.bi .gtr pz44 (px6 0)), (some (pa43, false))⟩, ⟨(some pa46), .q (.mv pz45), (some (pa43, false))⟩, ⟨(some pa47), .q (.mv pz6), (some (pa46, true))⟩, ⟨(some pa48), .q (.bi .eql pz47 (.c (.i .u8 0))), (some (pa46, true))⟩, ⟨(some pa49), .q (.pk pz46 pz48 pxF), (some (pa43, false))⟩, (pqq pa50 (.pk pz43 pxT pz49))])
noncomputable def b16_8 : CC := (.reg [(pqq pa2 (.mv (.c (.i .u64 0)))), (pqq pa3 (.mv (px6 4)))])
noncomputable def b16_9 : CC := (.cond pz50 (.seq b16_8 .ret) .skip)
noncomputable def b16_10 : CC := (.reg [(pqq pa51 (.mv pz4)), (pqq pa52 (.mv pz6)), (pqq pa53 (.bi .rem pz52 (.c (.i .u8 128)))), (pqq pa54 (.ci .u64 pz53)), (pqq pa55 (.mv pz5)), (pqq pa56 (.bi .mul (px6 7) pz55)), (pqq pa57 (.bi .shl pz54 pz56)), (pqq pa58 (.bi .add pz51 pz57)), (pqq pa4 (.mv pz58))])
noncomputable def b16_11 : CC := (.reg [(pqq pa59 (.mv pz6)), (pqq pa60 (.bi .lss pz59 (.c (.i .u8 128))))])
noncomputable def b16_12 : CC := (.reg [(pqq pa61 (.mv pz0)), (pqq pa62 (.mv pz0)), (pqq pa63 (.nck pz62)), (pqq pa64 (.fa 1 pz63)), (pqq pa65 (.ld1 pz64)), (pqq pa66 (.mv pz5)), (pqq pa67 (.bi .add pz65 pz66)), (pqq pa68 (.bi .add pz67 (px6 1))), (pqq pa69 (.nck pz61)), (pqq pa70 (.fa 1 pz69)), (pez (.st 1 pz70 pz68))])
noncomputable def b16_13 : CC := (.reg [(pqq pa71 (.mv pz4)), (pqq pa2 (.mv pz71)), (pqq pa3 (.mv (px6 0)))])
noncomputable def b16_14 : CC := (.cond pz60 (.seq b16_12 (.seq b16_13 .ret)) .skip)
noncomputable def b16_15 : CC := (.seq (.seq b16_7 b16_9) (.seq b16_10 (.seq b16_11 b16_14)))
noncomputable def b16_16 : CC := (.reg [(pqq pa23 (.mv pz5)), (pqq pa24 (.bi .add pz23 (px6 1))), (pqq pa5 (.mv pz24))])
noncomputable def b16_17 : CC := (.loop (.seq b16_5 (.seq (.block 1 (.seq b16_6 b16_15)) b16_16)))
noncomputable def b16_18 : CC := (.reg [(pqq pa2 (.mv (.c (.i .u64 0)))), (pqq pa3 (.mv (px6 4)))])
noncomputable def b16_19 : CC := (.seq b16_2 (.seq (.seq b16_3 (.block 0 b16_17)) (.seq b16_18 .ret)))
noncomputable def c16 : CF := .mk 7 [.t pa2, .t pa3] (.seq b16_1 b16_19)
theorem e16 (v0 : V) : argTr 7 [v0] = (.n sk6 (some v0) sk6) := rfl
def B16 := ai @e16 (ai (wu b16_1.eq_1) (ai (wu b16_2.eq_1) (ai (wu b16_3.eq_1) (ai (wu b16_4.eq_1) (ai (wu b16_5.eq_1) (ai (wu b16_6.eq_1) (ai (wu b16_7.eq_1) (ai (wu b16_8.eq_1) (ai (wu b16_9.eq_1) (ai (wu b16_10.eq_1) (ai (wu b16_11.eq_1) (ai (wu b16_12.eq_1) (ai (wu b16_13.eq_1) (ai (wu b16_14.eq_1) (ai (wu b16_15.eq_1) (ai (wu b16_16.eq_1) (ai (wu b16_17.eq_1) (ai (wu b16_18.eq_1) (wu b16_19.eq_1)))))))))))))))))))
theorem w16 (Φ : Nat → Option CF) (h : Φ 16 = some c16) {F : RO} {M : Mem} {c rb : Nat} {v : V} {l : List UInt8} {a : Nat} (ok : Okm F M c) (hr : RdAt F M c rb 47 v l a) :
    Calls Φ F 16 [.p rb 0] M c fun r M' c' => RdP M c rb 47 v l a r M' c' := by
  refine calls_walk h ?_
  have l0 := hr.l0
  have l1 := hr.l1
  have hle := hr.le
  have hmx := hr.mx
  have hln := hr.sl.len
  simp only [WX, B16]
  obtain ⟨I, hI⟩ : ∃ I : Nat → St → Prop, ∀ n s, I n s ↔ (∃ (i acc c1 : Nat) (u : List (Option V)), n = 10 - i ∧ i ≤ 9 ∧ acc < 128 ^ i ∧ a + i ≤ l.length ∧ c ≤ c1 ∧ rdN (l.drop a) 0 0 = rdN (l.drop (a + i)) i acc ∧ s = .mk ((.n (.n (.n (.n (uv7 u 63 31 95 15 79 47 111) (uO u 7) (uv7 u 71 39 103 23 87 55 119)) (uO u 3) (.n (uv7 u 67 35 99 19 83 51 115) (uO u 11) (uv7 u 75 43 107 27 91 59 123))) (uO u 1) (.n (.n (uv7 u 65 33 97 17 81 49 113) (uO u 9) (uv7 u 73 41 105 25 89 57 121)) (some (.i .i64 (i : Int))) (.n (uv7 u 69 37 101 21 85 53 117) (uO u 13) (uv7 u 77 45 109 29 93 61 125)))) (some (.p rb 0)) (.n (.n (.n (uv7 u 64 32 96 16 80 48 112) (uO u 8) (uv7 u 72 40 104 24 88 56 120)) (some (.i .u64 (acc : Int))) (.n (uv7 u 68 36 100 20 84 52 116) (uO u 12) (uv7 u 76 44 108 28 92 60 124))) (uO u 2) (.n (.n (uv7 u 66 34 98 18 82 50 114) (uO u 10) (uv7 u 74 42 106 26 90 58 122)) (uO u 6) (.n (uv7 u 70 38 102 22 86 54 118) (uO u 14) (uv7 u 78 46 110 30 94 62 126)))))) [] M c1) := ⟨fun n s => _, fun _ _ => Iff.rfl⟩
  refine wp_while I ?_ 10 _ ((hI _ _).2 ⟨0, 0, c, [none, _, _, _, none, none, _, _, _, _, _, _, _, _, _, _, _, _, _, _, _, _, _, _, _, _, _, _, _, _, _, _, _, _, _, _, _, _, _, _, _, _, _, _, _, _, _, _, _, _, _, _, _, _, _, _, _, _, _, _, _, _, _, _, _, _, _, _, _, _, _, _, _, _, _, _, _, _, _, _, _, _, _, _, _, _, _, _, _, _, _, _, _, _, _, _, _, _, _, _, _, _, _, _, _, _, _, _, _, _, _, _, _, _, _, _, _, _, _, _, _, _, _, _, _, _, _], rfl, by omega, by decide, hle, Nat.le_refl _, rfl, rfl⟩)
  intro n s hIs
  obtain ⟨i, acc, c1, u, rfl, hi, hacc, hal, hc1, hrd, rfl⟩ := (hI _ _).1 hIs
  clear hIs
  have d10 : decide ((i : Int) < 10) = true := decide_eq_true (by omega)
  have qa : biV .add (.i .i64 (a : Int)) (.i .i64 (i : Int)) = some (.i .i64 ((a + i : Nat) : Int)) := by rw [i64_add _ _ (by omega) (by omega)]; congr 2
  by_cases hlt : a + i < l.length
  · have hd : decide (((a + i : Nat) : Int) < (l.length : Int)) = true := decide_eq_true (by omega)
    obtain ⟨pb, po, hpb, hia, hld⟩ := hr.sl.get (a + i) hlt
    have hia := hia .i64
    rw [drop_get hlt] at hrd
    generalize l[a + i] = x at hld hrd
    have hld : load1 F M pb po = some (.i .u8 (x.toNat : Int)) := hld
    have hx := x.toNat_lt
    have q1 : biV .add (.i .i64 ((a + i : Nat) : Int)) (.i .i64 1) = some (.i .i64 ((a + (i + 1) : Nat) : Int)) := by rw [i64_add _ _ (by omega) (by omega)]; congr 2
    have q2 := u8_rem128 x
    have q3 : IntKind.u64.wrap ((x.toNat % 128 : Nat) : Int) = ((x.toNat % 128 : Nat) : Int) := by rw [wrap_u64]; omega
    have q6 : biV .add (.i .i64 (i : Int)) (.i .i64 1) = some (.i .i64 ((i + 1 : Nat) : Int)) := by rw [i64_add _ _ (by omega) (by omega)]; simp
    have q7 : biV .mul (.i .i64 7) (.i .i64 (i : Int)) = some (.i .i64 ((7 * i : Nat) : Int)) := by rw [i64_mul _ _ (by omega) (by omega)]; simp
    by_cases hbad : (i = 9 ∧ 1 < x.toNat) ∨ (0 < i ∧ x.toNat = 0)
    · rw [rdN_bad hbad] at hrd
      have fin := fun c' hc => RdP.no (M := M) (c := c) (rb := rb) (ty := 47) (v := v) (l := l) (a := a) (c' := c') hrd hc
      by_cases h9 : i = 9
      · have e63 : decide ((i : Int) = 9) = true := decide_eq_true (by omega)
        by_cases hx1 : 1 < x.toNat
        · have e1 : decide ((1 : Int) < (x.toNat : Int)) = true := decide_eq_true (by omega)
          simp only [WX, Nat.reduceAdd, B16, nckV_p, dq_nck, l0, l1, hln, d10, qa, hd, hia, hld, e63, e1]
          exact fin _ (by omega)
        · have e1 : decide ((1 : Int) < (x.toNat : Int)) = false := decide_eq_false (by omega)
          have e0 : decide ((0 : Int) < (i : Int)) = true := decide_eq_true (by omega)
          have pez : decide ((x.toNat : Int) = 0) = true := decide_eq_true (by omega)
          simp only [WX, Nat.reduceAdd, B16, nckV_p, dq_nck, l0, l1, hln, d10, qa, hd, hia, hld, e63, e1, e0, pez]
          exact fin _ (by omega)
      · have e63 : decide ((i : Int) = 9) = false := decide_eq_false (by omega)
        have e0 : decide ((0 : Int) < (i : Int)) = true := decide_eq_true (by omega)
        have pez : decide ((x.toNat : Int) = 0) = true := decide_eq_true (by omega)
        simp only [WX, Nat.reduceAdd, B16, nckV_p, dq_nck, l0, l1, hln, d10, qa, hd, hia, hld, e63, e0, pez]
        exact fin _ (by omega)
    · have hl9 := lim9 (x := x.toNat) hi (fun h => hbad (.inl h)) hacc
      have q4 := u64_shl7 .i64 (x.toNat % 128) i hi (by omega)
      have q5 : biV .add (.i .u64 (acc : Int)) (.i .u64 ((x.toNat % 128 * 128 ^ i : Nat) : Int)) = some (.i .u64 ((acc + x.toNat % 128 * 128 ^ i : Nat) : Int)) := u64_add _ _ hl9
      have hst := store_row hr.blk 1 [.i .i64 ((a + (i + 1) : Nat) : Int)] (by simp) rfl
      have hov : over [v, V.i .i64 (a : Int)] 1 [.i .i64 ((a + (i + 1) : Nat) : Int)] = [v, .i .i64 ((a + (i + 1) : Nat) : Int)] := rfl
      rw [hov] at hst
      have hal' := acc_lt (x := x.toNat) hacc
      generalize hA : acc + x.toNat % 128 * 128 ^ i = acc' at q5 hl9 hal'
      generalize x.toNat % 128 * 128 ^ i = y at q4 q5
      have he := fun h2 => hrd.trans (rdN_end (r := l.drop (a + i + 1)) hbad h2)
      have hg := fun h2 => hrd.trans (rdN_go (r := l.drop (a + i + 1)) hbad h2)
      rw [hA] at he hg
      by_cases hlast : x.toNat < 128
      · have dl : decide ((x.toNat : Int) < 128) = true := decide_eq_true (by omega)
        have fin := fun c' hc => RdP.yes (M := M) (c := c) (rb := rb) (ty := 47) (v := v) (l := l) (a := a) (c' := c') (he hlast) hc
        by_cases h9 : i = 9
        · have e63 : decide ((i : Int) = 9) = true := decide_eq_true (by omega)
          have e1 : decide ((1 : Int) < (x.toNat : Int)) = false := decide_eq_false (by omega)
          have e0 : decide ((0 : Int) < (i : Int)) = true := decide_eq_true (by omega)
          have pez : decide ((x.toNat : Int) = 0) = false := decide_eq_false (by omega)
          simp only [WX, Nat.reduceAdd, B16, v_nck, nckV_p, dq_nck, l0, l1, hln, d10, qa, hd, hia, hld, e63, e1, e0, pez, q1, q2, q3, q4, q5, q7, dl, hst]
          exact fin _ (by omega)
        · have e63 : decide ((i : Int) = 9) = false := decide_eq_false (by omega)
          by_cases h0 : 0 < i
          · have e0 : decide ((0 : Int) < (i : Int)) = true := decide_eq_true (by omega)
            have pez : decide ((x.toNat : Int) = 0) = false := decide_eq_false (by omega)
            simp only [WX, Nat.reduceAdd, B16, v_nck, nckV_p, dq_nck, l0, l1, hln, d10, qa, hd, hia, hld, e63, e0, pez, q1, q2, q3, q4, q5, q7, dl, hst]
            exact fin _ (by omega)
          · have e0 : decide ((0 : Int) < (i : Int)) = false := decide_eq_false (by omega)
            simp only [WX, Nat.reduceAdd, B16, v_nck, nckV_p, dq_nck, l0, l1, hln, d10, qa, hd, hia, hld, e63, e0, q1, q2, q3, q4, q5, q7, dl, hst]
            exact fin _ (by omega)
      · have dl : decide ((x.toNat : Int) < 128) = false := decide_eq_false (by omega)
        have h9 : i ≠ 9 := fun e => hbad (.inl ⟨e, by omega⟩)
        have e63 : decide ((i : Int) = 9) = false := decide_eq_false (by omega)
        by_cases h0 : 0 < i
        · have e0 : decide ((0 : Int) < (i : Int)) = true := decide_eq_true (by omega)
          have pez : decide ((x.toNat : Int) = 0) = false := decide_eq_false (by omega)
          simp only [WX, Nat.reduceAdd, B16, nckV_p, dq_nck, l0, l1, hln, d10, qa, hd, hia, hld, e63, e0, pez, q2, q3, q4, q5, q6, q7, dl]
          exact ⟨10 - (i + 1), by omega, (hI _ _).2 ⟨i + 1, acc', _, [none, _, _, _, none, none, _, _, _, _, _, _, _, _, _, _, _, _, _, _, _, _, _, _, _, _, _, _, _, _, _, _, _, _, _, _, _, _, _, _, _, _, _, _, _, _, _, _, _, _, _, _, _, _, _, _, _, _, _, _, _, _, _, _, _, _, _, _, _, _, _, _, _, _, _, _, _, _, _, _, _, _, _, _, _, _, _, _, _, _, _, _, _, _, _, _, _, _, _, _, _, _, _, _, _, _, _, _, _, _, _, _, _, _, _, _, _, _, _, _, _, _, _, _, _, _, _], rfl, by omega, hal', by omega, by omega, hg hlast, rfl⟩⟩
        · have e0 : decide ((0 : Int) < (i : Int)) = false := decide_eq_false (by omega)
          simp only [WX, Nat.reduceAdd, B16, nckV_p, dq_nck, l0, l1, hln, d10, qa, hd, hia, hld, e63, e0, q2, q3, q4, q5, q6, q7, dl]
          exact ⟨10 - (i + 1), by omega, (hI _ _).2 ⟨i + 1, acc', _, [none, _, _, _, none, none, _, _, _, _, _, _, _, _, _, _, _, _, _, _, _, _, _, _, _, _, _, _, _, _, _, _, _, _, _, _, _, _, _, _, _, _, _, _, _, _, _, _, _, _, _, _, _, _, _, _, _, _, _, _, _, _, _, _, _, _, _, _, _, _, _, _, _, _, _, _, _, _, _, _, _, _, _, _, _, _, _, _, _, _, _, _, _, _, _, _, _, _, _, _, _, _, _, _, _, _, _, _, _, _, _, _, _, _, _, _, _, _, _, _, _, _, _, _, _, _, _], rfl, by omega, hal', by omega, by omega, hg hlast, rfl⟩⟩
  · have hd : decide (((a + i : Nat) : Int) < (l.length : Int)) = false := decide_eq_false (by omega)
    rw [show l.drop (a + i) = [] from List.drop_of_length_le (by omega)] at hrd
    have hrd : rdN (l.drop a) 0 0 = none := hrd.trans (by rw [rdN])
    have fin := fun c' hc => RdP.no (M := M) (c := c) (rb := rb) (ty := 47) (v := v) (l := l) (a := a) (c' := c') hrd hc
    simp only [WX, B16, nckV_p, dq_nck, l0, l1, hln, d10, qa, hd]
    exact fin _ (by omega)
end Go.Proofs.YtfghalikfoflgaaGreatDoor.Ev
set_option maxRecDepth 10000
set_option maxHeartbeats 8000000
namespace Go.Proofs.YtfghalikfoflgaaGreatDoor.Ev
open Go
theorem rdN_le : ∀ (l : List UInt8) (i acc n j : Nat), rdN l i acc = some (n, j) → i < j ∧ j ≤ i + l.length
  | [], i, acc, n, j, h => by rw [rdN] at h; cases h
  | x :: r, i, acc, n, j, h => by
    rw [rdN] at h
    rw [List.length_cons]
    split at h
    · cases h
    · split at h
      · injection h with h; injection h with h1 h2; omega
      · have := rdN_le r _ _ _ _ h; omega
noncomputable def iaAV (len sz : Nat) (x i : V) : Option V := (qop (.iaA len sz (.c x) (.c i)) [] .e .e).val
theorem v_iaA {F : RO} (len sz : Nat) (x i : X) (M : Mem) (t : T) : (qop (.iaA len sz x i) F M t).val = iaAV len sz (x.ev t) (i.ev t) := Eq.trans rfl (Eq.refl _)
theorem iaA_p (len sz b o n : Nat) (k : IntKind) (h : n < len) : iaAV len sz (.p b o) (.i k (n : Int)) = some (.p b (o + n * sz)) := by
  show (q_ia sz b o len (n : Int)).val = _
  show (Bool.rec (motive := fun _ => QR) .f (mkP b (Nat.add o (Nat.mul n sz))) (Nat.blt n len)).val = _
  rw [bb, bltN, if_pos (by simpa using h)]
  unfold mkP
  rw [fN_eq]; rfl
def five : Nat → List UInt8 → Option (List Nat × List UInt8)
  | 0, l => some ([], l)
  | k + 1, l => match rdN l 0 0 with
    | some (n, j) => if n ≤ 2147483647 then (match five k (l.drop j) with
      | some (ns, r) => some (n :: ns, r)
      | none => none) else none
    | none => none
def preF (acc : List Nat) (o : Option (List Nat × List UInt8)) : Option (List Nat × List UInt8) := match o with
  | some (ns, r) => some (acc ++ ns, r)
  | none => none
theorem preF_nil (o : Option (List Nat × List UInt8)) : preF [] o = o := by rcases o with _ | ⟨a, b⟩ <;> rfl
theorem five_none {k : Nat} {l : List UInt8} (h : rdN l 0 0 = none) : five (k + 1) l = none := by rw [five, h]
theorem five_big {k n j : Nat} {l : List UInt8} (h : rdN l 0 0 = some (n, j)) (hn : ¬ n ≤ 2147483647) : five (k + 1) l = none := by rw [five, h]; exact if_neg hn
theorem five_go {k n j : Nat} {l : List UInt8} (h : rdN l 0 0 = some (n, j)) (hn : n ≤ 2147483647) (acc : List Nat) : preF acc (five (k + 1) l) = preF (acc ++ [n]) (five k (l.drop j)) := by
  rw [five, h]
  show preF acc (if n ≤ 2147483647 then _ else _) = _
  rw [if_pos hn]
  rcases five k (l.drop j) with _ | ⟨ns, r⟩
  · rfl
  · show some (acc ++ n :: ns, r) = some ((acc ++ [n]) ++ ns, r)
    rw [List.append_assoc]; rfl
def unst (l : List UInt8) : Option (List Nat) := match five 5 l with
  | some (ns, r) => if r = [] ∧ ns.getD 0 0 ≤ 1 then some ns else none
  | none => none
noncomputable def stRow : Option (List Nat) → List V
  | some ns => [.i .i64 0, .b (decide (ns.getD 0 0 = 1)), .i .i64 (ns.getD 1 0 : Int), .i .i64 (ns.getD 2 0 : Int), .i .i64 (ns.getD 3 0 : Int), .i .i64 (ns.getD 4 0 : Int), .i .i64 0]
  | none => [.i .i64 0, .b false, .i .i64 0, .i .i64 0, .i .i64 0, .i .i64 0, .i .i64 0]
def stErr : Option (List Nat) → Int
  | some _ => 0
  | none => 4
theorem unst_none {l : List UInt8} (h : five 5 l = none) : unst l = none := by unfold unst; rw [h]
theorem unst_bad {l r : List UInt8} {ns : List Nat} (h : five 5 l = some (ns, r)) (hb : ¬ (r = [] ∧ ns.getD 0 0 ≤ 1)) : unst l = none := by unfold unst; rw [h]; exact if_neg hb
theorem unst_ok {l r : List UInt8} {ns : List Nat} (h : five 5 l = some (ns, r)) (hb : r = [] ∧ ns.getD 0 0 ≤ 1) : unst l = some ns := by unfold unst; rw [h]; exact if_pos hb
def nV (l : List Nat) : List V := l.map fun n : Nat => V.i .i64 (n : Int)
theorem nV_len (l : List Nat) : (nV l).length = l.length := List.length_map ..
noncomputable def zI (k : Nat) : List V := List.replicate k (.i .i64 0)
theorem over_row (acc : List Nat) (n k : Nat) : over (nV acc ++ zI (k + 1)) acc.length [.i .i64 (n : Int)] = nV (acc ++ [n]) ++ zI k := by
  rw [over_cons, over_nil, List.set_append_right _ _ (by rw [nV_len]; exact Nat.le_refl _), nV_len, Nat.sub_self]
  show nV acc ++ (V.i .i64 (n : Int) :: zI k) = _
  unfold nV
  rw [List.map_append, List.append_assoc]; rfl
theorem i64_nat' (n : Nat) (h : n ≤ 2147483647) : IntKind.i64.wrap (n : Int) = (n : Int) := wrap_i64 (by omega) (by omega)
abbrev zS : List V := [.i .i64 0, .b false, .i .i64 0, .i .i64 0, .i .i64 0, .i .i64 0, .i .i64 0]
noncomputable def UnP (l : List UInt8) (c : Nat) (M : Mem) (r : V) (M' : Mem) (c' : Nat) : Prop := r = .t [.g (stRow (unst l)), .i .i64 (stErr (unst l))] ∧ Gr c M c' M'
end Go.Proofs.YtfghalikfoflgaaGreatDoor.Ev
set_option maxRecDepth 10000
set_option maxHeartbeats 8000000
namespace Go.Proofs.YtfghalikfoflgaaGreatDoor.Ev
open Go
noncomputable def b5_1 : CC := (.reg [(paa pa2 (.al 23 [(.i .i64 0), (.b false), (.i .i64 0), (.i .i64 0), (.i .i64 0), (.i .i64 0), (.i .i64 0)])), (pqq pa3 (.mv (px6 0)))])
noncomputable def b5_2 : CC := (.reg [(pqq pa9 (.mv pz0)), (pee pa10 (.call 13 [pz9])), (pqq pa4 (.mv pz10))])
noncomputable def b5_3 : CC := (.reg [(paa pa5 (.al 41 [(.i .i64 0), (.i .i64 0), (.i .i64 0), (.i .i64 0), (.i .i64 0)]))])
noncomputable def b5_4 : CC := (.reg [(pqq pa11 (.mv (px6 0)))])
noncomputable def b5_5 : CC := (.reg [(pqq pa12 (.bi .lss pz11 (px6 5)))])
noncomputable def b5_6 : CC := (.reg [(pqq pa13 (.mv pz11)), (pqq pa6 (.mv pz13))])
noncomputable def b5_7 : CC := (.reg [(pqq pa15 (.mv pz4)), (pee pa16 (.call 14 [pz15])), (pqq pa14 (.mv pz16)), (pqq pa17 (.ex 0 pz14)), (pqq pa18 (.ex 1 pz14)), (pqq pa7 (.mv pz17)), (pqq pa8 (.mv pz18))])
noncomputable def b5_8 : CC := (.reg [(pqq pa19 (.mv pz8)), (pqq pa20 (.bi .neq pz19 (px6 0))), (pqq pa21 (.mv pz20)), ⟨(some pa22), .q (.mv pz7), (some (pa21, false))⟩, ⟨(some pa23), .q (.bi .gtr pz22 (.c (.i .u64 2147483647))), (some (pa21, false))⟩, (pqq pa24 (.pk pz21 pxT pz23))])
noncomputable def b5_9 : CC := (.reg [(pqq pa25 (.bld [(.i .i64 0), (.b false), (.i .i64 0), (.i .i64 0), (.i .i64 0), (.i .i64 0), (.i .i64 0)] [])), (pez (.st 7 pz2 pz25)), (pqq pa3 (.mv (px6 4)))])
noncomputable def b5_10 : CC := (.seq b5_8 (.cond pz24 (.seq b5_9 .ret) .skip))
noncomputable def b5_11 : CC := (.reg [(pqq pa26 (.mv pz6)), (pqq pa27 (.mv pz7)), (pqq pa28 (.ci .i64 pz27)), (pqq pa29 (.iaA 5 1 pz5 pz26)), (pez (.st 1 pz29 pz28))])
noncomputable def b5_12 : CC := (.reg [(pqq pa30 (.bi .add pz11 (px6 1))), (pqq pa11 (.mv pz30))])
noncomputable def b5_13 : CC := (.seq (.block 1 (.seq b5_6 (.seq b5_7 (.seq b5_10 b5_11)))) b5_12)
noncomputable def b5_14 : CC := (.seq b5_5 (.seq (.cond pz12 .skip (.exit 0)) b5_13))
noncomputable def b5_15 : CC := (.reg [(pqq pa31 (.mv pz4)), (pee pa32 (.call 15 [pz31])), (pqq pa33 (.bi .neq pz32 (px6 0))), (pqq pa34 (.mv pz33)), ⟨(some pa35), .q (.iaA 5 1 pz5 (px6 0)), (some (pa34, false))⟩, ⟨(some pa36), .q (.ld1 pz35), (some (pa34, false))⟩, ⟨(some pa37), .q (.bi .gtr pz36 (px6 1)), (some (pa34, false))⟩, (pqq pa38 (.pk pz34 pxT pz37))])
noncomputable def b5_16 : CC := (.reg [(pqq pa39 (.bld [(.i .i64 0), (.b false), (.i .i64 0), (.i .i64 0), (.i .i64 0), (.i .i64 0), (.i .i64 0)] [])), (pez (.st 7 pz2 pz39)), (pqq pa3 (.mv (px6 4)))])
noncomputable def b5_17 : CC := (.cond pz38 (.seq b5_16 .ret) .skip)
noncomputable def b5_18 : CC := (.reg [(pqq pa40 (.iaA 5 1 pz5 (px6 0))), (pqq pa41 (.ld1 pz40)), (pqq pa42 (.bi .eql pz41 (px6 1))), (pqq pa43 (.iaA 5 1 pz5 (px6 1))), (pqq pa44 (.ld1 pz43)), (pqq pa45 (.iaA 5 1 pz5 (px6 2))), (pqq pa46 (.ld1 pz45)), (pqq pa47 (.iaA 5 1 pz5 (px6 3))), (pqq pa48 (.ld1 pz47)), (pqq pa49 (.iaA 5 1 pz5 (px6 4))), (pqq pa50 (.ld1 pz49)), (pqq pa51 (.bld [(.i .i64 0), (.b false), (.i .i64 0), (.i .i64 0), (.i .i64 0), (.i .i64 0), (.i .i64 0)] [(1, 1, pz42), (2, 1, pz44), (3, 1, pz46), (4, 1, pz48), (5, 1, pz50)])), (pez (.st 7 pz2 pz51)), (pqq pa3 (.mv (px6 0)))])
noncomputable def b5_19 : CC := (.seq (.seq b5_4 (.block 0 (.loop b5_14))) (.seq (.seq b5_15 b5_17) (.seq b5_18 .ret)))
noncomputable def c5 : CF := .mk 6 [.cn pa2 7, .t pa3] (.seq b5_1 (.seq b5_2 (.seq b5_3 b5_19)))
theorem e5 (v0 : V) : argTr 6 [v0] = (.n sk5 (some v0) sk5) := rfl
def B5 := ai @e5 (ai (wu b5_1.eq_1) (ai (wu b5_2.eq_1) (ai (wu b5_3.eq_1) (ai (wu b5_4.eq_1) (ai (wu b5_5.eq_1) (ai (wu b5_6.eq_1) (ai (wu b5_7.eq_1) (ai (wu b5_8.eq_1) (ai (wu b5_9.eq_1) (ai (wu b5_10.eq_1) (ai (wu b5_11.eq_1) (ai (wu b5_12.eq_1) (ai (wu b5_13.eq_1) (ai (wu b5_14.eq_1) (ai (wu b5_15.eq_1) (ai (wu b5_16.eq_1) (ai (wu b5_17.eq_1) (ai (wu b5_18.eq_1) (wu b5_19.eq_1)))))))))))))))))))
theorem w5 (Φ : Nat → Option CF) (h : Φ 5 = some c5) (h13 : Φ 13 = some c13) (h14 : Φ 14 = some c14) (h15 : Φ 15 = some c15) (h25 : Φ 25 = some c25) (h26 : Φ 26 = some c26) {F : RO} {M : Mem} {c : Nat} {v : V} {l : List UInt8} (ok : Okm F M c) (hs : SlB F M c v l) (hl : l.length < 140737488355328) :
    Calls Φ F 5 [v] M c fun r M' c' => UnP l c M r M' c' := by
  refine calls_walk h ?_
  have gX := (Gr.refl ok).set c (rowB 23 zS) (Nat.le_refl _) (Nat.lt_succ_self _) (Nat.le_succ _)
  have okX := gX.ok ok
  simp only [WX, B5]
  refine putE_to ((w13 Φ h13 okX (SlAt.grow hs gX) hl).mono ?_)
  rintro r0 M0 c0 ⟨rb, v', rfl, hrd, hnv, hlow, hrb, g0⟩
  have hrbl := hrd.lt
  have hm0 : M0.get c = some (rowB 23 zS) := (g0.old c (by omega)).trans (get_same _ _ _)
  have g1 := gX.trans g0
  have ok0 := g1.ok ok
  have g2 := fun x => g1.set c0 x g1.le (Nat.lt_succ_self _) (Nat.le_succ _)
  have hmx := hrd.mx
  simp only [WX, B5]
  obtain ⟨I, hI⟩ : ∃ I : Nat → St → Prop, ∀ n s, I n s ↔ (∃ (i a c1 : Nat) (acc : List Nat) (M1 : Mem) (u : List (Option V)), n = 5 - i ∧ i ≤ 5 ∧ acc.length = i ∧ a ≤ l.length ∧ five 5 l = preF acc (five (5 - i) (l.drop a)) ∧ M1.get rb = some (rowB 69 [v', .i .i64 (a : Int)]) ∧ M1.get c0 = some (rowB 41 (nV acc ++ zI (5 - i))) ∧ (∀ b, b < rb → M1.get b = M0.get b) ∧ c0 < c1 ∧ Gr c M c1 M1 ∧ s = .mk ((.n (.n (.n (uv7 u 31 15 47 7 39 23 55) (uO u 3) (.n (uv3 u 35 19 51) (some (.i .i64 (i : Int))) (uv3 u 43 27 59))) (uO u 1) (.n (uv7 u 33 17 49 9 41 25 57) (some (.p c0 0)) (uv7 u 37 21 53 13 45 29 61))) (uO u 0) (.n (.n (uv7 u 32 16 48 8 40 24 56) (some (.p rb 0)) (uv7 u 36 20 52 12 44 28 60)) (some (.p c 0)) (.n (uv7 u 34 18 50 10 42 26 58) (uO u 6) (uv7 u 38 22 54 14 46 30 62))))) [] M1 c1) := ⟨fun n s => _, fun _ _ => Iff.rfl⟩
  refine wp_while I ?_ 5 _ ((hI _ _).2 ⟨0, 0, _, [], _, [_, _, none, _, none, none, _, _, _, _, _, none, _, _, _, _, _, _, _, _, _, _, _, _, _, _, _, _, _, _, _, _, _, _, _, _, _, _, _, _, _, _, _, _, _, _, _, _, _, _, _, _, _, _, _, _, _, _, _, _, _, _, _], rfl, Nat.zero_le _, rfl, Nat.zero_le _, (by rw [preF_nil]; rfl), (by rw [get_ne _ _ (by omega)]; exact hrd.blk), get_same _ _ _, fun b hb => get_ne _ _ (by omega), Nat.lt_succ_self _, g2 _, rfl⟩)
  intro n s hIs
  obtain ⟨i, a, c1, acc, M1, u, rfl, hi, hai, hal, hfv, hb1, hb5, hold, hc1, hg, rfl⟩ := (hI _ _).1 hIs
  clear hIs
  have ok1 := hg.ok ok
  have hmc : M1.get c = some (rowB 23 zS) := (hold c (by omega)).trans hm0
  have hlow1 : SlLow F M1 rb v' l := hlow.up hold
  have hr1 : RdAt F M1 c1 rb 69 v' l a := ⟨by omega, hb1, (hlow1 M1 fun _ _ => rfl).le (by omega), hal, hmx⟩
  have fH : ∀ l : List V, flatten (.g l) = l := fun _ => rfl
  have ozS : allOne zS = true := Eq.trans rfl (Eq.refl _)
  have stz := store_row hmc 0 zS (Nat.le_refl _) rfl
  have hov : over zS 0 zS = zS := rfl
  rw [hov, ← set_same hmc] at stz
  have ldz : loadN F M1 c 0 7 = some zS := loadN_row hmc 7 rfl
  by_cases hlt : i < 5
  · have hd : decide ((i : Int) < 5) = true := decide_eq_true (by omega)
    obtain ⟨k, hk⟩ : ∃ k, 5 - i = k + 1 := ⟨4 - i, by omega⟩
    rw [hk] at hfv hb5
    simp only [WX, B5, hd]
    refine putE_to ((w14 Φ h14 h25 ok1 hr1 hnv).mono ?_)
    rintro r M2 c2 ⟨hc2, hP⟩
    cases hrn : rdN (l.drop a) 0 0 with
    | none =>
      rw [hrn] at hP
      obtain ⟨rfl, rfl⟩ := hP
      rw [five_none hrn] at hfv
      have hun : unst l = none := unst_none hfv
      have n4 : decide (¬ ((4 : Int) = 0)) = true := rfl
      simp only [WX, Nat.reduceAdd, B5, n4, stz, ldz]
      unfold UnP
      rw [hun]
      exact ⟨rfl, hg.up hc2⟩
    | some p =>
      obtain ⟨n, j⟩ := p
      rw [hrn] at hP
      obtain ⟨rfl, rfl⟩ := hP
      have n0 : decide (¬ ((0 : Int) = 0)) = false := rfl
      have hj := rdN_le _ _ _ _ _ hrn
      rw [List.length_drop] at hj
      have hg2 := (hg.up hc2).set rb (rowB 69 [v', .i .i64 ((a + j : Nat) : Int)]) (by omega) (by omega) (Nat.le_refl _)
      have hmc2 : (M1.set rb (rowB 69 [v', .i .i64 ((a + j : Nat) : Int)])).get c = some (rowB 23 zS) := (get_ne _ _ (by omega)).trans hmc
      by_cases hn : n ≤ 2147483647
      · have dn : decide ((2147483647 : Int) < (n : Int)) = false := decide_eq_false (by omega)
        rw [five_go hrn hn] at hfv
        have hw := i64_nat' n hn
        have iA : iaAV 5 1 (.p c0 0) (.i .i64 (i : Int)) = some (.p c0 i) := by
          have := iaA_p 5 1 c0 0 i .i64 (by omega)
          simpa using this
        have hb52 : (M1.set rb (rowB 69 [v', .i .i64 ((a + j : Nat) : Int)])).get c0 = some (rowB 41 (nV acc ++ zI (k + 1))) := (get_ne _ _ (by omega)).trans hb5
        have hst := store_row hb52 acc.length [.i .i64 (n : Int)] (by rw [List.length_append, nV_len]; show acc.length + 1 ≤ acc.length + (zI (k + 1)).length; unfold zI; rw [List.length_replicate]; omega) rfl
        rw [over_row, hai] at hst
        have q8 : biV .add (.i .i64 (i : Int)) (.i .i64 1) = some (.i .i64 ((i + 1 : Nat) : Int)) := by rw [i64_add _ _ (by omega) (by omega)]; simp
        simp only [WX, B5, n0, dn, v_iaA, iA, hw, hst, q8]
        refine ⟨5 - (i + 1), by omega, (hI _ _).2 ⟨i + 1, a + j, c2, acc ++ [n], _, [_, _, none, _, none, none, _, _, _, _, _, none, _, _, _, _, _, _, _, _, _, _, _, _, _, _, _, _, _, _, _, _, _, _, _, _, _, _, _, _, _, _, _, _, _, _, _, _, _, _, _, _, _, _, _, _, _, _, _, _, _, _, _], rfl, by omega, by rw [List.length_append, hai]; rfl, by omega, ?_, ?_, ?_, fun b hb => ?_, by omega, hg2.set c0 _ (by omega) (by omega) (Nat.le_refl _), rfl⟩⟩
        · rw [hfv, List.drop_drop, show 5 - (i + 1) = k by omega]
        · rw [get_ne _ _ (by omega)]; exact get_same _ _ _
        · rw [show 5 - (i + 1) = k by omega]; exact get_same _ _ _
        · rw [get_ne _ _ (by omega), get_ne _ _ (by omega)]; exact hold b hb
      · have dn : decide ((2147483647 : Int) < (n : Int)) = true := decide_eq_true (by omega)
        have hun : unst l = none := unst_none (by rw [hfv, five_big hrn hn]; rfl)
        have stz2 := store_row hmc2 0 zS (Nat.le_refl _) rfl
        rw [hov, ← set_same hmc2] at stz2
        have ldz2 : loadN F (M1.set rb (rowB 69 [v', .i .i64 ((a + j : Nat) : Int)])) c 0 7 = some zS := loadN_row hmc2 7 rfl
        simp only [WX, Nat.reduceAdd, B5, n0, dn, stz2, ldz2]
        unfold UnP
        rw [hun]
        exact ⟨rfl, hg2⟩
  · have hd : decide ((i : Int) < 5) = false := decide_eq_false (by omega)
    obtain rfl : i = 5 := by omega
    simp only [WX, B5, hd]
    refine putE_to ((w15 Φ h15 h25 h26 ok1 hr1 hnv).mono ?_)
    rintro r M2 c2 ⟨rfl, rfl, hc2⟩
    have hfv5 : five 5 l = some (acc, l.drop a) := by
      rw [hfv]
      show preF acc (some ([], l.drop a)) = _
      show some (acc ++ [], l.drop a) = _
      rw [List.append_nil]
    match acc, hai with
    | [n0, n1, n2, n3, n4], _ =>
      have lk : ∀ k x : Nat, ([n0, n1, n2, n3, n4] : List Nat)[k]? = some x → load1 F M2 c0 k = some (.i .i64 (x : Int)) := by
        intro k x hx
        rw [load_row hb5 k]
        have hk : k < 5 := by
          have := (List.getElem?_eq_some_iff.1 hx).1
          exact this
        rw [List.getElem?_append_left (by rw [nV_len]; exact hk), nV, List.getElem?_map, hx]; rfl
      have k0 := lk 0 n0 rfl
      have k1 := lk 1 n1 rfl
      have k2 := lk 2 n2 rfl
      have k3 := lk 3 n3 rfl
      have k4 := lk 4 n4 rfl
      have iA : ∀ k : Nat, k < 5 → iaAV 5 1 (.p c0 0) (.i .i64 (k : Int)) = some (.p c0 k) := fun k hk => by
        have := iaA_p 5 1 c0 0 k .i64 hk
        simpa using this
      have i0 : iaAV 5 1 (.p c0 0) (.i .i64 0) = some (.p c0 0) := iA 0 (by omega)
      have i1 : iaAV 5 1 (.p c0 0) (.i .i64 1) = some (.p c0 1) := iA 1 (by omega)
      have i2 : iaAV 5 1 (.p c0 0) (.i .i64 2) = some (.p c0 2) := iA 2 (by omega)
      have i3 : iaAV 5 1 (.p c0 0) (.i .i64 3) = some (.p c0 3) := iA 3 (by omega)
      have i4 : iaAV 5 1 (.p c0 0) (.i .i64 4) = some (.p c0 4) := iA 4 (by omega)
      by_cases ha : a = l.length
      · rw [if_pos ha]
        have e0 : decide (¬ ((0 : Int) = 0)) = false := rfl
        have hdr : l.drop a = [] := List.drop_of_length_le (by omega)
        by_cases h1 : n0 ≤ 1
        · have d1 : decide ((1 : Int) < (n0 : Int)) = false := decide_eq_false (by omega)
          have hun : unst l = some [n0, n1, n2, n3, n4] := unst_ok hfv5 ⟨hdr, h1⟩
          have de : decide ((n0 : Int) = 1) = decide (n0 = 1) := decide_eq_decide.2 (by omega)
          have stf := store_row hmc 0 [.i .i64 0, .b (decide (n0 = 1)), .i .i64 (n1 : Int), .i .i64 (n2 : Int), .i .i64 (n3 : Int), .i .i64 (n4 : Int), .i .i64 0] (Nat.le_refl _) rfl
          have hov2 : over zS 0 [.i .i64 0, .b (decide (n0 = 1)), .i .i64 (n1 : Int), .i .i64 (n2 : Int), .i .i64 (n3 : Int), .i .i64 (n4 : Int), .i .i64 0] = [.i .i64 0, .b (decide (n0 = 1)), .i .i64 (n1 : Int), .i .i64 (n2 : Int), .i .i64 (n3 : Int), .i .i64 (n4 : Int), .i .i64 0] := rfl
          rw [hov2] at stf
          simp only [WX, Nat.reduceAdd, Nat.reduceLeDiff, B5, e0, v_iaA, i0, i1, i2, i3, i4, k0, k1, k2, k3, k4, d1, de, stf]
          unfold UnP
          rw [hun]
          exact ⟨rfl, (hg.up hc2).set c _ (Nat.le_refl _) (by omega) (Nat.le_refl _)⟩
        · have d1 : decide ((1 : Int) < (n0 : Int)) = true := decide_eq_true (by omega)
          have hun : unst l = none := unst_bad hfv5 fun h => h1 h.2
          simp only [WX, Nat.reduceAdd, B5, e0, v_iaA, i0, k0, d1, stz, ldz]
          unfold UnP
          rw [hun]
          exact ⟨rfl, hg.up hc2⟩
      · rw [if_neg ha]
        have e4 : decide (¬ ((4 : Int) = 0)) = true := rfl
        have hun : unst l = none := unst_bad hfv5 fun h => ha (by
          have := congrArg List.length h.1
          rw [List.length_drop, List.length_nil] at this; omega)
        simp only [WX, Nat.reduceAdd, B5, e4, stz, ldz]
        unfold UnP
        rw [hun]
        exact ⟨rfl, hg.up hc2⟩
end Go.Proofs.YtfghalikfoflgaaGreatDoor.Ev
