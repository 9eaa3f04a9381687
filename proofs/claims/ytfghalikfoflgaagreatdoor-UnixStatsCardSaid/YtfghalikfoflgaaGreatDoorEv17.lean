/- What is proved here: pieces of the evaluator's soundness: if the evaluator comes to a value, the model's run comes to it, for every world and tape; no conditions beyond the hypotheses of each theorem. -/
import Derived.Test.YtfghalikfoflgaaGreatDoorEv16
set_option linter.unusedSimpArgs false
set_option linter.unusedVariables false
set_option linter.defProp false
set_option maxRecDepth 10000
set_option maxHeartbeats 8000000
namespace Go.Proofs.YtfghalikfoflgaaGreatDoor.Ev
open Go
theorem nE_snoc (l : List Nat) (n : Nat) : nE (l ++ [n]) = nE l ++ [[.i .i64 (n : Int)]] := by unfold nE; rw [List.map_append]; rfl
theorem dq_bld {F : RO} (zero : List V) (ps : List (Nat × Nat × X)) (M : Mem) (t : T) : dqR (.bld zero ps) F M t = oV ((fillV zero (evP t ps)).map .g) := by
  refine (dq_of ?_).trans (congrArg oV (v_bld (F := F) zero ps M t))
  intro F' M'
  show qg (fillParts t zero ps) = oV (qg (fillParts t zero ps)).val
  cases fillParts t zero ps <;> rfl
noncomputable def b6_1 : CC := (.reg [(paa pa2 (.al 23 [(.i .i64 0), (.b false), (.i .i64 0), (.i .i64 0), (.i .i64 0), (.i .i64 0), (.i .i64 0)])), (pqq pa3 (.mv (px6 0)))])
noncomputable def b6_2 : CC := (.reg [(pqq pa9 (.mv pz0)), (pqq pa10 (.bld [.l0, (.i .i64 0)] [(0, 1, pz9)])), (paa pa11 (.bx 47 2 pz10)), (pqq pa4 (.mv pz11))])
noncomputable def b6_3 : CC := (.reg [(pqq pa6 (.mv (px6 0)))])
noncomputable def b6_4 : CC := (.reg [(pqq pa12 (.mv pz6)), (pqq pa13 (.bi .lss pz12 (px6 5)))])
noncomputable def b6_5 : CC := (.reg [(pqq pa17 (.mv pz4)), (pee pa18 (.call 16 [pz17])), (pqq pa16 (.mv pz18)), (pqq pa19 (.ex 0 pz16)), (pqq pa20 (.ex 1 pz16)), (pqq pa7 (.mv pz19)), (pqq pa8 (.mv pz20))])
noncomputable def b6_6 : CC := (.reg [(pqq pa21 (.mv pz8)), (pqq pa22 (.bi .neq pz21 (px6 0))), (pqq pa23 (.mv pz22)), ⟨(some pa24), .q (.mv pz7), (some (pa23, false))⟩, ⟨(some pa25), .q (.bi .gtr pz24 (.c (.i .u64 2147483647))), (some (pa23, false))⟩, (pqq pa26 (.pk pz23 pxT pz25))])
noncomputable def b6_7 : CC := (.reg [(pqq pa27 (.bld [(.i .i64 0), (.b false), (.i .i64 0), (.i .i64 0), (.i .i64 0), (.i .i64 0), (.i .i64 0)] [])), (pez (.st 7 pz2 pz27)), (pqq pa3 (.mv (px6 4)))])
noncomputable def b6_8 : CC := (.seq b6_6 (.cond pz26 (.seq b6_7 .ret) .skip))
noncomputable def b6_9 : CC := (.reg [(pqq pa28 (.mv pz5)), (pqq pa29 (.mv pz7)), (pqq pa30 (.ci .i64 pz29)), (paa pa31 (.bsl 3 1 1 [(.i .i64 0)] [(0, pz30)])), (pee pa32 (.app 3 1 8 pz28 pz31)), (pqq pa5 (.mv pz32))])
noncomputable def b6_10 : CC := (.reg [(pqq pa14 (.mv pz6)), (pqq pa15 (.bi .add pz14 (px6 1))), (pqq pa6 (.mv pz15))])
noncomputable def b6_11 : CC := (.seq (.seq b6_4 (.cond pz13 .skip (.exit 0))) (.seq (.block 1 (.seq b6_5 (.seq b6_8 b6_9))) b6_10))
noncomputable def b6_12 : CC := (.reg [(pqq pa33 (.mv pz4)), (pee pa34 (.call 17 [pz33])), (pqq pa35 (.bi .gtr pz34 (px6 0))), (pqq pa36 (.mv pz35)), ⟨(some pa37), .q (.mv pz5), (some (pa36, false))⟩, ⟨(some pa38), .q (.iaS 1 pz37 (px6 0)), (some (pa36, false))⟩, ⟨(some pa39), .q (.ld1 pz38), (some (pa36, false))⟩, ⟨(some pa40), .q (.bi .gtr pz39 (px6 1)), (some (pa36, false))⟩, (pqq pa41 (.pk pz36 pxT pz40))])
noncomputable def b6_13 : CC := (.reg [(pqq pa42 (.bld [(.i .i64 0), (.b false), (.i .i64 0), (.i .i64 0), (.i .i64 0), (.i .i64 0), (.i .i64 0)] [])), (pez (.st 7 pz2 pz42)), (pqq pa3 (.mv (px6 4)))])
noncomputable def b6_14 : CC := (.cond pz41 (.seq b6_13 .ret) .skip)
noncomputable def b6_15 : CC := (.dreg 19 [(0, 0, (pqq pa43 (.mv pz5))), (1, 1, (pqq pa44 (.iaS 1 pz43 (px6 0)))), (2, 3, (pqq pa45 (.ld1 pz44))), (3, 7, (pqq pa46 (.bi .eql pz45 (px6 1)))), (4, 0, (pqq pa47 (.mv pz5))), (5, 16, (pqq pa48 (.iaS 1 pz47 (px6 1)))), (6, 48, (pqq pa49 (.ld1 pz48))), (7, 0, (pqq pa50 (.mv pz5))), (8, 128, (pqq pa51 (.iaS 1 pz50 (px6 2)))), (9, 384, (pqq pa52 (.ld1 pz51))), (10, 0, (pqq pa53 (.mv pz5))), (11, 1024, (pqq pa54 (.iaS 1 pz53 (px6 3)))), (12, 3072, (pqq pa55 (.ld1 pz54))), (13, 0, (pqq pa56 (.mv pz5))), (14, 8192, (pqq pa57 (.iaS 1 pz56 (px6 4)))), (15, 24576, (pqq pa58 (.ld1 pz57))), (16, 65535, (pqq pa59 (.bld [(.i .i64 0), (.b false), (.i .i64 0), (.i .i64 0), (.i .i64 0), (.i .i64 0), (.i .i64 0)] [(1, 1, pz46), (2, 1, pz49), (3, 1, pz52), (4, 1, pz55), (5, 1, pz58)]))), (17, 131071, (pez (.st 7 pz2 pz59))), (18, 262143, (pqq pa3 (.mv (px6 0))))])
noncomputable def b6_16 : CC := (.seq (.seq b6_3 (.block 0 (.loop b6_11))) (.seq (.seq b6_12 b6_14) (.seq b6_15 .ret)))
noncomputable def b6_17 : CC := (.seq (.reg [(pqq pa5 (.mv (.c .l0)))]) b6_16)
noncomputable def c6 : CF := .mk 6 [.cn pa2 7, .t pa3] (.seq b6_1 (.seq b6_2 b6_17))
theorem e6 (v0 : V) : argTr 6 [v0] = (.n sk5 (some v0) sk5) := rfl
def B6 := ai @e6 (ai (wu b6_1.eq_1) (ai (wu b6_2.eq_1) (ai (wu b6_3.eq_1) (ai (wu b6_4.eq_1) (ai (wu b6_5.eq_1) (ai (wu b6_6.eq_1) (ai (wu b6_7.eq_1) (ai (wu b6_8.eq_1) (ai (wu b6_9.eq_1) (ai (wu b6_10.eq_1) (ai (wu b6_11.eq_1) (ai (wu b6_12.eq_1) (ai (wu b6_13.eq_1) (ai (wu b6_14.eq_1) (ai (wu b6_15.eq_1) (ai (wu b6_16.eq_1) (wu b6_17.eq_1)))))))))))))))))
theorem w6 (Φ : Nat → Option CF) (h : Φ 6 = some c6) (h16 : Φ 16 = some c16) (h17 : Φ 17 = some c17) {F : RO} {M : Mem} {c : Nat} {v : V} {l : List UInt8} (ok : Okm F M c) (hs : SlB F M c v l) (hl : l.length < 140737488355328) :
    Calls Φ F 6 [v] M c fun r M' c' => UnP l c M r M' c' := by
  refine calls_walk h ?_
  have gX := (Gr.refl ok).set c (rowB 23 zS) (Nat.le_refl _) (Nat.lt_succ_self _) (Nat.le_succ _)
  have gY := gX.set (c + 1) (rowB 47 [v, .i .i64 0]) (Nat.le_succ _) (Nat.lt_succ_self _) (Nat.le_succ _)
  obtain ⟨f1, o1⟩ := sl_flat hs
  have hlow := slLow hs
  have o1 : isOne v = true := by rw [allOne_cons, Bool.and_eq_true] at o1; exact o1.1
  simp only [WX, Nat.reduceAdd, Nat.reduceLeDiff, B6, f1, o1]
  obtain ⟨I, hI⟩ : ∃ I : Nat → St → Prop, ∀ n s, I n s ↔ (∃ (i a c1 b : Nat) (acc : List Nat) (v5 : V) (M1 : Mem) (u : List (Option V)), n = 5 - i ∧ i ≤ 5 ∧ acc.length = i ∧ a ≤ l.length ∧ five 5 l = preF acc (five (5 - i) (l.drop a)) ∧ M1.get (c + 1) = some (rowB 47 [v, .i .i64 (a : Int)]) ∧ M1.get c = some (rowB 23 zS) ∧ AccAt M1 c c1 b 3 1 v5 (nE acc) ∧ c + 2 ≤ b ∧ c + 2 ≤ c1 ∧ Gr c M c1 M1 ∧ s = .mk ((.n (.n (.n (uv7 u 31 15 47 7 39 23 55) (uO u 3) (uv7 u 35 19 51 11 43 27 59)) (uO u 1) (.n (uv7 u 33 17 49 9 41 25 57) (some (v5)) (uv7 u 37 21 53 13 45 29 61))) (uO u 0) (.n (.n (uv7 u 32 16 48 8 40 24 56) (some (.p (c + 1) 0)) (uv7 u 36 20 52 12 44 28 60)) (some (.p c 0)) (.n (uv7 u 34 18 50 10 42 26 58) (some (.i .i64 (i : Int))) (uv7 u 38 22 54 14 46 30 62))))) [] M1 c1) := ⟨fun n s => _, fun _ _ => Iff.rfl⟩
  refine wp_while I ?_ 5 _ ((hI _ _).2 ⟨0, 0, _, c + 2, [], _, _, [_, _, none, _, none, none, none, _, _, _, _, _, _, _, _, _, _, _, _, _, _, _, _, _, _, _, _, _, _, _, _, _, _, _, _, _, _, _, _, _, _, _, _, _, _, _, _, _, _, _, _, _, _, _, _, _, _, _, _, _, _, _, _], rfl, Nat.zero_le _, rfl, Nat.zero_le _, (by rw [preF_nil]; rfl), get_same _ _ _, (by rw [get_ne _ _ (by omega)]; exact get_same _ _ _), .nil, Nat.le_refl _, Nat.le_refl _, gY, rfl⟩)
  intro n s hIs
  obtain ⟨i, a, c1, b, acc, v5, M1, u, rfl, hi, hai, hal, hfv, hb1, hmc, hacc, hcb, hc1, hg, rfl⟩ := (hI _ _).1 hIs
  clear hIs
  have ok1 := hg.ok ok
  have hr1 : RdAt F M1 c1 (c + 1) 47 v l a := ⟨by omega, hb1, (hlow M1 fun b hb => hg.old b hb).le (by omega), hal, by omega⟩
  have stz := store_row hmc 0 zS (Nat.le_refl _) rfl
  have hov : over zS 0 zS = zS := rfl
  rw [hov, ← set_same hmc] at stz
  have ldz : loadN F M1 c 0 7 = some zS := loadN_row hmc 7 rfl
  by_cases hlt : i < 5
  · have hd : decide ((i : Int) < 5) = true := decide_eq_true (by omega)
    obtain ⟨k, hk⟩ : ∃ k, 5 - i = k + 1 := ⟨4 - i, by omega⟩
    rw [hk] at hfv
    simp only [WX, B6, hd]
    refine putE_to ((w16 Φ h16 ok1 hr1).mono ?_)
    rintro r M2 c2 ⟨hc2, hP⟩
    cases hrn : rdN (l.drop a) 0 0 with
    | none =>
      rw [hrn] at hP
      obtain ⟨rfl, rfl⟩ := hP
      rw [five_none hrn] at hfv
      have hun : unst l = none := unst_none hfv
      have n4 : decide (¬ ((4 : Int) = 0)) = true := rfl
      simp only [WX, Nat.reduceAdd, B6, n4, stz, ldz]
      unfold UnP
      rw [hun]
      exact ⟨rfl, hg.up hc2⟩
    | some p =>
      obtain ⟨n, j⟩ := p
      rw [hrn] at hP
      obtain ⟨rfl, rfl⟩ := hP
      have n0 : decide (¬ ((0 : Int) = 0)) = false := rfl
      have hj := rdN_le _ _ _ _ _ hrn
      rw [List.length_drop] at hj
      have hg2 := (hg.up hc2).set (c + 1) (rowB 47 [v, .i .i64 ((a + j : Nat) : Int)]) (by omega) (by omega) (Nat.le_refl _)
      have hmc2 : (M1.set (c + 1) (rowB 47 [v, .i .i64 ((a + j : Nat) : Int)])).get c = some (rowB 23 zS) := (get_ne _ _ (by omega)).trans hmc
      by_cases hn : n ≤ 2147483647
      · have dn : decide ((2147483647 : Int) < (n : Int)) = false := decide_eq_false (by omega)
        rw [five_go hrn hn] at hfv
        have hw := i64_nat' n hn
        have hg3 := fun x => hg2.set c2 x (by omega) (Nat.lt_succ_self _) (Nat.le_succ _)
        have hacc3 := fun x => hacc.up (M' := (M1.set (c + 1) (rowB 47 [v, .i .i64 ((a + j : Nat) : Int)])).set c2 x) (c' := c2 + 1) (by omega) (fun hb => by rw [get_ne _ _ (by omega), get_ne _ _ (by omega)])
        simp only [WX, B6, n0, dn, hw]
        refine putE_to ((appV_to (bytes := 8) (hacc3 _) (hg3 _) Nat.one_pos (slD (es := [[.i .i64 (n : Int)]]) (get_same _ _ _) (Nat.lt_succ_self _) (by intro e he; cases he with | head => rfl | tail _ h => cases h) rfl) rfl (room_of (by rw [nE_len, List.length_singleton]; omega) (by rw [nE_len, List.length_singleton]; omega))).mono ?_)
        rintro v6 M4 c4 ⟨b4, hacc4, hg4, hc4, hun4, hb4⟩
        rw [← nE_snoc] at hacc4
        have q8 : biV .add (.i .i64 (i : Int)) (.i .i64 1) = some (.i .i64 ((i + 1 : Nat) : Int)) := by rw [i64_add _ _ (by omega) (by omega)]; simp
        simp only [WX, B6, q8]
        refine ⟨5 - (i + 1), by omega, (hI _ _).2 ⟨i + 1, a + j, c4, b4, acc ++ [n], v6, M4, [_, _, none, _, none, none, none, _, _, _, _, _, _, _, _, _, _, _, _, _, _, _, _, _, _, _, _, _, _, _, _, _, _, _, _, _, _, _, _, _, _, _, _, _, _, _, _, _, _, _, _, _, _, _, _, _, _, _, _, _, _, _, _], rfl, by omega, by rw [List.length_append, hai]; rfl, by omega, ?_, ?_, ?_, hacc4, by omega, by omega, hg4, rfl⟩⟩
        · rw [hfv, List.drop_drop, show 5 - (i + 1) = k by omega]
        · rw [hun4 _ (by omega) (by omega), get_ne _ _ (by omega)]; exact get_same _ _ _
        · rw [hun4 _ (by omega) (by omega), get_ne _ _ (by omega)]; exact hmc2
      · have dn : decide ((2147483647 : Int) < (n : Int)) = true := decide_eq_true (by omega)
        have hun : unst l = none := unst_none (by rw [hfv, five_big hrn hn]; rfl)
        have stz2 := store_row hmc2 0 zS (Nat.le_refl _) rfl
        rw [hov, ← set_same hmc2] at stz2
        have ldz2 : loadN F (M1.set (c + 1) (rowB 47 [v, .i .i64 ((a + j : Nat) : Int)])) c 0 7 = some zS := loadN_row hmc2 7 rfl
        simp only [WX, Nat.reduceAdd, B6, n0, dn, stz2, ldz2]
        unfold UnP
        rw [hun]
        exact ⟨rfl, hg2⟩
  · have hd : decide ((i : Int) < 5) = false := decide_eq_false (by omega)
    obtain rfl : i = 5 := by omega
    simp only [WX, B6, hd]
    refine putE_to ((w17 Φ h17 ok1 hr1).mono ?_)
    rintro r M2 c2 ⟨rfl, rfl, hc2⟩
    have hfv5 : five 5 l = some (acc, l.drop a) := by
      rw [hfv]
      show preF acc (some ([], l.drop a)) = _
      show some (acc ++ [], l.drop a) = _
      rw [List.append_nil]
    match acc, hai with
    | [n0, n1, n2, n3, n4], _ =>
      have hsl := hacc.sl (F := F)
      have lk : ∀ (k x : Nat), ([n0, n1, n2, n3, n4] : List Nat)[k]? = some x → ∃ pb po, iaSV 1 v5 (.i .i64 (k : Int)) = some (.p pb po) ∧ load1 F M2 pb po = some (.i .i64 (x : Int)) := by
        intro k x hx
        have hk : k < 5 := (List.getElem?_eq_some_iff.1 hx).1
        obtain ⟨pb, po, _, hia, hld⟩ := hsl.one k (by rw [nE_len]; exact hk) (x := .i .i64 (x : Int)) (by
          have := (List.getElem?_eq_some_iff.1 hx).2
          unfold nE; rw [List.getElem_map, this])
        exact ⟨pb, po, hia .i64, hld⟩
      obtain ⟨p0, o0, i0, k0⟩ := lk 0 n0 rfl
      obtain ⟨p1, o1', i1, k1⟩ := lk 1 n1 rfl
      obtain ⟨p2, o2, i2, k2⟩ := lk 2 n2 rfl
      obtain ⟨p3, o3, i3, k3⟩ := lk 3 n3 rfl
      obtain ⟨p4, o4, i4, k4⟩ := lk 4 n4 rfl
      have i0 : iaSV 1 v5 (.i .i64 0) = some (.p p0 o0) := i0
      have i1 : iaSV 1 v5 (.i .i64 1) = some (.p p1 o1') := i1
      have i2 : iaSV 1 v5 (.i .i64 2) = some (.p p2 o2) := i2
      have i3 : iaSV 1 v5 (.i .i64 3) = some (.p p3 o3) := i3
      have i4 : iaSV 1 v5 (.i .i64 4) = some (.p p4 o4) := i4
      by_cases ha : a = l.length
      · have e0 : decide ((0 : Int) < ((l.length - a : Nat) : Int)) = false := decide_eq_false (by omega)
        have hdr : l.drop a = [] := List.drop_of_length_le (by omega)
        by_cases h1 : n0 ≤ 1
        · have d1 : decide ((1 : Int) < (n0 : Int)) = false := decide_eq_false (by omega)
          have hun : unst l = some [n0, n1, n2, n3, n4] := unst_ok hfv5 ⟨hdr, h1⟩
          have de : decide ((n0 : Int) = 1) = decide (n0 = 1) := decide_eq_decide.2 (by omega)
          have stf := store_row hmc 0 [.i .i64 0, .b (decide (n0 = 1)), .i .i64 (n1 : Int), .i .i64 (n2 : Int), .i .i64 (n3 : Int), .i .i64 (n4 : Int), .i .i64 0] (Nat.le_refl _) rfl
          have hov2 : over zS 0 [.i .i64 0, .b (decide (n0 = 1)), .i .i64 (n1 : Int), .i .i64 (n2 : Int), .i .i64 (n3 : Int), .i .i64 (n4 : Int), .i .i64 0] = [.i .i64 0, .b (decide (n0 = 1)), .i .i64 (n1 : Int), .i .i64 (n2 : Int), .i .i64 (n3 : Int), .i .i64 (n4 : Int), .i .i64 0] := rfl
          rw [hov2] at stf
          simp only [WX, Nat.reducePow, Nat.reduceDiv, Nat.reduceMod, Nat.reduceBEq, Nat.reduceAdd, Nat.reduceLeDiff, wd_e1, B6, dq_bld, e0, i0, i1, i2, i3, i4, k0, k1, k2, k3, k4, d1, de, stf]
          unfold UnP
          rw [hun]
          have hGG := (hg.up (show c1 ≤ c2 + 19 by omega)).set c (rowB 23 [.i .i64 0, .b (decide (n0 = 1)), .i .i64 (n1 : Int), .i .i64 (n2 : Int), .i .i64 (n3 : Int), .i .i64 (n4 : Int), .i .i64 0]) (Nat.le_refl _) (by omega) (Nat.le_refl _)
          exact ⟨(hGG.ok ok).free, rfl, hGG⟩
        · have d1 : decide ((1 : Int) < (n0 : Int)) = true := decide_eq_true (by omega)
          have hun : unst l = none := unst_bad hfv5 fun h => h1 h.2
          simp only [WX, Nat.reduceAdd, B6, e0, i0, k0, d1, stz, ldz]
          unfold UnP
          rw [hun]
          exact ⟨rfl, hg.up hc2⟩
      · have e4 : decide ((0 : Int) < ((l.length - a : Nat) : Int)) = true := decide_eq_true (by omega)
        have hun : unst l = none := unst_bad hfv5 fun h => ha (by
          have := congrArg List.length h.1
          rw [List.length_drop, List.length_nil] at this; omega)
        simp only [WX, Nat.reduceAdd, B6, e4, stz, ldz]
        unfold UnP
        rw [hun]
        exact ⟨rfl, hg.up hc2⟩
end Go.Proofs.YtfghalikfoflgaaGreatDoor.Ev
set_option maxRecDepth 10000
set_option maxHeartbeats 8000000
namespace Go.Proofs.YtfghalikfoflgaaGreatDoor.Ev
open Go
theorem u8_of (n : Nat) (h : n < 256) : (UInt8.ofNat n).toNat = n := by rw [UInt8.toNat_ofNat', Nat.mod_eq_of_lt h]
theorem rd_num : ∀ (f n i acc : Nat) (r : List UInt8), n < 128 ^ (f + 1) → n * 128 ^ i < 34359738368 → (0 < i → 0 < n) → rdN (numB f n ++ r) i acc = some (acc + n * 128 ^ i, i + (numB f n).length) := by
  have h9 : ∀ n i, n * 128 ^ i < 34359738368 → 0 < n → i ≤ 8 := by
    intro n i h hn
    rcases Nat.lt_or_ge i 9 with h1 | h1
    · omega
    · exfalso
      have e9 : (128 : Nat) ^ 9 = 9223372036854775808 := by decide
      have h2 : 128 ^ 9 ≤ 128 ^ i := Nat.pow_le_pow_right (by omega) h1
      have h3 : 1 * 128 ^ i ≤ n * 128 ^ i := Nat.mul_le_mul_right _ hn
      omega
  have lo : ∀ (f n i acc : Nat) (r : List UInt8), n ≤ 127 → n * 128 ^ i < 34359738368 → (0 < i → 0 < n) → rdN (numB f n ++ r) i acc = some (acc + n * 128 ^ i, i + (numB f n).length) := by
    intro f n i acc r hn hlt hpos
    rw [numB_lo f n hn, List.singleton_append, rdN_end]
    · rw [u8_of _ (by omega), Nat.mod_eq_of_lt (show n < 128 by omega)]; rfl
    · rw [u8_of _ (by omega)]
      rintro (⟨h1, h2⟩ | ⟨h1, h2⟩)
      · have := h9 n i hlt (by omega); omega
      · have := hpos h1; omega
    · rw [u8_of _ (by omega)]; omega
  intro f
  induction f with
  | zero => intro n i acc r hn hlt hpos; exact lo 0 n i acc r (by have : n < 128 := hn; omega) hlt hpos
  | succ f ih =>
    intro n i acc r hn hlt hpos
    by_cases h127 : n ≤ 127
    · exact lo _ n i acc r h127 hlt hpos
    · have h8 := h9 n i hlt (by omega)
      have hmul : n / 128 * 128 ^ (i + 1) ≤ n * 128 ^ i := by
        rw [Nat.pow_succ, Nat.mul_comm (128 ^ i), ← Nat.mul_assoc]
        exact Nat.mul_le_mul_right _ (Nat.div_mul_le_self n 128)
      rw [numB_hi f n (by omega), List.cons_append, rdN_go]
      · rw [u8_of _ (by omega), ih _ _ _ _ (div128 hn) (by omega) (fun _ => by omega), List.length_cons]
        congr 2
        · have e : n = n / 128 * 128 + n % 128 := by omega
          have e1 : (n % 128 + 128) % 128 = n % 128 := by omega
          rw [e1, Nat.pow_succ]
          conv => rhs; rw [e]
          rw [Nat.add_mul, Nat.mul_assoc (n / 128), Nat.mul_comm 128]
          omega
        · omega
      · rw [u8_of _ (by omega)]
        rintro (⟨h1, h2⟩ | ⟨h1, h2⟩) <;> omega
      · rw [u8_of _ (by omega)]; omega
theorem five_nums : ∀ (ns : List Nat) (r : List UInt8), (∀ n ∈ ns, n ≤ 2147483647) → five ns.length (numsB ns ++ r) = some (ns, r)
  | [], r, h => rfl
  | n :: ns, r, h => by
    have hn := h n (List.mem_cons_self ..)
    have e : numsB (n :: ns) ++ r = numB 9 n ++ (numsB ns ++ r) := by
      show (numB 9 n ++ numsB ns) ++ r = _
      rw [List.append_assoc]
    have e10 : (128 : Nat) ^ (9 + 1) = 1180591620717411303424 := by decide
    have hr := rd_num 9 n 0 0 (numsB ns ++ r) (by rw [e10]; omega) (by omega) (fun h => by omega)
    rw [Nat.pow_zero, Nat.mul_one, Nat.zero_add, Nat.zero_add] at hr
    rw [List.length_cons, e, five, hr]
    show (if n ≤ 2147483647 then _ else _) = _
    rw [if_pos hn, List.drop_left, five_nums ns r fun m hm => h m (List.mem_cons_of_mem _ hm)]
theorem unst_stat (zo zr zl zs : Int) (dir : Bool) : unst (numsB (statN [if dir = true then 1 else 0, zo, zr, zl, zs])) = some (statN [if dir = true then 1 else 0, zo, zr, zl, zs]) := by
  have h5 := statN_len (L := [if dir = true then 1 else 0, zo, zr, zl, zs]) rfl
  have hf := five_nums (statN [if dir = true then 1 else 0, zo, zr, zl, zs]) [] statN_le
  rw [h5, List.append_nil] at hf
  refine unst_ok hf ⟨rfl, ?_⟩
  unfold statN
  by_cases hb : ([if dir = true then 1 else 0, zo, zr, zl, zs] : List Int).any badZ = true
  · rw [if_pos hb]; exact Nat.zero_le _
  · rw [if_neg hb]
    cases dir
    · exact Nat.zero_le _
    · exact Nat.le_refl _
theorem stRow_len (u : Option (List Nat)) : (stRow u).length = 7 := by cases u <;> rfl
theorem stRow_one (u : Option (List Nat)) : allOne (stRow u) = true := by cases u <;> rfl
theorem SlAt.lkk {F F' : RO} {M M' : Mem} {c sz : Nat} {v : V} {es : List (List V)} (h : SlAt F M c sz v es) (hl : ∀ b, b < c → look F M b = look F' M' b) : SlAt F' M' c sz v es := by
  rcases h with ⟨h0, h | ⟨b, o, h1, h2, h3⟩⟩
  · exact ⟨h0, .inl h⟩
  · refine ⟨h0, .inr ⟨b, o, h1, h2, fun k hk => ?_⟩⟩
    have := h3 k hk
    rw [← this]
    show asCells (look F' M' b) none _ = asCells (look F M b) none _
    rw [hl b h2]
theorem bs_dq {F : RO} {M : Mem} {c : Nat} {v : V} {l : List UInt8} (h : SlB F M c v l) (hne : l ≠ []) : ∃ b, b < c ∧ ∀ (x : X) (t : T), x.ev t = v → dqR (.bs x) F M t = .r (sV l) b := by
  have hl := lenV_sl h
  rw [List.length_map] at hl
  rcases h with ⟨h0, ⟨he, _⟩ | ⟨b, o, hv, hb, hc⟩⟩
  · exact absurd (List.map_eq_nil_iff.1 he) hne
  have hfl := flat_bytes l
  rw [hfl] at hc
  have hln : 0 < l.length := List.length_pos_iff.2 hne
  have hblk : ∃ blk, look F M b = some blk := by
    obtain ⟨_, _, _, _, _, _, _, e, _⟩ := load1_some ((hc 0 (by rw [List.length_map]; exact hln)).trans (List.getElem?_eq_getElem (by rw [List.length_map]; exact hln)))
    exact ⟨_, e⟩
  obtain ⟨blk, hlk⟩ := hblk
  have key : ∀ (F' : RO) (M' : Mem), CellsAt F' M' b o (l.map bV) → ∀ (x : X) (t : T), x.ev t = v → qop (.bs x) F' M' t = .r (sV l) b := by
    intro F' M' hc' x t hx
    have hld := hc'.load (by simpa using hne)
    rw [List.length_map] at hld
    have hrb : readB F' M' 1 l.length b o = some (l.map bV, some b) := by
      unfold readB
      rw [beqN, decide_eq_false (by omega), cond_false]
      show (match loadN F' M' b o (l.length * 1) with | some vs => some (vs, some b) | none => none) = _
      rw [Nat.mul_one, hld]
    have hr : readL F' M' 1 l.length v = some (l.map bV, some b) := by
      rcases hv with ⟨cap, _, rfl⟩ | ⟨el, kn, _, rfl⟩ <;> exact hrb
    have e : qop (.bs x) F' M' t = q_bs1 F' M' v (lenV v) := by
      show (match x.ev t with | .s _ _ => QR.f | v => q_bs1 F' M' v (lenV v)) = _
      rw [hx]
      rcases hv with ⟨cap, _, rfl⟩ | ⟨el, kn, _, rfl⟩ <;> rfl
    rw [e, hl]
    show (match readL F' M' 1 l.length v with | some (vs, b) => q_bs2 b (bytesV vs) | none => QR.f) = _
    rw [hr]
    show q_bs2 (some b) (bytesV (l.map bV)) = _
    rw [bytesV_s]
    show (fN l.length fun n => fN (strN l) fun s => QR.r (.s n s) b) = _
    rw [fN_eq, fN_eq]; rfl
  refine ⟨b, hb, fun x t hx => ?_⟩
  show d_q0 (.bs x) F M t (qop (.bs x) F M t) = _
  rw [key F M hc x t hx]
  show d_q2 (.bs x) t b (look F M b) = _
  rw [hlk]
  show rOnly b (qop (.bs x) [(b, blk)] .e t) = _
  rw [key [(b, blk)] .e (fun k hk => by
    have := hc k hk
    rw [← this]
    show asCells (look [(b, blk)] .e b) none _ = asCells (look F M b) none _
    rw [hlk, look_none_M (show (Tr.e : Mem).get b = none from rfl), roGet_cons, if_pos rfl]) x t hx]
  rfl
end Go.Proofs.YtfghalikfoflgaaGreatDoor.Ev
set_option maxRecDepth 10000
set_option maxHeartbeats 8000000
namespace Go.Proofs.YtfghalikfoflgaaGreatDoor.Ev
open Go
theorem biQ_s {F : RO} (a b : List UInt8) (M : Mem) : biQ .eql (sV a) (sV b) F M = .v (.b (decide (a = b))) := by
  have q : ∀ F' M', qop (.bi .eql (.c (sV a)) (.c (sV b))) F' M' .e = .v (.b (decide (a = b))) := by
    intro F' M'
    show vB (strEq a.length (strN a) b.length (strN b)) = _
    rw [strEq_s, vB_eq]
  show d_q0 (.bi .eql (.c (sV a)) (.c (sV b))) F M .e (qop (.bi .eql (.c (sV a)) (.c (sV b))) F M .e) = _
  rw [q F M]
  exact q [] .e
theorem st_row (N : Mem) (b : Nat) (u : Option (List Nat)) : storeN (N.set b (rowB 23 zS)) b 0 (stRow u) = some ((N.set b (rowB 23 zS)).set b (rowB 23 (stRow u))) := by
  have h := store_row (get_same N b (rowB 23 zS)) 0 (stRow u) (by rw [stRow_len]; exact Nat.le_refl _) (stRow_one u)
  rw [h, over_all (by rw [stRow_len]; rfl)]
theorem eq_row {F : RO} (M : Mem) (u : Option (List Nat)) : eqV F M (.agg [(0, .int), (1, .bool), (2, .int), (3, .int), (4, .int), (5, .int), (6, .int)]) false (.g (stRow u)) (.g (stRow u)) = some true := by
  cases u <;> simp only [stRow, eqV_agg, eqAll_cons, eqAll_nil, List.getElem?_cons_zero, List.getElem?_cons_succ, eqAt_some, eq1_int, eq1_bool, andO_some, decide_true, Bool.and_self]
theorem numB_pos (f n : Nat) : 0 < (numB f n).length := by
  cases f with
  | zero => exact Nat.one_pos
  | succ f =>
    rw [numB]
    split
    · exact Nat.one_pos
    · exact Nat.succ_pos _
theorem numsB_ne {ns : List Nat} (h : ns.length = 5) : numsB ns ≠ [] := by
  match ns, h with
  | a :: r, _ =>
    intro e
    have e : numB 9 a ++ numsB r = [] := e
    have := congrArg List.length e
    have h1 := numB_pos 9 a
    rw [List.length_append, List.length_nil] at this
    omega
noncomputable def b3_1 : CC := (.reg [(paa pa2 (.bx 23 7 pz0)), (pqq pa4 (.mv pxF))])
def w3_1 := wu b3_1.eq_1
noncomputable def b3_2 : CC := (.reg [(pqq pa14 (.ldn 7 pz2)), (pee pa15 (.call 4 [pz14])), (pqq pa5 (.mv pz15))])
def w3_2 := wu b3_2.eq_1
noncomputable def b3_3 : CC := (.reg [(pqq pa17 (.mv pz5)), (pee pa18 (.call 5 [pz17])), (pqq pa16 (.mv pz18)), (pqq pa19 (.ex 0 pz16)), (pqq pa20 (.ex 1 pz16)), (paa pa6 (.al 23 [(.i .i64 0), (.b false), (.i .i64 0), (.i .i64 0), (.i .i64 0), (.i .i64 0), (.i .i64 0)])), (pez (.st 7 pz6 pz19)), (pqq pa7 (.mv pz20))])
def w3_3 := wu b3_3.eq_1
noncomputable def b3_4 : CC := (.reg [(pqq pa22 (.mv pz1)), (pee pa23 (.call 5 [pz22])), (pqq pa21 (.mv pz23)), (pqq pa24 (.ex 0 pz21)), (pqq pa25 (.ex 1 pz21)), (paa pa8 (.al 23 [(.i .i64 0), (.b false), (.i .i64 0), (.i .i64 0), (.i .i64 0), (.i .i64 0), (.i .i64 0)])), (pez (.st 7 pz8 pz24)), (pqq pa9 (.mv pz25))])
def w3_4 := wu b3_4.eq_1
noncomputable def b3_5 : CC := (.reg [(pqq pa27 (.mv pz1)), (pee pa28 (.call 6 [pz27])), (pqq pa26 (.mv pz28)), (pqq pa29 (.ex 0 pz26)), (pqq pa30 (.ex 1 pz26)), (paa pa10 (.al 23 [(.i .i64 0), (.b false), (.i .i64 0), (.i .i64 0), (.i .i64 0), (.i .i64 0), (.i .i64 0)])), (pez (.st 7 pz10 pz29)), (pqq pa11 (.mv pz30))])
def w3_5 := wu b3_5.eq_1
noncomputable def b3_6 : CC := (.reg [(pqq pa32 (.mv pz5)), (pee pa33 (.call 6 [pz32])), (pqq pa31 (.mv pz33)), (pqq pa34 (.ex 0 pz31)), (pqq pa35 (.ex 1 pz31)), (paa pa12 (.al 23 [(.i .i64 0), (.b false), (.i .i64 0), (.i .i64 0), (.i .i64 0), (.i .i64 0), (.i .i64 0)])), (pez (.st 7 pz12 pz34)), (pqq pa13 (.mv pz35))])
def w3_6 := wu b3_6.eq_1
noncomputable def b3_7 : CC := (.dreg 33 [(0, 0, (pqq pa36 (.mv pz5))), (1, 1, (pqq pa37 (.bs pz36))), (2, 0, (pqq pa38 (.ldn 7 pz2))), (3, 4, (pee pa39 (.call 7 [pz38]))), (4, 12, (pqq pa40 (.bs pz39))), (5, 31, (pqq pa41 (.bi .eql pz37 pz40))), (6, 63, (pqq pa42 (.mv pz41))), (7, 127, ⟨(some pa43), .q (.mv pz7), (some (pa42, true))⟩), (8, 255, ⟨(some pa44), .q (.bi .eql pz43 (px6 0)), (some (pa42, true))⟩), (9, 511, (pqq pa45 (.pk pz42 pz44 pxF))), (10, 1023, (pqq pa46 (.mv pz45))), (11, 2047, ⟨(some pa47), .q (.mv pz13), (some (pa46, true))⟩), (12, 4095, ⟨(some pa48), .q (.bi .eql pz47 (px6 0)), (some (pa46, true))⟩), (13, 8191, (pqq pa49 (.pk pz46 pz48 pxF))), (14, 16383, (pqq pa50 (.mv pz49))), (15, 32767, ⟨(some pa51), .q (.ldn 7 pz6), (some (pa50, true))⟩), (16, 32767, ⟨(some pa52), .q (.ldn 7 pz12), (some (pa50, true))⟩), (17, 131071, ⟨(some pa53), .q (.eq false (.agg [(0, .int), (1, .bool), (2, .int), (3, .int), (4, .int), (5, .int), (6, .int)]) false pz51 pz52), (some (pa50, true))⟩), (18, 262143, (pqq pa54 (.pk pz50 pz53 pxF))), (19, 524287, (pqq pa55 (.mv pz54))), (20, 1048575, ⟨(some pa56), .q (.ldn 7 pz8), (some (pa55, true))⟩), (21, 1048575, ⟨(some pa57), .q (.ldn 7 pz10), (some (pa55, true))⟩), (22, 4194303, ⟨(some pa58), .q (.eq false (.agg [(0, .int), (1, .bool), (2, .int), (3, .int), (4, .int), (5, .int), (6, .int)]) false pz56 pz57), (some (pa55, true))⟩), (23, 8388607, (pqq pa59 (.pk pz55 pz58 pxF))), (24, 16777215, (pqq pa60 (.mv pz59))), (25, 33554431, ⟨(some pa61), .q (.mv pz9), (some (pa60, true))⟩), (26, 33554431, ⟨(some pa62), .q (.mv pz11), (some (pa60, true))⟩), (27, 134217727, ⟨(some pa63), .q (.bi .eql pz61 pz62), (some (pa60, true))⟩), (28, 268435455, (pqq pa64 (.pk pz60 pz63 pxF))), (29, 536870911, (pqq pa65 (.mv pz64))), (30, 1073741823, ⟨(some pa66), .e (.call 8 []), (some (pa65, true))⟩), (31, 2147483647, (pqq pa67 (.pk pz65 pz66 pxF))), (32, 4294967295, (pqq pa4 (.mv pz67)))])
def w3_7 := wu b3_7.eq_1
noncomputable def b3_8 : CC := (.seq b3_3 (.seq b3_4 (.seq b3_5 (.seq b3_6 (.seq b3_7 .ret)))))
def w3_8 := wu b3_8.eq_1
noncomputable def c3 : CF := .mk 7 [.t pa4] (.seq b3_1 (.seq b3_2 b3_8))
theorem e3 (v0 v1 : V) : argTr 7 [v0, v1] = (.n (.n sk5 (some v1) sk5) (some v0) sk6) := rfl
def B3 := ai @e3 (ai @w3_1 (ai @w3_2 (ai @w3_3 (ai @w3_4 (ai @w3_5 (ai @w3_6 (ai @w3_7 (@w3_8))))))))
theorem w3 (Φ : Nat → Option CF) (h : Φ 3 = some c3) (h4 : Φ 4 = some c4) (h5 : Φ 5 = some c5) (h6 : Φ 6 = some c6) (h7 : Φ 7 = some c7) (h9 : Φ 9 = some c9) (h10 : Φ 10 = some c10) (h11 : Φ 11 = some c11) (h12 : Φ 12 = some c12) (h13 : Φ 13 = some c13) (h14 : Φ 14 = some c14) (h15 : Φ 15 = some c15) (h16 : Φ 16 = some c16) (h17 : Φ 17 = some c17) (h18 : Φ 18 = some c18) (h24 : Φ 24 = some c24) (h25 : Φ 25 = some c25) (h26 : Φ 26 = some c26)
    {g : RO → List V → Mem → Nat → RC} {F : RO} {M : Mem} {c : Nat} (h8 : Φ 8 = some (.orc g)) (hG : ∀ M ct, g F [] M ct = .k (.b true) M ct) (ok : Okm F M c) (zn zo zr zl zs zh : Int) (dir : Bool) {vb : V} {lb : List UInt8} (hs : SlB F M c vb lb) (hl : lb.length < 140737488355328) :
    Calls Φ F 3 [.g [.i .i64 zn, .b dir, .i .i64 zo, .i .i64 zr, .i .i64 zl, .i .i64 zs, .i .i64 zh], vb] M c fun r _ _ => r = .b true := by
  refine calls_walk h ?_
  have us := unst_stat zo zr zl zs dir
  have hn5 := statN_len (L := [if dir = true then 1 else 0, zo, zr, zl, zs]) rfl
  have W4 : ∀ (M1 : Mem) (c1 : Nat), Okm F M1 c1 → _ := fun M1 c1 o1 => w4 Φ h4 h9 h24 h10 h12 h11 o1 zn zo zr zl zs zh dir
  have W7 : ∀ (F1 : RO) (M1 : Mem) (c1 : Nat), Okm F1 M1 c1 → _ := fun F1 M1 c1 o1 => w7 Φ h7 h18 (F := F1) o1 zn zo zr zl zs zh dir
  generalize hns : statN [if dir = true then 1 else 0, zo, zr, zl, zs] = ns at us hn5 W4 W7
  have hne := numsB_ne hn5
  have hlen := numsB_len ns
  generalize hlm : numsB ns = lm at us W4 W7 hne hlen
  have hE0 : stErr (some ns) = 0 := rfl
  have hEb : ∃ eb, stErr (unst lb) = eb := ⟨_, rfl⟩
  obtain ⟨eb, hEb⟩ := hEb
  have fH : ∀ u, flatten (.g (stRow u)) = stRow u := fun _ => rfl
  have gA := (Gr.refl ok).set c (rowB 23 [.i .i64 zn, .b dir, .i .i64 zo, .i .i64 zr, .i .i64 zl, .i .i64 zs, .i .i64 zh]) (Nat.le_refl _) (Nat.lt_succ_self _) (Nat.le_succ _)
  simp only [WX, Nat.reduceAdd, Nat.reduceLeDiff, B3]
  refine putE_to ((W4 _ _ (gA.ok ok)).mono ?_)
  rintro r5 M1 c1 ⟨hs5, g1⟩
  have gB := gA.trans g1
  have mc1 : M1.get c = some (rowB 23 [.i .i64 zn, .b dir, .i .i64 zo, .i .i64 zr, .i .i64 zl, .i .i64 zs, .i .i64 zh]) := (g1.old c (Nat.lt_succ_self _)).trans (get_same _ _ _)
  simp only [WX, B3]
  refine putE_to ((w5 Φ h5 h13 h14 h15 h25 h26 (gB.ok ok) hs5 (by omega)).mono ?_)
  rintro r M2 c2 ⟨rfl, g2⟩
  rw [us, hE0]
  simp only [WX, Nat.reduceAdd, Nat.reduceLeDiff, B3, fH, st_row, stRow_len]
  have k2 := (g2.set c2 (rowB 23 zS) g2.le (Nat.lt_succ_self _) (Nat.le_succ _)).set c2 (rowB 23 (stRow (some ns))) g2.le (Nat.lt_succ_self _) (Nat.le_refl _)
  have gC := gB.trans k2
  refine putE_to ((w5 Φ h5 h13 h14 h15 h25 h26 (M := (M2.set c2 (rowB 23 zS)).set c2 (rowB 23 (stRow (some ns)))) (c := c2 + 1) (gC.ok ok) (SlAt.grow hs gC) hl).mono ?_)
  rintro r M3 c3 ⟨rfl, g3⟩
  rw [hEb]
  simp only [WX, Nat.reduceAdd, Nat.reduceLeDiff, B3, fH, st_row, stRow_len]
  have k3 := (g3.set c3 (rowB 23 zS) g3.le (Nat.lt_succ_self _) (Nat.le_succ _)).set c3 (rowB 23 (stRow (unst lb))) g3.le (Nat.lt_succ_self _) (Nat.le_refl _)
  have gD := gC.trans k3
  refine putE_to ((w6 Φ h6 h16 h17 (M := (M3.set c3 (rowB 23 zS)).set c3 (rowB 23 (stRow (unst lb)))) (c := c3 + 1) (gD.ok ok) (SlAt.grow hs gD) hl).mono ?_)
  rintro r M4 c4 ⟨rfl, g4⟩
  rw [hEb]
  simp only [WX, Nat.reduceAdd, Nat.reduceLeDiff, B3, fH, st_row, stRow_len]
  have k4 := (g4.set c4 (rowB 23 zS) g4.le (Nat.lt_succ_self _) (Nat.le_succ _)).set c4 (rowB 23 (stRow (unst lb))) g4.le (Nat.lt_succ_self _) (Nat.le_refl _)
  have gE := gD.trans k4
  have g15 :=  (k2.trans k3).trans k4
  refine putE_to ((w6 Φ h6 h16 h17 (M := (M4.set c4 (rowB 23 zS)).set c4 (rowB 23 (stRow (unst lb)))) (c := c4 + 1) (gE.ok ok) (SlAt.grow hs5 g15) (by omega)).mono ?_)
  rintro r M5 c5 ⟨rfl, g5⟩
  rw [us, hE0]
  simp only [WX, Nat.reduceAdd, Nat.reduceLeDiff, fH, st_row, stRow_len]
  have k5 := (g5.set c5 (rowB 23 zS) g5.le (Nat.lt_succ_self _) (Nat.le_succ _)).set c5 (rowB 23 (stRow (some ns))) g5.le (Nat.lt_succ_self _) (Nat.le_refl _)
  have gF := gE.trans k5
  have l2 := g2.le
  have l3 := g3.le
  have l4 := g4.le
  have l5 := g5.le
  have l1 := g1.le
  have X2 := (((k3.trans k4).trans k5).old c2 (Nat.lt_succ_self _)).trans (get_same (M2.set c2 (rowB 23 zS)) c2 (rowB 23 (stRow (some ns))))
  have X3 := ((k4.trans k5).old c3 (Nat.lt_succ_self _)).trans (get_same (M3.set c3 (rowB 23 zS)) c3 (rowB 23 (stRow (unst lb))))
  have X4 := (k5.old c4 (Nat.lt_succ_self _)).trans (get_same (M4.set c4 (rowB 23 zS)) c4 (rowB 23 (stRow (unst lb))))
  have X5 := get_same (M5.set c5 (rowB 23 zS)) c5 (rowB 23 (stRow (some ns)))
  have hs5X := SlAt.grow hs5 (g15.trans k5)
  have X0 := ((g15.trans k5).old c (by omega)).trans mc1
  generalize (M5.set c5 (rowB 23 zS)).set c5 (rowB 23 (stRow (some ns))) = X at gF X2 X3 X4 X5 hs5X X0 ⊢
  have okX := (gF.up (show c5 + 1 ≤ c5 + 1 + 33 by omega)).ok ok
  obtain ⟨bm, hbm, hbs⟩ := bs_dq hs5X hne
  have L0 : loadN F X c 0 7 = some [.i .i64 zn, .b dir, .i .i64 zo, .i .i64 zr, .i .i64 zl, .i .i64 zs, .i .i64 zh] := loadN_row X0 7 rfl
  simp only [WX, Nat.reduceAdd, B3, hbs, L0]
  refine wd_efx (hx := fun _ => False) _ _ _ _ _ _ _ _ _ _ _ okX (fun e he => id) (fun b _ hb => hb.elim) ?_
  intro F1 N1 okn hlk hkp
  refine (W7 F1 N1 (c5 + 1 + 33) okn).mono ?_
  rintro r7 N2 c7 ⟨hs7, gN⟩
  refine ⟨GrX.of gN, fun Y gY hY => ?_⟩
  have l7 := gN.le
  have hs7Y : SlB F Y c7 r7 lm := SlAt.lkk hs7 fun b hb => by
    by_cases hb2 : b < c5 + 1 + 33
    · rw [gN.look hb2, hlk b]
      exact (look_congr (gY.old b hb2 id)).symm
    · have e1 := hY b (.inl (by omega))
      have e2 := okn.hiF b (by omega)
      have e3 := okX.hiF b (by omega)
      cases hN : N2.get b with
      | some x => rw [look_some_M hN, look_some_M (e1.trans hN)]
      | none => rw [look_none_M hN, look_none_M (e1.trans hN), e2, e3]
  have okY := gY.ok okX fun b _ hb => hb.elim
  have L2 : loadN F Y c2 0 7 = some (stRow (some ns)) := loadN_row ((gY.old c2 (by omega) id).trans X2) 7 (stRow_len _)
  have L3 : loadN F Y c3 0 7 = some (stRow (unst lb)) := loadN_row ((gY.old c3 (by omega) id).trans X3) 7 (stRow_len _)
  have L4 : loadN F Y c4 0 7 = some (stRow (unst lb)) := loadN_row ((gY.old c4 (by omega) id).trans X4) 7 (stRow_len _)
  have L5 : loadN F Y c5 0 7 = some (stRow (some ns)) := loadN_row ((gY.old c5 (by omega) id).trans X5) 7 (stRow_len _)
  obtain ⟨b7, hb7, hbs7⟩ := bs_dq hs7Y hne
  have dl : decide (lm = lm) = true := decide_eq_true rfl
  have deb : decide (eb = eb) = true := decide_eq_true rfl
  have d00 : decide ((0 : Int) = 0) = true := rfl
  have hfr := okY.free
  have e1 := eq_row (F := F) Y (some ns)
  have e2 := eq_row (F := F) Y (unst lb)
  simp only [eqV_agg, eqAll_cons, eqAll_nil] at e1 e2
  generalize stRow (unst lb) = RB at L3 L4 e2 ⊢
  generalize stRow (some ns) = RA at L2 L5 e1 ⊢
  simp only [WX, Nat.reducePow, Nat.reduceDiv, Nat.reduceMod, Nat.reduceBEq, wd_e1, hbs7, biQ_s, L2, L3, L4, L5, e1, e2, h8, hG, hfr]
end Go.Proofs.YtfghalikfoflgaaGreatDoor.Ev
set_option maxRecDepth 10000
set_option maxHeartbeats 4000000
namespace Go.Proofs.YtfghalikfoflgaaGreatDoor.Ev
open Go
theorem bytes_ofZ {F : RO} {M : Mem} {c B : Nat} {vs : List V} {x : (Ty.sl (.int .u8)).D} (h : Rp F M c (.sl (.int .u8)) vs x) (hz : Sz B (.sl (.int .u8)) x) : ∃ v, ∃ l : List UInt8, vs = [v] ∧ SlB F M c v l ∧ l.length ≤ B := by
  obtain ⟨v, es, rfl, hs, hl, he, hr⟩ := h
  have key : ∀ (es : List (List V)) (xs : List Int), es.length = xs.length → (∀ i (h : i < es.length) (h' : i < xs.length), es[i] = [V.i .u8 xs[i]] ∧ IntKind.u8.min ≤ xs[i] ∧ xs[i] ≤ IntKind.u8.max) → ∃ l : List UInt8, es = l.map fun x => [bV x] := by
    intro es
    induction es with
    | nil => intro xs _ _; exact ⟨[], rfl⟩
    | cons e es ih =>
      intro xs hl h
      cases xs with
      | nil => cases hl
      | cons z xs =>
        obtain ⟨l, rfl⟩ := ih xs (by simpa using hl) (fun i hi hi' => h (i + 1) (by simpa using hi) (by simpa using hi'))
        obtain ⟨h1, h2, h3⟩ := h 0 (by simp) (by simp)
        simp only [List.getElem_cons_zero] at h1 h2 h3
        have h2' : 0 ≤ z := h2
        have h3' : z ≤ 255 := h3
        refine ⟨UInt8.ofNat z.toNat :: l, ?_⟩
        rw [List.map_cons, h1]
        congr 1
        unfold bV
        rw [UInt8.toNat_ofNat', Nat.mod_eq_of_lt (by omega)]
        congr 2
        omega
  obtain ⟨l, rfl⟩ := key es x he hr
  refine ⟨v, l, rfl, hs, ?_⟩
  rw [List.length_map] at he
  have hl' : List.length x ≤ B := hz.1
  have : List.length x = l.length := he.symm
  omega
theorem i64_of {F : RO} {M : Mem} {c : Nat} {vs : List V} {x : (Ty.int .i64).D} (h : Rp F M c (.int .i64) vs x) : ∃ z : Int, vs = [.i .i64 z] ∧ -9223372036854775808 ≤ z ∧ z ≤ 9223372036854775807 := by
  have key : ∀ z : Int, vs = [.i .i64 z] ∧ IntKind.i64.min ≤ z ∧ z ≤ IntKind.i64.max → ∃ z : Int, vs = [.i .i64 z] ∧ -9223372036854775808 ≤ z ∧ z ≤ 9223372036854775807 := fun z h => ⟨z, h⟩
  exact key x h
theorem b_of {F : RO} {M : Mem} {c : Nat} {vs : List V} {x : Ty.bool.D} (h : Rp F M c .bool vs x) : ∃ z : Bool, vs = [.b z] := ⟨x, h⟩
def stTy : Ty := .cons (.int .i64) (.cons .bool (.cons (.int .i64) (.cons (.int .i64) (.cons (.int .i64) (.cons (.int .i64) (.cons (.int .i64) .nil))))))
theorem st_of {F : RO} {M : Mem} {c : Nat} {vs : List V} {x : stTy.D} (h : Rp F M c stTy vs x) : ∃ (zn zo zr zl zs zh : Int) (d : Bool), vs = [.i .i64 zn, .b d, .i .i64 zo, .i .i64 zr, .i .i64 zl, .i .i64 zs, .i .i64 zh] := by
  obtain ⟨pa1, r1, rfl, h1, pa2, r2, rfl, h2, pa3, r3, rfl, h3, pa4, r4, rfl, h4, pa5, r5, rfl, h5, pa6, r6, rfl, h6, pa7, r7, rfl, h7, rfl⟩ := h
  obtain ⟨pz1, rfl, _⟩ := i64_of h1
  obtain ⟨d, rfl⟩ := b_of h2
  obtain ⟨pz3, rfl, _⟩ := i64_of h3
  obtain ⟨pz4, rfl, _⟩ := i64_of h4
  obtain ⟨pz5, rfl, _⟩ := i64_of h5
  obtain ⟨pz6, rfl, _⟩ := i64_of h6
  obtain ⟨pz7, rfl, _⟩ := i64_of h7
  exact ⟨pz1, pz3, pz4, pz5, pz6, pz7, d, rfl⟩
end Go.Proofs.YtfghalikfoflgaaGreatDoor.Ev
