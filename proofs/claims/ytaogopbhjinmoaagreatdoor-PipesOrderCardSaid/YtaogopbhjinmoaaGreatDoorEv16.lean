/- What is proved here: pieces of the evaluator's soundness: if the evaluator comes to a value, the model's run comes to it, for every world and tape; no conditions beyond the hypotheses of each theorem. -/
import Derived.Test.YtaogopbhjinmoaaGreatDoorEv15
set_option linter.unusedSimpArgs false
set_option linter.unusedVariables false
set_option linter.defProp false
set_option maxRecDepth 10000
set_option maxHeartbeats 4000000
namespace Go.Proofs.YtaogopbhjinmoaaGreatDoor.Ev
open Go
abbrev tFlb0 (u : List (Option V)) (x0 x1 x2 x7 : V) : T := (.n (.n (.n (.n (uv3 u 31 15 47) (some x7) (uv3 u 39 23 55)) (uO u 3) (uv7 u 35 19 51 11 43 27 59)) (some x1) (.n (uv7 u 33 17 49 9 41 25 57) (uO u 5) (uv7 u 37 21 53 13 45 29 61))) (some x0) (.n (.n (uv7 u 32 16 48 8 40 24 56) (uO u 4) (uv7 u 36 20 52 12 44 28 60)) (some x2) (.n (uv7 u 34 18 50 10 42 26 58) (uO u 6) (uv7 u 38 22 54 14 46 30 62))))
theorem cell_listTr (n : Nat) (d vs : List V) (o : Nat) (t : T) (ho : o + vs.length ≤ n) (q : Nat) : cell n d (listTr vs o t) q = if o ≤ q ∧ q < o + vs.length then vs[q - o]? else cell n d t q := by
  rw [cell_eq, cell_eq, listTr_get]
  by_cases h : o ≤ q ∧ q < o + vs.length
  · rw [if_pos (by omega), if_pos h, if_pos h]
    have : q - o < vs.length := by omega
    rw [List.getElem?_eq_getElem this]
  · rw [if_neg h, if_neg h]
theorem cellsAt_congr {n : Nat} {d d' : List V} {t t' : T} : ∀ (m o : Nat), (∀ j, j < m → cell n d t (o + j) = cell n d' t' (o + j)) → cellsAt n d t m o = cellsAt n d' t' m o
  | 0, o, _ => rfl
  | m + 1, o, h => by
    have e0 := h 0 (by omega)
    rw [Nat.add_zero] at e0
    have ih : cellsAt n d t m (o + 1) = cellsAt n d' t' m (o + 1) := cellsAt_congr m (o + 1) fun j hj => by
      have := h (j + 1) (by omega)
      rw [show o + 1 + j = o + (j + 1) by omega]; exact this
    simp only [cellsAt_succ, e0, ih]
theorem loadN_cells {F : RO} {M : Mem} {b ty n fz : Nat} {ex str : Bool} {d : List V} {t : T} (h : M.get b = some (.cells ty n ex fz str d t)) (o m : Nat) : loadN F M b o m = cellsAt n d t m o := by
  show asCells (look F M b) none (fun n d c => cellsAt n d c m o) = _
  rw [look_some_M h]; rfl
theorem loadN_lk {F F' : RO} {M M' : Mem} (h : ∀ b, look F' M' b = look F M b) (b o m : Nat) : loadN F' M' b o m = loadN F M b o m := by
  show asCells (look F' M' b) none (fun n d c => cellsAt n d c m o) = asCells (look F M b) none (fun n d c => cellsAt n d c m o)
  rw [h]
noncomputable def delV (X Y : V) (M : Mem) (c : Nat) : RC := e_del .int (.c X) (.c Y) [] M c .e
theorem x_del_eq {Φ : Nat → Option CF} {rd : Option Nat} {fn : Nat} {F : RO} (x y : X) (M : Mem) (c : Nat) (t : T) : doE (.del .int x y) (K Φ rd fn F) M c t = delV (x.ev t) (y.ev t) M c := Eq.trans rfl (Eq.refl _)
theorem delV_none {M : Mem} {c b clk : Nat} {es : List (V × V × Nat)} {kv : V} (h : M.get b = some (.map es clk)) (hf : findK .int kv es 0 = some none) : delV (.m b) kv M c = .k undef M c := by
  show asMap (M.get b) .f (fun es clock => e_del1 M c b es clock (findK .int kv es 0)) = _
  rw [h]
  show e_del1 M c b es clk (findK .int kv es 0) = _
  rw [hf]; rfl
theorem delV_one {M : Mem} {c b clk : Nat} {e : V × V × Nat} {kv v : V} (h : M.get b = some (.map [e] clk)) (hf : findK .int kv [e] 0 = some (some (0, v))) : delV (.m b) kv M c = .k undef (M.set b (.map [] clk)) c := by
  show asMap (M.get b) .f (fun es clock => e_del1 M c b es clock (findK .int kv es 0)) = _
  rw [h]
  show e_del1 M c b [e] clk (findK .int kv [e] 0) = _
  rw [hf]
  show setM M c b (.map [] clk) undef = _
  unfold setM; rw [Tr.force_eq]
theorem fk_nil (s : Int) : findK .int (.i .i64 s) [] 0 = some none := rfl
theorem fk_hit (s : Int) (v : V) (born : Nat) : findK .int (.i .i64 s) [(.i .i64 s, v, born)] 0 = some (some (0, v)) := by
  show (match some (eqI s s) with | some true => some (some (0, v)) | some false => some none | none => none) = _
  rw [(eqI_iff s s).trans (decide_eq_true rfl)]
theorem fk_miss {s k : Int} (h : s ≠ k) (v : V) (born : Nat) : findK .int (.i .i64 s) [(.i .i64 k, v, born)] 0 = some none := by
  show (match some (eqI s k) with | some true => some (some (0, v)) | some false => some none | none => none) = _
  rw [(eqI_iff s k).trans (decide_eq_false h)]
noncomputable def b89_1 : CC := (.reg [(pqq pa6 (.mv (px6 0)))])
noncomputable def b89_2 : CC := (.reg [(pqq pa9 (.mv pz0)), (pee pa10 (.call 123 [pz9])), (pqq pa11 (.un .not pz10)), (pqq pa8 (.mv pz11))])
noncomputable def b89_3 : CC := (.reg [(pqq pa6 (.mv (px6 1)))])
noncomputable def b89_4 : CC := (.reg [(pqq pa13 (.mv pz2)), (pqq pa14 (.bi .lss pz13 (px6 0))), (pqq pa15 (.mv pz14)), ⟨(some pa16), .q (.mv pz1), (some (pa15, false))⟩, ⟨(some pa17), .q (.bi .lss pz16 (px6 0)), (some (pa15, false))⟩, (pqq pa18 (.pk pz15 pxT pz17)), (pqq pa19 (.mv pz18)), ⟨(some pa20), .q (.mv pz1), (some (pa19, false))⟩, ⟨(some pa21), .q (.mv pz0), (some (pa19, false))⟩, ⟨(some pa22), .q (.nck pz21), (some (pa19, false))⟩, ⟨(some pa23), .q (.fa 0 pz22), (some (pa19, false))⟩, ⟨(some pa24), .q (.ld1 pz23), (some (pa19, false))⟩, ⟨(some pa25), .q (.ln .slice pz24), (some (pa19, false))⟩, ⟨(some pa26), .q (.bi .gtr pz20 pz25), (some (pa19, false))⟩, (pqq pa27 (.pk pz19 pxT pz26)), (pqq pa28 (.mv pz27)), ⟨(some pa29), .q (.mv pz2), (some (pa28, false))⟩, ⟨(some pa30), .q (.mv pz0), (some (pa28, false))⟩, ⟨(some pa31), .q (.nck pz30), (some (pa28, false))⟩, ⟨(some pa32), .q (.fa 0 pz31), (some (pa28, false))⟩, ⟨(some pa33), .q (.ld1 pz32), (some (pa28, false))⟩, ⟨(some pa34), .q (.ln .slice pz33), (some (pa28, false))⟩, ⟨(some pa35), .q (.mv pz1), (some (pa28, false))⟩, ⟨(some pa36), .q (.bi .sub pz34 pz35), (some (pa28, false))⟩, ⟨(some pa37), .q (.bi .gtr pz29 pz36), (some (pa28, false))⟩, (pqq pa38 (.pk pz28 pxT pz37)), (pqq pa12 (.mv pz38))])
noncomputable def b89_5 : CC := (.reg [(pqq pa6 (.mv (px6 2)))])
noncomputable def b89_6 : CC := (.seq b89_4 (.cond pz12 (.seq b89_5 .ret) .skip))
noncomputable def b89_7 : CC := (.seq b89_2 (.cond pz8 (.seq b89_3 .ret) b89_6))
noncomputable def b89_8 : CC := (.reg [(pqq pa39 (.mv pz1)), (pqq pa7 (.mv pz39))])
noncomputable def b89_9 : CC := (.reg [(pqq pa40 (.mv pz7)), (pqq pa41 (.mv pz1)), (pqq pa42 (.mv pz2)), (pqq pa43 (.bi .add pz41 pz42)), (pqq pa44 (.bi .lss pz40 pz43))])
noncomputable def b89_10 : CC := (.seq b89_9 (.cond pz44 .skip (.exit 1)))
noncomputable def b89_11 : CC := (.dreg 10 [(0, 0, (pqq pa47 (.mv pz0))), (1, 1, (pqq pa48 (.nck pz47))), (2, 3, (pqq pa49 (.fa 0 pz48))), (3, 7, (pqq pa50 (.ld1 pz49))), (4, 0, (pqq pa51 (.mv pz7))), (5, 0, (pqq pa52 (.mv pz0))), (6, 0, (pqq pa53 (.mv pz7))), (7, 96, (pee pa54 (.call 127 [pz52, pz53]))), (8, 255, (pqq pa55 (.iaS 128 pz50 pz51))), (9, 511, (pez (.st 128 pz55 pz54)))])
noncomputable def b89_12 : CC := (.reg [(pqq pa56 (.mv pz0)), (pqq pa57 (.nck pz56)), (pqq pa58 (.fa 1 pz57)), (pqq pa59 (.ld1 pz58)), (pqq pa60 (.mv pz7)), (pez (.del .int pz59 pz60))])
noncomputable def b89_13 : CC := (.reg [(pqq pa45 (.mv pz7)), (pqq pa46 (.bi .add pz45 (px6 1))), (pqq pa7 (.mv pz46))])
noncomputable def b89_14 : CC := (.loop (.seq b89_10 (.seq (.block 2 (.seq b89_11 b89_12)) b89_13)))
noncomputable def b89_15 : CC := (.reg [(pqq pa6 (.mv (px6 0)))])
noncomputable def b89_16 : CC := (.seq (.block 0 b89_7) (.seq (.seq b89_8 (.block 1 b89_14)) (.seq b89_15 .ret)))
noncomputable def c89 : CF := .mk 6 [.t pa6] (.seq b89_1 b89_16)
theorem e89 (v0 v1 v2 : V) : argTr 6 [v0, v1, v2] = (.n (.n sk4 (some v1) sk4) (some v0) (.n sk4 (some v2) sk4)) := rfl
def B89 := ai @e89 (ai (wu b89_1.eq_1) (ai (wu b89_2.eq_1) (ai (wu b89_3.eq_1) (ai (wu b89_4.eq_1) (ai (wu b89_5.eq_1) (ai (wu b89_6.eq_1) (ai (wu b89_7.eq_1) (ai (wu b89_8.eq_1) (ai (wu b89_9.eq_1) (ai (wu b89_10.eq_1) (ai (wu b89_11.eq_1) (ai (wu b89_12.eq_1) (ai (wu b89_13.eq_1) (ai (wu b89_14.eq_1) (ai (wu b89_15.eq_1) (wu b89_16.eq_1))))))))))))))))
def FI (F : RO) (M : Mem) (c db fb pb n k fty : Nat) (ex str : Bool) (fd : List V) (ft : T) (vk : List V) (e : V × V × Nat) (clk i : Nat) (M1 : Mem) : Prop :=
  Okm F M1 (c + 11 * i) ∧ (∀ b, b < c → b ≠ fb → b ≠ pb → M1.get b = M.get b) ∧
  (∃ ft1, M1.get fb = some (.cells fty (n * 128) ex 0 str fd ft1) ∧ ∀ q, cell (n * 128) fd ft1 q = if k < i ∧ k * 128 ≤ q ∧ q < k * 128 + 128 then vk[q - k * 128]? else cell (n * 128) fd ft q) ∧
  M1.get pb = some (.map (if k < i then [] else [e]) clk)
theorem w89 (Φ : Nat → Option CF) (h : Φ 89 = some c89) (h123 : Φ 123 = some c123) (h127 : Φ 127 = some c127) {F : RO} {M : Mem} {c db fb pb sb so n fcap el kn k born clk fty : Nat} {ex str : Bool} {fd : List V} {ft : T} {vk : List V}
    (ok : Okm F M c) (hc : db < c ∧ fb < c ∧ pb < c ∧ sb < c) (hne : db ≠ fb ∧ db ≠ pb ∧ fb ≠ pb ∧ sb ≠ fb ∧ sb ≠ pb)
    (l0 : load1 F M db 0 = some (.l fb 0 n fcap)) (l1 : load1 F M db 1 = some (.m pb)) (hfb : M.get fb = some (.cells fty (n * 128) ex 0 str fd ft)) (hpb : M.get pb = some (.map [(.i .i64 (k : Int), .u sb so 1 el kn, born)] clk))
    (hk : loadN F M sb so 128 = some vk) (hkl : vk.length = 128) (hk1 : allOne vk = true) (hall : ∀ s, s < n → ∃ vs, loadN F M fb (s * 128) 128 = some vs ∧ vs.length = 128 ∧ allOne vs = true) (hkn : k < n) (hn : n ≤ 65536) :
    Calls Φ F 89 [.p db 0, .i .i64 0, .i .i64 (n : Int)] M c fun r M' c' => r = .i .i64 0 ∧ c' = c + 11 * n ∧ FI F M c db fb pb n k fty ex str fd ft vk (.i .i64 (k : Int), .u sb so 1 el kn, born) clk n M' := by
  refine calls_walk h ?_
  have hn0 : 0 < n := by omega
  have hc137 : Calls Φ F 123 [.p db 0] M c fun r M' c' => r = .b true ∧ c' = c ∧ M' = M := w123 Φ h123 l0 hn0
  obtain ⟨v7, M7, c7, e7, rfl, rfl, rfl⟩ := hc137
  have d1 : decide ((n : Int) < 0) = false := decide_eq_false (by omega)
  have d2 : decide ((n : Int) < 0) = false := decide_eq_false (by omega)
  have q1 : biV .sub (.i .i64 (n : Int)) (.i .i64 0) = some (.i .i64 (n : Int)) := by rw [bi_sub]; congr 2; rw [Int.sub_zero]; exact wrap_i64 (by omega) (by omega)
  have d3 : decide ((n : Int) < (n : Int)) = false := decide_eq_false (by omega)
  simp only [WX, Int.reduceLT, B89, v_nck, nckV_p, l0, e7, d1, q1, d3]
  obtain ⟨I, hI⟩ : ∃ I : Nat → St → Prop, ∀ m s, I m s ↔ (∃ (i : Nat) (u : List (Option V)) (M1 : Mem), m = n - i ∧ i ≤ n ∧ s = .mk ((tFlb0 u (.p db 0) (.i .i64 0) (.i .i64 (n : Int)) (.i .i64 (i : Int)))) [] M1 (c7 + 11 * i) ∧ FI F M7 c7 db fb pb n k fty ex str fd ft vk (.i .i64 (k : Int), .u sb so 1 el kn, born) clk i M1) := ⟨fun m s => _, fun _ _ => Iff.rfl⟩
  refine wp_while I ?_ n _ ((hI _ _).2 ⟨0, (G2 (G1 (X4 (G1 (X32 (X16 (X4 (X2 (X1 []))))))))), M7, rfl, Nat.zero_le _, rfl, ok, fun b _ _ _ => rfl, ⟨ft, hfb, fun q => by rw [if_neg (by omega)]⟩, by rw [if_neg (by omega)]; exact hpb⟩)
  intro m s hIs
  obtain ⟨i, u, M1, rfl, hi, rfl, ok1, hold, ⟨ft1, hf1, hcell⟩, hp1⟩ := (hI _ _).1 hIs
  clear hIs
  have q8 : biV .add (.i .i64 (i : Int)) (.i .i64 1) = some (.i .i64 ((i + 1 : Nat) : Int)) := by rw [i64_add _ _ (by omega) (by omega)]; simp
  have q9 : biV .add (.i .i64 0) (.i .i64 (n : Int)) = some (.i .i64 (n : Int)) := by rw [i64_add _ _ (by omega) (by omega)]; simp
  by_cases hlt : i < n
  · have dlt : decide ((i : Int) < (n : Int)) = true := decide_eq_true (by omega)
    have k0 : load1 F M1 db 0 = some (.l fb 0 n fcap) := by rw [load1_fr (hold db hc.1 hne.1 hne.2.1)]; exact l0
    have k1 : load1 F M1 db 1 = some (.m pb) := by rw [load1_fr (hold db hc.1 hne.1 hne.2.1)]; exact l1
    have kk : loadN F M1 sb so 128 = some vk := by rw [loadN_fr (hold sb hc.2.2.2 hne.2.2.2.1 hne.2.2.2.2)]; exact hk
    obtain ⟨vs, hvs, hvl, hv1⟩ := hall i hlt
    have hvs' := hvs
    rw [loadN_cells hfb] at hvs'
    have hvc := (cellsAt_get 128 (i * 128) vs hvs').2
    have kv : i ≠ k → loadN F M1 fb (i * 128) 128 = some vs := fun hik => by
      rw [loadN_cells hf1, ← hvs']
      refine cellsAt_congr 128 (i * 128) fun j hj => ?_
      rw [hcell, if_neg (by omega)]
    obtain ⟨r0, hr0⟩ : ∃ r0, r0 = if i = k then vk else vs := ⟨_, rfl⟩
    have hrl : r0.length = 128 := by rw [hr0]; split <;> assumption
    have hr1 : allOne r0 = true := by rw [hr0]; split <;> assumption
    obtain ⟨o, ho, hso⟩ : ∃ o, findK .int (.i .i64 (i : Int)) (if k < i then [] else [(V.i .i64 (k : Int), V.u sb so 1 el kn, born)]) 0 = some o ∧ ((i = k ∧ o = some (0, .u sb so 1 el kn)) ∨ (i ≠ k ∧ o = none)) := by
      by_cases h1 : k < i
      · rw [if_pos h1]; exact ⟨none, fk_nil _, .inr ⟨by omega, rfl⟩⟩
      · rw [if_neg h1]
        by_cases h2 : i = k
        · subst h2; exact ⟨_, fk_hit _ _ _, .inl ⟨rfl, rfl⟩⟩
        · exact ⟨none, fk_miss (by omega) _ _, .inr ⟨h2, rfl⟩⟩
    have hle : i * 128 + r0.length ≤ n * 128 := by rw [hrl]; omega
    simp only [WX, B89, nckV_p, dq_nck, k0, q9, dlt]
    have okA : Okm F M1 (c7 + (11 * i + 10)) := ⟨fun b hb => ok1.hiM b (by omega), fun b hb => ok1.hiF b (by omega), ok1.ap, by have := ok1.ge; omega⟩
    refine wd_ef _ _ _ _ _ _ _ _ _ _ _ okA ?_
    intro F' M' ok' hlk
    have hcall := w127 Φ h127 (F := F') (M := M') (c := c7 + (11 * i + 10)) (db := db) (fb := fb) (pb := pb) (n := n) (fcap := fcap) (clk := clk) (s := i) (o := o) (r0 := r0) ⟨by omega, by omega, by omega⟩ (by rw [load1_lk hlk]; exact k0) (by rw [load1_lk hlk]; exact k1) (by rw [hlk, look_some_M hp1]) ho hlt
      (by
        rcases hso with ⟨h1, h2⟩ | ⟨h1, h2⟩
        · exact .inl ⟨0, sb, so, el, kn, h2, by omega, by rw [loadN_lk hlk, hr0, if_pos h1]; exact kk⟩
        · exact .inr ⟨h2, by rw [loadN_lk hlk, hr0, if_neg h1]; exact kv h1⟩) hrl hr1
    refine RTo.mono hcall ?_
    rintro v M2 c2 ⟨rfl, rfl, x, rfl⟩
    refine ⟨(Gr.refl ok').set _ _ (Nat.le_refl _) (Nat.lt_succ_self _) (Nat.le_succ _), ?_⟩
    intro M3 hg3 h1003
    have hf3 : M3.get fb = some (.cells fty (n * 128) ex 0 str fd ft1) := by rw [hg3.old fb (by omega)]; exact hf1
    have hp3 : M3.get pb = some (.map (if k < i then [] else [(V.i .i64 (k : Int), V.u sb so 1 el kn, born)]) clk) := by rw [hg3.old pb (by omega)]; exact hp1
    have hst := storeN_of hf3 hle (Nat.zero_le _) hr1
    have hia : iaSV 128 (.l fb 0 n fcap) (.i .i64 (i : Int)) = some (.p fb (i * 128)) := by
      have := iaS_l 128 fb 0 n fcap i .i64 hlt
      simpa using this
    have k13 : load1 F M3 db 1 = some (.m pb) := by rw [load1_fr (hg3.old db (by omega))]; exact k1
    obtain ⟨M4, hM4⟩ : ∃ M4, M4 = M3.set fb (.cells fty (n * 128) ex 0 str fd (listTr r0 (i * 128) ft1)) := ⟨_, rfl⟩
    rw [← hM4] at hst
    have g4 : ∀ b, b ≠ fb → M4.get b = M3.get b := fun b hb => by rw [hM4, Tr.get_set, if_neg hb]
    have f4 : M4.get fb = some (.cells fty (n * 128) ex 0 str fd (listTr r0 (i * 128) ft1)) := by rw [hM4, Tr.get_set, if_pos rfl]
    have k14 : load1 F M4 db 1 = some (.m pb) := by rw [load1_fr (g4 db hne.1)]; exact k13
    have p4 : M4.get pb = some (.map (if k < i then [] else [(V.i .i64 (k : Int), V.u sb so 1 el kn, born)]) clk) := by rw [g4 pb (Ne.symm hne.2.2.1)]; exact hp3
    obtain ⟨M5, hd5, p5, g5⟩ : ∃ M5, delV (.m pb) (.i .i64 (i : Int)) M4 (c7 + (11 * i + 10 + 1)) = .k undef M5 (c7 + (11 * i + 10 + 1)) ∧ M5.get pb = some (.map (if k < i + 1 then [] else [(V.i .i64 (k : Int), V.u sb so 1 el kn, born)]) clk) ∧ ∀ b, b ≠ pb → M5.get b = M4.get b := by
      rcases hso with ⟨h1, h2⟩ | ⟨h1, h2⟩
      · subst h1
        rw [if_neg (Nat.lt_irrefl i)] at p4
        exact ⟨_, delV_one p4 (fk_hit _ _ _), by rw [if_pos (Nat.lt_succ_self i), Tr.get_set, if_pos rfl], fun b hb => by rw [Tr.get_set, if_neg hb]⟩
      · refine ⟨M4, delV_none p4 (by rw [ho, h2]), ?_, fun _ _ => rfl⟩
        rw [p4]
        by_cases h1003 : k < i
        · rw [if_pos h1003, if_pos (by omega)]
        · rw [if_neg h1003, if_neg (by omega)]
    have ok3 : Okm F M3 (c7 + (11 * i + 10) + 1) := hg3.ok okA
    have fr3 : roFree M3 F = true := ok3.free
    have hx4 : ∀ b, M3.get b = none → M4.get b = none := fun b hb => by
      by_cases e : b = fb
      · rw [e, hf3] at hb; cases hb
      · rw [g4 b e]; exact hb
    have hx5 : ∀ b, M3.get b = none → M5.get b = none := fun b hb => by
      by_cases e : b = pb
      · rw [e, hp3] at hb; cases hb
      · rw [g5 b e]; exact hx4 b hb
    have fr4 : roFree M4 F = true := roFree_of M4 F fun b hb => hx4 b (ok3.ap b hb)
    have ok5 : Okm F M5 (c7 + 11 * (i + 1)) := ⟨fun b hb => hx5 b (ok3.hiM b (by omega)), fun b hb => ok3.hiF b (by omega), fun b hb => hx5 b (ok3.ap b hb), by have := ok3.ge; omega⟩
    simp only [WX, Nat.reducePow, Nat.reduceDiv, Nat.reduceMod, Nat.reduceBEq, Nat.reduceAdd, wd_e1, B89, v_nck, nckV_p, hia, hst, hrl, fr4, k14, x_del_eq, hd5, q8]
    refine ⟨n - (i + 1), by omega, (hI _ _).2 ⟨i + 1, (G2 (G1 (X4 (G1 (X32 (X16 (X4 (X2 (X1 []))))))))), M5, rfl, by omega, rfl, ok5, ?_, ⟨_, by rw [g5 fb hne.2.2.1]; exact f4, ?_⟩, p5⟩⟩
    · intro b hb h1 h2
      rw [g5 b h2, g4 b h1, hg3.old b (by omega)]
      exact hold b hb h1 h2
    · intro q
      rw [cell_listTr _ _ _ _ _ hle, hrl]
      by_cases hq : i * 128 ≤ q ∧ q < i * 128 + 128
      · rw [if_pos hq]
        by_cases hik : i = k
        · subst hik
          rw [if_pos ⟨Nat.lt_succ_self i, hq⟩, hr0, if_pos rfl]
        · rw [if_neg (by omega), hr0, if_neg hik]
          have hj : q - i * 128 < vs.length := by omega
          rw [List.getElem?_eq_getElem hj]
          have := hvc (q - i * 128) _ (List.getElem?_eq_getElem hj)
          rw [show i * 128 + (q - i * 128) = q by omega] at this
          exact this.symm
      · rw [if_neg hq, hcell]
        by_cases h1 : k < i ∧ k * 128 ≤ q ∧ q < k * 128 + 128
        · rw [if_pos h1, if_pos (by omega)]
        · rw [if_neg h1, if_neg (by
            intro h2
            by_cases e : k = i
            · subst e; exact hq h2.2
            · exact h1 ⟨by omega, h2.2⟩)]
  · obtain rfl : i = n := by omega
    have dlt : decide ((i : Int) < (i : Int)) = false := decide_eq_false (by omega)
    simp only [WX, B89, q9, dlt]
    exact ⟨ok1, hold, ⟨ft1, hf1, hcell⟩, hp1⟩
end Go.Proofs.YtaogopbhjinmoaaGreatDoor.Ev
namespace Go.Proofs.YtaogopbhjinmoaaGreatDoor.Ev
open Go
noncomputable section
def oOne : Option V → Bool
  | some v => isOne v
  | none => true
def trOne : T → Bool
  | .e => true
  | .n l v r => trOne l && (oOne v && trOne r)
def nbq (a b : Nat) : Bool := notB (Nat.beq a b)
def flN (M : Mem) (ct db fb pb sb so k n sz clk fty : Nat) (ex str : Bool) (fd : List V) (ft : T) (ovk : Option (List V)) : RC :=
  match ovk with
  | some vk =>
    bif (nbq db fb && (nbq db pb && (nbq fb pb && (nbq sb fb && nbq sb pb)))) && ((Nat.beq sz (n * 128) && (Nat.blt k n && Nat.ble n 65536)) && ((allOne fd && Nat.blt 0 fd.length) && (trOne ft && allOne vk))) then
      ((M.set fb (.cells fty sz ex 0 str fd (listTr vk (k * 128) ft))).set pb (.map [] clk)).force fun N => fN (ct + 11 * n) fun c' => .k (.i .i64 (.ofNat 0)) N c'
    else .f
  | none => .f
def flM (F : RO) (M : Mem) (ct db fb pb n : Nat) (o1 o2 : Option Blk) : RC :=
  match o1, o2 with
  | some (.cells fty sz ex 0 str fd ft), some (.map [(.i .i64 (.ofNat k), .u sb so 1 el kn, born)] clk) => flN M ct db fb pb sb so k n sz clk fty ex str fd ft (loadN F M sb so 128)
  | _, _ => .f
def flL (F : RO) (M : Mem) (ct db n : Nat) (o1 o2 : Option V) : RC :=
  match o1, o2 with
  | some (.l fb 0 n' cap), some (.m pb) => bif Nat.beq n' n then flM F M ct db fb pb n (M.get fb) (M.get pb) else .f
  | _, _ => .f
def flushO (F : RO) (args : List V) (M : Mem) (ct : Nat) : RC :=
  match args with
  | [.p db 0, .i .i64 (.ofNat 0), .i .i64 (.ofNat n)] => flL F M ct db n (load1 F M db 0) (load1 F M db 1)
  | _ => .f
end
theorem nbq_ne {a b : Nat} (h : nbq a b = true) : a ≠ b := by
  intro e
  subst e
  unfold nbq at h
  rw [Nat.beq_refl] at h; cases h
theorem trOne_get : ∀ {t : T}, trOne t = true → ∀ q v, t.get q = some v → isOne v = true := by
  intro t
  induction t with
  | e => intro _ q v h; cases h
  | n l o r ihl ihr =>
    intro h q v hq
    obtain ⟨h1, h2⟩ := an2 (show (trOne l && (oOne o && trOne r)) = true from h)
    obtain ⟨h2, h3⟩ := an2 h2
    rw [Tr.get_n] at hq
    split at hq
    · subst hq; exact h2
    · split at hq
      · exact ihr h3 _ v hq
      · exact ihl h1 _ v hq
theorem cellsAt_all {n : Nat} {d : List V} {t : T} : ∀ (m o : Nat), (∀ j, j < m → ∃ v, cell n d t (o + j) = some v ∧ isOne v = true) → ∃ vs, cellsAt n d t m o = some vs ∧ vs.length = m ∧ allOne vs = true
  | 0, o, _ => ⟨[], rfl, rfl, rfl⟩
  | m + 1, o, h => by
    obtain ⟨v, h1, h2⟩ := h 0 (by omega)
    rw [Nat.add_zero] at h1
    obtain ⟨vs, h3, h4, h5⟩ := cellsAt_all m (o + 1) fun j hj => by
      have := h (j + 1) (by omega)
      rw [show o + 1 + j = o + (j + 1) by omega]; exact this
    exact ⟨v :: vs, by simp only [cellsAt_succ, h1, h3], by rw [List.length_cons, h4], by rw [allOne_cons, h2, h5]; rfl⟩
theorem cell_one {n : Nat} {d : List V} {t : T} (hd : allOne d = true) (hl : 0 < d.length) (ht : trOne t = true) {q : Nat} (hq : q < n) : ∃ v, cell n d t q = some v ∧ isOne v = true := by
  rw [cell_eq, if_pos hq]
  cases h : t.get q with
  | some v => exact ⟨v, rfl, trOne_get ht q v h⟩
  | none =>
    have hj := Nat.mod_lt q hl
    exact ⟨d[q % d.length], List.getElem?_eq_getElem hj, allOne_mem hd _ (List.getElem_mem hj)⟩
theorem okm_wf {F : RO} {M : Mem} {ct : Nat} {args : List V} (h : Wf F M ct args) : Okm F M ct := by
  refine ⟨fun b hb => ?_, fun b hb => ?_, h.ap, h.ge⟩
  · cases hm : M.get b with
    | none => rfl
    | some x => have := h.lt b x (look_some_M hm); omega
  · cases hm : roGet F b with
    | none => rfl
    | some x =>
      have := h.lt b x (by rw [look_none_M (h.ap b (by rw [hm]; rfl))]; exact hm)
      omega
theorem loadN_len {F : RO} {M : Mem} {b o m : Nat} {vs : List V} (h : loadN F M b o m = some vs) : vs.length = m := by
  have h' : asCells (look F M b) none (fun n d c => cellsAt n d c m o) = some vs := h
  cases hl : look F M b with
  | none => rw [hl] at h'; cases h'
  | some x =>
    rw [hl] at h'
    cases x with
    | cells ty n ex fz str d t => exact (cellsAt_get m o vs h').1
    | _ => cases h'
theorem orc_flush {P : Program} (hm : P.follows .mixedOrders = true) {Φ : Nat → Option CF} (hΦ : PhiOk P Φ) (h : Φ 89 = some c89) (h123 : Φ 123 = some c123) (h127 : Φ 127 = some c127) : OrcOk P 89 flushO := by
  refine orc_of_weak hm hΦ ?_
  intro F args M ct v N ct' hg hW
  unfold flushO at hg
  split at hg
  · rename_i db n
    unfold flL at hg
    split at hg
    · rename_i fb n' fcap pb l0 l1
      cases hn : Nat.beq n' n with
      | false => rw [hn] at hg; cases hg
      | true =>
        rw [hn, cond_true] at hg
        obtain rfl := nbeq hn
        unfold flM at hg
        split at hg
        · rename_i fty sz ex str fd ft k sb so el kn born clk hfb hpb
          unfold flN at hg
          split at hg
          · rename_i vk hk
            generalize hb : ((nbq db fb && (nbq db pb && (nbq fb pb && (nbq sb fb && nbq sb pb)))) && ((Nat.beq sz (n' * 128) && (Nat.blt k n' && Nat.ble n' 65536)) && ((allOne fd && Nat.blt 0 fd.length) && (trOne ft && allOne vk)))) = bb at hg
            cases bb with
            | false => cases hg
            | true =>
              rw [cond_true, Tr.force_eq, fN_eq] at hg
              injection hg with e1 e2 e3
              subst e1 e2 e3
              obtain ⟨ha, hb⟩ := an2 hb
              obtain ⟨pa1, ha⟩ := an2 ha
              obtain ⟨pa2, ha⟩ := an2 ha
              obtain ⟨pa3, ha⟩ := an2 ha
              obtain ⟨pa4, pa5⟩ := an2 ha
              obtain ⟨hb, hc⟩ := an2 hb
              obtain ⟨b1, hb⟩ := an2 hb
              obtain ⟨b2, b3⟩ := an2 hb
              obtain ⟨hc, hd⟩ := an2 hc
              obtain ⟨d1, d2⟩ := an2 hc
              obtain ⟨d3, d4⟩ := an2 hd
              obtain rfl := nbeq b1
              have hkn : k < n' := by rw [bltN] at b2; exact of_decide_eq_true b2
              have hnm : n' ≤ 65536 := by rw [bleN] at b3; exact of_decide_eq_true b3
              have hfl : 0 < fd.length := by rw [bltN] at d2; exact of_decide_eq_true d2
              have ok := okm_wf hW
              have hdb : db < ct := hW.args.1
              have hfbl : fb < ct := hW.lt fb _ (look_some_M hfb)
              have hpbl : pb < ct := hW.lt pb _ (look_some_M hpb)
              have hsbl : sb < ct := by
                cases hs : look F M sb with
                | none =>
                  have : loadN F M sb so 128 = none := by
                    show asCells (look F M sb) none (fun n d c => cellsAt n d c 128 so) = none
                    rw [hs]; rfl
                  rw [this] at hk; cases hk
                | some x => exact hW.lt sb x hs
              have hkl : vk.length = 128 := loadN_len hk
              have hall : ∀ s, s < n' → ∃ vs, loadN F M fb (s * 128) 128 = some vs ∧ vs.length = 128 ∧ allOne vs = true := fun s hs => by
                rw [loadN_cells hfb]
                exact cellsAt_all 128 (s * 128) fun j hj => cell_one d1 hfl d3 (by omega)
              obtain ⟨r, N0, c0, hcall, rfl, rfl, okN, hold, ⟨ft1, hf1, hcell⟩, hp1⟩ := w89 Φ h h123 h127 ok ⟨hdb, hfbl, hpbl, hsbl⟩ ⟨nbq_ne pa1, nbq_ne pa2, nbq_ne pa3, nbq_ne pa4, nbq_ne pa5⟩ l0 l1 hfb hpb hk hkl d4 hall hkn hnm
              refine ⟨N0, hcall, ?_⟩
              intro b blk hb
              rw [Tr.get_set] at hb
              by_cases e1 : b = pb
              · subst e1
                rw [if_pos rfl] at hb
                obtain rfl := Option.some.inj hb
                rw [if_pos hkn] at hp1
                exact ⟨_, hp1, .inl rfl⟩
              · rw [if_neg e1, Tr.get_set] at hb
                by_cases e2 : b = fb
                · subst e2
                  rw [if_pos rfl] at hb
                  obtain rfl := Option.some.inj hb
                  refine ⟨_, hf1, .inr ⟨fty, _, ex, 0, str, fd, fd, ft1, _, rfl, rfl, fun q w hq => ?_⟩⟩
                  rw [cell_listTr _ _ _ _ _ (by rw [hkl]; omega), hkl] at hq
                  rw [hcell]
                  by_cases hq1 : k * 128 ≤ q ∧ q < k * 128 + 128
                  · rw [if_pos hq1] at hq
                    rw [if_pos ⟨hkn, hq1⟩]; exact hq
                  · rw [if_neg hq1] at hq
                    rw [if_neg (fun h => hq1 h.2)]; exact hq
                · rw [if_neg e2] at hb
                  exact ⟨blk, by rw [hold b (hW.lt b blk (look_some_M hb)) e2 e1]; exact hb, .inl rfl⟩
          · cases hg
        · cases hg
    · cases hg
  · cases hg
end Go.Proofs.YtaogopbhjinmoaaGreatDoor.Ev
set_option maxRecDepth 10000
set_option maxHeartbeats 4000000
namespace Go.Proofs.YtaogopbhjinmoaaGreatDoor.Ev
open Go
noncomputable def b124_1 : CC := (.reg [(pqq pa3 (.mv pz0)), (pqq pa4 (.eq false .slice true pz3 (.c .l0)))])
noncomputable def b124_2 : CC := (.seq (.reg [(pqq pa2 (.mv (.c .l0)))]) .ret)
noncomputable def b124_3 : CC := (.reg [(paa pa5 (.bsl 222 0 128 zr128 [])), (pqq pa6 (.mv pz0)), (pee pa7 (.app 222 128 128 pz5 pz6)), (pqq pa2 (.mv pz7))])
noncomputable def b124_4 : CC := (.seq (.seq b124_1 (.cond pz4 b124_2 .skip)) (.seq b124_3 .ret))
noncomputable def b124_5 : CC := (.seq (.reg [(pqq pa2 (.mv (.c .l0)))]) b124_4)
noncomputable def c124 : CF := .mk 4 [.t pa2] b124_5
theorem e124 (v0 : V) : argTr 4 [v0] = (.n sk3 (some v0) sk3) := rfl
def B124 := ai @e124 (ai (wu b124_1.eq_1) (ai (wu b124_2.eq_1) (ai (wu b124_3.eq_1) (ai (wu b124_4.eq_1) (wu b124_5.eq_1)))))
theorem w124 (Φ : Nat → Option CF) (h : Φ 124 = some c124) {F : RO} {M : Mem} {c fb n cap : Nat} {ns : List (List V)} (ok : Okm F M c) (hs : SlAt F M c 128 (.l fb 0 n cap) ns) (hn : ns.length = n) (h0 : ns ≠ []) (h1 : allOne ns.flatten = true) (hr : room n 128 = true) :
    Calls Φ F 124 [.l fb 0 n cap] M c fun r M' c' => r = .u (c + 1) 0 n 0 n ∧ c' = c + 2 ∧ ∃ x, M' = (M.set c x).set (c + 1) (rowU 222 ns.flatten) := by
  refine calls_walk h ?_
  have e1 : eqV F M .slice true (.l fb 0 n cap) .l0 = some false := Eq.trans rfl (Eq.refl _)
  simp only [WX, B124, e1]
  have hs0 : SlAt F (M.set c (rowD zr128 222 [])) (c + 1) 128 (.l c 0 0 0) [] := ⟨fun e he => (by cases he), .inr ⟨c, 0, .inl ⟨0, Nat.le_refl _, rfl⟩, Nat.lt_succ_self c, fun k hk => (by cases hk)⟩⟩
  have hs1 : SlAt F (M.set c (rowD zr128 222 [])) (c + 1) 128 (.l fb 0 n cap) ns := SlAt.grow hs ((Gr.refl ok).set c _ (Nat.le_refl _) (Nat.lt_succ_self _) (Nat.le_succ _))
  refine putE_to ((appL_to hs0 rfl (by omega) hs1 h0 h1 (by rw [List.length_nil, Nat.zero_add, hn]; exact hr)).mono ?_)
  rintro v' M' c' ⟨rfl, rfl, rfl⟩
  simp only [WX, Nat.reduceAdd, hn]
  exact ⟨_, rfl⟩
end Go.Proofs.YtaogopbhjinmoaaGreatDoor.Ev
namespace Go.Proofs.YtaogopbhjinmoaaGreatDoor.Ev
open Go
def chunks (l : List V) : Nat → List (List V)
  | 0 => []
  | n + 1 => l.take 128 :: chunks (l.drop 128) n
theorem chunks_len : ∀ (n : Nat) (l : List V), (chunks l n).length = n
  | 0, _ => rfl
  | n + 1, l => by rw [chunks, List.length_cons, chunks_len n]
theorem chunks_flat : ∀ (n : Nat) (l : List V), l.length = n * 128 → (chunks l n).flatten = l
  | 0, l, h => by
    obtain rfl : l = [] := List.eq_nil_of_length_eq_zero (by omega)
    rfl
  | n + 1, l, h => by
    rw [chunks, List.flatten_cons, chunks_flat n _ (by rw [List.length_drop]; omega), List.take_append_drop]
theorem chunks_each : ∀ (n : Nat) (l : List V), l.length = n * 128 → ∀ e ∈ chunks l n, e.length = 128
  | 0, l, h, e, he => by cases he
  | n + 1, l, h, e, he => by
    rw [chunks] at he
    rcases List.mem_cons.1 he with rfl | he
    · rw [List.length_take]; omega
    · exact chunks_each n _ (by rw [List.length_drop]; omega) e he
noncomputable section
def clM (M : Mem) (ct n cap : Nat) (o : Option Blk) : RC :=
  match o with
  | some (.cells ty sz ex fz str fd ft) =>
    bif (Nat.beq sz (n * 128) && (Nat.blt 0 n && Nat.ble n cap)) && (room n 128 && ((allOne fd && Nat.blt 0 fd.length) && trOne ft)) then
      (M.set (ct + 1) (.cells 222 sz false 0 false fd ft)).force fun N => fN (ct + 2) fun c' => fN (ct + 1) fun b => .k (.u b 0 n 0 n) N c'
    else .f
  | _ => .f
def cloneO (F : RO) (args : List V) (M : Mem) (ct : Nat) : RC :=
  match args with
  | [.l fb 0 n cap] => clM M ct n cap (look F M fb)
  | _ => .f
def isLs : List V → Bool
  | [.l _ 0 _ _] => true
  | _ => false
end
theorem orc_clone {P : Program} (hm : P.follows .mixedOrders = true) {Φ : Nat → Option CF} (hΦ : PhiOk P Φ) (h : Φ 124 = some c124) : OrcOk P 124 cloneO := by
  refine orc_of_weak hm hΦ ?_
  intro F args M ct v N ct' hg hW
  unfold cloneO at hg
  split at hg
  · rename_i fb n cap
    generalize hl : look F M fb = ol at hg
    unfold clM at hg
    split at hg
    · rename_i ty sz ex fz str fd ft
      generalize hb : ((Nat.beq sz (n * 128) && (Nat.blt 0 n && Nat.ble n cap)) && (room n 128 && ((allOne fd && Nat.blt 0 fd.length) && trOne ft))) = bb at hg
      cases bb with
      | false => cases hg
      | true =>
        rw [cond_true, Tr.force_eq, fN_eq, fN_eq] at hg
        injection hg with e1 e2 e3
        subst e1 e2 e3
        obtain ⟨ha, hb⟩ := an2 hb
        obtain ⟨pa1, ha⟩ := an2 ha
        obtain ⟨pa2, pa3⟩ := an2 ha
        obtain ⟨b1, hb⟩ := an2 hb
        obtain ⟨hb, b4⟩ := an2 hb
        obtain ⟨b2, b3⟩ := an2 hb
        obtain rfl := nbeq pa1
        have hn0 : 0 < n := by rw [bltN] at pa2; exact of_decide_eq_true pa2
        have hncap : n ≤ cap := by rw [bleN] at pa3; exact of_decide_eq_true pa3
        have hfl : 0 < fd.length := by rw [bltN] at b3; exact of_decide_eq_true b3
        have ok := okm_wf hW
        obtain ⟨vs, h3, h4, h5⟩ := cellsAt_all (d := fd) (t := ft) (n := n * 128) (n * 128) 0 fun j hj => by
          rw [Nat.zero_add]; exact cell_one b2 hfl b4 hj
        have hget := (cellsAt_get _ _ _ h3).2
        have hcell : ∀ q, q < n * 128 → cell (n * 128) fd ft q = vs[q]? := fun q hq => by
          have hq' : q < vs.length := by omega
          have := hget q _ (List.getElem?_eq_getElem hq')
          rw [Nat.zero_add] at this
          rw [this, List.getElem?_eq_getElem hq']
        have hfb : fb < ct := hW.lt fb _ hl
        have hs : SlAt F M ct 128 (.l fb 0 n cap) (chunks vs n) := by
          refine ⟨chunks_each n vs h4, .inr ⟨fb, 0, .inl ⟨cap, by rw [chunks_len]; exact hncap, by rw [chunks_len]⟩, hfb, ?_⟩⟩
          rw [chunks_flat n vs h4]
          intro q hq
          rw [Nat.zero_add]
          show asCells (look F M fb) none (fun n d c => cell n d c q) = _
          rw [hl]
          exact hcell q (by omega)
        obtain ⟨r, N0, c0, hcall, rfl, rfl, x, rfl⟩ := w124 Φ h ok hs (chunks_len n vs) (by
          intro e
          have := chunks_len n vs
          rw [e] at this
          simp at this; omega) (by rw [chunks_flat n vs h4]; exact h5) b1
        refine ⟨_, hcall, ?_⟩
        intro b blk hb
        rw [chunks_flat n vs h4]
        rw [Tr.get_set] at hb
        by_cases e1 : b = ct + 1
        · subst e1
          rw [if_pos rfl] at hb
          obtain rfl := Option.some.inj hb
          refine ⟨_, by rw [Tr.get_set, if_pos rfl], .inr ⟨222, n * 128, false, 0, false, [], fd, rowT vs, ft, ?_, rfl, fun q w hq => ?_⟩⟩
          · unfold rowU; rw [h4]
          · have hlt : q < n * 128 := by
              rw [cell_eq] at hq
              split at hq
              · assumption
              · cases hq
            rw [hcell q hlt] at hq
            have := cell_row vs q
            rw [h4] at this
            rw [this]; exact hq
        · rw [if_neg e1] at hb
          have hb' := hW.lt b blk (look_some_M hb)
          exact ⟨blk, by rw [Tr.get_set, if_neg e1, Tr.get_set, if_neg (by omega)]; exact hb, .inl rfl⟩
    · cases hg
  · cases hg
noncomputable def elseL (Φ : Nat → Option CF) (fuel f : Nat) (q : List V → Bool) (g : RO → List V → Mem → Nat → RC) : RO → List V → Mem → Nat → RC := fun F args M ct => bif q args then g F args M ct else callC (exec Φ fuel) F f args M ct (Φ f)
theorem orc_elseL {P : Program} (hm : P.follows .mixedOrders = true) {Φ : Nat → Option CF} (hΦ : PhiOk P Φ) {fuel f : Nat} {q : List V → Bool} {g : RO → List V → Mem → Nat → RC} (hg : OrcOk P f g) : OrcOk P f (elseL Φ fuel f q g) := by
  intro F args M ct v N ct' h
  unfold elseL at h
  cases hq : q args with
  | true =>
    rw [hq, cond_true] at h
    exact hg F args M ct v N ct' h
  | false =>
    rw [hq, cond_false] at h
    exact callOk_of (rd := none) (fn := 0) (F₀ := []) hΦ (exec_sound hm hΦ fuel) F f args M ct v N ct' h
end Go.Proofs.YtaogopbhjinmoaaGreatDoor.Ev
set_option maxRecDepth 10000
set_option maxHeartbeats 4000000
namespace Go.Proofs.YtaogopbhjinmoaaGreatDoor.Ev
open Go
section
variable {Φ : Nat → Option CF} {rd : Option Nat} {fn : Nat} {F : RO}
noncomputable def iaAV (n sz : Nat) (x i : V) : Option V := (qop (.iaA n sz (.c x) (.c i)) [] .e .e).val
theorem v_iaA (n sz : Nat) (x i : X) (M : Mem) (t : T) : (qop (.iaA n sz x i) F M t).val = iaAV n sz (x.ev t) (i.ev t) := Eq.trans rfl (Eq.refl _)
theorem iaA_p (n sz b o i : Nat) (k : IntKind) (h : i < n) : iaAV n sz (.p b o) (.i k (i : Int)) = some (.p b (o + i * sz)) := by
  show (q_ia sz b o n (Int.ofNat i)).val = _
  show (Bool.rec (motive := fun _ => QR) .f (mkP b (Nat.add o (Nat.mul i sz))) (Nat.blt i n)).val = _
  rw [bb, bltN, decide_eq_true h, if_pos rfl]
  unfold mkP; rw [fN_eq]; rfl
theorem dq_iaA (n sz : Nat) (x i : X) (M : Mem) (t : T) : dqR (.iaA n sz x i) F M t = oV (iaAV n sz (x.ev t) (i.ev t)) := by
  refine (dq_of (F := F) (M := M) (t := t) (o := .iaA n sz x i) ?_).trans (congrArg oV (v_iaA (F := F) n sz x i M t))
  intro F' M'
  refine qv_oV ?_
  show ((onP (x.ev t) QR.f fun b o => onI (i.ev t) .f fun _ i => q_ia sz b o n i) = .f ∨ ∃ y, (onP (x.ev t) QR.f fun b o => onI (i.ev t) .f fun _ i => q_ia sz b o n i) = .v y)
  cases x.ev t with
  | p b o =>
    cases i.ev t with
    | i k z =>
      cases z with
      | ofNat m =>
        show (Bool.rec (motive := fun _ => QR) .f (mkP b (Nat.add o (Nat.mul m sz))) (Nat.blt m n) = .f ∨ ∃ y, (Bool.rec (motive := fun _ => QR) .f (mkP b (Nat.add o (Nat.mul m sz))) (Nat.blt m n) : QR) = .v y)
        cases Nat.blt m n with
        | false => exact .inl rfl
        | true => exact .inr ⟨_, by show mkP b (Nat.add o (Nat.mul m sz)) = _; unfold mkP; rw [fN_eq]⟩
      | negSucc m => exact .inl rfl
    | _ => exact .inl rfl
  | _ => exact .inl rfl
theorem x_inv_eq (tbl : List (Nat × Nat)) (x : X) (args : List X) (M : Mem) (c : Nat) (t : T) : doE (.inv tbl x args) (K Φ rd fn F) M c t = callN tbl (K Φ rd fn F) (x.ev t) (evs args t) M c := Eq.trans rfl (Eq.refl _)
theorem callN_a {tbl : List (Nat × Nat)} {ty f : Nat} (h : tblF tbl ty = some f) (v : V) (args : List V) (M : Mem) (c : Nat) : callN tbl (K Φ rd fn F) (.a ty v) args M c = callC (den Φ) F f (v :: args) M c (Φ f) := by
  show invF (K Φ rd fn F) v args M c (tblF tbl ty) = _
  rw [h]; rfl
end
noncomputable def b7_1 : CC := (.reg [(pqq pa3 (.mv pz0)), (pqq pa2 (.mv pz3))])
noncomputable def b7_2 : CC := (.seq (.reg [(pqq pa2 (.mv (px6 0)))]) (.seq b7_1 .ret))
noncomputable def c7 : CF := .mk 3 [.t pa2] b7_2
theorem e7 (v0 : V) : argTr 3 [v0] = (.n sk2 (some v0) sk2) := rfl
def B7 := ai @e7 (ai (wu b7_1.eq_1) (wu b7_2.eq_1))
noncomputable def b41_1 : CC := (.reg [(pqq pa3 (.mv pz0)), (pqq pa4 (.eq true .ptr true pz3 (.c .p0))), (pqq pa5 (.mv pz4)), ⟨(some pa6), .q (.mv pz0), (some (pa5, true))⟩, ⟨(some pa7), .q (.nck pz6), (some (pa5, true))⟩, ⟨(some pa8), .q (.fa 105 pz7), (some (pa5, true))⟩, ⟨(some pa9), .q (.ld1 pz8), (some (pa5, true))⟩, ⟨(some pa10), .q (.eq true .ptr true pz9 (.c .p0)), (some (pa5, true))⟩, (pqq pa11 (.pk pz5 pz10 pxF)), (pqq pa2 (.mv pz11))])
noncomputable def b41_2 : CC := (.seq (.reg [(pqq pa2 (.mv pxF))]) (.seq b41_1 .ret))
noncomputable def c41 : CF := .mk 4 [.t pa2] b41_2
theorem e41 (v0 : V) : argTr 4 [v0] = (.n sk3 (some v0) sk3) := rfl
def B41 := ai @e41 (ai (wu b41_1.eq_1) (wu b41_2.eq_1))
noncomputable def b21_1 : CC := (.reg [(pqq pa4 (.mv (px6 0)))])
noncomputable def b21_2 : CC := (.reg [(pqq pa7 (.mv pz0)), (pee pa8 (.call 41 [pz7])), (pqq pa9 (.un .not pz8))])
noncomputable def b21_3 : CC := (.reg [(pqq pa4 (.mv (px6 1)))])
noncomputable def b21_4 : CC := (.seq b21_2 (.cond pz9 (.seq b21_3 .ret) .skip))
noncomputable def b21_5 : CC := (.reg [(pqq pa10 (.mv pz1)), (pqq pa11 (.ln .slice pz10)), (pqq pa12 (.mv (px6 0)))])
noncomputable def b21_6 : CC := (.reg [(pqq pa13 (.bi .lss pz12 pz11))])
noncomputable def b21_7 : CC := (.reg [(pqq pa14 (.iaS 1 pz10 pz12)), (pqq pa15 (.ld1 pz14)), (pqq pa6 (.mv pz15))])
noncomputable def b21_8 : CC := (.reg [(pqq pa16 (.mv pz6)), (pqq pa17 (.bi .lss pz16 (px6 1))), (pqq pa18 (.mv pz17)), ⟨(some pa19), .q (.mv pz6), (some (pa18, false))⟩, ⟨(some pa20), .q (.bi .gtr pz19 (px6 12)), (some (pa18, false))⟩, (pqq pa21 (.pk pz18 pxT pz20))])
noncomputable def b21_9 : CC := (.reg [(pqq pa4 (.mv (px6 2)))])
noncomputable def b21_10 : CC := (.seq b21_8 (.cond pz21 (.seq b21_9 .ret) .skip))
noncomputable def b21_11 : CC := (.reg [(pqq pa22 (.bi .add pz12 (px6 1))), (pqq pa12 (.mv pz22))])
noncomputable def b21_12 : CC := (.seq (.cond pz13 .skip (.exit 0)) (.seq (.block 1 (.seq b21_7 b21_10)) b21_11))
noncomputable def b21_13 : CC := (.reg [(pqq pa4 (.mv (px6 0)))])
noncomputable def b21_14 : CC := (.seq (.seq b21_5 (.block 0 (.loop (.seq b21_6 b21_12)))) (.seq b21_13 .ret))
noncomputable def c21 : CF := .mk 5 [.t pa4] (.seq b21_1 (.seq b21_4 b21_14))
theorem e21 (v0 v1 : V) : argTr 5 [v0, v1] = (.n (.n sk3 (some v1) sk3) (some v0) sk4) := rfl
def B21 := ai @e21 (ai (wu b21_1.eq_1) (ai (wu b21_2.eq_1) (ai (wu b21_3.eq_1) (ai (wu b21_4.eq_1) (ai (wu b21_5.eq_1) (ai (wu b21_6.eq_1) (ai (wu b21_7.eq_1) (ai (wu b21_8.eq_1) (ai (wu b21_9.eq_1) (ai (wu b21_10.eq_1) (ai (wu b21_11.eq_1) (ai (wu b21_12.eq_1) (ai (wu b21_13.eq_1) (wu b21_14.eq_1))))))))))))))
noncomputable def b25_1 : CC := (.reg [(pqq pa6 (.mv (.c .p0))), (pqq pa7 (.mv (px6 0)))])
noncomputable def b25_2 : CC := (.reg [(pqq pa9 (.mv pz0)), (pqq pa10 (.mv pz1)), (paa pa11 (.bsl 3 1 1 [(.i .i64 0)] [(0, pz10)])), (pee pa12 (.call 21 [pz9, pz11])), (pqq pa8 (.mv pz12))])
noncomputable def b25_3 : CC := (.reg [(pqq pa13 (.mv pz8)), (pqq pa14 (.bi .neq pz13 (px6 0)))])
noncomputable def b25_4 : CC := (.reg [(pqq pa15 (.mv pz8)), (pqq pa6 (.mv (.c .p0))), (pqq pa7 (.mv pz15))])
noncomputable def b25_5 : CC := (.seq b25_3 (.cond pz14 (.seq b25_4 .ret) .skip))
noncomputable def b25_6 : CC := (.reg [(pqq pa16 (.mv pz2)), (pqq pa17 (.bi .lss pz16 (px6 0))), (pqq pa18 (.mv pz17)), ⟨(some pa19), .q (.mv pz2), (some (pa18, false))⟩, ⟨(some pa20), .q (.bi .geq pz19 (px6 8)), (some (pa18, false))⟩, (pqq pa21 (.pk pz18 pxT pz20)), (pqq pa22 (.mv pz21)), ⟨(some pa23), .q (.mv pz0), (some (pa22, false))⟩, ⟨(some pa24), .q (.mv pz1), (some (pa22, false))⟩, ⟨(some pa25), .q (.mv pz2), (some (pa22, false))⟩, ⟨(some pa26), .q (.nck pz23), (some (pa22, false))⟩, ⟨(some pa27), .q (.fa 1 pz26), (some (pa22, false))⟩, ⟨(some pa28), .q (.iaA 13 8 pz27 pz24), (some (pa22, false))⟩, ⟨(some pa29), .q (.iaA 8 1 pz28 pz25), (some (pa22, false))⟩, ⟨(some pa30), .q (.ld1 pz29), (some (pa22, false))⟩, ⟨(some pa31), .q (.eq false .ptr true pz30 (.c .p0)), (some (pa22, false))⟩, (pqq pa32 (.pk pz22 pxT pz31))])
noncomputable def b25_7 : CC := (.reg [(pqq pa6 (.mv (.c .p0))), (pqq pa7 (.mv (px6 6)))])
noncomputable def b25_8 : CC := (.cond pz32 (.seq b25_7 .ret) .skip)
noncomputable def b25_9 : CC := (.reg [(pqq pa33 (.mv pz0)), (pqq pa34 (.mv pz1)), (pqq pa35 (.mv pz2)), (pqq pa36 (.nck pz33)), (pqq pa37 (.fa 1 pz36)), (pqq pa38 (.iaA 13 8 pz37 pz34)), (pqq pa39 (.iaA 8 1 pz38 pz35)), (pqq pa40 (.ld1 pz39)), (pqq pa6 (.mv pz40)), (pqq pa7 (.mv (px6 0)))])
noncomputable def b25_10 : CC := (.seq (.seq b25_2 b25_5) (.seq (.seq b25_6 b25_8) (.seq b25_9 .ret)))
noncomputable def c25 : CF := .mk 6 [.t pa6, .t pa7] (.seq b25_1 b25_10)
theorem e25 (v0 v1 v2 : V) : argTr 6 [v0, v1, v2] = (.n (.n sk4 (some v1) sk4) (some v0) (.n sk4 (some v2) sk4)) := rfl
def B25 := ai @e25 (ai (wu b25_1.eq_1) (ai (wu b25_2.eq_1) (ai (wu b25_3.eq_1) (ai (wu b25_4.eq_1) (ai (wu b25_5.eq_1) (ai (wu b25_6.eq_1) (ai (wu b25_7.eq_1) (ai (wu b25_8.eq_1) (ai (wu b25_9.eq_1) (wu b25_10.eq_1))))))))))
theorem w7 (Φ : Nat → Option CF) (h : Φ 7 = some c7) {F : RO} {M : Mem} {c : Nat} (z : Int) :
    Calls Φ F 7 [.i .i64 z] M c fun r M' c' => r = .i .i64 z ∧ c' = c ∧ M' = M := by
  refine calls_walk h ?_
  simp only [WX, B7]
theorem w41 (Φ : Nat → Option CF) (h : Φ 41 = some c41) {F : RO} {M : Mem} {c T cn : Nat} (h1 : load1 F M T 105 = some (.p cn 0)) :
    Calls Φ F 41 [.p T 0] M c fun r M' c' => r = .b true ∧ c' = c ∧ M' = M := by
  refine calls_walk h ?_
  have e1 : ∀ b, eqV F M .ptr true (.p b 0) .p0 = some false := fun b => Eq.trans rfl (Eq.refl _)
  simp only [WX, B41, v_nck, nckV_p, h1, e1]
theorem w21 (Φ : Nat → Option CF) (h : Φ 21 = some c21) (h41 : Φ 41 = some c41) {F : RO} {M : Mem} {c T cn pi b : Nat} (h1 : load1 F M T 105 = some (.p cn 0)) (hp : 1 ≤ pi ∧ pi ≤ 12) (hs : load1 F M b 0 = some (.i .i64 (pi : Int))) :
    Calls Φ F 21 [.p T 0, .l b 0 1 1] M c fun r M' c' => r = .i .i64 0 ∧ c' = c ∧ M' = M := by
  refine calls_walk h ?_
  have hc := w41 Φ h41 (F := F) (M := M) (c := c) h1
  obtain ⟨v7, M7, c7, e7, rfl, rfl, rfl⟩ := hc
  have i0 : iaSV 1 (.l b 0 1 1) (.i .i64 0) = some (.p b 0) := iaS_l 1 b 0 1 1 0 .i64 (by decide)
  have d0 : decide ((0 : Int) < ((1 : Nat) : Int)) = true := rfl
  have d9 : decide ((1 : Int) < ((1 : Nat) : Int)) = false := rfl
  have d1 : decide ((pi : Int) < 1) = false := decide_eq_false (by omega)
  have d2 : decide ((12 : Int) < (pi : Int)) = false := decide_eq_false (by omega)
  have q1 : biV .add (.i .i64 0) (.i .i64 1) = some (.i .i64 1) := by rw [i64_add _ _ (by omega) (by omega)]; rfl
  simp only [WX, B21, e7]
  refine (wp_loop _ _ _).mpr ?_
  simp only [WX, B21, d0, i0, hs, d1, d2, q1]
  refine (wp_loop _ _ _).mpr ?_
  simp only [WX, B21, d9]
theorem w25 (Φ : Nat → Option CF) (h : Φ 25 = some c25) (h21 : Φ 21 = some c21) (h41 : Φ 41 = some c41) {F : RO} {M : Mem} {c T cn o pi fd : Nat} (ok : Okm F M c) (hT : T < c) (h1 : load1 F M T 105 = some (.p cn 0)) (hp : 1 ≤ pi ∧ pi ≤ 12) (hfd : fd < 8) (hl : load1 F M T (1 + pi * 8 + fd) = some (.p o 0)) :
    Calls Φ F 25 [.p T 0, .i .i64 (pi : Int), .i .i64 (fd : Int)] M c fun r M' c' => r = .t [.p o 0, .i .i64 0] ∧ Gr c M c' M' := by
  refine calls_walk h ?_
  have d1 : decide ((fd : Int) < 0) = false := decide_eq_false (by omega)
  have d2 : decide ((8 : Int) ≤ (fd : Int)) = false := decide_eq_false (by omega)
  have i1 : ∀ x, iaAV 13 8 (.p x 1) (.i .i64 (pi : Int)) = some (.p x (1 + pi * 8)) := fun x => iaA_p 13 8 x 1 pi .i64 (by omega)
  have i2 : ∀ x, iaAV 8 1 (.p x (1 + pi * 8)) (.i .i64 (fd : Int)) = some (.p x (1 + pi * 8 + fd)) := fun x => by have := iaA_p 8 1 x (1 + pi * 8) fd .i64 hfd; rwa [Nat.mul_one] at this
  simp only [WX, B25]
  have g1 := (Gr.refl ok).set c (rowD [V.i IntKind.i64 0] 3 [V.i IntKind.i64 (pi : Int)]) (Nat.le_refl _) (Nat.lt_succ_self _) (Nat.le_succ _)
  have hs : load1 F (M.set c (rowD [V.i IntKind.i64 0] 3 [V.i IntKind.i64 (pi : Int)])) c 0 = some (.i .i64 (pi : Int)) := (rowAt_D (get_same _ _ _)).load1 0
  generalize M.set c (rowD [V.i IntKind.i64 0] 3 [V.i IntKind.i64 (pi : Int)]) = M1 at g1 hs ⊢
  refine putE_to ((w21 Φ h21 h41 (F := F) (M := M1) (c := c + 1) (cn := cn) (by rw [g1.load1 hT]; exact h1) hp hs).mono ?_)
  rintro r M2 c2 ⟨rfl, rfl, rfl⟩
  have l1 : load1 F M2 T (1 + pi * 8 + fd) = some (.p o 0) := by rw [g1.load1 hT]; exact hl
  have l1' : load1 F M2 T (1 + (pi * 8 + fd)) = some (.p o 0) := by rw [← Nat.add_assoc]; exact l1
  have e1 : ∀ b, eqV F M2 .ptr true (.p b 0) .p0 = some false := fun b => Eq.trans rfl (Eq.refl _)
  have n0 : decide ((0 : Int) ≠ 0) = false := by decide
  simp only [WX, B25, n0, d1, d2, v_nck, nckV_p, v_iaA, i1, i2, l1', e1]
  exact g1
end Go.Proofs.YtaogopbhjinmoaaGreatDoor.Ev
set_option maxRecDepth 10000
set_option maxHeartbeats 4000000
namespace Go.Proofs.YtaogopbhjinmoaaGreatDoor.Ev
open Go
theorem appV_no {F : RO} {M : Mem} {c c' ty sz bytes : Nat} {x y : V} (hsz : 0 < sz) (hx : lenOk x = true) (hy : SlAt F M c sz y []) : appV F M c' ty sz bytes x y = .k x M c' := by
  unfold appV
  rw [split_sl hsz hy]
  show (bif allOne ([] : List V) && Nat.beq 0 (Nat.mul 0 sz) then app F M c' ty sz bytes x 0 [] else _) = _
  rw [show Nat.mul 0 sz = 0 from Nat.zero_mul sz]
  show (bif lenOk x then RC.k x M c' else .f) = _
  rw [hx]; rfl
noncomputable def b252_1 : CC := (.reg [(pqq pa3 (.mv pz0)), (pqq pa4 (.eq false .slice true pz3 (.c .l0)))])
noncomputable def b252_2 : CC := (.seq (.reg [(pqq pa2 (.mv (.c .l0)))]) .ret)
noncomputable def b252_3 : CC := (.reg [(paa pa5 (.bsl 5 0 1 [(.i .u8 0)] [])), (pqq pa6 (.mv pz0)), (pee pa7 (.app 5 1 1 pz5 pz6)), (pqq pa2 (.mv pz7))])
noncomputable def b252_4 : CC := (.seq (.seq b252_1 (.cond pz4 b252_2 .skip)) (.seq b252_3 .ret))
noncomputable def b252_5 : CC := (.seq (.reg [(pqq pa2 (.mv (.c .l0)))]) b252_4)
noncomputable def c252 : CF := .mk 4 [.t pa2] b252_5
theorem e252 (v0 : V) : argTr 4 [v0] = (.n sk3 (some v0) sk3) := rfl
def B252 := ai @e252 (ai (wu b252_1.eq_1) (ai (wu b252_2.eq_1) (ai (wu b252_3.eq_1) (ai (wu b252_4.eq_1) (wu b252_5.eq_1)))))
def ClP (c c' : Nat) (M' : Mem) (r : V) (l : List UInt8) : Prop :=
  (r = .l0 ∧ l = []) ∨ (r = .l c 0 0 0 ∧ c < c' ∧ l = [] ∧ M'.get c = some (rowD [.i .u8 0] 5 [])) ∨ (r = .u (c + 1) 0 l.length 0 l.length ∧ c + 1 < c' ∧ l ≠ [] ∧ M'.get (c + 1) = some (rowU 5 (l.map bV)))
theorem w252 (Φ : Nat → Option CF) (h : Φ 252 = some c252) {F : RO} {M : Mem} {c : Nat} {v : V} {l : List UInt8} (ok : Okm F M c) (hv : SlB F M c v l) (hl : l.length ≤ 100000) :
    Calls Φ F 252 [v] M c fun r M' c' => Gr c M c' M' ∧ ClP c c' M' r l := by
  refine calls_walk h ?_
  by_cases h0 : v = .l0
  · subst h0
    have e1 : eqV F M .slice true .l0 .l0 = some true := Eq.trans rfl (Eq.refl _)
    simp only [WX, B252, e1]
    have h1 : l = [] := by
      obtain ⟨_, ⟨hh, _⟩ | ⟨b, o, ⟨_, _, e⟩ | ⟨_, _, _, e⟩, _⟩⟩ := hv
      · exact List.map_eq_nil_iff.1 hh
      · cases e
      · cases e
    exact ⟨Gr.refl ok, .inl ⟨rfl, h1⟩⟩
  have e1 : eqV F M .slice true v .l0 = some false := by
    obtain ⟨_, ⟨_, e | ⟨b, o0, o, e⟩⟩ | ⟨b, o, ⟨_, _, e⟩ | ⟨_, _, _, e⟩, _⟩⟩ := hv
    · exact absurd e h0
    all_goals subst e; exact Eq.trans rfl (Eq.refl _)
  simp only [WX, B252, e1]
  have g1 := (Gr.refl ok).set c (rowD [V.i .u8 0] 5 []) (Nat.le_refl _) (Nat.lt_succ_self _) (Nat.le_succ _)
  have m1 : (M.set c (rowD [V.i .u8 0] 5 [])).get c = some (rowD [V.i .u8 0] 5 []) := get_same _ _ _
  generalize M.set c (rowD [V.i .u8 0] 5 []) = M1 at g1 m1 ⊢
  have hv1 : SlB F M1 (c + 1) v l := hv.grow g1
  have hs : SlAt F M1 (c + 1) 1 (.l c 0 0 0) [] := slD (es := []) m1 (Nat.lt_succ_self _) (by simp) rfl
  by_cases hn : l = []
  · subst hn
    rw [appV_no Nat.one_pos rfl hv1]
    simp only [WX]
    exact ⟨g1, .inr (.inl ⟨rfl, Nat.lt_succ_self _, rfl, m1⟩)⟩
  refine putE_to ((appL_to (bytes := 1) hs rfl Nat.one_pos hv1 (by simpa using hn) (allOne_sl l) (room_of (by simp; omega) (by simp; omega))).mono ?_)
  rintro r M2 c2 ⟨rfl, rfl, rfl⟩
  simp only [WX, Nat.reduceAdd]
  exact ⟨g1.set _ _ (by omega) (by omega) (by omega), .inr (.inr ⟨by simp, by omega, hn, by rw [get_same]; simp [flat_bytes]⟩)⟩
end Go.Proofs.YtaogopbhjinmoaaGreatDoor.Ev
set_option maxRecDepth 10000
set_option maxHeartbeats 4000000
namespace Go.Proofs.YtaogopbhjinmoaaGreatDoor.Ev
open Go
abbrev bE (l : List UInt8) : List (List V) := l.map fun x => [bV x]
def PQ (F : RO) (M : Mem) (c0 c p o0 o1 tp : Nat) (q : List UInt8) : Prop :=
  p < c0 ∧ c0 ≤ c ∧ ∃ vb, M.get p = some (rowB tp [.i .i64 1, vb, .p o0 0, .p o1 0]) ∧ SlOwn F M c0 c 1 vb (bE q)
theorem PQ.up {F : RO} {M M' : Mem} {c0 c c' p o0 o1 tp : Nat} {q : List UInt8} (h : PQ F M c0 c p o0 o1 tp q) (g : Gr c M c' M') : PQ F M' c0 c' p o0 o1 tp q := by
  obtain ⟨h1, h2, vb, h3, h4⟩ := h
  have := g.le
  exact ⟨h1, by omega, vb, (g.old p (by omega)).trans h3, h4.gr g⟩
def ApX (c1 : Nat) (r : V) (x : Nat) : Prop := x = c1 + 1 ∧ ∃ n, r = .u (c1 + 1) 0 n 0 n
theorem ap3 {F : RO} {M : Mem} {c1 c2 : Nat} {r v : V} {q b : List UInt8} (ok : Okm F M c2) (hc : c1 ≤ c2) (hC : ClP c1 c2 M r q) (hv : SlB F M c2 v b) (hl : q.length + b.length ≤ 100000) :
    RTo (appV F M c2 5 1 1 r v) fun v' M' c' => GrX (ApX c1 r) c2 M c' M' ∧ (isOne v' = true ∧ flatten v' = [v']) ∧ ∀ F', SlOwn F' M' c1 c' 1 v' (bE (q ++ b)) := by
  have hrm : room ((bE q).length + (bE b).length) 1 = true := room_of (by simp; omega) (by simp; omega)
  have hap : bE (q ++ b) = bE q ++ bE b := List.map_append
  rcases hC with ⟨rfl, rfl⟩ | ⟨rfl, h2, rfl, h4⟩ | ⟨rfl, h2, h3, h4⟩
  · refine (appV_to (bytes := 1) (c0 := c2) (b := 0) (es := []) AccAt.nil (Gr.refl ok) Nat.one_pos hv (allOne_sl b) (by simpa using hrm)).mono ?_
    rintro v' M' c' ⟨b', hA, g, hle, _, _⟩
    refine ⟨.of g, ?_, fun F' => ?_⟩
    · rcases hA with ⟨_, ⟨_, rfl⟩ | ⟨_, _, rfl, _⟩⟩ <;> exact ⟨rfl, rfl⟩
    · rw [hap]
      exact (AccAt.own hA).up (Nat.le_refl _) hc fun _ _ _ => rfl
  · by_cases hb : b = []
    · subst hb
      refine ⟨_, _, _, appV_no Nat.one_pos rfl hv, .of (Gr.refl ok), ⟨rfl, rfl⟩, fun F' M' _ => ?_⟩
      exact ⟨by simp, .inr ⟨c1, 0, .inl ⟨0, Nat.le_refl _, rfl⟩, h2, fun k hk => by cases hk⟩⟩
    · have hs : SlAt F M c2 1 (.l c1 0 0 0) [] := slD (es := []) h4 h2 (by simp) rfl
      refine (appL_to (bytes := 1) hs rfl Nat.one_pos hv (by simpa using hb) (allOne_sl b) (by simpa using hrm)).mono ?_
      rintro v' M' c' ⟨rfl, rfl, rfl⟩
      refine ⟨.of ((Gr.refl ok).set _ _ (Nat.le_refl _) (Nat.lt_succ_self _) (Nat.le_succ _)), ⟨rfl, rfl⟩, fun F' => ?_⟩
      rw [hap]
      refine (AccAt.own (c0 := c2) (b := c2) (ty := 5) ?_).up (Nat.le_refl _) hc fun _ _ _ => rfl
      exact ⟨by intro e he; obtain ⟨x, _, rfl⟩ := List.mem_map.1 he; rfl, .inr ⟨Nat.le_refl _, Nat.lt_succ_self _, rfl, get_same _ _ _⟩⟩
  · have hA : AccAt M (c1 + 1) c2 (c1 + 1) 5 1 (.u (c1 + 1) 0 q.length 0 q.length) (bE q) :=
      ⟨by intro e he; obtain ⟨x, _, rfl⟩ := List.mem_map.1 he; rfl, .inr ⟨Nat.le_refl _, h2, by simp, by rw [h4, flat_bytes]⟩⟩
    refine (appV_to (bytes := 1) hA (show Gr (c1 + 1) M c2 M from ⟨by omega, fun _ _ => rfl, ok.hiM⟩) Nat.one_pos hv (allOne_sl b) hrm).mono ?_
    rintro v' M' c' ⟨b', hA, g, hle, hold, _⟩
    refine ⟨⟨hle, fun x hx hn => hold x hx fun e => hn ⟨e, _, rfl⟩, g.new⟩, ?_, fun F' => ?_⟩
    · rcases hA with ⟨_, ⟨_, rfl⟩ | ⟨_, _, rfl, _⟩⟩ <;> exact ⟨rfl, rfl⟩
    · rw [hap]
      exact (AccAt.own hA).up (Nat.le_refl _) (Nat.le_succ _) fun _ _ _ => rfl
noncomputable def b256_1 : CC := (.reg [(paa pa2 (.bx 69 1 pz0)), (pqq pa4 (.mv pxF)), (pqq pa5 (.mv (px6 0)))])
noncomputable def b256_2 : CC := (.reg [(pqq pa6 (.mv pz1)), (pqq pa7 (.ln .slice pz6)), (pqq pa8 (.fa 0 pz2)), (pqq pa9 (.ld1 pz8)), (pqq pa10 (.nck pz9)), (pqq pa11 (.fa 1 pz10)), (pqq pa12 (.ld1 pz11)), (pqq pa13 (.ln .slice pz12)), (pqq pa14 (.bi .sub (px6 128) pz13)), (pqq pa15 (.bi .gtr pz7 pz14))])
noncomputable def b256_3 : CC := (.reg [(pqq pa4 (.mv pxT)), (pqq pa5 (.mv (px6 0)))])
noncomputable def b256_4 : CC := (.cond pz15 (.seq b256_3 .ret) .skip)
noncomputable def b256_5 : CC := (.dreg 13 [(0, 0, (pqq pa16 (.fa 0 pz2))), (1, 1, (pqq pa17 (.ld1 pz16))), (2, 0, (pqq pa18 (.fa 0 pz2))), (3, 4, (pqq pa19 (.ld1 pz18))), (4, 12, (pqq pa20 (.nck pz19))), (5, 28, (pqq pa21 (.fa 1 pz20))), (6, 60, (pqq pa22 (.ld1 pz21))), (8, 0, (pqq pa24 (.mv pz1))), (7, 124, (pee pa23 (.call 252 [pz22]))), (9, 508, (pee pa25 (.app 5 1 1 pz23 pz24))), (10, 1023, (pqq pa26 (.nck pz17))), (11, 2047, (pqq pa27 (.fa 1 pz26))), (12, 4095, (pez (.st 1 pz27 pz25)))])
noncomputable def b256_6 : CC := (.reg [(pqq pa4 (.mv pxF)), (pqq pa5 (.mv (px6 0)))])
noncomputable def b256_7 : CC := (.seq (.seq b256_2 b256_4) (.seq b256_5 (.seq b256_6 .ret)))
noncomputable def c256 : CF := .mk 5 [.t pa4, .t pa5] (.seq b256_1 b256_7)
theorem e256 (v0 v1 : V) : argTr 5 [v0, v1] = (.n (.n sk3 (some v1) sk3) (some v0) sk4) := rfl
def B256 := ai @e256 (ai (wu b256_1.eq_1) (ai (wu b256_2.eq_1) (ai (wu b256_3.eq_1) (ai (wu b256_4.eq_1) (ai (wu b256_5.eq_1) (ai (wu b256_6.eq_1) (wu b256_7.eq_1)))))))
theorem w256 (Φ : Nat → Option CF) (h : Φ 256 = some c256) (h252 : Φ 252 = some c252) {F : RO} {M : Mem} {c c0 p o0 o1 tp : Nat} {v : V} {q b : List UInt8} (ok : Okm F M c) (hq : PQ F M c0 c p o0 o1 tp q) (hql : q.length ≤ 128) (hv : SlB F M c v b) (hb : b.length ≤ 128) :
    Calls Φ F 256 [.g [.p p 0], v] M c fun r M' c' => GrX (fun x => x = p) c M c' M' ∧ r = .t [.b (decide (128 < q.length + b.length)), .i .i64 0] ∧ PQ F M' c0 c' p o0 o1 tp (if 128 < q.length + b.length then q else q ++ b) := by
  refine calls_walk h ?_
  obtain ⟨hp, hc, vb, hM, hO⟩ := hq
  have g1 := (Gr.refl ok).set c (rowB 69 [.p p 0]) (Nat.le_refl _) (Nat.lt_succ_self _) (Nat.le_succ _)
  have b1 : load1 F (M.set c (rowB 69 [.p p 0])) c 0 = some (.p p 0) := load_row (get_same _ _ _) 0
  have m1 := (g1.old p (by omega)).trans hM
  have hv1 : SlB F (M.set c (rowB 69 [.p p 0])) (c + 1) v b := hv.grow g1
  have hO1 := hO.gr g1
  have lv := hv.len
  have lq : lnL vb = some (.i .i64 (q.length : Int)) := SlB.len (l := q) hO.sl
  have q1 : biV .sub (.i .i64 128) (.i .i64 (q.length : Int)) = some (.i .i64 ((128 : Int) - q.length)) := by rw [bi_sub]; congr 2; exact wrap_i64 (by omega) (by omega)
  have l1 : load1 F (M.set c (rowB 69 [.p p 0])) p 1 = some vb := load_row m1 1
  have ok1 := g1.ok ok
  simp only [WX, B256, v_nck, nckV_p, lv]
  generalize M.set c (rowB 69 [.p p 0]) = M1 at g1 b1 m1 hv1 hO1 l1 ok1 ⊢
  simp only [WX, B256, l1, lq, q1]
  by_cases hlt : 128 < q.length + b.length
  · have d1 : decide ((128 : Int) - q.length < b.length) = true := decide_eq_true (by omega)
    have d2 : decide (128 < q.length + b.length) = true := decide_eq_true hlt
    simp only [WX, B256, d1, d2]
    exact ⟨.of g1, hp, by omega, vb, m1, by rw [if_pos hlt]; exact hO1⟩
  have d1 : decide ((128 : Int) - q.length < b.length) = false := decide_eq_false (by omega)
  have d2 : decide (128 < q.length + b.length) = false := decide_eq_false hlt
  have hfr := ok1.free
  simp only [WX, Nat.reduceAdd, B256, d1, d2, dq_nck, nckV_p, b1, l1]
  have okA : Okm F M1 (c + 1 + 13) := ⟨fun b hb => ok1.hiM b (by omega), fun b hb => ok1.hiF b (by omega), ok1.ap, by have := ok1.ge; omega⟩
  refine wd_ef _ _ _ _ _ _ _ _ _ _ _ okA ?_
  intro F' M' ok' hlk
  have hvb' : SlB F' M' (c + 14) vb q := (hO1.sl.lk hlk).grow ⟨by omega, fun _ _ => rfl, ok'.hiM⟩
  refine RTo.mono (w252 Φ h252 ok' hvb' (by omega)) ?_
  rintro r M2 c2 ⟨g2, hC⟩
  refine ⟨g2, ?_⟩
  intro M3 g3 h3
  have hC3 : ClP (c + 14) c2 M3 r q := by
    rcases hC with h | ⟨pa1, pa2, pa3, pa4⟩ | ⟨pa1, pa2, pa3, pa4⟩
    · exact .inl h
    · exact .inr (.inl ⟨pa1, pa2, pa3, (h3 _ (Nat.le_refl _)).trans pa4⟩)
    · exact .inr (.inr ⟨pa1, pa2, pa3, (h3 _ (Nat.le_succ _)).trans pa4⟩)
  have ok3 := g3.ok okA
  have hv3 : SlB F M3 c2 v b := hv1.grow ((show Gr (c + 1) M1 c2 M3 from ⟨by have := g3.le; omega, fun x hx => g3.old x (by omega), g3.new⟩))
  have m3 := (g3.old p (by omega)).trans m1
  have hg3 := g3.le
  have lnz : ∀ x, ApX (c + 14) r x → ∃ y, M3.get x = some y := by
    rintro x ⟨rfl, n, rfl⟩
    rcases hC3 with ⟨e, _⟩ | ⟨e, _⟩ | ⟨_, _, _, e⟩
    · cases e
    · cases e
    · exact ⟨_, e⟩
  refine wd_efx (hx := ApX (c + 14) r) _ _ _ _ _ _ _ _ _ _ _ ok3 (by
    intro e he hx
    obtain ⟨hx, _⟩ := hx
    simp only [List.mem_cons, List.not_mem_nil, or_false] at he
    rcases he with rfl | rfl | rfl <;> simp only at hx <;> omega) (fun x _ => lnz x) ?_
  intro F4 M4 ok4 hlk4 hsm4
  rw [x_app_eq]
  have hs : ∀ x, c + 14 ≤ x → M4.get x = M3.get x := fun x hx => hsm4 x (by
    intro e he
    simp only [List.mem_cons, List.not_mem_nil, or_false] at he
    rcases he with rfl | rfl | rfl <;> simp only <;> omega)
  have hC4 : ClP (c + 14) c2 M4 r q := by
    rcases hC3 with h | ⟨pa1, pa2, pa3, pa4⟩ | ⟨pa1, pa2, pa3, pa4⟩
    · exact .inl h
    · exact .inr (.inl ⟨pa1, pa2, pa3, (hs _ (Nat.le_refl _)).trans pa4⟩)
    · exact .inr (.inr ⟨pa1, pa2, pa3, (hs _ (Nat.le_succ _)).trans pa4⟩)
  refine RTo.mono (ap3 ok4 (by omega) hC4 (hv3.lk hlk4) (by omega)) ?_
  rintro v5 M5 c5 ⟨g5, ⟨one5, fl5⟩, own5⟩
  refine ⟨g5, ?_⟩
  intro M6 g6 h6
  have hg6 := g6.le
  have ok6 := g6.ok ok3 fun x _ => lnz x
  have m6 := (g6.old p (by omega) (fun hx => by have := hx.1; omega)).trans m3
  have hst := store_row m6 1 [v5] (by simp) (by simp [allOne, one5])
  have ok7 : Okm F (M6.set p (rowB tp [.i .i64 1, v5, .p o0 0, .p o1 0])) c5 := ok6.put (by omega) m6
  have hfr7 := ok7.free
  simp only [WX, Nat.reducePow, Nat.reduceDiv, Nat.reduceMod, Nat.reduceBEq, Nat.reduceAdd, wd_e1, B256, dq_nck, nckV_p, hst, fl5, hfr7]
  refine ⟨⟨by omega, fun x hx hn => ?_, fun x hx => ok7.hiM x hx⟩, hp, by omega, v5, get_same _ _ _, ?_⟩
  · rw [get_ne _ _ hn, g6.old x (by omega) (fun hh => by have := hh.1; omega), g3.old x (by omega), g1.old x hx]
  · rw [if_neg hlt]
    refine (own5 F).up (Nat.le_refl _) (by omega) fun x hx1 hx2 => ?_
    rw [get_ne _ _ (by omega)]
    by_cases hx3 : c2 ≤ x ∨ ApX (c + 14) r x
    · exact h6 x hx3
    · have h1 : x < c2 := Nat.lt_of_not_le fun h => hx3 (.inl h)
      have h2 : ¬ ApX (c + 14) r x := fun h => hx3 (.inr h)
      rw [g6.old x h1 h2, g5.old x h1 h2, hs x hx1]
end Go.Proofs.YtaogopbhjinmoaaGreatDoor.Ev
set_option maxRecDepth 10000
set_option maxHeartbeats 4000000
namespace Go.Proofs.YtaogopbhjinmoaaGreatDoor.Ev
open Go
noncomputable def minE (mx : Bool) (v w : V) : Option V := match minV mx v w with | some v => some v | none => none
theorem q_mn2 {F : RO} (mx : Bool) (x y : X) (M : Mem) (t : T) : qop (.mn mx x [y]) F M t = oV (minE mx (x.ev t) (y.ev t)) := by
  show qr (minAll mx t (x.ev t) [y]) = _
  show qr (match minV mx (x.ev t) (y.ev t) with | some v => some v | none => none) = _
  unfold minE
  cases minV mx (x.ev t) (y.ev t) <;> rfl
theorem dq_mn2 {F : RO} (mx : Bool) (x y : X) (M : Mem) (t : T) : dqR (.mn mx x [y]) F M t = oV (minE mx (x.ev t) (y.ev t)) := by
  refine (dq_of (F := F) (M := M) (t := t) (o := .mn mx x [y]) fun F' M' => ?_).trans ?_
  · rw [q_mn2, q_mn2, oV_val]
  · rw [q_mn2, oV_val]
theorem min_i64 (a b : Nat) : minE false (.i .i64 (a : Int)) (.i .i64 (b : Int)) = some (.i .i64 ((min a b : Nat) : Int)) := by
  unfold minE
  have : minV false (.i .i64 (a : Int)) (.i .i64 (b : Int)) = some (.i .i64 ((min a b : Nat) : Int)) := by
    show (fI (bif ltI (b : Int) (a : Int) then (b : Int) else (a : Int)) fun n => some (V.i .i64 n)) = _
    rw [show ltI (b : Int) (a : Int) = decide (b < a) by show Nat.blt b a = _; rw [bltN]]
    by_cases h : b < a
    · rw [decide_eq_true h, cond_true, fI_eq, Nat.min_eq_right (by omega)]
    · rw [decide_eq_false h, cond_false, fI_eq, Nat.min_eq_left (by omega)]
  rw [this]
theorem ClP.own {c c' : Nat} {M : Mem} {r : V} {l : List UInt8} (h : ClP c c' M r l) (hc : c ≤ c') (F : RO) : SlOwn F M c c' 1 r (bE l) := by
  rcases h with ⟨rfl, rfl⟩ | ⟨rfl, h2, rfl, h4⟩ | ⟨rfl, h2, h3, h4⟩
  · exact fun M' _ => ⟨by simp, .inl ⟨rfl, .inl rfl⟩⟩
  · exact fun M' _ => ⟨by simp, .inr ⟨c, 0, .inl ⟨0, Nat.le_refl _, rfl⟩, h2, fun k hk => by cases hk⟩⟩
  · refine (AccAt.own (c0 := c) (b := c + 1) (ty := 5) ?_).up (Nat.le_refl _) (Nat.le_refl _) fun _ _ _ => rfl
    exact ⟨by intro e he; obtain ⟨x, _, rfl⟩ := List.mem_map.1 he; rfl, .inr ⟨Nat.le_succ _, h2, by simp, by rw [h4, flat_bytes]⟩⟩
theorem ClP.to {c c' : Nat} {M M' : Mem} {r : V} {l : List UInt8} (h : ClP c c' M r l) (hM : ∀ x, c ≤ x → M'.get x = M.get x) : ClP c c' M' r l := by
  rcases h with h | ⟨pa1, pa2, pa3, pa4⟩ | ⟨pa1, pa2, pa3, pa4⟩
  · exact .inl h
  · exact .inr (.inl ⟨pa1, pa2, pa3, (hM _ (Nat.le_refl _)).trans pa4⟩)
  · exact .inr (.inr ⟨pa1, pa2, pa3, (hM _ (Nat.le_succ _)).trans pa4⟩)
noncomputable def b254_1 : CC := (.reg [(paa pa2 (.bx 69 1 pz0)), (pqq pa4 (.mv (.c .l0))), (pqq pa5 (.mv pxF)), (pqq pa6 (.mv (px6 0)))])
noncomputable def b254_2 : CC := (.reg [(pqq pa8 (.fa 0 pz2)), (pqq pa9 (.ld1 pz8)), (pqq pa10 (.nck pz9)), (pqq pa11 (.fa 1 pz10)), (pqq pa12 (.ld1 pz11)), (pqq pa13 (.ln .slice pz12)), (pqq pa14 (.bi .eql pz13 (px6 0)))])
noncomputable def b254_3 : CC := (.dreg 17 [(0, 0, (pqq pa15 (.mv pz1))), (1, 1, (pqq pa16 (.bi .gtr pz15 (px6 0)))), (2, 3, (pqq pa17 (.mv pz16))), (3, 7, ⟨(some pa18), .q (.fa 0 pz2), (some (pa17, true))⟩), (4, 15, ⟨(some pa19), .q (.ld1 pz18), (some (pa17, true))⟩), (5, 31, ⟨(some pa20), .q (.nck pz19), (some (pa17, true))⟩), (6, 63, ⟨(some pa21), .q (.fa 2 pz20), (some (pa17, true))⟩), (7, 127, ⟨(some pa22), .q (.iaA 2 1 pz21 (px6 1)), (some (pa17, true))⟩), (8, 255, ⟨(some pa23), .q (.ld1 pz22), (some (pa17, true))⟩), (9, 511, ⟨(some pa24), .q (.nck pz23), (some (pa17, true))⟩), (10, 1023, ⟨(some pa25), .q (.fa 2 pz24), (some (pa17, true))⟩), (11, 2047, ⟨(some pa26), .q (.ld1 pz25), (some (pa17, true))⟩), (12, 4095, ⟨(some pa27), .q (.bi .gtr pz26 (px6 0)), (some (pa17, true))⟩), (13, 8191, (pqq pa28 (.pk pz17 pz27 pxF))), (14, 7, (pqq pa4 (.mv (.c .l0)))), (15, 32767, (pqq pa5 (.mv pz28))), (16, 65535, (pqq pa6 (.mv (px6 0))))])
noncomputable def b254_4 : CC := (.seq b254_2 (.cond pz14 (.seq b254_3 .ret) .skip))
noncomputable def b254_5 : CC := (.dreg 16 [(0, 0, (pqq pa29 (.fa 0 pz2))), (1, 1, (pqq pa30 (.ld1 pz29))), (2, 3, (pqq pa31 (.nck pz30))), (3, 7, (pqq pa32 (.fa 1 pz31))), (4, 15, (pqq pa33 (.ld1 pz32))), (5, 0, (pqq pa34 (.mv pz1))), (6, 0, (pqq pa35 (.fa 0 pz2))), (7, 64, (pqq pa36 (.ld1 pz35))), (8, 192, (pqq pa37 (.nck pz36))), (9, 448, (pqq pa38 (.fa 1 pz37))), (10, 960, (pqq pa39 (.ld1 pz38))), (11, 1984, (pqq pa40 (.ln .slice pz39))), (12, 4064, (pqq pa41 (.mn false pz34 [pz40]))), (13, 8191, (pqq pa42 (.slL 1 pz33 none (some pz41) none))), (14, 16383, (pee pa43 (.call 252 [pz42]))), (15, 32767, (pqq pa7 (.mv pz43)))])
noncomputable def b254_6 : CC := (.dreg 13 [(0, 0, (pqq pa44 (.fa 0 pz2))), (1, 1, (pqq pa45 (.ld1 pz44))), (2, 0, (pqq pa46 (.fa 0 pz2))), (3, 4, (pqq pa47 (.ld1 pz46))), (4, 12, (pqq pa48 (.nck pz47))), (5, 28, (pqq pa49 (.fa 1 pz48))), (6, 60, (pqq pa50 (.ld1 pz49))), (7, 0, (pqq pa51 (.mv pz7))), (8, 128, (pqq pa52 (.ln .slice pz51))), (9, 508, (pqq pa53 (.slL 1 pz50 (some pz52) none none))), (10, 1023, (pqq pa54 (.nck pz45))), (11, 2047, (pqq pa55 (.fa 1 pz54))), (12, 4095, (pez (.st 1 pz55 pz53)))])
noncomputable def b254_7 : CC := (.reg [(pqq pa56 (.mv pz7)), (pqq pa4 (.mv pz56)), (pqq pa5 (.mv pxF)), (pqq pa6 (.mv (px6 0)))])
noncomputable def b254_8 : CC := (.seq b254_4 (.seq b254_5 (.seq b254_6 (.seq b254_7 .ret))))
noncomputable def c254 : CF := .mk 6 [.t pa4, .t pa5, .t pa6] (.seq b254_1 b254_8)
theorem e254 (v0 v1 : V) : argTr 6 [v0, v1] = (.n (.n sk4 (some v1) sk4) (some v0) sk5) := rfl
def B254 := ai @e254 (ai (wu b254_1.eq_1) (ai (wu b254_2.eq_1) (ai (wu b254_3.eq_1) (ai (wu b254_4.eq_1) (ai (wu b254_5.eq_1) (ai (wu b254_6.eq_1) (ai (wu b254_7.eq_1) (wu b254_8.eq_1))))))))
theorem w254 (Φ : Nat → Option CF) (h : Φ 254 = some c254) (h252 : Φ 252 = some c252) {F : RO} {M : Mem} {c c0 p o0 o1 tp n k : Nat} {q : List UInt8} (ok : Okm F M c) (hq : PQ F M c0 c p o0 o1 tp q) (hql : q.length ≤ 128) (ho : o1 < c0) (hk : load1 F M o1 2 = some (.i .i64 (k : Int))) (hn : n ≤ 128) :
    Calls Φ F 254 [.g [.p p 0], .i .i64 (n : Int)] M c fun r M' c' => GrX (fun x => x = p) c M c' M' ∧ (∃ v, r = .t [v, .b (decide (q = [] ∧ 0 < n ∧ 0 < k)), .i .i64 0] ∧ SlB F M' c' v (q.take n)) ∧ PQ F M' c0 c' p o0 o1 tp (q.drop n) := by
  refine calls_walk h ?_
  obtain ⟨hp, hc, vb, hM, hO⟩ := hq
  have g1 := (Gr.refl ok).set c (rowB 69 [.p p 0]) (Nat.le_refl _) (Nat.lt_succ_self _) (Nat.le_succ _)
  have b1 : load1 F (M.set c (rowB 69 [.p p 0])) c 0 = some (.p p 0) := load_row (get_same _ _ _) 0
  have m1 := (g1.old p (by omega)).trans hM
  have hO1 := hO.gr g1
  have lq : lnL vb = some (.i .i64 (q.length : Int)) := SlB.len (l := q) hO.sl
  have l1 : load1 F (M.set c (rowB 69 [.p p 0])) p 1 = some vb := load_row m1 1
  have l3 : load1 F (M.set c (rowB 69 [.p p 0])) p 3 = some (.p o1 0) := load_row m1 3
  have k1 : load1 F (M.set c (rowB 69 [.p p 0])) o1 2 = some (.i .i64 (k : Int)) := by rw [g1.load1 (by omega)]; exact hk
  have ok1 := g1.ok ok
  simp only [WX, B254, v_nck, nckV_p]
  generalize M.set c (rowB 69 [.p p 0]) = M1 at g1 b1 m1 hO1 l1 l3 k1 ok1 ⊢
  simp only [WX, l1, lq]
  have hfr := ok1.free
  obtain ⟨B, hB⟩ : ∃ B, B = decide (q = [] ∧ 0 < n ∧ 0 < k) := ⟨_, rfl⟩
  rw [← hB]
  by_cases h0 : q = []
  · subst h0
    have d1 : decide (((0 : Nat) : Int) = 0) = true := by decide
    have fin : ∀ N cN, (g : Gr c M cN N) → c + 1 ≤ cN → N.get p = M1.get p → (∀ x, c0 ≤ x → x < c + 1 → N.get x = M1.get x) → GrX (fun x => x = p) c M cN N ∧ PQ F N c0 cN p o0 o1 tp (([] : List UInt8).drop n) := fun N cN g hle e1 e2 =>
      ⟨.of g, hp, by omega, vb, e1.trans m1, by rw [List.drop_nil]; exact hO1.up hle (Nat.le_refl _) e2⟩
    have e17 : Okm F M1 (c + 18) := ⟨fun b hb => ok1.hiM b (by omega), fun b hb => ok1.hiF b (by omega), ok1.ap, by have := ok1.ge; omega⟩
    obtain ⟨f1, f2⟩ := fin M1 (c + 18) (g1.up (by omega)) (by omega) rfl fun _ _ _ => rfl
    by_cases hn0 : 0 < n
    · have d2 : decide ((0 : Int) < (n : Int)) = true := decide_eq_true (by omega)
      have d3 : decide ((0 : Int) < (k : Int)) = decide (0 < k) := decide_eq_decide.2 (by omega)
      have hB' : B = decide (0 < k) := by rw [hB]; exact decide_eq_decide.2 ⟨fun h => h.2.2, fun h => ⟨rfl, hn0, h⟩⟩
      have i1 : iaAV 2 1 (.p p 2) (.i .i64 1) = some (.p p 3) := iaA_p 2 1 p 2 1 .i64 (by decide)
      simp only [WX, Nat.reduceAdd, B254, d1, d2, d3, b1, l3, k1, dq_nck, nckV_p, dq_iaA, i1]
      exact ⟨f1, ⟨_, by rw [hB'], ⟨by simp, .inl ⟨rfl, .inl rfl⟩⟩⟩, f2⟩
    · have d2 : decide ((0 : Int) < (n : Int)) = false := decide_eq_false (by omega)
      have hB' : B = false := by rw [hB]; exact decide_eq_false fun h => hn0 h.2.1
      simp only [WX, Nat.reduceAdd, B254, d1, d2]
      exact ⟨f1, ⟨_, by rw [hB'], ⟨by simp, .inl ⟨rfl, .inl rfl⟩⟩⟩, f2⟩
  have d1 : decide ((q.length : Int) = 0) = false := decide_eq_false (by have := List.length_pos_iff.2 h0; omega)
  have hB' : B = false := by rw [hB]; exact decide_eq_false fun h => h0 h.1
  obtain ⟨v1, _, e2, _, _, hs⟩ := slLV_of (lo := 0) (hi := min n q.length) hO1.sl (Nat.zero_le _) (by simp; omega)
  have e2 := e2 rfl .i64
  rw [List.drop_zero, ← List.map_take, List.take_eq_take_min.symm.trans (by rfl)] at hs
  simp only [WX, Nat.reducePow, Nat.reduceDiv, Nat.reduceMod, Nat.reduceBEq, Nat.reduceAdd, wd_e1, B254, d1, b1, l1, dq_nck, nckV_p, dq_mn2, lq, min_i64, dq_slL, e2]
  have okA : Okm F M1 (c + 17) := ⟨fun b hb => ok1.hiM b (by omega), fun b hb => ok1.hiF b (by omega), ok1.ap, by have := ok1.ge; omega⟩
  have hs' : SlB F M1 (c + 17) v1 (q.take n) := hs.grow ⟨by omega, fun _ _ => rfl, okA.hiM⟩
  refine putDE_to (RTo.mono (w252 Φ h252 okA hs' (by simp; omega)) ?_)
  rintro r M3 c2 ⟨g3, hC3⟩
  have ok3 := g3.ok okA
  have hle3 := g3.le
  have m3 := (g3.old p (by omega)).trans m1
  have k3 : load1 F M3 c 0 = some (.p p 0) := by rw [g3.load1 (by omega)]; exact b1
  have k31 : load1 F M3 p 1 = some vb := load_row m3 1
  have hfr3 := ok3.free
  have hown := (hC3.own g3.le F)
  have lr : lnL r = some (.i .i64 ((min n q.length : Nat) : Int)) := by
    have := SlB.len (l := q.take n) hown.sl
    rwa [List.length_take] at this
  have hdr : q.drop (min n q.length) = q.drop n := by
    by_cases hh : n ≤ q.length
    · rw [Nat.min_eq_left hh]
    · rw [Nat.min_eq_right (by omega), List.drop_eq_nil_of_le (Nat.le_refl _), List.drop_eq_nil_of_le (by omega)]
  have key : ∀ N, (∀ x, c0 ≤ x → x < c + 1 → N.get x = M1.get x) → ∃ v2, slLV 1 vb (some (.i .i64 ((min n q.length : Nat) : Int))) none none = some v2 ∧ SlB F N (c + 1) v2 (q.drop n) := fun N hN => by
    obtain ⟨v2, _, _, e3, _, hs2⟩ := slLV_of (lo := min n q.length) (hi := q.length) (hO1 N hN) (Nat.min_le_right _ _) (by simp)
    refine ⟨v2, e3 (by simp) .i64, ?_⟩
    rw [List.take_of_length_le (by simp), ← List.map_drop, hdr] at hs2
    exact hs2
  obtain ⟨v2, e5, hs2⟩ := key M1 fun _ _ _ => rfl
  have w2 : isOne v2 = true ∧ flatten v2 = [v2] := by
    obtain ⟨_, ⟨_, rfl | ⟨_, _, _, rfl⟩⟩ | ⟨_, _, ⟨_, _, rfl⟩ | ⟨_, _, _, rfl⟩, _⟩⟩ := hs2 <;> exact ⟨rfl, rfl⟩
  obtain ⟨one2, fl2⟩ := w2
  have hst := store_row m3 1 [v2] (by simp) (by simp [allOne, one2])
  have ok4 : Okm F (M3.set p (rowB tp [.i .i64 1, v2, .p o0 0, .p o1 0])) (c2 + 13) := by
    have := ok3.put (x := _) (y := rowB tp [.i .i64 1, v2, .p o0 0, .p o1 0]) (by omega) m3
    exact ⟨fun b hb => this.hiM b (by omega), fun b hb => this.hiF b (by omega), this.ap, by have := this.ge; omega⟩
  have hfr4 := ok4.free
  simp only [WX, Nat.reducePow, Nat.reduceDiv, Nat.reduceMod, Nat.reduceBEq, Nat.reduceAdd, wd_e1, B254, hfr3, k3, k31, dq_nck, nckV_p, lr, dq_slL, e5, hst, fl2, hfr4]
  refine ⟨⟨by omega, fun x hx hn => ?_, fun x hx => ok4.hiM x hx⟩, ⟨r, by rw [hB'], ?_⟩, hp, by omega, v2, get_same _ _ _, ?_⟩
  · rw [get_ne _ _ hn, g3.old x (by omega), g1.old x hx]
  · refine (hown.up (show c2 ≤ c2 + 13 by omega) (Nat.le_refl _) fun x hx _ => get_ne _ _ (by omega)).sl
  · intro N hN
    obtain ⟨v2', e6, hs6⟩ := key N fun x hx1 hx2 => by rw [hN x hx1 (by omega), get_ne _ _ (by omega), g3.old x (by omega)]
    rw [e5] at e6
    obtain rfl := Option.some.inj e6
    obtain ⟨h0', hh | ⟨b', o', hv', hb', hc'⟩⟩ := hs6
    · exact ⟨h0', .inl hh⟩
    · exact ⟨h0', .inr ⟨b', o', hv', by omega, hc'⟩⟩
end Go.Proofs.YtaogopbhjinmoaaGreatDoor.Ev
set_option maxRecDepth 10000
set_option maxHeartbeats 4000000
namespace Go.Proofs.YtaogopbhjinmoaaGreatDoor.Ev
open Go
def OE (F : RO) (M : Mem) (o p fl k : Nat) : Prop :=
  load1 F M o 0 = some (.a 69 (.g [.p p 0])) ∧ load1 F M o 1 = some (.i .i64 (fl : Int)) ∧ load1 F M o 2 = some (.i .i64 (k : Int))
theorem OE.to {F : RO} {M M' : Mem} {o p fl k : Nat} (h : OE F M o p fl k) (g : M'.get o = M.get o) : OE F M' o p fl k :=
  ⟨(load1_fr g 0).trans h.1, (load1_fr g 1).trans h.2.1, (load1_fr g 2).trans h.2.2⟩
theorem GrX.okp {F : RO} {M M1 : Mem} {c c1 p : Nat} (g : GrX (fun x => x = p) c M c1 M1) (ok : Okm F M c) {y : Blk} (hy : M.get p = some y) : Okm F M1 c1 := g.ok ok fun b _ e => ⟨y, by rw [e]; exact hy⟩
noncomputable def b10_1 : CC := (.reg [(pqq pa8 (.mv (.c .l0))), (pqq pa9 (.mv pxF)), (pqq pa10 (.mv (px6 0)))])
noncomputable def b10_2 : CC := (.reg [(pqq pa13 (.mv pz0)), (pqq pa14 (.mv pz1)), (pqq pa15 (.mv pz2)), (pee pa16 (.call 25 [pz13, pz14, pz15])), (pqq pa12 (.mv pz16)), (pqq pa17 (.ex 0 pz12)), (pqq pa18 (.ex 1 pz12)), (pqq pa11 (.mv pz17)), (pqq pa10 (.mv pz18))])
noncomputable def b10_3 : CC := (.reg [(pqq pa20 (.mv pz10)), (pqq pa21 (.bi .neq pz20 (px6 0))), (pqq pa19 (.mv pz21))])
noncomputable def b10_4 : CC := (.reg [(pqq pa22 (.mv pz10)), (pqq pa8 (.mv (.c .l0))), (pqq pa9 (.mv pxF)), (pqq pa10 (.mv pz22))])
noncomputable def b10_5 : CC := (.reg [(pqq pa24 (.mv pz3)), (pqq pa25 (.bi .lss pz24 (px6 0))), (pqq pa26 (.mv pz25)), ⟨(some pa27), .q (.mv pz3), (some (pa26, false))⟩, ⟨(some pa28), .q (.bi .gtr pz27 (px6 128)), (some (pa26, false))⟩, (pqq pa29 (.pk pz26 pxT pz28)), (pqq pa23 (.mv pz29))])
noncomputable def b10_6 : CC := (.reg [(pqq pa8 (.mv (.c .l0))), (pqq pa9 (.mv pxF)), (pqq pa10 (.mv (px6 2)))])
noncomputable def b10_7 : CC := (.reg [(pqq pa31 (.mv pz11)), (pqq pa32 (.nck pz31)), (pqq pa33 (.fa 1 pz32)), (pqq pa34 (.ld1 pz33)), (pqq pa35 (.bi .and pz34 (px6 1))), (pqq pa36 (.bi .eql pz35 (px6 0))), (pqq pa30 (.mv pz36))])
noncomputable def b10_8 : CC := (.reg [(pqq pa8 (.mv (.c .l0))), (pqq pa9 (.mv pxF)), (pqq pa10 (.mv (px6 8)))])
noncomputable def b10_9 : CC := (.seq b10_7 (.cond pz30 (.seq b10_8 .ret) .skip))
noncomputable def b10_10 : CC := (.seq b10_5 (.cond pz23 (.seq b10_6 .ret) b10_9))
noncomputable def b10_11 : CC := (.cond pz19 (.seq b10_4 .ret) b10_10)
noncomputable def b10_12 : CC := (.reg [(pqq pa38 (.mv pz11)), (pqq pa39 (.nck pz38)), (pqq pa40 (.fa 0 pz39)), (pqq pa41 (.ld1 pz40)), (pqq pa42 (.mv pz3)), (pee pa43 (.inv [(61, 249), (69, 254), (90, 258)] pz41 [pz42])), (pqq pa37 (.mv pz43)), (pqq pa44 (.ex 0 pz37)), (pqq pa45 (.ex 1 pz37)), (pqq pa46 (.ex 2 pz37)), (pqq pa8 (.mv pz44)), (pqq pa9 (.mv pz45)), (pqq pa10 (.mv pz46))])
noncomputable def b10_13 : CC := (.reg [(pqq pa47 (.mv pz10)), (pqq pa48 (.bi .neq pz47 (px6 0)))])
noncomputable def b10_14 : CC := (.reg [(pqq pa49 (.mv pz10)), (pqq pa8 (.mv (.c .l0))), (pqq pa9 (.mv pxF)), (pqq pa10 (.mv pz49))])
noncomputable def b10_15 : CC := (.cond pz48 (.seq b10_14 .ret) .skip)
noncomputable def b10_16 : CC := (.reg [(pqq pa50 (.mv pz8)), (pqq pa51 (.mv pz9)), (pqq pa8 (.mv pz50)), (pqq pa9 (.mv pz51)), (pqq pa10 (.mv (px6 0)))])
noncomputable def b10_17 : CC := (.seq (.seq b10_12 (.seq b10_13 b10_15)) (.seq b10_16 .ret))
noncomputable def b10_18 : CC := (.seq b10_1 (.seq b10_2 (.seq (.block 0 (.seq b10_3 b10_11)) b10_17)))
noncomputable def c10 : CF := .mk 6 [.t pa8, .t pa9, .t pa10] b10_18
theorem e10 (v0 v1 v2 v3 : V) : argTr 6 [v0, v1, v2, v3] = (.n (.n (.n sk3 (some v3) sk3) (some v1) sk4) (some v0) (.n sk4 (some v2) sk4)) := rfl
def B10 := ai @e10 (ai (wu b10_1.eq_1) (ai (wu b10_2.eq_1) (ai (wu b10_3.eq_1) (ai (wu b10_4.eq_1) (ai (wu b10_5.eq_1) (ai (wu b10_6.eq_1) (ai (wu b10_7.eq_1) (ai (wu b10_8.eq_1) (ai (wu b10_9.eq_1) (ai (wu b10_10.eq_1) (ai (wu b10_11.eq_1) (ai (wu b10_12.eq_1) (ai (wu b10_13.eq_1) (ai (wu b10_14.eq_1) (ai (wu b10_15.eq_1) (ai (wu b10_16.eq_1) (ai (wu b10_17.eq_1) (wu b10_18.eq_1))))))))))))))))))
def RdP (F : RO) (M : Mem) (c c0 p o0 o1 tp k1 : Nat) (q : List UInt8) (n : Int) (r : V) (M' : Mem) (c' : Nat) : Prop :=
  GrX (fun x => x = p) c M c' M' ∧ ((¬(0 ≤ n ∧ n ≤ 128) ∧ r = .t [.l0, .b false, .i .i64 2] ∧ PQ F M' c0 c' p o0 o1 tp q) ∨ (∃ m : Nat, n = m ∧ m ≤ 128 ∧ ∃ v, r = .t [v, .b (decide (q = [] ∧ 0 < m ∧ 0 < k1)), .i .i64 0] ∧ SlB F M' c' v (q.take m) ∧ PQ F M' c0 c' p o0 o1 tp (q.drop m)))
theorem w10 (Φ : Nat → Option CF) (h : Φ 10 = some c10) (h25 : Φ 25 = some c25) (h21 : Φ 21 = some c21) (h41 : Φ 41 = some c41) (h254 : Φ 254 = some c254) (h252 : Φ 252 = some c252) {F : RO} {M : Mem} {c c0 T cn p o0 o1 tp k0 k1 pi : Nat} {n : Int} {q : List UInt8} (ok : Okm F M c) (hq : PQ F M c0 c p o0 o1 tp q) (hql : q.length ≤ 128) (hT : T < c0 ∧ o0 < c0 ∧ o1 < c0) (hc : load1 F M T 105 = some (.p cn 0)) (hpi : 1 ≤ pi ∧ pi ≤ 12) (hf : load1 F M T (1 + pi * 8 + 0) = some (.p o0 0)) (ho0 : OE F M o0 p 1 k0) (ho1 : load1 F M o1 2 = some (.i .i64 (k1 : Int))) :
    Calls Φ F 10 [.p T 0, .i .i64 (pi : Int), .i .i64 0, .i .i64 n] M c (RdP F M c c0 p o0 o1 tp k1 q n) := by
  have hle := hq.2.1
  refine calls_walk h ?_
  obtain ⟨Q, hQ⟩ : ∃ Q, Q = RdP F M c c0 p o0 o1 tp k1 q n := ⟨_, rfl⟩
  rw [← hQ]
  simp only [WX, B10]
  refine putE_to ((w25 Φ h25 h21 h41 (fd := 0) ok (by omega) hc hpi (by decide) hf).mono ?_)
  rintro r M1 c1 ⟨rfl, g1⟩
  have hle1 := g1.le
  have hq1 := hq.up g1
  have oe := ho0.to (g1.old o0 (by omega))
  have ok1 := g1.ok ok
  have n0 : decide ((0 : Int) ≠ 0) = false := by decide
  by_cases h1 : n < 0
  · have d1 : decide (n < 0) = true := decide_eq_true h1
    simp only [WX, B10, n0, d1]
    rw [hQ]; exact ⟨.of g1, .inl ⟨by omega, rfl, hq1⟩⟩
  by_cases h2 : 128 < n
  · have d1 : decide (n < 0) = false := decide_eq_false h1
    have d2 : decide (128 < n) = true := decide_eq_true h2
    simp only [WX, B10, n0, d1, d2]
    rw [hQ]; exact ⟨.of g1, .inl ⟨by omega, rfl, hq1⟩⟩
  have d1 : decide (n < 0) = false := decide_eq_false h1
  have d2 : decide (128 < n) = false := decide_eq_false h2
  obtain ⟨m, rfl⟩ : ∃ m : Nat, n = m := ⟨n.toNat, by omega⟩
  have b1 : biV .and (.i .i64 ((1 : Nat) : Int)) (.i .i64 1) = some (.i .i64 1) := Eq.trans rfl (Eq.refl _)
  have pz1 : decide ((1 : Int) = 0) = false := by decide
  have t1 : ∀ v, callN [(61, 249), (69, 254), (90, 258)] (K Φ none 10 F) (.a 69 v) [.i .i64 (m : Int)] M1 c1 = callC (den Φ) F 254 [v, .i .i64 (m : Int)] M1 c1 (Φ 254) := fun v => callN_a (Eq.trans rfl (Eq.refl _)) v _ M1 c1
  simp only [WX, Int.reduceEq, B10, n0, d1, d2, v_nck, nckV_p, oe.1, oe.2.1, b1, x_inv_eq, t1]
  refine putE_to ((w254 Φ h254 h252 (F := F) (M := M1) (c := c1) (k := k1) ok1 hq1 hql hT.2.2 (by rw [g1.load1 (by omega)]; exact ho1) (by omega)).mono ?_)
  rintro r M2 c2 ⟨g2, ⟨v, rfl, hv⟩, hq2⟩
  simp only [WX, B10, n0]
  rw [hQ]
  exact ⟨(GrX.of g1).trans g2, .inr ⟨m, rfl, by omega, v, rfl, hv, hq2⟩⟩
end Go.Proofs.YtaogopbhjinmoaaGreatDoor.Ev
set_option maxRecDepth 10000
set_option maxHeartbeats 4000000
namespace Go.Proofs.YtaogopbhjinmoaaGreatDoor.Ev
open Go
noncomputable def taV (want : Nat) (zero : V) (ok : Bool) (x : V) : Option V := (qop (.ta want zero ok (.c x)) [] .e .e).val
theorem v_ta {F : RO} (want : Nat) (zero : V) (ok : Bool) (x : X) (M : Mem) (t : T) : (qop (.ta want zero ok x) F M t).val = taV want zero ok (x.ev t) := Eq.trans rfl (Eq.refl _)
theorem taV_ok (want : Nat) (zero v : V) : taV want zero true (.a want v) = some (.t [v, .b true]) := by
  show (bif Nat.beq want want then QR.v (bif true then .t [v, .b true] else v) else bif true then .v (.t [zero, .b false]) else .f).val = _
  rw [Nat.beq_refl]; rfl
noncomputable def b9_1 : CC := (.reg [(pqq pa8 (.mv (px6 0))), (pqq pa9 (.mv pxF)), (pqq pa10 (.mv (px6 0)))])
noncomputable def b9_2 : CC := (.reg [(pqq pa15 (.mv pz0)), (pqq pa16 (.mv pz1)), (pqq pa17 (.mv pz2)), (pee pa18 (.call 25 [pz15, pz16, pz17])), (pqq pa14 (.mv pz18)), (pqq pa19 (.ex 0 pz14)), (pqq pa20 (.ex 1 pz14)), (pqq pa11 (.mv pz19)), (pqq pa10 (.mv pz20))])
noncomputable def b9_3 : CC := (.reg [(pqq pa22 (.mv pz10)), (pqq pa23 (.bi .neq pz22 (px6 0))), (pqq pa21 (.mv pz23))])
noncomputable def b9_4 : CC := (.reg [(pqq pa24 (.mv pz10)), (pqq pa8 (.mv (px6 0))), (pqq pa9 (.mv pxF)), (pqq pa10 (.mv pz24))])
noncomputable def b9_5 : CC := (.reg [(pqq pa26 (.mv pz3)), (pqq pa27 (.ln .slice pz26)), (pqq pa28 (.bi .gtr pz27 (px6 128))), (pqq pa25 (.mv pz28))])
noncomputable def b9_6 : CC := (.reg [(pqq pa8 (.mv (px6 0))), (pqq pa9 (.mv pxF)), (pqq pa10 (.mv (px6 3)))])
noncomputable def b9_7 : CC := (.reg [(pqq pa30 (.mv pz11)), (pqq pa31 (.nck pz30)), (pqq pa32 (.fa 1 pz31)), (pqq pa33 (.ld1 pz32)), (pqq pa34 (.bi .and pz33 (px6 2))), (pqq pa35 (.bi .eql pz34 (px6 0))), (pqq pa29 (.mv pz35))])
noncomputable def b9_8 : CC := (.reg [(pqq pa8 (.mv (px6 0))), (pqq pa9 (.mv pxF)), (pqq pa10 (.mv (px6 8)))])
noncomputable def b9_9 : CC := (.seq b9_7 (.cond pz29 (.seq b9_8 .ret) .skip))
noncomputable def b9_10 : CC := (.seq b9_5 (.cond pz25 (.seq b9_6 .ret) b9_9))
noncomputable def b9_11 : CC := (.seq b9_3 (.cond pz21 (.seq b9_4 .ret) b9_10))
noncomputable def b9_12 : CC := (.reg [(pqq pa37 (.mv pz11)), (pqq pa38 (.nck pz37)), (pqq pa39 (.fa 0 pz38)), (pqq pa40 (.ld1 pz39)), (pqq pa41 (.ta 69 (.g [.p0]) true pz40)), (pqq pa36 (.mv pz41)), (pqq pa42 (.ex 0 pz36)), (pqq pa43 (.ex 1 pz36)), (paa pa12 (.al 69 [.p0])), (pez (.st 1 pz12 pz42)), (pqq pa13 (.mv pz43))])
noncomputable def b9_13 : CC := (.reg [(pqq pa44 (.mv pz13)), (pqq pa45 (.mv pz44)), ⟨(some pa46), .q (.fa 0 pz12), (some (pa45, true))⟩, ⟨(some pa47), .q (.ld1 pz46), (some (pa45, true))⟩, ⟨(some pa48), .q (.nck pz47), (some (pa45, true))⟩, ⟨(some pa49), .q (.fa 2 pz48), (some (pa45, true))⟩, ⟨(some pa50), .q (.iaA 2 1 pz49 (px6 0)), (some (pa45, true))⟩, ⟨(some pa51), .q (.ld1 pz50), (some (pa45, true))⟩, ⟨(some pa52), .q (.nck pz51), (some (pa45, true))⟩, ⟨(some pa53), .q (.fa 2 pz52), (some (pa45, true))⟩, ⟨(some pa54), .q (.ld1 pz53), (some (pa45, true))⟩, ⟨(some pa55), .q (.bi .eql pz54 (px6 0)), (some (pa45, true))⟩, (pqq pa56 (.pk pz45 pz55 pxF))])
noncomputable def b9_14 : CC := (.reg [(pqq pa8 (.mv (px6 0))), (pqq pa9 (.mv pxF)), (pqq pa10 (.mv (px6 12)))])
noncomputable def b9_15 : CC := (.cond pz56 (.seq b9_14 .ret) .skip)
noncomputable def b9_16 : CC := (.reg [(pqq pa57 (.mv pz3)), (pqq pa58 (.ln .slice pz57)), (pqq pa59 (.bi .eql pz58 (px6 0)))])
noncomputable def b9_17 : CC := (.reg [(pqq pa8 (.mv (px6 0))), (pqq pa9 (.mv pxF)), (pqq pa10 (.mv (px6 0)))])
noncomputable def b9_18 : CC := (.cond pz59 (.seq b9_17 .ret) .skip)
noncomputable def b9_19 : CC := (.reg [(pqq pa61 (.mv pz11)), (pqq pa62 (.nck pz61)), (pqq pa63 (.fa 0 pz62)), (pqq pa64 (.ld1 pz63)), (pqq pa65 (.mv pz3)), (pee pa66 (.inv [(61, 251), (69, 256), (90, 260)] pz64 [pz65])), (pqq pa60 (.mv pz66)), (pqq pa67 (.ex 0 pz60)), (pqq pa68 (.ex 1 pz60)), (pqq pa9 (.mv pz67)), (pqq pa10 (.mv pz68))])
noncomputable def b9_20 : CC := (.reg [(pqq pa69 (.mv pz9)), (pqq pa70 (.mv pz69)), ⟨(some pa71), .q (.mv pz10), (some (pa70, false))⟩, ⟨(some pa72), .q (.bi .neq pz71 (px6 0)), (some (pa70, false))⟩, (pqq pa73 (.pk pz70 pxT pz72))])
noncomputable def b9_21 : CC := (.reg [(pqq pa74 (.mv pz9)), (pqq pa75 (.mv pz10)), (pqq pa8 (.mv (px6 0))), (pqq pa9 (.mv pz74)), (pqq pa10 (.mv pz75))])
noncomputable def b9_22 : CC := (.cond pz73 (.seq b9_21 .ret) .skip)
noncomputable def b9_23 : CC := (.reg [(pqq pa76 (.mv pz3)), (pqq pa77 (.ln .slice pz76)), (pqq pa8 (.mv pz77)), (pqq pa9 (.mv pxF)), (pqq pa10 (.mv (px6 0)))])
noncomputable def b9_24 : CC := (.seq (.seq b9_16 b9_18) (.seq (.seq b9_19 (.seq b9_20 b9_22)) (.seq b9_23 .ret)))
noncomputable def b9_25 : CC := (.seq (.block 0 b9_11) (.seq (.seq b9_12 (.seq b9_13 b9_15)) b9_24))
noncomputable def c9 : CF := .mk 7 [.t pa8, .t pa9, .t pa10] (.seq b9_1 (.seq b9_2 b9_25))
theorem e9 (v0 v1 v2 v3 : V) : argTr 7 [v0, v1, v2, v3] = (.n (.n (.n sk4 (some v3) sk4) (some v1) sk5) (some v0) (.n sk5 (some v2) sk5)) := rfl
def B9 := ai @e9 (ai (wu b9_1.eq_1) (ai (wu b9_2.eq_1) (ai (wu b9_3.eq_1) (ai (wu b9_4.eq_1) (ai (wu b9_5.eq_1) (ai (wu b9_6.eq_1) (ai (wu b9_7.eq_1) (ai (wu b9_8.eq_1) (ai (wu b9_9.eq_1) (ai (wu b9_10.eq_1) (ai (wu b9_11.eq_1) (ai (wu b9_12.eq_1) (ai (wu b9_13.eq_1) (ai (wu b9_14.eq_1) (ai (wu b9_15.eq_1) (ai (wu b9_16.eq_1) (ai (wu b9_17.eq_1) (ai (wu b9_18.eq_1) (ai (wu b9_19.eq_1) (ai (wu b9_20.eq_1) (ai (wu b9_21.eq_1) (ai (wu b9_22.eq_1) (ai (wu b9_23.eq_1) (ai (wu b9_24.eq_1) (wu b9_25.eq_1)))))))))))))))))))))))))
def WrP (F : RO) (M : Mem) (c c0 p o0 o1 tp : Nat) (q b : List UInt8) (r : V) (M' : Mem) (c' : Nat) : Prop :=
  GrX (fun x => x = p) c M c' M' ∧ ((128 < b.length ∧ r = .t [.i .i64 0, .b false, .i .i64 3] ∧ PQ F M' c0 c' p o0 o1 tp q) ∨ (b.length ≤ 128 ∧ 128 < q.length + b.length ∧ r = .t [.i .i64 0, .b true, .i .i64 0] ∧ PQ F M' c0 c' p o0 o1 tp q) ∨ (q.length + b.length ≤ 128 ∧ r = .t [.i .i64 (b.length : Int), .b false, .i .i64 0] ∧ PQ F M' c0 c' p o0 o1 tp (q ++ b)))
theorem w9 (Φ : Nat → Option CF) (h : Φ 9 = some c9) (h25 : Φ 25 = some c25) (h21 : Φ 21 = some c21) (h41 : Φ 41 = some c41) (h256 : Φ 256 = some c256) (h252 : Φ 252 = some c252) {F : RO} {M : Mem} {c c0 T cn p o0 o1 tp k0 k1 pi : Nat} {v : V} {q b : List UInt8} (ok : Okm F M c) (hq : PQ F M c0 c p o0 o1 tp q) (hql : q.length ≤ 128) (hT : T < c0 ∧ o0 < c0 ∧ o1 < c0) (hc : load1 F M T 105 = some (.p cn 0)) (hpi : 1 ≤ pi ∧ pi ≤ 12) (hf : load1 F M T (1 + pi * 8 + 1) = some (.p o1 0)) (ho1 : OE F M o1 p 2 k1) (ho0 : load1 F M o0 2 = some (.i .i64 (k0 : Int))) (hk0 : 0 < k0) (hv : SlB F M c v b) (hb : b.length ≤ 1000) :
    Calls Φ F 9 [.p T 0, .i .i64 (pi : Int), .i .i64 1, v] M c (WrP F M c c0 p o0 o1 tp q b) := by
  have hle := hq.2.1
  refine calls_walk h ?_
  obtain ⟨Q, hQ⟩ : ∃ Q, Q = WrP F M c c0 p o0 o1 tp q b := ⟨_, rfl⟩
  rw [← hQ]
  simp only [WX, B9]
  refine putE_to ((w25 Φ h25 h21 h41 (fd := 1) ok (by omega) hc hpi (by decide) hf).mono ?_)
  rintro r M1 c1 ⟨rfl, g1⟩
  have hle1 := g1.le
  have hq1 := hq.up g1
  have oe := ho1.to (g1.old o1 (by omega))
  have ok1 := g1.ok ok
  have hv1 := hv.grow g1
  have lv := hv.len
  have n0 : decide ((0 : Int) ≠ 0) = false := by decide
  by_cases h1 : 128 < b.length
  · have d1 : decide ((128 : Int) < (b.length : Int)) = true := decide_eq_true (by omega)
    simp only [WX, B9, n0, d1, lv]
    rw [hQ]
    exact ⟨.of g1, .inl ⟨h1, rfl, hq1⟩⟩
  have d1 : decide ((128 : Int) < (b.length : Int)) = false := decide_eq_false (by omega)
  have b1 : biV .and (.i .i64 ((2 : Nat) : Int)) (.i .i64 2) = some (.i .i64 2) := Eq.trans rfl (Eq.refl _)
  have pz1 : decide ((2 : Int) = 0) = false := by decide
  have pz2 : decide ((k0 : Int) = 0) = false := decide_eq_false (by omega)
  have i1 : iaAV 2 1 (.p p 2) (.i .i64 0) = some (.p p 2) := iaA_p 2 1 p 2 0 .i64 (by decide)
  have g2 := (Gr.refl ok1).set c1 (rowB 69 [.p p 0]) (Nat.le_refl _) (Nat.lt_succ_self _) (Nat.le_succ _)
  have ok2 := g2.ok ok1
  have m2 : (M1.set c1 (rowB 69 [.p p 0])).get c1 = some (rowB 69 [.p p 0]) := get_same _ _ _
  have hq2 := hq1.up g2
  have hv2 := hv1.grow g2
  have oe2 := oe.to (g2.old o1 (by omega))
  obtain ⟨hp, _, vb, hM, _⟩ := id hq2
  have l2 : load1 F (M1.set c1 (rowB 69 [.p p 0])) p 2 = some (.p o0 0) := load_row hM 2
  have k2 : load1 F (M1.set c1 (rowB 69 [.p p 0])) o0 2 = some (.i .i64 (k0 : Int)) := by rw [g2.load1 (by omega), g1.load1 (by omega)]; exact ho0
  have e2 : load1 F (M1.set c1 (rowB 69 [.p p 0])) c1 0 = some (.p p 0) := load_row m2 0
  simp only [WX, Int.reduceEq, Nat.reduceLeDiff, B9, n0, d1, lv, v_nck, nckV_p, oe.1, oe.2.1, b1, v_ta, taV_ok]
  generalize M1.set c1 (rowB 69 [.p p 0]) = M2 at g2 ok2 m2 hq2 hv2 oe2 hM l2 k2 e2 ⊢
  simp only [WX, B9, l2, k2, pz2, v_nck, nckV_p, v_iaA, i1, lv]
  by_cases h0 : b = []
  · subst h0
    have d3 : decide (((([] : List UInt8).length : Nat) : Int) = 0) = true := rfl
    rw [d3]
    simp only [WX, B9]
    rw [hQ]
    exact ⟨.of (g1.trans g2), .inr (.inr ⟨by simpa using hql, rfl, by rw [List.append_nil]; exact hq2⟩)⟩
  have d3 : decide ((b.length : Int) = 0) = false := decide_eq_false (by have := List.length_pos_iff.2 h0; omega)
  have t1 : ∀ x, callN [(61, 251), (69, 256), (90, 260)] (K Φ none 9 F) (.a 69 x) [v] M2 c1.succ = callC (den Φ) F 256 [x, v] M2 c1.succ (Φ 256) := fun x => callN_a (Eq.trans rfl (Eq.refl _)) x _ M2 c1.succ
  rw [d3]
  simp only [WX, B9, v_nck, nckV_p, oe2.1, x_inv_eq, t1]
  refine putE_to ((w256 Φ h256 h252 ok2 hq2 hql hv2 (by omega)).mono ?_)
  rintro r M3 c3 ⟨g3, rfl, hq3⟩
  have gT : GrX (fun x => x = p) c M c3 M3 := (GrX.of (g1.trans g2)).trans g3
  by_cases h2 : 128 < q.length + b.length
  · rw [decide_eq_true h2]
    rw [if_pos h2] at hq3
    simp only [WX, B9]
    rw [hQ]
    exact ⟨gT, .inr (.inl ⟨by omega, h2, rfl, hq3⟩)⟩
  · rw [decide_eq_false h2]
    rw [if_neg h2] at hq3
    simp only [WX, B9, n0, lv]
    rw [hQ]
    exact ⟨gT, .inr (.inr ⟨by omega, rfl, hq3⟩)⟩
end Go.Proofs.YtaogopbhjinmoaaGreatDoor.Ev
