/- What is proved here: pieces of the evaluator's soundness: if the evaluator comes to a value, the model's run comes to it, for every world and tape; no conditions beyond the hypotheses of each theorem. -/
import Derived.Test.YtlhcbcdiffldbaaGreatDoorEv5
set_option linter.unusedSimpArgs false
set_option linter.unusedVariables false
set_option linter.defProp false
set_option maxRecDepth 10000
set_option maxHeartbeats 16000000
namespace Go.Proofs.YtlhcbcdiffldbaaGreatDoor.Ev
open Go
noncomputable section
def b106_1 : CC := (.reg [(qq a4 (.mv z0)), (qq a5 (.ln .str z4)), (qq a6 (.bi .eql z5 (x6 0)))])
def b106_2 : CC := (.seq (.reg [(qq a2 (.mv (.c (.s 0 0))))]) .ret)
def b106_3 : CC := (.reg [(qq a7 (.mv z0)), (qq a8 (.ln .str z7)), (aa a9 (.mks 5 1 1 [(.i .u8 0)] z8 z8)), (qq a3 (.mv z9))])
def b106_4 : CC := (.reg [(qq a10 (.mv z3)), (qq a11 (.mv z0)), (ee a12 (.cpy 1 z10 z11))])
def b106_5 : CC := (.reg [(qq a13 (.mv z3)), (qq a14 (.iaS 1 z13 (x6 0))), (qq a15 (.mv z3)), (qq a16 (.ln .slice z15)), (ee a17 (.us 5 z14 z16)), (qq a2 (.mv z17))])
def b106_6 : CC := (.seq (.seq b106_1 (.cond z6 b106_2 .skip)) (.seq b106_3 (.seq b106_4 (.seq b106_5 .ret))))
def b106_7 : CC := (.seq (.reg [(qq a2 (.mv (.c (.s 0 0))))]) b106_6)
def c106 : CF := .mk 5 [.t a2] b106_7
theorem e106 (v0 : V) : argTr 5 [v0] = (.n sk4 (some v0) sk4) := rfl
def B106 := ai @e106 (ai (wu b106_1.eq_1) (ai (wu b106_2.eq_1) (ai (wu b106_3.eq_1) (ai (wu b106_4.eq_1) (ai (wu b106_5.eq_1) (ai (wu b106_6.eq_1) (wu b106_7.eq_1)))))))
def b67_1 : CC := (.dreg 7 [(0, 0, (qq a5 (.mv z0))), (1, 0, (qq a6 (.mv z1))), (3, 0, (qq a8 (.ld1 (.c (.p 1 0))))), (2, 2, (ee a7 (.call 106 [z6]))), (4, 15, (qq a9 (.bld [(.s 0 0), (.s 0 0), .a0] [(0, 1, z5), (1, 1, z7), (2, 1, z8)]))), (5, 31, (aa a10 (.bx 162 3 z9))), (6, 63, (qq a4 (.mv z10)))])
def b67_2 : CC := (.seq (.reg [(qq a4 (.mv (.c .p0)))]) (.seq b67_1 .ret))
def c67 : CF := .mk 4 [.t a4] b67_2
theorem e67 (v0 v1 : V) : argTr 4 [v0, v1] = (.n (.n sk2 (some v1) sk2) (some v0) sk3) := rfl
def B67 := ai @e67 (ai (wu b67_1.eq_1) (wu b67_2.eq_1))
def b68_1 : CC := (.dreg 7 [(0, 0, (qq a5 (.mv z0))), (1, 0, (qq a6 (.mv z1))), (3, 0, (qq a8 (.ld1 (.c (.p 2 0))))), (2, 2, (ee a7 (.call 106 [z6]))), (4, 15, (qq a9 (.bld [(.s 0 0), (.s 0 0), .a0] [(0, 1, z5), (1, 1, z7), (2, 1, z8)]))), (5, 31, (aa a10 (.bx 162 3 z9))), (6, 63, (qq a4 (.mv z10)))])
def b68_2 : CC := (.seq (.reg [(qq a4 (.mv (.c .p0)))]) (.seq b68_1 .ret))
def c68 : CF := .mk 4 [.t a4] b68_2
theorem e68 (v0 v1 : V) : argTr 4 [v0, v1] = (.n (.n sk2 (some v1) sk2) (some v0) sk3) := rfl
def B68 := ai @e68 (ai (wu b68_1.eq_1) (wu b68_2.eq_1))
def b41_1 : CC := (.reg [(qq a10 (.mv (.c .a0)))])
def b41_2 : CC := (.reg [(qq a11 (.mv z4))])
def b41_3 : CC := (.reg [(qq a13 (.mki 127 (x6 2))), (qq a14 (.eq false (.ifs [2, 3, 5, 6, 12, 21, 29, 51, 57, 58, 107, 121, 127, 143, 153, 164, 165, 193, 194, 196, 197]) false z11 z13)), (qq a12 (.mv z14))])
def b41_4 : CC := (.reg [(qq a15 (.mv z0)), (qq a16 (.mv z1)), (ee a17 (.call 67 [z15, z16])), (qq a18 (.mki 128 z17)), (qq a10 (.mv z18))])
def b41_5 : CC := (.reg [(qq a20 (.mki 127 (x6 1))), (qq a21 (.eq false (.ifs [2, 3, 5, 6, 12, 21, 29, 51, 57, 58, 107, 121, 127, 143, 153, 164, 165, 193, 194, 196, 197]) false z11 z20)), (qq a19 (.mv z21))])
def b41_6 : CC := (.reg [(qq a22 (.mv z0)), (qq a23 (.mv z1)), (ee a24 (.call 68 [z22, z23])), (qq a25 (.mki 128 z24)), (qq a10 (.mv z25))])
def b41_7 : CC := (.reg [(qq a27 (.mki 127 (x6 3))), (qq a28 (.eq false (.ifs [2, 3, 5, 6, 12, 21, 29, 51, 57, 58, 107, 121, 127, 143, 153, 164, 165, 193, 194, 196, 197]) false z11 z27)), (qq a26 (.mv z28))])
def b41_8 : CC := (.reg [(qq a29 (.mv z0)), (qq a30 (.mv z1)), (qq a31 (.mv z2)), (ee a32 (.call 69 [z29, z30, z31])), (qq a33 (.mki 128 z32)), (qq a10 (.mv z33))])
def b41_9 : CC := (.reg [(qq a35 (.mki 127 (x6 4))), (qq a36 (.eq false (.ifs [2, 3, 5, 6, 12, 21, 29, 51, 57, 58, 107, 121, 127, 143, 153, 164, 165, 193, 194, 196, 197]) false z11 z35)), (qq a34 (.mv z36))])
def b41_10 : CC := (.reg [(qq a37 (.mv z0)), (qq a38 (.mv z1)), (qq a39 (.mv z3)), (ee a40 (.call 70 [z37, z38, z39])), (qq a41 (.mki 128 z40)), (qq a10 (.mv z41))])
def b41_11 : CC := (.cond z34 (.seq b41_10 .ret) .skip)
def b41_12 : CC := (.cond z26 (.seq b41_8 .ret) (.seq b41_9 b41_11))
def b41_13 : CC := (.cond z19 (.seq b41_6 .ret) (.seq b41_7 b41_12))
def b41_14 : CC := (.cond z12 (.seq b41_4 .ret) (.seq b41_5 b41_13))
def b41_15 : CC := (.reg [(qq a42 (.mv z4)), (qq a10 (.mv z42))])
def b41_16 : CC := (.seq (.seq b41_2 (.block 0 (.seq b41_3 b41_14))) (.seq b41_15 .ret))
def c41 : CF := .mk 6 [.t a10] (.seq b41_1 b41_16)
theorem e41 (v0 v1 v2 v3 v4 : V) : argTr 6 [v0, v1, v2, v3, v4] = (.n (.n (.n sk3 (some v3) sk3) (some v1) sk4) (some v0) (.n (.n sk3 (some v4) sk3) (some v2) sk4)) := rfl
def B41 := ai @e41 (ai (wu b41_1.eq_1) (ai (wu b41_2.eq_1) (ai (wu b41_3.eq_1) (ai (wu b41_4.eq_1) (ai (wu b41_5.eq_1) (ai (wu b41_6.eq_1) (ai (wu b41_7.eq_1) (ai (wu b41_8.eq_1) (ai (wu b41_9.eq_1) (ai (wu b41_10.eq_1) (ai (wu b41_11.eq_1) (ai (wu b41_12.eq_1) (ai (wu b41_13.eq_1) (ai (wu b41_14.eq_1) (ai (wu b41_15.eq_1) (wu b41_16.eq_1))))))))))))))))
theorem usE_row {F : RO} {M : Mem} {b n : Nat} {ex : Bool} {d : List V} {t : T} (c : Nat) {l : List UInt8} (hM : M.get b = some (.cells 5 n ex 0 false d t)) (hld : loadN F M b 0 l.length = some (l.map bV)) (hl : l ≠ []) (hl2 : l.length ≤ 1099511627776) :
  ∃ y, usE F M c 5 (.p b 0) (.i .i64 (l.length : Int)) = .k (sV l) (M.set b y) c := by
 have h0 : l.length ≠ 0 := fun e => hl (List.length_eq_zero_iff.1 e)
 refine ⟨.cells 5 n ex (if 0 ≤ 0 + l.length then 0 + l.length else 0) false d t, ?_⟩
 show e_us1 F M c 5 b 0 l.length = _
 unfold e_us1
 rw [beqN, decide_eq_false h0, cond_false]
 have ht : tyIs M b 5 = true := by unfold tyIs; rw [hM]; rfl
 rw [ht, bleN, decide_eq_true hl2]
 show (match loadN F M b 0 l.length with | some vs => e_us2 M c b 0 (bytesV vs) | none => RC.f) = _
 rw [hld]
 show e_us2 M c b 0 (bytesV (l.map bV)) = _
 rw [bytesV_s]
 have hf : freezeM M b 0 l.length = some (M.set b (.cells 5 n ex (if 0 ≤ 0 + l.length then 0 + l.length else 0) false d t)) := by
  unfold freezeM
  rw [hM]
  show (bif false then none else fN (bif Nat.ble 0 (Nat.add 0 l.length) then Nat.add 0 l.length else 0) fun fz => some (M.set b (.cells 5 n ex fz false d t))) = _
  rw [cond_false, fN_eq, bleN]
  by_cases h : 0 ≤ 0 + l.length
  · rw [decide_eq_true (show 0 ≤ Nat.add 0 l.length from h), if_pos h]; rfl
  · exact absurd (Nat.zero_le _) h
 show (match freezeM M b 0 l.length with | some M => fN l.length fun n => fN (strN l) fun s => RC.k (.s n s) M c | none => .f) = _
 rw [hf]
 show (fN l.length fun n => fN (strN l) fun s => RC.k (.s n s) _ c) = _
 rw [fN_eq, fN_eq]; rfl
theorem cpyE_s {F : RO} {M : Mem} {b : Nat} {ex : Bool} {d : List V} {t : T} (c : Nat) {l : List UInt8} (hM : M.get b = some (.cells 5 l.length ex 0 false d t)) (hl : l ≠ []) :
  cpyE F M c 1 (.l b 0 l.length l.length) (sV l) = .k (.i .i64 (l.length : Int)) (M.set b (.cells 5 l.length ex 0 false d (listTr (l.map bV) 0 t))) c := by
 have h0 : l.length ≠ 0 := fun e => hl (List.length_eq_zero_iff.1 e)
 show fN (bif Nat.ble l.length l.length then l.length else l.length) (fun n => bif Nat.beq n 0 then RC.k (.i .i64 0) M c else cpyW M c n (.l b 0 l.length l.length) (cpySrc F M 1 n (sV l))) = _
 rw [fN_eq, bleN, decide_eq_true (Nat.le_refl _), cond_true, beqN, decide_eq_false h0, cond_false]
 have hs : cpySrc F M 1 l.length (sV l) = some (l.map bV) := by
  show (bif Nat.beq 1 1 then some (byteCells l.length (strN l % 256 ^ l.length)) else none) = _
  rw [Nat.mod_eq_of_lt (strN_lt l), byteCells_s]; rfl
 rw [hs]
 show (match storeN M b 0 (l.map bV) with | some M => RC.k (.i .i64 (.ofNat l.length)) M c | none => .f) = _
 rw [storeN_of hM (by rw [List.length_map]; omega) (Nat.zero_le _) (allOne_bytes l)]; rfl
theorem t106 (Φ : Nat → Option CF) (h : Φ 106 = some c106) (l : List UInt8) (hl : l.length ≤ 1000000) (ct : Nat) : To Φ 106 [sV l] ct (sV l) := by
 refine to_walk h ?_
 by_cases h0 : l = []
 · subst h0
   have e0 : ((([] : List UInt8).length : Nat) : Int) = 0 := rfl
   simp only [WX, Nat.reducePow, Nat.reduceDiv, Nat.reduceMod, Nat.reduceBEq, Nat.reduceEqDiff, Int.reduceEq, Int.reduceLT, Int.reduceLE, reduceIte, reduceCtorEq, Nat.reduceAdd, Nat.reduceLeDiff, wd_e1, B106, Int.ofNat_zero]
   rfl
 · have hn0 : l.length ≠ 0 := fun e => h0 (List.length_eq_zero_iff.1 e)
   have d0 : decide ((l.length : Int) = 0) = false := decide_eq_false (by omega)
   have hmk := mksA_i 5 1 1 [.i .u8 0] .i64 .i64 l.length l.length ct (Nat.le_refl _) (by omega)
   rw [Nat.mul_one] at hmk
   have hcp := cpyE_s (F := []) (M := (Tr.e : Mem).set ct (.cells 5 l.length true 0 false [.i .u8 0] .e)) (ct + 1) (l := l) (get_same _ _ _) h0
   rw [set_set] at hcp
   have hia := iaS_l 1 ct 0 l.length l.length 0 .i64 (by omega)
   rw [show ((0 : Nat) : Int) = 0 from rfl] at hia
   have hld : loadN [] ((Tr.e : Mem).set ct (.cells 5 l.length true 0 false [.i .u8 0] (listTr (l.map bV) 0 .e))) ct 0 l.length = some (l.map bV) := by
    have hc : CellsAt [] ((Tr.e : Mem).set ct (.cells 5 l.length true 0 false [.i .u8 0] (listTr (l.map bV) 0 .e))) ct 0 (l.map bV) := by
     have hg : ((Tr.e : Mem).set ct (.cells 5 l.length true 0 false [.i .u8 0] (listTr (l.map bV) 0 .e))).get ct = some (rowD [.i .u8 0] 5 (l.map bV)) := by
      rw [get_same]; unfold rowD; rw [List.length_map]; rfl
     exact (rowAt_D hg).cells
    have := hc.load (by intro e; rw [List.map_eq_nil_iff] at e; exact h0 e)
    rwa [List.length_map] at this
   obtain ⟨y, hy⟩ := usE_row (F := []) (M := (Tr.e : Mem).set ct (.cells 5 l.length true 0 false [.i .u8 0] (listTr (l.map bV) 0 .e))) (ct + 1) (l := l) (get_same _ _ _) hld h0 (by omega)
   simp only [WX, Nat.reducePow, Nat.reduceDiv, Nat.reduceMod, Nat.reduceBEq, Nat.reduceEqDiff, Int.reduceEq, Int.reduceLT, Int.reduceLE, reduceIte, reduceCtorEq, Nat.reduceAdd, Nat.reduceLeDiff, wd_e1, B106, d0, hmk, x_cpy_eq, hcp, hia, x_us_eq, hy]
def h106 : List V → Option V
 | [v] => (asS v).bind fun l => if l.length ≤ 1000000 then some (sV l) else none
 | _ => none
theorem h106_eq (l : List UInt8) (hl : l.length ≤ 1000000) : h106 [sV l] = some (sV l) := by
 show (asS (sV l)).bind (fun l => if l.length ≤ 1000000 then some (sV l) else none) = _
 rw [asS_s, Option.bind_some]; exact if_pos hl
theorem dq_bld {F : RO} (zero : List V) (ps : List (Nat × Nat × X)) (M : Mem) (t : T) : dqR (.bld zero ps) F M t = oV ((fillV zero (evP t ps)).map .g) := by
 refine (dq_of ?_).trans (congrArg oV (v_bld (F := F) zero ps M t))
 intro F' M'
 refine qv_oV ?_
 show (qg (fillParts t zero ps) = .f ∨ ∃ y, qg (fillParts t zero ps) = .v y)
 cases fillParts t zero ps with
 | none => exact .inl rfl
 | some x => exact .inr ⟨_, rfl⟩
theorem r67 (Φ : Nat → Option CF) (h : Φ 67 = some c67) (h106 : Φ 106 = some (.orc (pureO h106))) {F : RO} {M : Mem} {c : Nat} (ok : Okm F M c) (hE : ErrVar F 1) (hg : M.get 1 = none) (f l : List UInt8) (hl : l.length ≤ 1000000) :
  Calls Φ F 67 [sV f, sV l] M c fun r M' c' => (∃ b, r = .p b 0) ∧ Gr c M c' M' := by
 refine calls_walk h ?_
 obtain ⟨t, b, o, hld⟩ := hE
 have ld := hld M hg
 have hlk : (look F M (c + 5)).isNone = true := by rw [ok.look (show c ≤ c + 5 by omega)]; rfl
 have hn1 : 1 ≠ c + 5 := by have := ok.ge; omega
 simp only [WX, Nat.reducePow, Nat.reduceDiv, Nat.reduceMod, Nat.reduceBEq, Nat.reduceEqDiff, Int.reduceEq, Int.reduceLT, Int.reduceLE, reduceIte, reduceCtorEq, Nat.reduceAdd, Nat.reduceLeDiff, B67, ld]
 refine wd_pure _ _ _ _ _ _ _ _ _ _ _ h106 ok.free ?_
 simp only [WX, Nat.reducePow, Nat.reduceDiv, Nat.reduceMod, Nat.reduceBEq, Nat.reduceEqDiff, Int.reduceEq, Int.reduceLT, Int.reduceLE, reduceIte, reduceCtorEq, Nat.reduceAdd, Nat.reduceLeDiff, wd_e1, B67, h106_eq l hl, dq_bld, wd_a, putDA, hlk, readFree_nil, readFree_cons, hn1, ne_eq, not_false_eq_true, show ∀ l, isOne (sV l) = true from fun _ => rfl, show ∀ l, flatten (sV l) = [sV l] from fun _ => rfl, isOne_a, flatten_a, mergeAll_cons]
 exact ⟨⟨_, rfl⟩, (Gr.refl ok).set (c + 5) _ (by omega) (show c + 5 < c + 7 by omega) (by omega)⟩
theorem r68 (Φ : Nat → Option CF) (h : Φ 68 = some c68) (h106 : Φ 106 = some (.orc (pureO h106))) {F : RO} {M : Mem} {c : Nat} (ok : Okm F M c) (hE : ErrVar F 2) (hg : M.get 2 = none) (f l : List UInt8) (hl : l.length ≤ 1000000) :
  Calls Φ F 68 [sV f, sV l] M c fun r M' c' => (∃ b, r = .p b 0) ∧ Gr c M c' M' := by
 refine calls_walk h ?_
 obtain ⟨t, b, o, hld⟩ := hE
 have ld := hld M hg
 have hlk : (look F M (c + 5)).isNone = true := by rw [ok.look (show c ≤ c + 5 by omega)]; rfl
 have hn1 : 2 ≠ c + 5 := by have := ok.ge; omega
 simp only [WX, Nat.reducePow, Nat.reduceDiv, Nat.reduceMod, Nat.reduceBEq, Nat.reduceEqDiff, Int.reduceEq, Int.reduceLT, Int.reduceLE, reduceIte, reduceCtorEq, Nat.reduceAdd, Nat.reduceLeDiff, B68, ld]
 refine wd_pure _ _ _ _ _ _ _ _ _ _ _ h106 ok.free ?_
 simp only [WX, Nat.reducePow, Nat.reduceDiv, Nat.reduceMod, Nat.reduceBEq, Nat.reduceEqDiff, Int.reduceEq, Int.reduceLT, Int.reduceLE, reduceIte, reduceCtorEq, Nat.reduceAdd, Nat.reduceLeDiff, wd_e1, B68, h106_eq l hl, dq_bld, wd_a, putDA, hlk, readFree_nil, readFree_cons, hn1, ne_eq, not_false_eq_true, show ∀ l, isOne (sV l) = true from fun _ => rfl, show ∀ l, flatten (sV l) = [sV l] from fun _ => rfl, isOne_a, flatten_a, mergeAll_cons]
 exact ⟨⟨_, rfl⟩, (Gr.refl ok).set (c + 5) _ (by omega) (show c + 5 < c + 7 by omega) (by omega)⟩
theorem r41 (Φ : Nat → Option CF) (h : Φ 41 = some c41) (h67 : Φ 67 = some c67) (h68 : Φ 68 = some c68) (h106 : Φ 106 = some (.orc (pureO h106))) {F : RO} {M : Mem} {c : Nat} (ok : Okm F M c) (hE1 : ErrVar F 1) (hg1 : M.get 1 = none) (hE2 : ErrVar F 2) (hg2 : M.get 2 = none) (f l : List UInt8) (hl : l.length ≤ 1000000) (e : V) (he : e = .a 127 (.i .i64 1) ∨ e = .a 127 (.i .i64 2)) (x y : V) :
  Calls Φ F 41 [sV f, sV l, x, y, e] M c fun r M' c' => (∃ b, r = .a 128 (.p b 0)) ∧ Gr c M c' M' := by
 refine calls_walk h ?_
 have hm1 : memN 127 [2, 3, 5, 6, 12, 21, 29, 51, 57, 58, 107, 121, 127, 143, 153, 164, 165, 193, 194, 196, 197] = true := rfl
 rcases he with rfl | rfl
 · simp only [WX, Nat.reducePow, Nat.reduceDiv, Nat.reduceMod, Nat.reduceBEq, Nat.reduceEqDiff, Int.reduceEq, Int.reduceLT, Int.reduceLE, reduceIte, reduceCtorEq, Nat.reduceAdd, Nat.reduceLeDiff, wd_e1, B41, v_mki, eqV_ifs, hm1]
   refine putE_to ((r68 Φ h68 h106 ok hE2 hg2 f l hl).mono ?_)
   rintro r M1 c1 ⟨⟨b, rfl⟩, hg⟩
   simp only [WX, Nat.reducePow, Nat.reduceDiv, Nat.reduceMod, Nat.reduceBEq, Nat.reduceEqDiff, Int.reduceEq, Int.reduceLT, Int.reduceLE, reduceIte, reduceCtorEq, Nat.reduceAdd, Nat.reduceLeDiff, wd_e1, B41, v_mki]
   exact ⟨⟨_, rfl⟩, hg⟩
 · simp only [WX, Nat.reducePow, Nat.reduceDiv, Nat.reduceMod, Nat.reduceBEq, Nat.reduceEqDiff, Int.reduceEq, Int.reduceLT, Int.reduceLE, reduceIte, reduceCtorEq, Nat.reduceAdd, Nat.reduceLeDiff, wd_e1, B41, v_mki, eqV_ifs, hm1]
   refine putE_to ((r67 Φ h67 h106 ok hE1 hg1 f l hl).mono ?_)
   rintro r M1 c1 ⟨⟨b, rfl⟩, hg⟩
   simp only [WX, Nat.reducePow, Nat.reduceDiv, Nat.reduceMod, Nat.reduceBEq, Nat.reduceEqDiff, Int.reduceEq, Int.reduceLT, Int.reduceLE, reduceIte, reduceCtorEq, Nat.reduceAdd, Nat.reduceLeDiff, wd_e1, B41, v_mki]
   exact ⟨⟨_, rfl⟩, hg⟩
def b40_1 : CC := (.reg [(qq a6 (.mv (.c (.i .u64 0)))), (qq a7 (.mv (.c .a0)))])
def w40_1 := wu b40_1.eq_1
def b40_2 : CC := (.reg [(qq a18 (.mv z0)), (qq a19 (.bi .eql z18 (.c (.s 0 0))))])
def w40_2 := wu b40_2.eq_1
def b40_3 : CC := (.reg [(qq a20 (.mki 127 (x6 2))), (qq a6 (.mv (.c (.i .u64 0)))), (qq a7 (.mv z20))])
def w40_3 := wu b40_3.eq_1
def b40_4 : CC := (.seq b40_2 (.cond z19 (.seq b40_3 .ret) .skip))
def w40_4 := wu b40_4.eq_1
def b40_5 : CC := (.reg [(qq a21 (.mv z1)), (qq a22 (.bi .eql z21 (x6 0))), (qq a8 (.mv z22))])
def w40_5 := wu b40_5.eq_1
def b40_6 : CC := (.reg [(qq a23 (.mv z0)), (qq a9 (.mv z23))])
def w40_6 := wu b40_6.eq_1
def b40_7 : CC := (.reg [(qq a26 (.mv z1)), (qq a27 (.bi .leq (x6 2) z26)), (qq a28 (.mv z27)), ⟨(some a29), .q (.mv z1), (some (a28, true))⟩, ⟨(some a30), .q (.bi .leq z29 (x6 36)), (some (a28, true))⟩, (qq a31 (.pk z28 z30 xF)), (qq a25 (.mv z31))])
def w40_7 := wu b40_7.eq_1
def b40_8 : CC := (.reg [(qq a33 (.mv z1)), (qq a34 (.bi .eql z33 (x6 0))), (qq a32 (.mv z34))])
def w40_8 := wu b40_8.eq_1
def b40_9 : CC := (.reg [(qq a35 (.mv z0)), (qq a36 (.ixS z35 (x6 0))), (qq a37 (.bi .eql z36 (.c (.i .u8 48))))])
def w40_9 := wu b40_9.eq_1
def b40_10 : CC := (.reg [(qq a41 (.mv z0)), (qq a42 (.ln .str z41)), (qq a43 (.bi .geq z42 (x6 3))), (qq a44 (.mv z43)), ⟨(some a45), .q (.mv z0), (some (a44, true))⟩, ⟨(some a46), .q (.ixS z45 (x6 1)), (some (a44, true))⟩, ⟨(some a47), .e (.call 65 [z46]), (some (a44, true))⟩, ⟨(some a48), .q (.bi .eql z47 (.c (.i .u8 98))), (some (a44, true))⟩, (qq a49 (.pk z44 z48 xF)), (qq a40 (.mv z49))])
def w40_10 := wu b40_10.eq_1
def b40_11 : CC := (.reg [(qq a50 (.mv z0)), (qq a51 (.slS z50 (some (x6 2)) none)), (qq a0 (.mv z51))])
def w40_11 := wu b40_11.eq_1
def b40_12 : CC := (.seq (.reg [(qq a1 (.mv (x6 2)))]) b40_11)
def w40_12 := wu b40_12.eq_1
def b40_13 : CC := (.reg [(qq a53 (.mv z0)), (qq a54 (.ln .str z53)), (qq a55 (.bi .geq z54 (x6 3))), (qq a56 (.mv z55)), ⟨(some a57), .q (.mv z0), (some (a56, true))⟩, ⟨(some a58), .q (.ixS z57 (x6 1)), (some (a56, true))⟩, ⟨(some a59), .e (.call 65 [z58]), (some (a56, true))⟩, ⟨(some a60), .q (.bi .eql z59 (.c (.i .u8 111))), (some (a56, true))⟩, (qq a61 (.pk z56 z60 xF)), (qq a52 (.mv z61))])
def w40_13 := wu b40_13.eq_1
def b40_14 : CC := (.reg [(qq a62 (.mv z0)), (qq a63 (.slS z62 (some (x6 2)) none)), (qq a0 (.mv z63))])
def w40_14 := wu b40_14.eq_1
def b40_15 : CC := (.seq (.reg [(qq a1 (.mv (x6 8)))]) b40_14)
def w40_15 := wu b40_15.eq_1
def b40_16 : CC := (.reg [(qq a65 (.mv z0)), (qq a66 (.ln .str z65)), (qq a67 (.bi .geq z66 (x6 3))), (qq a68 (.mv z67)), ⟨(some a69), .q (.mv z0), (some (a68, true))⟩, ⟨(some a70), .q (.ixS z69 (x6 1)), (some (a68, true))⟩, ⟨(some a71), .e (.call 65 [z70]), (some (a68, true))⟩, ⟨(some a72), .q (.bi .eql z71 (.c (.i .u8 120))), (some (a68, true))⟩, (qq a73 (.pk z68 z72 xF)), (qq a64 (.mv z73))])
def w40_16 := wu b40_16.eq_1
def b40_17 : CC := (.reg [(qq a74 (.mv z0)), (qq a75 (.slS z74 (some (x6 2)) none)), (qq a0 (.mv z75))])
def w40_17 := wu b40_17.eq_1
def b40_18 : CC := (.seq (.reg [(qq a1 (.mv (x6 16)))]) b40_17)
def w40_18 := wu b40_18.eq_1
def b40_19 : CC := (.reg [(qq a38 (.mv z0)), (qq a39 (.slS z38 (some (x6 1)) none)), (qq a0 (.mv z39))])
def w40_19 := wu b40_19.eq_1
def b40_20 : CC := (.seq (.reg [(qq a1 (.mv (x6 8)))]) b40_19)
def w40_20 := wu b40_20.eq_1
def b40_21 : CC := (.seq b40_16 (.cond z64 b40_18 b40_20))
def w40_21 := wu b40_21.eq_1
def b40_22 : CC := (.seq b40_13 (.cond z52 b40_15 b40_21))
def w40_22 := wu b40_22.eq_1
def b40_23 : CC := (.seq b40_10 (.cond z40 b40_12 b40_22))
def w40_23 := wu b40_23.eq_1
def b40_24 : CC := (.cond z37 (.block 1 b40_23) .skip)
def w40_24 := wu b40_24.eq_1
def b40_25 : CC := (.seq (.reg [(qq a1 (.mv (x6 10)))]) (.seq b40_9 b40_24))
def w40_25 := wu b40_25.eq_1
def b40_26 : CC := (.reg [(qq a24 (.mki 127 (x6 3))), (qq a6 (.mv (.c (.i .u64 0)))), (qq a7 (.mv z24))])
def w40_26 := wu b40_26.eq_1
def b40_27 : CC := (.cond z32 b40_25 (.seq b40_26 .ret))
def w40_27 := wu b40_27.eq_1
def b40_28 : CC := (.cond z25 .skip (.seq b40_8 b40_27))
def w40_28 := wu b40_28.eq_1
def b40_29 : CC := (.reg [(qq a76 (.mv z2)), (qq a77 (.bi .eql z76 (x6 0)))])
def w40_29 := wu b40_29.eq_1
def b40_30 : CC := (.reg [(qq a78 (.mv z2)), (qq a79 (.bi .lss z78 (x6 0))), (qq a80 (.mv z79)), ⟨(some a81), .q (.mv z2), (some (a80, false))⟩, ⟨(some a82), .q (.bi .gtr z81 (x6 64)), (some (a80, false))⟩, (qq a83 (.pk z80 xT z82))])
def w40_30 := wu b40_30.eq_1
def b40_31 : CC := (.reg [(qq a84 (.mki 127 (x6 4))), (qq a6 (.mv (.c (.i .u64 0)))), (qq a7 (.mv z84))])
def w40_31 := wu b40_31.eq_1
def b40_32 : CC := (.cond z83 (.seq b40_31 .ret) .skip)
def w40_32 := wu b40_32.eq_1
def b40_33 : CC := (.cond z77 (.reg [(qq a2 (.mv (x6 64)))]) (.seq b40_30 b40_32))
def w40_33 := wu b40_33.eq_1
def b40_34 : CC := (.reg [(qq a10 (.mv (.c (.i .u64 0))))])
def w40_34 := wu b40_34.eq_1
def b40_35 : CC := (.reg [(qq a85 (.mv z1))])
def w40_35 := wu b40_35.eq_1
def b40_36 : CC := (.reg [(qq a91 (.bi .eql z85 (x6 10))), (qq a90 (.mv z91))])
def w40_36 := wu b40_36.eq_1
def b40_37 : CC := (.reg [(qq a10 (.mv (.c (.i .u64 1844674407370955162))))])
def w40_37 := wu b40_37.eq_1
def b40_38 : CC := (.reg [(qq a93 (.bi .eql z85 (x6 16))), (qq a92 (.mv z93))])
def w40_38 := wu b40_38.eq_1
def b40_39 : CC := (.reg [(qq a10 (.mv (.c (.i .u64 1152921504606846976))))])
def w40_39 := wu b40_39.eq_1
def b40_40 : CC := (.reg [(qq a86 (.mv z1)), (qq a87 (.ci .u64 z86)), (qq a88 (.bi .quo (.c (.i .u64 18446744073709551615)) z87)), (qq a89 (.bi .add z88 (.c (.i .u64 1)))), (qq a10 (.mv z89))])
def w40_40 := wu b40_40.eq_1
def b40_41 : CC := (.seq b40_38 (.cond z92 b40_39 b40_40))
def w40_41 := wu b40_41.eq_1
def b40_42 : CC := (.seq b40_36 (.cond z90 b40_37 b40_41))
def w40_42 := wu b40_42.eq_1
def b40_43 : CC := (.reg [(qq a94 (.mv z2)), (qq a95 (.ci .u64 z94)), (qq a96 (.bi .shl (.c (.i .u64 1)) z95)), (qq a97 (.bi .sub z96 (.c (.i .u64 1)))), (qq a11 (.mv z97))])
def w40_43 := wu b40_43.eq_1
def b40_44 : CC := (.reg [(qq a12 (.mv xF))])
def w40_44 := wu b40_44.eq_1
def b40_45 : CC := (.reg [(qq a13 (.mv (.c (.i .u64 0))))])
def w40_45 := wu b40_45.eq_1
def b40_46 : CC := (.reg [(qq a98 (.mv z0)), (aa a99 (.sb 5 z98)), (qq a100 (.ln .slice z99)), (qq a101 (.mv (x6 0)))])
def w40_46 := wu b40_46.eq_1
def b40_47 : CC := (.reg [(qq a102 (.bi .lss z101 z100))])
def w40_47 := wu b40_47.eq_1
def b40_48 : CC := (.cond z102 .skip (.exit 3))
def w40_48 := wu b40_48.eq_1
def b40_49 : CC := (.reg [(qq a103 (.iaS 1 z99 z101)), (qq a104 (.ld1 z103)), (qq a15 (.mv z104))])
def w40_49 := wu b40_49.eq_1
def b40_50 : CC := (.reg [(qq a16 (.mv (.c (.i .u8 0))))])
def w40_50 := wu b40_50.eq_1
def b40_51 : CC := (.reg [(qq a107 (.mv z15)), (qq a108 (.bi .eql z107 (.c (.i .u8 95)))), (qq a109 (.mv z108)), ⟨(some a110), .q (.mv z8), (some (a109, true))⟩, (qq a111 (.pk z109 z110 xF)), (qq a106 (.mv z111))])
def w40_51 := wu b40_51.eq_1
def b40_52 : CC := (.reg [(qq a12 (.mv xT))])
def w40_52 := wu b40_52.eq_1
def b40_53 : CC := (.reg [(qq a113 (.mv z15)), (qq a114 (.bi .leq (.c (.i .u8 48)) z113)), (qq a115 (.mv z114)), ⟨(some a116), .q (.mv z15), (some (a115, true))⟩, ⟨(some a117), .q (.bi .leq z116 (.c (.i .u8 57))), (some (a115, true))⟩, (qq a118 (.pk z115 z117 xF)), (qq a112 (.mv z118))])
def w40_53 := wu b40_53.eq_1
def b40_54 : CC := (.reg [(qq a119 (.mv z15)), (qq a120 (.bi .sub z119 (.c (.i .u8 48)))), (qq a16 (.mv z120))])
def w40_54 := wu b40_54.eq_1
def b40_55 : CC := (.reg [(qq a122 (.mv z15)), (ee a123 (.call 65 [z122])), (qq a124 (.bi .leq (.c (.i .u8 97)) z123)), (qq a125 (.mv z124)), ⟨(some a126), .q (.mv z15), (some (a125, true))⟩, ⟨(some a127), .e (.call 65 [z126]), (some (a125, true))⟩, ⟨(some a128), .q (.bi .leq z127 (.c (.i .u8 122))), (some (a125, true))⟩, (qq a129 (.pk z125 z128 xF)), (qq a121 (.mv z129))])
def w40_55 := wu b40_55.eq_1
def b40_56 : CC := (.reg [(qq a130 (.mv z15)), (ee a131 (.call 65 [z130])), (qq a132 (.bi .sub z131 (.c (.i .u8 97)))), (qq a133 (.bi .add z132 (.c (.i .u8 10)))), (qq a16 (.mv z133))])
def w40_56 := wu b40_56.eq_1
def b40_57 : CC := (.reg [(qq a105 (.mki 127 (x6 2))), (qq a6 (.mv (.c (.i .u64 0)))), (qq a7 (.mv z105))])
def w40_57 := wu b40_57.eq_1
def b40_58 : CC := (.cond z121 b40_56 (.seq b40_57 .ret))
def w40_58 := wu b40_58.eq_1
def b40_59 : CC := (.cond z112 b40_54 (.seq b40_55 b40_58))
def w40_59 := wu b40_59.eq_1
def b40_60 : CC := (.cond z106 (.seq b40_52 (.exit 4)) (.seq b40_53 b40_59))
def w40_60 := wu b40_60.eq_1
def b40_61 : CC := (.reg [(qq a134 (.mv z16)), (qq a135 (.mv z1)), (qq a136 (.ci .u8 z135)), (qq a137 (.bi .geq z134 z136))])
def w40_61 := wu b40_61.eq_1
def b40_62 : CC := (.reg [(qq a138 (.mki 127 (x6 2))), (qq a6 (.mv (.c (.i .u64 0)))), (qq a7 (.mv z138))])
def w40_62 := wu b40_62.eq_1
def b40_63 : CC := (.cond z137 (.seq b40_62 .ret) .skip)
def w40_63 := wu b40_63.eq_1
def b40_64 : CC := (.reg [(qq a139 (.mv z13)), (qq a140 (.mv z10)), (qq a141 (.bi .geq z139 z140))])
def w40_64 := wu b40_64.eq_1
def b40_65 : CC := (.reg [(qq a142 (.mv z11)), (qq a143 (.mki 127 (x6 1))), (qq a6 (.mv z142)), (qq a7 (.mv z143))])
def w40_65 := wu b40_65.eq_1
def b40_66 : CC := (.cond z141 (.seq b40_65 .ret) .skip)
def w40_66 := wu b40_66.eq_1
def b40_67 : CC := (.reg [(qq a144 (.mv z13)), (qq a145 (.mv z1)), (qq a146 (.ci .u64 z145)), (qq a147 (.bi .mul z144 z146)), (qq a13 (.mv z147))])
def w40_67 := wu b40_67.eq_1
def b40_68 : CC := (.reg [(qq a148 (.mv z13)), (qq a149 (.mv z16)), (qq a150 (.ci .u64 z149)), (qq a151 (.bi .add z148 z150)), (qq a17 (.mv z151))])
def w40_68 := wu b40_68.eq_1
def b40_69 : CC := (.reg [(qq a152 (.mv z17)), (qq a153 (.mv z13)), (qq a154 (.bi .lss z152 z153)), (qq a155 (.mv z154)), ⟨(some a156), .q (.mv z17), (some (a155, false))⟩, ⟨(some a157), .q (.mv z11), (some (a155, false))⟩, ⟨(some a158), .q (.bi .gtr z156 z157), (some (a155, false))⟩, (qq a159 (.pk z155 xT z158))])
def w40_69 := wu b40_69.eq_1
def b40_70 : CC := (.reg [(qq a160 (.mv z11)), (qq a161 (.mki 127 (x6 1))), (qq a6 (.mv z160)), (qq a7 (.mv z161))])
def w40_70 := wu b40_70.eq_1
def b40_71 : CC := (.cond z159 (.seq b40_70 .ret) .skip)
def w40_71 := wu b40_71.eq_1
def b40_72 : CC := (.reg [(qq a162 (.mv z17)), (qq a13 (.mv z162))])
def w40_72 := wu b40_72.eq_1
def b40_73 : CC := (.seq b40_67 (.seq b40_68 (.seq (.seq b40_69 b40_71) b40_72)))
def w40_73 := wu b40_73.eq_1
def b40_74 : CC := (.seq (.seq b40_61 b40_63) (.seq (.seq b40_64 b40_66) b40_73))
def w40_74 := wu b40_74.eq_1
def b40_75 : CC := (.seq b40_49 (.seq b40_50 (.seq (.block 5 (.seq b40_51 b40_60)) b40_74)))
def w40_75 := wu b40_75.eq_1
def b40_76 : CC := (.reg [(qq a163 (.bi .add z101 (x6 1))), (qq a101 (.mv z163))])
def w40_76 := wu b40_76.eq_1
def b40_77 : CC := (.loop (.seq b40_47 (.seq b40_48 (.seq (.block 4 b40_75) b40_76))))
def w40_77 := wu b40_77.eq_1
def b40_78 : CC := (.reg [(qq a164 (.mv z12)), (qq a165 (.mv z164)), ⟨(some a166), .q (.mv z9), (some (a165, true))⟩, ⟨(some a167), .e (.call 66 [z166]), (some (a165, true))⟩, ⟨(some a168), .q (.un .not z167), (some (a165, true))⟩, (qq a169 (.pk z165 z168 xF))])
def w40_78 := wu b40_78.eq_1
def b40_79 : CC := (.reg [(qq a170 (.mki 127 (x6 2))), (qq a6 (.mv (.c (.i .u64 0)))), (qq a7 (.mv z170))])
def w40_79 := wu b40_79.eq_1
def b40_80 : CC := (.cond z169 (.seq b40_79 .ret) .skip)
def w40_80 := wu b40_80.eq_1
def b40_81 : CC := (.reg [(qq a171 (.mv z13)), (qq a6 (.mv z171)), (qq a7 (.mv (.c .a0)))])
def w40_81 := wu b40_81.eq_1
def b40_82 : CC := (.seq (.seq b40_46 (.block 3 b40_77)) (.seq (.seq b40_78 b40_80) (.seq b40_81 .ret)))
def w40_82 := wu b40_82.eq_1
def b40_83 : CC := (.seq (.seq b40_35 (.block 2 b40_42)) (.seq b40_43 (.seq b40_44 (.seq b40_45 b40_82))))
def w40_83 := wu b40_83.eq_1
def b40_84 : CC := (.seq (.block 0 (.seq b40_7 b40_28)) (.seq (.seq b40_29 b40_33) (.seq b40_34 b40_83)))
def w40_84 := wu b40_84.eq_1
def c40 : CF := .mk 8 [.t a6, .t a7] (.seq b40_1 (.seq b40_4 (.seq b40_5 (.seq b40_6 b40_84))))
theorem e40 (v0 v1 v2 : V) : argTr 8 [v0, v1, v2] = (.n (.n sk6 (some v1) sk6) (some v0) (.n sk6 (some v2) sk6)) := rfl
def B40 := ai @e40 (ai @w40_1 (ai @w40_2 (ai @w40_3 (ai @w40_4 (ai @w40_5 (ai @w40_6 (ai @w40_7 (ai @w40_8 (ai @w40_9 (ai @w40_10 (ai @w40_11 (ai @w40_12 (ai @w40_13 (ai @w40_14 (ai @w40_15 (ai @w40_16 (ai @w40_17 (ai @w40_18 (ai @w40_19 (ai @w40_20 (ai @w40_21 (ai @w40_22 (ai @w40_23 (ai @w40_24 (ai @w40_25 (ai @w40_26 (ai @w40_27 (ai @w40_28 (ai @w40_29 (ai @w40_30 (ai @w40_31 (ai @w40_32 (ai @w40_33 (ai @w40_34 (ai @w40_35 (ai @w40_36 (ai @w40_37 (ai @w40_38 (ai @w40_39 (ai @w40_40 (ai @w40_41 (ai @w40_42 (ai @w40_43 (ai @w40_44 (ai @w40_45 (ai @w40_46 (ai @w40_47 (ai @w40_48 (ai @w40_49 (ai @w40_50 (ai @w40_51 (ai @w40_52 (ai @w40_53 (ai @w40_54 (ai @w40_55 (ai @w40_56 (ai @w40_57 (ai @w40_58 (ai @w40_59 (ai @w40_60 (ai @w40_61 (ai @w40_62 (ai @w40_63 (ai @w40_64 (ai @w40_65 (ai @w40_66 (ai @w40_67 (ai @w40_68 (ai @w40_69 (ai @w40_70 (ai @w40_71 (ai @w40_72 (ai @w40_73 (ai @w40_74 (ai @w40_75 (ai @w40_76 (ai @w40_77 (ai @w40_78 (ai @w40_79 (ai @w40_80 (ai @w40_81 (ai @w40_82 (ai @w40_83 (@w40_84))))))))))))))))))))))))))))))))))))))))))))))))))))))))))))))))))))))))))))))))))))
def hexD (c : UInt8) : Option Nat := if 48 ≤ c.toNat ∧ c.toNat ≤ 57 then some (c.toNat - 48) else if 97 ≤ (c ||| 32).toNat ∧ (c ||| 32).toNat ≤ 122 ∧ (c ||| 32).toNat - 97 + 10 < 16 then some ((c ||| 32).toNat - 97 + 10) else none
def hexF : Nat → List UInt8 → Option Nat
 | n, [] => some n
 | n, c :: r => (hexD c).bind fun d => hexF (n * 16 + d) r
theorem hexF_le : ∀ (l : List UInt8) (n m : Nat), hexF n l = some m → n ≤ m
 | [], n, m, h => by rw [Option.some.inj h]; exact Nat.le_refl _
 | c :: r, n, m, h => by
   unfold hexF at h
   obtain ⟨d, _, h2⟩ := Option.bind_eq_some_iff.1 h
   have := hexF_le r _ _ h2
   omega
def HexP (l : List UInt8) (n : Nat) : Prop := n < 256 ∧ ∀ m, l ≠ [] → hexF 0 l = some m → m < 256 → n = m
theorem r40 (Φ : Nat → Option CF) (h : Φ 40 = some c40) (h65 : Φ 65 = some (.orc (pureO h65))) {F : RO} {M : Mem} {c : Nat} (ok : Okm F M c) (l : List UInt8) (hl : l.length ≤ 1000000) :
  Calls Φ F 40 [sV l, .i .i64 16, .i .i64 8] M c fun r M' c' => ∃ (n : Nat) (e : V), r = .t [.i .u64 (n : Int), e] ∧ HexP l n ∧ ErrN e ∧ Gr c M c' M' := by
 refine calls_walk h ?_
 by_cases h0 : l = []
 · have e0 : biV .eql (sV l) (.s 0 0) = some (.b true) := by
    have := bi_seq l []
    rw [decide_eq_true h0] at this; exact this
   simp only [WX, Nat.reducePow, Nat.reduceDiv, Nat.reduceMod, Nat.reduceBEq, Nat.reduceEqDiff, Int.reduceEq, Int.reduceLT, Int.reduceLE, reduceIte, reduceCtorEq, Nat.reduceAdd, Nat.reduceLeDiff, wd_e1, B40, e0, v_mki]
   exact ⟨0, _, rfl, ⟨by decide, fun m hh => absurd h0 hh⟩, .inr (.inr rfl), Gr.refl ok⟩
 · have e0 : biV .eql (sV l) (.s 0 0) = some (.b false) := by
    have := bi_seq l []
    rw [decide_eq_false h0] at this; exact this
   have w1 : IntKind.u64.wrap 8 = 8 := rfl
   have w2 : biV .shl (.i .u64 1) (.i .u64 8) = some (.i .u64 256) := by have := bi_shl .u64 .u64 1 8; exact this.trans rfl
   have w3 : biV .sub (.i .u64 256) (.i .u64 1) = some (.i .u64 255) := by rw [bi_sub]; rfl
   simp only [WX, Nat.reducePow, Nat.reduceDiv, Nat.reduceMod, Nat.reduceBEq, Nat.reduceEqDiff, Int.reduceEq, Int.reduceLT, Int.reduceLE, reduceIte, reduceCtorEq, Nat.reduceAdd, Nat.reduceLeDiff, wd_e1, B40, e0, v_mki, w1, w2, w3, a_sb_w, sbA_s]
   have gX : Gr c M (c + 1) (M.set c (rowSb 5 l)) := (Gr.refl ok).set c _ (Nat.le_refl _) (Nat.lt_succ_self _) (Nat.le_succ _)
   have hsl : SlB F (M.set c (rowSb 5 l)) (c + 1) (.u c 0 l.length 0 l.length) l := slB_sb (get_same _ _ _) (Nat.lt_succ_self _)
   generalize M.set c (rowSb 5 l) = X at gX hsl ⊢
   obtain ⟨I1, hI1⟩ : ∃ I : Nat → St → Prop, ∀ n s', I n s' ↔ (∃ (i n0 : Nat) (u : List (Option V)), n = l.length - i ∧ i ≤ l.length ∧ n0 < 256 ∧ s' = .mk ((.n (.n (.n (.n (.n (uv7 u 127 63 191 31 159 95 223) (uO u 15) (uv7 u 143 79 207 47 175 111 239)) (uO u 7) (.n (uv7 u 135 71 199 39 167 103 231) (uO u 23) (uv7 u 151 87 215 55 183 119 247))) (uO u 3) (.n (.n (.n (uv3 u 131 67 195) (uO u 35) (.n (uv1 u 163) (some (.u c 0 l.length 0 l.length)) (uv1 u 227))) (uO u 19) (uv7 u 147 83 211 51 179 115 243)) (some (.i .u64 255)) (.n (uv7 u 139 75 203 43 171 107 235) (uO u 27) (uv7 u 155 91 219 59 187 123 251)))) (some (.i .i64 16)) (.n (.n (.n (uv7 u 129 65 193 33 161 97 225) (uO u 17) (uv7 u 145 81 209 49 177 113 241)) (some (sV l)) (.n (uv7 u 137 73 201 41 169 105 233) (uO u 25) (uv7 u 153 89 217 57 185 121 249))) (uO u 5) (.n (.n (.n (uv3 u 133 69 197) (uO u 37) (.n (uv1 u 165) (some (.i .i64 (i : Int))) (uv1 u 229))) (uO u 21) (uv7 u 149 85 213 53 181 117 245)) (some (.i .u64 (n0 : Int))) (.n (uv7 u 141 77 205 45 173 109 237) (uO u 29) (uv7 u 157 93 221 61 189 125 253))))) (some (sV l)) (.n (.n (.n (.n (uv7 u 128 64 192 32 160 96 224) (uO u 16) (uv7 u 144 80 208 48 176 112 240)) (some (.b false)) (.n (uv7 u 136 72 200 40 168 104 232) (uO u 24) (uv7 u 152 88 216 56 184 120 248))) (uO u 4) (.n (.n (.n (uv3 u 132 68 196) (uO u 36) (.n (uv1 u 164) (some (.i .i64 (l.length : Int))) (uv1 u 228))) (uO u 20) (uv7 u 148 84 212 52 180 116 244)) (some (.b false)) (.n (uv7 u 140 76 204 44 172 108 236) (uO u 28) (uv7 u 156 92 220 60 188 124 252)))) (uO u 2) (.n (.n (.n (uv7 u 130 66 194 34 162 98 226) (uO u 18) (uv7 u 146 82 210 50 178 114 242)) (some (.i .u64 1152921504606846976)) (.n (uv7 u 138 74 202 42 170 106 234) (uO u 26) (uv7 u 154 90 218 58 186 122 250))) (uO u 6) (.n (.n (uv7 u 134 70 198 38 166 102 230) (uO u 22) (uv7 u 150 86 214 54 182 118 246)) (uO u 14) (.n (uv7 u 142 78 206 46 174 110 238) (uO u 30) (uv7 u 158 94 222 62 190 126 254))))))) [] X (c + 1) ∧ hexF 0 l = hexF n0 (l.drop i)) := ⟨fun n s' => _, fun _ _ => Iff.rfl⟩
   refine wp_while I1 ?_ l.length _ ((hI1 _ _).2 ⟨0, 0, [none, none, _, _, _, _, _, _, none, none, none, none, none, none, _, _, _, _, _, _, _, _, _, _, _, _, _, _, _, _, _, _, _, _, _, _, _, _, _, _, _, _, _, _, _, _, _, _, _, _, _, _, _, _, _, _, _, _, _, _, _, _, _, _, _, _, _, _, _, _, _, _, _, _, _, _, _, _, _, _, _, _, _, _, _, _, _, _, _, _, _, _, _, _, _, _, _, _, _, none, none, none, _, _, _, _, _, _, _, _, _, _, _, _, _, _, _, _, _, _, _, _, _, _, _, _, _, _, _, _, _, _, _, _, _, _, _, _, _, _, _, _, _, _, _, _, _, _, _, _, _, _, _, _, _, _, _, _, _, _, _, _, _, _, _, _, _, _, _, _, _, _, _, _, _, _, _, _, _, _, _, _, _, _, _, _, _, _, _, _, _, _, _, _, _, _, _, _, _, _, _, _, _, _, _, _, _, _, _, _, _, _, _, _, _, _, _, _, _, _, _, _, _, _, _, _, _, _, _, _, _, _, _, _, _, _, _, _, _, _, _, _, _, _, _, _, _, _, _, _, _, _, _, _, _], rfl, Nat.zero_le _, by decide, rfl, by rw [List.drop_zero]⟩)
   intro n s' hIs
   obtain ⟨i, n0, u, rfl, hi, hn0, rfl, hv⟩ := (hI1 _ _).1 hIs
   clear hIs
   by_cases hlt : i < l.length
   · have d1 : decide ((i : Int) < (l.length : Int)) = true := decide_eq_true (by omega)
     obtain ⟨b1, o1, _, ia1, ld1⟩ := hsl.get i hlt
     have hx : l[i].toNat < 256 := UInt8.toNat_lt l[i]
     have hlow : Ev.h65 [.i .u8 (l[i].toNat : Int)] = some (.i .u8 ((l[i] ||| 32).toNat : Int)) := h65_eq l[i]
     have hy : (l[i] ||| 32).toNat < 256 := UInt8.toNat_lt _
     have hd : l.drop i = l[i] :: l.drop (i + 1) := List.drop_eq_getElem_cons hlt
     have hD : hexD l[i] = if 48 ≤ l[i].toNat ∧ l[i].toNat ≤ 57 then some (l[i].toNat - 48) else if 97 ≤ (l[i] ||| 32).toNat ∧ (l[i] ||| 32).toNat ≤ 122 ∧ (l[i] ||| 32).toNat - 97 + 10 < 16 then some ((l[i] ||| 32).toNat - 97 + 10) else none := rfl
     rw [hd, hexF] at hv
     generalize hexD l[i] = D at hv hD
     generalize (l[i] ||| 32).toNat = y at hlow hD hy
     generalize l[i].toNat = x at ld1 hx hlow hD
     have q8 : biV .add (.i .i64 (i : Int)) (.i .i64 1) = some (.i .i64 ((i + 1 : Nat) : Int)) := by rw [i64_add _ _ (by omega) (by omega)]; simp
     have w8 : IntKind.u8.wrap 16 = 16 := rfl
     have wx : IntKind.u64.wrap 16 = 16 := rfl
     have e5 : decide ((1152921504606846976 : Int) ≤ (n0 : Int)) = false := decide_eq_false (by omega)
     have m1 : biV .mul (.i .u64 (n0 : Int)) (.i .u64 16) = some (.i .u64 ((n0 * 16 : Nat) : Int)) := by rw [bi_mul, wrap_u64]; congr 2; omega
     have bad : D = none → ∀ e, ErrN e → ∃ (n : Nat) (e' : V), V.t [V.i .u64 0, e] = .t [.i .u64 (n : Int), e'] ∧ HexP l n ∧ ErrN e' ∧ Gr c M (c + 1) X := fun hD0 e he => ⟨0, e, rfl, ⟨by decide, fun m _ hm _ => by rw [hv, hD0] at hm; cases hm⟩, he, gX⟩
     have STEP : ∀ d : Nat, d < 256 → (d < 16 → D = some d) → (16 ≤ d → D = none) → ∀ u, Wp b40_74 (K Φ none 40 F) (.mk ((.n (.n (.n (.n (.n (uv7 u 127 63 191 31 159 95 223) (uO u 15) (uv7 u 143 79 207 47 175 111 239)) (uO u 7) (.n (uv7 u 135 71 199 39 167 103 231) (uO u 23) (uv7 u 151 87 215 55 183 119 247))) (uO u 3) (.n (.n (.n (uv3 u 131 67 195) (uO u 35) (.n (uv1 u 163) (some (.u c 0 l.length 0 l.length)) (uv1 u 227))) (uO u 19) (uv7 u 147 83 211 51 179 115 243)) (some (.i .u64 255)) (.n (uv7 u 139 75 203 43 171 107 235) (uO u 27) (uv7 u 155 91 219 59 187 123 251)))) (some (.i .i64 16)) (.n (.n (.n (uv7 u 129 65 193 33 161 97 225) (uO u 17) (uv7 u 145 81 209 49 177 113 241)) (some (sV l)) (.n (uv7 u 137 73 201 41 169 105 233) (uO u 25) (uv7 u 153 89 217 57 185 121 249))) (uO u 5) (.n (.n (.n (uv3 u 133 69 197) (uO u 37) (.n (uv1 u 165) (some (.i .i64 (i : Int))) (uv1 u 229))) (uO u 21) (uv7 u 149 85 213 53 181 117 245)) (some (.i .u64 (n0 : Int))) (.n (uv7 u 141 77 205 45 173 109 237) (uO u 29) (uv7 u 157 93 221 61 189 125 253))))) (some (sV l)) (.n (.n (.n (.n (uv7 u 128 64 192 32 160 96 224) (some (.i .u8 (d : Int))) (uv7 u 144 80 208 48 176 112 240)) (some (.b false)) (.n (uv7 u 136 72 200 40 168 104 232) (uO u 24) (uv7 u 152 88 216 56 184 120 248))) (uO u 4) (.n (.n (.n (uv3 u 132 68 196) (uO u 36) (.n (uv1 u 164) (some (.i .i64 (l.length : Int))) (uv1 u 228))) (uO u 20) (uv7 u 148 84 212 52 180 116 244)) (some (.b false)) (.n (uv7 u 140 76 204 44 172 108 236) (uO u 28) (uv7 u 156 92 220 60 188 124 252)))) (uO u 2) (.n (.n (.n (uv7 u 130 66 194 34 162 98 226) (uO u 18) (uv7 u 146 82 210 50 178 114 242)) (some (.i .u64 1152921504606846976)) (.n (uv7 u 138 74 202 42 170 106 234) (uO u 26) (uv7 u 154 90 218 58 186 122 250))) (uO u 6) (.n (.n (uv7 u 134 70 198 38 166 102 230) (uO u 22) (uv7 u 150 86 214 54 182 118 246)) (uO u 14) (.n (uv7 u 142 78 206 46 174 110 238) (uO u 30) (uv7 u 158 94 222 62 190 126 254))))))) [] X (c + 1)) (blockQ 4 (seqQ b40_76 (K Φ none 40 F) (roundQ I1 (l.length - i) (blockQ 3 (seqQ (.seq (.seq b40_78 b40_80) (.seq b40_81 .ret)) (K Φ none 40 F) (endQ F [.t (.r (.r .h)), .t (.l (.l (.l .h)))] fun r M' c' => ∃ (n : Nat) (e : V), r = .t [.i .u64 (n : Int), e] ∧ HexP l n ∧ ErrN e ∧ Gr c M c' M')))))) := by
      intro d hd256 hlo hhi u
      by_cases h16 : d < 16
      · have e4 : decide ((16 : Int) ≤ (d : Int)) = false := decide_eq_false (by omega)
        have wd : IntKind.u64.wrap (d : Int) = (d : Int) := by rw [wrap_u64]; omega
        have a1 : biV .add (.i .u64 ((n0 * 16 : Nat) : Int)) (.i .u64 (d : Int)) = some (.i .u64 ((n0 * 16 + d : Nat) : Int)) := by rw [bi_add, wrap_u64]; exact congrArg (fun z => some (V.i .u64 z)) (by omega)
        have e6 : decide (((n0 * 16 + d : Nat) : Int) < ((n0 * 16 : Nat) : Int)) = false := decide_eq_false (by omega)
        by_cases hov : n0 * 16 + d < 256
        · have e7 : decide ((255 : Int) < ((n0 * 16 + d : Nat) : Int)) = false := decide_eq_false (by omega)
          simp only [WX, Nat.reducePow, Nat.reduceDiv, Nat.reduceMod, Nat.reduceBEq, Nat.reduceEqDiff, Int.reduceEq, Int.reduceLT, Int.reduceLE, reduceIte, reduceCtorEq, Nat.reduceAdd, Nat.reduceLeDiff, wd_e1, B40, w8, e4, e5, wx, m1, wd, a1, e6, e7, q8]
          exact ⟨l.length - (i + 1), by omega, (hI1 _ _).2 ⟨i + 1, n0 * 16 + d, [none, none, _, _, _, _, _, _, none, none, none, none, none, none, _, _, _, _, _, _, _, _, _, _, _, _, _, _, _, _, _, _, _, _, _, _, _, _, _, _, _, _, _, _, _, _, _, _, _, _, _, _, _, _, _, _, _, _, _, _, _, _, _, _, _, _, _, _, _, _, _, _, _, _, _, _, _, _, _, _, _, _, _, _, _, _, _, _, _, _, _, _, _, _, _, _, _, _, _, none, none, none, _, _, _, _, _, _, _, _, _, _, _, _, _, _, _, _, _, _, _, _, _, _, _, _, _, _, _, _, _, _, _, _, _, _, _, _, _, _, _, _, _, _, _, _, _, _, _, _, _, _, _, _, _, _, _, _, _, _, _, _, _, _, _, _, _, _, _, _, _, _, _, _, _, _, _, _, _, _, _, _, _, _, _, _, _, _, _, _, _, _, _, _, _, _, _, _, _, _, _, _, _, _, _, _, _, _, _, _, _, _, _, _, _, _, _, _, _, _, _, _, _, _, _, _, _, _, _, _, _, _, _, _, _, _, _, _, _, _, _, _, _, _, _, _, _, _, _, _, _, _, _, _, _], rfl, by omega, hov, rfl, by rw [hv, hlo h16]; rfl⟩⟩
        · have e7 : decide ((255 : Int) < ((n0 * 16 + d : Nat) : Int)) = true := decide_eq_true (by omega)
          simp only [WX, Nat.reducePow, Nat.reduceDiv, Nat.reduceMod, Nat.reduceBEq, Nat.reduceEqDiff, Int.reduceEq, Int.reduceLT, Int.reduceLE, reduceIte, reduceCtorEq, Nat.reduceAdd, Nat.reduceLeDiff, wd_e1, B40, w8, e4, e5, wx, m1, wd, a1, e6, e7, v_mki]
          refine ⟨255, _, rfl, ⟨by decide, fun m _ hm hm2 => ?_⟩, .inr (.inl rfl), gX⟩
          rw [hv, hlo h16] at hm
          have := hexF_le _ _ _ hm
          omega
      · have e4 : decide ((16 : Int) ≤ (d : Int)) = true := decide_eq_true (by omega)
        simp only [WX, Nat.reducePow, Nat.reduceDiv, Nat.reduceMod, Nat.reduceBEq, Nat.reduceEqDiff, Int.reduceEq, Int.reduceLT, Int.reduceLE, reduceIte, reduceCtorEq, Nat.reduceAdd, Nat.reduceLeDiff, wd_e1, B40, w8, e4, v_mki]
        exact bad (hhi (by omega)) _ (.inr (.inr rfl))
     by_cases hA : 48 ≤ x ∧ x ≤ 57
     · have e1 : decide ((x : Int) = 95) = false := decide_eq_false (by omega)
       have e2 : decide ((48 : Int) ≤ (x : Int)) = true := decide_eq_true (by omega)
       have e3 : decide ((x : Int) ≤ 57) = true := decide_eq_true (by omega)
       have s1 : biV .sub (.i .u8 (x : Int)) (.i .u8 48) = some (.i .u8 ((x - 48 : Nat) : Int)) := by rw [bi_sub, wrap_u8]; congr 2; omega
       rw [if_pos hA] at hD
       simp only [WX, Nat.reducePow, Nat.reduceDiv, Nat.reduceMod, Nat.reduceBEq, Nat.reduceEqDiff, Int.reduceEq, Int.reduceLT, Int.reduceLE, reduceIte, reduceCtorEq, Nat.reduceAdd, Nat.reduceLeDiff, wd_e1, e40, w40_1, w40_2, w40_3, w40_4, w40_5, w40_6, w40_7, w40_8, w40_9, w40_10, w40_11, w40_12, w40_13, w40_14, w40_15, w40_16, w40_17, w40_18, w40_19, w40_20, w40_21, w40_22, w40_23, w40_24, w40_25, w40_26, w40_27, w40_28, w40_29, w40_30, w40_31, w40_32, w40_33, w40_34, w40_35, w40_36, w40_37, w40_38, w40_39, w40_40, w40_41, w40_42, w40_43, w40_44, w40_45, w40_46, w40_47, w40_48, w40_49, w40_50, w40_51, w40_52, w40_53, w40_54, w40_55, w40_56, w40_57, w40_58, w40_59, w40_60, w40_61, w40_62, w40_63, w40_64, w40_65, w40_66, w40_67, w40_68, w40_69, w40_70, w40_71, w40_72, w40_73, w40_75, w40_76, w40_77, w40_78, w40_79, w40_80, w40_81, w40_82, w40_83, w40_84, d1, ia1, ld1, e1, e2, e3, s1]
       exact STEP (x - 48) (by omega) (fun _ => hD) (fun h => by omega) [none, none, _, _, _, _, _, _, none, none, none, none, none, none, _, _, none, _, _, _, _, _, _, _, _, _, _, _, _, _, _, _, _, _, _, _, _, _, _, _, _, _, _, _, _, _, _, _, _, _, _, _, _, _, _, _, _, _, _, _, _, _, _, _, _, _, _, _, _, _, _, _, _, _, _, _, _, _, _, _, _, _, _, _, _, _, _, _, _, _, _, _, _, _, _, _, _, _, _, none, none, none, _, _, _, _, _, _, _, _, _, _, _, _, _, _, _, _, _, _, _, _, _, _, _, _, _, _, _, _, _, _, _, _, _, _, _, _, _, _, _, _, _, _, _, _, _, _, _, _, _, _, _, _, _, _, _, _, _, _, _, _, _, _, _, _, _, _, _, _, _, _, _, _, _, _, _, _, _, _, _, _, _, _, _, _, _, _, _, _, _, _, _, _, _, _, _, _, _, _, _, _, _, _, _, _, _, _, _, _, _, _, _, _, _, _, _, _, _, _, _, _, _, _, _, _, _, _, _, _, _, _, _, _, _, _, _, _, _, _, _, _, _, _, _, _, _, _, _, _, _, _, _, _, _]
     · rw [if_neg hA] at hD
       have GO : ∀ u, Wp b40_55 (K Φ none 40 F) (.mk ((.n (.n (.n (.n (.n (uv7 u 127 63 191 31 159 95 223) (some (.i .u8 (x : Int))) (uv7 u 143 79 207 47 175 111 239)) (uO u 7) (.n (uv7 u 135 71 199 39 167 103 231) (uO u 23) (uv7 u 151 87 215 55 183 119 247))) (uO u 3) (.n (.n (.n (uv3 u 131 67 195) (uO u 35) (.n (uv1 u 163) (some (.u c 0 l.length 0 l.length)) (uv1 u 227))) (uO u 19) (uv7 u 147 83 211 51 179 115 243)) (some (.i .u64 255)) (.n (uv7 u 139 75 203 43 171 107 235) (uO u 27) (uv7 u 155 91 219 59 187 123 251)))) (some (.i .i64 16)) (.n (.n (.n (uv7 u 129 65 193 33 161 97 225) (uO u 17) (uv7 u 145 81 209 49 177 113 241)) (some (sV l)) (.n (uv7 u 137 73 201 41 169 105 233) (uO u 25) (uv7 u 153 89 217 57 185 121 249))) (uO u 5) (.n (.n (.n (uv3 u 133 69 197) (uO u 37) (.n (uv1 u 165) (some (.i .i64 (i : Int))) (uv1 u 229))) (uO u 21) (uv7 u 149 85 213 53 181 117 245)) (some (.i .u64 (n0 : Int))) (.n (uv7 u 141 77 205 45 173 109 237) (uO u 29) (uv7 u 157 93 221 61 189 125 253))))) (some (sV l)) (.n (.n (.n (.n (uv7 u 128 64 192 32 160 96 224) (uO u 16) (uv7 u 144 80 208 48 176 112 240)) (some (.b false)) (.n (uv7 u 136 72 200 40 168 104 232) (uO u 24) (uv7 u 152 88 216 56 184 120 248))) (uO u 4) (.n (.n (.n (uv3 u 132 68 196) (uO u 36) (.n (uv1 u 164) (some (.i .i64 (l.length : Int))) (uv1 u 228))) (uO u 20) (uv7 u 148 84 212 52 180 116 244)) (some (.b false)) (.n (uv7 u 140 76 204 44 172 108 236) (uO u 28) (uv7 u 156 92 220 60 188 124 252)))) (uO u 2) (.n (.n (.n (uv7 u 130 66 194 34 162 98 226) (uO u 18) (uv7 u 146 82 210 50 178 114 242)) (some (.i .u64 1152921504606846976)) (.n (uv7 u 138 74 202 42 170 106 234) (uO u 26) (uv7 u 154 90 218 58 186 122 250))) (uO u 6) (.n (.n (uv7 u 134 70 198 38 166 102 230) (uO u 22) (uv7 u 150 86 214 54 182 118 246)) (uO u 14) (.n (uv7 u 142 78 206 46 174 110 238) (uO u 30) (uv7 u 158 94 222 62 190 126 254))))))) [] X (c + 1)) (seqQ b40_58 (K Φ none 40 F) (blockQ 5 (seqQ b40_74 (K Φ none 40 F) (blockQ 4 (seqQ b40_76 (K Φ none 40 F) (roundQ I1 (l.length - i) (blockQ 3 (seqQ (.seq (.seq b40_78 b40_80) (.seq b40_81 .ret)) (K Φ none 40 F) (endQ F [.t (.r (.r .h)), .t (.l (.l (.l .h)))] fun r M' c' => ∃ (n : Nat) (e : V), r = .t [.i .u64 (n : Int), e] ∧ HexP l n ∧ ErrN e ∧ Gr c M c' M'))))))))) := by
        intro u
        cases hy1 : decide ((97 : Int) ≤ (y : Int)) with
        | false =>
          have hD0 : D = none := by rw [hD, if_neg]; rintro ⟨h1, _⟩; exact absurd (decide_eq_true (show (97 : Int) ≤ (y : Int) by omega)) (by rw [hy1]; decide)
          simp only [WX, Nat.reducePow, Nat.reduceDiv, Nat.reduceMod, Nat.reduceBEq, Nat.reduceEqDiff, Int.reduceEq, Int.reduceLT, Int.reduceLE, reduceIte, reduceCtorEq, Nat.reduceAdd, Nat.reduceLeDiff, wd_e1, e40, w40_1, w40_2, w40_3, w40_4, w40_5, w40_6, w40_7, w40_8, w40_9, w40_10, w40_11, w40_12, w40_13, w40_14, w40_15, w40_16, w40_17, w40_18, w40_19, w40_20, w40_21, w40_22, w40_23, w40_24, w40_25, w40_26, w40_27, w40_28, w40_29, w40_30, w40_31, w40_32, w40_33, w40_34, w40_35, w40_36, w40_37, w40_38, w40_39, w40_40, w40_41, w40_42, w40_43, w40_44, w40_45, w40_46, w40_47, w40_48, w40_49, w40_50, w40_51, w40_52, w40_53, w40_54, w40_55, w40_56, w40_57, w40_58, w40_59, w40_60, w40_61, w40_62, w40_63, w40_64, w40_65, w40_66, w40_67, w40_68, w40_69, w40_70, w40_71, w40_72, w40_73, w40_75, w40_76, w40_77, w40_78, w40_79, w40_80, w40_81, w40_82, w40_83, w40_84, h65, hlow, hy1, v_mki]
          exact bad hD0 _ (.inr (.inr rfl))
        | true =>
          have g1 := of_decide_eq_true hy1
          cases hy2 : decide ((y : Int) ≤ 122) with
          | false =>
            have hD0 : D = none := by rw [hD, if_neg]; rintro ⟨_, h1, _⟩; exact absurd (decide_eq_true (show (y : Int) ≤ 122 by omega)) (by rw [hy2]; decide)
            simp only [WX, Nat.reducePow, Nat.reduceDiv, Nat.reduceMod, Nat.reduceBEq, Nat.reduceEqDiff, Int.reduceEq, Int.reduceLT, Int.reduceLE, reduceIte, reduceCtorEq, Nat.reduceAdd, Nat.reduceLeDiff, wd_e1, e40, w40_1, w40_2, w40_3, w40_4, w40_5, w40_6, w40_7, w40_8, w40_9, w40_10, w40_11, w40_12, w40_13, w40_14, w40_15, w40_16, w40_17, w40_18, w40_19, w40_20, w40_21, w40_22, w40_23, w40_24, w40_25, w40_26, w40_27, w40_28, w40_29, w40_30, w40_31, w40_32, w40_33, w40_34, w40_35, w40_36, w40_37, w40_38, w40_39, w40_40, w40_41, w40_42, w40_43, w40_44, w40_45, w40_46, w40_47, w40_48, w40_49, w40_50, w40_51, w40_52, w40_53, w40_54, w40_55, w40_56, w40_57, w40_58, w40_59, w40_60, w40_61, w40_62, w40_63, w40_64, w40_65, w40_66, w40_67, w40_68, w40_69, w40_70, w40_71, w40_72, w40_73, w40_75, w40_76, w40_77, w40_78, w40_79, w40_80, w40_81, w40_82, w40_83, w40_84, h65, hlow, hy1, hy2, v_mki]
            exact bad hD0 _ (.inr (.inr rfl))
          | true =>
            have g2 := of_decide_eq_true hy2
            have s1 : biV .sub (.i .u8 (y : Int)) (.i .u8 97) = some (.i .u8 ((y - 97 : Nat) : Int)) := by rw [bi_sub, wrap_u8]; congr 2; omega
            have a1 : biV .add (.i .u8 ((y - 97 : Nat) : Int)) (.i .u8 10) = some (.i .u8 ((y - 97 + 10 : Nat) : Int)) := by rw [bi_add, wrap_u8]; congr 2; omega
            simp only [WX, Nat.reducePow, Nat.reduceDiv, Nat.reduceMod, Nat.reduceBEq, Nat.reduceEqDiff, Int.reduceEq, Int.reduceLT, Int.reduceLE, reduceIte, reduceCtorEq, Nat.reduceAdd, Nat.reduceLeDiff, wd_e1, e40, w40_1, w40_2, w40_3, w40_4, w40_5, w40_6, w40_7, w40_8, w40_9, w40_10, w40_11, w40_12, w40_13, w40_14, w40_15, w40_16, w40_17, w40_18, w40_19, w40_20, w40_21, w40_22, w40_23, w40_24, w40_25, w40_26, w40_27, w40_28, w40_29, w40_30, w40_31, w40_32, w40_33, w40_34, w40_35, w40_36, w40_37, w40_38, w40_39, w40_40, w40_41, w40_42, w40_43, w40_44, w40_45, w40_46, w40_47, w40_48, w40_49, w40_50, w40_51, w40_52, w40_53, w40_54, w40_55, w40_56, w40_57, w40_58, w40_59, w40_60, w40_61, w40_62, w40_63, w40_64, w40_65, w40_66, w40_67, w40_68, w40_69, w40_70, w40_71, w40_72, w40_73, w40_75, w40_76, w40_77, w40_78, w40_79, w40_80, w40_81, w40_82, w40_83, w40_84, h65, hlow, hy1, hy2, s1, a1]
            exact STEP (y - 97 + 10) (by omega) (fun h => by rw [hD, if_pos ⟨by omega, by omega, h⟩]) (fun h => by rw [hD, if_neg]; rintro ⟨_, _, h3⟩; omega) [none, none, _, _, _, _, _, _, none, none, none, none, none, none, _, _, none, _, _, _, _, _, _, _, _, _, _, _, _, _, _, _, _, _, _, _, _, _, _, _, _, _, _, _, _, _, _, _, _, _, _, _, _, _, _, _, _, _, _, _, _, _, _, _, _, _, _, _, _, _, _, _, _, _, _, _, _, _, _, _, _, _, _, _, _, _, _, _, _, _, _, _, _, _, _, _, _, _, _, none, none, none, _, _, _, _, _, _, _, _, _, _, _, _, _, _, _, _, _, _, _, _, _, _, _, _, _, _, _, _, _, _, _, _, _, _, _, _, _, _, _, _, _, _, _, _, _, _, _, _, _, _, _, _, _, _, _, _, _, _, _, _, _, _, _, _, _, _, _, _, _, _, _, _, _, _, _, _, _, _, _, _, _, _, _, _, _, _, _, _, _, _, _, _, _, _, _, _, _, _, _, _, _, _, _, _, _, _, _, _, _, _, _, _, _, _, _, _, _, _, _, _, _, _, _, _, _, _, _, _, _, _, _, _, _, _, _, _, _, _, _, _, _, _, _, _, _, _, _, _, _, _, _, _, _]
       have e3 : decide ((48 : Int) ≤ (x : Int)) = true ∧ decide ((x : Int) ≤ 57) = false ∨ decide ((48 : Int) ≤ (x : Int)) = false := by
        by_cases g : 48 ≤ x
        · exact .inl ⟨decide_eq_true (by omega), decide_eq_false (fun h => hA ⟨g, by omega⟩)⟩
        · exact .inr (decide_eq_false (by omega))
       cases hp : decide ((x : Int) = 95) <;> rcases e3 with ⟨e3, e4⟩ | e3
       · simp only [WX, Nat.reducePow, Nat.reduceDiv, Nat.reduceMod, Nat.reduceBEq, Nat.reduceEqDiff, Int.reduceEq, Int.reduceLT, Int.reduceLE, reduceIte, reduceCtorEq, Nat.reduceAdd, Nat.reduceLeDiff, wd_e1, e40, w40_1, w40_2, w40_3, w40_4, w40_5, w40_6, w40_7, w40_8, w40_9, w40_10, w40_11, w40_12, w40_13, w40_14, w40_15, w40_16, w40_17, w40_18, w40_19, w40_20, w40_21, w40_22, w40_23, w40_24, w40_25, w40_26, w40_27, w40_28, w40_29, w40_30, w40_31, w40_32, w40_33, w40_34, w40_35, w40_36, w40_37, w40_38, w40_39, w40_40, w40_41, w40_42, w40_43, w40_44, w40_45, w40_46, w40_47, w40_48, w40_49, w40_50, w40_51, w40_52, w40_53, w40_54, w40_56, w40_57, w40_59, w40_60, w40_61, w40_62, w40_63, w40_64, w40_65, w40_66, w40_67, w40_68, w40_69, w40_70, w40_71, w40_72, w40_73, w40_75, w40_76, w40_77, w40_78, w40_79, w40_80, w40_81, w40_82, w40_83, w40_84, d1, ia1, ld1, hp, e3, e4]
         exact GO [none, none, _, _, _, _, _, _, none, none, none, none, none, none, _, none, _, _, _, _, _, _, _, _, _, _, _, _, _, _, _, _, _, _, _, _, _, _, _, _, _, _, _, _, _, _, _, _, _, _, _, _, _, _, _, _, _, _, _, _, _, _, _, _, _, _, _, _, _, _, _, _, _, _, _, _, _, _, _, _, _, _, _, _, _, _, _, _, _, _, _, _, _, _, _, _, _, _, _, none, none, none, _, _, _, _, _, _, _, _, _, _, _, _, _, _, _, _, _, _, _, _, _, _, _, _, _, _, _, _, _, _, _, _, _, _, _, _, _, _, _, _, _, _, _, _, _, _, _, _, _, _, _, _, _, _, _, _, _, _, _, _, _, _, _, _, _, _, _, _, _, _, _, _, _, _, _, _, _, _, _, _, _, _, _, _, _, _, _, _, _, _, _, _, _, _, _, _, _, _, _, _, _, _, _, _, _, _, _, _, _, _, _, _, _, _, _, _, _, _, _, _, _, _, _, _, _, _, _, _, _, _, _, _, _, _, _, _, _, _, _, _, _, _, _, _, _, _, _, _, _, _, _, _, _]
       · simp only [WX, Nat.reducePow, Nat.reduceDiv, Nat.reduceMod, Nat.reduceBEq, Nat.reduceEqDiff, Int.reduceEq, Int.reduceLT, Int.reduceLE, reduceIte, reduceCtorEq, Nat.reduceAdd, Nat.reduceLeDiff, wd_e1, e40, w40_1, w40_2, w40_3, w40_4, w40_5, w40_6, w40_7, w40_8, w40_9, w40_10, w40_11, w40_12, w40_13, w40_14, w40_15, w40_16, w40_17, w40_18, w40_19, w40_20, w40_21, w40_22, w40_23, w40_24, w40_25, w40_26, w40_27, w40_28, w40_29, w40_30, w40_31, w40_32, w40_33, w40_34, w40_35, w40_36, w40_37, w40_38, w40_39, w40_40, w40_41, w40_42, w40_43, w40_44, w40_45, w40_46, w40_47, w40_48, w40_49, w40_50, w40_51, w40_52, w40_53, w40_54, w40_56, w40_57, w40_59, w40_60, w40_61, w40_62, w40_63, w40_64, w40_65, w40_66, w40_67, w40_68, w40_69, w40_70, w40_71, w40_72, w40_73, w40_75, w40_76, w40_77, w40_78, w40_79, w40_80, w40_81, w40_82, w40_83, w40_84, d1, ia1, ld1, hp, e3]
         exact GO [none, none, _, _, _, _, _, _, none, none, none, none, none, none, _, none, _, _, _, _, _, _, _, _, _, _, _, _, _, _, _, _, _, _, _, _, _, _, _, _, _, _, _, _, _, _, _, _, _, _, _, _, _, _, _, _, _, _, _, _, _, _, _, _, _, _, _, _, _, _, _, _, _, _, _, _, _, _, _, _, _, _, _, _, _, _, _, _, _, _, _, _, _, _, _, _, _, _, _, none, none, none, _, _, _, _, _, _, _, _, _, _, _, _, _, _, _, _, _, _, _, _, _, _, _, _, _, _, _, _, _, _, _, _, _, _, _, _, _, _, _, _, _, _, _, _, _, _, _, _, _, _, _, _, _, _, _, _, _, _, _, _, _, _, _, _, _, _, _, _, _, _, _, _, _, _, _, _, _, _, _, _, _, _, _, _, _, _, _, _, _, _, _, _, _, _, _, _, _, _, _, _, _, _, _, _, _, _, _, _, _, _, _, _, _, _, _, _, _, _, _, _, _, _, _, _, _, _, _, _, _, _, _, _, _, _, _, _, _, _, _, _, _, _, _, _, _, _, _, _, _, _, _, _, _]
       · simp only [WX, Nat.reducePow, Nat.reduceDiv, Nat.reduceMod, Nat.reduceBEq, Nat.reduceEqDiff, Int.reduceEq, Int.reduceLT, Int.reduceLE, reduceIte, reduceCtorEq, Nat.reduceAdd, Nat.reduceLeDiff, wd_e1, e40, w40_1, w40_2, w40_3, w40_4, w40_5, w40_6, w40_7, w40_8, w40_9, w40_10, w40_11, w40_12, w40_13, w40_14, w40_15, w40_16, w40_17, w40_18, w40_19, w40_20, w40_21, w40_22, w40_23, w40_24, w40_25, w40_26, w40_27, w40_28, w40_29, w40_30, w40_31, w40_32, w40_33, w40_34, w40_35, w40_36, w40_37, w40_38, w40_39, w40_40, w40_41, w40_42, w40_43, w40_44, w40_45, w40_46, w40_47, w40_48, w40_49, w40_50, w40_51, w40_52, w40_53, w40_54, w40_56, w40_57, w40_59, w40_60, w40_61, w40_62, w40_63, w40_64, w40_65, w40_66, w40_67, w40_68, w40_69, w40_70, w40_71, w40_72, w40_73, w40_75, w40_76, w40_77, w40_78, w40_79, w40_80, w40_81, w40_82, w40_83, w40_84, d1, ia1, ld1, hp, e3, e4]
         exact GO [none, none, _, _, _, _, _, _, none, none, none, none, none, none, _, none, _, _, _, _, _, _, _, _, _, _, _, _, _, _, _, _, _, _, _, _, _, _, _, _, _, _, _, _, _, _, _, _, _, _, _, _, _, _, _, _, _, _, _, _, _, _, _, _, _, _, _, _, _, _, _, _, _, _, _, _, _, _, _, _, _, _, _, _, _, _, _, _, _, _, _, _, _, _, _, _, _, _, _, none, none, none, _, _, _, _, _, _, _, _, _, _, _, _, _, _, _, _, _, _, _, _, _, _, _, _, _, _, _, _, _, _, _, _, _, _, _, _, _, _, _, _, _, _, _, _, _, _, _, _, _, _, _, _, _, _, _, _, _, _, _, _, _, _, _, _, _, _, _, _, _, _, _, _, _, _, _, _, _, _, _, _, _, _, _, _, _, _, _, _, _, _, _, _, _, _, _, _, _, _, _, _, _, _, _, _, _, _, _, _, _, _, _, _, _, _, _, _, _, _, _, _, _, _, _, _, _, _, _, _, _, _, _, _, _, _, _, _, _, _, _, _, _, _, _, _, _, _, _, _, _, _, _, _, _]
       · simp only [WX, Nat.reducePow, Nat.reduceDiv, Nat.reduceMod, Nat.reduceBEq, Nat.reduceEqDiff, Int.reduceEq, Int.reduceLT, Int.reduceLE, reduceIte, reduceCtorEq, Nat.reduceAdd, Nat.reduceLeDiff, wd_e1, e40, w40_1, w40_2, w40_3, w40_4, w40_5, w40_6, w40_7, w40_8, w40_9, w40_10, w40_11, w40_12, w40_13, w40_14, w40_15, w40_16, w40_17, w40_18, w40_19, w40_20, w40_21, w40_22, w40_23, w40_24, w40_25, w40_26, w40_27, w40_28, w40_29, w40_30, w40_31, w40_32, w40_33, w40_34, w40_35, w40_36, w40_37, w40_38, w40_39, w40_40, w40_41, w40_42, w40_43, w40_44, w40_45, w40_46, w40_47, w40_48, w40_49, w40_50, w40_51, w40_52, w40_53, w40_54, w40_56, w40_57, w40_59, w40_60, w40_61, w40_62, w40_63, w40_64, w40_65, w40_66, w40_67, w40_68, w40_69, w40_70, w40_71, w40_72, w40_73, w40_75, w40_76, w40_77, w40_78, w40_79, w40_80, w40_81, w40_82, w40_83, w40_84, d1, ia1, ld1, hp, e3]
         exact GO [none, none, _, _, _, _, _, _, none, none, none, none, none, none, _, none, _, _, _, _, _, _, _, _, _, _, _, _, _, _, _, _, _, _, _, _, _, _, _, _, _, _, _, _, _, _, _, _, _, _, _, _, _, _, _, _, _, _, _, _, _, _, _, _, _, _, _, _, _, _, _, _, _, _, _, _, _, _, _, _, _, _, _, _, _, _, _, _, _, _, _, _, _, _, _, _, _, _, _, none, none, none, _, _, _, _, _, _, _, _, _, _, _, _, _, _, _, _, _, _, _, _, _, _, _, _, _, _, _, _, _, _, _, _, _, _, _, _, _, _, _, _, _, _, _, _, _, _, _, _, _, _, _, _, _, _, _, _, _, _, _, _, _, _, _, _, _, _, _, _, _, _, _, _, _, _, _, _, _, _, _, _, _, _, _, _, _, _, _, _, _, _, _, _, _, _, _, _, _, _, _, _, _, _, _, _, _, _, _, _, _, _, _, _, _, _, _, _, _, _, _, _, _, _, _, _, _, _, _, _, _, _, _, _, _, _, _, _, _, _, _, _, _, _, _, _, _, _, _, _, _, _, _, _, _]
   · have d1 : decide ((i : Int) < (l.length : Int)) = false := decide_eq_false (by omega)
     simp only [WX, Nat.reducePow, Nat.reduceDiv, Nat.reduceMod, Nat.reduceBEq, Nat.reduceEqDiff, Int.reduceEq, Int.reduceLT, Int.reduceLE, reduceIte, reduceCtorEq, Nat.reduceAdd, Nat.reduceLeDiff, wd_e1, B40, d1]
     refine ⟨n0, _, rfl, ⟨hn0, fun m _ hm _ => ?_⟩, .inl rfl, gX⟩
     obtain rfl : i = l.length := by omega
     rw [hv, List.drop_length] at hm
     exact Option.some.inj hm
def b18_1 : CC := (.reg [(qq a6 (.mv (.c (.i .u64 0)))), (qq a7 (.mv (.c .a0)))])
def b18_2 : CC := (.reg [(qq a11 (.mv z0)), (qq a12 (.mv z1)), (qq a13 (.mv z2)), (ee a14 (.call 40 [z11, z12, z13])), (qq a10 (.mv z14)), (qq a15 (.ex 0 z10)), (qq a16 (.ex 1 z10)), (qq a8 (.mv z15)), (qq a9 (.mv z16))])
def b18_3 : CC := (.reg [(qq a17 (.mv z9)), (qq a18 (.eq true .iface true z17 (.c .a0)))])
def b18_4 : CC := (.reg [(qq a19 (.mv z8)), (qq a20 (.mv z0)), (qq a21 (.mv z1)), (qq a22 (.mv z2)), (qq a23 (.mv z9)), (ee a24 (.call 41 [(.c (.s 9 2147778296661251613008)), z20, z21, z22, z23])), (qq a6 (.mv z19)), (qq a7 (.mv z24))])
def b18_5 : CC := (.seq b18_3 (.cond z18 (.seq b18_4 .ret) .skip))
def b18_6 : CC := (.reg [(qq a25 (.mv z8)), (qq a6 (.mv z25)), (qq a7 (.mv (.c .a0)))])
def c18 : CF := .mk 5 [.t a6, .t a7] (.seq b18_1 (.seq b18_2 (.seq b18_5 (.seq b18_6 .ret))))
theorem e18 (v0 v1 v2 : V) : argTr 5 [v0, v1, v2] = (.n (.n sk3 (some v1) sk3) (some v0) (.n sk3 (some v2) sk3)) := rfl
def B18 := ai @e18 (ai (wu b18_1.eq_1) (ai (wu b18_2.eq_1) (ai (wu b18_3.eq_1) (ai (wu b18_4.eq_1) (ai (wu b18_5.eq_1) (wu b18_6.eq_1))))))
theorem r18 (Φ : Nat → Option CF) (h : Φ 18 = some c18) (h40 : Φ 40 = some c40) (h65 : Φ 65 = some (.orc (pureO h65))) (h41 : Φ 41 = some c41) (h67 : Φ 67 = some c67) (h68 : Φ 68 = some c68) (h106 : Φ 106 = some (.orc (pureO h106)))
  {F : RO} {M : Mem} {c : Nat} (ok : Okm F M c) (hE1 : ErrVar F 1) (hE2 : ErrVar F 2) (hlow : ∀ g, g < 1000 → M.get g = none) (l : List UInt8) (hl : l.length ≤ 1000000) :
  Calls Φ F 18 [sV l, .i .i64 16, .i .i64 8] M c fun r M' c' => ∃ (n : Nat) (e : V), r = .t [.i .u64 (n : Int), e] ∧ HexP l n ∧ Gr c M c' M' := by
 refine calls_walk h ?_
 simp only [WX, Nat.reducePow, Nat.reduceDiv, Nat.reduceMod, Nat.reduceBEq, Nat.reduceEqDiff, Int.reduceEq, Int.reduceLT, Int.reduceLE, reduceIte, reduceCtorEq, Nat.reduceAdd, Nat.reduceLeDiff, wd_e1, B18]
 refine putE_to ((r40 Φ h40 h65 ok l hl).mono ?_)
 rintro r M1 c1 ⟨n, e, rfl, hn, he, hg⟩
 have ok1 := hg.ok ok
 have hg1 : M1.get 1 = none := by rw [hg.old 1 (by have := ok.ge; omega)]; exact hlow 1 (by omega)
 have hg2 : M1.get 2 = none := by rw [hg.old 2 (by have := ok.ge; omega)]; exact hlow 2 (by omega)
 rcases he with rfl | he
 · simp only [WX, Nat.reducePow, Nat.reduceDiv, Nat.reduceMod, Nat.reduceBEq, Nat.reduceEqDiff, Int.reduceEq, Int.reduceLT, Int.reduceLE, reduceIte, reduceCtorEq, Nat.reduceAdd, Nat.reduceLeDiff, wd_e1, B18, eqV_if0]
   exact ⟨n, _, rfl, hn, hg⟩
 · have hne : eqV F M1 .iface true e .a0 = some false := by rcases he with rfl | rfl <;> exact eqV_ifa _ _ _ _
   simp only [WX, Nat.reducePow, Nat.reduceDiv, Nat.reduceMod, Nat.reduceBEq, Nat.reduceEqDiff, Int.reduceEq, Int.reduceLT, Int.reduceLE, reduceIte, reduceCtorEq, Nat.reduceAdd, Nat.reduceLeDiff, wd_e1, B18, hne]
   refine putE_to ((r41 (f := [80, 97, 114, 115, 101, 85, 105, 110, 116]) Φ h41 h67 h68 h106 ok1 hE1 hg1 hE2 hg2 l hl e he _ _).mono ?_)
   rintro r M2 c2 ⟨⟨b, rfl⟩, hg3⟩
   simp only [WX, Nat.reducePow, Nat.reduceDiv, Nat.reduceMod, Nat.reduceBEq, Nat.reduceEqDiff, Int.reduceEq, Int.reduceLT, Int.reduceLE, reduceIte, reduceCtorEq, Nat.reduceAdd, Nat.reduceLeDiff, wd_e1, B18]
   exact ⟨n, _, rfl, hn, hg.trans hg3⟩
theorem hex_val : ∀ n, n < 16 → hexD (hexB n) = some n := by decide +kernel
theorem hexF_pair (a b : Nat) (ha : a < 16) (hb : b < 16) : hexF 0 [hexB a, hexB b] = some (a * 16 + b) := by
 unfold hexF
 rw [hex_val a ha]
 show hexF (0 * 16 + a) [hexB b] = _
 unfold hexF
 rw [hex_val b hb]
 show hexF ((0 * 16 + a) * 16 + b) [] = _
 unfold hexF
 congr 1; omega
theorem escB_37 {c x : UInt8} {r : List UInt8} (h : escB c = x :: r) : (x ≠ 37 ∧ r = [] ∧ x = c) ∨ (x = 37 ∧ r = [hexB (c.toNat / 16), hexB (c.toNat % 16)]) := by
 unfold escB at h
 split at h
 · rename_i hp
   injection h with h1 h2
   subst h1
   exact .inl ⟨fun e => hp.2.2 (by rw [e]; rfl), h2.symm, rfl⟩
 · injection h with h1 h2
   exact .inr ⟨h1.symm, h2.symm⟩
theorem esc_nil {t : List UInt8} (h : t.flatMap escB = []) : t = [] := by
 cases t with
 | nil => rfl
 | cons c r =>
   have := esc_len c
   rw [List.flatMap_cons] at h
   have := congrArg List.length h
   rw [List.length_append, List.length_nil] at this; omega
theorem hexB_inj : ∀ a, a < 16 → ∀ b, b < 16 → hexB a = hexB b → a = b := by decide +kernel
theorem escB_inj {a b : UInt8} {r r' : List UInt8} (h : escB a ++ r = escB b ++ r') : a = b ∧ r = r' := by
 have ha : ∃ x q, escB a = x :: q := by unfold escB; split <;> exact ⟨_, _, rfl⟩
 have hb : ∃ x q, escB b = x :: q := by unfold escB; split <;> exact ⟨_, _, rfl⟩
 obtain ⟨x, q, ea⟩ := ha
 obtain ⟨y, p, eb⟩ := hb
 rw [ea, eb, List.cons_append, List.cons_append] at h
 injection h with h1 h2
 subst h1
 rcases escB_37 ea with ⟨n1, rfl, rfl⟩ | ⟨e1, rfl⟩ <;> rcases escB_37 eb with ⟨n2, rfl, rfl⟩ | ⟨e2, rfl⟩
 · exact ⟨rfl, h2⟩
 · exact absurd e2 n1
 · exact absurd e1 n2
 · simp only [List.cons_append, List.nil_append] at h2
   injection h2 with g1 g2
   injection g2 with g2 g3
   have la := UInt8.toNat_lt a
   have lb := UInt8.toNat_lt b
   have k1 := hexB_inj _ (by omega) _ (by omega) g1
   have k2 := hexB_inj _ (by omega) _ (by omega) g2
   exact ⟨UInt8.toNat_inj.1 (by omega), g3⟩
theorem escs_inj : ∀ {s t : List UInt8}, s.flatMap escB = t.flatMap escB → s = t
 | [], t, h => (esc_nil h.symm).symm
 | c :: r, [], h => esc_nil h
 | c :: r, d :: q, h => by
   rw [List.flatMap_cons, List.flatMap_cons] at h
   obtain ⟨h1, h2⟩ := escB_inj h
   rw [h1, escs_inj h2]
theorem word_ne {t : List UInt8} (h : t ≠ []) : t.flatMap escB ≠ [37] := by
 intro e
 cases t with
 | nil => exact h rfl
 | cons c r =>
   rw [List.flatMap_cons] at e
   have hc : ∃ x q, escB c = x :: q := by unfold escB; split <;> exact ⟨_, _, rfl⟩
   obtain ⟨x, q, ec⟩ := hc
   rw [ec, List.cons_append] at e
   injection e with e1 e2
   rcases escB_37 ec with ⟨n1, _, _⟩ | ⟨_, rfl⟩
   · exact n1 e1
   · cases e2
theorem wordB_inj {s t : List UInt8} (h : wordB s = wordB t) : s = t := by
 unfold wordB at h
 split at h <;> split at h
 · rename_i h1 h2; rw [h1, h2]
 · rename_i h1 h2; exact absurd h.symm (word_ne h2)
 · rename_i h1 h2; exact absurd h (word_ne h1)
 · exact escs_inj h
def UnP (s : List UInt8) (r : V) : Prop := (∃ t, wordB t = s ∧ t.length ≤ s.length ∧ r = .t [sV t, .i .i64 0]) ∨ ((∀ t, wordB t ≠ s) ∧ r = .t [.s 0 0, .i .i64 4])
theorem un_uniq {s : List UInt8} {r r' : V} (h : UnP s r) (h' : UnP s r') : r = r' := by
 rcases h with ⟨t, h1, _, rfl⟩ | ⟨h1, rfl⟩ <;> rcases h' with ⟨t', h2, _, rfl⟩ | ⟨h2, rfl⟩
 · rw [wordB_inj (h1.trans h2.symm)]
 · exact absurd h1 (h2 t)
 · exact absurd h2 (h1 t')
 · rfl
theorem un_word {s : List UInt8} {r : V} (h : UnP (wordB s) r) : r = .t [sV s, .i .i64 0] := by
 rcases h with ⟨t, h1, _, rfl⟩ | ⟨h1, _⟩
 · rw [wordB_inj h1]
 · exact absurd rfl (h1 s)
def b7_1 : CC := (.reg [(qq a2 (.mv (.c (.s 0 0)))), (qq a3 (.mv (x6 0)))])
def b7_2 : CC := (.reg [(qq a5 (.mv (x6 0)))])
def b7_3 : CC := (.reg [(qq a8 (.mv z5)), (qq a9 (.mv z0)), (qq a10 (.ln .str z9)), (qq a11 (.bi .lss z8 z10))])
def b7_4 : CC := (.reg [(qq a14 (.mv z0)), (qq a15 (.mv z5)), (qq a16 (.ixS z14 z15)), (qq a17 (.bi .neq z16 (.c (.i .u8 37))))])
def b7_5 : CC := (.reg [(qq a18 (.mv z4)), (qq a19 (.mv z0)), (qq a20 (.mv z5)), (qq a21 (.ixS z19 z20)), (aa a22 (.bsl 5 1 1 [(.i .u8 0)] [(0, z21)])), (ee a23 (.app 5 1 1 z18 z22)), (qq a4 (.mv z23))])
def b7_6 : CC := (.cond z17 (.seq b7_5 (.exit 1)) .skip)
def b7_7 : CC := (.reg [(qq a25 (.mv z0)), (qq a26 (.mv z5)), (qq a27 (.bi .add z26 (x6 1))), (qq a28 (.mv z5)), (qq a29 (.bi .add z28 (x6 3))), (qq a30 (.mv z0)), (qq a31 (.ln .str z30)), (qq a32 (.mn false z29 [z31])), (qq a33 (.slS z25 (some z27) (some z32))), (ee a34 (.call 18 [z33, (x6 16), (x6 8)])), (qq a24 (.mv z34)), (qq a35 (.ex 0 z24)), (qq a36 (.ex 1 z24)), (qq a6 (.mv z35)), (qq a7 (.mv z36))])
def b7_8 : CC := (.reg [(qq a37 (.mv z0)), (qq a38 (.bi .neq z37 (.c (.s 1 37))))])
def b7_9 : CC := (.reg [(qq a39 (.mv z4)), (qq a40 (.mv z6)), (qq a41 (.ci .u8 z40)), (aa a42 (.bsl 5 1 1 [(.i .u8 0)] [(0, z41)])), (ee a43 (.app 5 1 1 z39 z42)), (qq a4 (.mv z43))])
def b7_10 : CC := (.seq b7_8 (.cond z38 b7_9 .skip))
def b7_11 : CC := (.reg [(qq a44 (.mv z5)), (qq a45 (.bi .add z44 (x6 2))), (qq a5 (.mv z45))])
def b7_12 : CC := (.block 1 (.seq (.seq b7_4 b7_6) (.seq b7_7 (.seq b7_10 b7_11))))
def b7_13 : CC := (.reg [(qq a12 (.mv z5)), (qq a13 (.bi .add z12 (x6 1))), (qq a5 (.mv z13))])
def b7_14 : CC := (.seq (.seq b7_3 (.cond z11 .skip (.exit 0))) (.seq b7_12 b7_13))
def b7_15 : CC := (.reg [(qq a46 (.mv z4)), (qq a47 (.bs z46)), (ee a48 (.call 9 [z47])), (qq a49 (.mv z0)), (qq a50 (.bi .neq z48 z49))])
def b7_16 : CC := (.reg [(qq a2 (.mv (.c (.s 0 0)))), (qq a3 (.mv (x6 4)))])
def b7_17 : CC := (.cond z50 (.seq b7_16 .ret) .skip)
def b7_18 : CC := (.reg [(qq a51 (.mv z4)), (qq a52 (.bs z51)), (qq a2 (.mv z52)), (qq a3 (.mv (x6 0)))])
def b7_19 : CC := (.seq (.seq b7_2 (.block 0 (.loop b7_14))) (.seq (.seq b7_15 b7_17) (.seq b7_18 .ret)))
def b7_20 : CC := (.seq (.reg [(qq a4 (.mv (.c .l0)))]) b7_19)
def c7 : CF := .mk 6 [.t a2, .t a3] (.seq b7_1 b7_20)
theorem e7 (v0 : V) : argTr 6 [v0] = (.n sk5 (some v0) sk5) := rfl
def B7 := ai @e7 (ai (wu b7_1.eq_1) (ai (wu b7_2.eq_1) (ai (wu b7_3.eq_1) (ai (wu b7_4.eq_1) (ai (wu b7_5.eq_1) (ai (wu b7_6.eq_1) (ai (wu b7_7.eq_1) (ai (wu b7_8.eq_1) (ai (wu b7_9.eq_1) (ai (wu b7_10.eq_1) (ai (wu b7_11.eq_1) (ai (wu b7_12.eq_1) (ai (wu b7_13.eq_1) (ai (wu b7_14.eq_1) (ai (wu b7_15.eq_1) (ai (wu b7_16.eq_1) (ai (wu b7_17.eq_1) (ai (wu b7_18.eq_1) (ai (wu b7_19.eq_1) (wu b7_20.eq_1))))))))))))))))))))
def h9 : List V → Option V
 | [v] => (asS v).bind fun l => if l.length ≤ 1000000 then some (sV (wordB l)) else none
 | _ => none
theorem h9_eq (l : List UInt8) (hl : l.length ≤ 1000000) : h9 [sV l] = some (sV (wordB l)) := by
 show (asS (sV l)).bind (fun l => if l.length ≤ 1000000 then some (sV (wordB l)) else none) = _
 rw [asS_s, Option.bind_some]; exact if_pos hl
def minE (mx : Bool) (v w : V) : Option V := match minV mx v w with | some v => some v | none => none
theorem v_mn2 {F : RO} (mx : Bool) (x y : X) (M : Mem) (t : T) : (qop (.mn mx x [y]) F M t).val = minE mx (x.ev t) (y.ev t) := by
 show (qr (minAll mx t (x.ev t) [y])).val = _
 show (qr (match minV mx (x.ev t) (y.ev t) with | some v => some v | none => none)).val = _
 unfold minE
 cases minV mx (x.ev t) (y.ev t) <;> rfl
theorem min_i64 (a b : Nat) : minE false (.i .i64 (a : Int)) (.i .i64 (b : Int)) = some (.i .i64 ((min a b : Nat) : Int)) := by
 unfold minE
 have : minV false (.i .i64 (a : Int)) (.i .i64 (b : Int)) = some (.i .i64 ((min a b : Nat) : Int)) := by
  show (fI (bif ltI (b : Int) (a : Int) then (b : Int) else (a : Int)) fun n => some (V.i .i64 n)) = _
  rw [show ltI (b : Int) (a : Int) = decide (b < a) by show Nat.blt b a = _; rw [bltN]]
  by_cases h : b < a
  · rw [decide_eq_true h, cond_true, fI_eq, Nat.min_eq_right (by omega)]
  · rw [decide_eq_false h, cond_false, fI_eq, Nat.min_eq_left (by omega)]
 rw [this]
theorem word_len (t : List UInt8) : t.length ≤ (wordB t).length := by
 unfold wordB
 split
 · rename_i h; rw [h]; exact Nat.zero_le _
 · have : ∀ t : List UInt8, t.length ≤ (t.flatMap escB).length := by
    intro t
    induction t with
    | nil => exact Nat.le_refl _
    | cons c r ih =>
      have := esc_len c
      rw [List.flatMap_cons, List.length_append, List.length_cons]; omega
   exact this t
def Pre (s B : List UInt8) (i : Nat) : Prop := ∀ t, t ≠ [] → t.flatMap escB = s → ∃ j, B = t.take j ∧ s.drop i = (t.drop j).flatMap escB
theorem pre_next {s B : List UInt8} {i : Nat} (h : Pre s B i) (hlt : i < s.length) {t : List UInt8} (ht : t ≠ []) (e : t.flatMap escB = s) : ∃ c r j, B = t.take j ∧ t.take (j + 1) = B ++ [c] ∧ t.drop (j + 1) = r ∧ s.drop i = escB c ++ r.flatMap escB := by
 obtain ⟨j, h1, h2⟩ := h t ht e
 have hd : s.drop i = s[i] :: s.drop (i + 1) := List.drop_eq_getElem_cons hlt
 have hj : j < t.length := by
  by_cases hj : j < t.length
  · exact hj
  · rw [hd, List.drop_eq_nil_of_le (show t.length ≤ j by omega)] at h2; cases h2
 refine ⟨t[j], t.drop (j + 1), j, h1, ?_, rfl, ?_⟩
 · rw [List.take_succ_eq_append_getElem hj, ← h1]
 · rw [h2, List.drop_eq_getElem_cons hj, List.flatMap_cons]
theorem pre_plain {s B : List UInt8} {i : Nat} (h : Pre s B i) (hlt : i < s.length) (hc : s[i] ≠ 37) : Pre s (B ++ [s[i]]) (i + 1) := by
 intro t ht e
 obtain ⟨c, r, j, h1, h2, h3, h4⟩ := pre_next h hlt ht e
 have hd : s.drop i = s[i] :: s.drop (i + 1) := List.drop_eq_getElem_cons hlt
 obtain ⟨x, q, ec⟩ : ∃ x q, escB c = x :: q := by unfold escB; split <;> exact ⟨_, _, rfl⟩
 rw [hd, ec, List.cons_append] at h4
 injection h4 with g1 g2
 rcases escB_37 ec with ⟨_, rfl, rfl⟩ | ⟨e1, _⟩
 · exact ⟨j + 1, by rw [h2, g1], by rw [g2, h3]; rfl⟩
 · exact absurd (g1.trans e1) hc
theorem pre_hex {s B : List UInt8} {i : Nat} (h : Pre s B i) (hlt : i < s.length) (hc : s[i] = 37) {n : Nat} (hn : HexP ((s.take (min (i + 3) s.length)).drop (i + 1)) n) : Pre s (B ++ [UInt8.ofNat n]) (i + 3) := by
 intro t ht e
 obtain ⟨c, r, j, h1, h2, h3, h4⟩ := pre_next h hlt ht e
 have hd : s.drop i = s[i] :: s.drop (i + 1) := List.drop_eq_getElem_cons hlt
 obtain ⟨x, q, ec⟩ : ∃ x q, escB c = x :: q := by unfold escB; split <;> exact ⟨_, _, rfl⟩
 have h4' := h4
 rw [hd, ec, List.cons_append] at h4
 injection h4 with g1 g2
 rcases escB_37 ec with ⟨n1, _, _⟩ | ⟨_, rfl⟩
 · exact absurd (g1.symm.trans hc) n1
 · have hl := congrArg List.length g2
   rw [List.length_drop, List.length_append] at hl
   simp only [List.length_cons, List.length_nil] at hl
   have hsl : (s.take (min (i + 3) s.length)).drop (i + 1) = [hexB (c.toNat / 16), hexB (c.toNat % 16)] := by
    rw [Nat.min_eq_left (by omega), List.drop_take, g2, show i + 3 - (i + 1) = 2 by omega]; rfl
   have hc256 := UInt8.toNat_lt c
   rw [hsl] at hn
   have := hn.2 _ (by simp) (hexF_pair _ _ (by omega) (by omega)) (by omega)
   have hcn : UInt8.ofNat n = c := by rw [this, show c.toNat / 16 * 16 + c.toNat % 16 = c.toNat by omega, UInt8.ofNat_toNat]
   refine ⟨j + 1, by rw [h2, hcn], ?_⟩
   have : s.drop (i + 3) = (s.drop (i + 1)).drop 2 := by rw [List.drop_drop]
   rw [this, g2, h3]; rfl
theorem pre_end {s B : List UInt8} {i : Nat} (h : Pre s B i) (hi : s.length ≤ i) {t : List UInt8} (ht : t ≠ []) (e : t.flatMap escB = s) : B = t := by
 obtain ⟨j, h1, h2⟩ := h t ht e
 rw [List.drop_eq_nil_of_le hi] at h2
 have := esc_nil h2.symm
 rw [h1, List.take_of_length_le (by rw [List.drop_eq_nil_iff] at this; exact this)]
theorem r7 (Φ : Nat → Option CF) (h : Φ 7 = some c7) (h9 : Φ 9 = some (.orc (pureO h9))) (h18 : Φ 18 = some c18) (h40 : Φ 40 = some c40) (h65 : Φ 65 = some (.orc (pureO h65))) (h41 : Φ 41 = some c41) (h67 : Φ 67 = some c67) (h68 : Φ 68 = some c68) (h106 : Φ 106 = some (.orc (pureO h106)))
  {F : RO} {M : Mem} {c : Nat} (ok : Okm F M c) (hE1 : ErrVar F 1) (hE2 : ErrVar F 2) (hlow : ∀ g, g < 1000 → M.get g = none) (s : List UInt8) (hs : s.length ≤ 900000) :
  Calls Φ F 7 [sV s] M c fun r M' c' => UnP s r ∧ Gr c M c' M' := by
 refine calls_walk h ?_
 have fb : ∀ x, flatten (bV x) = [bV x] := fun _ => rfl
 have ob : ∀ x, isOne (bV x) = true := fun _ => rfl
 simp only [WX, Nat.reducePow, Nat.reduceDiv, Nat.reduceMod, Nat.reduceBEq, Nat.reduceEqDiff, Int.reduceEq, Int.reduceLT, Int.reduceLE, reduceIte, reduceCtorEq, Nat.reduceAdd, Nat.reduceLeDiff, wd_e1, B7]
 obtain ⟨I1, hI1⟩ : ∃ I : Nat → St → Prop, ∀ n s', I n s' ↔ (∃ (i : Nat) (v : V) (M1 : Mem) (c1 b1 : Nat) (B : List UInt8) (u : List (Option V)), n = s.length + 3 - i ∧ i ≤ s.length + 2 ∧ s' = .mk ((.n (.n (.n (uv7 u 31 15 47 7 39 23 55) (uO u 3) (uv7 u 35 19 51 11 43 27 59)) (uO u 1) (.n (uv7 u 33 17 49 9 41 25 57) (some (.i .i64 (i : Int))) (uv7 u 37 21 53 13 45 29 61))) (some (sV s)) (.n (.n (uv7 u 32 16 48 8 40 24 56) (some (v)) (uv7 u 36 20 52 12 44 28 60)) (uO u 2) (.n (uv7 u 34 18 50 10 42 26 58) (uO u 6) (uv7 u 38 22 54 14 46 30 62))))) [] M1 c1 ∧ Gr c M c1 M1 ∧ AccAt M1 c c1 b1 5 1 v (bE B) ∧ B.length ≤ i ∧ (s = [37] → B = []) ∧ Pre s B i) := ⟨fun n s' => _, fun _ _ => Iff.rfl⟩
 refine wp_while I1 ?_ (s.length + 3) _ ((hI1 _ _).2 ⟨0, .l0, M, c, 0, [], [none, _, _, _, none, none, _, _, _, _, _, _, _, _, _, _, _, _, _, _, _, _, _, _, _, _, _, _, _, _, _, _, _, _, _, _, _, _, _, _, _, _, _, _, _, _, _, _, _, _, _, _, _, _, _, _, _, _, _, _, _, _, _], rfl, Nat.zero_le _, rfl, Gr.refl ok, AccAt.nil, Nat.le_refl _, fun _ => rfl, fun t ht e => ⟨0, rfl, by rw [List.drop_zero, List.drop_zero, e]⟩⟩)
 intro n s' hIs
 obtain ⟨i, v, M1, c1, b1, B, u, rfl, hi, rfl, gr1, hA, hB, hB0, hP⟩ := (hI1 _ _).1 hIs
 clear hIs
 have ok1 := gr1.ok ok
 have q8 : ∀ k : Nat, k ≤ 1000000 → biV .add (.i .i64 (k : Int)) (.i .i64 1) = some (.i .i64 ((k + 1 : Nat) : Int)) := fun k hk => by rw [i64_add _ _ (by omega) (by omega)]; simp
 have qq8 := q8 i (by omega)
 by_cases hlt : i < s.length
 · have d1 : decide ((i : Int) < (s.length : Int)) = true := decide_eq_true (by omega)
   have hix : ixSV (sV s) (.i .i64 (i : Int)) = some (bV s[i]) := ixSs s .i64 i hlt
   have hixn : bV s[i] = .i .u8 ((s[i]).toNat : Int) := rfl
   by_cases hc : s[i] = 37
   · have d2 : decide (((s[i]).toNat : Int) ≠ 37) = false := decide_eq_false (fun e => e (by rw [hc]; rfl))
     rw [hixn] at hix
     have q3 : biV .add (.i .i64 (i : Int)) (.i .i64 3) = some (.i .i64 ((i + 3 : Nat) : Int)) := by rw [i64_add _ _ (by omega) (by omega)]; simp
     have q2 : biV .add (.i .i64 (i : Int)) (.i .i64 2) = some (.i .i64 ((i + 2 : Nat) : Int)) := by rw [i64_add _ _ (by omega) (by omega)]; simp
     have qq3 := q8 (i + 2) (by omega)
     have hmn := min_i64 (i + 3) s.length
     have hsl := sl_lh s .i64 .i64 (i + 1) (min (i + 3) s.length) (by omega) (by omega)
     have q37 : biV .neq (sV s) (.s 1 37) = some (.b !decide (s = [37])) := bi_sne s [37]
     simp only [WX, Nat.reducePow, Nat.reduceDiv, Nat.reduceMod, Nat.reduceBEq, Nat.reduceEqDiff, Int.reduceEq, Int.reduceLT, Int.reduceLE, reduceIte, reduceCtorEq, Nat.reduceAdd, Nat.reduceLeDiff, wd_e1, B7, lnSs, d1, hix, d2, qq8, q3, v_mn2, hmn, hsl]
     refine putE_to ((r18 Φ h18 h40 h65 h41 h67 h68 h106 ok1 hE1 hE2 (fun g hg => by rw [gr1.old g (by have := ok.ge; omega)]; exact hlow g hg) _ (by simp; omega)).mono ?_)
     rintro r M2 c2 ⟨n, e, rfl, hn, hg⟩
     have gr2 := gr1.trans hg
     have hA2 := hA.gr hg
     by_cases h37 : s = [37]
     · rw [decide_eq_true h37] at q37
       simp only [WX, Nat.reducePow, Nat.reduceDiv, Nat.reduceMod, Nat.reduceBEq, Nat.reduceEqDiff, Int.reduceEq, Int.reduceLT, Int.reduceLE, reduceIte, reduceCtorEq, Nat.reduceAdd, Nat.reduceLeDiff, wd_e1, B7, q37, q2, qq3]
       refine ⟨s.length + 3 - (i + 3), by omega, (hI1 _ _).2 ⟨i + 3, v, M2, c2, b1, B, [none, _, _, _, none, none, _, _, _, _, _, _, _, _, _, _, _, _, _, _, _, _, _, _, _, _, _, _, _, _, _, _, _, _, _, _, _, _, _, _, _, _, _, _, _, _, _, _, _, _, _, _, _, _, _, _, _, _, _, _, _, _, _], rfl, by omega, rfl, gr2, hA2, by omega, hB0, ?_⟩⟩
       intro t ht e
       exact absurd (e.trans h37) (word_ne ht)
     · rw [decide_eq_false h37] at q37
       have wn : IntKind.u8.wrap (n : Int) = (((UInt8.ofNat n).toNat : Nat) : Int) := by rw [wrap_u8, UInt8.toNat_ofNat']; omega
       simp only [WX, Nat.reducePow, Nat.reduceDiv, Nat.reduceMod, Nat.reduceBEq, Nat.reduceEqDiff, Int.reduceEq, Int.reduceLT, Int.reduceLE, reduceIte, reduceCtorEq, Nat.reduceAdd, Nat.reduceLeDiff, wd_e1, B7, q37, wn]
       have grY := gr2.set c2 (rowD [V.i .u8 0] 5 [V.i .u8 (((UInt8.ofNat n).toNat : Nat) : Int)]) gr2.le (Nat.lt_succ_self _) (Nat.le_succ _)
       have hy : SlAt F (M2.set c2 (rowD [V.i .u8 0] 5 [V.i .u8 (((UInt8.ofNat n).toNat : Nat) : Int)])) (c2 + 1) 1 (.l c2 0 1 1) (bE [UInt8.ofNat n]) := slD (d := [V.i .u8 0]) (ty := 5) (by rw [get_same]; rfl) (by omega) (fun e he => by obtain ⟨x, _, rfl⟩ := List.mem_map.1 he; rfl) rfl
       refine putE_to ((appV_to (bytes := 1) (hA2.up (show c2 ≤ c2 + 1 by omega) (fun hx => get_ne _ _ (by omega))) grY Nat.one_pos hy rfl (room_of (by rw [beL, beL, List.length_singleton]; omega) (by rw [beL, beL, List.length_singleton]; omega))).mono ?_)
       rintro v' M3 c3 ⟨b3, hA3, gr3, hle3, _, _⟩
       simp only [WX, Nat.reducePow, Nat.reduceDiv, Nat.reduceMod, Nat.reduceBEq, Nat.reduceEqDiff, Int.reduceEq, Int.reduceLT, Int.reduceLE, reduceIte, reduceCtorEq, Nat.reduceAdd, Nat.reduceLeDiff, wd_e1, B7, q2, qq3]
       refine ⟨s.length + 3 - (i + 3), by omega, (hI1 _ _).2 ⟨i + 3, v', M3, c3, b3, B ++ [UInt8.ofNat n], [none, _, _, _, none, none, _, _, _, _, _, _, _, _, _, _, _, _, _, _, _, _, _, _, _, _, _, _, _, _, _, _, _, _, _, _, _, _, _, _, _, _, _, _, _, _, _, _, _, _, _, _, _, _, _, _, _, _, _, _, _, _, _], rfl, by omega, rfl, gr3, by rw [bE_app]; exact hA3, by simp; omega, fun hh => absurd hh h37, pre_hex hP hlt hc hn⟩⟩
   · have d2 : decide (((s[i]).toNat : Int) ≠ 37) = true := decide_eq_true (fun e => hc (UInt8.toNat_inj.1 (by rw [show (37 : UInt8).toNat = 37 from rfl]; omega)))
     rw [hixn] at hix
     simp only [WX, Nat.reducePow, Nat.reduceDiv, Nat.reduceMod, Nat.reduceBEq, Nat.reduceEqDiff, Int.reduceEq, Int.reduceLT, Int.reduceLE, reduceIte, reduceCtorEq, Nat.reduceAdd, Nat.reduceLeDiff, wd_e1, B7, lnSs, d1, hix, d2]
     have grY := gr1.set c1 (rowD [V.i .u8 0] 5 [V.i .u8 ((s[i]).toNat : Int)]) gr1.le (Nat.lt_succ_self _) (Nat.le_succ _)
     have hy : SlAt F (M1.set c1 (rowD [V.i .u8 0] 5 [V.i .u8 ((s[i]).toNat : Int)])) (c1 + 1) 1 (.l c1 0 1 1) (bE [s[i]]) := slD (d := [V.i .u8 0]) (ty := 5) (by rw [get_same]; rfl) (by omega) (fun e he => by obtain ⟨x, _, rfl⟩ := List.mem_map.1 he; rfl) rfl
     refine putE_to ((appV_to (bytes := 1) (hA.up (show c1 ≤ c1 + 1 by omega) (fun hx => get_ne _ _ (by omega))) grY Nat.one_pos hy rfl (room_of (by rw [beL, beL, List.length_singleton]; omega) (by rw [beL, beL, List.length_singleton]; omega))).mono ?_)
     rintro v' M3 c3 ⟨b3, hA3, gr3, hle3, _, _⟩
     simp only [WX, Nat.reducePow, Nat.reduceDiv, Nat.reduceMod, Nat.reduceBEq, Nat.reduceEqDiff, Int.reduceEq, Int.reduceLT, Int.reduceLE, reduceIte, reduceCtorEq, Nat.reduceAdd, Nat.reduceLeDiff, wd_e1, B7, qq8]
     refine ⟨s.length + 3 - (i + 1), by omega, (hI1 _ _).2 ⟨i + 1, v', M3, c3, b3, B ++ [s[i]], [none, _, _, _, none, none, _, _, _, _, _, _, _, _, _, _, _, _, _, _, _, _, _, _, _, _, _, _, _, _, _, _, _, _, _, _, _, _, _, _, _, _, _, _, _, _, _, _, _, _, _, _, _, _, _, _, _, _, _, _, _, _, _], rfl, by omega, rfl, gr3, by rw [bE_app]; exact hA3, by simp; omega, ?_, pre_plain hP hlt hc⟩⟩
     intro hh
     subst hh
     have : i = 0 := by simp at hlt; exact hlt
     subst this
     exact absurd rfl hc
 · have d1 : decide ((i : Int) < (s.length : Int)) = false := decide_eq_false (by omega)
   have hsb : bsV F M1 v = some (sV B) := bs_of hA.sl
   have qn : biV .neq (sV (wordB B)) (sV s) = some (.b !decide (wordB B = s)) := bi_sne _ _
   by_cases hw : wordB B = s
   · rw [decide_eq_true hw] at qn
     simp only [WX, Nat.reducePow, Nat.reduceDiv, Nat.reduceMod, Nat.reduceBEq, Nat.reduceEqDiff, Int.reduceEq, Int.reduceLT, Int.reduceLE, reduceIte, reduceCtorEq, Nat.reduceAdd, Nat.reduceLeDiff, wd_e1, B7, lnSs, d1, hsb, h9, h9_eq B (by omega), qn]
     exact ⟨.inl ⟨B, hw, by rw [← hw]; exact word_len B, rfl⟩, gr1⟩
   · rw [decide_eq_false hw] at qn
     simp only [WX, Nat.reducePow, Nat.reduceDiv, Nat.reduceMod, Nat.reduceBEq, Nat.reduceEqDiff, Int.reduceEq, Int.reduceLT, Int.reduceLE, reduceIte, reduceCtorEq, Nat.reduceAdd, Nat.reduceLeDiff, wd_e1, B7, lnSs, d1, hsb, h9, h9_eq B (by omega), qn]
     refine ⟨.inr ⟨fun t e => ?_, rfl⟩, gr1⟩
     by_cases ht : t = []
     · subst ht
       have h37 : s = [37] := e.symm
       exact hw (by rw [hB0 h37, h37]; rfl)
     · have e2 : t.flatMap escB = s := by rw [← e]; exact (if_neg ht).symm
       have := pre_end hP (by omega) ht e2
       exact hw (by rw [this]; exact e)
def b19_1 : CC := (.reg [(qq a3 (.mv z0)), (qq a4 (.bi .geq z3 (.c (.i .u8 48)))), (qq a5 (.mv z4)), ⟨(some a6), .q (.mv z0), (some (a5, true))⟩, ⟨(some a7), .q (.bi .leq z6 (.c (.i .u8 57))), (some (a5, true))⟩, (qq a8 (.pk z5 z7 xF))])
def b19_2 : CC := (.reg [(qq a9 (.mv z0)), (qq a10 (.bi .sub z9 (.c (.i .u8 48)))), (qq a2 (.mv z10))])
def b19_3 : CC := (.seq b19_1 (.cond z8 (.seq b19_2 .ret) .skip))
def b19_4 : CC := (.reg [(qq a11 (.mv z0)), (qq a12 (.bi .geq z11 (.c (.i .u8 65)))), (qq a13 (.mv z12)), ⟨(some a14), .q (.mv z0), (some (a13, true))⟩, ⟨(some a15), .q (.bi .leq z14 (.c (.i .u8 70))), (some (a13, true))⟩, (qq a16 (.pk z13 z15 xF))])
def b19_5 : CC := (.reg [(qq a17 (.mv z0)), (qq a18 (.bi .sub z17 (.c (.i .u8 65)))), (qq a19 (.bi .add z18 (.c (.i .u8 10)))), (qq a2 (.mv z19))])
def b19_6 : CC := (.seq b19_4 (.cond z16 (.seq b19_5 .ret) .skip))
def b19_7 : CC := (.seq (.reg [(qq a2 (.mv (.c (.i .u8 16))))]) .ret)
def b19_8 : CC := (.seq (.reg [(qq a2 (.mv (.c (.i .u8 0))))]) (.seq b19_3 (.seq b19_6 b19_7)))
def c19 : CF := .mk 5 [.t a2] b19_8
theorem e19 (v0 : V) : argTr 5 [v0] = (.n sk4 (some v0) sk4) := rfl
def B19 := ai @e19 (ai (wu b19_1.eq_1) (ai (wu b19_2.eq_1) (ai (wu b19_3.eq_1) (ai (wu b19_4.eq_1) (ai (wu b19_5.eq_1) (ai (wu b19_6.eq_1) (ai (wu b19_7.eq_1) (wu b19_8.eq_1))))))))
def b8_1 : CC := (.reg [(qq a2 (.mv (.c (.s 0 0)))), (qq a3 (.mv (x6 0)))])
def b8_2 : CC := (.reg [(qq a6 (.mv z0)), (qq a7 (.bi .eql z6 (.c (.s 1 37))))])
def b8_3 : CC := (.reg [(qq a2 (.mv (.c (.s 0 0)))), (qq a3 (.mv (x6 0)))])
def b8_4 : CC := (.seq b8_2 (.cond z7 (.seq b8_3 .ret) .skip))
def b8_5 : CC := (.reg [(qq a5 (.mv (x6 0)))])
def b8_6 : CC := (.reg [(qq a8 (.mv z5)), (qq a9 (.mv z0)), (qq a10 (.ln .str z9)), (qq a11 (.bi .lss z8 z10))])
def b8_7 : CC := (.reg [(qq a14 (.mv z0)), (qq a15 (.mv z5)), (qq a16 (.ixS z14 z15)), (qq a17 (.bi .neq z16 (.c (.i .u8 37))))])
def b8_8 : CC := (.reg [(qq a18 (.mv z4)), (qq a19 (.mv z0)), (qq a20 (.mv z5)), (qq a21 (.ixS z19 z20)), (aa a22 (.bsl 5 1 1 [(.i .u8 0)] [(0, z21)])), (ee a23 (.app 5 1 1 z18 z22)), (qq a4 (.mv z23))])
def b8_9 : CC := (.cond z17 (.seq b8_8 (.exit 1)) .skip)
def b8_10 : CC := (.dreg 35 [(0, 0, (qq a24 (.mv z5))), (1, 1, (qq a25 (.bi .add z24 (x6 2)))), (2, 0, (qq a26 (.mv z0))), (3, 4, (qq a27 (.ln .str z26))), (4, 15, (qq a28 (.bi .geq z25 z27))), (5, 31, (qq a29 (.mv z28))), (6, 63, ⟨(some a30), .q (.mv z0), (some (a29, false))⟩), (7, 63, ⟨(some a31), .q (.mv z5), (some (a29, false))⟩), (8, 191, ⟨(some a32), .q (.bi .add z31 (x6 1)), (some (a29, false))⟩), (9, 511, ⟨(some a33), .q (.ixS z30 z32), (some (a29, false))⟩), (11, 63, ⟨(some a35), .q (.mv z0), (some (a29, false))⟩), (12, 63, ⟨(some a36), .q (.mv z5), (some (a29, false))⟩), (13, 4159, ⟨(some a37), .q (.bi .add z36 (x6 2)), (some (a29, false))⟩), (14, 14399, ⟨(some a38), .q (.ixS z35 z37), (some (a29, false))⟩), (10, 1023, ⟨(some a34), .e (.call 19 [z33]), (some (a29, false))⟩), (15, 32767, ⟨(some a39), .e (.call 19 [z38]), (some (a29, false))⟩), (16, 65535, ⟨(some a40), .q (.bi .add z34 z39), (some (a29, false))⟩), (17, 131071, ⟨(some a41), .q (.bi .gtr z40 (.c (.i .u8 30))), (some (a29, false))⟩), (18, 262143, (qq a42 (.pk z29 xT z41))), (19, 524287, (qq a43 (.mv z42))), (20, 1048575, ⟨(some a44), .q (.mv z0), (some (a43, false))⟩), (21, 1048575, ⟨(some a45), .q (.mv z5), (some (a43, false))⟩), (22, 3145727, ⟨(some a46), .q (.bi .add z45 (x6 1)), (some (a43, false))⟩), (23, 8388607, ⟨(some a47), .q (.ixS z44 z46), (some (a43, false))⟩), (24, 16777215, ⟨(some a48), .e (.call 19 [z47]), (some (a43, false))⟩), (25, 33554431, ⟨(some a49), .q (.bi .gtr z48 (.c (.i .u8 15))), (some (a43, false))⟩), (26, 67108863, (qq a50 (.pk z43 xT z49))), (27, 134217727, (qq a51 (.mv z50))), (28, 268435455, ⟨(some a52), .q (.mv z0), (some (a51, false))⟩), (29, 268435455, ⟨(some a53), .q (.mv z5), (some (a51, false))⟩), (30, 805306367, ⟨(some a54), .q (.bi .add z53 (x6 2)), (some (a51, false))⟩), (31, 2147483647, ⟨(some a55), .q (.ixS z52 z54), (some (a51, false))⟩), (32, 4294967295, ⟨(some a56), .e (.call 19 [z55]), (some (a51, false))⟩), (33, 8589934591, ⟨(some a57), .q (.bi .gtr z56 (.c (.i .u8 15))), (some (a51, false))⟩), (34, 17179869183, (qq a58 (.pk z51 xT z57)))])
def b8_11 : CC := (.reg [(qq a2 (.mv (.c (.s 0 0)))), (qq a3 (.mv (x6 4)))])
def b8_12 : CC := (.cond z58 (.seq b8_11 .ret) .skip)
def b8_13 : CC := (.dreg 16 [(0, 0, (qq a59 (.mv z4))), (1, 0, (qq a60 (.mv z0))), (2, 0, (qq a61 (.mv z5))), (3, 4, (qq a62 (.bi .add z61 (x6 1)))), (4, 14, (qq a63 (.ixS z60 z62))), (7, 0, (qq a66 (.mv z0))), (8, 0, (qq a67 (.mv z5))), (9, 256, (qq a68 (.bi .add z67 (x6 2)))), (10, 896, (qq a69 (.ixS z66 z68))), (5, 30, (ee a64 (.call 19 [z63]))), (6, 62, (qq a65 (.bi .mul z64 (.c (.i .u8 16))))), (11, 1982, (ee a70 (.call 19 [z69]))), (12, 4094, (qq a71 (.bi .add z65 z70))), (13, 8190, (aa a72 (.bsl 5 1 1 [(.i .u8 0)] [(0, z71)]))), (14, 16383, (ee a73 (.app 5 1 1 z59 z72))), (15, 32767, (qq a4 (.mv z73)))])
def b8_14 : CC := (.reg [(qq a74 (.mv z5)), (qq a75 (.bi .add z74 (x6 2))), (qq a5 (.mv z75))])
def b8_15 : CC := (.seq (.seq b8_7 b8_9) (.seq (.seq b8_10 b8_12) (.seq b8_13 b8_14)))
def b8_16 : CC := (.reg [(qq a12 (.mv z5)), (qq a13 (.bi .add z12 (x6 1))), (qq a5 (.mv z13))])
def b8_17 : CC := (.seq (.seq b8_6 (.cond z11 .skip (.exit 0))) (.seq (.block 1 b8_15) b8_16))
def b8_18 : CC := (.reg [(qq a76 (.mv z4)), (qq a77 (.ln .slice z76)), (qq a78 (.bi .eql z77 (x6 0))), (qq a79 (.mv z78)), ⟨(some a80), .q (.mv z4), (some (a79, false))⟩, ⟨(some a81), .q (.bs z80), (some (a79, false))⟩, ⟨(some a82), .e (.call 13 [z81]), (some (a79, false))⟩, ⟨(some a83), .q (.mv z0), (some (a79, false))⟩, ⟨(some a84), .q (.bi .neq z82 z83), (some (a79, false))⟩, (qq a85 (.pk z79 xT z84))])
def b8_19 : CC := (.reg [(qq a2 (.mv (.c (.s 0 0)))), (qq a3 (.mv (x6 4)))])
def b8_20 : CC := (.cond z85 (.seq b8_19 .ret) .skip)
def b8_21 : CC := (.reg [(qq a86 (.mv z4)), (qq a87 (.bs z86)), (qq a2 (.mv z87)), (qq a3 (.mv (x6 0)))])
def b8_22 : CC := (.seq (.seq b8_5 (.block 0 (.loop b8_17))) (.seq (.seq b8_18 b8_20) (.seq b8_21 .ret)))
def b8_23 : CC := (.seq (.reg [(qq a4 (.mv (.c .l0)))]) b8_22)
def c8 : CF := .mk 7 [.t a2, .t a3] (.seq b8_1 (.seq b8_4 b8_23))
theorem e8 (v0 : V) : argTr 7 [v0] = (.n sk6 (some v0) sk6) := rfl
def B8 := ai @e8 (ai (wu b8_1.eq_1) (ai (wu b8_2.eq_1) (ai (wu b8_3.eq_1) (ai (wu b8_4.eq_1) (ai (wu b8_5.eq_1) (ai (wu b8_6.eq_1) (ai (wu b8_7.eq_1) (ai (wu b8_8.eq_1) (ai (wu b8_9.eq_1) (ai (wu b8_10.eq_1) (ai (wu b8_11.eq_1) (ai (wu b8_12.eq_1) (ai (wu b8_13.eq_1) (ai (wu b8_14.eq_1) (ai (wu b8_15.eq_1) (ai (wu b8_16.eq_1) (ai (wu b8_17.eq_1) (ai (wu b8_18.eq_1) (ai (wu b8_19.eq_1) (ai (wu b8_20.eq_1) (ai (wu b8_21.eq_1) (ai (wu b8_22.eq_1) (wu b8_23.eq_1)))))))))))))))))))))))
def digN (x : Nat) : Nat := if 48 ≤ x ∧ x ≤ 57 then x - 48 else if 65 ≤ x ∧ x ≤ 70 then x - 55 else 16
theorem digN_le (x : Nat) : digN x ≤ 16 := by unfold digN; repeat' split
                                              all_goals omega
theorem dig_hex : ∀ n, n < 16 → digN (hexB n).toNat = n := by decide +kernel
theorem t19 (Φ : Nat → Option CF) (h : Φ 19 = some c19) (x : Nat) (hx : x < 256) (ct : Nat) : To Φ 19 [.i .u8 (x : Int)] ct (.i .u8 (digN x : Int)) := by
 refine to_walk h ?_
 unfold digN
 by_cases h1 : 48 ≤ x
 · have e1 : decide ((48 : Int) ≤ (x : Int)) = true := decide_eq_true (by omega)
   by_cases h2 : x ≤ 57
   · have e2 : decide ((x : Int) ≤ 57) = true := decide_eq_true (by omega)
     have s1 : biV .sub (.i .u8 (x : Int)) (.i .u8 48) = some (.i .u8 ((x - 48 : Nat) : Int)) := by rw [bi_sub, wrap_u8]; congr 2; omega
     rw [if_pos ⟨h1, h2⟩]
     simp only [WX, Nat.reducePow, Nat.reduceDiv, Nat.reduceMod, Nat.reduceBEq, Nat.reduceEqDiff, Int.reduceEq, Int.reduceLT, Int.reduceLE, reduceIte, reduceCtorEq, Nat.reduceAdd, Nat.reduceLeDiff, wd_e1, B19, e1, e2, s1]
   · have e2 : decide ((x : Int) ≤ 57) = false := decide_eq_false (by omega)
     rw [if_neg (fun hh => h2 hh.2)]
     by_cases h3 : 65 ≤ x
     · have e3 : decide ((65 : Int) ≤ (x : Int)) = true := decide_eq_true (by omega)
       by_cases h4 : x ≤ 70
       · have e4 : decide ((x : Int) ≤ 70) = true := decide_eq_true (by omega)
         have s1 : biV .sub (.i .u8 (x : Int)) (.i .u8 65) = some (.i .u8 ((x - 65 : Nat) : Int)) := by rw [bi_sub, wrap_u8]; congr 2; omega
         have a1 : biV .add (.i .u8 ((x - 65 : Nat) : Int)) (.i .u8 10) = some (.i .u8 ((x - 55 : Nat) : Int)) := by rw [bi_add, wrap_u8]; congr 2; omega
         rw [if_pos ⟨h3, h4⟩]
         simp only [WX, Nat.reducePow, Nat.reduceDiv, Nat.reduceMod, Nat.reduceBEq, Nat.reduceEqDiff, Int.reduceEq, Int.reduceLT, Int.reduceLE, reduceIte, reduceCtorEq, Nat.reduceAdd, Nat.reduceLeDiff, wd_e1, B19, e1, e2, e3, e4, s1, a1]
       · have e4 : decide ((x : Int) ≤ 70) = false := decide_eq_false (by omega)
         rw [if_neg (fun hh => h4 hh.2)]
         simp only [WX, Nat.reducePow, Nat.reduceDiv, Nat.reduceMod, Nat.reduceBEq, Nat.reduceEqDiff, Int.reduceEq, Int.reduceLT, Int.reduceLE, reduceIte, reduceCtorEq, Nat.reduceAdd, Nat.reduceLeDiff, wd_e1, B19, e1, e2, e3, e4]
         rfl
     · have e3 : decide ((65 : Int) ≤ (x : Int)) = false := decide_eq_false (by omega)
       rw [if_neg (fun hh => h3 hh.1)]
       simp only [WX, Nat.reducePow, Nat.reduceDiv, Nat.reduceMod, Nat.reduceBEq, Nat.reduceEqDiff, Int.reduceEq, Int.reduceLT, Int.reduceLE, reduceIte, reduceCtorEq, Nat.reduceAdd, Nat.reduceLeDiff, wd_e1, B19, e1, e2, e3]
       rfl
 · have e1 : decide ((48 : Int) ≤ (x : Int)) = false := decide_eq_false (by omega)
   have e3 : decide ((65 : Int) ≤ (x : Int)) = false := decide_eq_false (by omega)
   rw [if_neg (fun hh => h1 hh.1), if_neg (fun hh => by omega)]
   simp only [WX, Nat.reducePow, Nat.reduceDiv, Nat.reduceMod, Nat.reduceBEq, Nat.reduceEqDiff, Int.reduceEq, Int.reduceLT, Int.reduceLE, reduceIte, reduceCtorEq, Nat.reduceAdd, Nat.reduceLeDiff, wd_e1, B19, e1, e3]
   rfl
def h19 : List V → Option V
 | [.i .u8 (.ofNat x)] => if x < 256 then some (.i .u8 (digN x : Int)) else none
 | _ => none
theorem h19_eq {x : Nat} (h : x < 256) : h19 [.i .u8 (x : Int)] = some (.i .u8 (digN x : Int)) := if_pos h
theorem pre_at {s B : List UInt8} {i : Nat} (h : Pre s B i) (hlt : i < s.length) (hc : s[i] = 37) {t : List UInt8} (ht : t ≠ []) (e : t.flatMap escB = s) : ∃ c : UInt8, ∃ h2 : i + 2 < s.length, s[i + 1] = hexB (c.toNat / 16) ∧ s[i + 2] = hexB (c.toNat % 16) ∧ ∃ j, t.take (j + 1) = B ++ [c] ∧ s.drop (i + 3) = (t.drop (j + 1)).flatMap escB := by
 obtain ⟨c, r, j, h1, h2, h3, h4⟩ := pre_next h hlt ht e
 have hd : s.drop i = s[i] :: s.drop (i + 1) := List.drop_eq_getElem_cons hlt
 obtain ⟨x, q, ec⟩ : ∃ x q, escB c = x :: q := by unfold escB; split <;> exact ⟨_, _, rfl⟩
 rw [hd, ec, List.cons_append] at h4
 injection h4 with g1 g2
 rcases escB_37 ec with ⟨n1, _, _⟩ | ⟨_, rfl⟩
 · exact absurd (g1.symm.trans hc) n1
 · have hl := congrArg List.length g2
   rw [List.length_drop, List.length_append] at hl
   simp only [List.length_cons, List.length_nil] at hl
   have hd1 : s.drop (i + 1) = s[i + 1] :: s.drop (i + 2) := List.drop_eq_getElem_cons (by omega)
   have hd2 : s.drop (i + 2) = s[i + 2] :: s.drop (i + 3) := List.drop_eq_getElem_cons (by omega)
   rw [hd1, hd2] at g2
   simp only [List.cons_append, List.nil_append] at g2
   injection g2 with k1 g2
   injection g2 with k2 k3
   exact ⟨c, by omega, k1, k2, j, h2, by rw [k3, h3]⟩
theorem pre_dig {s B : List UInt8} {i : Nat} (h : Pre s B i) (h2 : i + 2 < s.length) (hc : s[i]'(by omega) = 37) : Pre s (B ++ [UInt8.ofNat (digN (s[i + 1]'(by omega)).toNat * 16 + digN (s[i + 2]).toNat)]) (i + 3) := by
 intro t ht e
 obtain ⟨c, g, k1, k2, j, k3, k4⟩ := pre_at h (by omega) hc ht e
 have hc256 := UInt8.toNat_lt c
 refine ⟨j + 1, ?_, k4⟩
 rw [k1, k2, dig_hex _ (by omega), dig_hex _ (by omega), show c.toNat / 16 * 16 + c.toNat % 16 = c.toNat by omega, UInt8.ofNat_toNat, k3]
theorem pre_bad {s B : List UInt8} {i : Nat} (h : Pre s B i) (hlt : i < s.length) (hc : s[i] = 37) (hb : ∀ h2 : i + 2 < s.length, 15 < digN (s[i + 1]'(by omega)).toNat ∨ 15 < digN (s[i + 2]).toNat) {t : List UInt8} (ht : t ≠ []) (e : t.flatMap escB = s) : False := by
 obtain ⟨c, g, k1, k2, _⟩ := pre_at h hlt hc ht e
 have hc256 := UInt8.toNat_lt c
 have := hb g
 rw [k1, k2, dig_hex _ (by omega), dig_hex _ (by omega)] at this
 omega
theorem r8 (Φ : Nat → Option CF) (h : Φ 8 = some c8) (h13 : Φ 13 = some (.orc (pureO h9))) (h19 : Φ 19 = some (.orc (pureO h19)))
  {F : RO} {M : Mem} {c : Nat} (ok : Okm F M c) (s : List UInt8) (hs : s.length ≤ 900000) :
  Calls Φ F 8 [sV s] M c fun r M' c' => UnP s r ∧ Gr c M c' M' := by
 refine calls_walk h ?_
 have fb : ∀ x, flatten (bV x) = [bV x] := fun _ => rfl
 have ob : ∀ x, isOne (bV x) = true := fun _ => rfl
 have q37 : biV .eql (sV s) (.s 1 37) = some (.b (decide (s = [37]))) := bi_seq s [37]
 by_cases h37 : s = [37]
 · rw [decide_eq_true h37] at q37
   simp only [WX, Nat.reducePow, Nat.reduceDiv, Nat.reduceMod, Nat.reduceBEq, Nat.reduceEqDiff, Int.reduceEq, Int.reduceLT, Int.reduceLE, reduceIte, reduceCtorEq, Nat.reduceAdd, Nat.reduceLeDiff, wd_e1, B8, q37]
   exact ⟨.inl ⟨[], by rw [h37]; rfl, Nat.zero_le _, rfl⟩, Gr.refl ok⟩
 · rw [decide_eq_false h37] at q37
   simp only [WX, Nat.reducePow, Nat.reduceDiv, Nat.reduceMod, Nat.reduceBEq, Nat.reduceEqDiff, Int.reduceEq, Int.reduceLT, Int.reduceLE, reduceIte, reduceCtorEq, Nat.reduceAdd, Nat.reduceLeDiff, wd_e1, B8, q37]
   have nil37 : wordB [] ≠ s := fun e => h37 e.symm
   have w19 := fun rd fn => @wd_cp Φ rd fn F 19 Ev.h19 h19
   obtain ⟨I1, hI1⟩ : ∃ I : Nat → St → Prop, ∀ n s', I n s' ↔ (∃ (i : Nat) (v : V) (M1 : Mem) (c1 b1 : Nat) (B : List UInt8) (u : List (Option V)), n = s.length + 3 - i ∧ i ≤ s.length + 2 ∧ s' = .mk ((.n (.n (.n (.n (uv7 u 63 31 95 15 79 47 111) (uO u 7) (uv7 u 71 39 103 23 87 55 119)) (uO u 3) (.n (uv7 u 67 35 99 19 83 51 115) (uO u 11) (uv7 u 75 43 107 27 91 59 123))) (uO u 1) (.n (.n (uv7 u 65 33 97 17 81 49 113) (uO u 9) (uv7 u 73 41 105 25 89 57 121)) (some (.i .i64 (i : Int))) (.n (uv7 u 69 37 101 21 85 53 117) (uO u 13) (uv7 u 77 45 109 29 93 61 125)))) (some (sV s)) (.n (.n (.n (uv7 u 64 32 96 16 80 48 112) (uO u 8) (uv7 u 72 40 104 24 88 56 120)) (some (v)) (.n (uv7 u 68 36 100 20 84 52 116) (uO u 12) (uv7 u 76 44 108 28 92 60 124))) (uO u 2) (.n (.n (uv7 u 66 34 98 18 82 50 114) (uO u 10) (uv7 u 74 42 106 26 90 58 122)) (uO u 6) (.n (uv7 u 70 38 102 22 86 54 118) (uO u 14) (uv7 u 78 46 110 30 94 62 126)))))) [] M1 c1 ∧ Gr c M c1 M1 ∧ AccAt M1 c c1 b1 5 1 v (bE B) ∧ B.length ≤ i ∧ Pre s B i) := ⟨fun n s' => _, fun _ _ => Iff.rfl⟩
   refine wp_while I1 ?_ (s.length + 3) _ ((hI1 _ _).2 ⟨0, .l0, M, c, 0, [], [none, _, _, _, none, none, _, _, _, _, _, _, _, _, _, _, _, _, _, _, _, _, _, _, _, _, _, _, _, _, _, _, _, _, _, _, _, _, _, _, _, _, _, _, _, _, _, _, _, _, _, _, _, _, _, _, _, _, _, _, _, _, _, _, _, _, _, _, _, _, _, _, _, _, _, _, _, _, _, _, _, _, _, _, _, _, _, _, _, _, _, _, _, _, _, _, _, _, _, _, _, _, _, _, _, _, _, _, _, _, _, _, _, _, _, _, _, _, _, _, _, _, _, _, _, _, _], rfl, Nat.zero_le _, rfl, Gr.refl ok, AccAt.nil, Nat.le_refl _, fun t ht e => ⟨0, rfl, by rw [List.drop_zero, List.drop_zero, e]⟩⟩)
   intro n s' hIs
   obtain ⟨i, v, M1, c1, b1, B, u, rfl, hi, rfl, gr1, hA, hB, hP⟩ := (hI1 _ _).1 hIs
   clear hIs
   have ok1 := gr1.ok ok
   have hfr := ok1.free
   have q8 : ∀ k : Nat, k ≤ 1000000 → biV .add (.i .i64 (k : Int)) (.i .i64 1) = some (.i .i64 ((k + 1 : Nat) : Int)) := fun k hk => by rw [i64_add _ _ (by omega) (by omega)]; simp
   have qq8 := q8 i (by omega)
   by_cases hlt : i < s.length
   · have d1 : decide ((i : Int) < (s.length : Int)) = true := decide_eq_true (by omega)
     have hix : ixSV (sV s) (.i .i64 (i : Int)) = some (bV s[i]) := ixSs s .i64 i hlt
     have hixn : bV s[i] = .i .u8 ((s[i]).toNat : Int) := rfl
     by_cases hc : s[i] = 37
     · have d2 : decide (((s[i]).toNat : Int) ≠ 37) = false := decide_eq_false (fun e => e (by rw [hc]; rfl))
       rw [hixn] at hix
       have q2 : biV .add (.i .i64 (i : Int)) (.i .i64 2) = some (.i .i64 ((i + 2 : Nat) : Int)) := by rw [i64_add _ _ (by omega) (by omega)]; simp
       have qq3 := q8 (i + 2) (by omega)
       have fail : (∀ h2 : i + 2 < s.length, 15 < digN (s[i + 1]'(by omega)).toNat ∨ 15 < digN (s[i + 2]).toNat) → UnP s (.t [.s 0 0, .i .i64 4]) ∧ Gr c M (c1 + 35) M1 := fun hb => by
        refine ⟨.inr ⟨fun t e => ?_, rfl⟩, gr1.up (by omega)⟩
        by_cases ht : t = []
        · exact nil37 (by rw [← ht]; exact e)
        · exact pre_bad hP hlt hc hb ht (by rw [← e]; exact (if_neg ht).symm)
       by_cases hl2 : s.length ≤ i + 2
       · have d3 : decide ((s.length : Int) ≤ ((i + 2 : Nat) : Int)) = true := decide_eq_true (by omega)
         simp only [WX, Nat.reducePow, Nat.reduceDiv, Nat.reduceMod, Nat.reduceBEq, Nat.reduceEqDiff, Int.reduceEq, Int.reduceLT, Int.reduceLE, reduceIte, reduceCtorEq, Nat.reduceAdd, Nat.reduceLeDiff, wd_e1, B8, lnSs, d1, hix, d2, q2, d3]
         exact fail (fun h2 => by omega)
       · have d3 : decide ((s.length : Int) ≤ ((i + 2 : Nat) : Int)) = false := decide_eq_false (by omega)
         have hx1 : ixSV (sV s) (.i .i64 ((i + 1 : Nat) : Int)) = some (.i .u8 ((s[i + 1]'(by omega)).toNat : Int)) := ixSs s .i64 (i + 1) (by omega)
         have hx2 : ixSV (sV s) (.i .i64 ((i + 2 : Nat) : Int)) = some (.i .u8 ((s[i + 2]'(by omega)).toNat : Int)) := ixSs s .i64 (i + 2) (by omega)
         have hPd := pre_dig hP (by omega) hc
         have fail2 : (15 < digN (s[i + 1]'(by omega)).toNat ∨ 15 < digN (s[i + 2]'(by omega)).toNat) → UnP s (.t [.s 0 0, .i .i64 4]) ∧ Gr c M (c1 + 35) M1 := fun hb => fail (fun _ => hb)
         clear fail
         have b1 := UInt8.toNat_lt (s[i + 1]'(by omega))
         have b2 := UInt8.toNat_lt (s[i + 2]'(by omega))
         have v1 := h19_eq b1
         have v2 := h19_eq b2
         have l1 := digN_le (s[i + 1]'(by omega)).toNat
         have l2 := digN_le (s[i + 2]'(by omega)).toNat
         generalize digN (s[i + 1]'(by omega)).toNat = e1 at v1 l1 fail2 hPd
         generalize digN (s[i + 2]'(by omega)).toNat = e2 at v2 l2 fail2 hPd
         generalize (s[i + 1]'(by omega)).toNat = y1 at hx1 v1
         generalize (s[i + 2]'(by omega)).toNat = y2 at hx2 v2
         have a1 : biV .add (.i .u8 (e1 : Int)) (.i .u8 (e2 : Int)) = some (.i .u8 ((e1 + e2 : Nat) : Int)) := by rw [bi_add, wrap_u8]; congr 2; omega
         by_cases g1 : 30 < e1 + e2
         · have d4 : decide ((30 : Int) < ((e1 + e2 : Nat) : Int)) = true := decide_eq_true (by omega)
           simp only [WX, Nat.reducePow, Nat.reduceDiv, Nat.reduceMod, Nat.reduceBEq, Nat.reduceEqDiff, Int.reduceEq, Int.reduceLT, Int.reduceLE, reduceIte, reduceCtorEq, Nat.reduceAdd, Nat.reduceLeDiff, wd_e1, B8, lnSs, d1, hix, d2, q2, qq8, d3, hx1, hx2, w19, v1, v2, hfr, a1, d4]
           exact fail2 (by omega)
         · have d4 : decide ((30 : Int) < ((e1 + e2 : Nat) : Int)) = false := decide_eq_false (by omega)
           by_cases g2 : 15 < e1
           · have d5 : decide ((15 : Int) < (e1 : Int)) = true := decide_eq_true (by omega)
             simp only [WX, Nat.reducePow, Nat.reduceDiv, Nat.reduceMod, Nat.reduceBEq, Nat.reduceEqDiff, Int.reduceEq, Int.reduceLT, Int.reduceLE, reduceIte, reduceCtorEq, Nat.reduceAdd, Nat.reduceLeDiff, wd_e1, B8, lnSs, d1, hix, d2, q2, qq8, d3, hx1, hx2, w19, v1, v2, hfr, a1, d4, d5]
             exact fail2 (by omega)
           · have d5 : decide ((15 : Int) < (e1 : Int)) = false := decide_eq_false (by omega)
             by_cases g3 : 15 < e2
             · have d6 : decide ((15 : Int) < (e2 : Int)) = true := decide_eq_true (by omega)
               simp only [WX, Nat.reducePow, Nat.reduceDiv, Nat.reduceMod, Nat.reduceBEq, Nat.reduceEqDiff, Int.reduceEq, Int.reduceLT, Int.reduceLE, reduceIte, reduceCtorEq, Nat.reduceAdd, Nat.reduceLeDiff, wd_e1, B8, lnSs, d1, hix, d2, q2, qq8, d3, hx1, hx2, w19, v1, v2, hfr, a1, d4, d5, d6]
               exact fail2 (by omega)
             · have d6 : decide ((15 : Int) < (e2 : Int)) = false := decide_eq_false (by omega)
               have m1 : biV .mul (.i .u8 (e1 : Int)) (.i .u8 16) = some (.i .u8 ((e1 * 16 : Nat) : Int)) := by rw [bi_mul, wrap_u8]; congr 2; omega
               have a2 : biV .add (.i .u8 ((e1 * 16 : Nat) : Int)) (.i .u8 (e2 : Int)) = some (.i .u8 (((UInt8.ofNat (e1 * 16 + e2)).toNat : Nat) : Int)) := by rw [bi_add, wrap_u8, UInt8.toNat_ofNat']; rfl
               have lk : (look F M1 (c1 + 48)).isNone = true := by rw [ok1.look (by omega)]; rfl
               simp only [WX, Nat.reducePow, Nat.reduceDiv, Nat.reduceMod, Nat.reduceBEq, Nat.reduceEqDiff, Int.reduceEq, Int.reduceLT, Int.reduceLE, reduceIte, reduceCtorEq, Nat.reduceAdd, Nat.reduceLeDiff, wd_e1, B8, lnSs, d1, hix, d2, q2, qq8, d3, hx1, hx2, w19, v1, v2, hfr, a1, d4, d5, d6, m1, a2, lk, wd_a, putDA, readFree_nil, wd_em, fb, ob]
               have grY := (gr1.up (c2 := c1 + 51) (by omega)).set (c2 := c1 + 51) (c1 + 48) (rowD [V.i .u8 0] 5 [V.i .u8 (((UInt8.ofNat (e1 * 16 + e2)).toNat : Nat) : Int)]) (by have := gr1.le; omega) (by omega) (Nat.le_refl _)
               have hy : SlAt F (M1.set (c1 + 48) (rowD [V.i .u8 0] 5 [V.i .u8 (((UInt8.ofNat (e1 * 16 + e2)).toNat : Nat) : Int)])) (c1 + 51) 1 (.l (c1 + 48) 0 1 1) (bE [UInt8.ofNat (e1 * 16 + e2)]) := slD (d := [V.i .u8 0]) (ty := 5) (by rw [get_same]; rfl) (by omega) (fun e he => by obtain ⟨x, _, rfl⟩ := List.mem_map.1 he; rfl) rfl
               refine putDE_to ((appV_to (bytes := 1) (hA.up (show c1 ≤ c1 + 51 by omega) (fun hx => get_ne _ _ (by omega))) grY Nat.one_pos hy rfl (room_of (by rw [beL, beL, List.length_singleton]; omega) (by rw [beL, beL, List.length_singleton]; omega))).mono ?_)
               rintro v' M2 c2 ⟨b3, hA2, gr2, hle2, _, _⟩
               refine ⟨(gr2.ok ok).free, ?_⟩
               simp only [WX, Nat.reducePow, Nat.reduceDiv, Nat.reduceMod, Nat.reduceBEq, Nat.reduceEqDiff, Int.reduceEq, Int.reduceLT, Int.reduceLE, reduceIte, reduceCtorEq, Nat.reduceAdd, Nat.reduceLeDiff, wd_e1, B8, q2, qq3]
               exact ⟨s.length + 3 - (i + 3), by omega, (hI1 _ _).2 ⟨i + 3, v', M2, c2, b3, B ++ [UInt8.ofNat (e1 * 16 + e2)], [none, _, _, _, none, none, _, _, _, _, _, _, _, _, _, _, _, _, _, _, _, _, _, _, _, _, _, _, _, _, _, _, _, _, _, _, _, _, _, _, _, _, _, _, _, _, _, _, _, _, _, _, _, _, _, _, _, _, _, _, _, _, _, _, _, _, _, _, _, _, _, _, _, _, _, _, _, _, _, _, _, _, _, _, _, _, _, _, _, _, _, _, _, _, _, _, _, _, _, _, _, _, _, _, _, _, _, _, _, _, _, _, _, _, _, _, _, _, _, _, _, _, _, _, _, _, _], rfl, by omega, rfl, gr2, by rw [bE_app]; exact hA2, by simp; omega, hPd⟩⟩
     · have d2 : decide (((s[i]).toNat : Int) ≠ 37) = true := decide_eq_true (fun e => hc (UInt8.toNat_inj.1 (by rw [show (37 : UInt8).toNat = 37 from rfl]; omega)))
       rw [hixn] at hix
       simp only [WX, Nat.reducePow, Nat.reduceDiv, Nat.reduceMod, Nat.reduceBEq, Nat.reduceEqDiff, Int.reduceEq, Int.reduceLT, Int.reduceLE, reduceIte, reduceCtorEq, Nat.reduceAdd, Nat.reduceLeDiff, wd_e1, B8, lnSs, d1, hix, d2]
       have grY := gr1.set c1 (rowD [V.i .u8 0] 5 [V.i .u8 ((s[i]).toNat : Int)]) gr1.le (Nat.lt_succ_self _) (Nat.le_succ _)
       have hy : SlAt F (M1.set c1 (rowD [V.i .u8 0] 5 [V.i .u8 ((s[i]).toNat : Int)])) (c1 + 1) 1 (.l c1 0 1 1) (bE [s[i]]) := slD (d := [V.i .u8 0]) (ty := 5) (by rw [get_same]; rfl) (by omega) (fun e he => by obtain ⟨x, _, rfl⟩ := List.mem_map.1 he; rfl) rfl
       refine putE_to ((appV_to (bytes := 1) (hA.up (show c1 ≤ c1 + 1 by omega) (fun hx => get_ne _ _ (by omega))) grY Nat.one_pos hy rfl (room_of (by rw [beL, beL, List.length_singleton]; omega) (by rw [beL, beL, List.length_singleton]; omega))).mono ?_)
       rintro v' M3 c3 ⟨b3, hA3, gr3, hle3, _, _⟩
       simp only [WX, Nat.reducePow, Nat.reduceDiv, Nat.reduceMod, Nat.reduceBEq, Nat.reduceEqDiff, Int.reduceEq, Int.reduceLT, Int.reduceLE, reduceIte, reduceCtorEq, Nat.reduceAdd, Nat.reduceLeDiff, wd_e1, B8, qq8]
       exact ⟨s.length + 3 - (i + 1), by omega, (hI1 _ _).2 ⟨i + 1, v', M3, c3, b3, B ++ [s[i]], [none, _, _, _, none, none, _, _, _, _, _, _, _, _, _, _, _, _, _, _, _, _, _, _, _, _, _, _, _, _, _, _, _, _, _, _, _, _, _, _, _, _, _, _, _, _, _, _, _, _, _, _, _, _, _, _, _, _, _, _, _, _, _, _, _, _, _, _, _, _, _, _, _, _, _, _, _, _, _, _, _, _, _, _, _, _, _, _, _, _, _, _, _, _, _, _, _, _, _, _, _, _, _, _, _, _, _, _, _, _, _, _, _, _, _, _, _, _, _, _, _, _, _, _, _, _, _], rfl, by omega, rfl, gr3, by rw [bE_app]; exact hA3, by simp; omega, pre_plain hP hlt hc⟩⟩
   · have d1 : decide ((i : Int) < (s.length : Int)) = false := decide_eq_false (by omega)
     have hsb : bsV F M1 v = some (sV B) := bs_of hA.sl
     have hln : lnL v = some (.i .i64 (B.length : Int)) := by have := (hA.sl (F := F)).len; rwa [beL] at this
     have qn : biV .neq (sV (wordB B)) (sV s) = some (.b !decide (wordB B = s)) := bi_sne _ _
     have bad : B = [] ∨ wordB B ≠ s → UnP s (.t [.s 0 0, .i .i64 4]) := fun hh => by
      refine .inr ⟨fun t e => ?_, rfl⟩
      by_cases ht : t = []
      · exact nil37 (by rw [← ht]; exact e)
      · have e2 : t.flatMap escB = s := by rw [← e]; exact (if_neg ht).symm
        have hBt := pre_end hP (by omega) ht e2
        rcases hh with hh | hh
        · exact ht (hBt.symm.trans hh)
        · exact hh (by rw [hBt]; exact e)
     by_cases hBn : B = []
     · have d2 : decide ((B.length : Int) = 0) = true := decide_eq_true (by rw [hBn]; rfl)
       simp only [WX, Nat.reducePow, Nat.reduceDiv, Nat.reduceMod, Nat.reduceBEq, Nat.reduceEqDiff, Int.reduceEq, Int.reduceLT, Int.reduceLE, reduceIte, reduceCtorEq, Nat.reduceAdd, Nat.reduceLeDiff, wd_e1, B8, lnSs, d1, hln, d2]
       exact ⟨bad (.inl hBn), gr1⟩
     · have d2 : decide ((B.length : Int) = 0) = false := decide_eq_false (fun e => hBn (List.length_eq_zero_iff.1 (by omega)))
       by_cases hw : wordB B = s
       · rw [decide_eq_true hw] at qn
         simp only [WX, Nat.reducePow, Nat.reduceDiv, Nat.reduceMod, Nat.reduceBEq, Nat.reduceEqDiff, Int.reduceEq, Int.reduceLT, Int.reduceLE, reduceIte, reduceCtorEq, Nat.reduceAdd, Nat.reduceLeDiff, wd_e1, B8, lnSs, d1, hln, d2, hsb, h13, h9_eq B (by omega), qn]
         exact ⟨.inl ⟨B, hw, by rw [← hw]; exact word_len B, rfl⟩, gr1⟩
       · rw [decide_eq_false hw] at qn
         simp only [WX, Nat.reducePow, Nat.reduceDiv, Nat.reduceMod, Nat.reduceBEq, Nat.reduceEqDiff, Int.reduceEq, Int.reduceLT, Int.reduceLE, reduceIte, reduceCtorEq, Nat.reduceAdd, Nat.reduceLeDiff, wd_e1, B8, lnSs, d1, hln, d2, hsb, h13, h9_eq B (by omega), qn]
         exact ⟨bad (.inr hw), gr1⟩
def lnsA : List UInt8 → List UInt8 → List (List UInt8)
 | [], _ => []
 | x :: r, a => if x = 10 then a :: lnsA r [] else lnsA r (a ++ [x])
def lns (l : List UInt8) : List (List UInt8) := lnsA l []
theorem lns_none : ∀ (l a : List UInt8) (i : Nat), fnd 10 l i = none → lnsA l a = []
 | [], _, _, _ => rfl
 | x :: r, a, i, h => by
   unfold fnd at h
   split at h
   · cases h
   · rename_i hx
     unfold lnsA
     rw [if_neg hx]
     exact lns_none r _ (i + 1) h
theorem lns_some : ∀ (l a : List UInt8) (i k : Nat), fnd 10 l i = some k → lnsA l a = (a ++ l.take (k - i)) :: lns (l.drop (k - i + 1))
 | [], _, _, _, h => by cases h
 | x :: r, a, i, k, h => by
   have hl := (fnd_lt h).1
   unfold fnd at h
   split at h
   · rename_i hx
     obtain rfl := Option.some.inj h
     unfold lnsA
     rw [if_pos hx, Nat.sub_self, List.take_zero, List.append_nil]; rfl
   · rename_i hx
     have h1 := (fnd_lt h).1
     unfold lnsA
     rw [if_neg hx, lns_some r _ (i + 1) k h, show k - i = k - (i + 1) + 1 by omega]
     simp
theorem lns_len : ∀ (l a : List UInt8), (lnsA l a).length ≤ l.length
 | [], _ => Nat.le_refl _
 | x :: r, a => by
   unfold lnsA
   split
   · have := lns_len r []; rw [List.length_cons, List.length_cons]; omega
   · have := lns_len r (a ++ [x]); rw [List.length_cons]; omega
def strE (l : List (List UInt8)) : List (List V) := l.map fun w => [sV w]
theorem str_at {F : RO} {M : Mem} {c : Nat} {v : V} {l : List (List UInt8)} (hs : SlAt F M c 1 v (strE l)) (i : Nat) (hi : i < l.length) :
  ∃ b o, b < c ∧ (∀ k, iaSV 1 v (.i k (i : Int)) = some (.p b o)) ∧ load1 F M b o = some (sV l[i]) :=
 SlAt.one hs i (by simpa [strE] using hi) (by simp [strE])
theorem str_len {F : RO} {M : Mem} {c : Nat} {v : V} {l : List (List UInt8)} (hs : SlAt F M c 1 v (strE l)) : lnL v = some (.i .i64 (l.length : Int)) := by
 have := hs.len; rwa [strE, List.length_map] at this
def b5_1 : CC := (.reg [(aa a1 (.bx 9 1 z0)), (qq a2 (.mv (.c .f0)))])
def b5_2 : CC := (.reg [(qq a3 (.mkf 16 [] [z1])), (qq a2 (.mv z3))])
def c5 : CF := .mk 3 [.t a2] (.seq b5_1 (.seq b5_2 .ret))
theorem e5 (v0 : V) : argTr 3 [v0] = (.n sk2 (some v0) sk2) := rfl
def B5 := ai @e5 (ai (wu b5_1.eq_1) (wu b5_2.eq_1))
def b16_1 : CC := (.reg [(qq a8 (.ld1 z1)), (qq a3 (.mv z8))])
def b16_2 : CC := (.reg [(qq a4 (.mv (x6 0)))])
def b16_3 : CC := (.reg [(qq a12 (.mv z3)), (ee a13 (.call 17 [z12, (.c (.s 1 10))])), (qq a11 (.mv z13)), (qq a14 (.ex 0 z11)), (qq a15 (.ex 1 z11)), (qq a16 (.ex 2 z11)), (qq a5 (.mv z14)), (qq a6 (.mv z15)), (qq a7 (.mv z16))])
def b16_4 : CC := (.reg [(qq a17 (.mv z7)), (qq a18 (.un .not z17)), (qq a19 (.mv z18)), ⟨(some a20), .q (.mv z0), (some (a19, false))⟩, ⟨(some a21), .q (.mv z4), (some (a19, false))⟩, ⟨(some a22), .q (.mv z5), (some (a19, false))⟩, ⟨(some a23), .e (.cv z20 [z21, z22]), (some (a19, false))⟩, ⟨(some a24), .q (.un .not z23), (some (a19, false))⟩, (qq a25 (.pk z19 xT z24))])
def b16_5 : CC := (.reg [(qq a26 (.mv z6)), (qq a3 (.mv z26))])
def b16_6 : CC := (.seq (.seq b16_4 (.cond z25 .ret .skip)) b16_5)
def b16_7 : CC := (.reg [(qq a9 (.mv z4)), (qq a10 (.bi .add z9 (x6 1))), (qq a4 (.mv z10))])
def b16_8 : CC := (.block 0 (.loop (.seq (.block 1 (.seq b16_3 b16_6)) b16_7)))
def c16 : CF := .mk 5 [] (.seq b16_1 (.seq b16_2 b16_8))
theorem e16 (v0 v1 : V) : argTr 5 [v0, v1] = (.n (.n sk3 (some v1) sk3) (some v0) sk4) := rfl
def B16 := ai @e16 (ai (wu b16_1.eq_1) (ai (wu b16_2.eq_1) (ai (wu b16_3.eq_1) (ai (wu b16_4.eq_1) (ai (wu b16_5.eq_1) (ai (wu b16_6.eq_1) (ai (wu b16_7.eq_1) (wu b16_8.eq_1))))))))
def b6_1 : CC := (.reg [(qq a2 (.mv (.c .l0))), (qq a3 (.mv (.c (.s 0 0))))])
def b6_2 : CC := (.reg [(qq a5 (.mv (x6 0)))])
def b6_3 : CC := (.reg [(qq a6 (.mv (x6 0)))])
def b6_4 : CC := (.reg [(qq a7 (.mv z6)), (qq a8 (.mv z0)), (qq a9 (.ln .str z8)), (qq a10 (.bi .lss z7 z9))])
def b6_5 : CC := (.reg [(qq a13 (.mv z0)), (qq a14 (.mv z6)), (qq a15 (.ixS z13 z14)), (qq a16 (.bi .eql z15 (.c (.i .u8 10))))])
def b6_6 : CC := (.reg [(qq a17 (.mv z4)), (qq a18 (.mv z0)), (qq a19 (.mv z5)), (qq a20 (.mv z6)), (qq a21 (.slS z18 (some z19) (some z20))), (aa a22 (.bsl 9 1 1 [(.s 0 0)] [(0, z21)])), (ee a23 (.app 9 1 16 z17 z22)), (qq a4 (.mv z23))])
def b6_7 : CC := (.reg [(qq a24 (.mv z6)), (qq a25 (.bi .add z24 (x6 1))), (qq a5 (.mv z25))])
def b6_8 : CC := (.seq b6_5 (.cond z16 (.seq b6_6 b6_7) .skip))
def b6_9 : CC := (.reg [(qq a11 (.mv z6)), (qq a12 (.bi .add z11 (x6 1))), (qq a6 (.mv z12))])
def b6_10 : CC := (.seq (.seq b6_4 (.cond z10 .skip (.exit 0))) (.seq (.block 1 b6_8) b6_9))
def b6_11 : CC := (.dreg 6 [(0, 0, (qq a26 (.mv z4))), (1, 0, (qq a27 (.mv z0))), (2, 0, (qq a28 (.mv z5))), (3, 6, (qq a29 (.slS z27 (some z28) none))), (4, 1, (qq a2 (.mv z26))), (5, 31, (qq a3 (.mv z29)))])
def b6_12 : CC := (.seq (.seq b6_3 (.block 0 (.loop b6_10))) (.seq b6_11 .ret))
def b6_13 : CC := (.seq (.reg [(qq a4 (.mv (.c .l0)))]) (.seq b6_2 b6_12))
def c6 : CF := .mk 5 [.t a2, .t a3] (.seq b6_1 b6_13)
theorem e6 (v0 : V) : argTr 5 [v0] = (.n sk4 (some v0) sk4) := rfl
def B6 := ai @e6 (ai (wu b6_1.eq_1) (ai (wu b6_2.eq_1) (ai (wu b6_3.eq_1) (ai (wu b6_4.eq_1) (ai (wu b6_5.eq_1) (ai (wu b6_6.eq_1) (ai (wu b6_7.eq_1) (ai (wu b6_8.eq_1) (ai (wu b6_9.eq_1) (ai (wu b6_10.eq_1) (ai (wu b6_11.eq_1) (ai (wu b6_12.eq_1) (wu b6_13.eq_1)))))))))))))
def b12_1 : CC := (.reg [(qq a3 (.mv z0)), (qq a2 (.mv z3))])
def b12_2 : CC := (.seq (.reg [(qq a2 (.mv (x6 0)))]) (.seq b12_1 .ret))
def c12 : CF := .mk 3 [.t a2] b12_2
theorem e12 (v0 : V) : argTr 3 [v0] = (.n sk2 (some v0) sk2) := rfl
def B12 := ai @e12 (ai (wu b12_1.eq_1) (wu b12_2.eq_1))
theorem t12 (Φ : Nat → Option CF) (h : Φ 12 = some c12) (n : Int) (ct : Nat) : To Φ 12 [.i .i64 n] ct (.i .i64 n) := by
 refine to_walk h ?_
 simp only [WX, Nat.reducePow, Nat.reduceDiv, Nat.reduceMod, Nat.reduceBEq, Nat.reduceEqDiff, Int.reduceEq, Int.reduceLT, Int.reduceLE, reduceIte, reduceCtorEq, Nat.reduceAdd, Nat.reduceLeDiff, wd_e1, B12]
def h12 : List V → Option V
 | [.i .i64 n] => some (.i .i64 n)
 | _ => none
theorem h12_eq (n : Int) : h12 [.i .i64 n] = some (.i .i64 n) := rfl
theorem r5 (Φ : Nat → Option CF) (h : Φ 5 = some c5) {F : RO} {M : Mem} {c : Nat} (ok : Okm F M c) (l : List UInt8) :
  Calls Φ F 5 [sV l] M c fun r M' c' => ∃ pb, r = .f 16 [] [.p pb 0] ∧ c ≤ pb ∧ pb < c' ∧ M'.get pb = some (rowB 9 [sV l]) ∧ Gr c M c' M' := by
 refine calls_walk h ?_
 have hg := fun x => (Gr.refl ok).set c x (Nat.le_refl _) (Nat.lt_succ_self _) (Nat.le_succ _)
 have fS : flatten (sV l) = [sV l] := rfl
 have aS : allOne [sV l] = true := rfl
 simp only [WX, Nat.reducePow, Nat.reduceDiv, Nat.reduceMod, Nat.reduceBEq, Nat.reduceEqDiff, Int.reduceEq, Int.reduceLT, Int.reduceLE, reduceIte, reduceCtorEq, Nat.reduceAdd, Nat.reduceLeDiff, wd_e1, B5, fS, aS, List.length_singleton, and_self]
 exact ⟨_, rfl, Nat.le_refl _, Nat.lt_succ_self _, get_same _ _ _, hg _⟩
theorem r16 (Φ : Nat → Option CF) (h : Φ 16 = some c16) (h17 : Φ 17 = some (.orc (pureO h39))) {F : RO} {M : Mem} {c y pb : Nat} {l : List UInt8} (hl : l.length ≤ 1000000) (hb : M.get pb = some (rowB 9 [sV l])) {I : Nat → Mem → Nat → Prop} {J : Mem → Nat → Prop} (h0 : I 0 M c)
  (hY : ∀ k M c, (hk : k < (lns l).length) → I k M c → RTo (callV (K Φ none 16 F) (.y y) [.i .i64 (k : Int), sV (lns l)[k]] M c) fun r M' c' => (r = .b true ∧ I (k + 1) M' c') ∨ (r = .b false ∧ J M' c')) :
  Calls Φ F 16 [.y y, .p pb 0] M c fun _ M' c' => I (lns l).length M' c' ∨ J M' c' := by
 refine calls_walk h ?_
 have hld : load1 F M pb 0 = some (sV l) := load_row hb 0
 have e10 : V.s 1 10 = sV [10] := rfl
 have hll := lns_len l []
 simp only [WX, Nat.reducePow, Nat.reduceDiv, Nat.reduceMod, Nat.reduceBEq, Nat.reduceEqDiff, Int.reduceEq, Int.reduceLT, Int.reduceLE, reduceIte, reduceCtorEq, Nat.reduceAdd, Nat.reduceLeDiff, wd_e1, B16, hld]
 obtain ⟨Iv, hIv⟩ : ∃ Iv : Nat → St → Prop, ∀ n s, Iv n s ↔ (∃ (k : Nat) (r : List UInt8) (M1 : Mem) (c1 : Nat) (u : List (Option V)), n = (lns l).length - k ∧ k ≤ (lns l).length ∧ s = .mk ((.n (.n (.n (uv3 u 15 7 23) (some (sV r)) (uv3 u 19 11 27)) (some (.p pb 0)) (uv7 u 17 9 25 5 21 13 29)) (some (.y y)) (.n (.n (uv3 u 16 8 24) (some (.i .i64 (k : Int))) (uv3 u 20 12 28)) (uO u 2) (uv7 u 18 10 26 6 22 14 30)))) [] M1 c1 ∧ lns r = (lns l).drop k ∧ r.length ≤ l.length ∧ I k M1 c1) := ⟨fun n s => _, fun _ _ => Iff.rfl⟩
 refine wp_while Iv ?_ (lns l).length _ ((hIv _ _).2 ⟨0, l, _, _, [none, none, _, none, none, _, _, _, _, _, _, _, _, _, _, _, _, _, _, _, _, _, _, _, _, _, _, _, _, _, _], rfl, Nat.zero_le _, rfl, rfl, Nat.le_refl _, h0⟩)
 intro n s hIs
 obtain ⟨k, r, M1, c1, u, rfl, hk, rfl, hpre, hr, hi⟩ := (hIv _ _).1 hIs
 clear hIs
 have q8 : biV .add (.i .i64 (k : Int)) (.i .i64 1) = some (.i .i64 ((k + 1 : Nat) : Int)) := by rw [i64_add _ _ (by unfold lns at hk; omega) (by unfold lns at hk; omega)]; simp
 have hc := h39_eq r 10 (by omega)
 rw [← e10] at hc
 unfold cutV at hc
 cases hf : fnd 10 r 0 with
 | none =>
   rw [hf] at hc
   simp only [WX, Nat.reducePow, Nat.reduceDiv, Nat.reduceMod, Nat.reduceBEq, Nat.reduceEqDiff, Int.reduceEq, Int.reduceLT, Int.reduceLE, reduceIte, reduceCtorEq, Nat.reduceAdd, Nat.reduceLeDiff, wd_e1, B16, h17, hc]
   have hn := lns_none r [] 0 hf
   have hke : k = (lns l).length := by
    by_cases hh : k < (lns l).length
    · rw [show lnsA r [] = lns r from rfl, hpre, List.drop_eq_getElem_cons hh] at hn; cases hn
    · omega
   exact .inl (hke ▸ hi)
 | some j =>
   rw [hf] at hc
   have hn := lns_some r [] 0 j hf
   rw [show lnsA r [] = lns r from rfl, hpre, List.nil_append, Nat.sub_zero] at hn
   have hklt : k < (lns l).length := by
    by_cases hh : k < (lns l).length
    · exact hh
    · rw [List.drop_eq_nil_of_le (by omega)] at hn; cases hn
   rw [List.drop_eq_getElem_cons hklt] at hn
   injection hn with g1 g2
   have hy := hY k M1 c1 hklt hi
   rw [g1] at hy
   simp only [WX, Nat.reducePow, Nat.reduceDiv, Nat.reduceMod, Nat.reduceBEq, Nat.reduceEqDiff, Int.reduceEq, Int.reduceLT, Int.reduceLE, reduceIte, reduceCtorEq, Nat.reduceAdd, Nat.reduceLeDiff, wd_e1, B16, h17, hc]
   refine putE_to (hy.mono ?_)
   rintro b M3 c3 (⟨rfl, hi3⟩ | ⟨rfl, hj⟩)
   · simp only [WX, Nat.reducePow, Nat.reduceDiv, Nat.reduceMod, Nat.reduceBEq, Nat.reduceEqDiff, Int.reduceEq, Int.reduceLT, Int.reduceLE, reduceIte, reduceCtorEq, Nat.reduceAdd, Nat.reduceLeDiff, wd_e1, B16, q8]
     exact ⟨(lns l).length - (k + 1), by omega, (hIv _ _).2 ⟨k + 1, r.drop (j + 1), M3, c3, [none, none, _, none, none, _, _, _, _, _, _, _, _, _, _, _, _, _, _, _, _, _, _, _, _, _, _, _, _, _, _], rfl, hklt, rfl, g2.symm, by rw [List.length_drop]; omega, hi3⟩⟩
   · simp only [WX, Nat.reducePow, Nat.reduceDiv, Nat.reduceMod, Nat.reduceBEq, Nat.reduceEqDiff, Int.reduceEq, Int.reduceLT, Int.reduceLE, reduceIte, reduceCtorEq, Nat.reduceAdd, Nat.reduceLeDiff, wd_e1, B16]
     exact .inr hj
theorem r6 (Φ : Nat → Option CF) (h : Φ 6 = some c6) {F : RO} {M : Mem} {c : Nat} (ok : Okm F M c) (l : List UInt8) (hl : l.length ≤ 1000000) :
  Calls Φ F 6 [sV l] M c fun r M' c' => ∃ v x, r = .t [v, x] ∧ SlAt F M' c' 1 v (strE (lns l)) ∧ Gr c M c' M' := by
 refine calls_walk h ?_
 have hll := lns_len l []
 have hF : ∀ w, flatten (sV w) = [sV w] := fun _ => rfl
 have hA1 : ∀ w, allOne [sV w] = true := fun _ => rfl
 simp only [WX, Nat.reducePow, Nat.reduceDiv, Nat.reduceMod, Nat.reduceBEq, Nat.reduceEqDiff, Int.reduceEq, Int.reduceLT, Int.reduceLE, reduceIte, reduceCtorEq, Nat.reduceAdd, Nat.reduceLeDiff, wd_e1, B6]
 obtain ⟨I1, hI1⟩ : ∃ I : Nat → St → Prop, ∀ n s', I n s' ↔ (∃ (i s : Nat) (v : V) (M1 : Mem) (c1 b1 : Nat) (P : List (List UInt8)) (u : List (Option V)), n = l.length - i ∧ i ≤ l.length ∧ s ≤ i ∧ s' = .mk ((.n (.n (uv7 u 15 7 23 3 19 11 27) (uO u 1) (.n (uv3 u 17 9 25) (some (.i .i64 (s : Int))) (uv3 u 21 13 29))) (some (sV l)) (.n (.n (uv3 u 16 8 24) (some (v)) (uv3 u 20 12 28)) (uO u 2) (.n (uv3 u 18 10 26) (some (.i .i64 (i : Int))) (uv3 u 22 14 30))))) [] M1 c1 ∧ Gr c M c1 M1 ∧ AccAt M1 c c1 b1 9 1 v (strE P) ∧ P.length ≤ i ∧ lns l = P ++ lnsA (l.drop i) ((l.take i).drop s)) := ⟨fun n s' => _, fun _ _ => Iff.rfl⟩
 refine wp_while I1 ?_ l.length _ ((hI1 _ _).2 ⟨0, 0, .l0, M, c, 0, [], [none, _, _, _, none, none, none, _, _, _, _, _, _, _, _, _, _, _, _, _, _, _, _, _, _, _, _, _, _, _, _], rfl, Nat.zero_le _, Nat.le_refl _, rfl, Gr.refl ok, AccAt.nil, Nat.le_refl _, rfl⟩)
 intro n s' hIs
 obtain ⟨i, s, v, M1, c1, b1, P, u, rfl, hi, hsi, rfl, gr1, hA, hP, hpre⟩ := (hI1 _ _).1 hIs
 clear hIs
 have ok1 := gr1.ok ok
 have q8 : biV .add (.i .i64 (i : Int)) (.i .i64 1) = some (.i .i64 ((i + 1 : Nat) : Int)) := by rw [i64_add _ _ (by omega) (by omega)]; simp
 by_cases hlt : i < l.length
 · have d1 : decide ((i : Int) < (l.length : Int)) = true := decide_eq_true (by omega)
   have hix : ixSV (sV l) (.i .i64 (i : Int)) = some (bV l[i]) := ixSs l .i64 i hlt
   have hixn : bV l[i] = .i .u8 ((l[i]).toNat : Int) := rfl
   rw [hixn] at hix
   rw [List.drop_eq_getElem_cons hlt, lnsA] at hpre
   by_cases hc : l[i] = 10
   · have d2 : decide (((l[i]).toNat : Int) = 10) = true := decide_eq_true (by rw [hc]; rfl)
     rw [if_pos hc] at hpre
     have s1 := sl_lh l .i64 .i64 s i hsi (by omega)
     simp only [WX, Nat.reducePow, Nat.reduceDiv, Nat.reduceMod, Nat.reduceBEq, Nat.reduceEqDiff, Int.reduceEq, Int.reduceLT, Int.reduceLE, reduceIte, reduceCtorEq, Nat.reduceAdd, Nat.reduceLeDiff, wd_e1, B6, lnSs, d1, hix, d2, s1, q8, hF, hA1, List.length_singleton, and_self]
     have grY := gr1.set c1 (rowD [V.s 0 0] 9 [sV ((l.take i).drop s)]) gr1.le (Nat.lt_succ_self _) (Nat.le_succ _)
     have hy : SlAt F (M1.set c1 (rowD [V.s 0 0] 9 [sV ((l.take i).drop s)])) (c1 + 1) 1 (.l c1 0 1 1) (strE [(l.take i).drop s]) := slD (d := [V.s 0 0]) (ty := 9) (by rw [get_same]; rfl) (by omega) (fun e he => by obtain ⟨x, _, rfl⟩ := List.mem_map.1 he; rfl) rfl
     refine putE_to ((appV_to (bytes := 16) (hA.up (show c1 ≤ c1 + 1 by omega) (fun hx => get_ne _ _ (by omega))) grY Nat.one_pos hy rfl (room_of (by simp [strE]; omega) (by simp [strE]; omega))).mono ?_)
     rintro v' M3 c3 ⟨b3, hA3, gr3, hle3, _, _⟩
     simp only [WX, Nat.reducePow, Nat.reduceDiv, Nat.reduceMod, Nat.reduceBEq, Nat.reduceEqDiff, Int.reduceEq, Int.reduceLT, Int.reduceLE, reduceIte, reduceCtorEq, Nat.reduceAdd, Nat.reduceLeDiff, wd_e1, B6, q8]
     exact ⟨l.length - (i + 1), by omega, (hI1 _ _).2 ⟨i + 1, i + 1, v', M3, c3, b3, P ++ [(l.take i).drop s], [none, _, _, _, none, none, none, _, _, _, _, _, _, _, _, _, _, _, _, _, _, _, _, _, _, _, _, _, _, _, _], rfl, by omega, Nat.le_refl _, rfl, gr3, by unfold strE at hA3 ⊢; rw [List.map_append]; exact hA3, by simp; omega, by rw [hpre, List.drop_eq_nil_of_le (show (l.take (i + 1)).length ≤ i + 1 by rw [List.length_take]; omega)]; simp⟩⟩
   · have d2 : decide (((l[i]).toNat : Int) = 10) = false := decide_eq_false (fun e => hc (UInt8.toNat_inj.1 (by rw [show (10 : UInt8).toNat = 10 from rfl]; omega)))
     rw [if_neg hc] at hpre
     simp only [WX, Nat.reducePow, Nat.reduceDiv, Nat.reduceMod, Nat.reduceBEq, Nat.reduceEqDiff, Int.reduceEq, Int.reduceLT, Int.reduceLE, reduceIte, reduceCtorEq, Nat.reduceAdd, Nat.reduceLeDiff, wd_e1, B6, lnSs, d1, hix, d2, q8]
     exact ⟨l.length - (i + 1), by omega, (hI1 _ _).2 ⟨i + 1, s, v, M1, c1, b1, P, [none, _, _, _, none, none, none, _, _, _, _, _, _, _, _, _, _, _, _, _, _, _, _, _, _, _, _, _, _, _, _], rfl, by omega, by omega, rfl, gr1, hA, by omega, by rw [hpre, List.take_succ_eq_append_getElem hlt, List.drop_append_of_le_length (by rw [List.length_take]; omega)]⟩⟩
 · obtain rfl : i = l.length := by omega
   have d1 : decide ((l.length : Int) < (l.length : Int)) = false := decide_eq_false (by omega)
   have s2 := sl_ln l .i64 s hsi
   simp only [WX, Nat.reducePow, Nat.reduceDiv, Nat.reduceMod, Nat.reduceBEq, Nat.reduceEqDiff, Int.reduceEq, Int.reduceLT, Int.reduceLE, reduceIte, reduceCtorEq, Nat.reduceAdd, Nat.reduceLeDiff, wd_e1, B6, lnSs, d1, dq_slS, s2]
   rw [List.drop_length, lnsA, List.append_nil] at hpre
   exact ⟨_, _, rfl, by rw [hpre]; exact (hA.up (show c1 ≤ c1 + 6 by omega) (fun hx => rfl)).sl, gr1.up (by omega)⟩
def b3_1 : CC := (.reg [(aa a5 (.bx 3 1 z2)), (aa a6 (.al 4 [(.b false)]))])
def w3_1 := wu b3_1.eq_1
def b3_2 : CC := (.reg [(qq a21 (.mv z0)), (qq a22 (.ln .str z21)), (qq a23 (.bi .gtr z22 (x6 9000))), (qq a24 (.mv z23)), ⟨(some a25), .q (.mv z1), (some (a24, false))⟩, ⟨(some a26), .q (.ln .str z25), (some (a24, false))⟩, ⟨(some a27), .q (.bi .gtr z26 (x6 9000)), (some (a24, false))⟩, (qq a28 (.pk z24 xT z27))])
def w3_2 := wu b3_2.eq_1
def b3_3 : CC := (.reg [(ee a29 (.call 4 [])), (ez (.st 1 z6 z29))])
def w3_3 := wu b3_3.eq_1
def b3_4 : CC := (.seq b3_2 (.cond z28 (.seq b3_3 .ret) .skip))
def w3_4 := wu b3_4.eq_1
def b3_5 : CC := (.reg [(qq a30 (.mv z0)), (ee a31 (.call 5 [z30])), (qq a7 (.mv z31))])
def w3_5 := wu b3_5.eq_1
def b3_6 : CC := (.reg [(qq a33 (.mv z0)), (ee a34 (.call 6 [z33])), (qq a32 (.mv z34)), (qq a35 (.ex 0 z32)), (qq a36 (.ex 1 z32)), (aa a8 (.al 26 [.l0])), (ez (.st 1 z8 z35)), (qq a9 (.mv z36))])
def w3_6 := wu b3_6.eq_1
def b3_7 : CC := (.reg [(qq a37 (.mv z7)), (qq a38 (.eq false .func true z37 (.c .f0)))])
def w3_7 := wu b3_7.eq_1
def b3_8 : CC := (.reg [(ez (.st 1 z6 xF))])
def w3_8 := wu b3_8.eq_1
def b3_9 : CC := (.cond z38 (.seq b3_8 .ret) .skip)
def w3_9 := wu b3_9.eq_1
def b3_10 : CC := (.reg [(aa a10 (.al 3 [(.i .i64 0)])), (ez (.st 1 z10 (x6 0)))])
def w3_10 := wu b3_10.eq_1
def b3_11 : CC := (.reg [(qq a39 (.ld1 z10)), (qq a40 (.bi .lss z39 (x6 2)))])
def w3_11 := wu b3_11.eq_1
def b3_12 : CC := (.seq b3_11 (.cond z40 .skip (.exit 0)))
def w3_12 := wu b3_12.eq_1
def b3_13 : CC := (.reg [(aa a11 (.al 3 [(.i .i64 0)])), (ez (.st 1 z11 (x6 0)))])
def w3_13 := wu b3_13.eq_1
def b3_14 : CC := (.reg [(qq a43 (.mv z7))])
def w3_14 := wu b3_14.eq_1
def b3_15 : CC := (.reg [(qq a12 (.mv z44))])
def w3_15 := wu b3_15.eq_1
def b3_16 : CC := (.reg [(qq a13 (.mv z45))])
def w3_16 := wu b3_16.eq_1
def b3_17 : CC := (.reg [(qq a46 (.ld1 z11)), (qq a47 (.ld1 z8)), (qq a48 (.ln .slice z47)), (qq a49 (.bi .geq z46 z48)), (qq a50 (.mv z49)), ⟨(some a51), .q (.mv z12), (some (a50, false))⟩, ⟨(some a52), .q (.ld1 z11), (some (a50, false))⟩, ⟨(some a53), .q (.bi .neq z51 z52), (some (a50, false))⟩, (qq a54 (.pk z50 xT z53)), (qq a55 (.mv z54)), ⟨(some a56), .q (.mv z13), (some (a55, false))⟩, ⟨(some a57), .q (.ld1 z8), (some (a55, false))⟩, ⟨(some a58), .q (.ld1 z11), (some (a55, false))⟩, ⟨(some a59), .q (.iaS 1 z57 z58), (some (a55, false))⟩, ⟨(some a60), .q (.ld1 z59), (some (a55, false))⟩, ⟨(some a61), .q (.bi .neq z56 z60), (some (a55, false))⟩, (qq a62 (.pk z55 xT z61))])
def w3_17 := wu b3_17.eq_1
def b3_18 : CC := (.reg [(ez (.st 1 z6 xF))])
def w3_18 := wu b3_18.eq_1
def b3_19 : CC := (.cond z62 (.seq b3_18 .ret) .skip)
def w3_19 := wu b3_19.eq_1
def b3_20 : CC := (.reg [(qq a63 (.ld1 z11)), (qq a64 (.bi .add z63 (x6 1))), (ez (.st 1 z11 z64))])
def w3_20 := wu b3_20.eq_1
def b3_21 : CC := (.reg [(qq a65 (.ld1 z10)), (qq a66 (.bi .eql z65 (x6 0))), (qq a67 (.mv z66)), ⟨(some a68), .q (.ld1 z11), (some (a67, true))⟩, ⟨(some a69), .q (.ld1 z5), (some (a67, true))⟩, ⟨(some a70), .q (.bi .eql z68 z69), (some (a67, true))⟩, (qq a71 (.pk z67 z70 xF))])
def w3_21 := wu b3_21.eq_1
def b3_22 : CC := (.cond z71 (.exit 2) .skip)
def w3_22 := wu b3_22.eq_1
def b3_23 : CC := (.block 3 (.seq (.seq b3_17 b3_19) (.seq b3_20 (.seq b3_21 b3_22))))
def w3_23 := wu b3_23.eq_1
def b3_24 : CC := (.rf z43 [a44, a45] (.seq b3_15 b3_16) b3_23)
def w3_24 := wu b3_24.eq_1
def b3_25 : CC := (.reg [(qq a72 (.ld1 z10)), (qq a73 (.bi .eql z72 (x6 1))), (qq a74 (.mv z73)), ⟨(some a75), .q (.ld1 z11), (some (a74, true))⟩, ⟨(some a76), .q (.ld1 z8), (some (a74, true))⟩, ⟨(some a77), .q (.ln .slice z76), (some (a74, true))⟩, ⟨(some a78), .q (.bi .neq z75 z77), (some (a74, true))⟩, (qq a79 (.pk z74 z78 xF)), (qq a80 (.mv z79)), ⟨(some a81), .q (.ld1 z10), (some (a80, false))⟩, ⟨(some a82), .q (.bi .eql z81 (x6 0)), (some (a80, false))⟩, ⟨(some a83), .q (.mv z82), (some (a80, false))⟩, ⟨(some a84), .q (.ld1 z11), (some (a83, true))⟩, ⟨(some a85), .q (.ld1 z8), (some (a83, true))⟩, ⟨(some a86), .q (.ln .slice z85), (some (a83, true))⟩, ⟨(some a87), .q (.bi .neq z84 z86), (some (a83, true))⟩, ⟨(some a88), .q (.pk z83 z87 xF), (some (a80, false))⟩, ⟨(some a89), .q (.mv z88), (some (a80, false))⟩, ⟨(some a90), .q (.ld1 z11), (some (a89, true))⟩, ⟨(some a91), .q (.ld1 z5), (some (a89, true))⟩, ⟨(some a92), .q (.bi .neq z90 z91), (some (a89, true))⟩, ⟨(some a93), .q (.pk z89 z92 xF), (some (a80, false))⟩, (qq a94 (.pk z80 xT z93))])
def w3_25 := wu b3_25.eq_1
def b3_26 : CC := (.reg [(ez (.st 1 z6 xF))])
def w3_26 := wu b3_26.eq_1
def b3_27 : CC := (.cond z94 (.seq b3_26 .ret) .skip)
def w3_27 := wu b3_27.eq_1
def b3_28 : CC := (.seq b3_13 (.seq (.seq b3_14 (.block 2 b3_24)) (.seq b3_25 b3_27)))
def w3_28 := wu b3_28.eq_1
def b3_29 : CC := (.reg [(qq a95 (.ld1 z10))])
def w3_29 := wu b3_29.eq_1
def b3_30 : CC := (.reg [(aa a10 (.al 3 [(.i .i64 0)])), (ez (.st 1 z10 z95))])
def w3_30 := wu b3_30.eq_1
def b3_31 : CC := (.reg [(qq a41 (.ld1 z10)), (qq a42 (.bi .add z41 (x6 1))), (ez (.st 1 z10 z42))])
def w3_31 := wu b3_31.eq_1
def b3_32 : CC := (.seq b3_12 (.seq (.block 1 b3_28) (.seq (.seq b3_29 b3_30) b3_31)))
def w3_32 := wu b3_32.eq_1
def b3_33 : CC := (.reg [(qq a97 (.mv z1)), (ee a98 (.call 7 [z97])), (qq a96 (.mv z98)), (qq a99 (.ex 0 z96)), (qq a100 (.ex 1 z96)), (qq a14 (.mv z99)), (qq a15 (.mv z100))])
def w3_33 := wu b3_33.eq_1
def b3_34 : CC := (.reg [(qq a102 (.mv z1)), (ee a103 (.call 8 [z102])), (qq a101 (.mv z103)), (qq a104 (.ex 0 z101)), (qq a105 (.ex 1 z101)), (qq a16 (.mv z104)), (qq a17 (.mv z105))])
def w3_34 := wu b3_34.eq_1
def b3_35 : CC := (.reg [(qq a106 (.mv z1)), (ee a107 (.call 9 [z106])), (qq a18 (.mv z107))])
def w3_35 := wu b3_35.eq_1
def b3_36 : CC := (.reg [(qq a109 (.mv z18)), (ee a110 (.call 7 [z109])), (qq a108 (.mv z110)), (qq a111 (.ex 0 z108)), (qq a112 (.ex 1 z108)), (qq a19 (.mv z111)), (qq a20 (.mv z112))])
def w3_36 := wu b3_36.eq_1
def b3_37 : CC := (.reg [(qq a113 (.mv z1)), (ee a114 (.call 10 [z113])), (qq a115 (.mv z1)), (ee a116 (.call 11 [z115])), (qq a117 (.eq false .bool false z114 z116)), (qq a118 (.mv z117)), ⟨(some a119), .q (.mv z14), (some (a118, true))⟩, ⟨(some a120), .q (.mv z16), (some (a118, true))⟩, ⟨(some a121), .q (.bi .eql z119 z120), (some (a118, true))⟩, (qq a122 (.pk z118 z121 xF)), (qq a123 (.mv z122)), ⟨(some a124), .q (.mv z15), (some (a123, true))⟩, ⟨(some a125), .e (.call 12 [z124]), (some (a123, true))⟩, ⟨(some a126), .q (.mv z17), (some (a123, true))⟩, ⟨(some a127), .q (.bi .eql z125 z126), (some (a123, true))⟩, (qq a128 (.pk z123 z127 xF)), (qq a129 (.mv z128)), ⟨(some a130), .q (.mv z18), (some (a129, true))⟩, ⟨(some a131), .q (.mv z1), (some (a129, true))⟩, ⟨(some a132), .e (.call 13 [z131]), (some (a129, true))⟩, ⟨(some a133), .q (.bi .eql z130 z132), (some (a129, true))⟩, (qq a134 (.pk z129 z133 xF)), (qq a135 (.mv z134)), ⟨(some a136), .q (.mv z19), (some (a135, true))⟩, ⟨(some a137), .q (.mv z1), (some (a135, true))⟩, ⟨(some a138), .q (.bi .eql z136 z137), (some (a135, true))⟩, (qq a139 (.pk z135 z138 xF)), (qq a140 (.mv z139)), ⟨(some a141), .q (.mv z20), (some (a140, true))⟩, ⟨(some a142), .e (.call 12 [z141]), (some (a140, true))⟩, ⟨(some a143), .q (.bi .eql z142 (x6 0)), (some (a140, true))⟩, (qq a144 (.pk z140 z143 xF)), (qq a145 (.mv z144)), ⟨(some a146), .e (.call 4 []), (some (a145, true))⟩, (qq a147 (.pk z145 z146 xF)), (ez (.st 1 z6 z147))])
def w3_37 := wu b3_37.eq_1
def b3_38 : CC := (.seq b3_33 (.seq b3_34 (.seq b3_35 (.seq b3_36 (.seq b3_37 .ret)))))
def w3_38 := wu b3_38.eq_1
def b3_39 : CC := (.seq (.seq b3_7 b3_9) (.seq (.seq b3_10 (.block 0 (.loop b3_32))) b3_38))
def w3_39 := wu b3_39.eq_1
def c3 : CF := .mk 8 [.c1 a6] (.seq b3_1 (.seq b3_4 (.seq b3_5 (.seq b3_6 b3_39))))
theorem e3 (v0 v1 v2 : V) : argTr 8 [v0, v1, v2] = (.n (.n sk6 (some v1) sk6) (some v0) (.n sk6 (some v2) sk6)) := rfl
def B3 := ai @e3 (ai @w3_1 (ai @w3_2 (ai @w3_3 (ai @w3_4 (ai @w3_5 (ai @w3_6 (ai @w3_7 (ai @w3_8 (ai @w3_9 (ai @w3_10 (ai @w3_11 (ai @w3_12 (ai @w3_13 (ai @w3_14 (ai @w3_15 (ai @w3_16 (ai @w3_17 (ai @w3_18 (ai @w3_19 (ai @w3_20 (ai @w3_21 (ai @w3_22 (ai @w3_23 (ai @w3_24 (ai @w3_25 (ai @w3_26 (ai @w3_27 (ai @w3_28 (ai @w3_29 (ai @w3_30 (ai @w3_31 (ai @w3_32 (ai @w3_33 (ai @w3_34 (ai @w3_35 (ai @w3_36 (ai @w3_37 (ai @w3_38 (@w3_39)))))))))))))))))))))))))))))))))))))))
theorem eqV_fn {F : RO} (lit : Bool) (M : Mem) (f : Nat) (a b : List V) : eqV F M .func lit (.f f a b) .f0 = some false := rfl
theorem takeDefs_all : ∀ {ds : List Nat} {M : Mem}, ds.Nodup → (∀ x ∈ ds, M.get x = some (.defs false)) → ∃ M', takeDefs ds M = some M' ∧ ∀ b, b ∉ ds → M'.get b = M.get b
 | [], M, _, _ => ⟨M, rfl, fun _ _ => rfl⟩
 | d :: r, M, hn, h => by
   rw [List.nodup_cons] at hn
   obtain ⟨M', h1, h2⟩ := takeDefs_all (ds := r) (M := M.set d (.defs true)) hn.2 (fun x hx => by
    rw [get_ne _ _ (by intro e; subst e; exact hn.1 hx)]
    exact h x (List.mem_cons_of_mem _ hx))
   refine ⟨M', by rw [takeDefs_one (h d (List.mem_cons_self ..))]; exact h1, fun b hb => ?_⟩
   rw [List.mem_cons, not_or] at hb
   rw [h2 b hb.2, get_ne _ _ hb.1]
theorem escB_len (b : UInt8) : (escB b).length ≤ 3 := by unfold escB; split <;> simp
theorem word_len3 (t : List UInt8) : (wordB t).length ≤ 3 * t.length + 1 := by
 have key : ∀ t : List UInt8, (t.flatMap escB).length ≤ 3 * t.length := by
  intro t
  induction t with
  | nil => exact Nat.le_refl _
  | cons a t ih => have := escB_len a; rw [List.flatMap_cons, List.length_append, List.length_cons]; omega
 unfold wordB
 split
 · simp
 · have := key t; omega
def h10 : List V → Option V
 | [v] => (asS v).bind fun l => if l.length ≤ 1000000 then some (V.b (labelOk l)) else none
 | _ => none
theorem h10_eq (l : List UInt8) (hl : l.length ≤ 1000000) : h10 [sV l] = some (V.b (labelOk l)) := by
 show (asS (sV l)).bind (fun l => if l.length ≤ 1000000 then some (V.b (labelOk l)) else none) = _
 rw [asS_s, Option.bind_some]; exact if_pos hl
theorem eqV_bb {F : RO} (lit : Bool) (M : Mem) (x : Bool) : eqV F M .bool lit (.b x) (.b x) = some true := by cases x <;> rfl
theorem UnP.pair {s : List UInt8} {r : V} (h : UnP s r) : ∃ (t : List UInt8) (n : Int), r = .t [sV t, .i .i64 n] := by
 rcases h with ⟨t, _, _, rfl⟩ | ⟨_, rfl⟩
 · exact ⟨t, 0, rfl⟩
 · exact ⟨[], 4, rfl⟩
theorem tail3 (Φ : Nat → Option CF) {L : List Tab} (h4 : Φ 4 = some (.orc (knownE L [1, 2]))) (h7 : Φ 7 = some c7) (h18 : Φ 18 = some c18) (h40 : Φ 40 = some c40) (h65 : Φ 65 = some (.orc (pureO h65))) (h41 : Φ 41 = some c41) (h67 : Φ 67 = some c67) (h68 : Φ 68 = some c68) (h106 : Φ 106 = some (.orc (pureO h106))) (h8 : Φ 8 = some c8) (h13 : Φ 13 = some (.orc (pureO Ev.h9))) (h19 : Φ 19 = some (.orc (pureO h19))) (h9 : Φ 9 = some (.orc (pureO Ev.h9))) (h10 : Φ 10 = some (.orc (pureO h10))) (h11 : Φ 11 = some (.orc (pureO Ev.h10))) (h12 : Φ 12 = some (.orc (pureO h12)))
  {F : RO} {M : Mem} {c cb : Nat} (ok : Okm F M c) (hc : 1000 ≤ c) (hlow : ∀ g, g < 1000 → M.get g = none) (ht : tabsIn F L = true) (he : errsIn F [1, 2] = true) (s : List UInt8) (hs : s.length ≤ 9000)
  (hcb : cb < c) (hb : M.get cb = some (rowB 4 [.b false])) (ds : List Nat) (hnd : ds.Nodup) (hds : ∀ x ∈ ds, x < c ∧ M.get x = some (.defs false)) (u : List (Option V)) :
  Wp b3_38 (K Φ none 3 F) (.mk ((.n (.n (.n (.n (.n (uv7 u 127 63 191 31 159 95 223) (uO u 15) (uv7 u 143 79 207 47 175 111 239)) (uO u 7) (.n (uv7 u 135 71 199 39 167 103 231) (uO u 23) (uv7 u 151 87 215 55 183 119 247))) (uO u 3) (.n (.n (uv7 u 131 67 195 35 163 99 227) (uO u 19) (uv7 u 147 83 211 51 179 115 243)) (uO u 11) (.n (uv7 u 139 75 203 43 171 107 235) (uO u 27) (uv7 u 155 91 219 59 187 123 251)))) (some (sV s)) (.n (.n (.n (uv7 u 129 65 193 33 161 97 225) (uO u 17) (uv7 u 145 81 209 49 177 113 241)) (uO u 9) (.n (uv7 u 137 73 201 41 169 105 233) (uO u 25) (uv7 u 153 89 217 57 185 121 249))) (uO u 5) (.n (.n (uv7 u 133 69 197 37 165 101 229) (uO u 21) (uv7 u 149 85 213 53 181 117 245)) (uO u 13) (.n (uv7 u 141 77 205 45 173 109 237) (uO u 29) (uv7 u 157 93 221 61 189 125 253))))) (uO u 0) (.n (.n (.n (.n (uv7 u 128 64 192 32 160 96 224) (uO u 16) (uv7 u 144 80 208 48 176 112 240)) (uO u 8) (.n (uv7 u 136 72 200 40 168 104 232) (uO u 24) (uv7 u 152 88 216 56 184 120 248))) (uO u 4) (.n (.n (uv7 u 132 68 196 36 164 100 228) (uO u 20) (uv7 u 148 84 212 52 180 116 244)) (uO u 12) (.n (uv7 u 140 76 204 44 172 108 236) (uO u 28) (uv7 u 156 92 220 60 188 124 252)))) (uO u 2) (.n (.n (.n (uv7 u 130 66 194 34 162 98 226) (uO u 18) (uv7 u 146 82 210 50 178 114 242)) (uO u 10) (.n (uv7 u 138 74 202 42 170 106 234) (uO u 26) (uv7 u 154 90 218 58 186 122 250))) (some (.p cb 0)) (.n (.n (uv7 u 134 70 198 38 166 102 230) (uO u 22) (uv7 u 150 86 214 54 182 118 246)) (uO u 14) (.n (uv7 u 142 78 206 46 174 110 238) (uO u 30) (uv7 u 158 94 222 62 190 126 254))))))) ds M c) (endQ F [.c1 (.r (.r .h))] fun r _ _ => r = .b true) := by
 have hkn := fun M c => knownE_nil ht he M c
 have hE1 : ErrVar F 1 := errVar_in (by obtain ⟨_, ty, t, b, o, hq⟩ := errsIn_mem he 1 (List.mem_cons_self ..); rw [hq]; rfl)
 have hE2 : ErrVar F 2 := errVar_in (by obtain ⟨_, ty, t, b, o, hq⟩ := errsIn_mem he 2 (List.mem_cons_of_mem _ (List.mem_cons_self ..)); rw [hq]; rfl)
 simp only [WX, Nat.reducePow, Nat.reduceDiv, Nat.reduceMod, Nat.reduceBEq, Nat.reduceEqDiff, Int.reduceEq, Int.reduceLT, Int.reduceLE, reduceIte, reduceCtorEq, Nat.reduceAdd, Nat.reduceLeDiff, wd_e1, B3]
 refine putE_to ((r7 Φ h7 h9 h18 h40 h65 h41 h67 h68 h106 ok hE1 hE2 hlow s (by omega)).mono ?_)
 rintro r1 M1 c1 ⟨u1, g1⟩
 have ok1 := g1.ok ok
 obtain ⟨t1, n1, rfl⟩ := u1.pair
 simp only [WX, Nat.reducePow, Nat.reduceDiv, Nat.reduceMod, Nat.reduceBEq, Nat.reduceEqDiff, Int.reduceEq, Int.reduceLT, Int.reduceLE, reduceIte, reduceCtorEq, Nat.reduceAdd, Nat.reduceLeDiff, wd_e1, B3]
 refine putE_to ((r8 Φ h8 h13 h19 ok1 s (by omega)).mono ?_)
 rintro r2 M2 c2 ⟨u2, g2⟩
 have ok2 := g2.ok ok1
 obtain rfl := un_uniq u1 u2
 have g12 := g1.trans g2
 have w3 := word_len3 s
 simp only [WX, Nat.reducePow, Nat.reduceDiv, Nat.reduceMod, Nat.reduceBEq, Nat.reduceEqDiff, Int.reduceEq, Int.reduceLT, Int.reduceLE, reduceIte, reduceCtorEq, Nat.reduceAdd, Nat.reduceLeDiff, wd_e1, B3, h9, h9_eq s (by omega)]
 refine putE_to ((r7 Φ h7 h9 h18 h40 h65 h41 h67 h68 h106 ok2 hE1 hE2 (fun g hg => (g12.old g (by omega)).trans (hlow g hg)) (wordB s) (by omega)).mono ?_)
 rintro r3 M3 c3 ⟨u3, g3⟩
 obtain rfl := un_word u3
 have g13 := g12.trans g3
 have hst4 := store_row ((g13.old cb hcb).trans hb) 0 [.b true] (by simp) rfl
 obtain ⟨M', e, hM'⟩ := takeDefs_all (M := M3.set cb (rowB 4 [.b true])) hnd (fun x hx => by
  have := hds x hx
  rw [get_ne _ _ (fun e => by subst e; rw [hb] at this; cases this.2), g13.old x this.1]; exact this.2)
 have hres : load1 F M' cb 0 = some (.b true) := by
  have : M'.get cb = some (rowB 4 [.b true]) := by
   rw [hM' cb (fun hx => by have := (hds _ hx).2; rw [hb] at this; cases this)]; exact get_same _ _ _
  exact load_row this 0
 have q1 : biV .eql (sV t1) (sV t1) = some (.b true) := by rw [bi_seq, decide_eq_true rfl]
 have q2 : biV .eql (sV (wordB s)) (sV (wordB s)) = some (.b true) := by rw [bi_seq, decide_eq_true rfl]
 have q3 : biV .eql (sV s) (sV s) = some (.b true) := by rw [bi_seq, decide_eq_true rfl]
 simp only [WX, Nat.reducePow, Nat.reduceDiv, Nat.reduceMod, Nat.reduceBEq, Nat.reduceEqDiff, Int.reduceEq, Int.reduceLT, Int.reduceLE, reduceIte, reduceCtorEq, Nat.reduceAdd, Nat.reduceLeDiff, wd_e1, B3, h10, h11, h10_eq s (by omega), eqV_bb, q1, h12, h12_eq, eq_self, h13, h9_eq s (by omega), q2, q3, h4, hkn, hst4, endQ_ret1, e, endD_some, resV_c1, hres]
theorem l3 (Φ : Nat → Option CF) (h : Φ 3 = some c3) {L : List Tab} (h4 : Φ 4 = some (.orc (knownE L [1, 2]))) (h5 : Φ 5 = some c5) (h16 : Φ 16 = some c16) (h17 : Φ 17 = some (.orc (pureO h39))) (h6 : Φ 6 = some c6) (h7 : Φ 7 = some c7) (h18 : Φ 18 = some c18) (h40 : Φ 40 = some c40) (h65 : Φ 65 = some (.orc (pureO h65))) (h41 : Φ 41 = some c41) (h67 : Φ 67 = some c67) (h68 : Φ 68 = some c68) (h106 : Φ 106 = some (.orc (pureO h106))) (h8 : Φ 8 = some c8) (h13 : Φ 13 = some (.orc (pureO Ev.h9))) (h19 : Φ 19 = some (.orc (pureO h19))) (h9 : Φ 9 = some (.orc (pureO Ev.h9))) (h10 : Φ 10 = some (.orc (pureO h10))) (h11 : Φ 11 = some (.orc (pureO Ev.h10))) (h12 : Φ 12 = some (.orc (pureO h12)))
  {F : RO} {M : Mem} {c : Nat} (lv : Int) (ok : Okm F M c) (hc : 1000 ≤ c) (hlow : ∀ g, g < 1000 → M.get g = none) (ht : tabsIn F L = true) (he : errsIn F [1, 2] = true) (l s : List UInt8) :
  Calls Φ F 3 [sV l, sV s, .i .i64 lv] M c fun r _ _ => r = .b true := by
 have hkn := fun M c => knownE_nil ht he M c
 refine calls_walk h ?_
 by_cases hlen : 9000 < l.length
 · have hd : decide ((9000 : Int) < (l.length : Int)) = true := decide_eq_true (by omega)
   simp only [WX, Nat.reducePow, Nat.reduceDiv, Nat.reduceMod, Nat.reduceBEq, Nat.reduceEqDiff, Int.reduceEq, Int.reduceLT, Int.reduceLE, reduceIte, reduceCtorEq, Nat.reduceAdd, Nat.reduceLeDiff, wd_e1, B3, lnSs, hd, h4, hkn]
 · have hd : decide ((9000 : Int) < (l.length : Int)) = false := decide_eq_false (by omega)
   by_cases hlen2 : 9000 < s.length
   · have hd2 : decide ((9000 : Int) < (s.length : Int)) = true := decide_eq_true (by omega)
     simp only [WX, Nat.reducePow, Nat.reduceDiv, Nat.reduceMod, Nat.reduceBEq, Nat.reduceEqDiff, Int.reduceEq, Int.reduceLT, Int.reduceLE, reduceIte, reduceCtorEq, Nat.reduceAdd, Nat.reduceLeDiff, wd_e1, B3, lnSs, hd, hd2, h4, hkn]
   · have hd2 : decide ((9000 : Int) < (s.length : Int)) = false := decide_eq_false (by omega)
     have hX : Gr c M (c + 2) ((M.set c (rowB 3 [.i .i64 lv])).set (c + 1) (rowB 4 [.b false])) := ((Gr.refl ok).set c _ (Nat.le_refl _) (Nat.lt_succ_self _) (Nat.le_succ _)).set (c + 1) _ (by omega) (by omega) (by omega)
     have g3 : ((M.set c (rowB 3 [V.i .i64 lv])).set (c + 1) (rowB 4 [V.b false])).get c = some (rowB 3 [.i .i64 lv]) := by rw [get_ne _ _ (by omega), get_same]
     have g4 : ((M.set c (rowB 3 [V.i .i64 lv])).set (c + 1) (rowB 4 [V.b false])).get (c + 1) = some (rowB 4 [.b false]) := get_same _ _ _
     simp only [WX, Nat.reducePow, Nat.reduceDiv, Nat.reduceMod, Nat.reduceBEq, Nat.reduceEqDiff, Int.reduceEq, Int.reduceLT, Int.reduceLE, reduceIte, reduceCtorEq, Nat.reduceAdd, Nat.reduceLeDiff, wd_e1, B3, lnSs, hd, hd2]
     generalize (M.set c (rowB 3 [V.i .i64 lv])).set (c + 1) (rowB 4 [V.b false]) = X at hX g3 g4 ⊢
     have okX := hX.ok ok
     refine putE_to ((r5 Φ h5 okX l).mono ?_)
     rintro v2 M2 c2 ⟨pb, rfl, hpb1, hpb2, hbox, hg2⟩
     have ok2 := hg2.ok okX
     simp only [WX, Nat.reducePow, Nat.reduceDiv, Nat.reduceMod, Nat.reduceBEq, Nat.reduceEqDiff, Int.reduceEq, Int.reduceLT, Int.reduceLE, reduceIte, reduceCtorEq, Nat.reduceAdd, Nat.reduceLeDiff, wd_e1, B3]
     refine putE_to ((r6 Φ h6 ok2 l (by omega)).mono ?_)
     rintro wx M3 c3 ⟨ws, xx, rfl, hws, hg3⟩
     have ok3 := hg3.ok ok2
     obtain ⟨w1, w2⟩ : isOne ws = true ∧ flatten ws = [ws] := by
      rcases hws with ⟨_, ⟨_, rfl | ⟨b, o0, o, rfl⟩⟩ | ⟨b, o, ⟨cap, _, rfl⟩ | ⟨el, kn, _, rfl⟩, _⟩⟩ <;> exact ⟨rfl, rfl⟩
     simp only [WX, Nat.reducePow, Nat.reduceDiv, Nat.reduceMod, Nat.reduceBEq, Nat.reduceEqDiff, Int.reduceEq, Int.reduceLT, Int.reduceLE, reduceIte, reduceCtorEq, Nat.reduceAdd, Nat.reduceLeDiff, wd_e1, B3, w1, w2, eqV_fn]
     -- the memory from here on
     have hle2 := hg2.le
     have hle3 := hg3.le
     have gZ : Gr c3 M3 (c3 + 1) (M3.set c3 (rowB 26 [ws])) := (Gr.refl ok3).set c3 _ (Nat.le_refl _) (Nat.lt_succ_self _) (Nat.le_succ _)
     have gY : Gr (c + 2) X (c3 + 1) (M3.set c3 (rowB 26 [ws])) := (hg2.trans hg3).trans gZ
     have gW : Gr c M (c3 + 1) (M3.set c3 (rowB 26 [ws])) := hX.trans gY
     have z3 := (gY.old c (by omega)).trans g3
     have z4 := (gY.old (c + 1) (by omega)).trans g4
     have zp := (gZ.old pb (by omega)).trans ((hg3.old pb hpb2).trans hbox)
     have z7 : (M3.set c3 (rowB 26 [ws])).get c3 = some (rowB 26 [ws]) := get_same _ _ _
     have okZ := gZ.ok ok3
     have zs := hws.grow gZ
     have zlow : ∀ g, g < 1000 → (M3.set c3 (rowB 26 [ws])).get g = none := fun g hg => (gW.old g (by omega)).trans (hlow g hg)
     clear hws hg3 hg2 gZ gY gW hX g3 g4 hbox w1 w2 ok3 ok2 okX hd hd2
     generalize M3.set c3 (rowB 26 [ws]) = Z at z3 z4 zp z7 okZ zs zlow ⊢
     have hpl := lns_len l []
     obtain ⟨I2, hI2⟩ : ∃ I : Nat → St → Prop, ∀ n s', I n s' ↔ (∃ (turn tb : Nat) (M1 : Mem) (c1 : Nat) (ds : List Nat) (u : List (Option V)), n = 2 - turn ∧ turn ≤ 2 ∧ s' = .mk ((.n (.n (.n (.n (.n (uv7 u 127 63 191 31 159 95 223) (uO u 15) (uv7 u 143 79 207 47 175 111 239)) (some (.f 16 [] [.p pb 0])) (.n (uv7 u 135 71 199 39 167 103 231) (uO u 23) (uv7 u 151 87 215 55 183 119 247))) (uO u 3) (.n (.n (uv7 u 131 67 195 35 163 99 227) (uO u 19) (uv7 u 147 83 211 51 179 115 243)) (uO u 11) (.n (uv7 u 139 75 203 43 171 107 235) (uO u 27) (uv7 u 155 91 219 59 187 123 251)))) (some (sV s)) (.n (.n (.n (uv7 u 129 65 193 33 161 97 225) (uO u 17) (uv7 u 145 81 209 49 177 113 241)) (uO u 9) (.n (uv7 u 137 73 201 41 169 105 233) (uO u 25) (uv7 u 153 89 217 57 185 121 249))) (some (.p c 0)) (.n (.n (uv7 u 133 69 197 37 165 101 229) (uO u 21) (uv7 u 149 85 213 53 181 117 245)) (uO u 13) (.n (uv7 u 141 77 205 45 173 109 237) (uO u 29) (uv7 u 157 93 221 61 189 125 253))))) (uO u 0) (.n (.n (.n (.n (uv7 u 128 64 192 32 160 96 224) (uO u 16) (uv7 u 144 80 208 48 176 112 240)) (some (.p c3 0)) (.n (uv7 u 136 72 200 40 168 104 232) (uO u 24) (uv7 u 152 88 216 56 184 120 248))) (uO u 4) (.n (.n (uv7 u 132 68 196 36 164 100 228) (uO u 20) (uv7 u 148 84 212 52 180 116 244)) (uO u 12) (.n (uv7 u 140 76 204 44 172 108 236) (uO u 28) (uv7 u 156 92 220 60 188 124 252)))) (uO u 2) (.n (.n (.n (uv7 u 130 66 194 34 162 98 226) (uO u 18) (uv7 u 146 82 210 50 178 114 242)) (some (.p tb 0)) (.n (uv7 u 138 74 202 42 170 106 234) (uO u 26) (uv7 u 154 90 218 58 186 122 250))) (some (.p (c + 1) 0)) (.n (.n (uv7 u 134 70 198 38 166 102 230) (uO u 22) (uv7 u 150 86 214 54 182 118 246)) (uO u 14) (.n (uv7 u 142 78 206 46 174 110 238) (uO u 30) (uv7 u 158 94 222 62 190 126 254))))))) ds M1 c1 ∧ Gr (c3 + 1) Z c1 M1 ∧ c3 + 1 ≤ tb ∧ tb < c1 ∧ M1.get tb = some (rowB 3 [.i .i64 (turn : Int)]) ∧ ds.Nodup ∧ ∀ x ∈ ds, c3 + 1 ≤ x ∧ x < c1 ∧ M1.get x = some (.defs false)) := ⟨fun n s => _, fun _ _ => Iff.rfl⟩
     refine wp_while I2 ?_ 2 _ ((hI2 _ _).2 ⟨0, c3 + 1, _, _, [], [_, none, _, _, _, none, none, none, none, _, none, _, _, _, _, _, _, _, _, _, _, _, _, _, _, _, _, _, _, _, _, _, _, _, _, _, _, _, _, _, _, _, _, _, _, _, _, _, _, _, _, _, _, _, _, _, _, _, _, _, _, _, _, _, _, _, _, _, _, _, _, _, _, _, _, _, _, _, _, _, _, _, _, _, _, _, _, _, _, _, _, _, _, _, _, _, _, _, _, _, _, _, _, _, _, _, _, _, _, _, _, _, _, _, _, _, _, _, _, _, _, _, _, _, _, _, _, _, _, _, _, _, _, _, _, _, _, _, _, _, _, _, _, _, _, _, _, _, _, _, _, _, _, _, _, _, _, _, _, _, _, _, _, _, _, _, _, _, _, _, _, _, _, _, _, _, _, _, _, _, _, _, _, _, _, _, _, _, _, _, _, _, _, _, _, _, _, _, _, _, _, _, _, _, _, _, _, _, _, _, _, _, _, _, _, _, _, _, _, _, _, _, _, _, _, _, _, _, _, _, _, _, _, _, _, _, _, _, _, _, _, _, _, _, _, _, _, _, _, _, _, _, _, _, _], rfl, by omega, rfl, (Gr.refl okZ).set (c3 + 1) _ (Nat.le_refl _) (by omega) (by omega), Nat.le_refl _, by omega, get_same _ _ _, List.nodup_nil, fun x hx => (by cases hx)⟩)
     intro n s' hIs
     obtain ⟨turn, tb, M1, c1', ds, u, rfl, hturn, rfl, hg, htb1, htb2, hgt, hnd, hds⟩ := (hI2 _ _).1 hIs
     clear hIs
     have hgle := hg.le
     have ldt : load1 F M1 tb 0 = some (.i .i64 (turn : Int)) := by rw [set_same hgt, load1_same]; rfl
     by_cases ht2 : turn < 2
     · have hd2 : decide ((turn : Int) < 2) = true := decide_eq_true (by omega)
       simp only [WX, Nat.reducePow, Nat.reduceDiv, Nat.reduceMod, Nat.reduceBEq, Nat.reduceEqDiff, Int.reduceEq, Int.reduceLT, Int.reduceLE, reduceIte, reduceCtorEq, Nat.reduceAdd, Nat.reduceLeDiff, wd_e1, B3, ldt, hd2]
       refine wp_rf0 ?_
       simp only [WX, Nat.reducePow, Nat.reduceDiv, Nat.reduceMod, Nat.reduceBEq, Nat.reduceEqDiff, Int.reduceEq, Int.reduceLT, Int.reduceLE, reduceIte, reduceCtorEq, Nat.reduceAdd, Nat.reduceLeDiff, wd_e1, B3, callI_f]
       obtain ⟨BL, hBL⟩ : ∃ BL : LS → Pend → Blk, BL = fun s' p => Blk.loop s' p 3 ((.n (.n (.n (.n (.n (uv7 u 127 63 191 31 159 95 223) (uO u 15) (uv7 u 143 79 207 47 175 111 239)) (some (.f 16 [] [.p pb 0])) (.n (.n (uv3 u 135 71 199) (some (.i .i64 (turn : Int))) (uv3 u 167 103 231)) (uO u 23) (uv7 u 151 87 215 55 183 119 247))) (uO u 3) (.n (.n (uv7 u 131 67 195 35 163 99 227) (uO u 19) (uv7 u 147 83 211 51 179 115 243)) (some (.p c1' 0)) (.n (.n (uv3 u 139 75 203) (some (.f 16 [] [.p pb 0])) (uv3 u 171 107 235)) (uO u 27) (uv7 u 155 91 219 59 187 123 251)))) (some (sV s)) (.n (.n (.n (uv7 u 129 65 193 33 161 97 225) (uO u 17) (uv7 u 145 81 209 49 177 113 241)) (uO u 9) (.n (uv7 u 137 73 201 41 169 105 233) (uO u 25) (uv7 u 153 89 217 57 185 121 249))) (some (.p c 0)) (.n (.n (uv7 u 133 69 197 37 165 101 229) (uO u 21) (uv7 u 149 85 213 53 181 117 245)) (uO u 13) (.n (uv7 u 141 77 205 45 173 109 237) (uO u 29) (uv7 u 157 93 221 61 189 125 253))))) (uO u 0) (.n (.n (.n (.n (uv7 u 128 64 192 32 160 96 224) (uO u 16) (uv7 u 144 80 208 48 176 112 240)) (some (.p c3 0)) (.n (.n (uv3 u 136 72 200) (some (.b true)) (uv3 u 168 104 232)) (uO u 24) (uv7 u 152 88 216 56 184 120 248))) (uO u 4) (.n (.n (uv7 u 132 68 196 36 164 100 228) (uO u 20) (uv7 u 148 84 212 52 180 116 244)) (uO u 12) (.n (uv7 u 140 76 204 44 172 108 236) (uO u 28) (uv7 u 156 92 220 60 188 124 252)))) (uO u 2) (.n (.n (.n (uv7 u 130 66 194 34 162 98 226) (uO u 18) (uv7 u 146 82 210 50 178 114 242)) (some (.p tb 0)) (.n (uv7 u 138 74 202 42 170 106 234) (uO u 26) (uv7 u 154 90 218 58 186 122 250))) (some (.p (c + 1) 0)) (.n (.n (uv7 u 134 70 198 38 166 102 230) (uO u 22) (uv7 u 150 86 214 54 182 118 246)) (uO u 14) (.n (uv7 u 142 78 206 46 174 110 238) (uO u 30) (uv7 u 158 94 222 62 190 126 254))))))) [(.r (.l (.r (.r (.l .h))))), (.l (.r (.r (.r (.l .h)))))] (b3_15.seq b3_16) b3_23 (c1' + 1) := ⟨_, rfl⟩
       obtain ⟨Ik, hIk⟩ : ∃ I : Nat → Mem → Nat → Prop, ∀ k M cc, I k M cc ↔ (Gr (c3 + 1) Z cc M ∧ c1' + 3 ≤ cc ∧ M.get tb = some (rowB 3 [.i .i64 (turn : Int)]) ∧ M.get c1' = some (rowB 3 [.i .i64 (k : Int)]) ∧ M.get (c1' + 2) = some (BL .ready .none) ∧ (∀ x ∈ (c1' + 1) :: ds, M.get x = some (.defs false)) ∧ k ≤ (lns l).length) := ⟨fun k M cc => _, fun _ _ _ => Iff.rfl⟩
       obtain ⟨J, hJ⟩ : ∃ J : Mem → Nat → Prop, ∀ M cc, J M cc ↔ (∃ k : Nat, Gr (c3 + 1) Z cc M ∧ c1' + 3 ≤ cc ∧ M.get tb = some (rowB 3 [.i .i64 (turn : Int)]) ∧ M.get c1' = some (rowB 3 [.i .i64 (k : Int)]) ∧ M.get (c1' + 2) = some (BL .done (.ext 2)) ∧ (∀ x ∈ (c1' + 1) :: ds, M.get x = some (.defs false)) ∧ turn = 0 ∧ (k : Int) = lv) := ⟨fun M cc => _, fun _ _ => Iff.rfl⟩
       refine (r16 Φ h16 h17 (y := c1' + 2) (pb := pb) (l := l) (by omega) ?_ (I := Ik) (J := J) ?_ ?_).mono ?_
       · rw [get_ne _ _ (by omega), get_ne _ _ (by omega), get_ne _ _ (by omega)]; exact (hg.old pb (by omega)).trans zp
       · refine (hIk _ _ _).2 ⟨((hg.set c1' _ (by omega) (Nat.lt_succ_self _) (by omega)).set (c1' + 1) _ (by omega) (Nat.lt_succ_self _) (by omega)).set (c1' + 1 + 1) _ (by omega) (by omega) (by omega), by omega, ?_, ?_, ?_, ?_, Nat.zero_le _⟩
         · rw [get_ne _ _ (by omega), get_ne _ _ (by omega), get_ne _ _ (by omega)]; exact hgt
         · rw [get_ne _ _ (by omega), get_ne _ _ (by omega)]; exact get_same _ _ _
         · rw [hBL]; exact get_same _ _ _
         · intro x hx
           rcases List.mem_cons.1 hx with rfl | hx
           · rw [get_ne _ _ (by omega)]; exact get_same _ _ _
           · have := hds x hx
             rw [get_ne _ _ (by omega), get_ne _ _ (by omega), get_ne _ _ (by omega)]; exact this.2.2
       · intro k M2 cc hklt hi
         obtain ⟨a1, a2, a3, a4, a5, a6, a7⟩ := (hIk _ _ _).1 hi
         have hl5 := a5
         rw [hBL] at hl5
         refine yield_of hl5 (setParams_two _ _ _ _ _) ?_
         simp only [WX, Nat.reducePow, Nat.reduceDiv, Nat.reduceMod, Nat.reduceBEq, Nat.reduceEqDiff, Int.reduceEq, Int.reduceLT, Int.reduceLE, reduceIte, reduceCtorEq, Nat.reduceAdd, Nat.reduceLeDiff, wd_e1, B3]
         refine asgQ_of hl5 ?_
         have gMB := a1.set (c1' + 2) (BL .busy .none) (by omega) (by omega) (Nat.le_refl _)
         have m_y : (M2.set (c1' + 2) (BL .busy .none)).get (c1' + 2) = some (BL .busy .none) := get_same _ _ _
         have m_o : ∀ b, b < cc → b ≠ c1' + 2 → (M2.set (c1' + 2) (BL .busy .none)).get b = M2.get b := fun b h1 h2 => get_ne _ _ h2
         rw [show Blk.loop LS.busy _ _ _ _ _ _ _ = BL .busy .none by rw [hBL]]
         generalize M2.set (c1' + 2) (BL .busy .none) = MB at gMB m_y m_o ⊢
         have m_t := (m_o tb (by omega) (by omega)).trans a3
         have m_n := (m_o c1' (by omega) (by omega)).trans a4
         have m_7 := (gMB.old c3 (by omega)).trans z7
         have m_c := (gMB.old c (by omega)).trans z3
         have m_d : ∀ x ∈ (c1' + 1) :: ds, MB.get x = some (.defs false) := fun x hx => by
          have hxc : x < cc ∧ x ≠ c1' + 2 := by
           rcases List.mem_cons.1 hx with rfl | hx
           · omega
           · have := hds x hx; omega
          exact (m_o x hxc.1 hxc.2).trans (a6 x hx)
         have l_t : load1 F MB tb 0 = some (.i .i64 (turn : Int)) := load_row m_t 0
         have l_n : load1 F MB c1' 0 = some (.i .i64 (k : Int)) := load_row m_n 0
         have l_7 : load1 F MB c3 0 = some ws := load_row m_7 0
         have l_c : load1 F MB c 0 = some (.i .i64 lv) := load_row m_c 0
         have sMB := zs.grow gMB
         have hlw := str_len sMB
         obtain ⟨wb, wo, _, hia, hld⟩ := str_at sMB k hklt
         have hia := hia .i64
         have q0 : biV .neq (sV (lns l)[k]) (sV (lns l)[k]) = some (.b false) := by rw [bi_sne, decide_eq_true rfl]; rfl
         have q1 : decide (((lns l).length : Int) ≤ (k : Int)) = false := decide_eq_false (by omega)
         have hk9 : k < 9001 := by have : (lns l).length ≤ l.length := hpl; omega
         have q3 : biV .add (.i .i64 (k : Int)) (.i .i64 1) = some (.i .i64 ((k + 1 : Nat) : Int)) := by rw [i64_add _ _ (by omega) (by omega)]; simp
         have hst := store_row m_n 0 [.i .i64 ((k + 1 : Nat) : Int)] (by simp) rfl
         have n_t : tb ≠ c1' := by omega
         have hly : (MB.set c1' (rowB 3 [V.i .i64 ((k + 1 : Nat) : Int)])).get (c1' + 2) = some (BL .busy .none) := (get_ne _ _ (by omega)).trans m_y
         rw [hBL] at hly
         have n_c : c ≠ c1' := by omega
         have gMB2 := gMB.set c1' (rowB 3 [.i .i64 ((k + 1 : Nat) : Int)]) (by omega) (by omega) (Nat.le_refl _)
         have fin : ∀ s p, Gr (c3 + 1) Z cc ((MB.set c1' (rowB 3 [.i .i64 ((k + 1 : Nat) : Int)])).set (c1' + 2) (BL s p)) ∧ ((MB.set c1' (rowB 3 [.i .i64 ((k + 1 : Nat) : Int)])).set (c1' + 2) (BL s p)).get tb = some (rowB 3 [.i .i64 (turn : Int)]) ∧ ((MB.set c1' (rowB 3 [.i .i64 ((k + 1 : Nat) : Int)])).set (c1' + 2) (BL s p)).get c1' = some (rowB 3 [.i .i64 ((k + 1 : Nat) : Int)]) ∧ ((MB.set c1' (rowB 3 [.i .i64 ((k + 1 : Nat) : Int)])).set (c1' + 2) (BL s p)).get (c1' + 2) = some (BL s p) ∧ ∀ x ∈ (c1' + 1) :: ds, ((MB.set c1' (rowB 3 [.i .i64 ((k + 1 : Nat) : Int)])).set (c1' + 2) (BL s p)).get x = some (.defs false) := by
          intro s p
          refine ⟨gMB2.set (c1' + 2) _ (by omega) (by omega) (Nat.le_refl _), ?_, ?_, get_same _ _ _, fun x hx => ?_⟩
          · rw [get_ne _ _ (by omega), get_ne _ _ (by omega)]; exact m_t
          · rw [get_ne _ _ (by omega)]; exact get_same _ _ _
          · have hxc : x ≠ c1' ∧ x ≠ c1' + 2 := by
             rcases List.mem_cons.1 hx with rfl | hx
             · omega
             · have := hds x hx; omega
            rw [get_ne _ _ hxc.2, get_ne _ _ hxc.1]; exact m_d x hx
         by_cases ht0 : turn = 0
         · have d0 : decide ((turn : Int) = 0) = true := decide_eq_true (by omega)
           by_cases hlv : ((k + 1 : Nat) : Int) = lv
           · have d1 : decide (((k + 1 : Nat) : Int) = lv) = true := decide_eq_true hlv
             simp only [WX, Nat.reducePow, Nat.reduceDiv, Nat.reduceMod, Nat.reduceBEq, Nat.reduceEqDiff, Int.reduceEq, Int.reduceLT, Int.reduceLE, reduceIte, reduceCtorEq, Nat.reduceAdd, Nat.reduceLeDiff, wd_e1, B3, l_t, l_n, l_7, l_c, hlw, hia, hld, q0, q1, q3, hst, n_t, n_c, d0, d1, eq_self, ne_eq, not_true_eq_false, not_false_eq_true]
             refine yq_ext hly ?_
             refine Or.inr ⟨rfl, (hJ _ _).2 ⟨k + 1, ?_⟩⟩
             rw [show Blk.loop LS.done _ _ _ _ _ _ _ = BL .done (.ext 2) by rw [hBL]]
             obtain ⟨f1, f2, f3, f4, f5⟩ := fin .done (.ext 2)
             exact ⟨f1.up (by omega), by omega, f2, f3, f4, f5, ht0, hlv⟩
           · have d1 : decide (((k + 1 : Nat) : Int) = lv) = false := decide_eq_false hlv
             simp only [WX, Nat.reducePow, Nat.reduceDiv, Nat.reduceMod, Nat.reduceBEq, Nat.reduceEqDiff, Int.reduceEq, Int.reduceLT, Int.reduceLE, reduceIte, reduceCtorEq, Nat.reduceAdd, Nat.reduceLeDiff, wd_e1, B3, l_t, l_n, l_7, l_c, hlw, hia, hld, q0, q1, q3, hst, n_t, n_c, d0, d1, eq_self, ne_eq, not_true_eq_false, not_false_eq_true]
             refine yq_nrm hly ?_
             refine Or.inl ⟨rfl, (hIk _ _ _).2 ?_⟩
             rw [show Blk.loop LS.ready _ _ _ _ _ _ _ = BL .ready .none by rw [hBL]]
             obtain ⟨f1, f2, f3, f4, f5⟩ := fin .ready .none
             exact ⟨f1.up (by omega), by omega, f2, f3, f4, f5, hklt⟩
         · have d0 : decide ((turn : Int) = 0) = false := decide_eq_false (by omega)
           simp only [WX, Nat.reducePow, Nat.reduceDiv, Nat.reduceMod, Nat.reduceBEq, Nat.reduceEqDiff, Int.reduceEq, Int.reduceLT, Int.reduceLE, reduceIte, reduceCtorEq, Nat.reduceAdd, Nat.reduceLeDiff, wd_e1, B3, l_t, l_n, l_7, l_c, hlw, hia, hld, q0, q1, q3, hst, n_t, n_c, d0, eq_self, ne_eq, not_true_eq_false, not_false_eq_true]
           refine yq_nrm hly ?_
           refine Or.inl ⟨rfl, (hIk _ _ _).2 ?_⟩
           rw [show Blk.loop LS.ready _ _ _ _ _ _ _ = BL .ready .none by rw [hBL]]
           obtain ⟨f1, f2, f3, f4, f5⟩ := fin .ready .none
           exact ⟨f1.up (by omega), by omega, f2, f3, f4, f5, hklt⟩
       · intro v' M2 cc hij
         obtain ⟨k, ps, pp, e1, e2, e3, e4, e5, e6, hps, hor⟩ : ∃ (k : Nat) (s : LS) (p : Pend), Gr (c3 + 1) Z cc M2 ∧ c1' + 3 ≤ cc ∧ M2.get tb = some (rowB 3 [.i .i64 (turn : Int)]) ∧ M2.get c1' = some (rowB 3 [.i .i64 (k : Int)]) ∧ M2.get (c1' + 2) = some (BL s p) ∧ (∀ x ∈ (c1' + 1) :: ds, M2.get x = some (.defs false)) ∧ s ≠ .busy ∧ ((p = .none ∧ k = (lns l).length) ∨ (p = .ext 2 ∧ turn = 0 ∧ (k : Int) = lv)) := by
          rcases hij with hi | hj
          · obtain ⟨a1, a2, a3, a4, a5, a6, a7⟩ := (hIk _ _ _).1 hi
            exact ⟨_, _, _, a1, a2, a3, a4, a5, a6, (by intro h; cases h), .inl ⟨rfl, rfl⟩⟩
          · obtain ⟨k, a1, a2, a3, a4, a5, a6, a7, a8⟩ := (hJ _ _).1 hj
            exact ⟨k, _, _, a1, a2, a3, a4, a5, a6, (by intro h; cases h), .inr ⟨rfl, a7, a8⟩⟩
         have hl5 := e5
         rw [hBL] at hl5
         refine ⟨_, _, _, _, _, _, _, _, hl5, hps, ?_⟩
         have gX := e1.set (c2 := cc) (c1' + 2) (BL .exhausted pp) (by omega) (by omega) (Nat.le_refl _)
         have x_t : (M2.set (c1' + 2) (BL .exhausted pp)).get tb = some (rowB 3 [.i .i64 (turn : Int)]) := (get_ne _ _ (by omega)).trans e3
         have x_n : (M2.set (c1' + 2) (BL .exhausted pp)).get c1' = some (rowB 3 [.i .i64 (k : Int)]) := (get_ne _ _ (by omega)).trans e4
         have x_d : ∀ x ∈ (c1' + 1) :: ds, (M2.set (c1' + 2) (BL .exhausted pp)).get x = some (.defs false) := fun x hx => by
          have hxc : x ≠ c1' + 2 := by
           rcases List.mem_cons.1 hx with rfl | hx
           · omega
           · have := hds x hx; omega
          rw [get_ne _ _ hxc]; exact e6 x hx
         rw [show Blk.loop LS.exhausted _ _ _ _ _ _ _ = BL .exhausted pp by rw [hBL]]
         generalize M2.set (c1' + 2) (BL .exhausted pp) = MX at gX x_t x_n x_d ⊢
         have x_7 := (gX.old c3 (by omega)).trans z7
         have x_c := (gX.old c (by omega)).trans z3
         have l_t : load1 F MX tb 0 = some (.i .i64 (turn : Int)) := load_row x_t 0
         have l_n : load1 F MX c1' 0 = some (.i .i64 (k : Int)) := load_row x_n 0
         have l_7 : load1 F MX c3 0 = some ws := load_row x_7 0
         have l_c : load1 F MX c 0 = some (.i .i64 lv) := load_row x_c 0
         have hlw := str_len (zs.grow gX)
         have n_t : tb ≠ cc := by omega
         have q3 : biV .add (.i .i64 (turn : Int)) (.i .i64 1) = some (.i .i64 ((turn + 1 : Nat) : Int)) := by rw [i64_add _ _ (by omega) (by omega)]; simp
         have hnd2 : ((c1' + 1) :: ds).Nodup := by
          rw [List.nodup_cons]
          exact ⟨fun hx => by have := hds _ hx; omega, hnd⟩
         have fin : ∀ m, m = 2 - (turn + 1) → ∀ (u : List (Option V)) s', s' = St.mk ((.n (.n (.n (.n (.n (uv7 u 127 63 191 31 159 95 223) (uO u 15) (uv7 u 143 79 207 47 175 111 239)) (some (.f 16 [] [.p pb 0])) (.n (uv7 u 135 71 199 39 167 103 231) (uO u 23) (uv7 u 151 87 215 55 183 119 247))) (uO u 3) (.n (.n (uv7 u 131 67 195 35 163 99 227) (uO u 19) (uv7 u 147 83 211 51 179 115 243)) (uO u 11) (.n (uv7 u 139 75 203 43 171 107 235) (uO u 27) (uv7 u 155 91 219 59 187 123 251)))) (some (sV s)) (.n (.n (.n (uv7 u 129 65 193 33 161 97 225) (uO u 17) (uv7 u 145 81 209 49 177 113 241)) (uO u 9) (.n (uv7 u 137 73 201 41 169 105 233) (uO u 25) (uv7 u 153 89 217 57 185 121 249))) (some (.p c 0)) (.n (.n (uv7 u 133 69 197 37 165 101 229) (uO u 21) (uv7 u 149 85 213 53 181 117 245)) (uO u 13) (.n (uv7 u 141 77 205 45 173 109 237) (uO u 29) (uv7 u 157 93 221 61 189 125 253))))) (uO u 0) (.n (.n (.n (.n (uv7 u 128 64 192 32 160 96 224) (uO u 16) (uv7 u 144 80 208 48 176 112 240)) (some (.p c3 0)) (.n (uv7 u 136 72 200 40 168 104 232) (uO u 24) (uv7 u 152 88 216 56 184 120 248))) (uO u 4) (.n (.n (uv7 u 132 68 196 36 164 100 228) (uO u 20) (uv7 u 148 84 212 52 180 116 244)) (uO u 12) (.n (uv7 u 140 76 204 44 172 108 236) (uO u 28) (uv7 u 156 92 220 60 188 124 252)))) (uO u 2) (.n (.n (.n (uv7 u 130 66 194 34 162 98 226) (uO u 18) (uv7 u 146 82 210 50 178 114 242)) (some (.p cc 0)) (.n (uv7 u 138 74 202 42 170 106 234) (uO u 26) (uv7 u 154 90 218 58 186 122 250))) (some (.p (c + 1) 0)) (.n (.n (uv7 u 134 70 198 38 166 102 230) (uO u 22) (uv7 u 150 86 214 54 182 118 246)) (uO u 14) (.n (uv7 u 142 78 206 46 174 110 238) (uO u 30) (uv7 u 158 94 222 62 190 126 254))))))) ((c1' + 1) :: ds) (MX.set cc (rowB 3 [.i .i64 ((turn + 1 : Nat) : Int)])) (cc + 1) → I2 m s' := by
          intro m hm u s' hs
          refine (hI2 _ _).2 ⟨turn + 1, cc, _, cc + 1, (c1' + 1) :: ds, u, hm, by omega, hs, gX.set cc _ (by omega) (Nat.lt_succ_self _) (Nat.le_succ _), by omega, Nat.lt_succ_self _, get_same _ _ _, hnd2, fun x hx => ?_⟩
          have hxc : c3 + 1 ≤ x ∧ x < cc := by
           rcases List.mem_cons.1 hx with rfl | hx
           · omega
           · have := hds x hx; omega
          exact ⟨hxc.1, by omega, by rw [get_ne _ _ (by omega)]; exact x_d x hx⟩
         rcases hor with ⟨rfl, rfl⟩ | ⟨rfl, ht0, hlv⟩
         · by_cases ht0 : turn = 0
           · have d0 : decide ((turn : Int) = 0) = true := decide_eq_true (by omega)
             have d1 : decide ((turn : Int) = 1) = false := decide_eq_false (by omega)
             simp only [WX, Nat.reducePow, Nat.reduceDiv, Nat.reduceMod, Nat.reduceBEq, Nat.reduceEqDiff, Int.reduceEq, Int.reduceLT, Int.reduceLE, reduceIte, reduceCtorEq, Nat.reduceAdd, Nat.reduceLeDiff, wd_e1, B3, pendEx_none, pendEx_ext, l_t, l_n, l_7, l_c, hlw, n_t, d0, d1, q3, eq_self, ne_eq, not_true_eq_false, not_false_eq_true]
             exact ⟨_, by omega, fin _ rfl [_, none, _, _, _, none, none, none, none, _, none, _, _, _, _, _, _, _, _, _, _, _, _, _, _, _, _, _, _, _, _, _, _, _, _, _, _, _, _, _, _, _, _, _, _, _, _, _, _, _, _, _, _, _, _, _, _, _, _, _, _, _, _, _, _, _, _, _, _, _, _, _, _, _, _, _, _, _, _, _, _, _, _, _, _, _, _, _, _, _, _, _, _, _, _, _, _, _, _, _, _, _, _, _, _, _, _, _, _, _, _, _, _, _, _, _, _, _, _, _, _, _, _, _, _, _, _, _, _, _, _, _, _, _, _, _, _, _, _, _, _, _, _, _, _, _, _, _, _, _, _, _, _, _, _, _, _, _, _, _, _, _, _, _, _, _, _, _, _, _, _, _, _, _, _, _, _, _, _, _, _, _, _, _, _, _, _, _, _, _, _, _, _, _, _, _, _, _, _, _, _, _, _, _, _, _, _, _, _, _, _, _, _, _, _, _, _, _, _, _, _, _, _, _, _, _, _, _, _, _, _, _, _, _, _, _, _, _, _, _, _, _, _, _, _, _, _, _, _, _, _, _, _, _, _] _ rfl⟩
           · have d0 : decide ((turn : Int) = 0) = false := decide_eq_false (by omega)
             have d1 : decide ((turn : Int) = 1) = true := decide_eq_true (by omega)
             simp only [WX, Nat.reducePow, Nat.reduceDiv, Nat.reduceMod, Nat.reduceBEq, Nat.reduceEqDiff, Int.reduceEq, Int.reduceLT, Int.reduceLE, reduceIte, reduceCtorEq, Nat.reduceAdd, Nat.reduceLeDiff, wd_e1, B3, pendEx_none, pendEx_ext, l_t, l_n, l_7, l_c, hlw, n_t, d0, d1, q3, eq_self, ne_eq, not_true_eq_false, not_false_eq_true]
             exact ⟨_, by omega, fin _ rfl [_, none, _, _, _, none, none, none, none, _, none, _, _, _, _, _, _, _, _, _, _, _, _, _, _, _, _, _, _, _, _, _, _, _, _, _, _, _, _, _, _, _, _, _, _, _, _, _, _, _, _, _, _, _, _, _, _, _, _, _, _, _, _, _, _, _, _, _, _, _, _, _, _, _, _, _, _, _, _, _, _, _, _, _, _, _, _, _, _, _, _, _, _, _, _, _, _, _, _, _, _, _, _, _, _, _, _, _, _, _, _, _, _, _, _, _, _, _, _, _, _, _, _, _, _, _, _, _, _, _, _, _, _, _, _, _, _, _, _, _, _, _, _, _, _, _, _, _, _, _, _, _, _, _, _, _, _, _, _, _, _, _, _, _, _, _, _, _, _, _, _, _, _, _, _, _, _, _, _, _, _, _, _, _, _, _, _, _, _, _, _, _, _, _, _, _, _, _, _, _, _, _, _, _, _, _, _, _, _, _, _, _, _, _, _, _, _, _, _, _, _, _, _, _, _, _, _, _, _, _, _, _, _, _, _, _, _, _, _, _, _, _, _, _, _, _, _, _, _, _, _, _, _, _, _] _ rfl⟩
         · have d0 : decide ((turn : Int) = 0) = true := decide_eq_true (by omega)
           have d1 : decide ((turn : Int) = 1) = false := decide_eq_false (by omega)
           have d2 : decide (¬ ((k : Int) = lv)) = false := decide_eq_false (by omega)
           by_cases hkl : (k : Int) = ((lns l).length : Int)
           · have d3 : decide (¬ ((k : Int) = ((lns l).length : Int))) = false := decide_eq_false (by omega)
             simp only [WX, Nat.reducePow, Nat.reduceDiv, Nat.reduceMod, Nat.reduceBEq, Nat.reduceEqDiff, Int.reduceEq, Int.reduceLT, Int.reduceLE, reduceIte, reduceCtorEq, Nat.reduceAdd, Nat.reduceLeDiff, wd_e1, B3, pendEx_none, pendEx_ext, l_t, l_n, l_7, l_c, hlw, n_t, d0, d1, d2, d3, q3, eq_self, ne_eq, not_true_eq_false, not_false_eq_true]
             exact ⟨_, by omega, fin _ rfl [_, none, _, _, _, none, none, none, none, _, none, _, _, _, _, _, _, _, _, _, _, _, _, _, _, _, _, _, _, _, _, _, _, _, _, _, _, _, _, _, _, _, _, _, _, _, _, _, _, _, _, _, _, _, _, _, _, _, _, _, _, _, _, _, _, _, _, _, _, _, _, _, _, _, _, _, _, _, _, _, _, _, _, _, _, _, _, _, _, _, _, _, _, _, _, _, _, _, _, _, _, _, _, _, _, _, _, _, _, _, _, _, _, _, _, _, _, _, _, _, _, _, _, _, _, _, _, _, _, _, _, _, _, _, _, _, _, _, _, _, _, _, _, _, _, _, _, _, _, _, _, _, _, _, _, _, _, _, _, _, _, _, _, _, _, _, _, _, _, _, _, _, _, _, _, _, _, _, _, _, _, _, _, _, _, _, _, _, _, _, _, _, _, _, _, _, _, _, _, _, _, _, _, _, _, _, _, _, _, _, _, _, _, _, _, _, _, _, _, _, _, _, _, _, _, _, _, _, _, _, _, _, _, _, _, _, _, _, _, _, _, _, _, _, _, _, _, _, _, _, _, _, _, _, _] _ rfl⟩
           · have d3 : decide (¬ ((k : Int) = ((lns l).length : Int))) = true := decide_eq_true hkl
             simp only [WX, Nat.reducePow, Nat.reduceDiv, Nat.reduceMod, Nat.reduceBEq, Nat.reduceEqDiff, Int.reduceEq, Int.reduceLT, Int.reduceLE, reduceIte, reduceCtorEq, Nat.reduceAdd, Nat.reduceLeDiff, wd_e1, B3, pendEx_none, pendEx_ext, l_t, l_n, l_7, l_c, hlw, n_t, d0, d1, d2, d3, q3, eq_self, ne_eq, not_true_eq_false, not_false_eq_true]
             exact ⟨_, by omega, fin _ rfl [_, none, _, _, _, none, none, none, none, _, none, _, _, _, _, _, _, _, _, _, _, _, _, _, _, _, _, _, _, _, _, _, _, _, _, _, _, _, _, _, _, _, _, _, _, _, _, _, _, _, _, _, _, _, _, _, _, _, _, _, _, _, _, _, _, _, _, _, _, _, _, _, _, _, _, _, _, _, _, _, _, _, _, _, _, _, _, _, _, _, _, _, _, _, _, _, _, _, _, _, _, _, _, _, _, _, _, _, _, _, _, _, _, _, _, _, _, _, _, _, _, _, _, _, _, _, _, _, _, _, _, _, _, _, _, _, _, _, _, _, _, _, _, _, _, _, _, _, _, _, _, _, _, _, _, _, _, _, _, _, _, _, _, _, _, _, _, _, _, _, _, _, _, _, _, _, _, _, _, _, _, _, _, _, _, _, _, _, _, _, _, _, _, _, _, _, _, _, _, _, _, _, _, _, _, _, _, _, _, _, _, _, _, _, _, _, _, _, _, _, _, _, _, _, _, _, _, _, _, _, _, _, _, _, _, _, _, _, _, _, _, _, _, _, _, _, _, _, _, _, _, _, _, _, _] _ rfl⟩
     · have hd2 : decide ((turn : Int) < 2) = false := decide_eq_false (by omega)
       simp only [WX, Nat.reducePow, Nat.reduceDiv, Nat.reduceMod, Nat.reduceBEq, Nat.reduceEqDiff, Int.reduceEq, Int.reduceLT, Int.reduceLE, reduceIte, reduceCtorEq, Nat.reduceAdd, Nat.reduceLeDiff, wd_e1, e3, w3_1, w3_2, w3_3, w3_4, w3_5, w3_6, w3_7, w3_8, w3_9, w3_10, w3_11, w3_12, w3_13, w3_14, w3_15, w3_16, w3_17, w3_18, w3_19, w3_20, w3_21, w3_22, w3_23, w3_24, w3_25, w3_26, w3_27, w3_28, w3_29, w3_30, w3_31, w3_32, w3_33, w3_34, w3_35, w3_36, w3_37, w3_39, ldt, hd2]
       exact tail3 Φ h4 h7 h18 h40 h65 h41 h67 h68 h106 h8 h13 h19 h9 h10 h11 h12 (hg.ok okZ) (by omega) (fun g hg' => (hg.old g (by omega)).trans (zlow g hg')) ht he s (by omega) (by omega) ((hg.old (c + 1) (by omega)).trans z4) ds hnd (fun x hx => (hds x hx).2) [_, none, _, _, _, _, none, _, _, _, _, _, _, _, _, _, _, _, _, _, _, _, _, _, _, _, _, _, _, _, _, _, _, _, _, _, _, _, _, _, _, _, _, _, _, _, _, _, _, _, _, _, _, _, _, _, _, _, _, _, _, _, _, _, _, _, _, _, _, _, _, _, _, _, _, _, _, _, _, _, _, _, _, _, _, _, _, _, _, _, _, _, _, _, _, _, _, _, _, _, _, _, _, _, _, _, _, _, _, _, _, _, _, _, _, _, _, _, _, _, _, _, _, _, _, _, _, _, _, _, _, _, _, _, _, _, _, _, _, _, _, _, _, _, _, _, _, _, _, _, _, _, _, _, _, _, _, _, _, _, _, _, _, _, _, _, _, _, _, _, _, _, _, _, _, _, _, _, _, _, _, _, _, _, _, _, _, _, _, _, _, _, _, _, _, _, _, _, _, _, _, _, _, _, _, _, _, _, _, _, _, _, _, _, _, _, _, _, _, _, _, _, _, _, _, _, _, _, _, _, _, _, _, _, _, _, _, _, _, _, _, _, _, _, _, _, _, _, _, _, _, _, _, _, _]
theorem bindS {v w : V} {f : List UInt8 → Option V} (h : (asS v).bind f = some w) : ∃ l, v = sV l ∧ f l = some w := by
 obtain ⟨l, h1, h2⟩ := Option.bind_eq_some_iff.1 h
 exact ⟨l, of_asS h1, h2⟩
theorem bindB {v w : V} {f : UInt8 → Option V} (h : (asB v).bind f = some w) : ∃ b, v = bV b ∧ f b = some w := by
 obtain ⟨l, h1, h2⟩ := Option.bind_eq_some_iff.1 h
 exact ⟨l, of_asB h1, h2⟩
theorem okm_e {ct : Nat} (h : 1000 ≤ ct) : Okm [] (.e : Mem) ct := ⟨fun b _ => rfl, fun b _ => rfl, fun b hb => (by cases hb), h⟩
theorem cutV_bd (b : UInt8) (l : List UInt8) : bd (fun _ => False) (cutV b l) := by
 unfold cutV
 cases fnd b l 0 <;> exact ⟨trivial, trivial, trivial, trivial⟩
section
variable {P : Program} (hm : P.follows .mixedOrders = true) {Φ : Nat → Option CF} (hΦ : PhiOk P Φ)
include hm hΦ
theorem o22 (h : Φ 22 = some c22) : OrcOk P 22 (pureO h22) := pure_of hm hΦ (by
 intro args v ct hv hct; unfold h22 at hv; split at hv
 · obtain rfl := Option.some.inj hv; exact ⟨trivial, t22 Φ h _ _⟩
 · cases hv)
theorem o73 (h : Φ 73 = some c73) (h22 : Φ 22 = some (.orc (pureO h22))) : OrcOk P 73 (pureO h73) := pure_of hm hΦ (by
 intro args v ct hv hct; unfold h73 at hv; split at hv
 · obtain ⟨l, rfl, hv1⟩ := bindS hv
   split at hv1
   · rename_i hl
     obtain rfl := Option.some.inj hv1
     obtain ⟨r, M1, c1, e, rfl⟩ := r73 Φ h h22 (okm_e hct) l hl
     exact ⟨trivial, M1, c1, e⟩
   · cases hv1
 · cases hv)
theorem o43 (h : Φ 43 = some c43) (h73 : Φ 73 = some (.orc (pureO h73))) : OrcOk P 43 (pureO h43) := pure_of hm hΦ (by
 intro args v ct hv hct; unfold h43 at hv; split at hv
 · obtain ⟨l, rfl, hv1⟩ := bindS hv
   split at hv1
   · rename_i hl; obtain rfl := Option.some.inj hv1; exact ⟨trivial, t43 Φ h h73 l hl _⟩
   · cases hv1
 · cases hv)
theorem o21 (h : Φ 21 = some c21) (h43 : Φ 43 = some (.orc (pureO h43))) : OrcOk P 21 (pureO h21) := pure_of hm hΦ (by
 intro args v ct hv hct; unfold h21 at hv; split at hv
 · obtain ⟨l, rfl, hv1⟩ := bindS hv
   split at hv1
   · rename_i hl; obtain rfl := Option.some.inj hv1; exact ⟨trivial, t21 Φ h h43 l hl _⟩
   · cases hv1
 · cases hv)
theorem o42 (h : Φ 42 = some c42) : OrcOk P 42 (pureO h42) := pure_of hm hΦ (by
 intro args v ct hv hct; unfold h42 at hv; split at hv
 · obtain rfl := Option.some.inj hv; exact ⟨⟨trivial, trivial⟩, t42 Φ h _⟩
 · cases hv)
theorem o72 (h : Φ 72 = some c72) : OrcOk P 72 (pureO h72) := pure_of hm hΦ (by
 intro args v ct hv hct; unfold h72 at hv; split at hv
 · obtain rfl := Option.some.inj hv
   refine ⟨?_, t72 Φ h _⟩
   show bds _ names53
   rw [names_eq, bds_iff]
   intro v hv
   obtain ⟨x, _, rfl⟩ := List.mem_map.1 hv
   trivial
 · cases hv)
theorem o12 (h : Φ 12 = some c12) : OrcOk P 12 (pureO h12) := pure_of hm hΦ (by
 intro args v ct hv hct; unfold h12 at hv; split at hv
 · obtain rfl := Option.some.inj hv; exact ⟨trivial, t12 Φ h _ _⟩
 · cases hv)
theorem o19 (h : Φ 19 = some c19) : OrcOk P 19 (pureO h19) := pure_of hm hΦ (by
 intro args v ct hv hct; unfold h19 at hv; split at hv
 · split at hv
   · obtain rfl := Option.some.inj hv; exact ⟨trivial, t19 Φ h _ (by assumption) _⟩
   · cases hv
 · cases hv)
theorem o65 (h : Φ 65 = some c65) : OrcOk P 65 (pureO h65) := pure_of hm hΦ (by
 intro args v ct hv hct; unfold h65 at hv; split at hv
 · obtain ⟨b, rfl, hv1⟩ := bindB hv
   obtain rfl := Option.some.inj hv1; exact ⟨trivial, t65 Φ h _ _⟩
 · cases hv)
theorem o106 (h : Φ 106 = some c106) : OrcOk P 106 (pureO h106) := pure_of hm hΦ (by
 intro args v ct hv hct; unfold h106 at hv; split at hv
 · obtain ⟨l, rfl, hv1⟩ := bindS hv
   split at hv1
   · rename_i hl; obtain rfl := Option.some.inj hv1; exact ⟨trivial, t106 Φ h l hl _⟩
   · cases hv1
 · cases hv)
theorem o102 (h : Φ 102 = some c102) : OrcOk P 102 (pureO h102) := pure_of hm hΦ (by
 intro args v ct hv hct; unfold h102 at hv; split at hv
 · obtain ⟨l, rfl, hv1⟩ := bindS hv
   obtain ⟨b, rfl, hv2⟩ := bindB hv1
   obtain rfl := Option.some.inj hv2; exact ⟨trivial, t102 Φ h _ _ _⟩
 · cases hv)
theorem o64 (h : Φ 64 = some c64) (h102 : Φ 102 = some (.orc (pureO h102))) : OrcOk P 64 (pureO h64) := pure_of hm hΦ (by
 intro args v ct hv hct; unfold h64 at hv; split at hv
 · obtain ⟨l, rfl, hv1⟩ := bindS hv
   obtain ⟨s, rfl, hv2⟩ := bindS hv1
   split at hv2
   · obtain rfl := Option.some.inj hv2; exact ⟨trivial, t64 Φ h h102 _ _ _⟩
   · cases hv2
 · cases hv)
theorem o39 (h : Φ 39 = some c39) (h64 : Φ 64 = some (.orc (pureO h64))) : OrcOk P 39 (pureO h39) := pure_of hm hΦ (by
 intro args v ct hv hct; unfold h39 at hv; split at hv
 · obtain ⟨l, rfl, hv1⟩ := bindS hv
   obtain ⟨s, rfl, hv2⟩ := bindS hv1
   split at hv2
   · split at hv2
     · rename_i hl; obtain rfl := Option.some.inj hv2; exact ⟨cutV_bd _ _, t39 Φ h h64 _ _ hl _⟩
     · cases hv2
   · cases hv2
 · cases hv)
theorem o17 (h : Φ 17 = some c17) (h39' : Φ 39 = some (.orc (pureO h39))) : OrcOk P 17 (pureO h39) := pure_of hm hΦ (by
 intro args v ct hv hct; unfold h39 at hv; split at hv
 · obtain ⟨l, rfl, hv1⟩ := bindS hv
   obtain ⟨s, rfl, hv2⟩ := bindS hv1
   split at hv2
   · split at hv2
     · rename_i hl; obtain rfl := Option.some.inj hv2; exact ⟨cutV_bd _ _, t17 Φ h h39' _ _ hl _⟩
     · cases hv2
   · cases hv2
 · cases hv)
theorem o9 (h : Φ 9 = some c9) : OrcOk P 9 (pureO Ev.h9) := pure_of hm hΦ (by
 intro args v ct hv hct; unfold h9 at hv; split at hv
 · obtain ⟨l, rfl, hv1⟩ := bindS hv
   split at hv1
   · rename_i hl
     obtain rfl := Option.some.inj hv1
     obtain ⟨r, M1, c1, e, rfl, _⟩ := r9 Φ h (okm_e hct) l hl
     exact ⟨trivial, M1, c1, e⟩
   · cases hv1
 · cases hv)
theorem o13 (h : Φ 13 = some c13) : OrcOk P 13 (pureO Ev.h9) := pure_of hm hΦ (by
 intro args v ct hv hct; unfold h9 at hv; split at hv
 · obtain ⟨l, rfl, hv1⟩ := bindS hv
   split at hv1
   · rename_i hl
     obtain rfl := Option.some.inj hv1
     obtain ⟨r, M1, c1, e, rfl, _⟩ := r13 Φ h (okm_e hct) l hl
     exact ⟨trivial, M1, c1, e⟩
   · cases hv1
 · cases hv)
theorem o10 (h : Φ 10 = some c10) (h20 : Φ 20 = some c20) (h42 : Φ 42 = some (.orc (pureO h42))) (h72 : Φ 72 = some (.orc (pureO h72))) (h71 : Φ 71 = some c71) (h21 : Φ 21 = some (.orc (pureO h21))) : OrcOk P 10 (pureO h10) := pure_of hm hΦ (by
 intro args v ct hv hct; unfold h10 at hv; split at hv
 · obtain ⟨l, rfl, hv1⟩ := bindS hv
   split at hv1
   · rename_i hl
     obtain rfl := Option.some.inj hv1
     obtain ⟨r, M1, c1, e, rfl⟩ := r10 Φ h h20 h42 h72 h71 h21 (okm_e hct) l hl
     exact ⟨trivial, M1, c1, e⟩
   · cases hv1
 · cases hv)
theorem o11 (h : Φ 11 = some c11) (h23 : Φ 23 = some c23) : OrcOk P 11 (pureO h10) := pure_of hm hΦ (by
 intro args v ct hv hct; unfold h10 at hv; split at hv
 · obtain ⟨l, rfl, hv1⟩ := bindS hv
   split at hv1
   · rename_i hl
     obtain rfl := Option.some.inj hv1
     obtain ⟨r, M1, c1, e, rfl⟩ := r11 Φ h h23 (okm_e hct) l hl
     exact ⟨trivial, M1, c1, e⟩
   · cases hv1
 · cases hv)
end
theorem str_of4 {F : RO} {M : Mem} {c : Nat} {vs : List V} {x : (Ty.str).D} (h : Rp F M c .str vs x) : ∃ s : List UInt8, vs = [sV s] := by
 have key : ∀ l : List UInt8, vs = [sV l] ∧ l.length ≤ Go.maxLen → ∃ s : List UInt8, vs = [sV s] := fun l h => ⟨l, h.1⟩
 exact key x h
end
end Go.Proofs.YtlhcbcdiffldbaaGreatDoor.Ev
