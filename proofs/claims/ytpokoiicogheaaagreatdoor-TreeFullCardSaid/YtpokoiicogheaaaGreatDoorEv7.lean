/- What is proved here: pieces of the evaluator's soundness: if the evaluator comes to a value, the model's run comes to it, for every world and tape; no conditions beyond the hypotheses of each theorem. -/
import Derived.Test.YtpokoiicogheaaaGreatDoorEv6
set_option linter.unusedSimpArgs false
set_option linter.unusedVariables false
set_option linter.defProp false
set_option maxRecDepth 10000
set_option maxHeartbeats 4000000
namespace Go.Proofs.YtpokoiicogheaaaGreatDoor.Ev
open Go
noncomputable section
def b9_1 : CC := (.reg [(qq a7 (.mv z0)), (ee a8 (.call 15 [z7])), (qq a9 (.un .not z8))])
def w9_1 := wu b9_1.eq_1
def b9_2 : CC := (.seq (.reg [(qq a2 (.mv (.c .p0)))]) .ret)
def w9_2 := wu b9_2.eq_1
def b9_3 : CC := (.reg [(aa a10 (.mkm)), (qq a11 (.mv z0)), (qq a12 (.nck z11)), (qq a13 (.fa 1 z12)), (qq a14 (.ld1 z13)), (qq a15 (.bld [.m0, (.i .i64 0)] [(0, 1, z10), (1, 1, z14)])), (aa a16 (.bx 42 2 z15)), (qq a3 (.mv z16))])
def w9_3 := wu b9_3.eq_1
def b9_4 : CC := (.reg [(qq a17 (.mv z0)), (qq a18 (.nck z17)), (qq a19 (.fa 0 z18)), (qq a20 (.ld1 z19)), (ee a21 (.rgm z20))])
def w9_4 := wu b9_4.eq_1
def b9_5 : CC := (.reg [(ee a22 (.nxm z21)), (qq a23 (.ex 0 z22))])
def w9_5 := wu b9_5.eq_1
def b9_6 : CC := (.reg [(ee a24 (.ent z21)), (qq a25 (.ex 0 z24)), (qq a26 (.ex 1 z24)), (qq a4 (.mv z25)), (qq a5 (.mv z26))])
def w9_6 := wu b9_6.eq_1
def b9_7 : CC := (.reg [(qq a27 (.mv z5)), (qq a28 (.nck z27)), (qq a29 (.ldn 7 z28)), (aa a6 (.al 48 [(.b false), (.i .i64 0), (.i .i64 0), (.i .i64 0), (.i .i64 0), .l0, .m0])), (ez (.st 7 z6 z29))])
def w9_7 := wu b9_7.eq_1
def b9_8 : CC := (.dreg 14 [(0, 0, (qq a30 (.mv z5))), (1, 1, (qq a31 (.nck z30))), (2, 3, (qq a32 (.fa 5 z31))), (3, 7, (qq a33 (.ld1 z32))), (5, 0, (qq a35 (.mv z5))), (6, 32, (qq a36 (.nck z35))), (7, 96, (qq a37 (.fa 6 z36))), (8, 224, (qq a38 (.ld1 z37))), (4, 15, (ee a34 (.call 17 [z33]))), (9, 511, (ee a39 (.call 18 [z38]))), (10, 1023, (qq a40 (.fa 5 z6))), (11, 2047, (ez (.st 1 z40 z34))), (12, 4095, (qq a41 (.fa 6 z6))), (13, 8191, (ez (.st 1 z41 z39)))])
def w9_8 := wu b9_8.eq_1
def b9_9 : CC := (.reg [(qq a42 (.mv z3)), (qq a43 (.nck z42)), (qq a44 (.fa 0 z43)), (qq a45 (.ld1 z44)), (qq a46 (.mv z4)), (ez (.mu .int z45 z46 z6))])
def w9_9 := wu b9_9.eq_1
def b9_10 : CC := (.seq (.cond z23 .skip (.exit 0)) (.block 1 (.seq b9_6 (.seq b9_7 (.seq b9_8 b9_9)))))
def w9_10 := wu b9_10.eq_1
def b9_11 : CC := (.reg [(qq a47 (.mv z3)), (qq a2 (.mv z47))])
def w9_11 := wu b9_11.eq_1
def b9_12 : CC := (.seq (.seq b9_4 (.block 0 (.loop (.seq b9_5 b9_10)))) (.seq b9_11 .ret))
def w9_12 := wu b9_12.eq_1
def b9_13 : CC := (.seq (.seq b9_1 (.cond z9 b9_2 .skip)) (.seq b9_3 b9_12))
def w9_13 := wu b9_13.eq_1
def b9_14 : CC := (.seq (.reg [(qq a2 (.mv (.c .p0)))]) b9_13)
def w9_14 := wu b9_14.eq_1
def c9 : CF := .mk 6 [.t a2] b9_14
theorem e9 (v0 : V) : argTr 6 [v0] = (.n sk5 (some v0) sk5) := rfl
def B9 := ai @e9 (ai @w9_1 (ai @w9_2 (ai @w9_3 (ai @w9_4 (ai @w9_5 (ai @w9_6 (ai @w9_7 (ai @w9_8 (ai @w9_9 (ai @w9_10 (ai @w9_11 (ai @w9_12 (ai @w9_13 (@w9_14))))))))))))))
theorem isOne_m0 : isOne .m0 = true := Eq.trans rfl (Eq.refl _)
def entE (F : RO) (M : Mem) (c : Nat) (v : V) : RC := e_ent (.c v) F M c .e
theorem x_ent_eq {Φ : Nat → Option CF} {rd : Option Nat} {fn : Nat} {F : RO} (x : X) (M : Mem) (c : Nat) (t : T) : doE (.ent x) (K Φ rd fn F) M c t = entE F M c (x.ev t) := Eq.trans rfl (Eq.refl _)
theorem entE_m {F : RO} {M : Mem} {c it mb cl born : Nat} {seen : List Nat} {es : List (V × V × Nat)} {k v : V} (h : M.get it = some (.miter (some mb) cl (seen ++ [born]) cl)) (hm : look F M mb = some (.map es cl)) (ho : ordd cl = true) (hf : findBorn born es = some (k, v)) : entE F M c (.p it 0) = .k (.t [k, v]) M c := by
 show entIn F M c (M.get it) = _
 rw [h]
 show asMap (look F M mb) .f (fun es clock => bif ordd clock && Nat.beq clock cl then entL M c es (lastN (seen ++ [born])) else .f) = _
 rw [hm]
 show (bif ordd cl && Nat.beq cl cl then entL M c es (lastN (seen ++ [born])) else .f) = _
 rw [ho, beqN, decide_eq_true rfl, lastN_eq, List.getLast?_append]
 show entL M c es (some born) = _
 show entOut M c (findBorn born es) = _
 rw [hf]
 rfl
def muE (M : Mem) (c : Nat) (sh : Sh) (m k v : V) : RC := e_mu sh (.c m) (.c k) (.c v) [] M c .e
theorem x_mu_eq {Φ : Nat → Option CF} {rd : Option Nat} {fn : Nat} {F : RO} (sh : Sh) (m k v : X) (M : Mem) (c : Nat) (t : T) : doE (.mu sh m k v) (K Φ rd fn F) M c t = muE M c sh (m.ev t) (k.ev t) (v.ev t) := Eq.trans rfl (Eq.refl _)
theorem muE_n {M : Mem} {b n c : Nat} {es : List (V × V × Nat)} {sh : Sh} {k : V} (v : V) (h : M.get b = some (.map es n)) (e0 : findK sh k es 0 = some none) (ho : ordd n = true) (ho' : ordd (n + 1) = true) : muE M c sh (.m b) k v = .k undef (M.set b (.map (snocE (k, v, n) es) (n + 1))) c := by
 show asMap (M.get b) .f (fun es clock => e_mu1 M c b es clock k v (findK sh k es 0)) = _
 rw [h]
 show e_mu1 M c b es n k v (findK sh k es 0) = _
 rw [e0]
 show (bif (bif ordd n then ordd (Nat.succ n) else isI k) then fN (Nat.succ n) fun ck => setM M c b (.map (snocE (k, v, n) es) ck) undef else .f) = _
 rw [ho, cond_true, show ordd (Nat.succ n) = true from ho', cond_true, fN_eq, setM_eq]
theorem k9r {Φ : Nat → Option CF} (h17 : Φ 17 = some c17) (h18 : Φ 18 = some c18) {F : RO} {M : Mem} {c tb ob om it mb cl nb nm nk born ko : Nat} {n ow ri li he : Int} {dir : Bool} {dv x : V} {l : List UInt8} {seen : List Nat} {es eo ns : List (V × V × Nat)}
  (ok : Okm F M c) (hit : M.get it = some (.miter (some mb) cl (seen ++ [born]) cl)) (hmap : look F M mb = some (.map es cl)) (hord : ordd cl = true) (hfb : findBorn born es = some (.i .i64 n, .p nb 0))
  (hn : loadN F M nb 0 7 = some [.b dir, .i .i64 ow, .i .i64 ri, .i .i64 li, .i .i64 he, dv, .m nm]) (l5 : load1 F M nb 5 = some dv) (l6 : load1 F M nb 6 = some (.m nm)) (hnb : nb < c) (sd : SlB F M c dv l) (hl : l.length ≤ 9000) (hm : look F M nm = some (.map ns nk)) (hmc : nm < c) (hon : ordd nk = true)
  (hob : M.get ob = some (rowB 42 [.m om, x])) (hom : M.get om = some (.map eo ko)) (hoo : ordd ko = true) (ho1 : ordd (ko + 1) = true) (hfo : findK .int (.i .i64 n) eo 0 = some none) (hlt : ob < c ∧ om < c ∧ it < c ∧ mb < c) (u : List (Option V)) :
  Wp b9_10 (K Φ none 9 F) (.mk ((.n (.n (.n (.n (uv3 u 31 15 47) (uO u 7) (.n (uv1 u 39) (some (.b true)) (uv1 u 55))) (some (.p ob 0)) (uv7 u 35 19 51 11 43 27 59)) (uO u 1) (.n (uv7 u 33 17 49 9 41 25 57) (uO u 5) (.n (.n (uv1 u 37) (some (.p it 0)) (uv1 u 53)) (uO u 13) (uv3 u 45 29 61)))) (some (.p tb 0)) (.n (.n (uv7 u 32 16 48 8 40 24 56) (uO u 4) (uv7 u 36 20 52 12 44 28 60)) (some (.p0)) (.n (uv7 u 34 18 50 10 42 26 58) (uO u 6) (.n (.n (uv1 u 38) (some (.t [.b true, .i .i64 n, .p nb 0])) (uv1 u 54)) (uO u 14) (uv3 u 46 30 62)))))) [] M c) fun e s' => e = .nrm ∧ ∃ (M' : Mem) (c' X N : Nat) (r : V) (u : List (Option V)), s' = .mk ((.n (.n (.n (uv7 u 31 15 47 7 39 23 55) (some (.p ob 0)) (uv7 u 35 19 51 11 43 27 59)) (uO u 1) (.n (uv7 u 33 17 49 9 41 25 57) (uO u 5) (.n (.n (uv1 u 37) (some (.p it 0)) (uv1 u 53)) (uO u 13) (uv3 u 45 29 61)))) (some (.p tb 0)) (.n (.n (uv7 u 32 16 48 8 40 24 56) (uO u 4) (uv7 u 36 20 52 12 44 28 60)) (some (.p0)) (.n (uv7 u 34 18 50 10 42 26 58) (uO u 6) (uv7 u 38 22 54 14 46 30 62))))) [] M' c' ∧ c ≤ X ∧ X < c' ∧ c ≤ N ∧ N < c' ∧ X ≠ N ∧ M'.get X = some (rowB 48 [.b dir, .i .i64 ow, .i .i64 ri, .i .i64 li, .i .i64 he, r, .m N]) ∧ M'.get N = some (.map ns nk) ∧ M'.get om = some (.map (snocE (.i .i64 n, .p X 0, ko) eo) (ko + 1)) ∧ (∀ b, b < c → b ≠ om → M'.get b = M.get b) ∧ Okm F M' c' := by
 have hee := entE_m (c := c) hit hmap hord hfb
 have hf := ok.free
 obtain ⟨d1, d2, d3⟩ : isOne dv = true ∧ flatten dv = [dv] ∧ allOne [dv] = true := by
  rcases sd with ⟨_, ⟨_, rfl | ⟨b, o0, o, rfl⟩⟩ | ⟨b, o, ⟨cap, _, rfl⟩ | ⟨el, kn, _, rfl⟩, _⟩⟩ <;> exact ⟨rfl, rfl, rfl⟩
 have gA := (Gr.refl ok).set c (rowB 48 [.b false, .i .i64 0, .i .i64 0, .i .i64 0, .i .i64 0, .l0, .m0]) (Nat.le_refl _) (Nat.lt_succ_self _) (Nat.le_succ _)
 have mA : (M.set c (rowB 48 [.b false, .i .i64 0, .i .i64 0, .i .i64 0, .i .i64 0, .l0, .m0])).get c = some (rowB 48 [.b false, .i .i64 0, .i .i64 0, .i .i64 0, .i .i64 0, .l0, .m0]) := get_same _ _ _
 have hall : allOne [.b dir, .i .i64 ow, .i .i64 ri, .i .i64 li, .i .i64 he, dv, .m nm] = true := by simp only [allOne_cons, d1]; rfl
 have hG : flatten (V.g [.b dir, .i .i64 ow, .i .i64 ri, .i .i64 li, .i .i64 he, dv, .m nm]) = [.b dir, .i .i64 ow, .i .i64 ri, .i .i64 li, .i .i64 he, dv, .m nm] := rfl
 have stA := store_row mA 0 [.b dir, .i .i64 ow, .i .i64 ri, .i .i64 li, .i .i64 he, dv, .m nm] (by simp) hall
 have hoA : over [V.b false, .i .i64 0, .i .i64 0, .i .i64 0, .i .i64 0, .l0, .m0] 0 [.b dir, .i .i64 ow, .i .i64 ri, .i .i64 li, .i .i64 he, dv, .m nm] = [.b dir, .i .i64 ow, .i .i64 ri, .i .i64 li, .i .i64 he, dv, .m nm] := rfl
 rw [hoA] at stA
 have gB := gA.set (c2 := c + 1) c (rowB 48 [.b dir, .i .i64 ow, .i .i64 ri, .i .i64 li, .i .i64 he, dv, .m nm]) (Nat.le_refl _) (Nat.lt_succ_self _) (Nat.le_refl _)
 have mB : ((M.set c (rowB 48 [.b false, .i .i64 0, .i .i64 0, .i .i64 0, .i .i64 0, .l0, .m0])).set c (rowB 48 [.b dir, .i .i64 ow, .i .i64 ri, .i .i64 li, .i .i64 he, dv, .m nm])).get c = some (rowB 48 [.b dir, .i .i64 ow, .i .i64 ri, .i .i64 li, .i .i64 he, dv, .m nm]) := get_same _ _ _
 have fB := (gB.ok ok).free
 have fA := (gA.ok ok).free
 simp only [WX, Nat.reducePow, Nat.reduceDiv, Nat.reduceMod, Nat.reduceBEq, Nat.reduceEqDiff, Int.reduceEq, Int.reduceLT, Int.reduceLE, reduceIte, reduceCtorEq, Nat.reduceAdd, Nat.reduceLeDiff, wd_e1, e9, w9_1, w9_2, w9_3, w9_4, w9_5, w9_6, w9_7, w9_10, w9_11, w9_12, w9_13, w9_14, x_ent_eq, hee, hf, v_nck, nckV_p, hn, hG, hall, stA, fA, fB, isOne_m0]
 generalize hM1 : ((M.set c (rowB 48 [.b false, .i .i64 0, .i .i64 0, .i .i64 0, .i .i64 0, .l0, .m0])).set c (rowB 48 [.b dir, .i .i64 ow, .i .i64 ri, .i .i64 li, .i .i64 he, dv, .m nm])) = M1 at gB mB fB ⊢
 clear stA mA gA fA hoA hall hG
 have ok1 := gB.ok ok
 have k5 : load1 F M1 nb 5 = some dv := (gB.load1 hnb 5).trans l5
 have k6 : load1 F M1 nb 6 = some (.m nm) := (gB.load1 hnb 6).trans l6
 simp only [WX, Nat.reducePow, Nat.reduceDiv, Nat.reduceMod, Nat.reduceBEq, Nat.reduceEqDiff, Int.reduceEq, Int.reduceLT, Int.reduceLE, reduceIte, reduceCtorEq, Nat.reduceAdd, Nat.reduceLeDiff, wd_e1, e9, w9_1, w9_2, w9_3, w9_4, w9_5, w9_6, w9_7, w9_8, w9_10, w9_11, w9_12, w9_13, w9_14, v_nck, dq_nck, nckV_p, k5, k6, fB]
 have hge := ok.ge
 have gU : Gr (c + 1) M1 (c + 15) M1 := (Gr.refl ok1).up (by omega)
 have okU := gU.ok ok1
 refine wd_ef _ _ _ _ _ _ _ _ _ _ _ okU ?_
 intro F1 N1 okn hlk
 refine (show RTo (callC (den Φ) F1 17 [dv] N1 (c + 15) (Φ 17)) _ from r17 h17 okn (SlAt.lk hlk ((sd.grow gB).grow gU)) hl).mono ?_
 rintro r N2 c2 ⟨hr, gN⟩
 refine ⟨gN, fun M2 g2 hM2 => ?_⟩
 have ok2 := g2.ok okU
 have hcl2 := g2.le
 have f2 := ok2.free
 obtain ⟨r1, r2, r3⟩ : isOne r = true ∧ flatten r = [r] ∧ allOne [r] = true := by
  rcases hr.sl with ⟨_, ⟨_, rfl | ⟨b, o0, o, rfl⟩⟩ | ⟨b, o, ⟨cap, _, rfl⟩ | ⟨el, kn, _, rfl⟩, _⟩⟩ <;> exact ⟨rfl, rfl, rfl⟩
 have gAll : Gr c M c2 M2 := gB.trans (gU.trans g2)
 simp only [WX, Nat.reducePow, Nat.reduceDiv, Nat.reduceMod, Nat.reduceBEq, Nat.reduceEqDiff, Int.reduceEq, Int.reduceLT, Int.reduceLE, reduceIte, reduceCtorEq, Nat.reduceAdd, Nat.reduceLeDiff, wd_e1, e9, w9_1, w9_2, w9_3, w9_4, w9_5, w9_6, w9_7, w9_8, w9_10, w9_11, w9_12, w9_13, w9_14, f2]
 refine putDE_to ((r18 h18 (nm := nm) (M := M2) (by rw [gAll.look hmc]; exact hm) hon).mono ?_)
 rintro r' M3 c3 ⟨rfl, rfl, rfl⟩
 have g3 := (Gr.refl ok2).set c2 (.map ns nk) (Nat.le_refl _) (Nat.lt_succ_self _) (Nat.le_succ _)
 have ok3 := g3.ok ok2
 refine ⟨ok3.free, ?_⟩
 have m3 := (g3.old c (by omega)).trans ((g2.old c (by omega)).trans mB)
 have st5 := store_row m3 5 [r] (by simp) r3
 have ho5 : over [.b dir, .i .i64 ow, .i .i64 ri, .i .i64 li, .i .i64 he, dv, .m nm] 5 [r] = [.b dir, .i .i64 ow, .i .i64 ri, .i .i64 li, .i .i64 he, r, .m nm] := rfl
 rw [ho5] at st5
 have ok5 : Okm F ((M2.set c2 (.map ns nk)).set c (rowB 48 [.b dir, .i .i64 ow, .i .i64 ri, .i .i64 li, .i .i64 he, r, .m nm])) (c2 + 1) := ok3.put (by omega) m3
 have st6 := store_row (get_same (M2.set c2 (.map ns nk)) c (rowB 48 [.b dir, .i .i64 ow, .i .i64 ri, .i .i64 li, .i .i64 he, r, .m nm])) 6 [.m c2] (by simp) rfl
 have ho6 : over [.b dir, .i .i64 ow, .i .i64 ri, .i .i64 li, .i .i64 he, r, .m nm] 6 [.m c2] = [.b dir, .i .i64 ow, .i .i64 ri, .i .i64 li, .i .i64 he, r, .m c2] := rfl
 rw [ho6] at st6
 have ok6 : Okm F (((M2.set c2 (.map ns nk)).set c (rowB 48 [.b dir, .i .i64 ow, .i .i64 ri, .i .i64 li, .i .i64 he, r, .m nm])).set c (rowB 48 [.b dir, .i .i64 ow, .i .i64 ri, .i .i64 li, .i .i64 he, r, .m c2])) (c2 + 1) := ok5.put (by omega) (get_same _ _ _)
 have f3 := ok3.free
 have f5 := ok5.free
 have f6 := ok6.free
 simp only [WX, Nat.reducePow, Nat.reduceDiv, Nat.reduceMod, Nat.reduceBEq, Nat.reduceEqDiff, Int.reduceEq, Int.reduceLT, Int.reduceLE, reduceIte, reduceCtorEq, Nat.reduceAdd, Nat.reduceLeDiff, wd_e1, e9, w9_1, w9_2, w9_3, w9_4, w9_5, w9_6, w9_7, w9_8, w9_10, w9_11, w9_12, w9_13, w9_14, f3, r1, r2, st5, f5, isOne_m, st6, f6]
 have x4 := get_same ((M2.set c2 (.map ns nk)).set c (rowB 48 [.b dir, .i .i64 ow, .i .i64 ri, .i .i64 li, .i .i64 he, r, .m nm])) c (rowB 48 [.b dir, .i .i64 ow, .i .i64 ri, .i .i64 li, .i .i64 he, r, .m c2])
 have e4 : ∀ b, b ≠ c → (((M2.set c2 (.map ns nk)).set c (rowB 48 [.b dir, .i .i64 ow, .i .i64 ri, .i .i64 li, .i .i64 he, r, .m nm])).set c (rowB 48 [.b dir, .i .i64 ow, .i .i64 ri, .i .i64 li, .i .i64 he, r, .m c2])).get b = (M2.set c2 (.map ns nk)).get b := fun b hb => (get_ne _ _ hb).trans (get_ne _ _ hb)
 generalize (((M2.set c2 (.map ns nk)).set c (rowB 48 [.b dir, .i .i64 ow, .i .i64 ri, .i .i64 li, .i .i64 he, r, .m nm])).set c (rowB 48 [.b dir, .i .i64 ow, .i .i64 ri, .i .i64 li, .i .i64 he, r, .m c2])) = M4 at x4 e4 ok6 f6 ⊢
 clear st5 st6 ok5 f5 m3
 have n4 : M4.get c2 = some (.map ns nk) := (e4 c2 (by omega)).trans (get_same _ _ _)
 have old4 : ∀ b, b < c → M4.get b = M.get b := fun b hb => (e4 b (by omega)).trans ((get_ne _ _ (by omega)).trans (gAll.old b hb))
 have m4 := (old4 om hlt.2.1).trans hom
 have lo : load1 F M4 ob 0 = some (.m om) := load_row ((old4 ob hlt.1).trans hob) 0
 have qm := muE_n (c := c2 + 1) (.p c 0) m4 hfo hoo ho1
 have ok7 : Okm F (M4.set om (.map (snocE (.i .i64 n, .p c 0, ko) eo) (ko + 1))) (c2 + 1) := ok6.put (by omega) m4
 have f7 := ok7.free
 simp only [WX, Nat.reducePow, Nat.reduceDiv, Nat.reduceMod, Nat.reduceBEq, Nat.reduceEqDiff, Int.reduceEq, Int.reduceLT, Int.reduceLE, reduceIte, reduceCtorEq, Nat.reduceAdd, Nat.reduceLeDiff, wd_e1, B9, v_nck, nckV_p, lo, x_mu_eq, qm, f7]
 exact ⟨_, _, c, c2, r, [none, _, none, none, _, _, _, _, _, _, _, _, _, _, _, _, _, _, _, _, _, none, _, _, _, _, _, _, _, _, _, _, _, _, _, _, _, _, _, _, _, _, _, _, _, _, _, _, _, _, _, _, _, _, _, _, _, _, _, _, _, _, _], rfl, Nat.le_refl _, by omega, by omega, by omega, by omega, (get_ne _ _ (by omega)).trans x4, (get_ne _ _ (by omega)).trans n4, get_same _ _ _, fun b hb hb2 => (get_ne _ _ hb2).trans (old4 b hb), ok7⟩
structure CN where
 n : Int
 nb : Nat
 born : Nat
 dir : Bool
 ow : Int
 ri : Int
 li : Int
 he : Int
 nm : Nat
 ns : List (V × V × Nat)
 nk : Nat
 cx : Nat
 cn : Nat
def CN.ent (q : CN) : V × V × Nat := (.i .i64 q.n, .p q.nb 0, q.born)
def CN.At (F : RO) (M : Mem) (ct : Nat) (q : CN) : Prop := ∃ dv l, loadN F M q.nb 0 7 = some [.b q.dir, .i .i64 q.ow, .i .i64 q.ri, .i .i64 q.li, .i .i64 q.he, dv, .m q.nm] ∧ load1 F M q.nb 5 = some dv ∧ load1 F M q.nb 6 = some (.m q.nm) ∧ q.nb < ct ∧ SlB F M ct dv l ∧ l.length ≤ 9000 ∧ look F M q.nm = some (.map q.ns q.nk) ∧ q.nm < ct ∧ ordd q.nk = true
abbrev CD := CN × Nat × Nat
def eoF : List CD → Nat → List (V × V × Nat)
 | [], _ => []
 | r :: L, i => (.i .i64 r.1.n, .p r.2.1 0, i) :: eoF L (i + 1)
theorem eoF_snoc (r : CD) : ∀ (L : List CD) (i : Nat), eoF (L ++ [r]) i = eoF L i ++ [(.i .i64 r.1.n, .p r.2.1 0, i + L.length)]
 | [], i => rfl
 | a :: L, i => by
   rw [List.cons_append, eoF, eoF, eoF_snoc r L (i + 1), List.cons_append, List.length_cons]
   rw [show i + 1 + L.length = i + (L.length + 1) by omega]
theorem eoF_len : ∀ (L : List CD) (i : Nat), (eoF L i).length = L.length
 | [], _ => rfl
 | a :: L, i => by rw [eoF, List.length_cons, List.length_cons, eoF_len L]
theorem eoF_mem {L : List CD} {i : Nat} {e : V × V × Nat} (h : e ∈ eoF L i) : ∃ r ∈ L, e.1 = .i .i64 r.1.n ∧ e.2.1 = .p r.2.1 0 := by
 induction L generalizing i with
 | nil => cases h
 | cons a L ih =>
   rcases List.mem_cons.1 h with rfl | h
   · exact ⟨a, List.mem_cons_self .., rfl, rfl⟩
   · obtain ⟨r, h1, h2⟩ := ih h
     exact ⟨r, List.mem_cons_of_mem _ h1, h2⟩
theorem eoF_new {L : List CD} {n : Int} (h : ∀ r ∈ L, r.1.n ≠ n) : findK .int (.i .i64 n) (eoF L 0) 0 = some none := by
 have hk : ∀ e ∈ eoF L 0, ∃ m, e.1 = .i .i64 m := fun e he => by
  obtain ⟨r, _, h1, _⟩ := eoF_mem he
  exact ⟨_, h1⟩
 rcases findK_int .i64 n (eoF L 0) 0 hk with ⟨h1, _⟩ | ⟨j, v, h1⟩
 · exact h1
 · exfalso
   obtain ⟨_, k1, b1, h2, h3⟩ := findK_at _ 0 _ h1 (j, v) rfl
   obtain ⟨r, hr, e1, _⟩ := eoF_mem (List.mem_of_getElem? h2)
   have e1 : k1 = .i .i64 r.1.n := e1
   subst e1
   obtain ⟨m', _, e2, e3⟩ := keyEq_int h3
   injection e2 with _ e4
   have e5 : m' = r.1.n := of_decide_eq_true e3.symm
   exact h r hr (by omega)
theorem findBorn_q : ∀ {Q : List CN} {q : CN}, (Q.map (·.born)).Nodup → q ∈ Q → findBorn q.born (Q.map CN.ent) = some (.i .i64 q.n, .p q.nb 0)
 | a :: Q, q, hn, hq => by
   rw [List.map_cons, List.nodup_cons] at hn
   rw [List.map_cons, findBorn, beqN]
   rcases List.mem_cons.1 hq with rfl | hq
   · show (bif decide (q.born = q.born) then _ else _) = _
     rw [decide_eq_true rfl]; rfl
   · have hne : a.born ≠ q.born := fun e => hn.1 (List.mem_map.2 ⟨q, hq, e.symm⟩)
     show (bif decide (a.born = q.born) then _ else _) = _
     rw [decide_eq_false hne, cond_false]
     exact findBorn_q hn.2 hq
theorem uniq_n : ∀ {Q : List CN} {q r : CN}, (Q.map (·.n)).Nodup → q ∈ Q → r ∈ Q → q.n = r.n → q = r
 | a :: Q, q, r, hn, hq, hr, e => by
   rw [List.map_cons, List.nodup_cons] at hn
   rcases List.mem_cons.1 hq with h1 | h1
   · rcases List.mem_cons.1 hr with h2 | h2
     · rw [h1, h2]
     · exact (hn.1 (List.mem_map.2 ⟨r, h2, by rw [← e, h1]⟩)).elim
   · rcases List.mem_cons.1 hr with h2 | h2
     · exact (hn.1 (List.mem_map.2 ⟨q, h1, by rw [e, h2]⟩)).elim
     · exact uniq_n hn.2 h1 h2 e
structure CJ (F : RO) (M0 : Mem) (ct mb cl : Nat) (names : V) (Q : List CN) (L : List CD) (M : Mem) (c : Nat) : Prop where
 ok : Okm F M c
 le : ct + 3 ≤ c
 old : ∀ b, b < ct → M.get b = M0.get b
 om : M.get ct = some (.map (eoF L 0) L.length)
 ob : M.get (ct + 1) = some (rowB 42 [.m ct, names])
 it : M.get (ct + 2) = some (.miter (some mb) cl (L.map fun r => r.1.born) cl)
 sub : ∀ r ∈ L, r.1 ∈ Q
 nd : (L.map fun r => r.1.born).Nodup
 row : ∀ r ∈ L, (∃ dv, M.get r.2.1 = some (rowB 48 [.b r.1.dir, .i .i64 r.1.ow, .i .i64 r.1.ri, .i .i64 r.1.li, .i .i64 r.1.he, dv, .m r.2.2])) ∧ M.get r.2.2 = some (.map r.1.ns r.1.nk) ∧ (ct + 3 ≤ r.2.1 ∧ r.2.1 < c) ∧ (ct + 3 ≤ r.2.2 ∧ r.2.2 < c)
 ap : (L.flatMap fun r => [r.2.1, r.2.2]).Nodup
theorem CJ.step {F : RO} {M0 M M' : Mem} {ct mb cl c c' X N : Nat} {names r : V} {Q : List CN} {L : List CD} {q : CN} (h : CJ F M0 ct mb cl names Q L M c) (hq : q ∈ Q) (hb : q.born ∉ L.map fun r => r.1.born) (ok : Okm F M' c') (h1 : c ≤ X) (h2 : X < c') (h3 : c ≤ N) (h4 : N < c') (h5 : X ≠ N)
  (hX : M'.get X = some (rowB 48 [.b q.dir, .i .i64 q.ow, .i .i64 q.ri, .i .i64 q.li, .i .i64 q.he, r, .m N])) (hN : M'.get N = some (.map q.ns q.nk)) (ho : M'.get ct = some (.map (snocE (.i .i64 q.n, .p X 0, L.length) (eoF L 0)) (L.length + 1))) (hit : M'.get (ct + 2) = some (.miter (some mb) cl ((L.map fun r => r.1.born) ++ [q.born]) cl)) (hold : ∀ b, b < c → b ≠ ct → b ≠ ct + 2 → M'.get b = M.get b) :
  CJ F M0 ct mb cl names Q (L ++ [(q, X, N)]) M' c' := by
 have hle := h.le
 refine ⟨ok, by omega, fun b hb => (hold b (by omega) (by omega) (by omega)).trans (h.old b hb), ?_, (hold _ (by omega) (by omega) (by omega)).trans h.ob, ?_, ?_, ?_, ?_, ?_⟩
 · rw [ho, snocE_eq, eoF_snoc, List.length_append, List.length_singleton, Nat.zero_add]
 · rw [hit, List.map_append]; rfl
 · intro r hr
   rcases List.mem_append.1 hr with hr | hr
   · exact h.sub r hr
   · rw [List.mem_singleton] at hr; subst hr; exact hq
 · rw [List.map_append, List.nodup_append]
   refine ⟨h.nd, by simp, ?_⟩
   intro a ha b hb' e
   rw [List.map_cons, List.map_nil, List.mem_singleton] at hb'
   subst hb'
   rw [e] at ha
   exact hb ha
 · intro r hr
   rcases List.mem_append.1 hr with hr | hr
   · obtain ⟨⟨dv, g1⟩, g2, g3, g4⟩ := h.row r hr
     exact ⟨⟨dv, (hold _ (by omega) (by omega) (by omega)).trans g1⟩, (hold _ (by omega) (by omega) (by omega)).trans g2, ⟨g3.1, by omega⟩, ⟨g4.1, by omega⟩⟩
   · rw [List.mem_singleton] at hr; subst hr
     exact ⟨⟨_, hX⟩, hN, ⟨by show ct + 3 ≤ X; omega, h2⟩, ⟨by show ct + 3 ≤ N; omega, h4⟩⟩
 · rw [List.flatMap_append, List.nodup_append]
   refine ⟨h.ap, by simp [h5], ?_⟩
   intro a ha b hb' e
   obtain ⟨r, hr, hra⟩ := List.mem_flatMap.1 ha
   obtain ⟨_, _, g3, g4⟩ := h.row r hr
   simp only [List.flatMap_cons, List.flatMap_nil, List.append_nil, List.mem_cons, List.not_mem_nil, or_false] at hb' hra
   omega
theorem leftE_q {Q : List CN} {seen : List Nat} {e : V × V × Nat} (h : e ∈ leftE seen (Q.map CN.ent)) : ∃ q ∈ Q, e = q.ent ∧ q.born ∉ seen := by
 rw [leftE_eq, List.mem_filter] at h
 obtain ⟨h1, h2⟩ := h
 obtain ⟨q, hq, rfl⟩ := List.mem_map.1 h1
 exact ⟨q, hq, rfl, by simpa [CN.ent] using h2⟩
theorem leftE_n {Q : List CN} {seen : List Nat} (h : leftE seen (Q.map CN.ent) = []) : ∀ q ∈ Q, q.born ∈ seen := by
 intro q hq
 rw [leftE_eq, List.filter_eq_nil_iff] at h
 have := h q.ent (List.mem_map.2 ⟨q, hq, rfl⟩)
 simpa [CN.ent] using this
theorem sub_len : ∀ {l1 l2 : List Nat}, l1.Nodup → (∀ x ∈ l1, x ∈ l2) → l1.length ≤ l2.length
 | [], _, _, _ => Nat.zero_le _
 | x :: l1, l2, hn, h => by
   rw [List.nodup_cons] at hn
   have hx := h x (List.mem_cons_self ..)
   have := sub_len (l2 := l2.erase x) hn.2 fun y hy => (List.mem_erase_of_ne (fun e => hn.1 (by rw [← e]; exact hy))).2 (h y (List.mem_cons_of_mem _ hy))
   rw [List.length_erase_of_mem hx] at this
   have := List.length_pos_of_mem hx
   rw [List.length_cons]; omega
theorem ordd_lt {n : Nat} (h : n < 18446744073709551616) : ordd n = true := by
 unfold ordd; rw [bltN]; exact decide_eq_true h
theorem copy_loop {P : Program} (hmo : P.follows .mixedOrders = true) {Φ : Nat → Option CF} (hΦ : PhiOk P Φ) (h17 : Φ 17 = some c17) (h18 : Φ 18 = some c18) {nt : Nat} {F : RO} {code : Code} (hs : Sim P nt code (.seq b9_5 b9_10)) {M0 : Mem} {ct tb mb cl : Nat} {names : V} {Q : List CN}
  (hmap : look F M0 mb = some (.map (Q.map CN.ent) cl)) (hmb : mb < ct) (hord : ordd cl = true) (hold : allOld cl (Q.map CN.ent) = true) (hnb : (Q.map (·.born)).Nodup) (hnn : (Q.map (·.n)).Nodup) (hQ : ∀ q ∈ Q, q.At F M0 ct) (hql : Q.length < 1000000)
  {M : Mem} {c : Nat} (hJ : CJ F M0 ct mb cl names Q [] M c) (u : List (Option V)) :
  Sat P none nt F (.loop code) ((.n (.n (.n (uv7 u 31 15 47 7 39 23 55) (some (.p (ct + 1) 0)) (uv7 u 35 19 51 11 43 27 59)) (uO u 1) (.n (uv7 u 33 17 49 9 41 25 57) (uO u 5) (.n (.n (uv1 u 37) (some (.p (ct + 2) 0)) (uv1 u 53)) (uO u 13) (uv3 u 45 29 61)))) (some (.p tb 0)) (.n (.n (uv7 u 32 16 48 8 40 24 56) (uO u 4) (uv7 u 36 20 52 12 44 28 60)) (some (.p0)) (.n (uv7 u 34 18 50 10 42 26 58) (uO u 6) (uv7 u 38 22 54 14 46 30 62))))) [] M c fun e t d M' c' => e = .ext 0 ∧ d = [] ∧ (∃ u, t = (.n (.n (.n (uv7 u 31 15 47 7 39 23 55) (some (.p (ct + 1) 0)) (uv7 u 35 19 51 11 43 27 59)) (uO u 1) (.n (uv7 u 33 17 49 9 41 25 57) (uO u 5) (.n (.n (uv1 u 37) (some (.p (ct + 2) 0)) (uv1 u 53)) (uO u 13) (uv3 u 45 29 61)))) (some (.p tb 0)) (.n (.n (uv7 u 32 16 48 8 40 24 56) (uO u 4) (uv7 u 36 20 52 12 44 28 60)) (some (.p0)) (.n (uv7 u 34 18 50 10 42 26 58) (uO u 6) (uv7 u 38 22 54 14 46 30 62))))) ∧ ∃ L, CJ F M0 ct mb cl names Q L M' c' ∧ ∀ q ∈ Q, q.born ∈ L.map fun r => r.1.born := by
 obtain ⟨x6, x7, rfl, s6, s7⟩ := sim_seq hs
 obtain ⟨I, hI⟩ : ∃ I : Nat → T → List Nat → Mem → Nat → Prop, ∀ n t d M c, I n t d M c ↔ (∃ (L : List CD) (u : List (Option V)), n = Q.length - L.length ∧ d = [] ∧ t = (.n (.n (.n (uv7 u 31 15 47 7 39 23 55) (some (.p (ct + 1) 0)) (uv7 u 35 19 51 11 43 27 59)) (uO u 1) (.n (uv7 u 33 17 49 9 41 25 57) (uO u 5) (.n (.n (uv1 u 37) (some (.p (ct + 2) 0)) (uv1 u 53)) (uO u 13) (uv3 u 45 29 61)))) (some (.p tb 0)) (.n (.n (uv7 u 32 16 48 8 40 24 56) (uO u 4) (uv7 u 36 20 52 12 44 28 60)) (some (.p0)) (.n (uv7 u 34 18 50 10 42 26 58) (uO u 6) (uv7 u 38 22 54 14 46 30 62)))) ∧ CJ F M0 ct mb cl names Q L M c) := ⟨fun n t d M c => _, fun _ _ _ _ _ => Iff.rfl⟩
 refine Sat.rounds I ?_ Q.length _ _ _ _ ((hI _ _ _ _ _).2 ⟨[], [none, _, none, none, _, _, _, _, _, _, _, _, _, _, _, _, _, _, _, _, _, none, _, _, _, _, _, _, _, _, _, _, _, _, _, _, _, _, _, _, _, _, _, _, _, _, _, _, _, _, _, _, _, _, _, _, _, _, _, _, _, _, _], rfl, rfl, rfl, hJ⟩)
 intro n t d M1 c1 hIn
 obtain ⟨L, u, rfl, rfl, rfl, hL⟩ := (hI _ _ _ _ _).1 hIn
 clear hIn
 have hle := hL.le
 have lkm : look F M1 mb = some (.map (Q.map CN.ent) cl) := (look_congr (hL.old mb hmb)).trans hmap
 refine Sat.seq (Q1 := fun e t d M2 c2 => e = .nrm ∧ d = [] ∧ c2 = c1 ∧ ((leftE (L.map fun r => r.1.born) (Q.map CN.ent) = [] ∧ M2 = M1 ∧ ∃ u, t = (.n (.n (.n (.n (uv3 u 31 15 47) (uO u 7) (.n (uv1 u 39) (some (.b false)) (uv1 u 55))) (some (.p (ct + 1) 0)) (uv7 u 35 19 51 11 43 27 59)) (uO u 1) (.n (uv7 u 33 17 49 9 41 25 57) (uO u 5) (.n (.n (uv1 u 37) (some (.p (ct + 2) 0)) (uv1 u 53)) (uO u 13) (uv3 u 45 29 61)))) (some (.p tb 0)) (.n (.n (uv7 u 32 16 48 8 40 24 56) (uO u 4) (uv7 u 36 20 52 12 44 28 60)) (some (.p0)) (.n (uv7 u 34 18 50 10 42 26 58) (uO u 6) (uv7 u 38 22 54 14 46 30 62))))) ∨ (∃ q ∈ Q, q.born ∉ (L.map fun r => r.1.born) ∧ M2 = M1.set (ct + 2) (.miter (some mb) cl ((L.map fun r => r.1.born) ++ [q.born]) cl) ∧ ∃ u, t = (.n (.n (.n (.n (uv3 u 31 15 47) (uO u 7) (.n (uv1 u 39) (some (.b true)) (uv1 u 55))) (some (.p (ct + 1) 0)) (uv7 u 35 19 51 11 43 27 59)) (uO u 1) (.n (uv7 u 33 17 49 9 41 25 57) (uO u 5) (.n (.n (uv1 u 37) (some (.p (ct + 2) 0)) (uv1 u 53)) (uO u 13) (uv3 u 45 29 61)))) (some (.p tb 0)) (.n (.n (uv7 u 32 16 48 8 40 24 56) (uO u 4) (uv7 u 36 20 52 12 44 28 60)) (some (.p0)) (.n (uv7 u 34 18 50 10 42 26 58) (uO u 6) (.n (.n (uv1 u 38) (some (.t [.b true, .i .i64 q.n, .p q.nb 0])) (uv1 u 54)) (uO u 14) (uv3 u 46 30 62)))))))) ?_ ?_ ?_
 · refine Sat.nxt (fn := 9) hmo hΦ s6 (b := ct + 2) (m := mb) (since := cl) (st := cl) (clock := cl) (seen := L.map fun r => r.1.born) (es := Q.map CN.ent) ?_ hL.it lkm hord hold (Nat.le_refl _) ?_ ?_
   · rfl
   · intro hl
     simp only [WX, Nat.reducePow, Nat.reduceDiv, Nat.reduceMod, Nat.reduceBEq, Nat.reduceEqDiff, Int.reduceEq, Int.reduceLT, Int.reduceLE, reduceIte, reduceCtorEq, Nat.reduceAdd, Nat.reduceLeDiff, wd_e1, B9]
     exact .inl ⟨hl, [none, _, none, none, _, _, _, _, _, _, _, _, _, _, _, _, _, _, _, _, _, none, _, none, _, _, _, _, _, _, _, _, _, _, _, _, _, _, _, _, _, _, _, _, _, _, _, _, _, _, _, _, _, _, _, _, _, _, _, _, _, _, _], rfl⟩
   · intro e he
     obtain ⟨q, hq, rfl, hb⟩ := leftE_q he
     simp only [WX, Nat.reducePow, Nat.reduceDiv, Nat.reduceMod, Nat.reduceBEq, Nat.reduceEqDiff, Int.reduceEq, Int.reduceLT, Int.reduceLE, reduceIte, reduceCtorEq, Nat.reduceAdd, Nat.reduceLeDiff, wd_e1, B9, CN.ent]
     exact .inr ⟨q, hq, hb, rfl, [none, _, none, none, _, _, _, _, _, _, _, _, _, _, _, _, _, _, _, _, _, none, none, none, _, _, _, _, _, _, _, _, _, _, _, _, _, _, _, _, _, _, _, _, _, _, _, _, _, _, _, _, _, _, _, _, _, _, _, _, _, _, _], rfl⟩
 · rintro t1 d1 M2 c2 ⟨_, rfl, rfl, ⟨hl, rfl, u, rfl⟩ | ⟨q, hq, hb, rfl, u, rfl⟩⟩
   · refine (Sat.of_wp (fn := 9) hmo hΦ s7 (Q := fun e s' => e = .ext 0 ∧ ∃ u, s' = .mk ((.n (.n (.n (uv7 u 31 15 47 7 39 23 55) (some (.p (ct + 1) 0)) (uv7 u 35 19 51 11 43 27 59)) (uO u 1) (.n (uv7 u 33 17 49 9 41 25 57) (uO u 5) (.n (.n (uv1 u 37) (some (.p (ct + 2) 0)) (uv1 u 53)) (uO u 13) (uv3 u 45 29 61)))) (some (.p tb 0)) (.n (.n (uv7 u 32 16 48 8 40 24 56) (uO u 4) (uv7 u 36 20 52 12 44 28 60)) (some (.p0)) (.n (uv7 u 34 18 50 10 42 26 58) (uO u 6) (uv7 u 38 22 54 14 46 30 62))))) [] M2 c2) ?_).mono ?_
     · simp only [WX, Nat.reducePow, Nat.reduceDiv, Nat.reduceMod, Nat.reduceBEq, Nat.reduceEqDiff, Int.reduceEq, Int.reduceLT, Int.reduceLE, reduceIte, reduceCtorEq, Nat.reduceAdd, Nat.reduceLeDiff, wd_e1, B9]
       exact ⟨[none, _, none, none, _, _, _, _, _, _, _, _, _, _, _, _, _, _, _, _, _, none, _, _, _, _, _, _, _, _, _, _, _, _, _, _, _, _, _, _, _, _, _, _, _, _, _, _, _, _, _, _, _, _, _, _, _, _, _, _, _, _, _], rfl⟩
     · rintro e t' d' M' c' ⟨rfl, u, h'⟩
       injection h' with e1 e2 e3 e4
       subst e1 e2 e3 e4
       exact .inr ⟨(by intro h; cases h), rfl, rfl, ⟨u, rfl⟩, L, hL, leftE_n hl⟩
   · obtain ⟨dv, l, a1, a2, a3, a4, a5, a6, a7, a8, a9⟩ := hQ q hq
     have gO : ∀ b, b < ct → (M1.set (ct + 2) (.miter (some mb) cl ((L.map fun r => r.1.born) ++ [q.born]) cl)).get b = M0.get b := fun b hb => (get_ne _ _ (by omega)).trans (hL.old b hb)
     have hcc : ct ≤ c2 := by omega
     have okI : Okm F (M1.set (ct + 2) (.miter (some mb) cl ((L.map fun r => r.1.born) ++ [q.born]) cl)) c2 := hL.ok.put (by omega) hL.it
     have hne : ∀ r ∈ L, r.1.n ≠ q.n := fun r hr e => hb (List.mem_map.2 ⟨r, hr, by rw [uniq_n hnn (hL.sub r hr) hq e]⟩)
     have hlen : L.length ≤ Q.length := by
      have := sub_len (l1 := L.map fun r => r.1.born) (l2 := Q.map (·.born)) hL.nd fun x hx => by
       obtain ⟨r, hr, rfl⟩ := List.mem_map.1 hx
       exact List.mem_map.2 ⟨r.1, hL.sub r hr, rfl⟩
      rwa [List.length_map, List.length_map] at this
     have hlt : L.length < Q.length := by
      have := sub_len (l1 := (L.map fun r => r.1.born) ++ [q.born]) (l2 := Q.map (·.born)) (by
       rw [List.nodup_append]
       refine ⟨hL.nd, by simp, ?_⟩
       intro a ha b hb' e
       rw [List.mem_singleton] at hb'
       subst hb'
       rw [e] at ha
       exact hb ha) fun x hx => by
       rcases List.mem_append.1 hx with hx | hx
       · obtain ⟨r, hr, rfl⟩ := List.mem_map.1 hx
         exact List.mem_map.2 ⟨r.1, hL.sub r hr, rfl⟩
       · rw [List.mem_singleton] at hx; subst hx
         exact List.mem_map.2 ⟨q, hq, rfl⟩
      rw [List.length_append, List.length_map, List.length_map, List.length_singleton] at this
      omega
     have gG : Gr ct M0 c2 (M1.set (ct + 2) (.miter (some mb) cl ((L.map fun r => r.1.born) ++ [q.born]) cl)) := ⟨hcc, gO, okI.hiM⟩
     have hw := k9r h17 h18 (tb := tb) (ob := ct + 1) (om := ct) (it := ct + 2) (mb := mb) (born := q.born) (x := names) (seen := L.map fun r => r.1.born) (es := Q.map CN.ent) (eo := eoF L 0) (ko := L.length) okI (get_same _ _ _) ((look_congr (gO mb hmb)).trans hmap) hord (findBorn_q hnb hq)
      ((gG.loadN a4 0 7).trans a1) ((gG.load1 a4 5).trans a2) ((gG.load1 a4 6).trans a3) (by omega) (a5.grow gG) a6 ((look_congr (gO _ a8)).trans a7) (by omega) a9
      ((get_ne _ _ (by omega)).trans hL.ob) ((get_ne _ _ (by omega)).trans hL.om) (ordd_lt (by omega)) (ordd_lt (by omega)) (eoF_new hne) ⟨by omega, by omega, by omega, by omega⟩ u
     refine (Sat.of_wp (fn := 9) hmo hΦ s7 hw).mono ?_
     rintro e t' d' M' c' ⟨rfl, M3, c3, X, N, r, u, h', b1, b2, b3, b4, b5, b6, b7, b8, b9, b10⟩
     injection h' with e1 e2 e3 e4
     subst e1 e2 e3 e4
     refine .inl ⟨rfl, Q.length - (L.length + 1), by omega, (hI _ _ _ _ _).2 ⟨L ++ [(q, X, N)], u, by rw [List.length_append]; rfl, rfl, rfl, ?_⟩⟩
     exact hL.step hq hb b10 b1 b2 b3 b4 b5 b6 b7 b8 ((b9 _ (by omega) (by omega)).trans (get_same _ _ _)) fun b h1 h2 h3 => (b9 b h1 h2).trans (get_ne _ _ h3)
 · rintro e t1 d1 M2 c2 hne ⟨h1, _⟩
   exact absurd h1 hne
def rgmE (F : RO) (M : Mem) (c : Nat) (v : V) : RC := e_rgm (.c v) F M c .e
theorem x_rgm_eq {Φ : Nat → Option CF} {rd : Option Nat} {fn : Nat} {F : RO} (x : X) (M : Mem) (c : Nat) (t : T) : doE (.rgm x) (K Φ rd fn F) M c t = rgmE F M c (x.ev t) := Eq.trans rfl (Eq.refl _)
theorem rgmE_m {F : RO} {M : Mem} {b c k : Nat} {es : List (V × V × Nat)} (h : look F M b = some (.map es k)) (ho : ordd k = true) : rgmE F M c (.m b) = .k (.p c 0) (M.set c (.miter (some b) k [] k)) (c + 1) := by
 show asMap (look F M b) .f (fun _ clock => bif ordd clock then fN (Nat.succ c) fun c' => setM M c' c (.miter (some b) clock [] clock) (.p c 0) else .f) = _
 rw [h]
 show (bif ordd k then fN (Nat.succ c) fun c' => setM M c' c (.miter (some b) k [] k) (.p c 0) else .f) = _
 rw [ho, cond_true, fN_eq, setM_eq]
theorem a_mkm_eq (b : Nat) (t : T) : aop .mkm b t = some (.m b, .map [] 0) := Eq.trans rfl (Eq.refl _)
theorem copy_sat {P : Program} (hmo : P.follows .mixedOrders = true) {Φ : Nat → Option CF} (hΦ : PhiOk P Φ) (h15 : Φ 15 = some c15) (h17 : Φ 17 = some c17) (h18 : Φ 18 = some c18) {nt : Nat} {F : RO} {code : Code} (hs : Sim P nt code b9_14) {M0 : Mem} {ct tb mb cl : Nat} {nn : Int} {Q : List CN} (ok : Okm F M0 ct) (htb : tb < ct) (l0 : load1 F M0 tb 0 = some (.m mb)) (l1 : load1 F M0 tb 1 = some (.i .i64 nn))
  (hmap : look F M0 mb = some (.map (Q.map CN.ent) cl)) (hmb : mb < ct) (hord : ordd cl = true) (hold : allOld cl (Q.map CN.ent) = true) (hnb : (Q.map (·.born)).Nodup) (hnn : (Q.map (·.n)).Nodup) (hQ : ∀ q ∈ Q, q.At F M0 ct) (hql : Q.length < 1000000) :
  Sat P none nt F code (argTr 6 [.p tb 0]) [] M0 ct fun e t d M' c' => e = .ret ∧ d = [] ∧ resV F M' t [.t a2] = some [.p (ct + 1) 0] ∧ ∃ L, CJ F M0 ct mb cl (.i .i64 nn) Q L M' c' ∧ ∀ q ∈ Q, q.born ∈ L.map fun r => r.1.born := by
 have hge := ok.ge
 obtain ⟨x1, y1, rfl, s1, hs⟩ := sim_seq hs
 obtain ⟨xA, yA, rfl, sA, hs⟩ := sim_seq (show Sim P nt y1 (.seq (.seq b9_1 (.cond z9 b9_2 .skip)) (.seq b9_3 b9_12)) from hs)
 obtain ⟨x3, y3, rfl, s3, hs⟩ := sim_seq hs
 obtain ⟨xB, yB, rfl, sB, s9⟩ := sim_seq (show Sim P nt y3 (.seq (.seq b9_4 (.block 0 (.loop (.seq b9_5 b9_10)))) (.seq b9_11 .ret)) from hs)
 obtain ⟨x4, xb, rfl, s4, sb⟩ := sim_seq sB
 obtain ⟨yb, hyb, sb2⟩ := sim_block sb
 obtain ⟨yl, hyl, sl⟩ := sim_loop sb2
 subst hyb hyl
 refine Sat.seq (Sat.of_wp (fn := 9) hmo hΦ s1 (Q := fun e s' => e = .nrm ∧ ∃ u, s' = .mk ((.n (.n (.n (uv7 u 31 15 47 7 39 23 55) (uO u 3) (uv7 u 35 19 51 11 43 27 59)) (uO u 1) (.n (uv7 u 33 17 49 9 41 25 57) (uO u 5) (uv7 u 37 21 53 13 45 29 61))) (some (.p tb 0)) (.n (.n (uv7 u 32 16 48 8 40 24 56) (uO u 4) (uv7 u 36 20 52 12 44 28 60)) (some (.p0)) (.n (uv7 u 34 18 50 10 42 26 58) (uO u 6) (uv7 u 38 22 54 14 46 30 62))))) [] M0 ct) ?_) ?_ ?_
 · simp only [WX, Nat.reducePow, Nat.reduceDiv, Nat.reduceMod, Nat.reduceBEq, Nat.reduceEqDiff, Int.reduceEq, Int.reduceLT, Int.reduceLE, reduceIte, reduceCtorEq, Nat.reduceAdd, Nat.reduceLeDiff, wd_e1, B9]
   exact ⟨[none, _, none, _, _, _, _, _, _, _, _, _, _, _, _, _, _, _, _, _, _, _, _, _, _, _, _, _, _, _, _, _, _, _, _, _, _, _, _, _, _, _, _, _, _, _, _, _, _, _, _, _, _, _, _, _, _, _, _, _, _, _, _], rfl⟩
 rotate_left
 · rintro e t d M c hne ⟨h1, _⟩
   exact absurd h1 hne
 rintro t d M c ⟨_, u, h'⟩
 injection h' with e1 e2 e3 e4
 subst e1 e2 e3 e4
 refine Sat.seq (Sat.of_wp (fn := 9) hmo hΦ sA (Q := fun e s' => e = .nrm ∧ ∃ u, s' = .mk ((.n (.n (.n (uv7 u 31 15 47 7 39 23 55) (uO u 3) (uv7 u 35 19 51 11 43 27 59)) (uO u 1) (.n (uv7 u 33 17 49 9 41 25 57) (uO u 5) (uv7 u 37 21 53 13 45 29 61))) (some (.p tb 0)) (.n (.n (uv7 u 32 16 48 8 40 24 56) (uO u 4) (uv7 u 36 20 52 12 44 28 60)) (some (.p0)) (.n (uv7 u 34 18 50 10 42 26 58) (uO u 6) (uv7 u 38 22 54 14 46 30 62))))) [] M c) ?_) ?_ ?_
 · simp only [WX, Nat.reducePow, Nat.reduceDiv, Nat.reduceMod, Nat.reduceBEq, Nat.reduceEqDiff, Int.reduceEq, Int.reduceLT, Int.reduceLE, reduceIte, reduceCtorEq, Nat.reduceAdd, Nat.reduceLeDiff, wd_e1, B9]
   refine putE_to ((r15 h15 l0).mono ?_)
   rintro r M1 c1 ⟨rfl, rfl, rfl⟩
   simp only [WX, Nat.reducePow, Nat.reduceDiv, Nat.reduceMod, Nat.reduceBEq, Nat.reduceEqDiff, Int.reduceEq, Int.reduceLT, Int.reduceLE, reduceIte, reduceCtorEq, Nat.reduceAdd, Nat.reduceLeDiff, wd_e1, B9]
   exact ⟨[none, _, none, _, _, _, _, _, _, _, _, _, _, _, _, _, _, _, _, _, _, _, _, _, _, _, _, _, _, _, _, _, _, _, _, _, _, _, _, _, _, _, _, _, _, _, _, _, _, _, _, _, _, _, _, _, _, _, _, _, _, _, _], rfl⟩
 rotate_left
 · rintro e t d M c hne ⟨h1, _⟩
   exact absurd h1 hne
 rintro t d M1 c1 ⟨_, u, h'⟩
 injection h' with e1 e2 e3 e4
 subst e1 e2 e3 e4
 have gA := ((Gr.refl ok).set (c2 := c1 + 1) c1 (.map [] 0) (Nat.le_refl _) (Nat.lt_succ_self _) (Nat.le_succ _)).set (c2 := c1 + 2) (c1 + 1) (rowB 42 [.m c1, .i .i64 nn]) (by omega) (by omega) (by omega)
 have okA := gA.ok ok
 have g1 := (Gr.refl ok).set (c2 := c1 + 1) c1 (.map [] 0) (Nat.le_refl _) (Nat.lt_succ_self _) (Nat.le_succ _)
 have l1' : load1 F (M1.set c1 (.map [] 0)) tb 1 = some (.i .i64 nn) := (g1.load1 htb 1).trans l1
 refine Sat.seq (Sat.of_wp (fn := 9) hmo hΦ s3 (Q := fun e s' => e = .nrm ∧ ∃ u, s' = .mk ((.n (.n (.n (uv7 u 31 15 47 7 39 23 55) (some (.p (c1 + 1) 0)) (uv7 u 35 19 51 11 43 27 59)) (uO u 1) (.n (uv7 u 33 17 49 9 41 25 57) (uO u 5) (uv7 u 37 21 53 13 45 29 61))) (some (.p tb 0)) (.n (.n (uv7 u 32 16 48 8 40 24 56) (uO u 4) (uv7 u 36 20 52 12 44 28 60)) (some (.p0)) (.n (uv7 u 34 18 50 10 42 26 58) (uO u 6) (uv7 u 38 22 54 14 46 30 62))))) [] ((M1.set c1 (.map [] 0)).set (c1 + 1) (rowB 42 [.m c1, .i .i64 nn])) (c1 + 2)) ?_) ?_ ?_
 · simp only [WX, Nat.reducePow, Nat.reduceDiv, Nat.reduceMod, Nat.reduceBEq, Nat.reduceEqDiff, Int.reduceEq, Int.reduceLT, Int.reduceLE, reduceIte, reduceCtorEq, Nat.reduceAdd, Nat.reduceLeDiff, wd_e1, B9, a_mkm_eq, v_nck, nckV_p, l1', isOne_m]
   exact ⟨[none, _, none, none, _, _, _, _, _, _, _, _, _, _, _, _, _, _, _, _, _, _, _, _, _, _, _, _, _, _, _, _, _, _, _, _, _, _, _, _, _, _, _, _, _, _, _, _, _, _, _, _, _, _, _, _, _, _, _, _, _, _, _], rfl⟩
 rotate_left
 · rintro e t d M c hne ⟨h1, _⟩
   exact absurd h1 hne
 rintro t d M2 c2 ⟨_, u, h'⟩
 injection h' with e1 e2 e3 e4
 subst e1 e2 e3 e4
 have m1 : ((M1.set c1 (.map [] 0)).set (c1 + 1) (rowB 42 [.m c1, .i .i64 nn])).get (c1 + 1) = some (rowB 42 [.m c1, .i .i64 nn]) := get_same _ _ _
 have m0 : ((M1.set c1 (.map [] 0)).set (c1 + 1) (rowB 42 [.m c1, .i .i64 nn])).get c1 = some (.map [] 0) := (get_ne _ _ (by omega)).trans (get_same _ _ _)
 generalize (M1.set c1 (.map [] 0)).set (c1 + 1) (rowB 42 [.m c1, .i .i64 nn]) = M2 at gA okA m1 m0 ⊢
 have hmap2 : look F M2 mb = some (.map (Q.map CN.ent) cl) := (gA.look hmb).trans hmap
 have l02 : load1 F M2 tb 0 = some (.m mb) := (gA.load1 htb 0).trans l0
 have qr := rgmE_m (c := c1 + 2) hmap2 hord
 have g3 := (Gr.refl okA).set (c1 + 2) (.miter (some mb) cl [] cl) (Nat.le_refl _) (Nat.lt_succ_self _) (Nat.le_succ _)
 have ok3 := g3.ok okA
 have f3 := ok3.free
 refine Sat.seq (Q1 := fun e t d M' c' => e = .nrm ∧ d = [] ∧ (∃ u, t = (.n (.n (.n (uv7 u 31 15 47 7 39 23 55) (some (.p (c1 + 1) 0)) (uv7 u 35 19 51 11 43 27 59)) (uO u 1) (.n (uv7 u 33 17 49 9 41 25 57) (uO u 5) (.n (.n (uv1 u 37) (some (.p (c1 + 2) 0)) (uv1 u 53)) (uO u 13) (uv3 u 45 29 61)))) (some (.p tb 0)) (.n (.n (uv7 u 32 16 48 8 40 24 56) (uO u 4) (uv7 u 36 20 52 12 44 28 60)) (some (.p0)) (.n (uv7 u 34 18 50 10 42 26 58) (uO u 6) (uv7 u 38 22 54 14 46 30 62))))) ∧ ∃ L, CJ F M1 c1 mb cl (.i .i64 nn) Q L M' c' ∧ ∀ q ∈ Q, q.born ∈ L.map fun r => r.1.born) ?_ ?_ ?_
 · refine Sat.seq (Sat.of_wp (fn := 9) hmo hΦ s4 (Q := fun e s' => e = .nrm ∧ ∃ u, s' = .mk ((.n (.n (.n (uv7 u 31 15 47 7 39 23 55) (some (.p (c1 + 1) 0)) (uv7 u 35 19 51 11 43 27 59)) (uO u 1) (.n (uv7 u 33 17 49 9 41 25 57) (uO u 5) (.n (.n (uv1 u 37) (some (.p (c1 + 2) 0)) (uv1 u 53)) (uO u 13) (uv3 u 45 29 61)))) (some (.p tb 0)) (.n (.n (uv7 u 32 16 48 8 40 24 56) (uO u 4) (uv7 u 36 20 52 12 44 28 60)) (some (.p0)) (.n (uv7 u 34 18 50 10 42 26 58) (uO u 6) (uv7 u 38 22 54 14 46 30 62))))) [] (M2.set (c1 + 2) (.miter (some mb) cl [] cl)) (c1 + 3)) ?_) ?_ ?_
   · simp only [WX, Nat.reducePow, Nat.reduceDiv, Nat.reduceMod, Nat.reduceBEq, Nat.reduceEqDiff, Int.reduceEq, Int.reduceLT, Int.reduceLE, reduceIte, reduceCtorEq, Nat.reduceAdd, Nat.reduceLeDiff, wd_e1, B9, x_rgm_eq, v_nck, nckV_p, l02, qr, f3]
     exact ⟨[none, _, none, none, _, _, _, _, _, _, _, _, _, _, _, _, _, _, _, _, _, none, _, _, _, _, _, _, _, _, _, _, _, _, _, _, _, _, _, _, _, _, _, _, _, _, _, _, _, _, _, _, _, _, _, _, _, _, _, _, _, _, _], rfl⟩
   rotate_left
   · rintro e t d M c hne ⟨h1, _⟩
     exact absurd h1 hne
   rintro t d M3 c3 ⟨_, u, h'⟩
   injection h' with e1 e2 e3 e4
   subst e1 e2 e3 e4
   refine Sat.block ?_
   refine (copy_loop hmo hΦ h17 h18 sl (M := M2.set (c1 + 2) (.miter (some mb) cl [] cl)) (c := c1 + 3) (names := .i .i64 nn) hmap hmb hord hold hnb hnn hQ hql ⟨ok3, Nat.le_refl _, fun b hb => (get_ne _ _ (by omega)).trans (gA.old b hb), (get_ne _ _ (by omega)).trans m0, (get_ne _ _ (by omega)).trans m1, get_same _ _ _, (fun r hr => by cases hr), List.nodup_nil, (fun r hr => by cases hr), List.nodup_nil⟩ u).mono ?_
   rintro e t d M' c' ⟨rfl, h1, h2, h3⟩
   exact ⟨rfl, h1, h2, h3⟩
 · rintro t d M' c' ⟨_, rfl, ⟨u, rfl⟩, L, hL, hall⟩
   refine (Sat.of_wp (fn := 9) hmo hΦ s9 (Q := fun e s' => e = .ret ∧ ∃ u, s' = .mk ((.n (.n (.n (uv7 u 31 15 47 7 39 23 55) (some (.p (c1 + 1) 0)) (uv7 u 35 19 51 11 43 27 59)) (uO u 1) (.n (uv7 u 33 17 49 9 41 25 57) (uO u 5) (uv7 u 37 21 53 13 45 29 61))) (some (.p tb 0)) (.n (.n (uv7 u 32 16 48 8 40 24 56) (uO u 4) (uv7 u 36 20 52 12 44 28 60)) (some (.p (c1 + 1) 0)) (.n (uv7 u 34 18 50 10 42 26 58) (uO u 6) (uv7 u 38 22 54 14 46 30 62))))) [] M' c') ?_).mono ?_
   · simp only [WX, Nat.reducePow, Nat.reduceDiv, Nat.reduceMod, Nat.reduceBEq, Nat.reduceEqDiff, Int.reduceEq, Int.reduceLT, Int.reduceLE, reduceIte, reduceCtorEq, Nat.reduceAdd, Nat.reduceLeDiff, wd_e1, B9]
     exact ⟨[none, _, none, none, _, _, _, _, _, _, _, _, _, _, _, _, _, _, _, _, _, _, _, _, _, _, _, _, _, _, _, _, _, _, _, _, _, _, _, _, _, _, _, _, _, _, _, _, _, _, _, _, _, _, _, _, _, _, _, _, _, _, _], rfl⟩
   · rintro e t d M3 c3 ⟨rfl, u, h'⟩
     injection h' with e1 e2 e3 e4
     subst e1 e2 e3 e4
     exact ⟨rfl, rfl, rfl, L, hL, hall⟩
 · rintro e t d M c hne ⟨h1, _⟩
   exact absurd h1 hne
def nodeT (q : CN) : T := ((((((Tr.e.set 0 (.b q.dir)).set 1 (.i .i64 q.ow)).set 2 (.i .i64 q.ri)).set 3 (.i .i64 q.li)).set 4 (.i .i64 q.he)).set 6 (.m q.cn))
def nodeB (q : CN) : Blk := .cells 48 7 true 0 false [] (nodeT q)
def cpEs (Q : List CN) : List (V × V × Nat) := Q.map fun q => (.i .i64 q.n, .p q.cx 0, 0)
def BIG : Nat := 18446744073709551616
def cpM1 (ct : Nat) (nn : Int) (Q : List CN) : List (Nat × Blk) := (ct, .map (cpEs Q) BIG) :: (ct + 1, rowB 42 [.m ct, .i .i64 nn]) :: Q.flatMap fun q => [(q.cx, nodeB q), (q.cn, .map q.ns q.nk)]
theorem cell_e {n k : Nat} {t : T} {v : V} (h : cell n [] t k = some v) : k < n ∧ t.get k = some v := by
 have h : Bool.rec (motive := fun _ => Option V) none (Option.rec (motive := fun _ => Option V) (nth [] (Nat.mod k 0)) (fun v => some v) (t.get k)) (Nat.blt k n) = some v := h
 cases hb : Nat.blt k n with
 | false => rw [hb] at h; cases h
 | true =>
   rw [hb] at h
   rw [bltN] at hb
   refine ⟨of_decide_eq_true hb, ?_⟩
   cases ht : t.get k with
   | none => rw [ht] at h; cases h
   | some x => rw [ht] at h; exact h
theorem nodeT_get {q : CN} {k : Nat} {v : V} (h : (nodeT q).get k = some v) : (k = 0 ∧ v = .b q.dir) ∨ (k = 1 ∧ v = .i .i64 q.ow) ∨ (k = 2 ∧ v = .i .i64 q.ri) ∨ (k = 3 ∧ v = .i .i64 q.li) ∨ (k = 4 ∧ v = .i .i64 q.he) ∨ (k = 6 ∧ v = .m q.cn) := by
 unfold nodeT at h
 rw [Tr.get_set] at h
 split at h
 · rename_i e; cases h; exact .inr (.inr (.inr (.inr (.inr ⟨e, rfl⟩))))
 rw [Tr.get_set] at h
 split at h
 · rename_i e; cases h; exact .inr (.inr (.inr (.inr (.inl ⟨e, rfl⟩))))
 rw [Tr.get_set] at h
 split at h
 · rename_i e; cases h; exact .inr (.inr (.inr (.inl ⟨e, rfl⟩)))
 rw [Tr.get_set] at h
 split at h
 · rename_i e; cases h; exact .inr (.inr (.inl ⟨e, rfl⟩))
 rw [Tr.get_set] at h
 split at h
 · rename_i e; cases h; exact .inr (.inl ⟨e, rfl⟩)
 rw [Tr.get_set] at h
 split at h
 · rename_i e; cases h; exact .inl ⟨e, rfl⟩
 cases h
def plainE (es : List (V × V × Nat)) : Bool := es.all fun e => match e.1, e.2.1 with
 | .s _ _, .i _ _ => true
 | _, _ => false
theorem plainE_re {es : List (V × V × Nat)} (h : plainE es = true) (τ : Nat → Nat) : ∀ e ∈ es, ReE τ e e := by
 intro e he
 have := List.all_eq_true.1 h e he
 obtain ⟨a, b, c⟩ := e
 cases a <;> cases b <;> first | (cases this; done) | exact ⟨ReV.s _ _, ReV.i _ _⟩
theorem fm_ne {α : Type} {f g : α → Nat} : ∀ {L : List α} {r : α}, (L.flatMap fun r => [f r, g r]).Nodup → r ∈ L → f r ≠ g r
 | a :: L, r, h, hr => by
   rw [List.flatMap_cons, List.nodup_append] at h
   rcases List.mem_cons.1 hr with rfl | hr
   · have h1 := h.1
     rw [List.nodup_cons] at h1
     exact fun e => h1.1 (by rw [e]; exact List.mem_singleton.2 rfl)
   · exact fm_ne h.2.1 hr
theorem fm_eq {α : Type} {f g : α → Nat} : ∀ {L : List α} {r r' : α} {x : Nat}, (L.flatMap fun r => [f r, g r]).Nodup → r ∈ L → r' ∈ L → (x = f r ∨ x = g r) → (x = f r' ∨ x = g r') → r = r'
 | a :: L, r, r', x, h, hr, hr', h1, h2 => by
   rw [List.flatMap_cons, List.nodup_append] at h
   have mm : ∀ {s : α}, (x = f s ∨ x = g s) → x ∈ [f s, g s] := fun hs => by
    rcases hs with e | e
    · rw [e]; exact List.mem_cons_self ..
    · rw [e]; exact List.mem_cons_of_mem _ (List.mem_cons_self ..)
   rcases List.mem_cons.1 hr with e1 | e1
   · rcases List.mem_cons.1 hr' with e2 | e2
     · rw [e1, e2]
     · exact (h.2.2 x (by rw [e1] at h1; exact mm h1) x (List.mem_flatMap.2 ⟨r', e2, mm h2⟩) rfl).elim
   · rcases List.mem_cons.1 hr' with e2 | e2
     · exact (h.2.2 x (by rw [e2] at h2; exact mm h2) x (List.mem_flatMap.2 ⟨r, e1, mm h1⟩) rfl).elim
     · exact fm_eq h.2.1 e1 e2 h1 h2
theorem nd_eq {α : Type} {f : α → Nat} : ∀ {L : List α} {r r' : α}, (L.map f).Nodup → r ∈ L → r' ∈ L → f r = f r' → r = r'
 | a :: L, r, r', h, hr, hr', e => by
   rw [List.map_cons, List.nodup_cons] at h
   rcases List.mem_cons.1 hr with e1 | e1
   · rcases List.mem_cons.1 hr' with e2 | e2
     · rw [e1, e2]
     · exact (h.1 (List.mem_map.2 ⟨r', e2, by rw [← e, e1]⟩)).elim
   · rcases List.mem_cons.1 hr' with e2 | e2
     · exact (h.1 (List.mem_map.2 ⟨r, e1, by rw [e, e2]⟩)).elim
     · exact nd_eq h.2 e1 e2 e
def cpT (L : List CD) (b : Nat) : Nat := match L.find? (fun r => decide (r.1.cx = b)) with
 | some r => r.2.1
 | none => match L.find? (fun r => decide (r.1.cn = b)) with
   | some r => r.2.2
   | none => b
def eoC : List CD → Nat → List (V × V × Nat)
 | [], _ => []
 | r :: L, i => (.i .i64 r.1.n, .p r.1.cx 0, i) :: eoC L (i + 1)
theorem eoC_len : ∀ (L : List CD) (i : Nat), (eoC L i).length = L.length
 | [], _ => rfl
 | a :: L, i => by rw [eoC, List.length_cons, List.length_cons, eoC_len L]
theorem eoC_kv : ∀ (L : List CD) (i : Nat), kvE (eoC L i) = (L.map (·.1)).map fun q => (.i .i64 q.n, .p q.cx 0)
 | [], _ => rfl
 | a :: L, i => by
   have := eoC_kv L (i + 1)
   unfold kvE at this ⊢
   rw [eoC, List.map_cons, List.map_cons, List.map_cons, this]
theorem eo_re {τ : Nat → Nat} : ∀ {L : List CD} (i : Nat), (∀ r ∈ L, τ r.1.cx = r.2.1) → ∀ j (h1 : j < (eoF L i).length) (h2 : j < (eoC L i).length), ReE τ (eoF L i)[j] (eoC L i)[j] ∧ (eoF L i)[j].2.2 = (eoC L i)[j].2.2
 | [], i, h, j, h1, h2 => by cases h1
 | a :: L, i, h, 0, h1, h2 => by
   have e := h a (List.mem_cons_self ..)
   refine ⟨⟨ReV.i _ _, ?_⟩, rfl⟩
   show ReV τ (.p a.2.1 0) (.p a.1.cx 0)
   rw [← e]; exact ReV.p _ _
 | a :: L, i, h, j + 1, h1, h2 => eo_re (i + 1) (fun r hr => h r (List.mem_cons_of_mem _ hr)) j (by simpa [eoF] using h1) (by simpa [eoC] using h2)
theorem copy_ren {P : Program} {F : RO} {M0 M : Mem} {ct mb cl c ct' : Nat} {nn : Int} {Q : List CN} {L : List CD} (hJ : CJ F M0 ct mb cl (.i .i64 nn) Q L M c) (hall : ∀ q ∈ Q, q.born ∈ L.map fun r => r.1.born) (hnb : (Q.map (·.born)).Nodup) (hnn : (Q.map (·.n)).Nodup) (hcN : (Q.flatMap fun q => [q.cx, q.cn]).Nodup) (hcr : ∀ q ∈ Q, (ct + 3 ≤ q.cx ∧ q.cx < ct') ∧ (ct + 3 ≤ q.cn ∧ q.cn < ct')) (hle : ct + 3 ≤ ct') (hpl : ∀ q ∈ Q, plainE q.ns = true ∧ ordd q.nk = true) (hql : Q.length < 1000000) (h0 : ∀ b, ct ≤ b → M0.get b = none) :
  ReN P (cpT L) M0 M (setAll M0 (cpM1 ct nn Q)) ct ct' (.p (ct + 1) 0) (.p (ct + 1) 0) := by
 have hsub := hJ.sub
 have u1 : ∀ {r r' : CD}, r ∈ L → r' ∈ L → r.1 = r'.1 → r = r' := fun h1 h2 e => nd_eq (f := fun r : CD => r.1.born) hJ.nd h1 h2 (by show _ = _; rw [e])
 have t3 : ∀ b, b < ct + 3 → cpT L b = b := by
  intro b hb
  unfold cpT
  have e1 : L.find? (fun r => decide (r.1.cx = b)) = none := List.find?_eq_none.2 fun r hr => by have := hcr r.1 (hsub r hr); simp; omega
  have e2 : L.find? (fun r => decide (r.1.cn = b)) = none := List.find?_eq_none.2 fun r hr => by have := hcr r.1 (hsub r hr); simp; omega
  rw [e1, e2]
 have t1 : ∀ r ∈ L, cpT L r.1.cx = r.2.1 := by
  intro r hr
  unfold cpT
  cases e1 : L.find? (fun r' => decide (r'.1.cx = r.1.cx)) with
  | none => exact absurd (List.find?_eq_none.1 e1 r hr) (by simp)
  | some r' =>
    have h1 := List.mem_of_find?_eq_some e1
    have h2 := List.find?_some e1
    have h2 : r'.1.cx = r.1.cx := of_decide_eq_true h2
    have := u1 h1 hr (fm_eq (f := CN.cx) (g := CN.cn) hcN (hsub _ h1) (hsub _ hr) (x := r.1.cx) (.inl h2.symm) (.inl rfl))
    rw [this]
 have t2 : ∀ r ∈ L, cpT L r.1.cn = r.2.2 := by
  intro r hr
  unfold cpT
  have e0 : L.find? (fun r' => decide (r'.1.cx = r.1.cn)) = none := List.find?_eq_none.2 fun r' hr' => by
   intro h
   have h : r'.1.cx = r.1.cn := of_decide_eq_true h
   have e := fm_eq (f := CN.cx) (g := CN.cn) hcN (hsub _ hr') (hsub _ hr) (x := r.1.cn) (.inl h.symm) (.inr rfl)
   rw [e] at h
   exact fm_ne (f := CN.cx) (g := CN.cn) hcN (hsub _ hr) h
  rw [e0]
  cases e1 : L.find? (fun r' => decide (r'.1.cn = r.1.cn)) with
  | none => exact absurd (List.find?_eq_none.1 e1 r hr) (by simp)
  | some r' =>
    have h1 := List.mem_of_find?_eq_some e1
    have h2 := List.find?_some e1
    have h2 : r'.1.cn = r.1.cn := of_decide_eq_true h2
    have := u1 h1 hr (fm_eq (f := CN.cx) (g := CN.cn) hcN (hsub _ h1) (hsub _ hr) (x := r.1.cn) (.inr h2.symm) (.inr rfl))
    show r'.2.2 = _
    rw [this]
 have hrec : ∀ q ∈ Q, ∃ r ∈ L, r.1 = q := by
  intro q hq
  obtain ⟨r, hr, e⟩ := List.mem_map.1 (hall q hq)
  exact ⟨r, hr, nd_eq (f := CN.born) hnb (hsub r hr) hq e⟩
 have hperm : (L.map (·.1)).Perm Q := by
  have n1 : (L.map fun r : CD => r.1).Nodup := by
   have h := hJ.nd
   rw [show (L.map fun r : CD => r.1.born) = (L.map fun r : CD => r.1).map CN.born by rw [List.map_map]; rfl] at h
   exact List.Pairwise.imp (fun hne e => hne (by rw [e])) (List.pairwise_map.1 h)
  have n2 : Q.Nodup := List.Pairwise.imp (fun hne e => hne (by rw [e])) (List.pairwise_map.1 hnb)
  refine (List.perm_ext_iff_of_nodup n1 n2).2 fun q => ⟨fun h => ?_, fun h => ?_⟩
  · obtain ⟨r, hr, rfl⟩ := List.mem_map.1 h
    exact hsub r hr
  · obtain ⟨r, hr, e⟩ := hrec q h
    exact List.mem_map.2 ⟨r, hr, e⟩
 have hlen : L.length = Q.length := by have := hperm.length_eq; rwa [List.length_map] at this
 have hN : ∀ b blk, (setAll M0 (cpM1 ct nn Q)).get b = some blk → (b < ct ∧ M0.get b = some blk) ∨ (b = ct ∧ blk = .map (cpEs Q) BIG) ∨ (b = ct + 1 ∧ blk = rowB 42 [.m ct, .i .i64 nn]) ∨ ∃ r ∈ L, (b = r.1.cx ∧ blk = nodeB r.1) ∨ (b = r.1.cn ∧ blk = .map r.1.ns r.1.nk) := by
  intro b blk h
  rcases setAll_get _ _ b blk h with h | ⟨h, _⟩
  · unfold cpM1 at h
    rcases List.mem_cons.1 h with e | h
    · injection e with e1 e2; exact .inr (.inl ⟨e1, e2⟩)
    rcases List.mem_cons.1 h with e | h
    · injection e with e1 e2; exact .inr (.inr (.inl ⟨e1, e2⟩))
    obtain ⟨q, hq, h⟩ := List.mem_flatMap.1 h
    obtain ⟨r, hr, rfl⟩ := hrec q hq
    refine .inr (.inr (.inr ⟨r, hr, ?_⟩))
    rcases List.mem_cons.1 h with e | h
    · injection e with e1 e2; exact .inl ⟨e1, e2⟩
    · have e := List.mem_singleton.1 h
      injection e with e1 e2; exact .inr ⟨e1, e2⟩
  · refine .inl ⟨Nat.lt_of_not_le fun hc => ?_, h⟩
    rw [h0 b hc] at h; cases h
 have e0 : cpT L ct = ct := t3 _ (by omega)
 have e1 : cpT L (ct + 1) = ct + 1 := t3 _ (by omega)
 refine ⟨fun b hb => t3 b (by omega), by omega, ?_, (by show ct + 1 < ct'; omega), ?_, ?_⟩
 · have := ReV.p (τ := cpT L) (ct + 1) 0
   rwa [e1] at this
 · intro b blk h
   rcases hN b blk h with ⟨h1, h2⟩ | ⟨rfl, rfl⟩ | ⟨rfl, rfl⟩ | ⟨r, hr, ⟨rfl, rfl⟩ | ⟨rfl, rfl⟩⟩
   · exact .inl ⟨h1, h2, (hJ.old b h1).trans h2⟩
   · refine .inr ⟨Nat.le_refl _, by omega, ?_, _, by rw [e0]; exact hJ.om, ?_⟩
     · intro e he
       obtain ⟨q, hq, rfl⟩ := List.mem_map.1 he
       exact ⟨trivial, (hcr q hq).1.2⟩
     · refine ReB.umap (l2 := eoC L 0) (ordd_lt (by omega)) (by unfold ordd BIG; rfl) ⟨⟨.i64, fun e he => ?_⟩, ?_⟩ (by rw [eoF_len, eoC_len]) (eo_re 0 t1) ?_
       · obtain ⟨q, hq, rfl⟩ := List.mem_map.1 he
         exact ⟨q.n, rfl⟩
       · unfold cpEs
         rw [List.map_map]
         refine List.pairwise_map.2 (List.Pairwise.imp (fun hne e => hne ?_) (List.pairwise_map.1 hnn))
         injection e
       · rw [eoC_kv]
         have : kvE (cpEs Q) = Q.map fun q => (V.i .i64 q.n, V.p q.cx 0) := by unfold kvE cpEs; rw [List.map_map]; rfl
         rw [this]
         exact hperm.map _
   · refine .inr ⟨by omega, by omega, ?_, _, by rw [e1]; exact hJ.ob, ?_⟩
     · intro k v hk
       have hk := cell_list hk
       match k, hk with
       | 0, hk => obtain rfl := Option.some.inj hk; show ct < ct'; omega
       | 1, hk => obtain rfl := Option.some.inj hk; trivial
       | k + 2, hk => cases hk
     · refine ReB.cells fun k v hk => ⟨v, hk, ?_⟩
       have hk := cell_list hk
       match k, hk with
       | 0, hk =>
         obtain rfl := Option.some.inj hk
         have := ReV.m (τ := cpT L) ct
         rwa [e0] at this
       | 1, hk => obtain rfl := Option.some.inj hk; exact ReV.i _ _
       | k + 2, hk => cases hk
   · obtain ⟨⟨dv, g1⟩, g2, g3, g4⟩ := hJ.row r hr
     have hc := hcr _ (hsub r hr)
     refine .inr ⟨by omega, hc.1.2, ?_, _, by rw [t1 r hr]; exact g1, ?_⟩
     · intro k v hk
       rcases nodeT_get (cell_e hk).2 with ⟨_, rfl⟩ | ⟨_, rfl⟩ | ⟨_, rfl⟩ | ⟨_, rfl⟩ | ⟨_, rfl⟩ | ⟨_, rfl⟩
       · trivial
       · trivial
       · trivial
       · trivial
       · trivial
       · exact hc.2.2
     · refine ReB.cells fun k v hk => ?_
       have key : ∀ i, cell 7 [] (rowT [.b r.1.dir, .i .i64 r.1.ow, .i .i64 r.1.ri, .i .i64 r.1.li, .i .i64 r.1.he, dv, .m r.2.2]) i = [V.b r.1.dir, .i .i64 r.1.ow, .i .i64 r.1.ri, .i .i64 r.1.li, .i .i64 r.1.he, dv, .m r.2.2][i]? := fun i => cell_row [V.b r.1.dir, .i .i64 r.1.ow, .i .i64 r.1.ri, .i .i64 r.1.li, .i .i64 r.1.he, dv, .m r.2.2] i
       rcases nodeT_get (cell_e hk).2 with ⟨rfl, rfl⟩ | ⟨rfl, rfl⟩ | ⟨rfl, rfl⟩ | ⟨rfl, rfl⟩ | ⟨rfl, rfl⟩ | ⟨rfl, rfl⟩
       · exact ⟨_, key 0, ReV.b _⟩
       · exact ⟨_, key 1, ReV.i _ _⟩
       · exact ⟨_, key 2, ReV.i _ _⟩
       · exact ⟨_, key 3, ReV.i _ _⟩
       · exact ⟨_, key 4, ReV.i _ _⟩
       · refine ⟨_, key 6, ?_⟩
         rw [← t2 r hr]
         exact ReV.m _
   · obtain ⟨_, g2, g3, g4⟩ := hJ.row r hr
     have hc := hcr _ (hsub r hr)
     have hp := hpl _ (hsub r hr)
     refine .inr ⟨by omega, hc.2.2, ?_, _, by rw [t2 r hr]; exact g2, ReB.map hp.2 (plainE_re hp.1 _)⟩
     intro e he
     have := List.all_eq_true.1 hp.1 e he
     obtain ⟨a, b, c⟩ := e
     cases a <;> cases b <;> first | (cases this; done) | exact ⟨trivial, trivial⟩
 · have cls : ∀ b, (b < ct ∨ ((setAll M0 (cpM1 ct nn Q)).get b).isSome) → b < ct + 3 ∨ ∃ r ∈ L, b = r.1.cx ∨ b = r.1.cn := by
    intro b h
    rcases h with h | h
    · exact .inl (by omega)
    · obtain ⟨x, hx⟩ := Option.isSome_iff_exists.1 h
      rcases hN b x hx with ⟨h1, _⟩ | ⟨rfl, _⟩ | ⟨rfl, _⟩ | ⟨r, hr, ⟨h1, _⟩ | ⟨h1, _⟩⟩
      · exact .inl (by omega)
      · exact .inl (by omega)
      · exact .inl (by omega)
      · exact .inr ⟨r, hr, .inl h1⟩
      · exact .inr ⟨r, hr, .inr h1⟩
   have tv : ∀ r ∈ L, ∀ b, (b = r.1.cx ∨ b = r.1.cn) → (cpT L b = r.2.1 ∧ b = r.1.cx) ∨ (cpT L b = r.2.2 ∧ b = r.1.cn) := by
    intro r hr b h
    rcases h with rfl | rfl
    · exact .inl ⟨t1 r hr, rfl⟩
    · exact .inr ⟨t2 r hr, rfl⟩
   intro b b' h h' e
   rcases cls b h with h1 | ⟨r, hr, h1⟩
   · rw [t3 b h1] at e
     rcases cls b' h' with h2 | ⟨r', hr', h2⟩
     · rw [t3 b' h2] at e; exact e
     · exfalso
       obtain ⟨_, _, g3, g4⟩ := hJ.row r' hr'
       rcases tv r' hr' b' h2 with ⟨e2, _⟩ | ⟨e2, _⟩ <;> omega
   · obtain ⟨_, _, g3, g4⟩ := hJ.row r hr
     rcases cls b' h' with h2 | ⟨r', hr', h2⟩
     · exfalso
       rw [t3 b' h2] at e
       rcases tv r hr b h1 with ⟨e2, _⟩ | ⟨e2, _⟩ <;> omega
     · have hne : ∀ {r : CD}, r ∈ L → r.2.1 ≠ r.2.2 := fun h => fm_ne (f := fun r : CD => r.2.1) (g := fun r : CD => r.2.2) hJ.ap h
       rcases tv r hr b h1 with ⟨e2, e3⟩ | ⟨e2, e3⟩
       · rcases tv r' hr' b' h2 with ⟨e4, e5⟩ | ⟨e4, e5⟩
         · have := fm_eq (f := fun r : CD => r.2.1) (g := fun r : CD => r.2.2) hJ.ap hr hr' (x := cpT L b) (.inl e2) (.inl (e.trans e4))
           rw [e3, e5, this]
         · have := fm_eq (f := fun r : CD => r.2.1) (g := fun r : CD => r.2.2) hJ.ap hr hr' (x := cpT L b) (.inl e2) (.inr (e.trans e4))
           subst this
           exact absurd (e2.symm.trans (e.trans e4)) (hne hr)
       · rcases tv r' hr' b' h2 with ⟨e4, e5⟩ | ⟨e4, e5⟩
         · have := fm_eq (f := fun r : CD => r.2.1) (g := fun r : CD => r.2.2) hJ.ap hr hr' (x := cpT L b) (.inr e2) (.inl (e.trans e4))
           subst this
           exact absurd (e4.symm.trans (e.symm.trans e2)) (hne hr)
         · have := fm_eq (f := fun r : CD => r.2.1) (g := fun r : CD => r.2.2) hJ.ap hr hr' (x := cpT L b) (.inr e2) (.inr (e.trans e4))
           rw [e3, e5, this]
noncomputable section
def allN (f : Nat → Bool) : Nat → Bool
 | 0 => true
 | n + 1 => f n && allN f n
def isU8V : Option V → Bool
 | some (.i .u8 z) => decide (0 ≤ z) && decide (z ≤ 255)
 | _ => false
def dOk (F : RO) (M : Mem) : V → Bool
 | .l0 => true
 | .l b 0 n cap => (Nat.ble n 9000 && (Nat.ble n cap && Nat.blt 0 n)) && allN (fun k => isU8V (load1 F M b k)) n
 | _ => false
def mkN2 (F : RO) (M : Mem) (k : Nat) (n : Int) (nb born : Nat) (dir : Bool) (ow ri li he : Int) (dv : V) (nm : Nat) : Option Blk → Option CN
 | some (.map ns nk) => bif (ordd nk && plainE ns) && dOk F M dv then some ⟨n, nb, born, dir, ow, ri, li, he, nm, ns, nk, k, k + 1⟩ else none
 | _ => none
def mkN (F : RO) (M : Mem) (k : Nat) (n : Int) (nb born : Nat) : Option (List V) → Option CN
 | some [.b dir, .i .i64 ow, .i .i64 ri, .i .i64 li, .i .i64 he, dv, .m nm] => mkN2 F M k n nb born dir ow ri li he dv nm (look F M nm)
 | _ => none
def mkQ (F : RO) (M : Mem) : List (V × V × Nat) → Nat → Option (List CN)
 | [], _ => some []
 | (.i .i64 n, .p nb 0, born) :: r, k => match mkN F M k n nb born (loadN F M nb 0 7) with
   | some q => match mkQ F M r (k + 2) with
     | some Q => some (q :: Q)
     | none => none
   | none => none
 | _, _ => none
end
theorem allN_lt {f : Nat → Bool} : ∀ {n : Nat}, allN f n = true → ∀ k, k < n → f k = true
 | n + 1, h, k, hk => by
   obtain ⟨h1, h2⟩ := an2 (show (f n && allN f n) = true from h)
   by_cases e : k = n
   · rw [e]; exact h1
   · exact allN_lt h2 k (by omega)
theorem isU8V_b {o : Option V} (h : isU8V o = true) : ∃ b : UInt8, o = some (bV b) := by
 unfold isU8V at h
 split at h
 · rename_i z
   obtain ⟨h1, h2⟩ := an2 h
   have h1 := of_decide_eq_true h1
   have h2 := of_decide_eq_true h2
   refine ⟨UInt8.ofNat z.toNat, ?_⟩
   congr 1
   show V.i .u8 z = V.i .u8 ((UInt8.ofNat z.toNat).toNat : Int)
   rw [UInt8.toNat_ofNat']
   congr 1
   omega
 · cases h
theorem dOk_sl {F : RO} {M : Mem} {ct : Nat} {dv : V} (h : dOk F M dv = true) (hlt : ∀ b blk, look F M b = some blk → b < ct) : ∃ l : List UInt8, SlB F M ct dv l ∧ l.length ≤ 9000 := by
 unfold dOk at h
 split at h
 · exact ⟨[], ⟨fun e he => (by cases he), .inl ⟨rfl, .inl rfl⟩⟩, Nat.zero_le _⟩
 · rename_i b n cap
   obtain ⟨h1, h3⟩ := an2 h
   obtain ⟨h1, h2⟩ := an2 h1
   obtain ⟨h2, h4⟩ := an2 h2
   rw [bleN] at h1 h2
   rw [bltN] at h4
   have h1 := of_decide_eq_true h1
   have h2 := of_decide_eq_true h2
   have h4 := of_decide_eq_true h4
   obtain ⟨l, hl, hq⟩ := list_of (n := n) (Q := fun k (x : UInt8) => load1 F M b k = some (bV x)) fun k hk => isU8V_b (allN_lt h3 k hk)
   have hb : b < ct := by
    have h0 := hq 0 (by omega)
    cases hb : look F M b with
    | none =>
      have : load1 F M b 0 = asCells (look F M b) none (fun n d c => cell n d c 0) := rfl
      rw [this, hb] at h0; cases h0
    | some x => exact hlt b x hb
   have hf : ∀ l : List UInt8, (l.map fun x => [bV x]).flatten = l.map bV := by
    intro l
    induction l with
    | nil => rfl
    | cons x l ih => rw [List.map_cons, List.flatten_cons, ih]; rfl
   refine ⟨l, ⟨fun e he => by obtain ⟨x, _, rfl⟩ := List.mem_map.1 he; rfl, .inr ⟨b, 0, .inl ⟨cap, by rw [List.length_map]; omega, by rw [List.length_map, hl]⟩, hb, ?_⟩⟩, by omega⟩
   intro k hk
   rw [hf] at hk ⊢
   rw [List.length_map] at hk
   rw [Nat.zero_add, hq k hk, List.getElem?_map, List.getElem?_eq_getElem hk]; rfl
 · cases h
theorem loadN_1 {F : RO} {M : Mem} {b n : Nat} {vs : List V} (h : loadN F M b 0 n = some vs) {i : Nat} {v : V} (hv : vs[i]? = some v) : load1 F M b i = some v := by
 have h : asCells (look F M b) none (fun m d c => cellsAt m d c n 0) = some vs := h
 show asCells (look F M b) none (fun m d c => cell m d c i) = some v
 cases hb : look F M b with
 | none => rw [hb] at h; cases h
 | some blk =>
   rw [hb] at h
   cases blk with
   | cells ty m ex fz str d t =>
     have := (cellsAt_get _ _ _ (show cellsAt m d t n 0 = some vs from h)).2 i v hv
     rwa [Nat.zero_add] at this
   | _ => cases h
theorem mkN_ok {F : RO} {M : Mem} {k : Nat} {n : Int} {nb born : Nat} {q : CN} (h : mkN F M k n nb born (loadN F M nb 0 7) = some q) {ct : Nat} (hlt : ∀ b blk, look F M b = some blk → b < ct) : q.ent = (.i .i64 n, .p nb 0, born) ∧ q.n = n ∧ q.born = born ∧ q.cx = k ∧ q.cn = k + 1 ∧ plainE q.ns = true ∧ ordd q.nk = true ∧ q.At F M ct := by
 unfold mkN at h
 split at h
 · rename_i dir ow ri li he dv nm hl
   generalize hm : look F M nm = om at h
   unfold mkN2 at h
   split at h
   · rename_i ns nk
     cases hc : (ordd nk && plainE ns) && dOk F M dv with
     | false => rw [hc] at h; cases h
     | true =>
       rw [hc, cond_true] at h
       obtain rfl := Option.some.inj h
       obtain ⟨h1, h3⟩ := an2 hc
       obtain ⟨h1, h2⟩ := an2 h1
       obtain ⟨l, hs, hll⟩ := dOk_sl h3 hlt
       have hb : nb < ct := by
        have h0 := loadN_1 hl (i := 0) rfl
        cases hb : look F M nb with
        | none =>
          have : load1 F M nb 0 = asCells (look F M nb) none (fun n d c => cell n d c 0) := rfl
          rw [this, hb] at h0; cases h0
        | some x => exact hlt nb x hb
       exact ⟨rfl, rfl, rfl, rfl, rfl, h2, h1, dv, l, hl, loadN_1 hl (i := 5) rfl, loadN_1 hl (i := 6) rfl, hb, hs, hll, hm, hlt nm _ hm, h1⟩
   · cases h
 · cases h
theorem mkQ_ok {F : RO} {M : Mem} {ct : Nat} (hlt : ∀ b blk, look F M b = some blk → b < ct) : ∀ (es : List (V × V × Nat)) (k : Nat) (Q : List CN), mkQ F M es k = some Q → es = Q.map CN.ent ∧ (∀ q ∈ Q, plainE q.ns = true ∧ ordd q.nk = true ∧ q.At F M ct) ∧ (∀ q ∈ Q, (k ≤ q.cx ∧ q.cx < k + 2 * Q.length) ∧ (k ≤ q.cn ∧ q.cn < k + 2 * Q.length)) ∧ (Q.flatMap fun q => [q.cx, q.cn]).Nodup
 | [], k, Q, h => by
   obtain rfl := Option.some.inj (show some [] = some Q from h)
   exact ⟨rfl, fun q hq => (by cases hq), fun q hq => (by cases hq), List.nodup_nil⟩
 | e :: r, k, Q, h => by
   unfold mkQ at h
   split at h
   · rename_i e1; cases e1
   · rename_i k _ _ n nb born r' e1
     injection e1 with e1 e2
     subst e1 e2
     cases hq : mkN F M k n nb born (loadN F M nb 0 7) with
     | none => rw [hq] at h; cases h
     | some q =>
       rw [hq] at h
       cases hQ : mkQ F M r (k + 2) with
       | none => rw [hQ] at h; cases h
       | some Q' =>
         rw [hQ] at h
         obtain rfl := Option.some.inj h
         obtain ⟨a1, _, _, a4, a5, a6, a7, a8⟩ := mkN_ok hq hlt
         obtain ⟨b1, b2, b3, b4⟩ := mkQ_ok hlt r (k + 2) Q' hQ
         refine ⟨by rw [List.map_cons, a1, b1], fun x hx => ?_, fun x hx => ?_, ?_⟩
         · rcases List.mem_cons.1 hx with rfl | hx
           · exact ⟨a6, a7, a8⟩
           · exact b2 x hx
         · rw [List.length_cons]
           rcases List.mem_cons.1 hx with rfl | hx
           · omega
           · have := b3 x hx; omega
         · rw [List.flatMap_cons, List.nodup_append]
           refine ⟨?_, b4, ?_⟩
           · rw [a4, a5]
             exact List.nodup_cons.2 ⟨fun h => by have := List.mem_singleton.1 h; omega, by simp⟩
           · intro x hx y hy e
             obtain ⟨q', hq', hy'⟩ := List.mem_flatMap.1 hy
             have := b3 q' hq'
             rw [a4, a5] at hx
             rcases List.mem_cons.1 hx with rfl | hx
             · rcases List.mem_cons.1 hy' with h' | h'
               · omega
               · have := List.mem_singleton.1 h'; omega
             · have h1 := List.mem_singleton.1 hx
               rcases List.mem_cons.1 hy' with h' | h'
               · omega
               · have := List.mem_singleton.1 h'; omega
   · cases h
noncomputable section
def ndN : List Nat → Bool
 | [] => true
 | x :: r => notB (memN x r) && ndN r
def memI (x : Int) : List Int → Bool
 | [] => false
 | y :: r => eqI x y || memI x r
def ndI : List Int → Bool
 | [] => true
 | x :: r => notB (memI x r) && ndI r
def cpG (c : Nat) (nn : Int) (es : List (V × V × Nat)) (cl : Nat) (M : Mem) : Option (List CN) → RC
 | some Q => bif (ordd cl && allOld cl es) && ((ndN (Q.map (·.born)) && ndI (Q.map (·.n))) && Nat.blt Q.length 1000000) then (setAll M (cpM1 c nn Q)).force fun N => fN (c + 3 + 2 * Q.length) fun c' => fN (c + 1) fun o => .k (.p o 0) N c' else .f
 | none => .f
def cpH (F : RO) (M : Mem) (c : Nat) : Option V → Option V → RC
 | some (.m mb), some (.i .i64 nn) => asMap (look F M mb) .f fun es cl => cpG c nn es cl M (mkQ F M es (c + 3))
 | _, _ => .f
def copyG (F : RO) (args : List V) (M : Mem) (c : Nat) : RC := match args with
 | [.p tb 0] => cpH F M c (load1 F M tb 0) (load1 F M tb 1)
 | _ => .f
end
theorem ndN_iff : ∀ {l : List Nat}, ndN l = true → l.Nodup
 | [], _ => List.nodup_nil
 | x :: r, h => by
   obtain ⟨h1, h2⟩ := an2 (show (notB (memN x r) && ndN r) = true from h)
   refine List.nodup_cons.2 ⟨fun hx => ?_, ndN_iff h2⟩
   rw [memN_eq, List.contains_iff_mem.2 hx] at h1
   cases h1
theorem memI_of {x : Int} : ∀ {l : List Int}, x ∈ l → memI x l = true
 | y :: r, h => by
   show (eqI x y || memI x r) = true
   rcases List.mem_cons.1 h with rfl | h
   · rw [eqI_iff, decide_eq_true rfl]; rfl
   · rw [memI_of h, Bool.or_true]
theorem ndI_iff : ∀ {l : List Int}, ndI l = true → l.Nodup
 | [], _ => List.nodup_nil
 | x :: r, h => by
   obtain ⟨h1, h2⟩ := an2 (show (notB (memI x r) && ndI r) = true from h)
   refine List.nodup_cons.2 ⟨fun hx => ?_, ndI_iff h2⟩
   rw [memI_of hx] at h1
   cases h1
theorem okm_wf {F : RO} {M : Mem} {ct : Nat} {args : List V} (h : Wf F M ct args) : Okm F M ct := by
 refine ⟨fun b hb => ?_, fun b hb => ?_, h.ap, h.ge⟩
 · cases hm : M.get b with
   | none => rfl
   | some x => have := h.lt b x (look_some_M hm); omega
 · cases hm : roGet F b with
   | none => rfl
   | some x =>
     have := h.lt b x (by rw [look_none_M (h.ap b (by rw [hm]; rfl))]; exact hm)
     omega
theorem orc_copyG {P : Program} (hmo : P.follows .mixedOrders = true) {Φ : Nat → Option CF} (hΦ : PhiOk P Φ) (h15 : Φ 15 = some c15) (h17 : Φ 17 = some c17) (h18 : Φ 18 = some c18) {fn : Func} (hf : P.funcs[9]? = some fn) (hcomp : comp P fn = some c9) : OrcOk P 9 copyG := by
 refine orc_sat (n := 6) (res := [.t a2]) (body := b9_14) hf hcomp ?_
 intro F args M ct v N ct' hg hW code hs
 unfold copyG at hg
 split at hg
 · rename_i tb
   generalize hl0 : load1 F M tb 0 = o0 at hg
   generalize hl1 : load1 F M tb 1 = o1 at hg
   unfold cpH at hg
   split at hg
   · rename_i mb nn
     obtain ⟨es, cl, hmb, hg⟩ := asMap_rc hg
     cases hQ : mkQ F M es (ct + 3) with
     | none => rw [hQ] at hg; cases hg
     | some Q =>
       rw [hQ] at hg
       unfold cpG at hg
       simp only at hg
       generalize hb : ((ordd cl && allOld cl es) && ((ndN (Q.map (·.born)) && ndI (Q.map (·.n))) && Nat.blt Q.length 1000000)) = bb at hg
       cases bb with
       | false => cases hg
       | true =>
         rw [cond_true, Tr.force_eq, fN_eq, fN_eq] at hg
         injection hg with e1 e2 e3
         subst e1 e2 e3
         obtain ⟨ha, hb⟩ := an2 hb
         obtain ⟨a1, a2'⟩ := an2 ha
         obtain ⟨hb, b3⟩ := an2 hb
         obtain ⟨b1, b2⟩ := an2 hb
         have b1 := ndN_iff b1
         have b2 := ndI_iff b2
         have b3 : Q.length < 1000000 := by rw [bltN] at b3; exact of_decide_eq_true b3
         obtain ⟨rfl, q2, q3, q4⟩ := mkQ_ok (ct := ct) hW.lt es (ct + 3) Q hQ
         have ok := okm_wf hW
         have htb : tb < ct := hW.args.1
         refine (copy_sat hmo hΦ h15 h17 h18 hs ok htb hl0 hl1 hmb (hW.lt mb _ hmb) a1 a2' b1 b2 (fun q hq => (q2 q hq).2.2) b3).mono ?_
         rintro e t d M' c' ⟨rfl, rfl, hr, L, hL, hall⟩
         exact ⟨rfl, rfl, .p (ct + 1) 0, cpT L, hr, copy_ren hL hall b1 b2 q4 (fun q hq => by have := q3 q hq; omega) (by omega) (fun q hq => ⟨(q2 q hq).1, (q2 q hq).2.1⟩) b3 ok.hiM⟩
   · cases hg
 · cases hg
def orElse (r s : RC) : RC := match r with
 | .k v N c => .k v N c
 | .f => s
def copyO (Φ : Nat → Option CF) (n : Nat) (F : RO) (args : List V) (M : Mem) (c : Nat) : RC := orElse (copyG F args M c) (callC (exec Φ n) F 9 args M c (some c9))
theorem orc_copy {P : Program} (hmo : P.follows .mixedOrders = true) {Φ : Nat → Option CF} (hΦ : PhiOk P Φ) (h9 : Φ 9 = some c9) (h15 : Φ 15 = some c15) (h17 : Φ 17 = some c17) (h18 : Φ 18 = some c18) {fn : Func} (hf : P.funcs[9]? = some fn) (hcomp : comp P fn = some c9) {n : Nat} : OrcOk P 9 (copyO Φ n) := by
 intro F args M ct v N ct' hg
 unfold copyO orElse at hg
 cases hc : copyG F args M ct with
 | k v1 N1 c1 =>
   rw [hc] at hg
   exact orc_copyG hmo hΦ h15 h17 h18 hf hcomp F args M ct v N ct' (hc.trans hg)
 | f =>
   rw [hc] at hg
   refine orc_self hmo hΦ (f := 9) F args M ct v N ct' ?_
   show callC (den Φ) F 9 args M ct (Φ 9) = _
   rw [h9, callC_denE (n := n) (by rw [show callC (exec Φ n) F 9 args M ct (some c9) = _ from hg]; intro h; cases h)]
   exact hg
end
end Go.Proofs.YtpokoiicogheaaaGreatDoor.Ev
