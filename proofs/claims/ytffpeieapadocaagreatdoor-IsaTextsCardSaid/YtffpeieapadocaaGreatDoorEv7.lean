/- What is proved here: pieces of the evaluator's soundness: if the evaluator comes to a value, the model's run comes to it, for every world and tape; no conditions beyond the hypotheses of each theorem. -/
import Derived.Test.YtffpeieapadocaaGreatDoorEv6
set_option linter.unusedSimpArgs false
set_option linter.unusedVariables false
set_option linter.defProp false
set_option maxRecDepth 10000
set_option maxHeartbeats 4000000
namespace Go.Proofs.YtffpeieapadocaaGreatDoor.Ev
open Go
noncomputable section
def b42_1 : CC := (.reg [(qq a4 (.mv (.c (.s 0 0))))])
def b42_2 : CC := (.reg [(qq a11 (.mv z0)), (qq a12 (.ln .slice z11))])
def b42_3 : CC := (.reg [(qq a14 (.bi .eql z12 (x6 0))), (qq a13 (.mv z14))])
def b42_4 : CC := (.reg [(qq a4 (.mv (.c (.s 0 0))))])
def b42_5 : CC := (.reg [(qq a16 (.bi .eql z12 (x6 1))), (qq a15 (.mv z16))])
def b42_6 : CC := (.reg [(qq a17 (.mv z0)), (qq a18 (.iaS 1 z17 (x6 0))), (qq a19 (.ld1 z18)), (qq a4 (.mv z19))])
def b42_7 : CC := (.seq b42_5 (.cond z15 (.seq b42_6 .ret) .skip))
def b42_8 : CC := (.seq b42_3 (.cond z13 (.seq b42_4 .ret) b42_7))
def b42_9 : CC := (.reg [(qq a5 (.mv (x6 0)))])
def b42_10 : CC := (.reg [(qq a20 (.mv z1)), (qq a21 (.ln .str z20)), (qq a22 (.bi .gtr z21 (x6 0)))])
def b42_11 : CC := (.reg [(qq a23 (.mv z1)), (qq a24 (.ln .str z23)), (qq a25 (.mv z0)), (qq a26 (.ln .slice z25)), (qq a27 (.bi .sub z26 (x6 1))), (qq a28 (.bi .quo (x6 9223372036854775807) z27)), (qq a29 (.bi .geq z24 z28))])
def b42_12 : CC := (.reg [(qq a30 (.mki 9 (.c (.s 36 232023140547069528372253906381035003553488466437483087989658184371904395368843875349619)))), ⟨none, .q (.bad), none⟩])
def b42_13 : CC := (.seq b42_11 (.cond z29 b42_12 .skip))
def b42_14 : CC := (.reg [(qq a31 (.mv z5)), (qq a32 (.mv z1)), (qq a33 (.ln .str z32)), (qq a34 (.mv z0)), (qq a35 (.ln .slice z34)), (qq a36 (.bi .sub z35 (x6 1))), (qq a37 (.bi .mul z33 z36)), (qq a38 (.bi .add z31 z37)), (qq a5 (.mv z38))])
def b42_15 : CC := (.cond z22 (.seq b42_13 b42_14) .skip)
def b42_16 : CC := (.reg [(qq a39 (.mv z0)), (qq a40 (.ln .slice z39)), (qq a41 (.mv (x6 0)))])
def b42_17 : CC := (.reg [(qq a42 (.bi .lss z41 z40))])
def b42_18 : CC := (.reg [(qq a43 (.iaS 1 z39 z41)), (qq a44 (.ld1 z43)), (qq a7 (.mv z44))])
def b42_19 : CC := (.reg [(qq a45 (.mv z7)), (qq a46 (.ln .str z45)), (qq a47 (.mv z5)), (qq a48 (.bi .sub (x6 9223372036854775807) z47)), (qq a49 (.bi .gtr z46 z48))])
def b42_20 : CC := (.reg [(qq a50 (.mki 9 (.c (.s 36 232023140547069528372253906381035003553488466437483087989658184371904395368843875349619)))), ⟨none, .q (.bad), none⟩])
def b42_21 : CC := (.seq b42_19 (.cond z49 b42_20 .skip))
def b42_22 : CC := (.reg [(qq a51 (.mv z5)), (qq a52 (.mv z7)), (qq a53 (.ln .str z52)), (qq a54 (.bi .add z51 z53)), (qq a5 (.mv z54))])
def b42_23 : CC := (.reg [(qq a55 (.bi .add z41 (x6 1))), (qq a41 (.mv z55))])
def b42_24 : CC := (.seq (.cond z42 .skip (.exit 1)) (.seq (.block 2 (.seq b42_18 (.seq b42_21 b42_22))) b42_23))
def b42_25 : CC := (.reg [(aa a8 (.al 112 [.p0, .l0]))])
def b42_26 : CC := (.reg [(qq a56 (.mv z5)), (ee a57 (.call 59 [z8, z56]))])
def b42_27 : CC := (.reg [(qq a58 (.mv z0)), (qq a59 (.iaS 1 z58 (x6 0))), (qq a60 (.ld1 z59)), (ee a61 (.call 60 [z8, z60]))])
def b42_28 : CC := (.reg [(qq a62 (.mv z0)), (qq a63 (.slL 1 z62 (some (x6 1)) none none)), (qq a64 (.ln .slice z63)), (qq a65 (.mv (x6 0)))])
def b42_29 : CC := (.reg [(qq a66 (.bi .lss z65 z64))])
def b42_30 : CC := (.cond z66 .skip (.exit 3))
def b42_31 : CC := (.reg [(qq a67 (.iaS 1 z63 z65)), (qq a68 (.ld1 z67)), (qq a10 (.mv z68))])
def b42_32 : CC := (.reg [(qq a69 (.mv z1)), (ee a70 (.call 60 [z8, z69]))])
def b42_33 : CC := (.reg [(qq a71 (.mv z10)), (ee a72 (.call 60 [z8, z71]))])
def b42_34 : CC := (.reg [(qq a73 (.bi .add z65 (x6 1))), (qq a65 (.mv z73))])
def b42_35 : CC := (.seq b42_30 (.seq (.block 4 (.seq b42_31 (.seq b42_32 b42_33))) b42_34))
def b42_36 : CC := (.reg [(ee a74 (.call 61 [z8])), (qq a4 (.mv z74))])
def b42_37 : CC := (.seq (.seq b42_28 (.block 3 (.loop (.seq b42_29 b42_35)))) (.seq b42_36 .ret))
def b42_38 : CC := (.seq (.seq b42_16 (.block 1 (.loop (.seq b42_17 b42_24)))) (.seq b42_25 (.seq b42_26 (.seq b42_27 b42_37))))
def b42_39 : CC := (.seq (.seq b42_2 (.block 0 b42_8)) (.seq b42_9 (.seq (.seq b42_10 b42_15) b42_38)))
def c42 : CF := .mk 7 [.t a4] (.seq b42_1 b42_39)
theorem e42 (v0 v1 : V) : argTr 7 [v0, v1] = (.n (.n sk5 (some v1) sk5) (some v0) sk6) := rfl
def B42 := ai @e42 (ai (wu b42_1.eq_1) (ai (wu b42_2.eq_1) (ai (wu b42_3.eq_1) (ai (wu b42_4.eq_1) (ai (wu b42_5.eq_1) (ai (wu b42_6.eq_1) (ai (wu b42_7.eq_1) (ai (wu b42_8.eq_1) (ai (wu b42_9.eq_1) (ai (wu b42_10.eq_1) (ai (wu b42_11.eq_1) (ai (wu b42_12.eq_1) (ai (wu b42_13.eq_1) (ai (wu b42_14.eq_1) (ai (wu b42_15.eq_1) (ai (wu b42_16.eq_1) (ai (wu b42_17.eq_1) (ai (wu b42_18.eq_1) (ai (wu b42_19.eq_1) (ai (wu b42_20.eq_1) (ai (wu b42_21.eq_1) (ai (wu b42_22.eq_1) (ai (wu b42_23.eq_1) (ai (wu b42_24.eq_1) (ai (wu b42_25.eq_1) (ai (wu b42_26.eq_1) (ai (wu b42_27.eq_1) (ai (wu b42_28.eq_1) (ai (wu b42_29.eq_1) (ai (wu b42_30.eq_1) (ai (wu b42_31.eq_1) (ai (wu b42_32.eq_1) (ai (wu b42_33.eq_1) (ai (wu b42_34.eq_1) (ai (wu b42_35.eq_1) (ai (wu b42_36.eq_1) (ai (wu b42_37.eq_1) (ai (wu b42_38.eq_1) (wu b42_39.eq_1)))))))))))))))))))))))))))))))))))))))
def strE (l : List (List UInt8)) : List (List V) := l.map fun w => [sV w]
theorem str_at {F : RO} {M : Mem} {c : Nat} {v : V} {l : List (List UInt8)} (hs : SlAt F M c 1 v (strE l)) (i : Nat) (hi : i < l.length) :
  ∃ b o, b < c ∧ (∀ k, iaSV 1 v (.i k (i : Int)) = some (.p b o)) ∧ load1 F M b o = some (sV l[i]) :=
 SlAt.one hs i (by simpa [strE] using hi) (by simp [strE])
theorem str_len {F : RO} {M : Mem} {c : Nat} {v : V} {l : List (List UInt8)} (hs : SlAt F M c 1 v (strE l)) : lnL v = some (.i .i64 (l.length : Int)) := by
 have := hs.len; rwa [strE, List.length_map] at this
def szL : List (List UInt8) → Nat
 | [] => 0
 | w :: r => w.length + 1 + szL r
theorem szL_take : ∀ (l : List (List UInt8)) (k : Nat), szL (l.take k) ≤ szL l
 | [], k => by rw [List.take_nil]; exact Nat.le_refl _
 | w :: r, 0 => Nat.zero_le _
 | w :: r, k + 1 => by rw [List.take_succ_cons, szL, szL]; have := szL_take r k; omega
theorem szL_append : ∀ (a b : List (List UInt8)), szL (a ++ b) = szL a + szL b
 | [], b => by rw [List.nil_append, szL]; omega
 | w :: r, b => by rw [List.cons_append, szL, szL, szL_append r b]; omega
theorem szL_len : ∀ (a : List (List UInt8)), a.length ≤ szL a
 | [] => Nat.le_refl _
 | w :: r => by rw [List.length_cons, szL]; have := szL_len r; omega
theorem szL_get {l : List (List UInt8)} {i : Nat} (h : i < l.length) : l[i].length ≤ szL l := by
 induction l generalizing i with
 | nil => cases h
 | cons w r ih =>
   cases i with
   | zero => rw [List.getElem_cons_zero, szL]; omega
   | succ i => rw [List.getElem_cons_succ, szL]; have := ih (i := i) (by simpa using h); omega
def joinL (s : List UInt8) : List (List UInt8) → List UInt8
 | [] => []
 | w :: r => w ++ (r.map fun x => s ++ x).flatten
theorem join_snoc (s w : List UInt8) (r : List (List UInt8)) (x : List UInt8) : joinL s (w :: (r ++ [x])) = joinL s (w :: r) ++ s ++ x := by
 simp [joinL, List.map_append, List.flatten_append]
theorem join_len (s : List UInt8) : ∀ (w : List UInt8) (r : List (List UInt8)), (joinL s (w :: r)).length ≤ szL (w :: r) + s.length * r.length := by
 intro w r
 induction r generalizing w with
 | nil => simp [joinL, szL]
 | cons x r ih =>
   have := ih x
   simp only [joinL, szL, List.map_cons, List.flatten_cons, List.length_append, List.length_cons] at this ⊢
   rw [Nat.mul_add]; omega
theorem join_len' (s : List UInt8) (l : List (List UInt8)) : (joinL s l).length ≤ szL l + s.length * l.length := by
 cases l with
 | nil => simp [joinL]
 | cons w r => have := join_len s w r; rw [List.length_cons, Nat.mul_add]; omega
theorem join_take (s : List UInt8) (L : List (List UInt8)) (i : Nat) (h : i + 1 < L.length) : joinL s (L.take (i + 1 + 1)) = joinL s (L.take (i + 1)) ++ s ++ L[i + 1] := by
 cases L with
 | nil => cases h
 | cons w r =>
   rw [List.take_succ_cons, List.take_succ_cons, List.getElem_cons_succ, List.take_succ_eq_append_getElem (by simpa using h), join_snoc]
theorem i64_sub (a b : Int) (h1 : -9223372036854775808 ≤ a - b) (h2 : a - b < 9223372036854775808) : biV .sub (.i .i64 a) (.i .i64 b) = some (.i .i64 (a - b)) := by
 rw [bi_sub, wrap_i64 h1 h2]
theorem i64_quo (a b : Nat) (hb : 0 < b) (ha : a < 9223372036854775808) : biV .quo (.i .i64 (a : Int)) (.i .i64 (b : Int)) = some (.i .i64 ((a / b : Nat) : Int)) := by
 have hle : a / b ≤ a := Nat.div_le_self a b
 show (b_quo .i64 (a : Int) (b : Int)).val = _
 unfold b_quo
 rw [eqI_iff, decide_eq_false (show ¬ ((b : Int) = 0) by omega), cond_false, vI_eq, wr_eq, ← Int.ofNat_tdiv]
 generalize a / b = q at hle ⊢
 rw [wrap_i64 (by omega) (by omega)]; rfl
theorem r42 (Φ : Nat → Option CF) (h : Φ 42 = some c42) (h59 : Φ 59 = some c59) (h60 : Φ 60 = some c60) (h61 : Φ 61 = some c61) (h70 : Φ 70 = some c70) (h71 : Φ 71 = some c71) {F : RO} {M : Mem} {c : Nat} {v : V} {l : List (List UInt8)} {s : List UInt8} (ok : Okm F M c) (hs : SlAt F M c 1 v (strE l))
  (hl : szL l ≤ 1000000) (hs1 : 1 ≤ s.length) (hs2 : s.length ≤ 100) : Calls Φ F 42 [v, sV s] M c fun r M' c' => r = sV (joinL s l) ∧ Gr c M c' M' := by
 refine calls_walk h ?_
 have hn := str_len hs
 have hll := szL_len l
 match l, hs, hn, hl, hll with
 | [], hs, hn, hl, hll =>
   rw [List.length_nil] at hn
   simp only [WX, B42, hn, Int.ofNat_zero]
   exact ⟨rfl, Gr.refl ok⟩
 | [w], hs, hn, hl, hll =>
   obtain ⟨b1, o1, _, ia1, ld1⟩ := str_at hs 0 (by simp)
   have ia1 := ia1 .i64
   rw [List.length_singleton] at hn
   rw [Int.ofNat_zero] at ia1
   rw [List.getElem_cons_zero] at ld1
   simp only [WX, Int.reduceEq, B42, hn, Int.ofNat_one, ia1, ld1]
   exact ⟨by simp [joinL], Gr.refl ok⟩
 | w0 :: w1 :: r, hs, hn, hl, hll =>
   generalize hL : w0 :: w1 :: r = L at hs hn hl hll ⊢
   have hL2 : 2 ≤ L.length := by rw [← hL]; simp
   have d0 : decide ((L.length : Int) = 0) = false := decide_eq_false (by omega)
   have d1 : decide ((L.length : Int) = 1) = false := decide_eq_false (by omega)
   have d2 : decide ((0 : Int) < (s.length : Int)) = true := decide_eq_true (by omega)
   have sb : biV .sub (.i .i64 (L.length : Int)) (.i .i64 1) = some (.i .i64 ((L.length - 1 : Nat) : Int)) := by rw [i64_sub _ _ (by omega) (by omega)]; congr 2; omega
   have qu := i64_quo 9223372036854775807 (L.length - 1) (by omega) (by omega)
   rw [show ((9223372036854775807 : Nat) : Int) = 9223372036854775807 from rfl] at qu
   have hq : 9223372036854 ≤ 9223372036854775807 / (L.length - 1) := by
    rw [Nat.le_div_iff_mul_le (by omega)]
    have : 9223372036854 * (L.length - 1) ≤ 9223372036854 * 1000000 := Nat.mul_le_mul_left _ (by omega)
    omega
   have d3 : decide (((9223372036854775807 / (L.length - 1) : Nat) : Int) ≤ (s.length : Int)) = false := decide_eq_false (by omega)
   have hmb : s.length * (L.length - 1) ≤ 100 * 1000000 := Nat.mul_le_mul hs2 (by omega)
   have mu : biV .mul (.i .i64 (s.length : Int)) (.i .i64 ((L.length - 1 : Nat) : Int)) = some (.i .i64 ((s.length * (L.length - 1) : Nat) : Int)) := by
    have : ((s.length : Int) * ((L.length - 1 : Nat) : Int)) = ((s.length * (L.length - 1) : Nat) : Int) := by rw [Int.natCast_mul]
    rw [i64_mul _ _ (by rw [this]; omega) (by rw [this]; omega), this]
   have ad : biV .add (.i .i64 0) (.i .i64 ((s.length * (L.length - 1) : Nat) : Int)) = some (.i .i64 ((s.length * (L.length - 1) : Nat) : Int)) := by rw [i64_add _ _ (by omega) (by omega)]; simp
   simp only [WX, B42, hn, d0, d1, d2, sb, qu, d3, mu, ad]
   obtain ⟨I1, hI1⟩ : ∃ I : Nat → St → Prop, ∀ n s', I n s' ↔ (∃ (i a : Nat) (u : List (Option V)), n = L.length - i ∧ i ≤ L.length ∧ s' = .mk ((.n (.n (.n (.n (uv7 u 63 31 95 15 79 47 111) (uO u 7) (.n (.n (uv1 u 71) (some (v)) (uv1 u 103)) (uO u 23) (uv3 u 87 55 119))) (uO u 3) (.n (uv7 u 67 35 99 19 83 51 115) (uO u 11) (uv7 u 75 43 107 27 91 59 123))) (some (sV s)) (.n (.n (uv7 u 65 33 97 17 81 49 113) (uO u 9) (.n (.n (uv1 u 73) (some (.i .i64 (i : Int))) (uv1 u 105)) (uO u 25) (uv3 u 89 57 121))) (some (.i .i64 (a : Int))) (.n (uv7 u 69 37 101 21 85 53 117) (uO u 13) (uv7 u 77 45 109 29 93 61 125)))) (some (v)) (.n (.n (.n (uv7 u 64 32 96 16 80 48 112) (uO u 8) (.n (.n (uv1 u 72) (some (.i .i64 (L.length : Int))) (uv1 u 104)) (uO u 24) (uv3 u 88 56 120))) (uO u 4) (.n (uv7 u 68 36 100 20 84 52 116) (uO u 12) (uv7 u 76 44 108 28 92 60 124))) (uO u 2) (.n (.n (uv7 u 66 34 98 18 82 50 114) (uO u 10) (uv7 u 74 42 106 26 90 58 122)) (uO u 6) (.n (uv7 u 70 38 102 22 86 54 118) (uO u 14) (uv7 u 78 46 110 30 94 62 126)))))) [] M c ∧ a ≤ 100000000 + szL (L.take i)) := ⟨fun n s' => _, fun _ _ => Iff.rfl⟩
   refine wp_while I1 ?_ L.length _ ((hI1 _ _).2 ⟨0, s.length * (L.length - 1), [none, none, _, _, _, none, _, _, _, _, _, _, _, _, _, _, _, _, _, _, _, _, _, _, _, _, _, _, _, _, _, _, _, _, _, _, _, _, _, none, none, none, _, _, _, _, _, _, _, _, _, _, _, _, _, _, _, _, _, _, _, _, _, _, _, _, _, _, _, _, _, _, _, _, _, _, _, _, _, _, _, _, _, _, _, _, _, _, _, _, _, _, _, _, _, _, _, _, _, _, _, _, _, _, _, _, _, _, _, _, _, _, _, _, _, _, _, _, _, _, _, _, _, _, _, _, _], rfl, Nat.zero_le _, rfl, by omega⟩)
   intro n s' hIs
   obtain ⟨i, a, u, rfl, hi, rfl, ha⟩ := (hI1 _ _).1 hIs
   clear hIs
   have htk := szL_take L i
   by_cases hlt : i < L.length
   · have e1 : decide ((i : Int) < (L.length : Int)) = true := decide_eq_true (by omega)
     obtain ⟨b1, o1, _, ia1, ld1⟩ := str_at hs i hlt
     have hge := szL_get hlt
     have sb2 : biV .sub (.i .i64 9223372036854775807) (.i .i64 (a : Int)) = some (.i .i64 (9223372036854775807 - (a : Int))) := i64_sub _ _ (by omega) (by omega)
     have e2 : decide ((9223372036854775807 - (a : Int)) < (L[i].length : Int)) = false := decide_eq_false (by omega)
     have ad2 : biV .add (.i .i64 (a : Int)) (.i .i64 (L[i].length : Int)) = some (.i .i64 ((a + L[i].length : Nat) : Int)) := by rw [i64_add _ _ (by omega) (by omega)]; simp
     have q8 : biV .add (.i .i64 (i : Int)) (.i .i64 1) = some (.i .i64 ((i + 1 : Nat) : Int)) := by rw [i64_add _ _ (by omega) (by omega)]; simp
     simp only [WX, B42, e1, ia1, ld1, sb2, e2, ad2, q8]
     refine ⟨L.length - (i + 1), by omega, (hI1 _ _).2 ⟨i + 1, a + L[i].length, [none, none, _, _, _, none, _, _, _, _, _, _, _, _, _, _, _, _, _, _, _, _, _, _, _, _, _, _, _, _, _, _, _, _, _, _, _, _, _, none, none, none, _, _, _, _, _, _, _, _, _, _, _, _, _, _, _, _, _, _, _, _, _, _, _, _, _, _, _, _, _, _, _, _, _, _, _, _, _, _, _, _, _, _, _, _, _, _, _, _, _, _, _, _, _, _, _, _, _, _, _, _, _, _, _, _, _, _, _, _, _, _, _, _, _, _, _, _, _, _, _, _, _, _, _, _, _], rfl, by omega, rfl, ?_⟩⟩
     rw [List.take_succ_eq_append_getElem hlt, szL_append, szL, szL]; omega
   · have e1 : decide ((i : Int) < (L.length : Int)) = false := decide_eq_false (by omega)
     have gr0 : Gr c M (c + 1) (M.set c (rowB 112 [.p0, .l0])) := (Gr.refl ok).set c _ (Nat.le_refl _) (Nat.lt_succ_self _) (Nat.le_succ _)
     have ok0 := gr0.ok ok
     simp only [WX, B42, e1]
     refine putE_to ((r59 Φ h59 h70 h71 ok0 gr0 (Nat.le_refl _) (Nat.lt_succ_self _) (get_same _ _ _) a (by omega)).mono ?_)
     rintro v1 M1 c1 ⟨bb, hb1, gr1, hle1, hfr1⟩
     have ok1 := gr1.ok ok
     have hs1' := hs.grow gr1
     obtain ⟨b1, o1, hb1c, ia1, ld1⟩ := str_at hs1' 0 (by omega)
     have ia1 := ia1 .i64
     rw [Int.ofNat_zero] at ia1
     simp only [WX, B42, ia1, ld1]
     have hg0 := szL_get (l := L) (i := 0) (by omega)
     refine putE_to ((r60 Φ h60 h70 ok1 gr1 hb1 L[0] (room_le (by simp only [List.length_nil]; omega))).mono ?_)
     rintro v2 M2 c2 ⟨bb2, hb2, gr2, hle2, _, _⟩
     rw [List.nil_append] at hb2
     have ok2 := gr2.ok ok
     obtain ⟨v3, ⟨_, _, hsl, _⟩, hs3⟩ := slL_of (lo := 1) (hi := (strE L).length) hs (by simp [strE]; omega) (Nat.le_refl _)
     have hsl' : slLV 1 v (some (.i .i64 1)) none none = some v3 := congrArg QR.val (hsl rfl)
     have hs3' : SlAt F M c 1 v3 (strE (L.drop 1)) := by
      rw [List.take_length, strE, ← List.map_drop] at hs3; exact hs3
     have hn3 := str_len hs3'
     rw [List.length_drop] at hn3
     simp only [WX, B42, hsl', hn3]
     obtain ⟨I2, hI2⟩ : ∃ I : Nat → St → Prop, ∀ n s', I n s' ↔ (∃ (i : Nat) (M3 : Mem) (c3 bb3 : Nat) (u : List (Option V)), n = L.length - 1 - i ∧ i ≤ L.length - 1 ∧ s' = .mk ((.n (.n (.n (.n (.n (.n (.n .e (some (v3)) .e) (uO u 31) (uv1 u 95)) (uO u 15) (uv3 u 79 47 111)) (uO u 7) (uv7 u 71 39 103 23 87 55 119)) (uO u 3) (.n (uv7 u 67 35 99 19 83 51 115) (uO u 11) (uv7 u 75 43 107 27 91 59 123))) (some (sV s)) (.n (.n (.n (.n (.n .e (some (.i .i64 (i : Int))) .e) (uO u 33) (uv1 u 97)) (uO u 17) (uv3 u 81 49 113)) (uO u 9) (uv7 u 73 41 105 25 89 57 121)) (uO u 5) (.n (uv7 u 69 37 101 21 85 53 117) (uO u 13) (uv7 u 77 45 109 29 93 61 125)))) (some (v)) (.n (.n (.n (.n (.n (.n .e (some (.i .i64 ((L.length - 1 : Nat) : Int))) .e) (uO u 32) (uv1 u 96)) (uO u 16) (uv3 u 80 48 112)) (some (.p c 0)) (uv7 u 72 40 104 24 88 56 120)) (uO u 4) (.n (uv7 u 68 36 100 20 84 52 116) (uO u 12) (uv7 u 76 44 108 28 92 60 124))) (uO u 2) (.n (.n (uv7 u 66 34 98 18 82 50 114) (uO u 10) (uv7 u 74 42 106 26 90 58 122)) (uO u 6) (.n (uv7 u 70 38 102 22 86 54 118) (uO u 14) (uv7 u 78 46 110 30 94 62 126)))))) [] M3 c3 ∧ BldAt M3 c c3 c bb3 (joinL s (L.take (i + 1))) ∧ Gr c M c3 M3) := ⟨fun n s' => _, fun _ _ => Iff.rfl⟩
     refine wp_while I2 ?_ (L.length - 1) _ ((hI2 _ _).2 ⟨0, M2, c2, bb2, [none, none, _, _, _, _, _, _, none, _, _, _, _, _, _, _, _, _, _, _, _, _, _, _, _, _, _, _, _, _, _, _, _, _, _, _, _, _, _, _, _, _, _, _, _, _, _, _, _, _, _, _, _, _, _, _, _, _, _, _, _, _, _, none, none, none, _, _, _, _, _, _, _, _, _, _, _, _, _, _, _, _, _, _, _, _, _, _, _, _, _, _, _, _, _, _, _, _, _, _, _, _, _, _, _, _, _, _, _, _, _, _, _, _, _, _, _, _, _, _, _, _, _, _, _, _, _], rfl, Nat.zero_le _, rfl, ?_, gr2⟩)
     · intro n s' hIs
       obtain ⟨i, M3, c3, bb3, u, rfl, hi, rfl, hb3, gr3⟩ := (hI2 _ _).1 hIs
       clear hIs
       have hs4 := hs3'.grow gr3
       have ok3 := gr3.ok ok
       have hj := join_len' s (L.take (i + 1))
       have hj2 := szL_take L (i + 1)
       have hj3 : s.length * (L.take (i + 1)).length ≤ 100 * 1000000 := Nat.mul_le_mul hs2 (by rw [List.length_take]; omega)
       by_cases hlt : i < L.length - 1
       · have e1 : decide ((i : Int) < ((L.length - 1 : Nat) : Int)) = true := decide_eq_true (by omega)
         obtain ⟨b4, o4, hb4, ia4, ld4⟩ := str_at hs4 i (by rw [List.length_drop]; omega)
         have hge : (L.drop 1)[i]'(by rw [List.length_drop]; omega) = L[i + 1] := by rw [List.getElem_drop]; congr 1; omega
         rw [hge] at ld4
         have hgl := szL_get (l := L) (i := i + 1) (by omega)
         have q8 : biV .add (.i .i64 (i : Int)) (.i .i64 1) = some (.i .i64 ((i + 1 : Nat) : Int)) := by rw [i64_add _ _ (by omega) (by omega)]; simp
         simp only [WX, B42, e1, ia4, ld4]
         refine putE_to ((r60 Φ h60 h70 ok3 gr3 hb3 s (room_le (by omega))).mono ?_)
         rintro v5 M5 c5 ⟨bb5, hb5, gr5, hle5, _, _⟩
         have ok5 := gr5.ok ok
         simp only [WX, B42]
         refine putE_to ((r60 Φ h60 h70 ok5 gr5 hb5 L[i + 1] (room_le (by rw [List.length_append]; omega))).mono ?_)
         rintro v6 M6 c6 ⟨bb6, hb6, gr6, hle6, _, _⟩
         simp only [WX, B42, q8]
         refine ⟨L.length - 1 - (i + 1), by omega, (hI2 _ _).2 ⟨i + 1, M6, c6, bb6, [none, none, _, _, _, _, _, _, none, _, _, _, _, _, _, _, _, _, _, _, _, _, _, _, _, _, _, _, _, _, _, _, _, _, _, _, _, _, _, _, _, _, _, _, _, _, _, _, _, _, _, _, _, _, _, _, _, _, _, _, _, _, _, none, none, none, _, _, _, _, _, _, _, _, _, _, _, _, _, _, _, _, _, _, _, _, _, _, _, _, _, _, _, _, _, _, _, _, _, _, _, _, _, _, _, _, _, _, _, _, _, _, _, _, _, _, _, _, _, _, _, _, _, _, _, _, _], rfl, by omega, rfl, ?_, gr6⟩⟩
         rw [join_take s L i (by omega)]; exact hb6
       · have e1 : decide ((i : Int) < ((L.length - 1 : Nat) : Int)) = false := decide_eq_false (by omega)
         simp only [WX, B42, e1]
         refine putE_to ((r61 Φ h61 ok3 gr3 hb3 (by omega)).mono ?_)
         rintro v5 M5 c5 ⟨rfl, gr5, _, _⟩
         simp only [WX]
         refine ⟨?_, gr5⟩
         rw [List.take_of_length_le (by omega)]
     · rw [show L.take (0 + 1) = [L[0]] by rw [List.take_succ_eq_append_getElem (show 0 < L.length by omega)]; rfl]
       simpa [joinL] using hb2
def b15_1 : CC := (.reg [(aa a1 (.bx 26 5 z0)), (qq a2 (.mv (.c (.s 0 0)))), (qq a3 (.mv (x6 0)))])
def b15_2 : CC := (.reg [(qq a8 (.ldn 5 z1)), (ee a9 (.call 37 [z8])), (qq a10 (.un .not z9))])
def b15_3 : CC := (.reg [(qq a2 (.mv (.c (.s 0 0)))), (qq a3 (.mv (x6 2)))])
def b15_4 : CC := (.seq b15_2 (.cond z10 (.seq b15_3 .ret) .skip))
def b15_5 : CC := (.reg [(qq a11 (.fa 0 z1)), (qq a12 (.ld1 z11)), (ee a13 (.call 25 [z12])), (ee a14 (.call 40 [z13])), (aa a4 (.al 80 [(.b false), (.b false), (.b false), (.b false)])), (ez (.st 4 z4 z14))])
def b15_6 : CC := (.reg [(qq a15 (.fa 0 z1)), (qq a16 (.ld1 z15)), (ee a17 (.call 24 [z16])), (aa a18 (.bsl 9 1 1 [(.s 0 0)] [(0, z17)])), (qq a5 (.mv z18))])
def b15_7 : CC := (.reg [(qq a19 (.fa 0 z4)), (qq a20 (.ld1 z19)), (qq a21 (.fa 1 z1)), (qq a22 (.ld1 z21)), (qq a23 (.bld [(.b false), (.i .i64 0)] [(0, 1, z20), (1, 1, z22)])), (qq a24 (.fa 1 z4)), (qq a25 (.ld1 z24)), (qq a26 (.fa 2 z1)), (qq a27 (.ld1 z26)), (qq a28 (.bld [(.b false), (.i .i64 0)] [(0, 1, z25), (1, 1, z27)])), (qq a29 (.fa 2 z4)), (qq a30 (.ld1 z29)), (qq a31 (.fa 3 z1)), (qq a32 (.ld1 z31)), (qq a33 (.bld [(.b false), (.i .i64 0)] [(0, 1, z30), (1, 1, z32)])), (qq a34 (.bld [(.b false), (.i .i64 0), (.b false), (.i .i64 0), (.b false), (.i .i64 0)] [(0, 2, z23), (2, 2, z28), (4, 2, z33)])), (qq a35 (.mv (x6 0)))])
def b15_8 : CC := (.reg [(qq a36 (.bi .lss z35 (x6 3)))])
def b15_9 : CC := (.reg [(qq a37 (.ixAn 3 2 z34 z35)), (aa a7 (.al 82 [(.b false), (.i .i64 0)])), (ez (.st 2 z7 z37))])
def b15_10 : CC := (.reg [(qq a38 (.fa 0 z7)), (qq a39 (.ld1 z38))])
def b15_11 : CC := (.reg [(qq a40 (.mv z5)), (qq a41 (.fa 1 z7)), (qq a42 (.ld1 z41)), (ee a43 (.call 41 [z42])), (qq a44 (.bi .add (.c (.s 1 114)) z43)), (aa a45 (.bsl 9 1 1 [(.s 0 0)] [(0, z44)])), (ee a46 (.app 9 1 16 z40 z45)), (qq a5 (.mv z46))])
def b15_12 : CC := (.seq b15_10 (.cond z39 b15_11 .skip))
def b15_13 : CC := (.reg [(qq a47 (.bi .add z35 (x6 1))), (qq a35 (.mv z47))])
def b15_14 : CC := (.seq (.cond z36 .skip (.exit 0)) (.seq (.block 1 (.seq b15_9 b15_12)) b15_13))
def b15_15 : CC := (.reg [(qq a48 (.fa 3 z4)), (qq a49 (.ld1 z48))])
def b15_16 : CC := (.reg [(qq a50 (.mv z5)), (qq a51 (.fa 4 z1)), (qq a52 (.ld1 z51)), (ee a53 (.call 41 [z52])), (aa a54 (.bsl 9 1 1 [(.s 0 0)] [(0, z53)])), (ee a55 (.app 9 1 16 z50 z54)), (qq a5 (.mv z55))])
def b15_17 : CC := (.seq b15_15 (.cond z49 b15_16 .skip))
def b15_18 : CC := (.reg [(qq a56 (.mv z5)), (ee a57 (.call 42 [z56, (.c (.s 1 32))])), (qq a2 (.mv z57)), (qq a3 (.mv (x6 0)))])
def b15_19 : CC := (.seq (.seq b15_7 (.block 0 (.loop (.seq b15_8 b15_14)))) (.seq b15_17 (.seq b15_18 .ret)))
def c15 : CF := .mk 6 [.t a2, .t a3] (.seq b15_1 (.seq b15_4 (.seq b15_5 (.seq b15_6 b15_19))))
theorem e15 (v0 : V) : argTr 6 [v0] = (.n sk5 (some v0) sk5) := rfl
def B15 := ai @e15 (ai (wu b15_1.eq_1) (ai (wu b15_2.eq_1) (ai (wu b15_3.eq_1) (ai (wu b15_4.eq_1) (ai (wu b15_5.eq_1) (ai (wu b15_6.eq_1) (ai (wu b15_7.eq_1) (ai (wu b15_8.eq_1) (ai (wu b15_9.eq_1) (ai (wu b15_10.eq_1) (ai (wu b15_11.eq_1) (ai (wu b15_12.eq_1) (ai (wu b15_13.eq_1) (ai (wu b15_14.eq_1) (ai (wu b15_15.eq_1) (ai (wu b15_16.eq_1) (ai (wu b15_17.eq_1) (ai (wu b15_18.eq_1) (wu b15_19.eq_1)))))))))))))))))))
def GAcc (F : RO) (M : Mem) (c0 c b ty sz : Nat) (v : V) (es : List (List V)) : Prop :=
 (c0 ≤ b ∧ b < c ∧ v = .l b 0 es.length es.length ∧ (∀ e ∈ es, e.length = sz) ∧ CellsAt F M b 0 es.flatten) ∨ AccAt M c0 c b ty sz v es
theorem GAcc.sl {F : RO} {M : Mem} {c0 c b ty sz : Nat} {v : V} {es : List (List V)} (h : GAcc F M c0 c b ty sz v es) : SlAt F M c sz v es := by
 rcases h with ⟨h1, h2, rfl, h3, h4⟩ | h
 · exact ⟨h3, .inr ⟨b, 0, .inl ⟨_, Nat.le_refl _, rfl⟩, h2, h4⟩⟩
 · exact h.sl
theorem GAcc.up {F : RO} {M M' : Mem} {c0 c c' b ty sz : Nat} {v : V} {es : List (List V)} (h : GAcc F M c0 c b ty sz v es) (hc : c ≤ c') (hb : ∀ x, x < c → M'.get x = M.get x) : GAcc F M' c0 c' b ty sz v es := by
 rcases h with ⟨h1, h2, rfl, h3, h4⟩ | h
 · exact .inl ⟨h1, by omega, rfl, h3, h4.of_get (hb b h2)⟩
 · exact .inr (h.up hc fun hx => hb b hx)
theorem gacc_to {F : RO} {M0 M : Mem} {c0 c b ty sz bytes : Nat} {v y : V} {es ns : List (List V)} (h : GAcc F M c0 c b ty sz v es) (hg : Gr c0 M0 c M) (hsz : 0 < sz) (hy : SlAt F M c sz y ns) (hn0 : ns ≠ []) (h1 : allOne ns.flatten = true) (hr : room (es.length + ns.length) bytes = true) :
  RTo (appV F M c ty sz bytes v y) fun v' M' c' => ∃ b', GAcc F M' c0 c' b' ty sz v' (es ++ ns) ∧ Gr c0 M0 c' M' ∧ c ≤ c' ∧ (∀ x, x < c → x ≠ b → M'.get x = M.get x) ∧ (b' = b ∨ c ≤ b') := by
 rcases h with ⟨k1, k2, rfl, k3, k4⟩ | h
 · unfold appV
   rw [split_sl hsz hy]
   have hnl := flat_len hy.1
   have hlen : ns.length ≠ 0 := fun e => hn0 (List.length_eq_zero_iff.1 e)
   obtain ⟨r, hrd⟩ := readB_of hsz k3 k4
   have e1 : e_app1 F M c ty sz bytes (.l b 0 es.length es.length) (some (ns.length, ns.flatten)) = grown M c ty bytes (es.length + ns.length) 0 false (es.flatten ++ ns.flatten) := by
    show (bif allOne ns.flatten && Nat.beq ns.flatten.length (Nat.mul ns.length sz) then app F M c ty sz bytes (.l b 0 es.length es.length) ns.length ns.flatten else _) = _
    rw [h1, beqN, decide_eq_true (show ns.flatten.length = Nat.mul ns.length sz from hnl)]
    show app F M c ty sz bytes (.l b 0 es.length es.length) ns.length ns.flatten = _
    unfold app
    rw [beqN, decide_eq_false hlen, cond_false]
    show app_l F M c ty sz bytes b 0 es.length es.length ns.length ns.flatten = _
    unfold app_l
    rw [bleN, decide_eq_false (show ¬ Nat.add es.length ns.length ≤ es.length by show ¬ es.length + ns.length ≤ es.length; omega), cond_false, hrd]; rfl
   refine ⟨_, _, _, e1.trans (grown_eq M c ty bytes _ _ hr), c, .inr ⟨?_, .inr ⟨hg.le, by omega, by rw [List.length_append], ?_⟩⟩, hg.set c _ hg.le (by omega) (by omega), by omega, fun x hx _ => get_ne _ _ (by omega), .inr (Nat.le_refl _)⟩
   · intro e he
     rcases List.mem_append.1 he with he | he
     · exact k3 e he
     · exact hy.1 e he
   · rw [Tr.get_set, if_pos rfl, List.flatten_append]
 · refine (appV_to h hg hsz hy h1 hr).mono ?_
   rintro v' M' c' ⟨b', a1, a2, a3, a4, a5⟩
   exact ⟨b', .inr a1, a2, a3, a4, a5⟩
theorem gacc_lit {F : RO} {M : Mem} {b c0 c ty sz n : Nat} {d : List V} {es : List (List V)} (h : M.get b = some (rowD d ty es.flatten)) (h0 : c0 ≤ b) (hb : b < c) (h1 : ∀ e ∈ es, e.length = sz) (hn : es.length = n) : GAcc F M c0 c b ty sz (.l b 0 n n) es := by
 subst hn
 exact .inl ⟨h0, hb, rfl, h1, (rowAt_D h).cells⟩
def nameB (op : Int) : List UInt8 := if 1 ≤ op ∧ op ≤ 28 then (nameL[op.toNat]?).getD [] else []
theorem nameV_s (op : Int) : nameV op = sV (nameB op) := by
 unfold nameV nameB
 by_cases h : 1 ≤ op ∧ op ≤ 28
 · rw [if_pos h, if_pos h, names_get (by omega), List.getElem?_eq_getElem (show op.toNat < nameL.length by rw [nameL_len]; omega)]; rfl
 · rw [if_neg h, if_neg h]; rfl
def flagT (op : Int) (i : Nat) : Bool := if i = 0 then dI (formI op) else if i = 1 then aI (formI op) else bI (formI op)
def numT (d a b : Int) (i : Nat) : Int := if i = 0 then d else if i = 1 then a else b
def wk (op d a b : Int) : Nat → List (List UInt8)
 | 0 => [nameB op]
 | i + 1 => wk op d a b i ++ (if flagT op i = true then [114 :: itoa (numT d a b i)] else [])
def wordsT (op d a b i : Int) : List (List UInt8) := wk op d a b 3 ++ (if iI (formI op) = true then [itoa i] else [])
def textB (op d a b i : Int) : List UInt8 := joinL [32] (wordsT op d a b i)
theorem itoaN_len (n : Nat) : (itoaN n).length ≤ 7 := by
 unfold itoaN
 rw [dig_len]
 unfold nd; repeat' split
 all_goals omega
theorem itoa_len (n : Int) : (itoa n).length ≤ 8 := by
 cases n with
 | ofNat n => have := itoaN_len n; show (itoaN n).length ≤ 8; omega
 | negSucc n => have := itoaN_len (n + 1); show (45 :: itoaN (n + 1)).length ≤ 8; rw [List.length_cons]; omega
theorem nameB_len (op : Int) : (nameB op).length ≤ 6 := by
 unfold nameB
 split
 · have : ∀ k, k < 29 → ((nameL[k]?).getD []).length ≤ 6 := by decide +kernel
   exact this _ (by omega)
 · simp
theorem wk_len (op d a b : Int) : ∀ i, (wk op d a b i).length ≤ i + 1
 | 0 => Nat.le_refl _
 | i + 1 => by
   have := wk_len op d a b i
   rw [wk, List.length_append]
   split <;> simp <;> omega
theorem wk_sz (op d a b : Int) : ∀ i, szL (wk op d a b i) ≤ 7 + 10 * i
 | 0 => by have := nameB_len op; show (nameB op).length + 1 + 0 ≤ 7; omega
 | i + 1 => by
   have := wk_sz op d a b i
   have h2 := itoa_len (numT d a b i)
   rw [wk, szL_append]
   split
   · rw [szL, szL, List.length_cons]; omega
   · rw [szL]; omega
def ixAnV (len sz : Nat) (x i : V) : Option V := (qop (.ixAn len sz (.c x) (.c i)) [] .e .e).val
theorem v_ixAn {F : RO} (len sz : Nat) (x i : X) (M : Mem) (t : T) : (qop (.ixAn len sz x i) F M t).val = ixAnV len sz (x.ev t) (i.ev t) := Eq.trans rfl (Eq.refl _)
theorem ixAn_3 (x0 x1 x2 : Bool) (y0 y1 y2 : Int) (i : Nat) (h : i < 3) : ixAnV 3 2 (.g [.b x0, .i .i64 y0, .b x1, .i .i64 y1, .b x2, .i .i64 y2]) (.i .i64 (i : Int)) = some (.g [.b (if i = 0 then x0 else if i = 1 then x1 else x2), .i .i64 (if i = 0 then y0 else if i = 1 then y1 else y2)]) := by
 have : i = 0 ∨ i = 1 ∨ i = 2 := by omega
 rcases this with rfl | rfl | rfl <;> rfl
theorem may_num {op d a b i : Int} (h : mayI op d a b i = true) : 1 ≤ op ∧ op ≤ 28 ∧ (∀ k, 0 ≤ numT d a b k ∧ numT d a b k < 16) ∧ -32768 ≤ i ∧ i ≤ 65535 := by
 unfold mayI at h
 simp only [Bool.and_eq_true, Bool.or_eq_true, decide_eq_true_eq] at h
 obtain ⟨h1, h2, h3, h4, h5, h6⟩ := h
 have key : ∀ b n, regI b n = true → 0 ≤ n ∧ n < 16 := by
  intro b n hh
  unfold regI at hh
  have := of_decide_eq_true hh
  omega
 refine ⟨h1, h2, fun k => ?_, by omega, by omega⟩
 unfold numT
 repeat' split
 · exact key _ _ h3
 · exact key _ _ h4
 · exact key _ _ h5
theorem r15n (Φ : Nat → Option CF) (h : Φ 15 = some c15) (h37 : Φ 37 = some (.orc (pureO h37))) {F : RO} {M : Mem} {c : Nat} (op d a b i : Int) (hm : mayI op d a b i = false) :
  Calls Φ F 15 [.g [.i .i64 op, .i .i64 d, .i .i64 a, .i .i64 b, .i .i64 i]] M c fun r _ _ => r = .t [.s 0 0, .i .i64 2] := by
 refine calls_walk h ?_
 simp only [WX, Nat.reduceAdd, Nat.reduceLeDiff, B15, h37, h37_eq, hm]
theorem r15 (Φ : Nat → Option CF) (h : Φ 15 = some c15) {L : List Tab} (h37 : Φ 37 = some (.orc (pureO h37))) (h25 : Φ 25 = some (.orc (pureO h25))) (h40 : Φ 40 = some (.orc (pureO h40))) (h24 : Φ 24 = some (.orc (pureO h24))) (h41 : Φ 41 = some (.orc (pureT L h58)))
  (h42 : Φ 42 = some c42) (h59 : Φ 59 = some c59) (h60 : Φ 60 = some c60) (h61 : Φ 61 = some c61) (h70 : Φ 70 = some c70) (h71 : Φ 71 = some c71) {F : RO} {M : Mem} {c : Nat} (ok : Okm F M c) (ht : tabsIn F L = true) (op d a b i : Int) (hm : mayI op d a b i = true) :
  Calls Φ F 15 [.g [.i .i64 op, .i .i64 d, .i .i64 a, .i .i64 b, .i .i64 i]] M c fun r _ _ => r = .t [sV (textB op d a b i), .i .i64 0] := by
 refine calls_walk h ?_
 have hT := fun h args M c => pureT_of ht h args M c
 obtain ⟨n1, n2, n3, n4, n5⟩ := may_num hm
 simp only [WX, Nat.reduceBEq, Nat.reduceAdd, Nat.reduceLeDiff, B15, h37, h37_eq, hm, h25, h25_eq, h40, h40_eq, h24, h24_eq, nameV_s, show ∀ l, isOne (sV l) = true from fun _ => rfl, show ∀ l, flatten (sV l) = [sV l] from fun _ => rfl]
 have rI : Blk := rowB 26 [.i .i64 op, .i .i64 d, .i .i64 a, .i .i64 b, .i .i64 i]
 obtain ⟨X, hX⟩ : ∃ X : Mem, X = ((M.set c (rowB 26 [V.i IntKind.i64 op, V.i IntKind.i64 d, V.i IntKind.i64 a, V.i IntKind.i64 b, V.i IntKind.i64 i])).set (c + 1) (rowB 80 [V.b (dI (formI op)), V.b (aI (formI op)), V.b (bI (formI op)), V.b (iI (formI op))])).set (c + 2) (rowD [V.s 0 0] 9 [sV (nameB op)]) := ⟨_, rfl⟩
 rw [← hX]
 have grX : Gr c M (c + 3) X := by
  rw [hX]
  exact (((Gr.refl ok).set c _ (Nat.le_refl _) (Nat.lt_succ_self _) (Nat.le_succ _)).set (c + 1) _ (by omega) (show c + 1 < c + 2 by omega) (by omega)).set (c + 2) _ (by omega) (by omega) (by omega)
 have xI : X.get c = some (rowB 26 [.i .i64 op, .i .i64 d, .i .i64 a, .i .i64 b, .i .i64 i]) := by rw [hX, get_ne _ _ (by omega), get_ne _ _ (by omega), get_same]
 have xB : X.get (c + 1) = some (rowB 80 [.b (dI (formI op)), .b (aI (formI op)), .b (bI (formI op)), .b (iI (formI op))]) := by rw [hX, get_ne _ _ (by omega), get_same]
 have xA : GAcc F X c (c + 3) (c + 2) 9 1 (.l (c + 2) 0 1 1) (strE (wk op d a b 0)) := gacc_lit (d := [.s 0 0]) (by rw [hX, get_same]; rfl) (by omega) (Nat.lt_succ_self _) (fun e he => by obtain ⟨x, _, rfl⟩ := List.mem_map.1 he; rfl) rfl
 clear hX rI
 obtain ⟨I1, hI1⟩ : ∃ I : Nat → St → Prop, ∀ n s', I n s' ↔ (∃ (k : Nat) (M1 : Mem) (c1 b1 : Nat) (v : V) (u : List (Option V)), n = 3 - k ∧ k ≤ 3 ∧ s' = .mk ((.n (.n (.n (uv7 u 31 15 47 7 39 23 55) (uO u 3) (.n (.n (.n .e (some (.i .i64 (k : Int))) .e) (uO u 19) (uv1 u 51)) (uO u 11) (uv3 u 43 27 59))) (some (.p c 0)) (.n (uv7 u 33 17 49 9 41 25 57) (some (v)) (uv7 u 37 21 53 13 45 29 61))) (uO u 0) (.n (.n (uv7 u 32 16 48 8 40 24 56) (some (.p (c + 1) 0)) (uv7 u 36 20 52 12 44 28 60)) (uO u 2) (.n (.n (.n (.n .e (some (.g [.b (dI (formI op)), .i .i64 d, .b (aI (formI op)), .i .i64 a, .b (bI (formI op)), .i .i64 b])) .e) (uO u 18) (uv1 u 50)) (uO u 10) (uv3 u 42 26 58)) (uO u 6) (uv7 u 38 22 54 14 46 30 62))))) [] M1 c1 ∧ Gr c M c1 M1 ∧ GAcc F M1 c c1 b1 9 1 v (strE (wk op d a b k)) ∧ c + 2 ≤ b1 ∧ c + 3 ≤ c1 ∧ M1.get c = some (rowB 26 [.i .i64 op, .i .i64 d, .i .i64 a, .i .i64 b, .i .i64 i]) ∧ M1.get (c + 1) = some (rowB 80 [.b (dI (formI op)), .b (aI (formI op)), .b (bI (formI op)), .b (iI (formI op))])) := ⟨fun n s' => _, fun _ _ => Iff.rfl⟩
 refine wp_while I1 ?_ 3 _ ((hI1 _ _).2 ⟨0, X, c + 3, c + 2, .l (c + 2) 0 1 1, [_, none, _, _, none, none, _, _, _, _, _, _, _, _, _, _, _, _, _, _, _, _, _, _, _, _, _, _, _, _, _, _, _, _, none, none, _, _, _, _, _, _, _, _, _, _, _, _, _, _, _, _, _, _, _, _, _, _, _, _, _, _, _], rfl, Nat.zero_le _, rfl, grX, xA, Nat.le_refl _, Nat.le_refl _, xI, xB⟩)
 intro n s' hIs
 obtain ⟨k, M1, c1, b1, v, u, rfl, hk, rfl, gr1, hA, hb1, hc1, gI, gB⟩ := (hI1 _ _).1 hIs
 clear hIs
 have ok1 := gr1.ok ok
 have hS : ∀ l, isOne (sV l) = true := fun _ => rfl
 have hF : ∀ l, flatten (sV l) = [sV l] := fun _ => rfl
 have hwl := wk_len op d a b k
 by_cases hlt : k < 3
 · have d1 : decide ((k : Int) < 3) = true := decide_eq_true (by omega)
   have hix := ixAn_3 (dI (formI op)) (aI (formI op)) (bI (formI op)) d a b k hlt
   have q8 : biV .add (.i .i64 (k : Int)) (.i .i64 1) = some (.i .i64 ((k + 1 : Nat) : Int)) := by rw [i64_add _ _ (by omega) (by omega)]; simp
   rw [show (if k = 0 then dI (formI op) else if k = 1 then aI (formI op) else bI (formI op)) = flagT op k from rfl, show (if k = 0 then d else if k = 1 then a else b) = numT d a b k from rfl] at hix
   have hbo := fun x : Bool => show isOne (.b x) = true from rfl
   cases hfl : flagT op k with
   | true =>
     rw [hfl] at hix
     have hcat : biV .add (.s 1 114) (sV (itoa (numT d a b k))) = some (sV (114 :: itoa (numT d a b k))) := bi_scat [114] _ (by have := itoa_len (numT d a b k); simp; omega)
     have hnk := n3 k
     simp only [WX, Nat.reduceAdd, Nat.reduceLeDiff, B15, d1, v_ixAn, hix, h41, hT, h58_eq (show -10000000 < numT d a b k by omega) (show numT d a b k < 10000000 by omega), hcat, hS, hF]
     obtain ⟨Y, hY⟩ : ∃ Y : Mem, Y = (M1.set c1 (rowB 82 [V.b true, V.i IntKind.i64 (numT d a b k)])).set (c1 + 1) (rowD [V.s 0 0] 9 [sV (114 :: itoa (numT d a b k))]) := ⟨_, rfl⟩
     rw [← hY]
     have grY : Gr c M (c1 + 2) Y := by
      rw [hY]
      exact (gr1.set (c2 := c1 + 1) c1 _ gr1.le (by omega) (by omega)).set (c1 + 1) _ (by omega) (by omega) (by omega)
     have hYo : ∀ x, x < c1 → Y.get x = M1.get x := fun x hx => by rw [hY, get_ne _ _ (by omega), get_ne _ _ (by omega)]
     have hy : SlAt F Y (c1 + 2) 1 (.l (c1 + 1) 0 1 1) (strE [114 :: itoa (numT d a b k)]) := slD (d := [.s 0 0]) (ty := 9) (by rw [hY, get_same]; rfl) (by omega) (fun e he => by obtain ⟨x, _, rfl⟩ := List.mem_map.1 he; rfl) rfl
     refine putE_to ((gacc_to (bytes := 16) (hA.up (show c1 ≤ c1 + 2 by omega) hYo) grY Nat.one_pos hy (by simp [strE]) rfl (room_of (by simp [strE]; omega) (by simp [strE]; omega))).mono ?_)
     rintro v' M2 c2 ⟨b2, hA2, gr2, hle2, hfr2, hbb2⟩
     simp only [WX, B15, q8]
     refine ⟨3 - (k + 1), by omega, (hI1 _ _).2 ⟨k + 1, M2, c2, b2, v', [_, none, _, _, none, none, _, _, _, _, _, _, _, _, _, _, _, _, _, _, _, _, _, _, _, _, _, _, _, _, _, _, _, _, none, none, _, _, _, _, _, _, _, _, _, _, _, _, _, _, _, _, _, _, _, _, _, _, _, _, _, _, _], rfl, by omega, rfl, gr2, ?_, by omega, by omega, ?_, ?_⟩⟩
     · rw [wk, hfl, if_pos rfl, strE, List.map_append]; exact hA2
     · rw [hfr2 c (by omega) (by omega), hYo c (by omega)]; exact gI
     · rw [hfr2 (c + 1) (by omega) (by omega), hYo (c + 1) (by omega)]; exact gB
   | false =>
     rw [hfl] at hix
     simp only [WX, Nat.reduceAdd, Nat.reduceLeDiff, B15, d1, v_ixAn, hix, q8]
     have hYo : ∀ x, x < c1 → (M1.set c1 (rowB 82 [V.b false, V.i IntKind.i64 (numT d a b k)])).get x = M1.get x := fun x hx => get_ne _ _ (by omega)
     refine ⟨3 - (k + 1), by omega, (hI1 _ _).2 ⟨k + 1, _, c1 + 1, b1, v, [_, none, _, _, none, none, _, _, _, _, _, _, _, _, _, _, _, _, _, _, _, _, _, _, _, _, _, _, _, _, _, _, _, _, none, none, _, _, _, _, _, _, _, _, _, _, _, _, _, _, _, _, _, _, _, _, _, _, _, _, _, _, _], rfl, by omega, rfl, gr1.set c1 _ gr1.le (by omega) (by omega), ?_, hb1, by omega, (hYo c (by omega)).trans gI, (hYo (c + 1) (by omega)).trans gB⟩⟩
     rw [wk, hfl, if_neg (by decide), List.append_nil]
     exact hA.up (by omega) hYo
 · have d1 : decide ((k : Int) < 3) = false := decide_eq_false (by omega)
   obtain rfl : k = 3 := by omega
   have lB : load1 F M1 (c + 1) 3 = some (.b (iI (formI op))) := load_row gB 3
   have lI : load1 F M1 c 4 = some (.i .i64 i) := load_row gI 4
   have hsz := wk_sz op d a b 3
   cases hfl : iI (formI op) with
   | true =>
     rw [hfl] at lB
     simp only [WX, B15, d1, lB, lI, h41, hT, h58_eq (show -10000000 < i by omega) (show i < 10000000 by omega), hS, hF]
     have grY : Gr c M (c1 + 1) (M1.set c1 (rowD [V.s 0 0] 9 [sV (itoa i)])) := gr1.set c1 _ gr1.le (by omega) (by omega)
     have hy : SlAt F (M1.set c1 (rowD [V.s 0 0] 9 [sV (itoa i)])) (c1 + 1) 1 (.l c1 0 1 1) (strE [itoa i]) := slD (d := [.s 0 0]) (ty := 9) (by rw [get_same]; rfl) (by omega) (fun e he => by obtain ⟨x, _, rfl⟩ := List.mem_map.1 he; rfl) rfl
     refine putE_to ((gacc_to (bytes := 16) (hA.up (show c1 ≤ c1 + 1 by omega) (fun x hx => get_ne _ _ (by omega))) grY Nat.one_pos hy (by simp [strE]) rfl (room_of (by simp [strE]; omega) (by simp [strE]; omega))).mono ?_)
     rintro v' M2 c2 ⟨b2, hA2, gr2, hle2, hfr2, hbb2⟩
     have ok2 := gr2.ok ok
     have hA3 : SlAt F M2 c2 1 v' (strE (wordsT op d a b i)) := by
      have := hA2.sl
      rw [wordsT, hfl, if_pos rfl, strE, List.map_append]; exact this
     have hil := itoa_len i
     simp only [WX, B15]
     refine putE_to ((r42 (s := [32]) Φ h42 h59 h60 h61 h70 h71 ok2 hA3 (by rw [wordsT, szL_append, hfl, if_pos rfl, szL, szL]; omega) (by decide) (by decide)).mono ?_)
     rintro r M3 c3 ⟨rfl, _⟩
     simp only [WX]
     rfl
   | false =>
     rw [hfl] at lB
     have hA3 : SlAt F M1 c1 1 v (strE (wordsT op d a b i)) := by
      rw [wordsT, hfl, if_neg (by decide), List.append_nil]; exact hA.sl
     simp only [WX, B15, d1, lB]
     refine putE_to ((r42 (s := [32]) Φ h42 h59 h60 h61 h70 h71 ok1 hA3 (by rw [wordsT, szL_append, hfl, if_neg (by decide), szL]; omega) (by decide) (by decide)).mono ?_)
     rintro r M3 c3 ⟨rfl, _⟩
     simp only [WX]
     rfl
def b43_1 : CC := (.reg [(qq a4 (.ld1 z0)), (ee a5 (.call 44 [z4, (.c (.s 1 32))])), (qq a3 (.mv z5)), (qq a6 (.ex 0 z3)), (qq a7 (.ex 1 z3)), (qq a8 (.ex 2 z3)), (qq a2 (.mv z6)), (ez (.st 1 z0 z7))])
def b43_2 : CC := (.reg [(qq a9 (.mv z2)), (qq a1 (.mv z9))])
def b43_3 : CC := (.seq (.reg [(qq a2 (.mv (.c (.s 0 0))))]) (.seq b43_1 (.seq b43_2 .ret)))
def b43_4 : CC := (.seq (.reg [(qq a1 (.mv (.c (.s 0 0))))]) b43_3)
def c43 : CF := .mk 4 [.t a1] b43_4
theorem e43 : argTr 4 [] = sk4 := rfl
def B43 := ai @e43 (ai (wu b43_1.eq_1) (ai (wu b43_2.eq_1) (ai (wu b43_3.eq_1) (wu b43_4.eq_1))))
def b45_1 : CC := (.reg [(qq a3 (.mv (x6 0)))])
def b45_2 : CC := (.reg [(qq a7 (.ld1 z1)), (ee a8 (.cv z7 [])), (qq a9 (.mv z0)), (ee a10 (.call 47 [z8, z9])), (ee a11 (.call 46 [z10])), (qq a6 (.mv z11)), (qq a12 (.ex 0 z6)), (qq a13 (.ex 1 z6)), (qq a4 (.mv z12)), (qq a5 (.mv z13))])
def b45_3 : CC := (.reg [(qq a14 (.mv z4)), (qq a3 (.mv z14))])
def c45 : CF := .mk 4 [.t a3] (.seq b45_1 (.seq b45_2 (.seq b45_3 .ret)))
theorem e45 (v0 : V) : argTr 4 [v0] = (.n sk3 (some v0) sk3) := rfl
def B45 := ai @e45 (ai (wu b45_1.eq_1) (ai (wu b45_2.eq_1) (wu b45_3.eq_1)))
def b16_1 : CC := (.reg [(aa a2 (.al 26 [(.i .i64 0), (.i .i64 0), (.i .i64 0), (.i .i64 0), (.i .i64 0)])), (qq a3 (.mv (x6 0)))])
def w16_1 := wu b16_1.eq_1
def b16_2 : CC := (.reg [(qq a11 (.mv z0)), (aa a4 (.al 9 [(.s 0 0)])), (ez (.st 1 z4 z11))])
def w16_2 := wu b16_2.eq_1
def b16_3 : CC := (.reg [(qq a12 (.mkf 43 [] [z4])), (aa a5 (.al 88 [.f0])), (ez (.st 1 z5 z12))])
def w16_3 := wu b16_3.eq_1
def b16_4 : CC := (.reg [(qq a13 (.mkf 45 [] [z5])), (qq a6 (.mv z13))])
def w16_4 := wu b16_4.eq_1
def b16_5 : CC := (.reg [(aa a7 (.al 26 [(.i .i64 0), (.i .i64 0), (.i .i64 0), (.i .i64 0), (.i .i64 0)]))])
def w16_5 := wu b16_5.eq_1
def b16_6 : CC := (.reg [(qq a15 (.ld1 z5)), (ee a16 (.cv z15 [])), (ee a17 (.call 22 [z16])), (qq a14 (.mv z17)), (qq a18 (.ex 0 z14)), (qq a19 (.ex 1 z14)), (qq a20 (.fa 0 z7)), (ez (.st 1 z20 z18))])
def w16_6 := wu b16_6.eq_1
def b16_7 : CC := (.reg [(qq a21 (.fa 0 z7)), (qq a22 (.ld1 z21)), (ee a23 (.call 25 [z22])), (ee a24 (.call 40 [z23])), (aa a8 (.al 80 [(.b false), (.b false), (.b false), (.b false)])), (ez (.st 4 z8 z24))])
def w16_7 := wu b16_7.eq_1
def b16_8 : CC := (.reg [(qq a25 (.fa 0 z8)), (qq a26 (.ld1 z25))])
def w16_8 := wu b16_8.eq_1
def b16_9 : CC := (.reg [(qq a27 (.mv z6)), (ee a28 (.cv z27 [(.c (.s 1 114))])), (qq a29 (.fa 1 z7)), (ez (.st 1 z29 z28))])
def w16_9 := wu b16_9.eq_1
def b16_10 : CC := (.seq b16_8 (.cond z26 b16_9 .skip))
def w16_10 := wu b16_10.eq_1
def b16_11 : CC := (.reg [(qq a30 (.fa 1 z8)), (qq a31 (.ld1 z30))])
def w16_11 := wu b16_11.eq_1
def b16_12 : CC := (.reg [(qq a32 (.mv z6)), (ee a33 (.cv z32 [(.c (.s 1 114))])), (qq a34 (.fa 2 z7)), (ez (.st 1 z34 z33))])
def w16_12 := wu b16_12.eq_1
def b16_13 : CC := (.seq b16_11 (.cond z31 b16_12 .skip))
def w16_13 := wu b16_13.eq_1
def b16_14 : CC := (.reg [(qq a35 (.fa 2 z8)), (qq a36 (.ld1 z35))])
def w16_14 := wu b16_14.eq_1
def b16_15 : CC := (.reg [(qq a37 (.mv z6)), (ee a38 (.cv z37 [(.c (.s 1 114))])), (qq a39 (.fa 3 z7)), (ez (.st 1 z39 z38))])
def w16_15 := wu b16_15.eq_1
def b16_16 : CC := (.seq b16_14 (.cond z36 b16_15 .skip))
def w16_16 := wu b16_16.eq_1
def b16_17 : CC := (.reg [(qq a40 (.fa 3 z8)), (qq a41 (.ld1 z40))])
def w16_17 := wu b16_17.eq_1
def b16_18 : CC := (.reg [(qq a42 (.mv z6)), (ee a43 (.cv z42 [(.c (.s 0 0))])), (qq a44 (.fa 4 z7)), (ez (.st 1 z44 z43))])
def w16_18 := wu b16_18.eq_1
def b16_19 : CC := (.seq b16_17 (.cond z41 b16_18 .skip))
def w16_19 := wu b16_19.eq_1
def b16_20 : CC := (.reg [(qq a46 (.ldn 5 z7)), (ee a47 (.call 15 [z46])), (qq a45 (.mv z47)), (qq a48 (.ex 0 z45)), (qq a49 (.ex 1 z45)), (qq a9 (.mv z48)), (qq a10 (.mv z49))])
def w16_20 := wu b16_20.eq_1
def b16_21 : CC := (.reg [(qq a50 (.mv z10)), (qq a51 (.bi .neq z50 (x6 0))), (qq a52 (.mv z51)), ⟨(some a53), .q (.mv z9), (some (a52, false))⟩, ⟨(some a54), .q (.mv z0), (some (a52, false))⟩, ⟨(some a55), .q (.bi .neq z53 z54), (some (a52, false))⟩, (qq a56 (.pk z52 xT z55))])
def w16_21 := wu b16_21.eq_1
def b16_22 : CC := (.reg [(qq a57 (.bld [(.i .i64 0), (.i .i64 0), (.i .i64 0), (.i .i64 0), (.i .i64 0)] [])), (ez (.st 5 z2 z57)), (qq a3 (.mv (x6 4)))])
def w16_22 := wu b16_22.eq_1
def b16_23 : CC := (.cond z56 (.seq b16_22 .ret) .skip)
def w16_23 := wu b16_23.eq_1
def b16_24 : CC := (.reg [(qq a58 (.ldn 5 z7)), (ez (.st 5 z2 z58)), (qq a3 (.mv (x6 0)))])
def w16_24 := wu b16_24.eq_1
def b16_25 : CC := (.seq (.seq b16_20 (.seq b16_21 b16_23)) (.seq b16_24 .ret))
def w16_25 := wu b16_25.eq_1
def b16_26 : CC := (.seq b16_10 (.seq b16_13 (.seq b16_16 (.seq b16_19 b16_25))))
def w16_26 := wu b16_26.eq_1
def b16_27 : CC := (.seq b16_3 (.seq b16_4 (.seq b16_5 (.seq b16_6 (.seq b16_7 b16_26)))))
def w16_27 := wu b16_27.eq_1
def c16 : CF := .mk 6 [.cn a2 5, .t a3] (.seq b16_1 (.seq b16_2 b16_27))
theorem e16 (v0 : V) : argTr 6 [v0] = (.n sk5 (some v0) sk5) := rfl
def B16 := ai @e16 (ai @w16_1 (ai @w16_2 (ai @w16_3 (ai @w16_4 (ai @w16_5 (ai @w16_6 (ai @w16_7 (ai @w16_8 (ai @w16_9 (ai @w16_10 (ai @w16_11 (ai @w16_12 (ai @w16_13 (ai @w16_14 (ai @w16_15 (ai @w16_16 (ai @w16_17 (ai @w16_18 (ai @w16_19 (ai @w16_20 (ai @w16_21 (ai @w16_22 (ai @w16_23 (ai @w16_24 (ai @w16_25 (ai @w16_26 (@w16_27)))))))))))))))))))))))))))
theorem e43' (v0 : V) : argTr 4 [v0] = (.n sk3 (some (v0)) sk3) := rfl
theorem e45' (v0 v1 : V) : argTr 4 [v0, v1] = (.n (.n sk2 (some (v1)) sk2) (some (v0)) sk3) := rfl
def befL (l : List UInt8) : List UInt8 := match fnd 32 l 0 with | some k => l.take k | none => l
def aftL (l : List UInt8) : List UInt8 := match fnd 32 l 0 with | some k => l.drop (k + 1) | none => []
theorem cutV_eq (l : List UInt8) : ∃ z, cutV 32 l = .t [sV (befL l), sV (aftL l), .b z] := by
 unfold cutV befL aftL
 cases fnd 32 l 0 with
 | none => exact ⟨_, rfl⟩
 | some k => exact ⟨_, rfl⟩
theorem befL_len (l : List UInt8) : (befL l).length ≤ l.length := by
 unfold befL
 cases fnd 32 l 0 with
 | none => exact Nat.le_refl _
 | some k => show (l.take k).length ≤ _; rw [List.length_take]; omega
theorem aftL_len (l : List UInt8) : (aftL l).length ≤ l.length := by
 unfold aftL
 cases fnd 32 l 0 with
 | none => exact Nat.zero_le _
 | some k => show (l.drop (k + 1)).length ≤ _; rw [List.length_drop]; omega
theorem trimP_len (l p : List UInt8) : (trimP l p).length ≤ l.length := by
 unfold trimP; split
 · rw [List.length_drop]; omega
 · exact Nat.le_refl _
theorem fnd_word : ∀ (w r : List UInt8) (i : Nat), (∀ x ∈ w, x ≠ 32) → fnd 32 (w ++ 32 :: r) i = some (i + w.length) ∧ fnd 32 w i = none
 | [], r, i, _ => ⟨by simp [fnd], rfl⟩
 | x :: w, r, i, h => by
   obtain ⟨h1, h2⟩ := fnd_word w r (i + 1) fun y hy => h y (List.mem_cons_of_mem _ hy)
   have hx := h x (List.mem_cons_self ..)
   rw [List.cons_append, fnd, if_neg hx, h1, fnd, if_neg hx, h2, List.length_cons]
   exact ⟨by congr 1; omega, rfl⟩
theorem cut_join (w : List UInt8) (ws : List (List UInt8)) (h : ∀ x ∈ w, x ≠ 32) : befL (joinL [32] (w :: ws)) = w ∧ aftL (joinL [32] (w :: ws)) = joinL [32] ws := by
 cases ws with
 | nil =>
   have e : joinL [32] [w] = w := by simp [joinL]
   obtain ⟨_, h2⟩ := fnd_word w [] 0 h
   unfold befL aftL
   rw [e, h2]; exact ⟨rfl, rfl⟩
 | cons x r =>
   have e : joinL [32] (w :: x :: r) = w ++ 32 :: joinL [32] (x :: r) := by simp [joinL]
   obtain ⟨h1, _⟩ := fnd_word w (joinL [32] (x :: r)) 0 h
   unfold befL aftL
   rw [e, h1, Nat.zero_add]
   refine ⟨?_, ?_⟩
   · show (w ++ 32 :: joinL [32] (x :: r)).take w.length = w
     exact List.take_left
   · show (w ++ 32 :: joinL [32] (x :: r)).drop (w.length + 1) = _
     rw [show w ++ 32 :: joinL [32] (x :: r) = (w ++ [32]) ++ joinL [32] (x :: r) by simp, List.drop_left' (by simp)]
theorem r43 (Φ : Nat → Option CF) (h : Φ 43 = some c43) (h44 : Φ 44 = some (.orc (pureO h62))) {F : RO} {M : Mem} {c b : Nat} {l : List UInt8} (hM : M.get b = some (rowB 9 [sV l])) (hl : l.length ≤ 1000000) :
  Calls Φ F 43 [.p b 0] M c fun r M' c' => r = sV (befL l) ∧ M' = M.set b (rowB 9 [sV (aftL l)]) ∧ c' = c := by
 refine calls_walk h ?_
 have l0 : load1 F M b 0 = some (sV l) := load_row hM 0
 obtain ⟨z, hz⟩ := cutV_eq l
 have h1 := h62_eq l 32 (by omega)
 rw [hz] at h1
 have h1' : h62 [sV l, .s 1 32] = some (.t [sV (befL l), sV (aftL l), .b z]) := h1
 have hst := store_row hM 0 [sV (aftL l)] (by simp) rfl
 simp only [WX, B43, e43', l0, h44, h1', show ∀ l, flatten (sV l) = [sV l] from fun _ => rfl, hst]
theorem r45 (Φ : Nat → Option CF) (h : Φ 45 = some c45) (h43 : Φ 43 = some c43) (h44 : Φ 44 = some (.orc (pureO h62))) (h47 : Φ 47 = some (.orc (pureO h65))) (h46 : Φ 46 = some c46) (h63 : Φ 63 = some c63) (h64 : Φ 64 = some c64) (h74 : Φ 74 = some c74) (h75 : Φ 75 = some c75) (h73 : Φ 73 = some c73) (h100 : Φ 100 = some c100) (h101 : Φ 101 = some (.orc (pureO h101))) (h115 : Φ 115 = some (.orc (pureO h115)))
  {F : RO} {M : Mem} {c b b5 : Nat} {l : List UInt8} (ok : Okm F M c) (hE1 : ErrVar F 1) (hE2 : ErrVar F 2) (hlow : ∀ g, g < 1000 → M.get g = none) (hM : M.get b = some (rowB 9 [sV l])) (hb : b < c) (hM5 : M.get b5 = some (rowB 88 [.f 43 [] [.p b 0]])) (hl : l.length ≤ 1000000) (p : List UInt8) :
  Calls Φ F 45 [sV p, .p b5 0] M c fun r M' c' => ∃ z, r = .i .i64 z ∧ ZOf (trimP (befL l) p) z ∧ Gr c (M.set b (rowB 9 [sV (aftL l)])) c' M' := by
 refine calls_walk h ?_
 have l5 : load1 F M b5 0 = some (.f 43 [] [.p b 0]) := load_row hM5 0
 simp only [WX, B45, e45', l5]
 refine putE_to ((r43 Φ h43 h44 hM hl).mono ?_)
 rintro r M1 c1 ⟨rfl, rfl, rfl⟩
 have ok1 := ok.put (y := rowB 9 [sV (aftL l)]) hb hM
 have hlow1 : ∀ g, g < 1000 → (M.set b (rowB 9 [sV (aftL l)])).get g = none := fun g hg => by
  have : g ≠ b := by intro e; subst e; rw [hlow g hg] at hM; cases hM
  rw [get_ne _ _ this]; exact hlow g hg
 simp only [WX, h47, h65_eq]
 have h1 := befL_len l
 have h2 := trimP_len (befL l) p
 refine putE_to ((r46 Φ h46 h63 h64 h74 h75 h73 h100 h101 h115 ok1 hE1 hE2 hlow1 (trimP (befL l) p) (by omega)).mono ?_)
 rintro r M2 c2 ⟨z, e, rfl, hz, hg⟩
 simp only [WX, B45]
 exact ⟨z, rfl, hz, hg⟩
def R4 (op i : Int) : List (List UInt8) := if iI (formI op) = true then [itoa i] else []
def R3 (op b i : Int) : List (List UInt8) := (if bI (formI op) = true then [114 :: itoa b] else []) ++ R4 op i
def R2 (op a b i : Int) : List (List UInt8) := (if aI (formI op) = true then [114 :: itoa a] else []) ++ R3 op b i
def R1 (op d a b i : Int) : List (List UInt8) := (if dI (formI op) = true then [114 :: itoa d] else []) ++ R2 op a b i
theorem words_eq (op d a b i : Int) : wordsT op d a b i = nameB op :: R1 op d a b i := by
 show (([nameB op] ++ (if flagT op 0 = true then [114 :: itoa (numT d a b 0)] else [])) ++ (if flagT op 1 = true then [114 :: itoa (numT d a b 1)] else [])) ++ (if flagT op 2 = true then [114 :: itoa (numT d a b 2)] else []) ++ _ = _
 show (([nameB op] ++ (if dI (formI op) = true then [114 :: itoa d] else [])) ++ (if aI (formI op) = true then [114 :: itoa a] else [])) ++ (if bI (formI op) = true then [114 :: itoa b] else []) ++ (if iI (formI op) = true then [itoa i] else []) = _
 unfold R1 R2 R3 R4
 simp only [List.append_assoc, List.cons_append, List.nil_append]
theorem itoa_no {m : Int} (h1 : -10000000 < m) (h2 : m < 10000000) : ∀ x ∈ itoa m, x ≠ 32 := by
 intro x hx e
 subst e
 have nd : ∀ l : List UInt8, (∀ x ∈ l, isDig x) → (32 : UInt8) ∉ l := fun l h hm => by
  have := h 32 hm
  unfold isDig at this
  rw [show (32 : UInt8).toNat = 32 from rfl] at this; omega
 obtain ⟨_, ⟨_, h3, _⟩ | ⟨_, r, h3, _, h4, _⟩⟩ := itoa_shape h1 h2
 · exact nd _ h3 hx
 · rw [h3] at hx
   rcases List.mem_cons.1 hx with e | hx
   · exact absurd e (by decide)
   · exact nd _ h4 hx
theorem rW_no {m : Int} (h1 : -10000000 < m) (h2 : m < 10000000) : ∀ x ∈ (114 :: itoa m), x ≠ 32 := by
 intro x hx
 rcases List.mem_cons.1 hx with e | hx
 · subst e; decide
 · exact itoa_no h1 h2 x hx
theorem name_no (op : Int) : ∀ x ∈ nameB op, x ≠ 32 := by
 unfold nameB
 split
 · have : ∀ k, k < 29 → ∀ x ∈ (nameL[k]?).getD [], x ≠ 32 := by decide +kernel
   exact this _ (by omega)
 · intro x hx; cases hx
theorem trimP_r (l : List UInt8) : trimP (114 :: l) [114] = l := by
 unfold trimP
 rw [if_pos ⟨by simp, by simp⟩]; rfl
theorem trimP_nil (l : List UInt8) : trimP l [] = l := by
 unfold trimP
 rw [if_pos ⟨Nat.zero_le _, rfl⟩]; rfl
theorem may_regs {op d a b i : Int} (h : mayI op d a b i = true) : (dI (formI op) = false → d = 0) ∧ (aI (formI op) = false → a = 0) ∧ (bI (formI op) = false → b = 0) ∧ (iI (formI op) = false → i = 0) := by
 unfold mayI at h
 simp only [Bool.and_eq_true, Bool.or_eq_true, decide_eq_true_eq] at h
 obtain ⟨h1, h2, h3, h4, h5, h6⟩ := h
 have key : ∀ n, regI false n = true → n = 0 := by
  intro n hh
  unfold regI at hh
  have := of_decide_eq_true hh
  rcases this with h | ⟨h, _⟩
  · exact h
  · cases h
 refine ⟨fun h => key _ (by rw [h] at h3; exact h3), fun h => key _ (by rw [h] at h4; exact h4), fun h => key _ (by rw [h] at h5; exact h5), fun h => ?_⟩
 rcases h6 with h6 | h6
 · exact h6
 · rw [h] at h6; cases h6.1
def h15 : List V → Option V
 | [.g [.i .i64 op, .i .i64 d, .i .i64 a, .i .i64 b, .i .i64 i]] => some (if mayI op d a b i = true then .t [sV (textB op d a b i), .i .i64 0] else .t [.s 0 0, .i .i64 2])
 | _ => none
theorem h15_eq (op d a b i : Int) : h15 [.g [.i .i64 op, .i .i64 d, .i .i64 a, .i .i64 b, .i .i64 i]] = some (if mayI op d a b i = true then .t [sV (textB op d a b i), .i .i64 0] else .t [.s 0 0, .i .i64 2]) := rfl
def ParseP (s : List UInt8) (r : V) : Prop :=
 (∃ op d a b i, mayI op d a b i = true ∧ textB op d a b i = s ∧ r = .t [.g [.i .i64 op, .i .i64 d, .i .i64 a, .i .i64 b, .i .i64 i], .i .i64 0]) ∨
 ((∀ op d a b i, mayI op d a b i = true → textB op d a b i ≠ s) ∧ r = .t [.g [.i .i64 0, .i .i64 0, .i .i64 0, .i .i64 0, .i .i64 0], .i .i64 4])
def PI (F : RO) (M0 M : Mem) (c1 c cb : Nat) (rest : List UInt8) (op d a b i : Int) : Prop :=
 Okm F M c1 ∧ c + 4 ≤ cb ∧ cb < c1 ∧ 1000 ≤ c ∧ M.get c = some (rowB 26 [.i .i64 0, .i .i64 0, .i .i64 0, .i .i64 0, .i .i64 0]) ∧ M.get (c + 1) = some (rowB 9 [sV rest]) ∧ M.get (c + 2) = some (rowB 88 [.f 43 [] [.p (c + 1) 0]]) ∧
 M.get (c + 3) = some (rowB 26 [.i .i64 op, .i .i64 d, .i .i64 a, .i .i64 b, .i .i64 i]) ∧ M.get cb = some (rowB 80 [.b (dI (formI op)), .b (aI (formI op)), .b (bI (formI op)), .b (iI (formI op))]) ∧ (∀ g, g < 1000 → M.get g = none) ∧ rest.length ≤ 1000000 ∧ Gr c M0 c1 M
theorem PI.step {F : RO} {M0 M M' : Mem} {c1 c2 c cb : Nat} {rest : List UInt8} {op d a b i d' a' b' i' : Int} (h : PI F M0 M c1 c cb rest op d a b i) (hg : Gr c1 (M.set (c + 1) (rowB 9 [sV (aftL rest)])) c2 M') :
  PI F M0 (M'.set (c + 3) (rowB 26 [.i .i64 op, .i .i64 d', .i .i64 a', .i .i64 b', .i .i64 i'])) c2 c cb (aftL rest) op d' a' b' i' := by
 obtain ⟨ok, k1, k2, k3, g0, g1, g2, g3, g4, g5, g6, g7⟩ := h
 have ok1 := hg.ok (ok.put (y := rowB 9 [sV (aftL rest)]) (show c + 1 < c1 by omega) g1)
 have o : ∀ x, x < c1 → x ≠ c + 1 → M'.get x = M.get x := fun x hx hn => by rw [hg.old x hx, get_ne _ _ hn]
 have e3 : M'.get (c + 3) = some (rowB 26 [.i .i64 op, .i .i64 d, .i .i64 a, .i .i64 b, .i .i64 i]) := by rw [o (c + 3) (by omega) (by omega)]; exact g3
 have hle := hg.le
 refine ⟨ok1.put (by omega) e3, k1, by omega, k3, ?_, ?_, ?_, get_same _ _ _, ?_, fun g hg' => ?_, Nat.le_trans (aftL_len rest) g6, ((g7.set (c2 := c1) (c + 1) _ (by omega) (by omega) (Nat.le_refl _)).trans hg).set (c2 := c2) (c + 3) _ (by omega) (by omega) (Nat.le_refl _)⟩
 · rw [get_ne _ _ (by omega), o c (by omega) (by omega)]; exact g0
 · rw [get_ne _ _ (by omega), hg.old (c + 1) (by omega), get_same]
 · rw [get_ne _ _ (by omega), o (c + 2) (by omega) (by omega)]; exact g2
 · rw [get_ne _ _ (by omega), o cb (by omega) (by omega)]; exact g4
 · rw [get_ne _ _ (by omega), o g (by omega) (by omega)]; exact g5 g hg'
theorem t16e (Φ : Nat → Option CF) {L : List Tab} (h15 : Φ 15 = some (.orc (pureT L h15))) (h43 : Φ 43 = some c43) (h44 : Φ 44 = some (.orc (pureO h62))) (h45 : Φ 45 = some c45) (h47 : Φ 47 = some (.orc (pureO h65))) (h46 : Φ 46 = some c46) (h63 : Φ 63 = some c63) (h64 : Φ 64 = some c64) (h74 : Φ 74 = some c74) (h75 : Φ 75 = some c75) (h73 : Φ 73 = some c73) (h100 : Φ 100 = some c100) (h101 : Φ 101 = some (.orc (pureO h101))) (h115 : Φ 115 = some (.orc (pureO h115))) {F : RO} {M0 M : Mem} {c c1 cb : Nat} (ht : tabsIn F L = true) (hE1 : ErrVar F 1) (hE2 : ErrVar F 2) {s rest : List UInt8} {op d a b i : Int} (h : PI F M0 M c1 c cb rest op d a b i)
  (HC : ∀ op' d' a' b' i', mayI op' d' a' b' i' = true → textB op' d' a' b' i' = s → op' = op ∧ d' = d ∧ a' = a ∧ b' = b ∧ i' = i) (u : List (Option V)) :
  Wp b16_25 (K Φ none 16 F) (.mk ((.n (.n (.n (.n (uv3 u 31 15 47) (some (.p (c + 3) 0)) (uv3 u 39 23 55)) (some (.i .i64 0)) (uv7 u 35 19 51 11 43 27 59)) (uO u 1) (.n (uv7 u 33 17 49 9 41 25 57) (some (.p (c + 2) 0)) (uv7 u 37 21 53 13 45 29 61))) (some (sV s)) (.n (.n (.n (uv3 u 32 16 48) (some (.p cb 0)) (uv3 u 40 24 56)) (some (.p (c + 1) 0)) (uv7 u 36 20 52 12 44 28 60)) (some (.p c 0)) (.n (uv7 u 34 18 50 10 42 26 58) (some (.f 45 [] [.p (c + 2) 0])) (uv7 u 38 22 54 14 46 30 62))))) [] M c1) (endQ F [.cn (.r .h) 5, .t (.l (.l .h))] fun r M' c' => ParseP s r ∧ Gr c M0 c' M') := by
 obtain ⟨ok, k1, k2, k3, g0, g1, g2, g3, g4, g5, g6, g7⟩ := h
 have hT := fun h args M c => pureT_of ht h args M c
 have li : loadN F M (c + 3) 0 5 = some [.i .i64 op, .i .i64 d, .i .i64 a, .i .i64 b, .i .i64 i] := loadN_row g3 5 rfl
 cases hm : mayI op d a b i with
 | true =>
   have h1 : Ev.h15 [.g [.i .i64 op, .i .i64 d, .i .i64 a, .i .i64 b, .i .i64 i]] = some (.t [sV (textB op d a b i), .i .i64 0]) := by rw [h15_eq, if_pos hm]
   by_cases hs : textB op d a b i = s
   · have e1 : biV .neq (sV (textB op d a b i)) (sV s) = some (.b false) := by rw [bi_sne, decide_eq_true hs]; rfl
     have hst := store_row g0 0 [.i .i64 op, .i .i64 d, .i .i64 a, .i .i64 b, .i .i64 i] (by simp) rfl
     simp only [WX, Nat.reduceAdd, Nat.reduceLeDiff, B16, li, h15, hT, h1, e1, hst, eq_self, ne_eq, not_true_eq_false]
     exact ⟨.inl ⟨op, d, a, b, i, hm, hs, rfl⟩, g7.set (c2 := c1) c _ (Nat.le_refl _) (by omega) (Nat.le_refl _)⟩
   · have e1 : biV .neq (sV (textB op d a b i)) (sV s) = some (.b true) := by rw [bi_sne, decide_eq_false hs]; rfl
     have hst := store_row g0 0 [.i .i64 0, .i .i64 0, .i .i64 0, .i .i64 0, .i .i64 0] (by simp) rfl
     simp only [WX, Nat.reduceAdd, Nat.reduceLeDiff, B16, li, h15, hT, h1, e1, hst, eq_self, ne_eq, not_true_eq_false]
     refine ⟨.inr ⟨fun op' d' a' b' i' hm' hs' => ?_, rfl⟩, g7.set (c2 := c1) c _ (Nat.le_refl _) (by omega) (Nat.le_refl _)⟩
     obtain ⟨rfl, rfl, rfl, rfl, rfl⟩ := HC _ _ _ _ _ hm' hs'
     exact hs hs'
 | false =>
   have h1 : Ev.h15 [.g [.i .i64 op, .i .i64 d, .i .i64 a, .i .i64 b, .i .i64 i]] = some (.t [.s 0 0, .i .i64 2]) := by rw [h15_eq, if_neg (by rw [hm]; decide)]
   have hst := store_row g0 0 [.i .i64 0, .i .i64 0, .i .i64 0, .i .i64 0, .i .i64 0] (by simp) rfl
   simp only [WX, Int.reduceEq, Nat.reduceAdd, Nat.reduceLeDiff, B16, li, h15, hT, h1, hst, eq_self, ne_eq, not_false_eq_true]
   refine ⟨.inr ⟨fun op' d' a' b' i' hm' hs' => ?_, rfl⟩, g7.set (c2 := c1) c _ (Nat.le_refl _) (by omega) (Nat.le_refl _)⟩
   obtain ⟨rfl, rfl, rfl, rfl, rfl⟩ := HC _ _ _ _ _ hm' hs'
   rw [hm] at hm'; cases hm'
theorem t16i (Φ : Nat → Option CF) {L : List Tab} (h15 : Φ 15 = some (.orc (pureT L h15))) (h43 : Φ 43 = some c43) (h44 : Φ 44 = some (.orc (pureO h62))) (h45 : Φ 45 = some c45) (h47 : Φ 47 = some (.orc (pureO h65))) (h46 : Φ 46 = some c46) (h63 : Φ 63 = some c63) (h64 : Φ 64 = some c64) (h74 : Φ 74 = some c74) (h75 : Φ 75 = some c75) (h73 : Φ 73 = some c73) (h100 : Φ 100 = some c100) (h101 : Φ 101 = some (.orc (pureO h101))) (h115 : Φ 115 = some (.orc (pureO h115))) {F : RO} {M0 M : Mem} {c c1 cb : Nat} (ht : tabsIn F L = true) (hE1 : ErrVar F 1) (hE2 : ErrVar F 2) {s rest : List UInt8} {op d a b : Int} (h : PI F M0 M c1 c cb rest op d a b 0)
  (HC : ∀ op' d' a' b' i', mayI op' d' a' b' i' = true → textB op' d' a' b' i' = s → op' = op ∧ d' = d ∧ a' = a ∧ b' = b ∧ rest = joinL [32] (R4 op i')) (u : List (Option V)) :
  Wp b16_19 (K Φ none 16 F) (.mk ((.n (.n (.n (.n (uv3 u 31 15 47) (some (.p (c + 3) 0)) (uv3 u 39 23 55)) (some (.i .i64 0)) (uv7 u 35 19 51 11 43 27 59)) (uO u 1) (.n (uv7 u 33 17 49 9 41 25 57) (some (.p (c + 2) 0)) (uv7 u 37 21 53 13 45 29 61))) (some (sV s)) (.n (.n (.n (uv3 u 32 16 48) (some (.p cb 0)) (uv3 u 40 24 56)) (some (.p (c + 1) 0)) (uv7 u 36 20 52 12 44 28 60)) (some (.p c 0)) (.n (uv7 u 34 18 50 10 42 26 58) (some (.f 45 [] [.p (c + 2) 0])) (uv7 u 38 22 54 14 46 30 62))))) [] M c1) (seqQ b16_25 (K Φ none 16 F) (endQ F [.cn (.r .h) 5, .t (.l (.l .h))] fun r M' c' => ParseP s r ∧ Gr c M0 c' M')) := by
 have hPI := h
 obtain ⟨ok, k1, k2, k3, g0, g1, g2, g3, g4, g5, g6, g7⟩ := h
 have lb : load1 F M cb 3 = some (.b (iI (formI op))) := load_row g4 3
 cases hfl : iI (formI op) with
 | true =>
   rw [hfl] at lb
   simp only [WX, w16_17, w16_18, w16_19, lb]
   refine putE_to ((r45 Φ h45 h43 h44 h47 h46 h63 h64 h74 h75 h73 h100 h101 h115 ok hE1 hE2 g5 g1 (by omega) g2 g6 []).mono ?_)
   rintro r M2 c2 ⟨z, rfl, hz, hg⟩
   have hP := PI.step (d' := d) (a' := a) (b' := b) (i' := z) hPI hg
   have e3 : M2.get (c + 3) = some (rowB 26 [.i .i64 op, .i .i64 d, .i .i64 a, .i .i64 b, .i .i64 0]) := by rw [hg.old (c + 3) (by omega), get_ne _ _ (by omega)]; exact g3
   have hst := store_row e3 4 [.i .i64 z] (by simp) rfl
   simp only [WX, Nat.reduceAdd, hst]
   refine t16e Φ h15 h43 h44 h45 h47 h46 h63 h64 h74 h75 h73 h100 h101 h115 ht hE1 hE2 hP ?_ [none, _, none, none, none, none, none, none, none, _, _, _, _, _, _, _, _, _, _, _, _, _, _, _, _, _, _, _, _, _, _, _, _, _, _, _, _, _, _, _, _, _, _, _, _, _, _, _, _, _, _, _, _, _, _, _, _, _, _, _, _, _, _]
   intro op' d' a' b' i' hm' hs'
   obtain ⟨rfl, rfl, rfl, rfl, e⟩ := HC op' d' a' b' i' hm' hs'
   obtain ⟨m1, m2, m3, m4, m5⟩ := may_num hm'
   have hw : rest = joinL [32] ((itoa i') :: []) := by rw [e, R4, hfl, if_pos rfl] <;> rfl
   have hr : -10000000 < i' ∧ i' < 10000000 := by omega
   obtain ⟨w1, w2⟩ := cut_join (itoa i') ([]) (itoa_no hr.1 hr.2)
   rw [← hw] at w1 w2
   rw [w1, trimP_nil] at hz
   have hzz := hz i' hr.1 hr.2 rfl
   exact ⟨rfl, rfl, rfl, rfl, hzz.symm⟩
 | false =>
   rw [hfl] at lb
   simp only [WX, w16_17, w16_19, lb]
   refine t16e Φ h15 h43 h44 h45 h47 h46 h63 h64 h74 h75 h73 h100 h101 h115 ht hE1 hE2 (rest := rest) hPI ?_ [none, _, none, none, none, none, none, none, none, _, _, _, _, _, _, _, _, _, _, _, _, _, _, _, _, _, _, _, _, _, _, _, _, _, _, _, _, _, _, _, _, _, _, _, _, _, _, _, _, _, _, _, _, _, _, _, _, _, _, _, _, _, _]
   intro op' d' a' b' i' hm' hs'
   obtain ⟨rfl, rfl, rfl, rfl, e⟩ := HC op' d' a' b' i' hm' hs'
   have hz := (may_regs hm').2.2.2 hfl
   exact ⟨rfl, rfl, rfl, rfl, hz⟩
theorem t16b (Φ : Nat → Option CF) {L : List Tab} (h15 : Φ 15 = some (.orc (pureT L h15))) (h43 : Φ 43 = some c43) (h44 : Φ 44 = some (.orc (pureO h62))) (h45 : Φ 45 = some c45) (h47 : Φ 47 = some (.orc (pureO h65))) (h46 : Φ 46 = some c46) (h63 : Φ 63 = some c63) (h64 : Φ 64 = some c64) (h74 : Φ 74 = some c74) (h75 : Φ 75 = some c75) (h73 : Φ 73 = some c73) (h100 : Φ 100 = some c100) (h101 : Φ 101 = some (.orc (pureO h101))) (h115 : Φ 115 = some (.orc (pureO h115))) {F : RO} {M0 M : Mem} {c c1 cb : Nat} (ht : tabsIn F L = true) (hE1 : ErrVar F 1) (hE2 : ErrVar F 2) {s rest : List UInt8} {op d a : Int} (h : PI F M0 M c1 c cb rest op d a 0 0)
  (HC : ∀ op' d' a' b' i', mayI op' d' a' b' i' = true → textB op' d' a' b' i' = s → op' = op ∧ d' = d ∧ a' = a ∧ rest = joinL [32] (R3 op b' i')) (u : List (Option V)) :
  Wp b16_16 (K Φ none 16 F) (.mk ((.n (.n (.n (.n (uv3 u 31 15 47) (some (.p (c + 3) 0)) (uv3 u 39 23 55)) (some (.i .i64 0)) (uv7 u 35 19 51 11 43 27 59)) (uO u 1) (.n (uv7 u 33 17 49 9 41 25 57) (some (.p (c + 2) 0)) (uv7 u 37 21 53 13 45 29 61))) (some (sV s)) (.n (.n (.n (uv3 u 32 16 48) (some (.p cb 0)) (uv3 u 40 24 56)) (some (.p (c + 1) 0)) (uv7 u 36 20 52 12 44 28 60)) (some (.p c 0)) (.n (uv7 u 34 18 50 10 42 26 58) (some (.f 45 [] [.p (c + 2) 0])) (uv7 u 38 22 54 14 46 30 62))))) [] M c1) (seqQ (.seq b16_19 b16_25) (K Φ none 16 F) (endQ F [.cn (.r .h) 5, .t (.l (.l .h))] fun r M' c' => ParseP s r ∧ Gr c M0 c' M')) := by
 have hPI := h
 obtain ⟨ok, k1, k2, k3, g0, g1, g2, g3, g4, g5, g6, g7⟩ := h
 have lb : load1 F M cb 2 = some (.b (bI (formI op))) := load_row g4 2
 cases hfl : bI (formI op) with
 | true =>
   rw [hfl] at lb
   simp only [WX, w16_14, w16_15, w16_16, lb]
   refine putE_to ((r45 Φ h45 h43 h44 h47 h46 h63 h64 h74 h75 h73 h100 h101 h115 ok hE1 hE2 g5 g1 (by omega) g2 g6 [114]).mono ?_)
   rintro r M2 c2 ⟨z, rfl, hz, hg⟩
   have hP := PI.step (d' := d) (a' := a) (b' := z) (i' := 0) hPI hg
   have e3 : M2.get (c + 3) = some (rowB 26 [.i .i64 op, .i .i64 d, .i .i64 a, .i .i64 0, .i .i64 0]) := by rw [hg.old (c + 3) (by omega), get_ne _ _ (by omega)]; exact g3
   have hst := store_row e3 3 [.i .i64 z] (by simp) rfl
   simp only [WX, Nat.reduceAdd, hst]
   refine t16i Φ h15 h43 h44 h45 h47 h46 h63 h64 h74 h75 h73 h100 h101 h115 ht hE1 hE2 hP ?_ [none, _, none, none, none, none, none, none, none, _, _, _, _, _, _, _, _, _, _, _, _, _, _, _, _, _, _, _, _, _, _, _, _, _, _, _, _, _, _, _, _, _, _, _, _, _, _, _, _, _, _, _, _, _, _, _, _, _, _, _, _, _, _]
   intro op' d' a' b' i' hm' hs'
   obtain ⟨rfl, rfl, rfl, e⟩ := HC op' d' a' b' i' hm' hs'
   obtain ⟨m1, m2, m3, m4, m5⟩ := may_num hm'
   have hw : rest = joinL [32] ((114 :: itoa b') :: R4 op' i') := by rw [e, R3, hfl, if_pos rfl] <;> rfl
   have hr : -10000000 < b' ∧ b' < 10000000 := by have := m3 2; rw [show numT d' a' b' 2 = b' from rfl] at this; omega
   obtain ⟨w1, w2⟩ := cut_join (114 :: itoa b') (R4 op' i') (rW_no hr.1 hr.2)
   rw [← hw] at w1 w2
   rw [w1, trimP_r] at hz
   have hzz := hz b' hr.1 hr.2 rfl
   exact ⟨rfl, rfl, rfl, hzz.symm, w2⟩
 | false =>
   rw [hfl] at lb
   simp only [WX, w16_14, w16_16, lb]
   refine t16i Φ h15 h43 h44 h45 h47 h46 h63 h64 h74 h75 h73 h100 h101 h115 ht hE1 hE2 (rest := rest) hPI ?_ [none, _, none, none, none, none, none, none, none, _, _, _, _, _, _, _, _, _, _, _, _, _, _, _, _, _, _, _, _, _, _, _, _, _, _, _, _, _, _, _, _, _, _, _, _, _, _, _, _, _, _, _, _, _, _, _, _, _, _, _, _, _, _]
   intro op' d' a' b' i' hm' hs'
   obtain ⟨rfl, rfl, rfl, e⟩ := HC op' d' a' b' i' hm' hs'
   have hz := (may_regs hm').2.2.1 hfl
   exact ⟨rfl, rfl, rfl, hz, by rw [e, R3, hfl, if_neg (by decide)] <;> rfl⟩
theorem t16a (Φ : Nat → Option CF) {L : List Tab} (h15 : Φ 15 = some (.orc (pureT L h15))) (h43 : Φ 43 = some c43) (h44 : Φ 44 = some (.orc (pureO h62))) (h45 : Φ 45 = some c45) (h47 : Φ 47 = some (.orc (pureO h65))) (h46 : Φ 46 = some c46) (h63 : Φ 63 = some c63) (h64 : Φ 64 = some c64) (h74 : Φ 74 = some c74) (h75 : Φ 75 = some c75) (h73 : Φ 73 = some c73) (h100 : Φ 100 = some c100) (h101 : Φ 101 = some (.orc (pureO h101))) (h115 : Φ 115 = some (.orc (pureO h115))) {F : RO} {M0 M : Mem} {c c1 cb : Nat} (ht : tabsIn F L = true) (hE1 : ErrVar F 1) (hE2 : ErrVar F 2) {s rest : List UInt8} {op d : Int} (h : PI F M0 M c1 c cb rest op d 0 0 0)
  (HC : ∀ op' d' a' b' i', mayI op' d' a' b' i' = true → textB op' d' a' b' i' = s → op' = op ∧ d' = d ∧ rest = joinL [32] (R2 op a' b' i')) (u : List (Option V)) :
  Wp b16_13 (K Φ none 16 F) (.mk ((.n (.n (.n (.n (uv3 u 31 15 47) (some (.p (c + 3) 0)) (uv3 u 39 23 55)) (some (.i .i64 0)) (uv7 u 35 19 51 11 43 27 59)) (uO u 1) (.n (uv7 u 33 17 49 9 41 25 57) (some (.p (c + 2) 0)) (uv7 u 37 21 53 13 45 29 61))) (some (sV s)) (.n (.n (.n (uv3 u 32 16 48) (some (.p cb 0)) (uv3 u 40 24 56)) (some (.p (c + 1) 0)) (uv7 u 36 20 52 12 44 28 60)) (some (.p c 0)) (.n (uv7 u 34 18 50 10 42 26 58) (some (.f 45 [] [.p (c + 2) 0])) (uv7 u 38 22 54 14 46 30 62))))) [] M c1) (seqQ (.seq b16_16 (.seq b16_19 b16_25)) (K Φ none 16 F) (endQ F [.cn (.r .h) 5, .t (.l (.l .h))] fun r M' c' => ParseP s r ∧ Gr c M0 c' M')) := by
 have hPI := h
 obtain ⟨ok, k1, k2, k3, g0, g1, g2, g3, g4, g5, g6, g7⟩ := h
 have lb : load1 F M cb 1 = some (.b (aI (formI op))) := load_row g4 1
 cases hfl : aI (formI op) with
 | true =>
   rw [hfl] at lb
   simp only [WX, w16_11, w16_12, w16_13, lb]
   refine putE_to ((r45 Φ h45 h43 h44 h47 h46 h63 h64 h74 h75 h73 h100 h101 h115 ok hE1 hE2 g5 g1 (by omega) g2 g6 [114]).mono ?_)
   rintro r M2 c2 ⟨z, rfl, hz, hg⟩
   have hP := PI.step (d' := d) (a' := z) (b' := 0) (i' := 0) hPI hg
   have e3 : M2.get (c + 3) = some (rowB 26 [.i .i64 op, .i .i64 d, .i .i64 0, .i .i64 0, .i .i64 0]) := by rw [hg.old (c + 3) (by omega), get_ne _ _ (by omega)]; exact g3
   have hst := store_row e3 2 [.i .i64 z] (by simp) rfl
   simp only [WX, Nat.reduceAdd, hst]
   refine t16b Φ h15 h43 h44 h45 h47 h46 h63 h64 h74 h75 h73 h100 h101 h115 ht hE1 hE2 hP ?_ [none, _, none, none, none, none, none, none, none, _, _, _, _, _, _, _, _, _, _, _, _, _, _, _, _, _, _, _, _, _, _, _, _, _, _, _, _, _, _, _, _, _, _, _, _, _, _, _, _, _, _, _, _, _, _, _, _, _, _, _, _, _, _]
   intro op' d' a' b' i' hm' hs'
   obtain ⟨rfl, rfl, e⟩ := HC op' d' a' b' i' hm' hs'
   obtain ⟨m1, m2, m3, m4, m5⟩ := may_num hm'
   have hw : rest = joinL [32] ((114 :: itoa a') :: R3 op' b' i') := by rw [e, R2, hfl, if_pos rfl] <;> rfl
   have hr : -10000000 < a' ∧ a' < 10000000 := by have := m3 1; rw [show numT d' a' b' 1 = a' from rfl] at this; omega
   obtain ⟨w1, w2⟩ := cut_join (114 :: itoa a') (R3 op' b' i') (rW_no hr.1 hr.2)
   rw [← hw] at w1 w2
   rw [w1, trimP_r] at hz
   have hzz := hz a' hr.1 hr.2 rfl
   exact ⟨rfl, rfl, hzz.symm, w2⟩
 | false =>
   rw [hfl] at lb
   simp only [WX, w16_11, w16_13, lb]
   refine t16b Φ h15 h43 h44 h45 h47 h46 h63 h64 h74 h75 h73 h100 h101 h115 ht hE1 hE2 (rest := rest) hPI ?_ [none, _, none, none, none, none, none, none, none, _, _, _, _, _, _, _, _, _, _, _, _, _, _, _, _, _, _, _, _, _, _, _, _, _, _, _, _, _, _, _, _, _, _, _, _, _, _, _, _, _, _, _, _, _, _, _, _, _, _, _, _, _, _]
   intro op' d' a' b' i' hm' hs'
   obtain ⟨rfl, rfl, e⟩ := HC op' d' a' b' i' hm' hs'
   have hz := (may_regs hm').2.1 hfl
   exact ⟨rfl, rfl, hz, by rw [e, R2, hfl, if_neg (by decide)] <;> rfl⟩
theorem t16d (Φ : Nat → Option CF) {L : List Tab} (h15 : Φ 15 = some (.orc (pureT L h15))) (h43 : Φ 43 = some c43) (h44 : Φ 44 = some (.orc (pureO h62))) (h45 : Φ 45 = some c45) (h47 : Φ 47 = some (.orc (pureO h65))) (h46 : Φ 46 = some c46) (h63 : Φ 63 = some c63) (h64 : Φ 64 = some c64) (h74 : Φ 74 = some c74) (h75 : Φ 75 = some c75) (h73 : Φ 73 = some c73) (h100 : Φ 100 = some c100) (h101 : Φ 101 = some (.orc (pureO h101))) (h115 : Φ 115 = some (.orc (pureO h115))) {F : RO} {M0 M : Mem} {c c1 cb : Nat} (ht : tabsIn F L = true) (hE1 : ErrVar F 1) (hE2 : ErrVar F 2) {s rest : List UInt8} {op : Int} (h : PI F M0 M c1 c cb rest op 0 0 0 0)
  (HC : ∀ op' d' a' b' i', mayI op' d' a' b' i' = true → textB op' d' a' b' i' = s → op' = op ∧ rest = joinL [32] (R1 op d' a' b' i')) (u : List (Option V)) :
  Wp b16_10 (K Φ none 16 F) (.mk ((.n (.n (.n (.n (uv3 u 31 15 47) (some (.p (c + 3) 0)) (uv3 u 39 23 55)) (some (.i .i64 0)) (uv7 u 35 19 51 11 43 27 59)) (uO u 1) (.n (uv7 u 33 17 49 9 41 25 57) (some (.p (c + 2) 0)) (uv7 u 37 21 53 13 45 29 61))) (some (sV s)) (.n (.n (.n (uv3 u 32 16 48) (some (.p cb 0)) (uv3 u 40 24 56)) (some (.p (c + 1) 0)) (uv7 u 36 20 52 12 44 28 60)) (some (.p c 0)) (.n (uv7 u 34 18 50 10 42 26 58) (some (.f 45 [] [.p (c + 2) 0])) (uv7 u 38 22 54 14 46 30 62))))) [] M c1) (seqQ (.seq b16_13 (.seq b16_16 (.seq b16_19 b16_25))) (K Φ none 16 F) (endQ F [.cn (.r .h) 5, .t (.l (.l .h))] fun r M' c' => ParseP s r ∧ Gr c M0 c' M')) := by
 have hPI := h
 obtain ⟨ok, k1, k2, k3, g0, g1, g2, g3, g4, g5, g6, g7⟩ := h
 have lb : load1 F M cb 0 = some (.b (dI (formI op))) := load_row g4 0
 cases hfl : dI (formI op) with
 | true =>
   rw [hfl] at lb
   simp only [WX, w16_8, w16_9, w16_10, lb]
   refine putE_to ((r45 Φ h45 h43 h44 h47 h46 h63 h64 h74 h75 h73 h100 h101 h115 ok hE1 hE2 g5 g1 (by omega) g2 g6 [114]).mono ?_)
   rintro r M2 c2 ⟨z, rfl, hz, hg⟩
   have hP := PI.step (d' := z) (a' := 0) (b' := 0) (i' := 0) hPI hg
   have e3 : M2.get (c + 3) = some (rowB 26 [.i .i64 op, .i .i64 0, .i .i64 0, .i .i64 0, .i .i64 0]) := by rw [hg.old (c + 3) (by omega), get_ne _ _ (by omega)]; exact g3
   have hst := store_row e3 1 [.i .i64 z] (by simp) rfl
   simp only [WX, Nat.reduceAdd, hst]
   refine t16a Φ h15 h43 h44 h45 h47 h46 h63 h64 h74 h75 h73 h100 h101 h115 ht hE1 hE2 hP ?_ [none, _, none, none, none, none, none, none, none, _, _, _, _, _, _, _, _, _, _, _, _, _, _, _, _, _, _, _, _, _, _, _, _, _, _, _, _, _, _, _, _, _, _, _, _, _, _, _, _, _, _, _, _, _, _, _, _, _, _, _, _, _, _]
   intro op' d' a' b' i' hm' hs'
   obtain ⟨rfl, e⟩ := HC op' d' a' b' i' hm' hs'
   obtain ⟨m1, m2, m3, m4, m5⟩ := may_num hm'
   have hw : rest = joinL [32] ((114 :: itoa d') :: R2 op' a' b' i') := by rw [e, R1, hfl, if_pos rfl] <;> rfl
   have hr : -10000000 < d' ∧ d' < 10000000 := by have := m3 0; rw [show numT d' a' b' 0 = d' from rfl] at this; omega
   obtain ⟨w1, w2⟩ := cut_join (114 :: itoa d') (R2 op' a' b' i') (rW_no hr.1 hr.2)
   rw [← hw] at w1 w2
   rw [w1, trimP_r] at hz
   have hzz := hz d' hr.1 hr.2 rfl
   exact ⟨rfl, hzz.symm, w2⟩
 | false =>
   rw [hfl] at lb
   simp only [WX, w16_8, w16_10, lb]
   refine t16a Φ h15 h43 h44 h45 h47 h46 h63 h64 h74 h75 h73 h100 h101 h115 ht hE1 hE2 (rest := rest) hPI ?_ [none, _, none, none, none, none, none, none, none, _, _, _, _, _, _, _, _, _, _, _, _, _, _, _, _, _, _, _, _, _, _, _, _, _, _, _, _, _, _, _, _, _, _, _, _, _, _, _, _, _, _, _, _, _, _, _, _, _, _, _, _, _, _]
   intro op' d' a' b' i' hm' hs'
   obtain ⟨rfl, e⟩ := HC op' d' a' b' i' hm' hs'
   have hz := (may_regs hm').1 hfl
   exact ⟨rfl, hz, by rw [e, R1, hfl, if_neg (by decide)] <;> rfl⟩
theorem r16 (Φ : Nat → Option CF) {L : List Tab} (h15 : Φ 15 = some (.orc (pureT L h15))) (h43 : Φ 43 = some c43) (h44 : Φ 44 = some (.orc (pureO h62))) (h45 : Φ 45 = some c45) (h47 : Φ 47 = some (.orc (pureO h65))) (h46 : Φ 46 = some c46) (h63 : Φ 63 = some c63) (h64 : Φ 64 = some c64) (h74 : Φ 74 = some c74) (h75 : Φ 75 = some c75) (h73 : Φ 73 = some c73) (h100 : Φ 100 = some c100) (h101 : Φ 101 = some (.orc (pureO h101))) (h115 : Φ 115 = some (.orc (pureO h115))) (h : Φ 16 = some c16) (h22 : Φ 22 = some c22) (h52 : Φ 52 = some (.orc (pureO h52))) (h53 : Φ 53 = some (.orc (pureO h53))) (h68 : Φ 68 = some c68) (h25 : Φ 25 = some (.orc (pureO h25))) (h40 : Φ 40 = some (.orc (pureO h40)))
  {F : RO} {M : Mem} {c : Nat} (ok : Okm F M c) (ht : tabsIn F L = true) (hE1 : ErrVar F 1) (hE2 : ErrVar F 2) (hlow : ∀ g, g < 1000 → M.get g = none) (s : List UInt8) (hs : s.length ≤ 1000000) :
  Calls Φ F 16 [sV s] M c fun r M' c' => ParseP s r ∧ Gr c M c' M' := by
 refine calls_walk h ?_
 have hge := ok.ge
 have hS : ∀ l, isOne (sV l) = true := fun _ => rfl
 have hF : ∀ l, flatten (sV l) = [sV l] := fun _ => rfl
 have hF2 : ∀ f a b, flatten (V.f f a b) = [V.f f a b] := fun _ _ _ => rfl
 simp only [WX, Nat.reduceBEq, Nat.reduceAdd, Nat.reduceLeDiff, e16, w16_1, w16_2, w16_3, w16_4, w16_5, w16_6, w16_27, hS, hF, hF2]
 obtain ⟨X, hX⟩ : ∃ X : Mem, X = (((M.set c (rowB 26 [V.i .i64 0, V.i .i64 0, V.i .i64 0, V.i .i64 0, V.i .i64 0])).set (c + 1) (rowB 9 [sV s])).set (c + 2) (rowB 88 [V.f 43 [] [V.p (c + 1) 0]])).set (c + 3) (rowB 26 [V.i .i64 0, V.i .i64 0, V.i .i64 0, V.i .i64 0, V.i .i64 0]) := ⟨_, rfl⟩
 rw [← hX]
 have grX : Gr c M (c + 4) X := by
  rw [hX]
  exact ((((Gr.refl ok).set c _ (Nat.le_refl _) (Nat.lt_succ_self _) (Nat.le_succ _)).set (c + 1) _ (by omega) (show c + 1 < c + 2 by omega) (by omega)).set (c + 2) _ (by omega) (show c + 2 < c + 3 by omega) (by omega)).set (c + 3) _ (by omega) (by omega) (by omega)
 have okX := grX.ok ok
 have x0 : X.get c = some (rowB 26 [.i .i64 0, .i .i64 0, .i .i64 0, .i .i64 0, .i .i64 0]) := by rw [hX, get_ne _ _ (by omega), get_ne _ _ (by omega), get_ne _ _ (by omega), get_same]
 have x1 : X.get (c + 1) = some (rowB 9 [sV s]) := by rw [hX, get_ne _ _ (by omega), get_ne _ _ (by omega), get_same]
 have x2 : X.get (c + 2) = some (rowB 88 [.f 43 [] [.p (c + 1) 0]]) := by rw [hX, get_ne _ _ (by omega), get_same]
 have x3 : X.get (c + 3) = some (rowB 26 [.i .i64 0, .i .i64 0, .i .i64 0, .i .i64 0, .i .i64 0]) := by rw [hX, get_same]
 have xl : ∀ g, g < 1000 → X.get g = none := fun g hg => by rw [grX.old g (by omega)]; exact hlow g hg
 clear hX
 refine putE_to ((r43 Φ h43 h44 x1 hs).mono ?_)
 rintro r M1 c1 ⟨rfl, rfl, rfl⟩
 have ok1 := okX.put (y := rowB 9 [sV (aftL s)]) (show c + 1 < c + 4 by omega) x1
 simp only [WX]
 refine putE_to ((r22 Φ h22 h52 h53 h68 (befL s) ok1).mono ?_)
 rintro r M2 c2 ⟨⟨op, b, rfl, hfd⟩, hg⟩
 have ok2 := hg.ok ok1
 have o : ∀ x, x < c + 4 → x ≠ c + 1 → M2.get x = X.get x := fun x hx hn => by rw [hg.old x hx, get_ne _ _ hn]
 have hle := hg.le
 have e3 : M2.get (c + 3) = some (rowB 26 [.i .i64 0, .i .i64 0, .i .i64 0, .i .i64 0, .i .i64 0]) := by rw [o _ (by omega) (by omega)]; exact x3
 have hst := store_row e3 0 [.i .i64 op] (by simp) rfl
 have ld3 : load1 F (M2.set (c + 3) (rowB 26 (over [.i .i64 0, .i .i64 0, .i .i64 0, .i .i64 0, .i .i64 0] 0 [.i .i64 op]))) (c + 3) 0 = some (.i .i64 op) := load_row (get_same _ _ _) 0
 rw [show over [V.i .i64 0, V.i .i64 0, V.i .i64 0, V.i .i64 0, V.i .i64 0] 0 [V.i .i64 op] = [.i .i64 op, .i .i64 0, .i .i64 0, .i .i64 0, .i .i64 0] from rfl] at ld3
 simp only [WX, Nat.reduceAdd, Nat.reduceLeDiff, w16_7, hst, ld3, h25, h25_eq, h40, h40_eq]
 have gY : Gr c2 (M2.set (c + 3) (rowB 26 [.i .i64 op, .i .i64 0, .i .i64 0, .i .i64 0, .i .i64 0])) (c2 + 1) ((M2.set (c + 3) (rowB 26 [.i .i64 op, .i .i64 0, .i .i64 0, .i .i64 0, .i .i64 0])).set c2 (rowB 80 [.b (dI (formI op)), .b (aI (formI op)), .b (bI (formI op)), .b (iI (formI op))])) :=
  (Gr.refl (ok2.put (by omega) e3)).set c2 _ (Nat.le_refl _) (Nat.lt_succ_self _) (Nat.le_succ _)
 have okY := gY.ok (ok2.put (by omega) e3)
 have hPI : PI F M ((M2.set (c + 3) (rowB 26 [.i .i64 op, .i .i64 0, .i .i64 0, .i .i64 0, .i .i64 0])).set c2 (rowB 80 [.b (dI (formI op)), .b (aI (formI op)), .b (bI (formI op)), .b (iI (formI op))])) (c2 + 1) c c2 (aftL s) op 0 0 0 0 := by
  refine ⟨okY, by omega, by omega, hge, ?_, ?_, ?_, ?_, get_same _ _ _, fun g hg' => ?_, Nat.le_trans (aftL_len s) hs, ((((grX.set (c2 := c + 4) (c + 1) _ (by omega) (by omega) (Nat.le_refl _)).trans hg).set (c2 := c2) (c + 3) _ (by omega) (by omega) (Nat.le_refl _))).set (c2 := c2 + 1) c2 _ (by omega) (by omega) (by omega)⟩
  · rw [get_ne _ _ (by omega), get_ne _ _ (by omega), o c (by omega) (by omega)]; exact x0
  · rw [get_ne _ _ (by omega), get_ne _ _ (by omega), hg.old (c + 1) (by omega), get_same]
  · rw [get_ne _ _ (by omega), get_ne _ _ (by omega), o (c + 2) (by omega) (by omega)]; exact x2
  · rw [get_ne _ _ (by omega), get_same]
  · rw [get_ne _ _ (by omega), get_ne _ _ (by omega), o g (by omega) (by omega)]; exact xl g hg'
 simp only [WX, w16_26]
 refine t16d Φ h15 h43 h44 h45 h47 h46 h63 h64 h74 h75 h73 h100 h101 h115 ht hE1 hE2 hPI ?_ [none, _, none, none, none, none, none, none, none, _, _, _, _, _, _, _, _, _, _, _, _, _, _, _, _, _, _, _, _, _, _, _, _, _, _, _, _, _, _, _, _, _, _, _, _, _, _, _, _, _, _, _, _, _, _, _, _, _, _, _, _, _, _]
 intro op' d' a' b' i' hm' hs'
 have hw : s = joinL [32] (nameB op' :: R1 op' d' a' b' i') := by rw [← words_eq]; exact hs'.symm
 obtain ⟨w1, w2⟩ := cut_join (nameB op') (R1 op' d' a' b' i') (name_no op')
 rw [← hw] at w1 w2
 obtain ⟨n1, n2, _⟩ := may_num hm'
 have hN : IsN (nameB op') op'.toNat := by
  unfold IsN nameB
  rw [if_pos ⟨n1, n2⟩, List.getElem?_eq_getElem (show op'.toNat < nameL.length by rw [nameL_len]; omega)]
  exact ⟨by omega, rfl⟩
 rw [w1] at hfd
 rcases hfd with ⟨k, hk, rfl, _⟩ | ⟨hk, _⟩
 · have := isN_uniq hN hk
   have he : op' = (k : Int) := by omega
   subst he
   exact ⟨rfl, w2⟩
 · exact absurd hN (hk _)
def b18_1 : CC := (.reg [(aa a1 (.bx 26 5 z0)), (qq a2 (.mv (.c (.s 0 0))))])
def w18_1 := wu b18_1.eq_1
def b18_2 : CC := (.reg [(qq a9 (.fa 0 z1)), (qq a10 (.ld1 z9)), (ee a11 (.call 26 [z10])), (ee a12 (.call 38 [z11])), (qq a8 (.mv z12)), (qq a13 (.ex 0 z8)), (qq a14 (.ex 1 z8)), (qq a15 (.ex 2 z8)), (qq a16 (.ex 3 z8)), (qq a3 (.mv z13)), (qq a4 (.mv z14)), (qq a5 (.mv z15)), (qq a6 (.mv z16))])
def w18_2 := wu b18_2.eq_1
def b18_3 : CC := (.dreg 6 [(1, 0, (qq a18 (.fa 0 z1))), (2, 2, (qq a19 (.ld1 z18))), (0, 0, (ee a17 (.call 23 []))), (3, 7, (qq a20 (.iaS 1 z17 z19))), (4, 15, (qq a21 (.ld1 z20))), (5, 31, (qq a7 (.mv z21)))])
def w18_3 := wu b18_3.eq_1
def b18_4 : CC := (.reg [(qq a22 (.mv z3))])
def w18_4 := wu b18_4.eq_1
def b18_5 : CC := (.reg [(qq a23 (.mv z7)), (qq a24 (.bi .add z23 (.c (.s 2 29216)))), (qq a25 (.fa 1 z1)), (qq a26 (.ld1 z25)), (ee a27 (.call 41 [z26])), (qq a28 (.bi .add z24 z27)), (qq a7 (.mv z28))])
def w18_5 := wu b18_5.eq_1
def b18_6 : CC := (.seq b18_4 (.cond z22 b18_5 .skip))
def w18_6 := wu b18_6.eq_1
def b18_7 : CC := (.reg [(qq a29 (.mv z4))])
def w18_7 := wu b18_7.eq_1
def b18_8 : CC := (.reg [(qq a30 (.mv z7)), (qq a31 (.bi .add z30 (.c (.s 2 29216)))), (qq a32 (.fa 2 z1)), (qq a33 (.ld1 z32)), (ee a34 (.call 41 [z33])), (qq a35 (.bi .add z31 z34)), (qq a7 (.mv z35))])
def w18_8 := wu b18_8.eq_1
def b18_9 : CC := (.seq b18_7 (.cond z29 b18_8 .skip))
def w18_9 := wu b18_9.eq_1
def b18_10 : CC := (.reg [(qq a36 (.mv z5))])
def w18_10 := wu b18_10.eq_1
def b18_11 : CC := (.reg [(qq a37 (.mv z7)), (qq a38 (.bi .add z37 (.c (.s 2 29216)))), (qq a39 (.fa 3 z1)), (qq a40 (.ld1 z39)), (ee a41 (.call 41 [z40])), (qq a42 (.bi .add z38 z41)), (qq a7 (.mv z42))])
def w18_11 := wu b18_11.eq_1
def b18_12 : CC := (.seq b18_10 (.cond z36 b18_11 .skip))
def w18_12 := wu b18_12.eq_1
def b18_13 : CC := (.reg [(qq a43 (.mv z6))])
def w18_13 := wu b18_13.eq_1
def b18_14 : CC := (.reg [(qq a44 (.mv z7)), (qq a45 (.bi .add z44 (.c (.s 1 32)))), (qq a46 (.fa 4 z1)), (qq a47 (.ld1 z46)), (ee a48 (.call 41 [z47])), (qq a49 (.bi .add z45 z48)), (qq a7 (.mv z49))])
def w18_14 := wu b18_14.eq_1
def b18_15 : CC := (.seq b18_13 (.cond z43 b18_14 .skip))
def w18_15 := wu b18_15.eq_1
def b18_16 : CC := (.reg [(qq a50 (.mv z7)), (qq a2 (.mv z50))])
def w18_16 := wu b18_16.eq_1
def b18_17 : CC := (.seq b18_6 (.seq b18_9 (.seq b18_12 (.seq b18_15 (.seq b18_16 .ret)))))
def w18_17 := wu b18_17.eq_1
def c18 : CF := .mk 6 [.t a2] (.seq b18_1 (.seq b18_2 (.seq b18_3 b18_17)))
theorem e18 (v0 : V) : argTr 6 [v0] = (.n sk5 (some v0) sk5) := rfl
def B18 := ai @e18 (ai @w18_1 (ai @w18_2 (ai @w18_3 (ai @w18_4 (ai @w18_5 (ai @w18_6 (ai @w18_7 (ai @w18_8 (ai @w18_9 (ai @w18_10 (ai @w18_11 (ai @w18_12 (ai @w18_13 (ai @w18_14 (ai @w18_15 (ai @w18_16 (@w18_17)))))))))))))))))
def namesBlk : Blk := rowD [.s 0 0] 9 (nameL.map sV)
theorem r23' (Φ : Nat → Option CF) (h : Φ 23 = some c23) {F : RO} {M : Mem} {c : Nat} : callC (den Φ) F 23 [] M c (Φ 23) = .k (.l c 0 29 29) (M.set c namesBlk) (c + 1) := by
 have hk : Calls Φ F 23 [] M c fun r M' c' => r = .l c 0 29 29 ∧ M' = M.set c namesBlk ∧ c' = c + 1 := by
  refine calls_walk h ?_
  simp only [WX, Nat.reduceAdd, B23]
  rfl
 obtain ⟨v, M', c', e, rfl, rfl, rfl⟩ := hk
 exact e
theorem names_at {F : RO} {M : Mem} {b c : Nat} (h : M.get b = some namesBlk) (hb : b < c) : SlAt F M c 1 (.l b 0 29 29) (strE nameL) := by
 refine slD (d := [.s 0 0]) (ty := 9) ?_ hb (fun e he => by obtain ⟨x, _, rfl⟩ := List.mem_map.1 he; rfl) rfl
 rw [h]; rfl
def sufL (l : List (List UInt8)) : List UInt8 := (l.map fun x => [32] ++ x).flatten
theorem sufL_append (a b : List (List UInt8)) : sufL (a ++ b) = sufL a ++ sufL b := by simp [sufL]
theorem sufL_nil : sufL [] = [] := rfl
theorem sufL_one (x : List UInt8) : sufL [x] = 32 :: x := by simp [sufL]
theorem t18i (Φ : Nat → Option CF) {L : List Tab} (h41 : Φ 41 = some (.orc (pureT L h58))) {F : RO} {M : Mem} {c1 cb : Nat} (ht : tabsIn F L = true) {op d a b i : Int} (hM : M.get cb = some (rowB 26 [.i .i64 op, .i .i64 d, .i .i64 a, .i .i64 b, .i .i64 i])) (hm : mayI op d a b i = true) {fd fa fb fi : Bool} (hfd : fd = dI (formI op)) (hfa : fa = aI (formI op)) (hfb : fb = bI (formI op)) (hfi : fi = iI (formI op)) (w : List UInt8) (hw : w.length ≤ 100) (u : List (Option V)) :
  Wp b18_15 (K Φ none 18 F) (.mk ((.n (.n (.n (.n (uv3 u 31 15 47) (some (sV w)) (uv3 u 39 23 55)) (some (.b fd)) (uv7 u 35 19 51 11 43 27 59)) (some (.p cb 0)) (.n (uv7 u 33 17 49 9 41 25 57) (some (.b fb)) (uv7 u 37 21 53 13 45 29 61))) (uO u 0) (.n (.n (uv7 u 32 16 48 8 40 24 56) (some (.b fa)) (uv7 u 36 20 52 12 44 28 60)) (uO u 2) (.n (uv7 u 34 18 50 10 42 26 58) (some (.b fi)) (uv7 u 38 22 54 14 46 30 62))))) [] M c1) (seqQ (.seq b18_16 .ret) (K Φ none 18 F) (endQ F [.t (.r .h)] fun r _ _ => r = sV (w ++ sufL (R4 op i)))) := by
 have hT := fun h args M c => pureT_of ht h args M c
 obtain ⟨n1, n2, n3, n4, n5⟩ := may_num hm
 have lf : load1 F M cb 4 = some (.i .i64 i) := load_row hM 4
 have hr : -10000000 < i ∧ i < 10000000 := by omega
 have hc1 : biV .add (sV w) (.s 1 32) = some (sV (w ++ [32])) := bi_scat w [32] (by simp; omega)
 have hc2 : biV .add (sV (w ++ [32])) (sV (itoa i)) = some (sV (w ++ [32] ++ itoa i)) := bi_scat _ _ (by have := itoa_len i; simp; omega)
 cases fi with
 | true =>
   simp only [WX, B18, lf, hc1, h41, hT, h58_eq hr.1 hr.2, hc2]
   rw [R4, ← hfi, if_pos rfl, sufL_one, List.append_assoc]; rfl
 | false =>
   simp only [WX, B18]
   rw [R4, ← hfi, if_neg (by decide), sufL_nil, List.append_nil]
theorem t18b (Φ : Nat → Option CF) {L : List Tab} (h41 : Φ 41 = some (.orc (pureT L h58))) {F : RO} {M : Mem} {c1 cb : Nat} (ht : tabsIn F L = true) {op d a b i : Int} (hM : M.get cb = some (rowB 26 [.i .i64 op, .i .i64 d, .i .i64 a, .i .i64 b, .i .i64 i])) (hm : mayI op d a b i = true) {fd fa fb fi : Bool} (hfd : fd = dI (formI op)) (hfa : fa = aI (formI op)) (hfb : fb = bI (formI op)) (hfi : fi = iI (formI op)) (w : List UInt8) (hw : w.length ≤ 80) (u : List (Option V)) :
  Wp b18_12 (K Φ none 18 F) (.mk ((.n (.n (.n (.n (uv3 u 31 15 47) (some (sV w)) (uv3 u 39 23 55)) (some (.b fd)) (uv7 u 35 19 51 11 43 27 59)) (some (.p cb 0)) (.n (uv7 u 33 17 49 9 41 25 57) (some (.b fb)) (uv7 u 37 21 53 13 45 29 61))) (uO u 0) (.n (.n (uv7 u 32 16 48 8 40 24 56) (some (.b fa)) (uv7 u 36 20 52 12 44 28 60)) (uO u 2) (.n (uv7 u 34 18 50 10 42 26 58) (some (.b fi)) (uv7 u 38 22 54 14 46 30 62))))) [] M c1) (seqQ (.seq b18_15 (.seq b18_16 .ret)) (K Φ none 18 F) (endQ F [.t (.r .h)] fun r _ _ => r = sV (w ++ sufL (R3 op b i)))) := by
 have hT := fun h args M c => pureT_of ht h args M c
 obtain ⟨n1, n2, n3, n4, n5⟩ := may_num hm
 have lf : load1 F M cb 3 = some (.i .i64 b) := load_row hM 3
 have hr : -10000000 < b ∧ b < 10000000 := by have := n3 2; rw [show numT d a b 2 = b from rfl] at this; omega
 have hc1 : biV .add (sV w) (.s 2 29216) = some (sV (w ++ [32, 114])) := bi_scat w [32, 114] (by simp; omega)
 have hc2 : biV .add (sV (w ++ [32, 114])) (sV (itoa b)) = some (sV (w ++ [32, 114] ++ itoa b)) := bi_scat _ _ (by have := itoa_len b; simp; omega)
 cases fb with
 | true =>
   simp only [WX, w18_10, w18_11, w18_12, lf, hc1, h41, hT, h58_eq hr.1 hr.2, hc2]
   rw [show w ++ sufL (R3 op b i) = (w ++ [32, 114] ++ itoa b) ++ sufL (R4 op i) by rw [R3, ← hfb, if_pos rfl, sufL_append, sufL_one]; simp]
   exact t18i (c1 := c1) Φ h41 ht hM hm hfd hfa hfb hfi (w ++ [32, 114] ++ itoa b) (by have := itoa_len b; simp; omega) [_, none, _, none, none, none, none, none, _, _, _, _, _, _, _, _, _, _, _, _, _, _, _, _, _, _, _, _, _, _, _, _, _, _, _, _, _, _, _, _, _, _, _, _, _, _, _, _, _, _, _, _, _, _, _, _, _, _, _, _, _, _, _]
 | false =>
   simp only [WX, w18_10, w18_12]
   rw [show w ++ sufL (R3 op b i) = w ++ sufL (R4 op i) by rw [R3, ← hfb, if_neg (by decide), List.nil_append]]
   exact t18i (c1 := c1) Φ h41 ht hM hm hfd hfa hfb hfi w (by omega) [_, none, _, none, none, none, none, none, _, _, _, _, _, _, _, _, _, _, _, _, _, _, _, _, _, _, _, _, _, _, _, _, _, _, _, _, _, _, _, _, _, _, _, _, _, _, _, _, _, _, _, _, _, _, _, _, _, _, _, _, _, _, _]
theorem t18a (Φ : Nat → Option CF) {L : List Tab} (h41 : Φ 41 = some (.orc (pureT L h58))) {F : RO} {M : Mem} {c1 cb : Nat} (ht : tabsIn F L = true) {op d a b i : Int} (hM : M.get cb = some (rowB 26 [.i .i64 op, .i .i64 d, .i .i64 a, .i .i64 b, .i .i64 i])) (hm : mayI op d a b i = true) {fd fa fb fi : Bool} (hfd : fd = dI (formI op)) (hfa : fa = aI (formI op)) (hfb : fb = bI (formI op)) (hfi : fi = iI (formI op)) (w : List UInt8) (hw : w.length ≤ 60) (u : List (Option V)) :
  Wp b18_9 (K Φ none 18 F) (.mk ((.n (.n (.n (.n (uv3 u 31 15 47) (some (sV w)) (uv3 u 39 23 55)) (some (.b fd)) (uv7 u 35 19 51 11 43 27 59)) (some (.p cb 0)) (.n (uv7 u 33 17 49 9 41 25 57) (some (.b fb)) (uv7 u 37 21 53 13 45 29 61))) (uO u 0) (.n (.n (uv7 u 32 16 48 8 40 24 56) (some (.b fa)) (uv7 u 36 20 52 12 44 28 60)) (uO u 2) (.n (uv7 u 34 18 50 10 42 26 58) (some (.b fi)) (uv7 u 38 22 54 14 46 30 62))))) [] M c1) (seqQ (.seq b18_12 (.seq b18_15 (.seq b18_16 .ret))) (K Φ none 18 F) (endQ F [.t (.r .h)] fun r _ _ => r = sV (w ++ sufL (R2 op a b i)))) := by
 have hT := fun h args M c => pureT_of ht h args M c
 obtain ⟨n1, n2, n3, n4, n5⟩ := may_num hm
 have lf : load1 F M cb 2 = some (.i .i64 a) := load_row hM 2
 have hr : -10000000 < a ∧ a < 10000000 := by have := n3 1; rw [show numT d a b 1 = a from rfl] at this; omega
 have hc1 : biV .add (sV w) (.s 2 29216) = some (sV (w ++ [32, 114])) := bi_scat w [32, 114] (by simp; omega)
 have hc2 : biV .add (sV (w ++ [32, 114])) (sV (itoa a)) = some (sV (w ++ [32, 114] ++ itoa a)) := bi_scat _ _ (by have := itoa_len a; simp; omega)
 cases fa with
 | true =>
   simp only [WX, w18_7, w18_8, w18_9, lf, hc1, h41, hT, h58_eq hr.1 hr.2, hc2]
   rw [show w ++ sufL (R2 op a b i) = (w ++ [32, 114] ++ itoa a) ++ sufL (R3 op b i) by rw [R2, ← hfa, if_pos rfl, sufL_append, sufL_one]; simp]
   exact t18b (c1 := c1) Φ h41 ht hM hm hfd hfa hfb hfi (w ++ [32, 114] ++ itoa a) (by have := itoa_len a; simp; omega) [_, none, _, none, none, none, none, none, _, _, _, _, _, _, _, _, _, _, _, _, _, _, _, _, _, _, _, _, _, _, _, _, _, _, _, _, _, _, _, _, _, _, _, _, _, _, _, _, _, _, _, _, _, _, _, _, _, _, _, _, _, _, _]
 | false =>
   simp only [WX, w18_7, w18_9]
   rw [show w ++ sufL (R2 op a b i) = w ++ sufL (R3 op b i) by rw [R2, ← hfa, if_neg (by decide), List.nil_append]]
   exact t18b (c1 := c1) Φ h41 ht hM hm hfd hfa hfb hfi w (by omega) [_, none, _, none, none, none, none, none, _, _, _, _, _, _, _, _, _, _, _, _, _, _, _, _, _, _, _, _, _, _, _, _, _, _, _, _, _, _, _, _, _, _, _, _, _, _, _, _, _, _, _, _, _, _, _, _, _, _, _, _, _, _, _]
theorem t18d (Φ : Nat → Option CF) {L : List Tab} (h41 : Φ 41 = some (.orc (pureT L h58))) {F : RO} {M : Mem} {c1 cb : Nat} (ht : tabsIn F L = true) {op d a b i : Int} (hM : M.get cb = some (rowB 26 [.i .i64 op, .i .i64 d, .i .i64 a, .i .i64 b, .i .i64 i])) (hm : mayI op d a b i = true) {fd fa fb fi : Bool} (hfd : fd = dI (formI op)) (hfa : fa = aI (formI op)) (hfb : fb = bI (formI op)) (hfi : fi = iI (formI op)) (w : List UInt8) (hw : w.length ≤ 40) (u : List (Option V)) :
  Wp b18_6 (K Φ none 18 F) (.mk ((.n (.n (.n (.n (uv3 u 31 15 47) (some (sV w)) (uv3 u 39 23 55)) (some (.b fd)) (uv7 u 35 19 51 11 43 27 59)) (some (.p cb 0)) (.n (uv7 u 33 17 49 9 41 25 57) (some (.b fb)) (uv7 u 37 21 53 13 45 29 61))) (uO u 0) (.n (.n (uv7 u 32 16 48 8 40 24 56) (some (.b fa)) (uv7 u 36 20 52 12 44 28 60)) (uO u 2) (.n (uv7 u 34 18 50 10 42 26 58) (some (.b fi)) (uv7 u 38 22 54 14 46 30 62))))) [] M c1) (seqQ (.seq b18_9 (.seq b18_12 (.seq b18_15 (.seq b18_16 .ret)))) (K Φ none 18 F) (endQ F [.t (.r .h)] fun r _ _ => r = sV (w ++ sufL (R1 op d a b i)))) := by
 have hT := fun h args M c => pureT_of ht h args M c
 obtain ⟨n1, n2, n3, n4, n5⟩ := may_num hm
 have lf : load1 F M cb 1 = some (.i .i64 d) := load_row hM 1
 have hr : -10000000 < d ∧ d < 10000000 := by have := n3 0; rw [show numT d a b 0 = d from rfl] at this; omega
 have hc1 : biV .add (sV w) (.s 2 29216) = some (sV (w ++ [32, 114])) := bi_scat w [32, 114] (by simp; omega)
 have hc2 : biV .add (sV (w ++ [32, 114])) (sV (itoa d)) = some (sV (w ++ [32, 114] ++ itoa d)) := bi_scat _ _ (by have := itoa_len d; simp; omega)
 cases fd with
 | true =>
   simp only [WX, w18_4, w18_5, w18_6, lf, hc1, h41, hT, h58_eq hr.1 hr.2, hc2]
   rw [show w ++ sufL (R1 op d a b i) = (w ++ [32, 114] ++ itoa d) ++ sufL (R2 op a b i) by rw [R1, ← hfd, if_pos rfl, sufL_append, sufL_one]; simp]
   exact t18a (c1 := c1) Φ h41 ht hM hm hfd hfa hfb hfi (w ++ [32, 114] ++ itoa d) (by have := itoa_len d; simp; omega) [_, none, _, none, none, none, none, none, _, _, _, _, _, _, _, _, _, _, _, _, _, _, _, _, _, _, _, _, _, _, _, _, _, _, _, _, _, _, _, _, _, _, _, _, _, _, _, _, _, _, _, _, _, _, _, _, _, _, _, _, _, _, _]
 | false =>
   simp only [WX, w18_4, w18_6]
   rw [show w ++ sufL (R1 op d a b i) = w ++ sufL (R2 op a b i) by rw [R1, ← hfd, if_neg (by decide), List.nil_append]]
   exact t18a (c1 := c1) Φ h41 ht hM hm hfd hfa hfb hfi w (by omega) [_, none, _, none, none, none, none, none, _, _, _, _, _, _, _, _, _, _, _, _, _, _, _, _, _, _, _, _, _, _, _, _, _, _, _, _, _, _, _, _, _, _, _, _, _, _, _, _, _, _, _, _, _, _, _, _, _, _, _, _, _, _, _]
theorem r18 (Φ : Nat → Option CF) (h : Φ 18 = some c18) {L : List Tab} (h41 : Φ 41 = some (.orc (pureT L h58))) (h26 : Φ 26 = some (.orc (pureO h25))) (h38 : Φ 38 = some (.orc (pureO h38))) (h23 : Φ 23 = some c23) {F : RO} {M : Mem} {c : Nat} (ok : Okm F M c) (ht : tabsIn F L = true) (op d a b i : Int) (hm : mayI op d a b i = true) :
  Calls Φ F 18 [.g [.i .i64 op, .i .i64 d, .i .i64 a, .i .i64 b, .i .i64 i]] M c fun r _ _ => r = sV (textB op d a b i) := by
 refine calls_walk h ?_
 obtain ⟨n1, n2, n3, n4, n5⟩ := may_num hm
 have grX : Gr c M (c + 1) (M.set c (rowB 26 [.i .i64 op, .i .i64 d, .i .i64 a, .i .i64 b, .i .i64 i])) := (Gr.refl ok).set c _ (Nat.le_refl _) (Nat.lt_succ_self _) (Nat.le_succ _)
 simp only [WX, Nat.reduceAdd, e18, w18_1, w18_2, w18_3, h26, h25_eq, h38, h38_eq]
 have okX : Okm F (M.set c (rowB 26 [.i .i64 op, .i .i64 d, .i .i64 a, .i .i64 b, .i .i64 i])) (c + 1 + 6) := (grX.up (by omega)).ok ok
 refine wd_alloc (v := .l (c + 1 + 6) 0 29 29) (blk := namesBlk) _ _ _ _ _ _ _ _ _ _ _ okX (fun F' M' => r23' Φ h23) ?_
 intro N hN hNo
 obtain ⟨bb, oo, _, hia, hld⟩ := str_at (names_at (F := F) (c := c + 1 + 6 + 1) hN (by omega)) op.toNat (by rw [nameL_len]; omega)
 have hia := hia .i64
 rw [show ((op.toNat : Nat) : Int) = op by omega] at hia
 have hnb : nameL[op.toNat]'(by rw [nameL_len]; omega) = nameB op := by
  unfold nameB
  rw [if_pos ⟨n1, n2⟩, List.getElem?_eq_getElem (show op.toNat < nameL.length by rw [nameL_len]; omega)]; rfl
 rw [hnb] at hld
 simp only [WX, Nat.reduceAdd, w18_17, hia, hld]
 have hNc : N.get c = some (rowB 26 [.i .i64 op, .i .i64 d, .i .i64 a, .i .i64 b, .i .i64 i]) := by rw [hNo c (by omega), get_same]
 rw [show textB op d a b i = nameB op ++ sufL (R1 op d a b i) by rw [textB, words_eq]; rfl]
 exact t18d Φ h41 ht hNc hm rfl rfl rfl rfl (nameB op) (by have := nameB_len op; omega) [_, none, _, none, none, none, none, none, _, _, _, _, _, _, _, _, _, _, _, _, _, _, _, _, _, _, _, _, _, _, _, _, _, _, _, _, _, _, _, _, _, _, _, _, _, _, _, _, _, _, _, _, _, _, _, _, _, _, _, _, _, _, _]
def b48_1 : CC := (.reg [(qq a4 (.mv (x6 0)))])
def b48_2 : CC := (.reg [(qq a5 (.mv (x6 0)))])
def b48_3 : CC := (.reg [(qq a6 (.mv z5)), (qq a7 (.mv z0)), (qq a8 (.ln .str z7)), (qq a9 (.bi .leq z6 z8)), (qq a10 (.mv z9)), ⟨(some a11), .q (.mv z3), (some (a10, true))⟩, ⟨(some a12), .q (.ln .slice z11), (some (a10, true))⟩, ⟨(some a13), .q (.bi .lss z12 (x6 9)), (some (a10, true))⟩, (qq a14 (.pk z10 z13 xF))])
def b48_4 : CC := (.reg [(qq a17 (.mv z5)), (qq a18 (.mv z0)), (qq a19 (.ln .str z18)), (qq a20 (.bi .eql z17 z19)), (qq a21 (.mv z20)), ⟨(some a22), .q (.mv z0), (some (a21, false))⟩, ⟨(some a23), .q (.mv z5), (some (a21, false))⟩, ⟨(some a24), .q (.ixS z22 z23), (some (a21, false))⟩, ⟨(some a25), .q (.bi .eql z24 (.c (.i .u8 32))), (some (a21, false))⟩, (qq a26 (.pk z21 xT z25))])
def b48_5 : CC := (.reg [(qq a27 (.mv z3)), (qq a28 (.mv z0)), (qq a29 (.mv z4)), (qq a30 (.mv z5)), (qq a31 (.slS z28 (some z29) (some z30))), (aa a32 (.bsl 9 1 1 [(.s 0 0)] [(0, z31)])), (ee a33 (.app 9 1 16 z27 z32)), (qq a3 (.mv z33))])
def b48_6 : CC := (.reg [(qq a34 (.mv z5)), (qq a35 (.bi .add z34 (x6 1))), (qq a4 (.mv z35))])
def b48_7 : CC := (.cond z26 (.seq b48_5 b48_6) .skip)
def b48_8 : CC := (.reg [(qq a15 (.mv z5)), (qq a16 (.bi .add z15 (x6 1))), (qq a5 (.mv z16))])
def b48_9 : CC := (.seq (.seq b48_3 (.cond z14 .skip (.exit 0))) (.seq (.block 1 (.seq b48_4 b48_7)) b48_8))
def b48_10 : CC := (.reg [(qq a36 (.mv z3)), (qq a2 (.mv z36))])
def b48_11 : CC := (.seq (.seq b48_2 (.block 0 (.loop b48_9))) (.seq b48_10 .ret))
def b48_12 : CC := (.seq (.reg [(qq a3 (.mv (.c .l0)))]) (.seq b48_1 b48_11))
def b48_13 : CC := (.seq (.reg [(qq a2 (.mv (.c .l0)))]) b48_12)
def c48 : CF := .mk 6 [.t a2] b48_13
theorem e48 (v0 : V) : argTr 6 [v0] = (.n sk5 (some v0) sk5) := rfl
def B48 := ai @e48 (ai (wu b48_1.eq_1) (ai (wu b48_2.eq_1) (ai (wu b48_3.eq_1) (ai (wu b48_4.eq_1) (ai (wu b48_5.eq_1) (ai (wu b48_6.eq_1) (ai (wu b48_7.eq_1) (ai (wu b48_8.eq_1) (ai (wu b48_9.eq_1) (ai (wu b48_10.eq_1) (ai (wu b48_11.eq_1) (ai (wu b48_12.eq_1) (wu b48_13.eq_1)))))))))))))
def b49_1 : CC := (.reg [(qq a6 (.mv (x6 0)))])
def b49_2 : CC := (.reg [(qq a9 (.mv z1)), (qq a10 (.mv z0)), (qq a11 (.ln .slice z10)), (qq a12 (.bi .geq z9 z11)), (qq a13 (.mv z12)), ⟨(some a14), .q (.mv z0), (some (a13, false))⟩, ⟨(some a15), .q (.mv z1), (some (a13, false))⟩, ⟨(some a16), .q (.iaS 1 z14 z15), (some (a13, false))⟩, ⟨(some a17), .q (.ld1 z16), (some (a13, false))⟩, ⟨(some a18), .q (.ln .str z17), (some (a13, false))⟩, ⟨(some a19), .q (.mv z2), (some (a13, false))⟩, ⟨(some a20), .q (.bi .lss z18 z19), (some (a13, false))⟩, (qq a21 (.pk z13 xT z20))])
def b49_3 : CC := (.reg [(qq a6 (.mv (x6 0)))])
def b49_4 : CC := (.seq b49_2 (.cond z21 (.seq b49_3 .ret) .skip))
def b49_5 : CC := (.reg [(qq a23 (.mv z0)), (qq a24 (.mv z1)), (qq a25 (.iaS 1 z23 z24)), (qq a26 (.ld1 z25)), (qq a27 (.mv z2)), (qq a28 (.slS z26 (some z27) none)), (ee a29 (.call 46 [z28])), (qq a22 (.mv z29)), (qq a30 (.ex 0 z22)), (qq a31 (.ex 1 z22)), (qq a7 (.mv z30)), (qq a8 (.mv z31))])
def b49_6 : CC := (.reg [(qq a32 (.mv z7)), (qq a6 (.mv z32))])
def c49 : CF := .mk 6 [.t a6] (.seq b49_1 (.seq b49_4 (.seq b49_5 (.seq b49_6 .ret))))
theorem e49 (v0 v1 v2 : V) : argTr 6 [v0, v1, v2] = (.n (.n sk4 (some v1) sk4) (some v0) (.n sk4 (some v2) sk4)) := rfl
def B49 := ai @e49 (ai (wu b49_1.eq_1) (ai (wu b49_2.eq_1) (ai (wu b49_3.eq_1) (ai (wu b49_4.eq_1) (ai (wu b49_5.eq_1) (wu b49_6.eq_1))))))
def splitN : Nat → List UInt8 → List (List UInt8)
 | 0, _ => []
 | k + 1, s => match fnd 32 s 0 with
   | some j => s.take j :: splitN k (s.drop (j + 1))
   | none => [s]
theorem splitN_len : ∀ k s, (splitN k s).length ≤ k
 | 0, s => Nat.le_refl _
 | k + 1, s => by
   unfold splitN
   cases fnd 32 s 0 with
   | some j => show (splitN k (s.drop (j + 1))).length + 1 ≤ k + 1; have := splitN_len k (s.drop (j + 1)); omega
   | none => show 1 ≤ k + 1; omega
theorem fnd_free : ∀ (l : List UInt8) (i : Nat), (∀ x ∈ l, x ≠ 32) → fnd 32 l i = none
 | [], i, _ => rfl
 | x :: l, i, h => by rw [fnd, if_neg (h x (List.mem_cons_self ..))]; exact fnd_free l (i + 1) fun y hy => h y (List.mem_cons_of_mem _ hy)
theorem splitN_step {s : List UInt8} {k at_ i : Nat} (hai : at_ ≤ i) (hi : i < s.length) (hf : ∀ x ∈ (s.take i).drop at_, x ≠ 32) (hb : s[i] = 32) : splitN (k + 1) (s.drop at_) = (s.take i).drop at_ :: splitN k (s.drop (i + 1)) := by
 have e : s.drop at_ = (s.take i).drop at_ ++ 32 :: s.drop (i + 1) := by
  have h1 : s = s.take i ++ s[i] :: s.drop (i + 1) := by rw [List.getElem_cons_drop hi, List.take_append_drop]
  conv => lhs; rw [h1]
  rw [List.drop_append_of_le_length (by rw [List.length_take]; omega), hb]
 obtain ⟨h1, _⟩ := fnd_word ((s.take i).drop at_) (s.drop (i + 1)) 0 hf
 rw [splitN, e, h1, Nat.zero_add]
 show ((s.take i).drop at_ ++ 32 :: s.drop (i + 1)).take ((s.take i).drop at_).length :: splitN k (((s.take i).drop at_ ++ 32 :: s.drop (i + 1)).drop (((s.take i).drop at_).length + 1)) = _
 rw [List.take_left, show (s.take i).drop at_ ++ 32 :: s.drop (i + 1) = ((s.take i).drop at_ ++ [32]) ++ s.drop (i + 1) by simp, List.drop_left' (by simp)]
theorem splitN_end {s : List UInt8} {k at_ : Nat} (hf : ∀ x ∈ s.drop at_, x ≠ 32) : splitN (k + 1) (s.drop at_) = [s.drop at_] := by
 rw [splitN, fnd_free _ _ hf]
theorem split_join : ∀ (k : Nat) (ws : List (List UInt8)), ws ≠ [] → ws.length ≤ k → (∀ w ∈ ws, ∀ x ∈ w, x ≠ 32) → splitN k (joinL [32] ws) = ws
 | 0, ws, h0, h1, _ => by have := List.length_pos_iff.2 h0; omega
 | k + 1, [], h0, _, _ => absurd rfl h0
 | k + 1, [w], _, _, h => by
   have e : joinL [32] [w] = w := by simp [joinL]
   rw [e, splitN, fnd_free _ _ (h w (List.mem_cons_self ..))]
 | k + 1, w :: x :: r, _, h1, h => by
   have e : joinL [32] (w :: x :: r) = w ++ 32 :: joinL [32] (x :: r) := by simp [joinL]
   obtain ⟨h2, _⟩ := fnd_word w (joinL [32] (x :: r)) 0 (h w (List.mem_cons_self ..))
   rw [splitN, e, h2, Nat.zero_add]
   show (w ++ 32 :: joinL [32] (x :: r)).take w.length :: splitN k ((w ++ 32 :: joinL [32] (x :: r)).drop (w.length + 1)) = _
   rw [List.take_left, show w ++ 32 :: joinL [32] (x :: r) = (w ++ [32]) ++ joinL [32] (x :: r) by simp, List.drop_left' (by simp), split_join k (x :: r) (by simp) (by simpa using h1) fun y hy => h y (List.mem_cons_of_mem _ hy)]
theorem r48 (Φ : Nat → Option CF) (h : Φ 48 = some c48) {F : RO} {M : Mem} {c : Nat} (ok : Okm F M c) (s : List UInt8) (hs : s.length ≤ 1000000) :
  Calls Φ F 48 [sV s] M c fun r M' c' => SlAt F M' c' 1 r (strE (splitN 9 s)) ∧ SlOwn F M' c c' 1 r (strE (splitN 9 s)) ∧ Gr c M c' M' := by
 refine calls_walk h ?_
 have hS : ∀ l, isOne (sV l) = true := fun _ => rfl
 have hF : ∀ l, flatten (sV l) = [sV l] := fun _ => rfl
 simp only [WX, B48]
 obtain ⟨I1, hI1⟩ : ∃ I : Nat → St → Prop, ∀ n s', I n s' ↔ (∃ (i at_ : Nat) (P : List (List UInt8)) (v : V) (M1 : Mem) (c1 b1 : Nat) (u : List (Option V)), n = s.length + 1 - i ∧ i ≤ s.length + 1 ∧ s' = .mk ((.n (.n (.n (uv7 u 31 15 47 7 39 23 55) (some (v)) (uv7 u 35 19 51 11 43 27 59)) (uO u 1) (.n (uv7 u 33 17 49 9 41 25 57) (some (.i .i64 (i : Int))) (uv7 u 37 21 53 13 45 29 61))) (some (sV s)) (.n (.n (uv7 u 32 16 48 8 40 24 56) (some (.i .i64 (at_ : Int))) (uv7 u 36 20 52 12 44 28 60)) (uO u 2) (.n (uv7 u 34 18 50 10 42 26 58) (uO u 6) (uv7 u 38 22 54 14 46 30 62))))) [] M1 c1 ∧ Gr c M c1 M1 ∧ AccAt M1 c c1 b1 9 1 v (strE P) ∧
   P.length ≤ 9 ∧ ((i ≤ s.length ∧ at_ ≤ i ∧ (∀ x ∈ (s.take i).drop at_, x ≠ 32) ∧ splitN 9 s = P ++ splitN (9 - P.length) (s.drop at_)) ∨ (i = s.length + 1 ∧ splitN 9 s = P))) := ⟨fun n s' => _, fun _ _ => Iff.rfl⟩
 refine wp_while I1 ?_ (s.length + 1) _ ((hI1 _ _).2 ⟨0, 0, [], .l0, M, c, 0, [none, _, _, none, none, none, _, _, _, _, _, _, _, _, _, _, _, _, _, _, _, _, _, _, _, _, _, _, _, _, _, _, _, _, _, _, _, _, _, _, _, _, _, _, _, _, _, _, _, _, _, _, _, _, _, _, _, _, _, _, _, _, _], rfl, Nat.zero_le _, rfl, Gr.refl ok, AccAt.nil, Nat.zero_le _, .inl ⟨Nat.zero_le _, Nat.le_refl _, (by intro x hx; cases hx), by rw [List.drop_zero]; rfl⟩⟩)
 intro n s' hIs
 obtain ⟨i, at_, P, v, M1, c1, b1, u, rfl, hi, rfl, gr1, hA, hP, hor⟩ := (hI1 _ _).1 hIs
 clear hIs
 have ok1 := gr1.ok ok
 have hln := str_len (hA.sl (F := F))
 have q8 : biV .add (.i .i64 (i : Int)) (.i .i64 1) = some (.i .i64 ((i + 1 : Nat) : Int)) := by rw [i64_add _ _ (by omega) (by omega)]; simp
 by_cases hle : i ≤ s.length
 · have d1 : decide ((i : Int) ≤ (s.length : Int)) = true := decide_eq_true (by omega)
   obtain ⟨_, hai, hfree, hsp⟩ : i ≤ s.length ∧ at_ ≤ i ∧ (∀ x ∈ (s.take i).drop at_, x ≠ 32) ∧ splitN 9 s = P ++ splitN (9 - P.length) (s.drop at_) := by
    rcases hor with h | ⟨h, _⟩
    · exact h
    · omega
   by_cases hP9 : P.length < 9
   · have d2 : decide ((P.length : Int) < 9) = true := decide_eq_true (by omega)
     by_cases hend : i = s.length
     · have d3 : decide ((i : Int) = (s.length : Int)) = true := decide_eq_true (by omega)
       have hsl := sl_lh s .i64 .i64 at_ i hai (by omega)
       simp only [WX, B48, hln, d1, d2, d3, hsl, hS, hF]
       have grY : Gr c M (c1 + 1) (M1.set c1 (rowD [V.s 0 0] 9 [sV ((s.take i).drop at_)])) := gr1.set c1 _ gr1.le (by omega) (by omega)
       have hy : SlAt F (M1.set c1 (rowD [V.s 0 0] 9 [sV ((s.take i).drop at_)])) (c1 + 1) 1 (.l c1 0 1 1) (strE [(s.take i).drop at_]) := slD (d := [.s 0 0]) (ty := 9) (by rw [get_same]; rfl) (by omega) (fun e he => by obtain ⟨x, _, rfl⟩ := List.mem_map.1 he; rfl) rfl
       refine putE_to ((appV_to (bytes := 16) (hA.up (show c1 ≤ c1 + 1 by omega) (fun hx => get_ne _ _ (by omega))) grY Nat.one_pos hy rfl (room_of (by simp [strE]; omega) (by simp [strE]; omega))).mono ?_)
       rintro v' M2 c2 ⟨b2, hA2, gr2, hle2, _, _⟩
       simp only [WX, B48, q8]
       refine ⟨s.length + 1 - (i + 1), by omega, (hI1 _ _).2 ⟨i + 1, i + 1, P ++ [(s.take i).drop at_], v', M2, c2, b2, [none, _, _, none, none, none, _, _, _, _, _, _, _, _, _, _, _, _, _, _, _, _, _, _, _, _, _, _, _, _, _, _, _, _, _, _, _, _, _, _, _, _, _, _, _, _, _, _, _, _, _, _, _, _, _, _, _, _, _, _, _, _, _], rfl, by omega, rfl, gr2, ?_, by simp; omega, .inr ⟨by omega, ?_⟩⟩⟩
       · rw [strE, List.map_append]; exact hA2
       · have e : (s.take i).drop at_ = s.drop at_ := by rw [hend, List.take_length]
         rw [hsp, show 9 - P.length = (9 - P.length - 1) + 1 by omega, splitN_end (by rw [← e]; exact hfree), e]
     · have d3 : decide ((i : Int) = (s.length : Int)) = false := decide_eq_false (by omega)
       have hix : ixSV (sV s) (.i .i64 (i : Int)) = some (.i .u8 ((s[i]'(by omega)).toNat : Int)) := ixSs s .i64 i (by omega)
       by_cases hb : s[i]'(by omega) = 32
       · have d4 : decide (((s[i]'(by omega)).toNat : Int) = 32) = true := decide_eq_true (by rw [hb]; rfl)
         have hsl := sl_lh s .i64 .i64 at_ i hai (by omega)
         simp only [WX, B48, hln, d1, d2, d3, hix, d4, hsl, hS, hF]
         have grY : Gr c M (c1 + 1) (M1.set c1 (rowD [V.s 0 0] 9 [sV ((s.take i).drop at_)])) := gr1.set c1 _ gr1.le (by omega) (by omega)
         have hy : SlAt F (M1.set c1 (rowD [V.s 0 0] 9 [sV ((s.take i).drop at_)])) (c1 + 1) 1 (.l c1 0 1 1) (strE [(s.take i).drop at_]) := slD (d := [.s 0 0]) (ty := 9) (by rw [get_same]; rfl) (by omega) (fun e he => by obtain ⟨x, _, rfl⟩ := List.mem_map.1 he; rfl) rfl
         refine putE_to ((appV_to (bytes := 16) (hA.up (show c1 ≤ c1 + 1 by omega) (fun hx => get_ne _ _ (by omega))) grY Nat.one_pos hy rfl (room_of (by simp [strE]; omega) (by simp [strE]; omega))).mono ?_)
         rintro v' M2 c2 ⟨b2, hA2, gr2, hle2, _, _⟩
         simp only [WX, B48, q8]
         refine ⟨s.length + 1 - (i + 1), by omega, (hI1 _ _).2 ⟨i + 1, i + 1, P ++ [(s.take i).drop at_], v', M2, c2, b2, [none, _, _, none, none, none, _, _, _, _, _, _, _, _, _, _, _, _, _, _, _, _, _, _, _, _, _, _, _, _, _, _, _, _, _, _, _, _, _, _, _, _, _, _, _, _, _, _, _, _, _, _, _, _, _, _, _, _, _, _, _, _, _], rfl, by omega, rfl, gr2, ?_, by simp; omega, .inl ⟨by omega, Nat.le_refl _, ?_, ?_⟩⟩⟩
         · rw [strE, List.map_append]; exact hA2
         · intro x hx
           rw [List.drop_eq_nil_of_le (by rw [List.length_take]; omega)] at hx; cases hx
         · rw [hsp, show 9 - P.length = (9 - P.length - 1) + 1 by omega, splitN_step hai (by omega) hfree hb, List.length_append, List.length_singleton, List.append_assoc]
           rw [show 9 - (P.length + 1) = 9 - P.length - 1 by omega]; rfl
       · have d4 : decide (((s[i]'(by omega)).toNat : Int) = 32) = false := decide_eq_false (fun e => hb (UInt8.toNat_inj.1 (by rw [show (32 : UInt8).toNat = 32 from rfl]; omega)))
         simp only [WX, B48, hln, d1, d2, d3, hix, d4, q8]
         refine ⟨s.length + 1 - (i + 1), by omega, (hI1 _ _).2 ⟨i + 1, at_, P, v, M1, c1, b1, [none, _, _, none, none, none, _, _, _, _, _, _, _, _, _, _, _, _, _, _, _, _, _, _, _, _, _, _, _, _, _, _, _, _, _, _, _, _, _, _, _, _, _, _, _, _, _, _, _, _, _, _, _, _, _, _, _, _, _, _, _, _, _], rfl, by omega, rfl, gr1, hA, hP, .inl ⟨by omega, by omega, ?_, hsp⟩⟩⟩
         intro x hx
         rw [List.take_succ_eq_append_getElem (by omega), List.drop_append_of_le_length (by rw [List.length_take]; omega)] at hx
         rcases List.mem_append.1 hx with hx | hx
         · exact hfree x hx
         · rw [List.mem_singleton] at hx; subst hx; exact hb
   · have d2 : decide ((P.length : Int) < 9) = false := decide_eq_false (by omega)
     simp only [WX, B48, hln, d1, d2]
     rw [hsp, show 9 - P.length = 0 by omega, splitN, List.append_nil]
     exact ⟨hA.sl, hA.own, gr1⟩
 · have d1 : decide ((i : Int) ≤ (s.length : Int)) = false := decide_eq_false (by omega)
   simp only [WX, B48, d1]
   rcases hor with ⟨h, _⟩ | ⟨_, h⟩
   · omega
   · rw [h]; exact ⟨hA.sl, hA.own, gr1⟩
theorem r49 (Φ : Nat → Option CF) (h : Φ 49 = some c49) (h46 : Φ 46 = some c46) (h63 : Φ 63 = some c63) (h64 : Φ 64 = some c64) (h74 : Φ 74 = some c74) (h75 : Φ 75 = some c75) (h73 : Φ 73 = some c73) (h100 : Φ 100 = some c100) (h101 : Φ 101 = some (.orc (pureO h101))) (h115 : Φ 115 = some (.orc (pureO h115)))
  {F : RO} {M : Mem} {c : Nat} (ok : Okm F M c) (hE1 : ErrVar F 1) (hE2 : ErrVar F 2) (hlow : ∀ g, g < 1000 → M.get g = none) {v : V} {l : List (List UInt8)} (hs : SlAt F M c 1 v (strE l)) (hlen : l.length ≤ 9) (hl : ∀ w ∈ l, w.length ≤ 1000000) (k r : Nat) (hk : k ≤ 9) (hr : r ≤ 1) :
  Calls Φ F 49 [v, .i .i64 (k : Int), .i .i64 (r : Int)] M c fun res M' c' => ∃ z, res = .i .i64 z ∧ (∀ w, l[k]? = some w → r ≤ w.length → ZOf (w.drop r) z) ∧ Gr c M c' M' := by
 refine calls_walk h ?_
 have hln := str_len hs
 by_cases hkl : k < l.length
 · have d1 : decide ((l.length : Int) ≤ (k : Int)) = false := decide_eq_false (by omega)
   obtain ⟨b, o, _, hia, hld⟩ := str_at hs k hkl
   by_cases hrl : r ≤ l[k].length
   · have d2 : decide ((l[k].length : Int) < (r : Int)) = false := decide_eq_false (by omega)
     have hsl := sl_ln l[k] .i64 r hrl
     have hwl := hl l[k] (List.getElem_mem hkl)
     simp only [WX, B49, hln, d1, hia, hld, d2, hsl]
     refine putE_to ((r46 Φ h46 h63 h64 h74 h75 h73 h100 h101 h115 ok hE1 hE2 hlow (l[k].drop r) (by rw [List.length_drop]; omega)).mono ?_)
     rintro res M2 c2 ⟨z, e, rfl, hz, hg⟩
     simp only [WX, B49]
     refine ⟨z, rfl, fun w hw _ => ?_, hg⟩
     rw [List.getElem?_eq_getElem hkl] at hw
     obtain rfl := Option.some.inj hw
     exact hz
   · have d2 : decide ((l[k].length : Int) < (r : Int)) = true := decide_eq_true (by omega)
     simp only [WX, B49, hln, d1, hia, hld, d2]
     refine ⟨0, rfl, fun w hw hw2 => ?_, Gr.refl ok⟩
     rw [List.getElem?_eq_getElem hkl] at hw
     obtain rfl := Option.some.inj hw
     exact absurd hw2 hrl
 · have d1 : decide ((l.length : Int) ≤ (k : Int)) = true := decide_eq_true (by omega)
   simp only [WX, B49, hln, d1]
   refine ⟨0, rfl, fun w hw _ => ?_, Gr.refl ok⟩
   rw [List.getElem?_eq_none (by omega)] at hw; cases hw
def b17_1 : CC := (.reg [(aa a2 (.al 26 [(.i .i64 0), (.i .i64 0), (.i .i64 0), (.i .i64 0), (.i .i64 0)])), (qq a3 (.mv (x6 0)))])
def w17_1 := wu b17_1.eq_1
def b17_2 : CC := (.reg [(qq a12 (.mv z0)), (ee a13 (.call 48 [z12])), (qq a4 (.mv z13))])
def w17_2 := wu b17_2.eq_1
def b17_3 : CC := (.reg [(aa a5 (.al 26 [(.i .i64 0), (.i .i64 0), (.i .i64 0), (.i .i64 0), (.i .i64 0)]))])
def w17_3 := wu b17_3.eq_1
def b17_4 : CC := (.reg [(qq a6 (.mv (x6 1)))])
def w17_4 := wu b17_4.eq_1
def b17_5 : CC := (.reg [(qq a14 (.mv z6)), (qq a15 (.bi .leq z14 (x6 28)))])
def w17_5 := wu b17_5.eq_1
def b17_6 : CC := (.seq b17_5 (.cond z15 .skip (.exit 0)))
def w17_6 := wu b17_6.eq_1
def b17_7 : CC := (.dreg 8 [(1, 0, (qq a19 (.mv z6))), (4, 0, (qq a22 (.mv z4))), (5, 16, (qq a23 (.iaS 1 z22 (x6 0)))), (6, 48, (qq a24 (.ld1 z23))), (0, 0, (ee a18 (.call 23 []))), (2, 3, (qq a20 (.iaS 1 z18 z19))), (3, 7, (qq a21 (.ld1 z20))), (7, 127, (qq a25 (.bi .eql z21 z24)))])
def w17_7 := wu b17_7.eq_1
def b17_8 : CC := (.reg [(qq a26 (.mv z6)), (qq a27 (.fa 0 z5)), (ez (.st 1 z27 z26))])
def w17_8 := wu b17_8.eq_1
def b17_9 : CC := (.seq b17_7 (.cond z25 b17_8 .skip))
def w17_9 := wu b17_9.eq_1
def b17_10 : CC := (.reg [(qq a16 (.mv z6)), (qq a17 (.bi .add z16 (x6 1))), (qq a6 (.mv z17))])
def w17_10 := wu b17_10.eq_1
def b17_11 : CC := (.block 0 (.loop (.seq b17_6 (.seq (.block 1 b17_9) b17_10))))
def w17_11 := wu b17_11.eq_1
def b17_12 : CC := (.reg [(qq a29 (.fa 0 z5)), (qq a30 (.ld1 z29)), (ee a31 (.call 26 [z30])), (ee a32 (.call 38 [z31])), (qq a28 (.mv z32)), (qq a33 (.ex 0 z28)), (qq a34 (.ex 1 z28)), (qq a35 (.ex 2 z28)), (qq a36 (.ex 3 z28)), (qq a7 (.mv z33)), (qq a8 (.mv z34)), (qq a9 (.mv z35)), (qq a10 (.mv z36))])
def w17_12 := wu b17_12.eq_1
def b17_13 : CC := (.reg [(qq a11 (.mv (x6 1)))])
def w17_13 := wu b17_13.eq_1
def b17_14 : CC := (.reg [(qq a37 (.mv z7))])
def w17_14 := wu b17_14.eq_1
def b17_15 : CC := (.reg [(qq a38 (.mv z4)), (qq a39 (.mv z11)), (ee a40 (.call 49 [z38, z39, (x6 1)])), (qq a41 (.fa 1 z5)), (ez (.st 1 z41 z40))])
def w17_15 := wu b17_15.eq_1
def b17_16 : CC := (.reg [(qq a42 (.mv z11)), (qq a43 (.bi .add z42 (x6 1))), (qq a11 (.mv z43))])
def w17_16 := wu b17_16.eq_1
def b17_17 : CC := (.cond z37 (.seq b17_15 b17_16) .skip)
def w17_17 := wu b17_17.eq_1
def b17_18 : CC := (.reg [(qq a44 (.mv z8))])
def w17_18 := wu b17_18.eq_1
def b17_19 : CC := (.reg [(qq a45 (.mv z4)), (qq a46 (.mv z11)), (ee a47 (.call 49 [z45, z46, (x6 1)])), (qq a48 (.fa 2 z5)), (ez (.st 1 z48 z47))])
def w17_19 := wu b17_19.eq_1
def b17_20 : CC := (.reg [(qq a49 (.mv z11)), (qq a50 (.bi .add z49 (x6 1))), (qq a11 (.mv z50))])
def w17_20 := wu b17_20.eq_1
def b17_21 : CC := (.cond z44 (.seq b17_19 b17_20) .skip)
def w17_21 := wu b17_21.eq_1
def b17_22 : CC := (.reg [(qq a51 (.mv z9))])
def w17_22 := wu b17_22.eq_1
def b17_23 : CC := (.reg [(qq a52 (.mv z4)), (qq a53 (.mv z11)), (ee a54 (.call 49 [z52, z53, (x6 1)])), (qq a55 (.fa 3 z5)), (ez (.st 1 z55 z54))])
def w17_23 := wu b17_23.eq_1
def b17_24 : CC := (.reg [(qq a56 (.mv z11)), (qq a57 (.bi .add z56 (x6 1))), (qq a11 (.mv z57))])
def w17_24 := wu b17_24.eq_1
def b17_25 : CC := (.cond z51 (.seq b17_23 b17_24) .skip)
def w17_25 := wu b17_25.eq_1
def b17_26 : CC := (.reg [(qq a58 (.mv z10))])
def w17_26 := wu b17_26.eq_1
def b17_27 : CC := (.reg [(qq a59 (.mv z4)), (qq a60 (.mv z11)), (ee a61 (.call 49 [z59, z60, (x6 0)])), (qq a62 (.fa 4 z5)), (ez (.st 1 z62 z61))])
def w17_27 := wu b17_27.eq_1
def b17_28 : CC := (.seq b17_26 (.cond z58 b17_27 .skip))
def w17_28 := wu b17_28.eq_1
def b17_29 : CC := (.reg [(qq a63 (.ldn 5 z5)), (ee a64 (.call 12 [z63])), (qq a65 (.un .not z64)), (qq a66 (.mv z65)), ⟨(some a67), .q (.ldn 5 z5), (some (a66, false))⟩, ⟨(some a68), .e (.call 18 [z67]), (some (a66, false))⟩, ⟨(some a69), .q (.mv z0), (some (a66, false))⟩, ⟨(some a70), .q (.bi .neq z68 z69), (some (a66, false))⟩, (qq a71 (.pk z66 xT z70))])
def w17_29 := wu b17_29.eq_1
def b17_30 : CC := (.reg [(qq a72 (.bld [(.i .i64 0), (.i .i64 0), (.i .i64 0), (.i .i64 0), (.i .i64 0)] [])), (ez (.st 5 z2 z72)), (qq a3 (.mv (x6 4)))])
def w17_30 := wu b17_30.eq_1
def b17_31 : CC := (.cond z71 (.seq b17_30 .ret) .skip)
def w17_31 := wu b17_31.eq_1
def b17_32 : CC := (.reg [(qq a73 (.ldn 5 z5)), (ez (.st 5 z2 z73)), (qq a3 (.mv (x6 0)))])
def w17_32 := wu b17_32.eq_1
def b17_33 : CC := (.seq b17_28 (.seq (.seq b17_29 b17_31) (.seq b17_32 .ret)))
def w17_33 := wu b17_33.eq_1
def b17_34 : CC := (.seq (.seq b17_18 b17_21) (.seq (.seq b17_22 b17_25) b17_33))
def w17_34 := wu b17_34.eq_1
def b17_35 : CC := (.seq b17_12 (.seq b17_13 (.seq (.seq b17_14 b17_17) b17_34)))
def w17_35 := wu b17_35.eq_1
def b17_36 : CC := (.seq b17_1 (.seq b17_2 (.seq b17_3 (.seq (.seq b17_4 b17_11) b17_35))))
def w17_36 := wu b17_36.eq_1
def c17 : CF := .mk 7 [.cn a2 5, .t a3] b17_36
theorem e17 (v0 : V) : argTr 7 [v0] = (.n sk6 (some v0) sk6) := rfl
def B17 := ai @e17 (ai @w17_1 (ai @w17_2 (ai @w17_3 (ai @w17_4 (ai @w17_5 (ai @w17_6 (ai @w17_7 (ai @w17_8 (ai @w17_9 (ai @w17_10 (ai @w17_11 (ai @w17_12 (ai @w17_13 (ai @w17_14 (ai @w17_15 (ai @w17_16 (ai @w17_17 (ai @w17_18 (ai @w17_19 (ai @w17_20 (ai @w17_21 (ai @w17_22 (ai @w17_23 (ai @w17_24 (ai @w17_25 (ai @w17_26 (ai @w17_27 (ai @w17_28 (ai @w17_29 (ai @w17_30 (ai @w17_31 (ai @w17_32 (ai @w17_33 (ai @w17_34 (ai @w17_35 (@w17_36))))))))))))))))))))))))))))))))))))
def h18 : List V → Option V
 | [.g [.i .i64 op, .i .i64 d, .i .i64 a, .i .i64 b, .i .i64 i]] => if mayI op d a b i = true then some (sV (textB op d a b i)) else none
 | _ => none
theorem h18_eq {op d a b i : Int} (h : mayI op d a b i = true) : h18 [.g [.i .i64 op, .i .i64 d, .i .i64 a, .i .i64 b, .i .i64 i]] = some (sV (textB op d a b i)) := if_pos h
def PR (F : RO) (M0 M : Mem) (c1 c cb : Nat) (v : V) (W : List (List UInt8)) (op d a b i : Int) : Prop :=
 Okm F M c1 ∧ c < cb ∧ cb < c1 ∧ 1000 ≤ c ∧ M.get c = some (rowB 26 [.i .i64 0, .i .i64 0, .i .i64 0, .i .i64 0, .i .i64 0]) ∧ M.get cb = some (rowB 26 [.i .i64 op, .i .i64 d, .i .i64 a, .i .i64 b, .i .i64 i]) ∧ SlAt F M c1 1 v (strE W) ∧ (∀ g, g < 1000 → M.get g = none) ∧ SlOwn F M (c + 1) cb 1 v (strE W) ∧ Gr c M0 c1 M
theorem PR.step {F : RO} {M0 M M' : Mem} {c1 c2 c cb : Nat} {v : V} {W : List (List UInt8)} {op d a b i op' d' a' b' i' : Int} (h : PR F M0 M c1 c cb v W op d a b i) (hg : Gr c1 M c2 M') :
  PR F M0 (M'.set cb (rowB 26 [.i .i64 op', .i .i64 d', .i .i64 a', .i .i64 b', .i .i64 i'])) c2 c cb v W op' d' a' b' i' := by
 obtain ⟨ok, k1, k2, k3, g0, g1, g2, g3, g4, g5⟩ := h
 have hle := hg.le
 have e1 : M'.get cb = some (rowB 26 [.i .i64 op, .i .i64 d, .i .i64 a, .i .i64 b, .i .i64 i]) := by rw [hg.old cb k2]; exact g1
 have o : ∀ x, x < c1 → x ≠ cb → (M'.set cb (rowB 26 [.i .i64 op', .i .i64 d', .i .i64 a', .i .i64 b', .i .i64 i'])).get x = M.get x := fun x hx hn => by rw [get_ne _ _ hn, hg.old x hx]
 have own : SlOwn F (M'.set cb (rowB 26 [.i .i64 op', .i .i64 d', .i .i64 a', .i .i64 b', .i .i64 i'])) (c + 1) cb 1 v (strE W) := g4.up (Nat.le_refl _) (Nat.le_refl _) fun x h1 h2 => o x (by omega) (by omega)
 exact ⟨(hg.ok ok).put (by omega) e1, k1, by omega, k3, by rw [o c (by omega) (by omega)]; exact g0, get_same _ _ _, (own.up (c' := c2) (lo' := c + 1) (M' := M'.set cb (rowB 26 [.i .i64 op', .i .i64 d', .i .i64 a', .i .i64 b', .i .i64 i'])) (by omega) (Nat.le_refl _) fun _ _ _ => rfl).sl, fun g hg' => by rw [o g (by omega) (by omega)]; exact g3 g hg', own, (g5.trans hg).set (c2 := c2) cb _ (by omega) (by omega) (Nat.le_refl _)⟩
theorem t17e (Φ : Nat → Option CF) {L : List Tab} (h12 : Φ 12 = some (.orc (pureO h37))) (h18 : Φ 18 = some (.orc (pureT L h18))) (h49 : Φ 49 = some c49) (h46 : Φ 46 = some c46) (h63 : Φ 63 = some c63) (h64 : Φ 64 = some c64) (h74 : Φ 74 = some c74) (h75 : Φ 75 = some c75) (h73 : Φ 73 = some c73) (h100 : Φ 100 = some c100) (h101 : Φ 101 = some (.orc (pureO h101))) (h115 : Φ 115 = some (.orc (pureO h115))) {F : RO} {M0 M : Mem} {c c1 cb : Nat} {v : V} (ht : tabsIn F L = true) (hE1 : ErrVar F 1) (hE2 : ErrVar F 2) {s : List UInt8} {W : List (List UInt8)} {op d a b i : Int} (h : PR F M0 M c1 c cb v W op d a b i)
  (HC : ∀ op' d' a' b' i', mayI op' d' a' b' i' = true → textB op' d' a' b' i' = s → op' = op ∧ d' = d ∧ a' = a ∧ b' = b ∧ i' = i) (fd fa fb fi : Bool) (k : Nat) (u : List (Option V)) :
  Wp b17_29 (K Φ none 17 F) (.mk ((.n (.n (.n (.n (uv7 u 63 31 95 15 79 47 111) (some (.b fd)) (uv7 u 71 39 103 23 87 55 119)) (some (.i .i64 0)) (.n (uv7 u 67 35 99 19 83 51 115) (some (.i .i64 (k : Int))) (uv7 u 75 43 107 27 91 59 123))) (uO u 1) (.n (.n (uv7 u 65 33 97 17 81 49 113) (some (.b fb)) (uv7 u 73 41 105 25 89 57 121)) (some (.p cb 0)) (.n (uv7 u 69 37 101 21 85 53 117) (uO u 13) (uv7 u 77 45 109 29 93 61 125)))) (some (sV s)) (.n (.n (.n (uv7 u 64 32 96 16 80 48 112) (some (.b fa)) (uv7 u 72 40 104 24 88 56 120)) (some (v)) (.n (uv7 u 68 36 100 20 84 52 116) (uO u 12) (uv7 u 76 44 108 28 92 60 124))) (some (.p c 0)) (.n (.n (uv7 u 66 34 98 18 82 50 114) (some (.b fi)) (uv7 u 74 42 106 26 90 58 122)) (uO u 6) (.n (uv7 u 70 38 102 22 86 54 118) (uO u 14) (uv7 u 78 46 110 30 94 62 126)))))) [] M c1) (seqQ b17_31 (K Φ none 17 F) (seqQ (.seq b17_32 .ret) (K Φ none 17 F) (endQ F [.cn (.r .h) 5, .t (.l (.l .h))] fun r M' c' => ParseP s r ∧ Gr c M0 c' M'))) := by
 obtain ⟨ok, k1, k2, k3, g0, g1, g2, g3, g4, g5⟩ := h
 have hT := fun h args M c => pureT_of ht h args M c
 have li : loadN F M cb 0 5 = some [.i .i64 op, .i .i64 d, .i .i64 a, .i .i64 b, .i .i64 i] := loadN_row g1 5 rfl
 cases hm : mayI op d a b i with
 | true =>
   have h1 : Ev.h37 [.g [.i .i64 op, .i .i64 d, .i .i64 a, .i .i64 b, .i .i64 i]] = some (.b true) := by rw [h37_eq, hm]
   by_cases hs : textB op d a b i = s
   · have e1 : biV .neq (sV (textB op d a b i)) (sV s) = some (.b false) := by rw [bi_sne, decide_eq_true hs]; rfl
     have hst := store_row g0 0 [.i .i64 op, .i .i64 d, .i .i64 a, .i .i64 b, .i .i64 i] (by simp) rfl
     simp only [WX, Nat.reduceAdd, Nat.reduceLeDiff, B17, li, h12, h1, h18, hT, h18_eq hm, e1, hst]
     exact ⟨.inl ⟨op, d, a, b, i, hm, hs, rfl⟩, g5.set (c2 := c1) c _ (Nat.le_refl _) (by omega) (Nat.le_refl _)⟩
   · have e1 : biV .neq (sV (textB op d a b i)) (sV s) = some (.b true) := by rw [bi_sne, decide_eq_false hs]; rfl
     have hst := store_row g0 0 [.i .i64 0, .i .i64 0, .i .i64 0, .i .i64 0, .i .i64 0] (by simp) rfl
     simp only [WX, Nat.reduceAdd, Nat.reduceLeDiff, B17, li, h12, h1, h18, hT, h18_eq hm, e1, hst]
     refine ⟨.inr ⟨fun op' d' a' b' i' hm' hs' => ?_, rfl⟩, g5.set (c2 := c1) c _ (Nat.le_refl _) (by omega) (Nat.le_refl _)⟩
     obtain ⟨rfl, rfl, rfl, rfl, rfl⟩ := HC _ _ _ _ _ hm' hs'
     exact hs hs'
 | false =>
   have h1 : Ev.h37 [.g [.i .i64 op, .i .i64 d, .i .i64 a, .i .i64 b, .i .i64 i]] = some (.b false) := by rw [h37_eq, hm]
   have hst := store_row g0 0 [.i .i64 0, .i .i64 0, .i .i64 0, .i .i64 0, .i .i64 0] (by simp) rfl
   simp only [WX, Nat.reduceAdd, Nat.reduceLeDiff, B17, li, h12, h1, hst]
   refine ⟨.inr ⟨fun op' d' a' b' i' hm' hs' => ?_, rfl⟩, g5.set (c2 := c1) c _ (Nat.le_refl _) (by omega) (Nat.le_refl _)⟩
   obtain ⟨rfl, rfl, rfl, rfl, rfl⟩ := HC _ _ _ _ _ hm' hs'
   rw [hm] at hm'; cases hm'
theorem t17i (Φ : Nat → Option CF) {L : List Tab} (h12 : Φ 12 = some (.orc (pureO h37))) (h18 : Φ 18 = some (.orc (pureT L h18))) (h49 : Φ 49 = some c49) (h46 : Φ 46 = some c46) (h63 : Φ 63 = some c63) (h64 : Φ 64 = some c64) (h74 : Φ 74 = some c74) (h75 : Φ 75 = some c75) (h73 : Φ 73 = some c73) (h100 : Φ 100 = some c100) (h101 : Φ 101 = some (.orc (pureO h101))) (h115 : Φ 115 = some (.orc (pureO h115))) {F : RO} {M0 M : Mem} {c c1 cb : Nat} {v : V} (ht : tabsIn F L = true) (hE1 : ErrVar F 1) (hE2 : ErrVar F 2) {s : List UInt8} {W : List (List UInt8)} (hW : W.length ≤ 9) (hW2 : ∀ w ∈ W, w.length ≤ 1000000) {op d a b : Int} (h : PR F M0 M c1 c cb v W op d a b 0) (k : Nat) (hk : k ≤ 4)
  (HC : ∀ op' d' a' b' i', mayI op' d' a' b' i' = true → textB op' d' a' b' i' = s → op' = op ∧ d' = d ∧ a' = a ∧ b' = b ∧ W.drop k = R4 op i') {fd fa fb fi : Bool} (hfd : fd = dI (formI op)) (hfa : fa = aI (formI op)) (hfb : fb = bI (formI op)) (hfi : fi = iI (formI op)) (u : List (Option V)) :
  Wp b17_33 (K Φ none 17 F) (.mk ((.n (.n (.n (.n (uv7 u 63 31 95 15 79 47 111) (some (.b fd)) (uv7 u 71 39 103 23 87 55 119)) (some (.i .i64 0)) (.n (uv7 u 67 35 99 19 83 51 115) (some (.i .i64 (k : Int))) (uv7 u 75 43 107 27 91 59 123))) (uO u 1) (.n (.n (uv7 u 65 33 97 17 81 49 113) (some (.b fb)) (uv7 u 73 41 105 25 89 57 121)) (some (.p cb 0)) (.n (uv7 u 69 37 101 21 85 53 117) (uO u 13) (uv7 u 77 45 109 29 93 61 125)))) (some (sV s)) (.n (.n (.n (uv7 u 64 32 96 16 80 48 112) (some (.b fa)) (uv7 u 72 40 104 24 88 56 120)) (some (v)) (.n (uv7 u 68 36 100 20 84 52 116) (uO u 12) (uv7 u 76 44 108 28 92 60 124))) (some (.p c 0)) (.n (.n (uv7 u 66 34 98 18 82 50 114) (some (.b fi)) (uv7 u 74 42 106 26 90 58 122)) (uO u 6) (.n (uv7 u 70 38 102 22 86 54 118) (uO u 14) (uv7 u 78 46 110 30 94 62 126)))))) [] M c1) (endQ F [.cn (.r .h) 5, .t (.l (.l .h))] fun r M' c' => ParseP s r ∧ Gr c M0 c' M') := by
 have hPR := h
 obtain ⟨ok, k1, k2, k3, g0, g1, g2, g3, g4, g5⟩ := h
 cases fi with
 | true =>
   simp only [WX, w17_26, w17_27, w17_28, w17_33]
   refine putE_to ((r49 Φ h49 h46 h63 h64 h74 h75 h73 h100 h101 h115 ok hE1 hE2 g3 g2 hW hW2 k 0 (by omega) (by decide)).mono ?_)
   rintro r M2 c2 ⟨z, rfl, hz, hg⟩
   have hP := PR.step (op' := op) (d' := d) (a' := a) (b' := b) (i' := z) hPR hg
   have e3 : M2.get cb = some (rowB 26 [.i .i64 op, .i .i64 d, .i .i64 a, .i .i64 b, .i .i64 0]) := by rw [hg.old cb (by omega)]; exact g1
   have hst := store_row e3 4 [.i .i64 z] (by simp) rfl
   simp only [WX, Nat.reduceAdd, hst]
   refine t17e Φ h12 h18 h49 h46 h63 h64 h74 h75 h73 h100 h101 h115 ht hE1 hE2 hP ?_ _ _ _ _ k [none, _, none, none, none, none, _, none, none, none, none, none, _, _, _, _, _, _, _, _, _, _, _, _, _, _, _, _, _, _, _, _, _, _, _, _, _, _, _, _, _, _, _, _, _, _, _, _, _, _, _, _, _, _, _, _, _, _, _, _, _, _, _, _, _, _, _, _, _, _, _, _, _, _, _, _, _, _, _, _, _, _, _, _, _, _, _, _, _, _, _, _, _, _, _, _, _, _, _, _, _, _, _, _, _, _, _, _, _, _, _, _, _, _, _, _, _, _, _, _, _, _, _, _, _, _, _]
   intro op' d' a' b' i' hm' hs'
   obtain ⟨rfl, rfl, rfl, rfl, e⟩ := HC op' d' a' b' i' hm' hs'
   obtain ⟨m1, m2, m3, m4, m5⟩ := may_num hm'
   have hw : W.drop k = (itoa i') :: [] := by rw [e, R4, ← hfi, if_pos rfl] <;> rfl
   have hr : -10000000 < i' ∧ i' < 10000000 := by omega
   have hk0 : W[k]? = some (itoa i') := by
    have := congrArg (fun l => l[0]?) hw
    simpa using this
   have hzz := hz _ hk0 (by simp) i' hr.1 hr.2 rfl
   exact ⟨rfl, rfl, rfl, rfl, hzz.symm⟩
 | false =>
   simp only [WX, w17_26, w17_28, w17_33]
   refine t17e Φ h12 h18 h49 h46 h63 h64 h74 h75 h73 h100 h101 h115 ht hE1 hE2 hPR ?_ _ _ _ _ k [none, _, none, none, none, none, _, none, none, none, none, none, _, _, _, _, _, _, _, _, _, _, _, _, _, _, _, _, _, _, _, _, _, _, _, _, _, _, _, _, _, _, _, _, _, _, _, _, _, _, _, _, _, _, _, _, _, _, _, _, _, _, _, _, _, _, _, _, _, _, _, _, _, _, _, _, _, _, _, _, _, _, _, _, _, _, _, _, _, _, _, _, _, _, _, _, _, _, _, _, _, _, _, _, _, _, _, _, _, _, _, _, _, _, _, _, _, _, _, _, _, _, _, _, _, _, _]
   intro op' d' a' b' i' hm' hs'
   obtain ⟨rfl, rfl, rfl, rfl, e⟩ := HC op' d' a' b' i' hm' hs'
   have hz := (may_regs hm').2.2.2 hfi.symm
   exact ⟨rfl, rfl, rfl, rfl, hz⟩
theorem t17b (Φ : Nat → Option CF) {L : List Tab} (h12 : Φ 12 = some (.orc (pureO h37))) (h18 : Φ 18 = some (.orc (pureT L h18))) (h49 : Φ 49 = some c49) (h46 : Φ 46 = some c46) (h63 : Φ 63 = some c63) (h64 : Φ 64 = some c64) (h74 : Φ 74 = some c74) (h75 : Φ 75 = some c75) (h73 : Φ 73 = some c73) (h100 : Φ 100 = some c100) (h101 : Φ 101 = some (.orc (pureO h101))) (h115 : Φ 115 = some (.orc (pureO h115))) {F : RO} {M0 M : Mem} {c c1 cb : Nat} {v : V} (ht : tabsIn F L = true) (hE1 : ErrVar F 1) (hE2 : ErrVar F 2) {s : List UInt8} {W : List (List UInt8)} (hW : W.length ≤ 9) (hW2 : ∀ w ∈ W, w.length ≤ 1000000) {op d a : Int} (h : PR F M0 M c1 c cb v W op d a 0 0) (k : Nat) (hk : k ≤ 3)
  (HC : ∀ op' d' a' b' i', mayI op' d' a' b' i' = true → textB op' d' a' b' i' = s → op' = op ∧ d' = d ∧ a' = a ∧ W.drop k = R3 op b' i') {fd fa fb fi : Bool} (hfd : fd = dI (formI op)) (hfa : fa = aI (formI op)) (hfb : fb = bI (formI op)) (hfi : fi = iI (formI op)) (u : List (Option V)) :
  Wp b17_22 (K Φ none 17 F) (.mk ((.n (.n (.n (.n (uv7 u 63 31 95 15 79 47 111) (some (.b fd)) (uv7 u 71 39 103 23 87 55 119)) (some (.i .i64 0)) (.n (uv7 u 67 35 99 19 83 51 115) (some (.i .i64 (k : Int))) (uv7 u 75 43 107 27 91 59 123))) (uO u 1) (.n (.n (uv7 u 65 33 97 17 81 49 113) (some (.b fb)) (uv7 u 73 41 105 25 89 57 121)) (some (.p cb 0)) (.n (uv7 u 69 37 101 21 85 53 117) (uO u 13) (uv7 u 77 45 109 29 93 61 125)))) (some (sV s)) (.n (.n (.n (uv7 u 64 32 96 16 80 48 112) (some (.b fa)) (uv7 u 72 40 104 24 88 56 120)) (some (v)) (.n (uv7 u 68 36 100 20 84 52 116) (uO u 12) (uv7 u 76 44 108 28 92 60 124))) (some (.p c 0)) (.n (.n (uv7 u 66 34 98 18 82 50 114) (some (.b fi)) (uv7 u 74 42 106 26 90 58 122)) (uO u 6) (.n (uv7 u 70 38 102 22 86 54 118) (uO u 14) (uv7 u 78 46 110 30 94 62 126)))))) [] M c1) (seqQ b17_25 (K Φ none 17 F) (seqQ b17_33 (K Φ none 17 F) (endQ F [.cn (.r .h) 5, .t (.l (.l .h))] fun r M' c' => ParseP s r ∧ Gr c M0 c' M'))) := by
 have hPR := h
 obtain ⟨ok, k1, k2, k3, g0, g1, g2, g3, g4, g5⟩ := h
 cases fb with
 | true =>
   have q8 : biV .add (.i .i64 (k : Int)) (.i .i64 1) = some (.i .i64 ((k + 1 : Nat) : Int)) := by rw [i64_add _ _ (by omega) (by omega)]; simp
   simp only [WX, w17_22, w17_23, w17_25]
   refine putE_to ((r49 Φ h49 h46 h63 h64 h74 h75 h73 h100 h101 h115 ok hE1 hE2 g3 g2 hW hW2 k 1 (by omega) (by decide)).mono ?_)
   rintro r M2 c2 ⟨z, rfl, hz, hg⟩
   have hP := PR.step (op' := op) (d' := d) (a' := a) (b' := z) (i' := 0) hPR hg
   have e3 : M2.get cb = some (rowB 26 [.i .i64 op, .i .i64 d, .i .i64 a, .i .i64 0, .i .i64 0]) := by rw [hg.old cb (by omega)]; exact g1
   have hst := store_row e3 3 [.i .i64 z] (by simp) rfl
   simp only [WX, Nat.reduceAdd, w17_24, hst, q8]
   refine t17i Φ h12 h18 h49 h46 h63 h64 h74 h75 h73 h100 h101 h115 ht hE1 hE2 hW hW2 hP (k + 1) (by omega) ?_ hfd hfa hfb hfi [none, _, none, none, none, none, _, none, none, none, none, none, _, _, _, _, _, _, _, _, _, _, _, _, _, _, _, _, _, _, _, _, _, _, _, _, _, _, _, _, _, _, _, _, _, _, _, _, _, _, _, _, _, _, _, _, _, _, _, _, _, _, _, _, _, _, _, _, _, _, _, _, _, _, _, _, _, _, _, _, _, _, _, _, _, _, _, _, _, _, _, _, _, _, _, _, _, _, _, _, _, _, _, _, _, _, _, _, _, _, _, _, _, _, _, _, _, _, _, _, _, _, _, _, _, _, _]
   intro op' d' a' b' i' hm' hs'
   obtain ⟨rfl, rfl, rfl, e⟩ := HC op' d' a' b' i' hm' hs'
   obtain ⟨m1, m2, m3, m4, m5⟩ := may_num hm'
   have hw : W.drop k = (114 :: itoa b') :: R4 op' i' := by rw [e, R3, ← hfb, if_pos rfl] <;> rfl
   have hr : -10000000 < b' ∧ b' < 10000000 := by have := m3 2; rw [show numT d' a' b' 2 = b' from rfl] at this; omega
   have hk0 : W[k]? = some (114 :: itoa b') := by
    have := congrArg (fun l => l[0]?) hw
    simpa using this
   have hzz := hz _ hk0 (by simp) b' hr.1 hr.2 rfl
   exact ⟨rfl, rfl, rfl, hzz.symm, by rw [← List.drop_drop, hw]; rfl⟩
 | false =>
   simp only [WX, w17_22, w17_25]
   refine t17i Φ h12 h18 h49 h46 h63 h64 h74 h75 h73 h100 h101 h115 ht hE1 hE2 hW hW2 hPR k (by omega) ?_ hfd hfa hfb hfi [none, _, none, none, none, none, _, none, none, none, none, none, _, _, _, _, _, _, _, _, _, _, _, _, _, _, _, _, _, _, _, _, _, _, _, _, _, _, _, _, _, _, _, _, _, _, _, _, _, _, _, _, _, _, _, _, _, _, _, _, _, _, _, _, _, _, _, _, _, _, _, _, _, _, _, _, _, _, _, _, _, _, _, _, _, _, _, _, _, _, _, _, _, _, _, _, _, _, _, _, _, _, _, _, _, _, _, _, _, _, _, _, _, _, _, _, _, _, _, _, _, _, _, _, _, _, _]
   intro op' d' a' b' i' hm' hs'
   obtain ⟨rfl, rfl, rfl, e⟩ := HC op' d' a' b' i' hm' hs'
   have hz := (may_regs hm').2.2.1 hfb.symm
   exact ⟨rfl, rfl, rfl, hz, by rw [e, R3, ← hfb, if_neg (by decide)] <;> rfl⟩
theorem t17a (Φ : Nat → Option CF) {L : List Tab} (h12 : Φ 12 = some (.orc (pureO h37))) (h18 : Φ 18 = some (.orc (pureT L h18))) (h49 : Φ 49 = some c49) (h46 : Φ 46 = some c46) (h63 : Φ 63 = some c63) (h64 : Φ 64 = some c64) (h74 : Φ 74 = some c74) (h75 : Φ 75 = some c75) (h73 : Φ 73 = some c73) (h100 : Φ 100 = some c100) (h101 : Φ 101 = some (.orc (pureO h101))) (h115 : Φ 115 = some (.orc (pureO h115))) {F : RO} {M0 M : Mem} {c c1 cb : Nat} {v : V} (ht : tabsIn F L = true) (hE1 : ErrVar F 1) (hE2 : ErrVar F 2) {s : List UInt8} {W : List (List UInt8)} (hW : W.length ≤ 9) (hW2 : ∀ w ∈ W, w.length ≤ 1000000) {op d : Int} (h : PR F M0 M c1 c cb v W op d 0 0 0) (k : Nat) (hk : k ≤ 2)
  (HC : ∀ op' d' a' b' i', mayI op' d' a' b' i' = true → textB op' d' a' b' i' = s → op' = op ∧ d' = d ∧ W.drop k = R2 op a' b' i') {fd fa fb fi : Bool} (hfd : fd = dI (formI op)) (hfa : fa = aI (formI op)) (hfb : fb = bI (formI op)) (hfi : fi = iI (formI op)) (u : List (Option V)) :
  Wp b17_34 (K Φ none 17 F) (.mk ((.n (.n (.n (.n (uv7 u 63 31 95 15 79 47 111) (some (.b fd)) (uv7 u 71 39 103 23 87 55 119)) (some (.i .i64 0)) (.n (uv7 u 67 35 99 19 83 51 115) (some (.i .i64 (k : Int))) (uv7 u 75 43 107 27 91 59 123))) (uO u 1) (.n (.n (uv7 u 65 33 97 17 81 49 113) (some (.b fb)) (uv7 u 73 41 105 25 89 57 121)) (some (.p cb 0)) (.n (uv7 u 69 37 101 21 85 53 117) (uO u 13) (uv7 u 77 45 109 29 93 61 125)))) (some (sV s)) (.n (.n (.n (uv7 u 64 32 96 16 80 48 112) (some (.b fa)) (uv7 u 72 40 104 24 88 56 120)) (some (v)) (.n (uv7 u 68 36 100 20 84 52 116) (uO u 12) (uv7 u 76 44 108 28 92 60 124))) (some (.p c 0)) (.n (.n (uv7 u 66 34 98 18 82 50 114) (some (.b fi)) (uv7 u 74 42 106 26 90 58 122)) (uO u 6) (.n (uv7 u 70 38 102 22 86 54 118) (uO u 14) (uv7 u 78 46 110 30 94 62 126)))))) [] M c1) (endQ F [.cn (.r .h) 5, .t (.l (.l .h))] fun r M' c' => ParseP s r ∧ Gr c M0 c' M') := by
 have hPR := h
 obtain ⟨ok, k1, k2, k3, g0, g1, g2, g3, g4, g5⟩ := h
 cases fa with
 | true =>
   have q8 : biV .add (.i .i64 (k : Int)) (.i .i64 1) = some (.i .i64 ((k + 1 : Nat) : Int)) := by rw [i64_add _ _ (by omega) (by omega)]; simp
   simp only [WX, w17_18, w17_19, w17_21, w17_34]
   refine putE_to ((r49 Φ h49 h46 h63 h64 h74 h75 h73 h100 h101 h115 ok hE1 hE2 g3 g2 hW hW2 k 1 (by omega) (by decide)).mono ?_)
   rintro r M2 c2 ⟨z, rfl, hz, hg⟩
   have hP := PR.step (op' := op) (d' := d) (a' := z) (b' := 0) (i' := 0) hPR hg
   have e3 : M2.get cb = some (rowB 26 [.i .i64 op, .i .i64 d, .i .i64 0, .i .i64 0, .i .i64 0]) := by rw [hg.old cb (by omega)]; exact g1
   have hst := store_row e3 2 [.i .i64 z] (by simp) rfl
   simp only [WX, Nat.reduceAdd, w17_20, hst, q8]
   refine t17b Φ h12 h18 h49 h46 h63 h64 h74 h75 h73 h100 h101 h115 ht hE1 hE2 hW hW2 hP (k + 1) (by omega) ?_ hfd hfa hfb hfi [none, _, none, none, none, none, _, none, none, none, none, none, _, _, _, _, _, _, _, _, _, _, _, _, _, _, _, _, _, _, _, _, _, _, _, _, _, _, _, _, _, _, _, _, _, _, _, _, _, _, _, _, _, _, _, _, _, _, _, _, _, _, _, _, _, _, _, _, _, _, _, _, _, _, _, _, _, _, _, _, _, _, _, _, _, _, _, _, _, _, _, _, _, _, _, _, _, _, _, _, _, _, _, _, _, _, _, _, _, _, _, _, _, _, _, _, _, _, _, _, _, _, _, _, _, _, _]
   intro op' d' a' b' i' hm' hs'
   obtain ⟨rfl, rfl, e⟩ := HC op' d' a' b' i' hm' hs'
   obtain ⟨m1, m2, m3, m4, m5⟩ := may_num hm'
   have hw : W.drop k = (114 :: itoa a') :: R3 op' b' i' := by rw [e, R2, ← hfa, if_pos rfl] <;> rfl
   have hr : -10000000 < a' ∧ a' < 10000000 := by have := m3 1; rw [show numT d' a' b' 1 = a' from rfl] at this; omega
   have hk0 : W[k]? = some (114 :: itoa a') := by
    have := congrArg (fun l => l[0]?) hw
    simpa using this
   have hzz := hz _ hk0 (by simp) a' hr.1 hr.2 rfl
   exact ⟨rfl, rfl, hzz.symm, by rw [← List.drop_drop, hw]; rfl⟩
 | false =>
   simp only [WX, w17_18, w17_21, w17_34]
   refine t17b Φ h12 h18 h49 h46 h63 h64 h74 h75 h73 h100 h101 h115 ht hE1 hE2 hW hW2 hPR k (by omega) ?_ hfd hfa hfb hfi [none, _, none, none, none, none, _, none, none, none, none, none, _, _, _, _, _, _, _, _, _, _, _, _, _, _, _, _, _, _, _, _, _, _, _, _, _, _, _, _, _, _, _, _, _, _, _, _, _, _, _, _, _, _, _, _, _, _, _, _, _, _, _, _, _, _, _, _, _, _, _, _, _, _, _, _, _, _, _, _, _, _, _, _, _, _, _, _, _, _, _, _, _, _, _, _, _, _, _, _, _, _, _, _, _, _, _, _, _, _, _, _, _, _, _, _, _, _, _, _, _, _, _, _, _, _, _]
   intro op' d' a' b' i' hm' hs'
   obtain ⟨rfl, rfl, e⟩ := HC op' d' a' b' i' hm' hs'
   have hz := (may_regs hm').2.1 hfa.symm
   exact ⟨rfl, rfl, hz, by rw [e, R2, ← hfa, if_neg (by decide)] <;> rfl⟩
theorem t17d (Φ : Nat → Option CF) {L : List Tab} (h12 : Φ 12 = some (.orc (pureO h37))) (h18 : Φ 18 = some (.orc (pureT L h18))) (h49 : Φ 49 = some c49) (h46 : Φ 46 = some c46) (h63 : Φ 63 = some c63) (h64 : Φ 64 = some c64) (h74 : Φ 74 = some c74) (h75 : Φ 75 = some c75) (h73 : Φ 73 = some c73) (h100 : Φ 100 = some c100) (h101 : Φ 101 = some (.orc (pureO h101))) (h115 : Φ 115 = some (.orc (pureO h115))) {F : RO} {M0 M : Mem} {c c1 cb : Nat} {v : V} (ht : tabsIn F L = true) (hE1 : ErrVar F 1) (hE2 : ErrVar F 2) {s : List UInt8} {W : List (List UInt8)} (hW : W.length ≤ 9) (hW2 : ∀ w ∈ W, w.length ≤ 1000000) {op : Int} (h : PR F M0 M c1 c cb v W op 0 0 0 0) (k : Nat) (hk : k ≤ 1)
  (HC : ∀ op' d' a' b' i', mayI op' d' a' b' i' = true → textB op' d' a' b' i' = s → op' = op ∧ W.drop k = R1 op d' a' b' i') {fd fa fb fi : Bool} (hfd : fd = dI (formI op)) (hfa : fa = aI (formI op)) (hfb : fb = bI (formI op)) (hfi : fi = iI (formI op)) (u : List (Option V)) :
  Wp b17_14 (K Φ none 17 F) (.mk ((.n (.n (.n (.n (uv7 u 63 31 95 15 79 47 111) (some (.b fd)) (uv7 u 71 39 103 23 87 55 119)) (some (.i .i64 0)) (.n (uv7 u 67 35 99 19 83 51 115) (some (.i .i64 (k : Int))) (uv7 u 75 43 107 27 91 59 123))) (uO u 1) (.n (.n (uv7 u 65 33 97 17 81 49 113) (some (.b fb)) (uv7 u 73 41 105 25 89 57 121)) (some (.p cb 0)) (.n (uv7 u 69 37 101 21 85 53 117) (uO u 13) (uv7 u 77 45 109 29 93 61 125)))) (some (sV s)) (.n (.n (.n (uv7 u 64 32 96 16 80 48 112) (some (.b fa)) (uv7 u 72 40 104 24 88 56 120)) (some (v)) (.n (uv7 u 68 36 100 20 84 52 116) (uO u 12) (uv7 u 76 44 108 28 92 60 124))) (some (.p c 0)) (.n (.n (uv7 u 66 34 98 18 82 50 114) (some (.b fi)) (uv7 u 74 42 106 26 90 58 122)) (uO u 6) (.n (uv7 u 70 38 102 22 86 54 118) (uO u 14) (uv7 u 78 46 110 30 94 62 126)))))) [] M c1) (seqQ b17_17 (K Φ none 17 F) (seqQ b17_34 (K Φ none 17 F) (endQ F [.cn (.r .h) 5, .t (.l (.l .h))] fun r M' c' => ParseP s r ∧ Gr c M0 c' M'))) := by
 have hPR := h
 obtain ⟨ok, k1, k2, k3, g0, g1, g2, g3, g4, g5⟩ := h
 cases fd with
 | true =>
   have q8 : biV .add (.i .i64 (k : Int)) (.i .i64 1) = some (.i .i64 ((k + 1 : Nat) : Int)) := by rw [i64_add _ _ (by omega) (by omega)]; simp
   simp only [WX, w17_14, w17_15, w17_17]
   refine putE_to ((r49 Φ h49 h46 h63 h64 h74 h75 h73 h100 h101 h115 ok hE1 hE2 g3 g2 hW hW2 k 1 (by omega) (by decide)).mono ?_)
   rintro r M2 c2 ⟨z, rfl, hz, hg⟩
   have hP := PR.step (op' := op) (d' := z) (a' := 0) (b' := 0) (i' := 0) hPR hg
   have e3 : M2.get cb = some (rowB 26 [.i .i64 op, .i .i64 0, .i .i64 0, .i .i64 0, .i .i64 0]) := by rw [hg.old cb (by omega)]; exact g1
   have hst := store_row e3 1 [.i .i64 z] (by simp) rfl
   simp only [WX, Nat.reduceAdd, w17_16, hst, q8]
   refine t17a Φ h12 h18 h49 h46 h63 h64 h74 h75 h73 h100 h101 h115 ht hE1 hE2 hW hW2 hP (k + 1) (by omega) ?_ hfd hfa hfb hfi [none, _, none, none, none, none, _, none, none, none, none, none, _, _, _, _, _, _, _, _, _, _, _, _, _, _, _, _, _, _, _, _, _, _, _, _, _, _, _, _, _, _, _, _, _, _, _, _, _, _, _, _, _, _, _, _, _, _, _, _, _, _, _, _, _, _, _, _, _, _, _, _, _, _, _, _, _, _, _, _, _, _, _, _, _, _, _, _, _, _, _, _, _, _, _, _, _, _, _, _, _, _, _, _, _, _, _, _, _, _, _, _, _, _, _, _, _, _, _, _, _, _, _, _, _, _, _]
   intro op' d' a' b' i' hm' hs'
   obtain ⟨rfl, e⟩ := HC op' d' a' b' i' hm' hs'
   obtain ⟨m1, m2, m3, m4, m5⟩ := may_num hm'
   have hw : W.drop k = (114 :: itoa d') :: R2 op' a' b' i' := by rw [e, R1, ← hfd, if_pos rfl] <;> rfl
   have hr : -10000000 < d' ∧ d' < 10000000 := by have := m3 0; rw [show numT d' a' b' 0 = d' from rfl] at this; omega
   have hk0 : W[k]? = some (114 :: itoa d') := by
    have := congrArg (fun l => l[0]?) hw
    simpa using this
   have hzz := hz _ hk0 (by simp) d' hr.1 hr.2 rfl
   exact ⟨rfl, hzz.symm, by rw [← List.drop_drop, hw]; rfl⟩
 | false =>
   simp only [WX, w17_14, w17_17]
   refine t17a Φ h12 h18 h49 h46 h63 h64 h74 h75 h73 h100 h101 h115 ht hE1 hE2 hW hW2 hPR k (by omega) ?_ hfd hfa hfb hfi [none, _, none, none, none, none, _, none, none, none, none, none, _, _, _, _, _, _, _, _, _, _, _, _, _, _, _, _, _, _, _, _, _, _, _, _, _, _, _, _, _, _, _, _, _, _, _, _, _, _, _, _, _, _, _, _, _, _, _, _, _, _, _, _, _, _, _, _, _, _, _, _, _, _, _, _, _, _, _, _, _, _, _, _, _, _, _, _, _, _, _, _, _, _, _, _, _, _, _, _, _, _, _, _, _, _, _, _, _, _, _, _, _, _, _, _, _, _, _, _, _, _, _, _, _, _, _]
   intro op' d' a' b' i' hm' hs'
   obtain ⟨rfl, e⟩ := HC op' d' a' b' i' hm' hs'
   have hz := (may_regs hm').1 hfd.symm
   exact ⟨rfl, hz, by rw [e, R1, ← hfd, if_neg (by decide)] <;> rfl⟩
theorem biQ_s {F : RO} (a b : List UInt8) (M : Mem) : biQ .eql (sV a) (sV b) F M = oV (biV .eql (sV a) (sV b)) := by
 refine (dq_of ?_).trans (congrArg oV (v_bi (F := F) .eql _ _ M .e))
 intro F' M'
 show vB (strEq a.length (strN a) b.length (strN b)) = oV (vB (strEq a.length (strN a) b.length (strN b))).val
 rw [vB_eq]; rfl
theorem splitN_ne (k : Nat) (s : List UInt8) : splitN (k + 1) s ≠ [] := by
 unfold splitN
 cases fnd 32 s 0 <;> simp
theorem splitN_bound : ∀ (k : Nat) (s : List UInt8), ∀ w ∈ splitN k s, w.length ≤ s.length
 | 0, s, w, h => by cases h
 | k + 1, s, w, h => by
   unfold splitN at h
   cases hf : fnd 32 s 0 with
   | none => rw [hf] at h; rw [List.mem_singleton.1 h]; exact Nat.le_refl _
   | some j =>
     rw [hf] at h
     rcases List.mem_cons.1 h with e | h
     · rw [e, List.length_take]; omega
     · have := splitN_bound k _ w h
       rw [List.length_drop] at this; omega
theorem r17 (Φ : Nat → Option CF) {L : List Tab} (h12 : Φ 12 = some (.orc (pureO h37))) (h18 : Φ 18 = some (.orc (pureT L h18))) (h49 : Φ 49 = some c49) (h46 : Φ 46 = some c46) (h63 : Φ 63 = some c63) (h64 : Φ 64 = some c64) (h74 : Φ 74 = some c74) (h75 : Φ 75 = some c75) (h73 : Φ 73 = some c73) (h100 : Φ 100 = some c100) (h101 : Φ 101 = some (.orc (pureO h101))) (h115 : Φ 115 = some (.orc (pureO h115))) (h : Φ 17 = some c17) (h48 : Φ 48 = some c48) (h23 : Φ 23 = some c23) (h26 : Φ 26 = some (.orc (pureO h25))) (h38 : Φ 38 = some (.orc (pureO h38)))
  {F : RO} {M : Mem} {c : Nat} (ok : Okm F M c) (ht : tabsIn F L = true) (hE1 : ErrVar F 1) (hE2 : ErrVar F 2) (hlow : ∀ g, g < 1000 → M.get g = none) (s : List UInt8) (hs : s.length ≤ 1000000) :
  Calls Φ F 17 [sV s] M c fun r M' c' => ParseP s r ∧ Gr c M c' M' := by
 refine calls_walk h ?_
 have hge := ok.ge
 have gr0 : Gr c M (c + 1) (M.set c (rowB 26 [.i .i64 0, .i .i64 0, .i .i64 0, .i .i64 0, .i .i64 0])) := (Gr.refl ok).set c _ (Nat.le_refl _) (Nat.lt_succ_self _) (Nat.le_succ _)
 have ok0 := gr0.ok ok
 simp only [WX, e17, w17_1, w17_2, w17_36]
 refine putE_to ((r48 Φ h48 ok0 s hs).mono ?_)
 rintro v M1 c1 ⟨hv, hown, hg1⟩
 have ok1 := hg1.ok ok0
 have hle1 := hg1.le
 simp only [WX, w17_3, w17_4, w17_11]
 obtain ⟨W, hWd⟩ : ∃ W, W = splitN 9 s := ⟨_, rfl⟩
 rw [← hWd] at hv hown
 have hW9 : W.length ≤ 9 := by rw [hWd]; exact splitN_len 9 s
 have hWb : ∀ w ∈ W, w.length ≤ 1000000 := fun w hw => by rw [hWd] at hw; exact Nat.le_trans (splitN_bound 9 s w hw) hs
 have hW0 : 0 < W.length := List.length_pos_iff.2 (by rw [hWd]; exact splitN_ne 8 s)
 obtain ⟨X, hX⟩ : ∃ X : Mem, X = M1.set c1 (rowB 26 [.i .i64 0, .i .i64 0, .i .i64 0, .i .i64 0, .i .i64 0]) := ⟨_, rfl⟩
 rw [← hX]
 have grX : Gr c1 M1 (c1 + 1) X := by rw [hX]; exact (Gr.refl ok1).set c1 _ (Nat.le_refl _) (Nat.lt_succ_self _) (Nat.le_succ _)
 have okX := grX.ok ok1
 have x0 : X.get c = some (rowB 26 [.i .i64 0, .i .i64 0, .i .i64 0, .i .i64 0, .i .i64 0]) := by rw [grX.old c (by omega), hg1.old c (by omega), get_same]
 have x1 : X.get c1 = some (rowB 26 [.i .i64 0, .i .i64 0, .i .i64 0, .i .i64 0, .i .i64 0]) := by rw [hX, get_same]
 have xo : SlOwn F X (c + 1) c1 1 v (strE W) := hown.up (Nat.le_refl _) (Nat.le_refl _) fun b _ hb => grX.old b hb
 have xl : ∀ g, g < 1000 → X.get g = none := fun g hg => by rw [grX.old g (by omega), hg1.old g (by omega), get_ne _ _ (by omega)]; exact hlow g hg
 clear hX
 obtain ⟨I1, hI1⟩ : ∃ I : Nat → St → Prop, ∀ n s', I n s' ↔ (∃ (k : Nat) (op : Int) (M2 : Mem) (c2 : Nat) (u : List (Option V)), n = 29 - k ∧ 1 ≤ k ∧ k ≤ 29 ∧ s' = .mk ((.n (.n (.n (.n (uv7 u 63 31 95 15 79 47 111) (uO u 7) (uv7 u 71 39 103 23 87 55 119)) (some (.i .i64 0)) (.n (uv7 u 67 35 99 19 83 51 115) (uO u 11) (uv7 u 75 43 107 27 91 59 123))) (uO u 1) (.n (.n (uv7 u 65 33 97 17 81 49 113) (uO u 9) (uv7 u 73 41 105 25 89 57 121)) (some (.p c1 0)) (.n (uv7 u 69 37 101 21 85 53 117) (uO u 13) (uv7 u 77 45 109 29 93 61 125)))) (some (sV s)) (.n (.n (.n (uv7 u 64 32 96 16 80 48 112) (uO u 8) (uv7 u 72 40 104 24 88 56 120)) (some (v)) (.n (uv7 u 68 36 100 20 84 52 116) (uO u 12) (uv7 u 76 44 108 28 92 60 124))) (some (.p c 0)) (.n (.n (uv7 u 66 34 98 18 82 50 114) (uO u 10) (uv7 u 74 42 106 26 90 58 122)) (some (.i .i64 (k : Int))) (.n (uv7 u 70 38 102 22 86 54 118) (uO u 14) (uv7 u 78 46 110 30 94 62 126)))))) [] M2 c2 ∧ PR F M M2 c2 c c1 v W op 0 0 0 0 ∧ ((∃ j, j < k ∧ IsN W[0] j ∧ op = (j : Int)) ∨ ((∀ j, j < k → ¬ IsN W[0] j) ∧ op = 0))) := ⟨fun n s' => _, fun _ _ => Iff.rfl⟩
 refine wp_while I1 ?_ 28 _ ((hI1 _ _).2 ⟨1, 0, X, c1 + 1, [none, _, none, none, none, none, none, _, _, _, _, _, _, _, _, _, _, _, _, _, _, _, _, _, _, _, _, _, _, _, _, _, _, _, _, _, _, _, _, _, _, _, _, _, _, _, _, _, _, _, _, _, _, _, _, _, _, _, _, _, _, _, _, _, _, _, _, _, _, _, _, _, _, _, _, _, _, _, _, _, _, _, _, _, _, _, _, _, _, _, _, _, _, _, _, _, _, _, _, _, _, _, _, _, _, _, _, _, _, _, _, _, _, _, _, _, _, _, _, _, _, _, _, _, _, _, _], rfl, Nat.le_refl _, by omega, rfl, ⟨okX, by omega, by omega, hge, x0, x1, (xo.up (c' := c1 + 1) (lo' := c + 1) (M' := X) (by omega) (Nat.le_refl _) fun _ _ _ => rfl).sl, xl, xo, (gr0.trans hg1).trans grX⟩, .inr ⟨fun j hj hn => by have := hn.1; omega, rfl⟩⟩)
 intro n s' hIs
 obtain ⟨k, op, M2, c2, u, rfl, hk1, hk2, rfl, hPR, hor⟩ := (hI1 _ _).1 hIs
 clear hIs
 have hPR0 := hPR
 obtain ⟨ok2, k1, k2, k3, g0, g1, g2, g3, g4, g5⟩ := hPR
 have q8 : biV .add (.i .i64 (k : Int)) (.i .i64 1) = some (.i .i64 ((k + 1 : Nat) : Int)) := by rw [i64_add _ _ (by omega) (by omega)]; simp
 by_cases hlt : k ≤ 28
 · have d1 : decide ((k : Int) ≤ 28) = true := decide_eq_true (by omega)
   obtain ⟨b0, o0, _, hia0, hld0⟩ := str_at g2 0 hW0
   have hia0 := hia0 .i64
   rw [show ((0 : Nat) : Int) = 0 from rfl] at hia0
   simp only [WX, w17_5, w17_6, w17_7, w17_9, d1, hia0, hld0]
   have ok2' : Okm F M2 (c2 + 8) := ⟨fun b hb => ok2.hiM b (by omega), fun b hb => ok2.hiF b (by omega), ok2.ap, by have := ok2.ge; omega⟩
   refine wd_alloc (v := .l (c2 + 8) 0 29 29) (blk := namesBlk) _ _ _ _ _ _ _ _ _ _ _ ok2' (fun F' M' => r23' Φ h23) ?_
   intro N hN hNo
   have grN : Gr c2 M2 (c2 + 8 + 1) N := ⟨by omega, fun b hb => hNo b (by omega), fun b hb => by rw [hNo b (by omega)]; exact ok2.hiM b (by omega)⟩
   obtain ⟨bb, oo, _, hia, hld⟩ := str_at (names_at (F := F) (c := c2 + 8 + 1) hN (by omega)) k (by rw [nameL_len]; omega)
   have hia := hia .i64
   have hNk : ∀ (w : List UInt8), IsN w k ↔ w = nameL[k]'(by rw [nameL_len]; omega) := fun w => by
    unfold IsN
    rw [List.getElem?_eq_getElem (show k < nameL.length by rw [nameL_len]; omega)]
    constructor
    · rintro ⟨_, e⟩; exact (Option.some.inj e).symm
    · rintro rfl; exact ⟨hk1, rfl⟩
   have e1 : N.get c1 = some (rowB 26 [.i .i64 op, .i .i64 0, .i .i64 0, .i .i64 0, .i .i64 0]) := by rw [hNo c1 (by omega)]; exact g1
   by_cases hm : nameL[k]'(by rw [nameL_len]; omega) = W[0]
   · have dm : decide (nameL[k]'(by rw [nameL_len]; omega) = W[0]) = true := decide_eq_true hm
     have hst := store_row e1 0 [.i .i64 (k : Int)] (by simp) rfl
     simp only [WX, Nat.reduceAdd, w17_8, w17_10, hia, hld, biQ_s, dm, hst, q8]
     refine ⟨29 - (k + 1), by omega, (hI1 _ _).2 ⟨k + 1, (k : Int), _, c2 + 8 + 1, [none, _, none, none, none, none, none, _, _, _, _, _, _, _, _, _, _, _, _, _, _, _, _, _, _, _, _, _, _, _, _, _, _, _, _, _, _, _, _, _, _, _, _, _, _, _, _, _, _, _, _, _, _, _, _, _, _, _, _, _, _, _, _, _, _, _, _, _, _, _, _, _, _, _, _, _, _, _, _, _, _, _, _, _, _, _, _, _, _, _, _, _, _, _, _, _, _, _, _, _, _, _, _, _, _, _, _, _, _, _, _, _, _, _, _, _, _, _, _, _, _, _, _, _, _, _, _], rfl, by omega, by omega, rfl, PR.step (op' := (k : Int)) (d' := 0) (a' := 0) (b' := 0) (i' := 0) hPR0 grN, .inl ⟨k, Nat.lt_succ_self _, (hNk _).2 hm.symm, rfl⟩⟩⟩
   · have dm : decide (nameL[k]'(by rw [nameL_len]; omega) = W[0]) = false := decide_eq_false hm
     simp only [WX, Nat.reduceAdd, w17_10, hia, hld, biQ_s, dm, q8]
     have hP := PR.step (op' := op) (d' := 0) (a' := 0) (b' := 0) (i' := 0) hPR0 grN
     rw [← set_same e1] at hP
     refine ⟨29 - (k + 1), by omega, (hI1 _ _).2 ⟨k + 1, op, N, c2 + 8 + 1, [none, _, none, none, none, none, none, _, _, _, _, _, _, _, _, _, _, _, _, _, _, _, _, _, _, _, _, _, _, _, _, _, _, _, _, _, _, _, _, _, _, _, _, _, _, _, _, _, _, _, _, _, _, _, _, _, _, _, _, _, _, _, _, _, _, _, _, _, _, _, _, _, _, _, _, _, _, _, _, _, _, _, _, _, _, _, _, _, _, _, _, _, _, _, _, _, _, _, _, _, _, _, _, _, _, _, _, _, _, _, _, _, _, _, _, _, _, _, _, _, _, _, _, _, _, _, _], rfl, by omega, by omega, rfl, hP, ?_⟩⟩
     rcases hor with ⟨j, hj, h1, h2⟩ | ⟨h1, h2⟩
     · exact .inl ⟨j, by omega, h1, h2⟩
     · refine .inr ⟨fun j hj hn => ?_, h2⟩
       by_cases hjk : j = k
       · subst hjk; exact hm ((hNk _).1 hn).symm
       · exact h1 j (by omega) hn
 · have d1 : decide ((k : Int) ≤ 28) = false := decide_eq_false (by omega)
   obtain rfl : k = 29 := by omega
   have ldo : load1 F M2 c1 0 = some (.i .i64 op) := load_row g1 0
   simp only [WX, w17_5, w17_6, w17_12, w17_13, w17_35, d1, ldo, h26, h25_eq, h38, h38_eq]
   refine t17d Φ h12 h18 h49 h46 h63 h64 h74 h75 h73 h100 h101 h115 ht hE1 hE2 hW9 hWb hPR0 1 (by omega) ?_ rfl rfl rfl rfl [none, _, none, none, none, none, _, none, none, none, none, none, _, _, _, _, _, _, _, _, _, _, _, _, _, _, _, _, _, _, _, _, _, _, _, _, _, _, _, _, _, _, _, _, _, _, _, _, _, _, _, _, _, _, _, _, _, _, _, _, _, _, _, _, _, _, _, _, _, _, _, _, _, _, _, _, _, _, _, _, _, _, _, _, _, _, _, _, _, _, _, _, _, _, _, _, _, _, _, _, _, _, _, _, _, _, _, _, _, _, _, _, _, _, _, _, _, _, _, _, _, _, _, _, _, _, _]
   intro op' d' a' b' i' hm' hs'
   obtain ⟨n1, n2, n3, n4, n5⟩ := may_num hm'
   have hsp : W = nameB op' :: R1 op' d' a' b' i' := by
    rw [hWd, ← hs', textB, words_eq]
    refine split_join 9 _ (by simp) ?_ ?_
    · have hl := wk_len op' d' a' b' 3
      have : (wordsT op' d' a' b' i').length ≤ 9 := by
       rw [wordsT, List.length_append]; split <;> simp <;> omega
      rwa [words_eq] at this
    · intro w hw
      rcases List.mem_cons.1 hw with rfl | hw
      · exact name_no op'
      · have r0 := n3 0; have r1 := n3 1; have r2 := n3 2
        rw [show numT d' a' b' 0 = d' from rfl] at r0
        rw [show numT d' a' b' 1 = a' from rfl] at r1
        rw [show numT d' a' b' 2 = b' from rfl] at r2
        unfold R1 R2 R3 R4 at hw
        simp only [List.mem_append] at hw
        rcases hw with hw | hw | hw | hw
        · split at hw
          · rw [List.mem_singleton.1 hw]; exact rW_no (by omega) (by omega)
          · cases hw
        · split at hw
          · rw [List.mem_singleton.1 hw]; exact rW_no (by omega) (by omega)
          · cases hw
        · split at hw
          · rw [List.mem_singleton.1 hw]; exact rW_no (by omega) (by omega)
          · cases hw
        · split at hw
          · rw [List.mem_singleton.1 hw]; exact itoa_no (by omega) (by omega)
          · cases hw
   have hW0' : W[0] = nameB op' := by simp only [hsp]; rfl
   have hN : IsN (nameB op') op'.toNat := by
    unfold IsN nameB
    rw [if_pos ⟨n1, n2⟩, List.getElem?_eq_getElem (show op'.toNat < nameL.length by rw [nameL_len]; omega)]
    exact ⟨by omega, rfl⟩
   rw [hW0'] at hor
   have he : op' = op := by
    rcases hor with ⟨j, hj, h1, h2⟩ | ⟨h1, _⟩
    · have := isN_uniq hN h1; omega
    · exact absurd hN (h1 _ (by omega))
   subst he
   exact ⟨rfl, by rw [hsp]; rfl⟩
def TabsSelf (L : List Tab) : Prop := ∀ ty, tabsIn (tabF L ty) L = true
theorem okm_self {L : List Tab} {ty : Nat → Nat} {ct : Nat} (hs : TabsSelf L) (hc : 1000 ≤ ct) : Okm (tabF L ty) .e ct := okm_tab (fun t ht => (tabsIn_mem (hs ty) t ht).1) hc
theorem bindS {v w : V} {f : List UInt8 → Option V} (h : (asS v).bind f = some w) : ∃ l, v = sV l ∧ f l = some w := by
 obtain ⟨l, h1, h2⟩ := Option.bind_eq_some_iff.1 h
 exact ⟨l, of_asS h1, h2⟩
theorem bindB {v w : V} {f : UInt8 → Option V} (h : (asB v).bind f = some w) : ∃ b, v = bV b ∧ f b = some w := by
 obtain ⟨l, h1, h2⟩ := Option.bind_eq_some_iff.1 h
 exact ⟨l, of_asB h1, h2⟩
theorem cutV_bd (b : UInt8) (l : List UInt8) : bd (fun _ => False) (cutV b l) := by
 unfold cutV
 cases fnd b l 0 <;> exact ⟨trivial, trivial, trivial, trivial⟩
section
variable {P : Program} (hm : P.follows .mixedOrders = true) {Φ : Nat → Option CF} (hΦ : PhiOk P Φ)
include hm hΦ
theorem o12b (h : Φ 12 = some c12) (h26 : Φ 26 = some (.orc (pureO h25))) (h38 : Φ 38 = some (.orc (pureO h38))) (h39 : Φ 39 = some (.orc (pureO h39))) : OrcOk P 12 (pureO h37) := pure_of hm hΦ (by
 intro args v ct hv hct; unfold h37 at hv; split at hv
 · obtain rfl := Option.some.inj hv; exact ⟨trivial, t12 Φ h h26 h38 h39 _ _ _ _ _ _⟩
 · cases hv)
theorem o96 (h : Φ 96 = some c96) : OrcOk P 96 (pureO h96) := pure_of hm hΦ (by
 intro args v ct hv hct; unfold h96 at hv; split at hv
 · obtain ⟨l, rfl, hv1⟩ := bindS hv
   obtain ⟨b, rfl, hv2⟩ := bindB hv1
   obtain rfl := Option.some.inj hv2; exact ⟨trivial, t96 Φ h _ _ _⟩
 · cases hv)
theorem o72 (h : Φ 72 = some c72) (h96 : Φ 96 = some (.orc (pureO h96))) : OrcOk P 72 (pureO h72) := pure_of hm hΦ (by
 intro args v ct hv hct; unfold h72 at hv; split at hv
 · obtain ⟨l, rfl, hv1⟩ := bindS hv
   obtain ⟨s, rfl, hv2⟩ := bindS hv1
   split at hv2
   · obtain rfl := Option.some.inj hv2; exact ⟨trivial, t72 Φ h h96 _ _ _⟩
   · cases hv2
 · cases hv)
theorem o62 (h : Φ 62 = some c62) (h72 : Φ 72 = some (.orc (pureO h72))) : OrcOk P 62 (pureO h62) := pure_of hm hΦ (by
 intro args v ct hv hct; unfold h62 at hv; split at hv
 · obtain ⟨l, rfl, hv1⟩ := bindS hv
   obtain ⟨s, rfl, hv2⟩ := bindS hv1
   split at hv2
   · split at hv2
     · rename_i hl; obtain rfl := Option.some.inj hv2; exact ⟨cutV_bd _ _, t62 Φ h h72 _ _ hl _⟩
     · cases hv2
   · cases hv2
 · cases hv)
theorem o44 (h : Φ 44 = some c44) (h62' : Φ 62 = some (.orc (pureO h62))) : OrcOk P 44 (pureO h62) := pure_of hm hΦ (by
 intro args v ct hv hct; unfold h62 at hv; split at hv
 · obtain ⟨l, rfl, hv1⟩ := bindS hv
   obtain ⟨s, rfl, hv2⟩ := bindS hv1
   split at hv2
   · split at hv2
     · rename_i hl; obtain rfl := Option.some.inj hv2; exact ⟨cutV_bd _ _, t44 Φ h h62' _ _ hl _⟩
     · cases hv2
   · cases hv2
 · cases hv)
theorem o78 (h : Φ 78 = some c78) : OrcOk P 78 (pureO h78) := pure_of hm hΦ (by
 intro args v ct hv hct; unfold h78 at hv; split at hv
 · obtain ⟨l, rfl, hv1⟩ := bindS hv
   obtain ⟨s, rfl, hv2⟩ := bindS hv1
   obtain rfl := Option.some.inj hv2; exact ⟨trivial, t78 Φ h _ _ _⟩
 · cases hv)
theorem o65 (h : Φ 65 = some c65) (h78 : Φ 78 = some (.orc (pureO h78))) : OrcOk P 65 (pureO h65) := pure_of hm hΦ (by
 intro args v ct hv hct; unfold h65 at hv; split at hv
 · obtain ⟨l, rfl, hv1⟩ := bindS hv
   obtain ⟨s, rfl, hv2⟩ := bindS hv1
   obtain rfl := Option.some.inj hv2; exact ⟨trivial, t65 Φ h h78 _ _ _⟩
 · cases hv)
theorem o47 (h : Φ 47 = some c47) (h65' : Φ 65 = some (.orc (pureO h65))) : OrcOk P 47 (pureO h65) := pure_of hm hΦ (by
 intro args v ct hv hct; unfold h65 at hv; split at hv
 · obtain ⟨l, rfl, hv1⟩ := bindS hv
   obtain ⟨s, rfl, hv2⟩ := bindS hv1
   obtain rfl := Option.some.inj hv2; exact ⟨trivial, t47 Φ h h65' _ _ _⟩
 · cases hv)
theorem o109 (h : Φ 109 = some c109) : OrcOk P 109 (pureO h109) := pure_of hm hΦ (by
 intro args v ct hv hct; unfold h109 at hv; split at hv
 · split at hv
   · rename_i hh; obtain rfl := Option.some.inj hv; exact ⟨trivial, t109 Φ h _ hh _⟩
   · cases hv
 · cases hv)
theorem o110 (h : Φ 110 = some c110) : OrcOk P 110 (pureO h110) := pure_of hm hΦ (by
 intro args v ct hv hct; unfold h110 at hv; split at hv
 · obtain rfl := Option.some.inj hv; exact ⟨trivial, t110 Φ h _ _⟩
 · cases hv)
theorem o90 (h : Φ 90 = some c90) : OrcOk P 90 (pureO h90) := pure_of hm hΦ (by
 intro args v ct hv hct; unfold h90 at hv; split at hv
 · split at hv
   · rename_i hh; obtain rfl := Option.some.inj hv; exact ⟨trivial, t90 Φ h _ hh _⟩
   · cases hv
 · cases hv)
theorem o115 (h : Φ 115 = some c115) : OrcOk P 115 (pureO h115) := pure_of hm hΦ (by
 intro args v ct hv hct; unfold h115 at hv; split at hv
 · obtain ⟨b, rfl, hv1⟩ := bindB hv
   obtain rfl := Option.some.inj hv1; exact ⟨trivial, t115 Φ h _ _⟩
 · cases hv)
theorem o101 (h : Φ 101 = some c101) : OrcOk P 101 (pureO h101) := pure_of hm hΦ (by
 intro args v ct hv hct; unfold h101 at hv; split at hv
 · obtain ⟨l, rfl, hv1⟩ := bindS hv
   split at hv1
   · rename_i hl; obtain rfl := Option.some.inj hv1; exact ⟨trivial, t101 Φ h _ hl _⟩
   · cases hv1
 · cases hv)
theorem o91 {L : List Tab} (h : Φ 91 = some c91) (h89 : Φ 89 = some (.orc (pureO h89))) (h109 : Φ 109 = some (.orc (pureO h109))) (h110 : Φ 110 = some (.orc (pureO h110))) (hs : TabsSelf L) (hp : (3, IntKind.u64, pow10L) ∈ L) : OrcOk P 91 (pureT L h91) := pureT_ok hm hΦ (by
 intro args v ct ty hv hct; unfold h91 at hv; split at hv
 · split at hv
   · rename_i hh; obtain rfl := Option.some.inj hv; exact ⟨trivial, r91 Φ h h89 h109 h110 (okm_self hs hct) (hs ty) hp _ hh.1 hh.2⟩
   · cases hv
 · cases hv)
theorem o69 {L : List Tab} (h : Φ 69 = some c69) (h90 : Φ 90 = some (.orc (pureO h90))) (h91 : Φ 91 = some (.orc (pureT L h91))) (h92 : Φ 92 = some c92) (hs : TabsSelf L) : OrcOk P 69 (pureT L h69) := pureT_ok hm hΦ (by
 intro args v ct ty hv hct; unfold h69 at hv; split at hv
 · split at hv
   · rename_i hh; obtain rfl := Option.some.inj hv; exact ⟨trivial, r69 Φ h h90 h91 h92 (okm_self hs hct) (hs ty) _ hh.1 hh.2⟩
   · cases hv
 · cases hv)
theorem o58 {L : List Tab} (h : Φ 58 = some c58) (h69 : Φ 69 = some (.orc (pureT L h69))) (hs : TabsSelf L) : OrcOk P 58 (pureT L h58) := pureT_ok hm hΦ (by
 intro args v ct ty hv hct; unfold h58 at hv; split at hv
 · split at hv
   · rename_i hh; obtain rfl := Option.some.inj hv; exact ⟨trivial, r58 Φ h h69 (hs ty) _ hh.1 hh.2⟩
   · cases hv
 · cases hv)
theorem o41 {L : List Tab} (h : Φ 41 = some c41) (h58' : Φ 58 = some (.orc (pureT L h58))) (hs : TabsSelf L) : OrcOk P 41 (pureT L h58) := pureT_ok hm hΦ (by
 intro args v ct ty hv hct; unfold h58 at hv; split at hv
 · split at hv
   · rename_i hh; obtain rfl := Option.some.inj hv; exact ⟨trivial, r41 Φ h h58' (hs ty) _ hh.1 hh.2⟩
   · cases hv
 · cases hv)
theorem o15 {L : List Tab} (h : Φ 15 = some c15) (h37 : Φ 37 = some (.orc (pureO h37))) (h25 : Φ 25 = some (.orc (pureO h25))) (h40 : Φ 40 = some (.orc (pureO h40))) (h24 : Φ 24 = some (.orc (pureO h24))) (h41 : Φ 41 = some (.orc (pureT L h58)))
  (h42 : Φ 42 = some c42) (h59 : Φ 59 = some c59) (h60 : Φ 60 = some c60) (h61 : Φ 61 = some c61) (h70 : Φ 70 = some c70) (h71 : Φ 71 = some c71) (hs : TabsSelf L) : OrcOk P 15 (pureT L h15) := pureT_ok hm hΦ (by
 intro args v ct ty hv hct; unfold h15 at hv; split at hv
 · rename_i op d a b i
   obtain rfl := Option.some.inj hv
   by_cases hmy : mayI op d a b i = true
   · rw [if_pos hmy]
     exact ⟨⟨trivial, trivial, trivial⟩, r15 Φ h h37 h25 h40 h24 h41 h42 h59 h60 h61 h70 h71 (okm_self hs hct) (hs ty) op d a b i hmy⟩
   · rw [if_neg hmy]
     exact ⟨⟨trivial, trivial, trivial⟩, r15n Φ h h37 op d a b i (by simpa using hmy)⟩
 · cases hv)
theorem o18 {L : List Tab} (h : Φ 18 = some c18) (h41 : Φ 41 = some (.orc (pureT L h58))) (h26 : Φ 26 = some (.orc (pureO h25))) (h38 : Φ 38 = some (.orc (pureO h38))) (h23 : Φ 23 = some c23) (hs : TabsSelf L) : OrcOk P 18 (pureT L h18) := pureT_ok hm hΦ (by
 intro args v ct ty hv hct; unfold h18 at hv; split at hv
 · split at hv
   · rename_i hh; obtain rfl := Option.some.inj hv; exact ⟨trivial, r18 Φ h h41 h26 h38 h23 (okm_self hs hct) (hs ty) _ _ _ _ _ hh⟩
   · cases hv
 · cases hv)
theorem o52b (h : Φ 52 = some c52) : OrcOk P 52 (pureO h52) := pure_of hm hΦ (by
 intro args v ct hv hct; unfold h52 at hv; split at hv
 · obtain rfl := Option.some.inj hv; exact ⟨⟨trivial, trivial⟩, t52 Φ h _⟩
 · cases hv)
theorem o89b (h : Φ 89 = some c89) : OrcOk P 89 (pureO h89) := pure_of hm hΦ (by
 intro args v ct hv hct; unfold h89 at hv; split at hv
 · split at hv
   · obtain rfl := Option.some.inj hv; exact ⟨trivial, t89 Φ h _ (by assumption) _⟩
   · cases hv
 · cases hv)
end
theorem str_of4 {F : RO} {M : Mem} {c : Nat} {vs : List V} {x : (Ty.str).D} (h : Rp F M c .str vs x) : ∃ s : List UInt8, vs = [sV s] := by
 have key : ∀ l : List UInt8, vs = [sV l] ∧ l.length ≤ Go.maxLen → ∃ s : List UInt8, vs = [sV s] := fun l h => ⟨l, h.1⟩
 exact key x h
theorem itoa_inj {m n : Int} (h1 : -10000000 < m) (h2 : m < 10000000) (k1 : -10000000 < n) (k2 : n < 10000000) (h : itoa m = itoa n) : m = n := by
 obtain ⟨⟨a1, a2⟩, ha⟩ := itoa_shape h1 h2
 obtain ⟨⟨b1, b2⟩, hb⟩ := itoa_shape k1 k2
 have nd : ∀ r : List UInt8, (∀ x ∈ (45 : UInt8) :: r, isDig x) → False := fun r hh => by
  have := hh 45 (List.mem_cons_self ..)
  unfold isDig at this
  rw [show (45 : UInt8).toNat = 45 from rfl] at this; omega
 rcases ha with ⟨_, d1, v1⟩ | ⟨_, r, e1, _, d1, v1⟩ <;> rcases hb with ⟨_, d2, v2⟩ | ⟨_, r2, e2, _, d2, v2⟩
 · rw [h] at v1; omega
 · rw [h, e2] at d1; exact (nd _ d1).elim
 · rw [← h, e1] at d2; exact (nd _ d2).elim
 · have : r = r2 := by rw [h, e2] at e1; injection e1 with _ e; exact e.symm
   subst this; omega
theorem reg_inj {m n : Int} (h1 : -10000000 < m) (h2 : m < 10000000) (k1 : -10000000 < n) (k2 : n < 10000000) {r r' : List (List UInt8)} (h : joinL [32] ((114 :: itoa m) :: r) = joinL [32] ((114 :: itoa n) :: r')) : m = n ∧ joinL [32] r = joinL [32] r' := by
 obtain ⟨p1, p2⟩ := cut_join (114 :: itoa m) r (rW_no h1 h2)
 obtain ⟨q1, q2⟩ := cut_join (114 :: itoa n) r' (rW_no k1 k2)
 rw [h] at p1 p2
 have e := p1.symm.trans q1
 injection e with _ e
 exact ⟨itoa_inj h1 h2 k1 k2 e, p2.symm.trans q2⟩
theorem join_one (w : List UInt8) : joinL [32] [w] = w := by simp [joinL]
theorem text_inj {op d a b i op' d' a' b' i' : Int} (hm : mayI op d a b i = true) (hm' : mayI op' d' a' b' i' = true) (h : textB op d a b i = textB op' d' a' b' i') : op = op' ∧ d = d' ∧ a = a' ∧ b = b' ∧ i = i' := by
 unfold textB at h
 rw [words_eq, words_eq] at h
 obtain ⟨n1, n2, n3, n4, n5⟩ := may_num hm
 obtain ⟨m1, m2, m3, m4, m5⟩ := may_num hm'
 obtain ⟨p1, p2⟩ := cut_join (nameB op) (R1 op d a b i) (name_no op)
 obtain ⟨q1, q2⟩ := cut_join (nameB op') (R1 op' d' a' b' i') (name_no op')
 rw [h] at p1 p2
 have e1 := p1.symm.trans q1
 have e2 := p2.symm.trans q2
 have isn : ∀ o : Int, 1 ≤ o → o ≤ 28 → IsN (nameB o) o.toNat := fun o g1 g2 => by
  unfold IsN nameB
  rw [if_pos ⟨g1, g2⟩, List.getElem?_eq_getElem (show o.toNat < nameL.length by rw [nameL_len]; omega)]
  exact ⟨by omega, rfl⟩
 have k1 := isn op n1 n2
 rw [e1] at k1
 have hop := isN_uniq k1 (isn op' m1 m2)
 obtain rfl : op = op' := by omega
 obtain ⟨z1, z2, z3, z4⟩ := may_regs hm
 obtain ⟨y1, y2, y3, y4⟩ := may_regs hm'
 have nd := n3 0; have na := n3 1; have nb := n3 2
 rw [show numT d a b 0 = d from rfl] at nd
 rw [show numT d a b 1 = a from rfl] at na
 rw [show numT d a b 2 = b from rfl] at nb
 have md := m3 0; have ma := m3 1; have mb := m3 2
 rw [show numT d' a' b' 0 = d' from rfl] at md
 rw [show numT d' a' b' 1 = a' from rfl] at ma
 rw [show numT d' a' b' 2 = b' from rfl] at mb
 have s1 : d = d' ∧ joinL [32] (R2 op a b i) = joinL [32] (R2 op a' b' i') := by
  unfold R1 at e2
  cases hf : dI (formI op) with
  | true =>
    rw [hf, if_pos rfl, if_pos rfl] at e2
    exact reg_inj (by omega) (by omega) (by omega) (by omega) e2
  | false =>
    rw [hf, if_neg (by decide), if_neg (by decide)] at e2
    exact ⟨(z1 hf).trans (y1 hf).symm, e2⟩
 have s2 : a = a' ∧ joinL [32] (R3 op b i) = joinL [32] (R3 op b' i') := by
  have e2 := s1.2
  unfold R2 at e2
  cases hf : aI (formI op) with
  | true =>
    rw [hf, if_pos rfl, if_pos rfl] at e2
    exact reg_inj (by omega) (by omega) (by omega) (by omega) e2
  | false =>
    rw [hf, if_neg (by decide), if_neg (by decide)] at e2
    exact ⟨(z2 hf).trans (y2 hf).symm, e2⟩
 have s3 : b = b' ∧ joinL [32] (R4 op i) = joinL [32] (R4 op i') := by
  have e2 := s2.2
  unfold R3 at e2
  cases hf : bI (formI op) with
  | true =>
    rw [hf, if_pos rfl, if_pos rfl] at e2
    exact reg_inj (by omega) (by omega) (by omega) (by omega) e2
  | false =>
    rw [hf, if_neg (by decide), if_neg (by decide)] at e2
    exact ⟨(z3 hf).trans (y3 hf).symm, e2⟩
 have s4 : i = i' := by
  have e2 := s3.2
  unfold R4 at e2
  cases hf : iI (formI op) with
  | true =>
    rw [hf, if_pos rfl, if_pos rfl, join_one, join_one] at e2
    exact itoa_inj (by omega) (by omega) (by omega) (by omega) e2
  | false => exact (z4 hf).trans (y4 hf).symm
 exact ⟨rfl, s1.1, s2.1, s3.1, s4⟩
theorem parse_uniq {s : List UInt8} {r r' : V} (h : ParseP s r) (h' : ParseP s r') : r = r' := by
 rcases h with ⟨op, d, a, b, i, hm, hs, rfl⟩ | ⟨hn, rfl⟩ <;> rcases h' with ⟨op', d', a', b', i', hm', hs', rfl⟩ | ⟨hn', rfl⟩
 · obtain ⟨rfl, rfl, rfl, rfl, rfl⟩ := text_inj hm hm' (hs.trans hs'.symm); rfl
 · exact absurd hs (hn' _ _ _ _ _ hm)
 · exact absurd hs' (hn _ _ _ _ _ hm')
 · rfl
theorem parse_form {s : List UInt8} {r : V} (h : ParseP s r) : ∃ op d a b i e : Int, r = .t [.g [.i .i64 op, .i .i64 d, .i .i64 a, .i .i64 b, .i .i64 i], .i .i64 e] := by
 rcases h with ⟨op, d, a, b, i, _, _, rfl⟩ | ⟨_, rfl⟩
 · exact ⟨_, _, _, _, _, _, rfl⟩
 · exact ⟨_, _, _, _, _, _, rfl⟩
def b4_1 : CC := (.reg [(aa a2 (.bx 26 5 z0)), (qq a4 (.mv xF))])
def b4_2 : CC := (.reg [(qq a11 (.mv z1)), (qq a12 (.ln .str z11)), (qq a13 (.bi .gtr z12 (x6 4000)))])
def b4_3 : CC := (.reg [(ee a14 (.call 8 [])), (qq a4 (.mv z14))])
def b4_4 : CC := (.seq b4_2 (.cond z13 (.seq b4_3 .ret) .skip))
def b4_5 : CC := (.reg [(qq a16 (.ldn 5 z2)), (ee a17 (.call 15 [z16])), (qq a15 (.mv z17)), (qq a18 (.ex 0 z15)), (qq a19 (.ex 1 z15)), (qq a5 (.mv z18)), (qq a6 (.mv z19))])
def b4_6 : CC := (.reg [(qq a21 (.mv z1)), (ee a22 (.call 16 [z21])), (qq a20 (.mv z22)), (qq a23 (.ex 0 z20)), (qq a24 (.ex 1 z20)), (aa a7 (.al 26 [(.i .i64 0), (.i .i64 0), (.i .i64 0), (.i .i64 0), (.i .i64 0)])), (ez (.st 5 z7 z23)), (qq a8 (.mv z24))])
def b4_7 : CC := (.reg [(qq a26 (.mv z1)), (ee a27 (.call 17 [z26])), (qq a25 (.mv z27)), (qq a28 (.ex 0 z25)), (qq a29 (.ex 1 z25)), (aa a9 (.al 26 [(.i .i64 0), (.i .i64 0), (.i .i64 0), (.i .i64 0), (.i .i64 0)])), (ez (.st 5 z9 z28)), (qq a10 (.mv z29))])
def b4_8 : CC := (.reg [(qq a30 (.ldn 5 z7)), (qq a31 (.ldn 5 z9)), (qq a32 (.eq true (.agg [(0, .int), (1, .int), (2, .int), (3, .int), (4, .int)]) false z30 z31)), (qq a33 (.mv z32)), ⟨(some a34), .q (.mv z8), (some (a33, false))⟩, ⟨(some a35), .e (.call 11 [z34]), (some (a33, false))⟩, ⟨(some a36), .q (.mv z10), (some (a33, false))⟩, ⟨(some a37), .q (.bi .neq z35 z36), (some (a33, false))⟩, (qq a38 (.pk z33 xT z37))])
def b4_9 : CC := (.reg [(qq a4 (.mv xF))])
def b4_10 : CC := (.cond z38 (.seq b4_9 .ret) .skip)
def b4_11 : CC := (.reg [(qq a39 (.ldn 5 z2)), (ee a40 (.call 12 [z39])), (qq a41 (.un .not z40))])
def b4_12 : CC := (.reg [(qq a42 (.mv z5)), (qq a43 (.bi .eql z42 (.c (.s 0 0)))), (qq a44 (.mv z43)), ⟨(some a45), .q (.mv z6), (some (a44, true))⟩, ⟨(some a46), .e (.call 11 [z45]), (some (a44, true))⟩, ⟨(some a47), .q (.bi .eql z46 (x6 2)), (some (a44, true))⟩, (qq a48 (.pk z44 z47 xF)), (qq a49 (.mv z48)), ⟨(some a50), .e (.call 8 []), (some (a49, true))⟩, (qq a51 (.pk z49 z50 xF)), (qq a4 (.mv z51))])
def b4_13 : CC := (.cond z41 (.seq b4_12 .ret) .skip)
def b4_14 : CC := (.reg [(qq a52 (.mv z5)), (qq a53 (.ldn 5 z2)), (ee a54 (.call 18 [z53])), (qq a55 (.bi .eql z52 z54)), (qq a56 (.mv z55)), ⟨(some a57), .q (.mv z6), (some (a56, true))⟩, ⟨(some a58), .e (.call 11 [z57]), (some (a56, true))⟩, ⟨(some a59), .q (.bi .eql z58 (x6 0)), (some (a56, true))⟩, (qq a60 (.pk z56 z59 xF)), (qq a61 (.mv z60)), ⟨(some a62), .e (.call 8 []), (some (a61, true))⟩, (qq a63 (.pk z61 z62 xF)), (qq a4 (.mv z63))])
def b4_15 : CC := (.seq (.seq b4_8 b4_10) (.seq (.seq b4_11 b4_13) (.seq b4_14 .ret)))
def b4_16 : CC := (.seq b4_1 (.seq b4_4 (.seq b4_5 (.seq b4_6 (.seq b4_7 b4_15)))))
def c4 : CF := .mk 7 [.t a4] b4_16
theorem e4 (v0 v1 : V) : argTr 7 [v0, v1] = (.n (.n sk5 (some v1) sk5) (some v0) sk6) := rfl
def B4 := ai @e4 (ai (wu b4_1.eq_1) (ai (wu b4_2.eq_1) (ai (wu b4_3.eq_1) (ai (wu b4_4.eq_1) (ai (wu b4_5.eq_1) (ai (wu b4_6.eq_1) (ai (wu b4_7.eq_1) (ai (wu b4_8.eq_1) (ai (wu b4_9.eq_1) (ai (wu b4_10.eq_1) (ai (wu b4_11.eq_1) (ai (wu b4_12.eq_1) (ai (wu b4_13.eq_1) (ai (wu b4_14.eq_1) (ai (wu b4_15.eq_1) (wu b4_16.eq_1))))))))))))))))
theorem l4 (Φ : Nat → Option CF) (h : Φ 4 = some c4) {L : List Tab} (h8 : Φ 8 = some (.orc (knownO L))) (h11 : Φ 11 = some (.orc (pureO h11))) (h15 : Φ 15 = some (.orc (pureT L h15))) (h43 : Φ 43 = some c43) (h44 : Φ 44 = some (.orc (pureO h62))) (h45 : Φ 45 = some c45) (h47 : Φ 47 = some (.orc (pureO h65))) (h46 : Φ 46 = some c46) (h63 : Φ 63 = some c63) (h64 : Φ 64 = some c64) (h74 : Φ 74 = some c74) (h75 : Φ 75 = some c75) (h73 : Φ 73 = some c73) (h100 : Φ 100 = some c100) (h101 : Φ 101 = some (.orc (pureO h101))) (h115 : Φ 115 = some (.orc (pureO h115))) (h16 : Φ 16 = some c16) (h22 : Φ 22 = some c22) (h52 : Φ 52 = some (.orc (pureO h52))) (h53 : Φ 53 = some (.orc (pureO h53))) (h68 : Φ 68 = some c68) (h25 : Φ 25 = some (.orc (pureO h25))) (h40 : Φ 40 = some (.orc (pureO h40))) (h12 : Φ 12 = some (.orc (pureO h37))) (h18 : Φ 18 = some (.orc (pureT L h18))) (h49 : Φ 49 = some c49) (h17 : Φ 17 = some c17) (h48 : Φ 48 = some c48) (h23 : Φ 23 = some c23) (h26 : Φ 26 = some (.orc (pureO Ev.h25))) (h38 : Φ 38 = some (.orc (pureO h38)))
  {F : RO} {M : Mem} {c : Nat} (op d a b i : Int) (s : List UInt8) (ok : Okm F M c) (ht : tabsIn F L = true) (hE1 : ErrVar F 1) (hE2 : ErrVar F 2) (hlow : ∀ g, g < 1000 → M.get g = none) :
  Calls Φ F 4 [.g [.i .i64 op, .i .i64 d, .i .i64 a, .i .i64 b, .i .i64 i], sV s] M c fun r _ _ => r = .b true := by
 have hkn := fun M c => knownO_nil ht M c
 have hT := fun h args M c => pureT_of ht h args M c
 have hS : ∀ l, isOne (sV l) = true := fun _ => rfl
 have hF : ∀ l, flatten (sV l) = [sV l] := fun _ => rfl
 refine calls_walk h ?_
 by_cases hlen : 4000 < s.length
 · have hd : decide ((4000 : Int) < (s.length : Int)) = true := decide_eq_true (by omega)
   simp only [WX, Nat.reduceAdd, B4, hd, h8, hkn]
 · have hd : decide ((4000 : Int) < (s.length : Int)) = false := decide_eq_false (by omega)
   have g1 : ∀ y, Gr c M (c + 1) (M.set c y) := fun y => (Gr.refl ok).set (c2 := c + 1) c _ (Nat.le_refl _) (by omega) (by omega)
   have ok1 := fun y => (g1 y).ok ok
   have lo1 : ∀ y g, g < 1000 → (M.set c y).get g = none := fun y g hg => by rw [(g1 y).old g (by have := ok.ge; omega)]; exact hlow g hg
   obtain ⟨t, e, h1, hte⟩ : ∃ (t : List UInt8) (e : Int), Ev.h15 [.g [.i .i64 op, .i .i64 d, .i .i64 a, .i .i64 b, .i .i64 i]] = some (.t [sV t, .i .i64 e]) ∧ ((mayI op d a b i = true ∧ t = textB op d a b i ∧ e = 0) ∨ (mayI op d a b i = false ∧ t = [] ∧ e = 2)) := by
    cases hm : mayI op d a b i with
    | true => exact ⟨_, _, by rw [h15_eq, if_pos hm], .inl ⟨rfl, rfl, rfl⟩⟩
    | false => exact ⟨[], 2, by rw [h15_eq, if_neg (by rw [hm]; decide)]; rfl, .inr ⟨rfl, rfl, rfl⟩⟩
   simp only [WX, Nat.reduceAdd, Nat.reduceLeDiff, B4, hd, h15, hT, h1]
   refine putE_to ((r16 Φ h15 h43 h44 h45 h47 h46 h63 h64 h74 h75 h73 h100 h101 h115 h16 h22 h52 h53 h68 h25 h40 (ok1 _) ht hE1 hE2 (lo1 _) s (by omega)).mono ?_)
   rintro r M1 c1 ⟨hp1, hg1⟩
   obtain ⟨op1, d1, a1, b1, i1, e1, rfl⟩ := parse_form hp1
   simp only [WX, Nat.reduceAdd, Nat.reduceLeDiff, B4]
   have g2 : ∀ z, Gr c M (c1 + 1) (M1.set c1 z) := fun z => ((g1 _).trans hg1).set (c2 := c1 + 1) c1 _ (by have := hg1.le; omega) (by omega) (by omega)
   have lo2 : ∀ z g, g < 1000 → (M1.set c1 z).get g = none := fun z g hg => by rw [(g2 z).old g (by have := ok.ge; omega)]; exact hlow g hg
   refine putE_to ((r17 Φ h12 h18 h49 h46 h63 h64 h74 h75 h73 h100 h101 h115 h17 h48 h23 h26 h38 ((g2 (rowB 26 [.i .i64 op1, .i .i64 d1, .i .i64 a1, .i .i64 b1, .i .i64 i1])).ok ok) ht hE1 hE2 (lo2 _) s (by omega)).mono ?_)
   rintro r M2 c2 ⟨hp2, hg2⟩
   obtain rfl := parse_uniq hp1 hp2
   have e1c : c < c1 := by have := hg1.le; omega
   have e2c : c1 < c2 := by have := hg2.le; omega
   have k0 : ∀ x, (M2.set c2 x).get c = some (rowB 26 [.i .i64 op, .i .i64 d, .i .i64 a, .i .i64 b, .i .i64 i]) := fun x => by rw [get_ne _ _ (by omega), hg2.old c (by omega), get_ne _ _ (by omega), hg1.old c (by omega), get_same]
   have k1 : ∀ x, (M2.set c2 x).get c1 = some (rowB 26 [.i .i64 op1, .i .i64 d1, .i .i64 a1, .i .i64 b1, .i .i64 i1]) := fun x => by rw [get_ne _ _ (by omega), hg2.old c1 (by omega), get_same]
   have ln0 := fun x => loadN_row (F := F) (k0 x) 5 rfl
   have ln1 := fun x => loadN_row (F := F) (k1 x) 5 rfl
   have q0 : biV .eql (sV []) (.s 0 0) = some (.b true) := bi_seq [] []
   rcases hte with ⟨hm, rfl, rfl⟩ | ⟨hm, rfl, rfl⟩
   · simp only [WX, Nat.reduceAdd, Nat.reduceLeDiff, B4, ln0, ln1, eq_self, h11, h11_eq, h12, h37_eq, hm, h18, hT, h18_eq hm, h8, hkn, ne_eq, not_true_eq_false]
   · simp only [WX, Nat.reduceAdd, Nat.reduceLeDiff, B4, ln0, ln1, eq_self, h11, h11_eq, h12, h37_eq, hm, q0, h8, hkn, ne_eq, not_true_eq_false]
end
end Go.Proofs.YtffpeieapadocaaGreatDoor.Ev
