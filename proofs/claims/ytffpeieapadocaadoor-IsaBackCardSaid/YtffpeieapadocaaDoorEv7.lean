/- What is proved here: pieces of the evaluator's soundness: if the evaluator comes to a value, the model's run comes to it, for every world and tape; no conditions beyond the hypotheses of each theorem. -/
import Derived.Test.YtffpeieapadocaaDoorEv6
set_option linter.unusedSimpArgs false
set_option linter.unusedVariables false
set_option linter.defProp false
set_option maxRecDepth 10000
set_option maxHeartbeats 4000000
namespace Go.Proofs.YtffpeieapadocaaDoor.Ev
open Go
noncomputable section
def b25_1 : CC := (.reg [(qq a4 (.ld1 z0)), (ee a5 (.call 26 [z4, (.c (.s 1 32))])), (qq a3 (.mv z5)), (qq a6 (.ex 0 z3)), (qq a7 (.ex 1 z3)), (qq a8 (.ex 2 z3)), (qq a2 (.mv z6)), (ez (.st 1 z0 z7))])
def b25_2 : CC := (.reg [(qq a9 (.mv z2)), (qq a1 (.mv z9))])
def b25_3 : CC := (.seq (.reg [(qq a2 (.mv (.c (.s 0 0))))]) (.seq b25_1 (.seq b25_2 .ret)))
def b25_4 : CC := (.seq (.reg [(qq a1 (.mv (.c (.s 0 0))))]) b25_3)
def c25 : CF := .mk 4 [.t a1] b25_4
theorem e25 : argTr 4 [] = sk4 := rfl
def B25 := ai @e25 (ai (wu b25_1.eq_1) (ai (wu b25_2.eq_1) (ai (wu b25_3.eq_1) (wu b25_4.eq_1))))
def b27_1 : CC := (.reg [(qq a3 (.mv (x6 0)))])
def b27_2 : CC := (.reg [(qq a7 (.ld1 z1)), (ee a8 (.cv z7 [])), (qq a9 (.mv z0)), (ee a10 (.call 29 [z8, z9])), (ee a11 (.call 28 [z10])), (qq a6 (.mv z11)), (qq a12 (.ex 0 z6)), (qq a13 (.ex 1 z6)), (qq a4 (.mv z12)), (qq a5 (.mv z13))])
def b27_3 : CC := (.reg [(qq a14 (.mv z4)), (qq a3 (.mv z14))])
def c27 : CF := .mk 4 [.t a3] (.seq b27_1 (.seq b27_2 (.seq b27_3 .ret)))
theorem e27 (v0 : V) : argTr 4 [v0] = (.n sk3 (some v0) sk3) := rfl
def B27 := ai @e27 (ai (wu b27_1.eq_1) (ai (wu b27_2.eq_1) (wu b27_3.eq_1)))
def b10_1 : CC := (.reg [(aa a2 (.al 24 [(.i .i64 0), (.i .i64 0), (.i .i64 0), (.i .i64 0), (.i .i64 0)])), (qq a3 (.mv (x6 0)))])
def w10_1 := wu b10_1.eq_1
def b10_2 : CC := (.reg [(qq a11 (.mv z0)), (aa a4 (.al 9 [(.s 0 0)])), (ez (.st 1 z4 z11))])
def w10_2 := wu b10_2.eq_1
def b10_3 : CC := (.reg [(qq a12 (.mkf 25 [] [z4])), (aa a5 (.al 70 [.f0])), (ez (.st 1 z5 z12))])
def w10_3 := wu b10_3.eq_1
def b10_4 : CC := (.reg [(qq a13 (.mkf 27 [] [z5])), (qq a6 (.mv z13))])
def w10_4 := wu b10_4.eq_1
def b10_5 : CC := (.reg [(aa a7 (.al 24 [(.i .i64 0), (.i .i64 0), (.i .i64 0), (.i .i64 0), (.i .i64 0)]))])
def w10_5 := wu b10_5.eq_1
def b10_6 : CC := (.reg [(qq a15 (.ld1 z5)), (ee a16 (.cv z15 [])), (ee a17 (.call 30 [z16])), (qq a14 (.mv z17)), (qq a18 (.ex 0 z14)), (qq a19 (.ex 1 z14)), (qq a20 (.fa 0 z7)), (ez (.st 1 z20 z18))])
def w10_6 := wu b10_6.eq_1
def b10_7 : CC := (.reg [(qq a21 (.fa 0 z7)), (qq a22 (.ld1 z21)), (ee a23 (.call 19 [z22])), (ee a24 (.call 18 [z23])), (aa a8 (.al 54 [(.b false), (.b false), (.b false), (.b false)])), (ez (.st 4 z8 z24))])
def w10_7 := wu b10_7.eq_1
def b10_8 : CC := (.reg [(qq a25 (.fa 0 z8)), (qq a26 (.ld1 z25))])
def w10_8 := wu b10_8.eq_1
def b10_9 : CC := (.reg [(qq a27 (.mv z6)), (ee a28 (.cv z27 [(.c (.s 1 114))])), (qq a29 (.fa 1 z7)), (ez (.st 1 z29 z28))])
def w10_9 := wu b10_9.eq_1
def b10_10 : CC := (.seq b10_8 (.cond z26 b10_9 .skip))
def w10_10 := wu b10_10.eq_1
def b10_11 : CC := (.reg [(qq a30 (.fa 1 z8)), (qq a31 (.ld1 z30))])
def w10_11 := wu b10_11.eq_1
def b10_12 : CC := (.reg [(qq a32 (.mv z6)), (ee a33 (.cv z32 [(.c (.s 1 114))])), (qq a34 (.fa 2 z7)), (ez (.st 1 z34 z33))])
def w10_12 := wu b10_12.eq_1
def b10_13 : CC := (.seq b10_11 (.cond z31 b10_12 .skip))
def w10_13 := wu b10_13.eq_1
def b10_14 : CC := (.reg [(qq a35 (.fa 2 z8)), (qq a36 (.ld1 z35))])
def w10_14 := wu b10_14.eq_1
def b10_15 : CC := (.reg [(qq a37 (.mv z6)), (ee a38 (.cv z37 [(.c (.s 1 114))])), (qq a39 (.fa 3 z7)), (ez (.st 1 z39 z38))])
def w10_15 := wu b10_15.eq_1
def b10_16 : CC := (.seq b10_14 (.cond z36 b10_15 .skip))
def w10_16 := wu b10_16.eq_1
def b10_17 : CC := (.reg [(qq a40 (.fa 3 z8)), (qq a41 (.ld1 z40))])
def w10_17 := wu b10_17.eq_1
def b10_18 : CC := (.reg [(qq a42 (.mv z6)), (ee a43 (.cv z42 [(.c (.s 0 0))])), (qq a44 (.fa 4 z7)), (ez (.st 1 z44 z43))])
def w10_18 := wu b10_18.eq_1
def b10_19 : CC := (.seq b10_17 (.cond z41 b10_18 .skip))
def w10_19 := wu b10_19.eq_1
def b10_20 : CC := (.reg [(qq a46 (.ldn 5 z7)), (ee a47 (.call 9 [z46])), (qq a45 (.mv z47)), (qq a48 (.ex 0 z45)), (qq a49 (.ex 1 z45)), (qq a9 (.mv z48)), (qq a10 (.mv z49))])
def w10_20 := wu b10_20.eq_1
def b10_21 : CC := (.reg [(qq a50 (.mv z10)), (qq a51 (.bi .neq z50 (x6 0))), (qq a52 (.mv z51)), ⟨(some a53), .q (.mv z9), (some (a52, false))⟩, ⟨(some a54), .q (.mv z0), (some (a52, false))⟩, ⟨(some a55), .q (.bi .neq z53 z54), (some (a52, false))⟩, (qq a56 (.pk z52 xT z55))])
def w10_21 := wu b10_21.eq_1
def b10_22 : CC := (.reg [(qq a57 (.bld [(.i .i64 0), (.i .i64 0), (.i .i64 0), (.i .i64 0), (.i .i64 0)] [])), (ez (.st 5 z2 z57)), (qq a3 (.mv (x6 4)))])
def w10_22 := wu b10_22.eq_1
def b10_23 : CC := (.cond z56 (.seq b10_22 .ret) .skip)
def w10_23 := wu b10_23.eq_1
def b10_24 : CC := (.reg [(qq a58 (.ldn 5 z7)), (ez (.st 5 z2 z58)), (qq a3 (.mv (x6 0)))])
def w10_24 := wu b10_24.eq_1
def b10_25 : CC := (.seq (.seq b10_20 (.seq b10_21 b10_23)) (.seq b10_24 .ret))
def w10_25 := wu b10_25.eq_1
def b10_26 : CC := (.seq b10_10 (.seq b10_13 (.seq b10_16 (.seq b10_19 b10_25))))
def w10_26 := wu b10_26.eq_1
def b10_27 : CC := (.seq b10_3 (.seq b10_4 (.seq b10_5 (.seq b10_6 (.seq b10_7 b10_26)))))
def w10_27 := wu b10_27.eq_1
def c10 : CF := .mk 6 [.cn a2 5, .t a3] (.seq b10_1 (.seq b10_2 b10_27))
theorem e10 (v0 : V) : argTr 6 [v0] = (.n sk5 (some v0) sk5) := rfl
def B10 := ai @e10 (ai @w10_1 (ai @w10_2 (ai @w10_3 (ai @w10_4 (ai @w10_5 (ai @w10_6 (ai @w10_7 (ai @w10_8 (ai @w10_9 (ai @w10_10 (ai @w10_11 (ai @w10_12 (ai @w10_13 (ai @w10_14 (ai @w10_15 (ai @w10_16 (ai @w10_17 (ai @w10_18 (ai @w10_19 (ai @w10_20 (ai @w10_21 (ai @w10_22 (ai @w10_23 (ai @w10_24 (ai @w10_25 (ai @w10_26 (@w10_27)))))))))))))))))))))))))))
theorem e25' (v0 : V) : argTr 4 [v0] = (.n sk3 (some (v0)) sk3) := rfl
theorem e27' (v0 v1 : V) : argTr 4 [v0, v1] = (.n (.n sk2 (some (v1)) sk2) (some (v0)) sk3) := rfl
def befL (l : List UInt8) : List UInt8 := match fnd 32 l 0 with | some k => l.take k | none => l
def aftL (l : List UInt8) : List UInt8 := match fnd 32 l 0 with | some k => l.drop (k + 1) | none => []
theorem cutV_eq (l : List UInt8) : ∃ z, cutV 32 l = .t [sV (befL l), sV (aftL l), .b z] := by
 unfold cutV befL aftL
 cases fnd 32 l 0 with
 | none => exact ⟨_, rfl⟩
 | some k => exact ⟨_, rfl⟩
theorem befL_len (l : List UInt8) : (befL l).length ≤ l.length := by
 unfold befL
 cases fnd 32 l 0 with
 | none => exact Nat.le_refl _
 | some k => show (l.take k).length ≤ _; rw [List.length_take]; omega
theorem aftL_len (l : List UInt8) : (aftL l).length ≤ l.length := by
 unfold aftL
 cases fnd 32 l 0 with
 | none => exact Nat.zero_le _
 | some k => show (l.drop (k + 1)).length ≤ _; rw [List.length_drop]; omega
theorem trimP_len (l p : List UInt8) : (trimP l p).length ≤ l.length := by
 unfold trimP; split
 · rw [List.length_drop]; omega
 · exact Nat.le_refl _
theorem fnd_word : ∀ (w r : List UInt8) (i : Nat), (∀ x ∈ w, x ≠ 32) → fnd 32 (w ++ 32 :: r) i = some (i + w.length) ∧ fnd 32 w i = none
 | [], r, i, _ => ⟨by simp [fnd], rfl⟩
 | x :: w, r, i, h => by
   obtain ⟨h1, h2⟩ := fnd_word w r (i + 1) fun y hy => h y (List.mem_cons_of_mem _ hy)
   have hx := h x (List.mem_cons_self ..)
   rw [List.cons_append, fnd, if_neg hx, h1, fnd, if_neg hx, h2, List.length_cons]
   exact ⟨by congr 1; omega, rfl⟩
theorem cut_join (w : List UInt8) (ws : List (List UInt8)) (h : ∀ x ∈ w, x ≠ 32) : befL (joinL [32] (w :: ws)) = w ∧ aftL (joinL [32] (w :: ws)) = joinL [32] ws := by
 cases ws with
 | nil =>
   have e : joinL [32] [w] = w := by simp [joinL]
   obtain ⟨_, h2⟩ := fnd_word w [] 0 h
   unfold befL aftL
   rw [e, h2]; exact ⟨rfl, rfl⟩
 | cons x r =>
   have e : joinL [32] (w :: x :: r) = w ++ 32 :: joinL [32] (x :: r) := by simp [joinL]
   obtain ⟨h1, _⟩ := fnd_word w (joinL [32] (x :: r)) 0 h
   unfold befL aftL
   rw [e, h1, Nat.zero_add]
   refine ⟨?_, ?_⟩
   · show (w ++ 32 :: joinL [32] (x :: r)).take w.length = w
     exact List.take_left
   · show (w ++ 32 :: joinL [32] (x :: r)).drop (w.length + 1) = _
     rw [show w ++ 32 :: joinL [32] (x :: r) = (w ++ [32]) ++ joinL [32] (x :: r) by simp, List.drop_left' (by simp)]
theorem r25 (Φ : Nat → Option CF) (h : Φ 25 = some c25) (h26 : Φ 26 = some (.orc (pureO h40))) {F : RO} {M : Mem} {c b : Nat} {l : List UInt8} (hM : M.get b = some (rowB 9 [sV l])) (hl : l.length ≤ 1000000) :
  Calls Φ F 25 [.p b 0] M c fun r M' c' => r = sV (befL l) ∧ M' = M.set b (rowB 9 [sV (aftL l)]) ∧ c' = c := by
 refine calls_walk h ?_
 have l0 : load1 F M b 0 = some (sV l) := load_row hM 0
 obtain ⟨z, hz⟩ := cutV_eq l
 have h1 := h40_eq l 32 (by omega)
 rw [hz] at h1
 have h1' : h40 [sV l, .s 1 32] = some (.t [sV (befL l), sV (aftL l), .b z]) := h1
 have hst := store_row hM 0 [sV (aftL l)] (by simp) rfl
 simp only [WX, B25, e25', l0, h26, h1', show ∀ l, flatten (sV l) = [sV l] from fun _ => rfl, hst]
theorem r27 (Φ : Nat → Option CF) (h : Φ 27 = some c27) (h25 : Φ 25 = some c25) (h26 : Φ 26 = some (.orc (pureO h40))) (h29 : Φ 29 = some (.orc (pureO h43))) (h28 : Φ 28 = some c28) (h41 : Φ 41 = some c41) (h42 : Φ 42 = some c42) (h51 : Φ 51 = some c51) (h52 : Φ 52 = some c52) (h50 : Φ 50 = some c50) (h77 : Φ 77 = some c77) (h78 : Φ 78 = some (.orc (pureO h78))) (h92 : Φ 92 = some (.orc (pureO h92)))
  {F : RO} {M : Mem} {c b b1005 : Nat} {l : List UInt8} (ok : Okm F M c) (hE1 : ErrVar F 1) (hE2 : ErrVar F 2) (hlow : ∀ g, g < 1000 → M.get g = none) (hM : M.get b = some (rowB 9 [sV l])) (hb : b < c) (hM5 : M.get b1005 = some (rowB 70 [.f 25 [] [.p b 0]])) (hl : l.length ≤ 1000000) (p : List UInt8) :
  Calls Φ F 27 [sV p, .p b1005 0] M c fun r M' c' => ∃ z, r = .i .i64 z ∧ ZOf (trimP (befL l) p) z ∧ Gr c (M.set b (rowB 9 [sV (aftL l)])) c' M' := by
 refine calls_walk h ?_
 have l1005 : load1 F M b1005 0 = some (.f 25 [] [.p b 0]) := load_row hM5 0
 simp only [WX, B27, e27', l1005]
 refine putE_to ((r25 Φ h25 h26 hM hl).mono ?_)
 rintro r M1 c1 ⟨rfl, rfl, rfl⟩
 have ok1 := ok.put (y := rowB 9 [sV (aftL l)]) hb hM
 have hlow1 : ∀ g, g < 1000 → (M.set b (rowB 9 [sV (aftL l)])).get g = none := fun g hg => by
  have : g ≠ b := by intro e; subst e; rw [hlow g hg] at hM; cases hM
  rw [get_ne _ _ this]; exact hlow g hg
 simp only [WX, h29, h43_eq]
 have h1 := befL_len l
 have h2 := trimP_len (befL l) p
 refine putE_to ((r28 Φ h28 h41 h42 h51 h52 h50 h77 h78 h92 ok1 hE1 hE2 hlow1 (trimP (befL l) p) (by omega)).mono ?_)
 rintro r M2 c2 ⟨z, e, rfl, hz, hg⟩
 simp only [WX, B27]
 exact ⟨z, rfl, hz, hg⟩
def R4 (op i : Int) : List (List UInt8) := if iI (formI op) = true then [itoa i] else []
def R3 (op b i : Int) : List (List UInt8) := (if bI (formI op) = true then [114 :: itoa b] else []) ++ R4 op i
def R2 (op a b i : Int) : List (List UInt8) := (if aI (formI op) = true then [114 :: itoa a] else []) ++ R3 op b i
def R1 (op d a b i : Int) : List (List UInt8) := (if dI (formI op) = true then [114 :: itoa d] else []) ++ R2 op a b i
theorem words_eq (op d a b i : Int) : wordsT op d a b i = nameB op :: R1 op d a b i := by
 show (([nameB op] ++ (if flagT op 0 = true then [114 :: itoa (numT d a b 0)] else [])) ++ (if flagT op 1 = true then [114 :: itoa (numT d a b 1)] else [])) ++ (if flagT op 2 = true then [114 :: itoa (numT d a b 2)] else []) ++ _ = _
 show (([nameB op] ++ (if dI (formI op) = true then [114 :: itoa d] else [])) ++ (if aI (formI op) = true then [114 :: itoa a] else [])) ++ (if bI (formI op) = true then [114 :: itoa b] else []) ++ (if iI (formI op) = true then [itoa i] else []) = _
 unfold R1 R2 R3 R4
 simp only [List.append_assoc, List.cons_append, List.nil_append]
theorem itoa_no {m : Int} (h1 : -10000000 < m) (h2 : m < 10000000) : ∀ x ∈ itoa m, x ≠ 32 := by
 intro x hx e
 subst e
 have nd : ∀ l : List UInt8, (∀ x ∈ l, isDig x) → (32 : UInt8) ∉ l := fun l h hm => by
  have := h 32 hm
  unfold isDig at this
  rw [show (32 : UInt8).toNat = 32 from rfl] at this; omega
 obtain ⟨_, ⟨_, h3, _⟩ | ⟨_, r, h3, _, h4, _⟩⟩ := itoa_shape h1 h2
 · exact nd _ h3 hx
 · rw [h3] at hx
   rcases List.mem_cons.1 hx with e | hx
   · exact absurd e (by decide)
   · exact nd _ h4 hx
theorem rW_no {m : Int} (h1 : -10000000 < m) (h2 : m < 10000000) : ∀ x ∈ (114 :: itoa m), x ≠ 32 := by
 intro x hx
 rcases List.mem_cons.1 hx with e | hx
 · subst e; decide
 · exact itoa_no h1 h2 x hx
theorem name_no (op : Int) : ∀ x ∈ nameB op, x ≠ 32 := by
 unfold nameB
 split
 · have : ∀ k, k < 29 → ∀ x ∈ (nameL[k]?).getD [], x ≠ 32 := by decide +kernel
   exact this _ (by omega)
 · intro x hx; cases hx
theorem trimP_r (l : List UInt8) : trimP (114 :: l) [114] = l := by
 unfold trimP
 rw [if_pos ⟨by simp, by simp⟩]; rfl
theorem trimP_nil (l : List UInt8) : trimP l [] = l := by
 unfold trimP
 rw [if_pos ⟨Nat.zero_le _, rfl⟩]; rfl
theorem may_regs {op d a b i : Int} (h : mayI op d a b i = true) : (dI (formI op) = false → d = 0) ∧ (aI (formI op) = false → a = 0) ∧ (bI (formI op) = false → b = 0) ∧ (iI (formI op) = false → i = 0) := by
 unfold mayI at h
 simp only [Bool.and_eq_true, Bool.or_eq_true, decide_eq_true_eq] at h
 obtain ⟨h1, h2, h3, h4, h1005, h1006⟩ := h
 have key : ∀ n, regI false n = true → n = 0 := by
  intro n hh
  unfold regI at hh
  have := of_decide_eq_true hh
  rcases this with h | ⟨h, _⟩
  · exact h
  · cases h
 refine ⟨fun h => key _ (by rw [h] at h3; exact h3), fun h => key _ (by rw [h] at h4; exact h4), fun h => key _ (by rw [h] at h1005; exact h1005), fun h => ?_⟩
 rcases h1006 with h1006 | h1006
 · exact h1006
 · rw [h] at h1006; cases h1006.1
def h9 : List V → Option V
 | [.g [.i .i64 op, .i .i64 d, .i .i64 a, .i .i64 b, .i .i64 i]] => some (if mayI op d a b i = true then .t [sV (textB op d a b i), .i .i64 0] else .t [.s 0 0, .i .i64 2])
 | _ => none
theorem h9_eq (op d a b i : Int) : h9 [.g [.i .i64 op, .i .i64 d, .i .i64 a, .i .i64 b, .i .i64 i]] = some (if mayI op d a b i = true then .t [sV (textB op d a b i), .i .i64 0] else .t [.s 0 0, .i .i64 2]) := rfl
def ParseP (s : List UInt8) (r : V) : Prop :=
 (∃ op d a b i, mayI op d a b i = true ∧ textB op d a b i = s ∧ r = .t [.g [.i .i64 op, .i .i64 d, .i .i64 a, .i .i64 b, .i .i64 i], .i .i64 0]) ∨
 ((∀ op d a b i, mayI op d a b i = true → textB op d a b i ≠ s) ∧ r = .t [.g [.i .i64 0, .i .i64 0, .i .i64 0, .i .i64 0, .i .i64 0], .i .i64 4])
def PI (F : RO) (M0 M : Mem) (c1 c cb : Nat) (rest : List UInt8) (op d a b i : Int) : Prop :=
 Okm F M c1 ∧ c + 4 ≤ cb ∧ cb < c1 ∧ 1000 ≤ c ∧ M.get c = some (rowB 24 [.i .i64 0, .i .i64 0, .i .i64 0, .i .i64 0, .i .i64 0]) ∧ M.get (c + 1) = some (rowB 9 [sV rest]) ∧ M.get (c + 2) = some (rowB 70 [.f 25 [] [.p (c + 1) 0]]) ∧
 M.get (c + 3) = some (rowB 24 [.i .i64 op, .i .i64 d, .i .i64 a, .i .i64 b, .i .i64 i]) ∧ M.get cb = some (rowB 54 [.b (dI (formI op)), .b (aI (formI op)), .b (bI (formI op)), .b (iI (formI op))]) ∧ (∀ g, g < 1000 → M.get g = none) ∧ rest.length ≤ 1000000 ∧ Gr c M0 c1 M
theorem PI.step {F : RO} {M0 M M' : Mem} {c1 c2 c cb : Nat} {rest : List UInt8} {op d a b i d' a' b' i' : Int} (h : PI F M0 M c1 c cb rest op d a b i) (hg : Gr c1 (M.set (c + 1) (rowB 9 [sV (aftL rest)])) c2 M') :
  PI F M0 (M'.set (c + 3) (rowB 24 [.i .i64 op, .i .i64 d', .i .i64 a', .i .i64 b', .i .i64 i'])) c2 c cb (aftL rest) op d' a' b' i' := by
 obtain ⟨ok, k1, k2, k3, g0, g1, g2, g3, g4, g5, g6, g7⟩ := h
 have ok1 := hg.ok (ok.put (y := rowB 9 [sV (aftL rest)]) (show c + 1 < c1 by omega) g1)
 have o : ∀ x, x < c1 → x ≠ c + 1 → M'.get x = M.get x := fun x hx hn => by rw [hg.old x hx, get_ne _ _ hn]
 have e3 : M'.get (c + 3) = some (rowB 24 [.i .i64 op, .i .i64 d, .i .i64 a, .i .i64 b, .i .i64 i]) := by rw [o (c + 3) (by omega) (by omega)]; exact g3
 have hle := hg.le
 refine ⟨ok1.put (by omega) e3, k1, by omega, k3, ?_, ?_, ?_, get_same _ _ _, ?_, fun g hg' => ?_, Nat.le_trans (aftL_len rest) g6, ((g7.set (c2 := c1) (c + 1) _ (by omega) (by omega) (Nat.le_refl _)).trans hg).set (c2 := c2) (c + 3) _ (by omega) (by omega) (Nat.le_refl _)⟩
 · rw [get_ne _ _ (by omega), o c (by omega) (by omega)]; exact g0
 · rw [get_ne _ _ (by omega), hg.old (c + 1) (by omega), get_same]
 · rw [get_ne _ _ (by omega), o (c + 2) (by omega) (by omega)]; exact g2
 · rw [get_ne _ _ (by omega), o cb (by omega) (by omega)]; exact g4
 · rw [get_ne _ _ (by omega), o g (by omega) (by omega)]; exact g5 g hg'
theorem t10e (Φ : Nat → Option CF) {L : List Tab} (h9 : Φ 9 = some (.orc (pureT L h9))) (h25 : Φ 25 = some c25) (h26 : Φ 26 = some (.orc (pureO h40))) (h27 : Φ 27 = some c27) (h29 : Φ 29 = some (.orc (pureO h43))) (h28 : Φ 28 = some c28) (h41 : Φ 41 = some c41) (h42 : Φ 42 = some c42) (h51 : Φ 51 = some c51) (h52 : Φ 52 = some c52) (h50 : Φ 50 = some c50) (h77 : Φ 77 = some c77) (h78 : Φ 78 = some (.orc (pureO h78))) (h92 : Φ 92 = some (.orc (pureO h92))) {F : RO} {M0 M : Mem} {c c1 cb : Nat} (ht : tabsIn F L = true) (hE1 : ErrVar F 1) (hE2 : ErrVar F 2) {s rest : List UInt8} {op d a b i : Int} (h : PI F M0 M c1 c cb rest op d a b i)
  (HC : ∀ op' d' a' b' i', mayI op' d' a' b' i' = true → textB op' d' a' b' i' = s → op' = op ∧ d' = d ∧ a' = a ∧ b' = b ∧ i' = i) (u : List (Option V)) :
  Wp b10_25 (K Φ none 10 F) (.mk ((.n (.n (.n (.n (uv3 u 31 15 47) (some (.p (c + 3) 0)) (uv3 u 39 23 55)) (some (.i .i64 0)) (uv7 u 35 19 51 11 43 27 59)) (uO u 1) (.n (uv7 u 33 17 49 9 41 25 57) (some (.p (c + 2) 0)) (uv7 u 37 21 53 13 45 29 61))) (some (sV s)) (.n (.n (.n (uv3 u 32 16 48) (some (.p cb 0)) (uv3 u 40 24 56)) (some (.p (c + 1) 0)) (uv7 u 36 20 52 12 44 28 60)) (some (.p c 0)) (.n (uv7 u 34 18 50 10 42 26 58) (some (.f 27 [] [.p (c + 2) 0])) (uv7 u 38 22 54 14 46 30 62))))) [] M c1) (endQ F [.cn (.r .h) 5, .t (.l (.l .h))] fun r M' c' => ParseP s r ∧ Gr c M0 c' M') := by
 obtain ⟨ok, k1, k2, k3, g0, g1, g2, g3, g4, g5, g6, g7⟩ := h
 have hT := fun h args M c => pureT_of ht h args M c
 have li : loadN F M (c + 3) 0 5 = some [.i .i64 op, .i .i64 d, .i .i64 a, .i .i64 b, .i .i64 i] := loadN_row g3 5 rfl
 cases hm : mayI op d a b i with
 | true =>
   have h1 : Ev.h9 [.g [.i .i64 op, .i .i64 d, .i .i64 a, .i .i64 b, .i .i64 i]] = some (.t [sV (textB op d a b i), .i .i64 0]) := by rw [h9_eq, if_pos hm]
   by_cases hs : textB op d a b i = s
   · have e1 : biV .neq (sV (textB op d a b i)) (sV s) = some (.b false) := by rw [bi_sne, decide_eq_true hs]; rfl
     have hst := store_row g0 0 [.i .i64 op, .i .i64 d, .i .i64 a, .i .i64 b, .i .i64 i] (by simp) rfl
     simp only [WX, Nat.reduceAdd, Nat.reduceLeDiff, B10, li, h9, hT, h1, e1, hst, eq_self, ne_eq, not_true_eq_false]
     exact ⟨.inl ⟨op, d, a, b, i, hm, hs, rfl⟩, g7.set (c2 := c1) c _ (Nat.le_refl _) (by omega) (Nat.le_refl _)⟩
   · have e1 : biV .neq (sV (textB op d a b i)) (sV s) = some (.b true) := by rw [bi_sne, decide_eq_false hs]; rfl
     have hst := store_row g0 0 [.i .i64 0, .i .i64 0, .i .i64 0, .i .i64 0, .i .i64 0] (by simp) rfl
     simp only [WX, Nat.reduceAdd, Nat.reduceLeDiff, B10, li, h9, hT, h1, e1, hst, eq_self, ne_eq, not_true_eq_false]
     refine ⟨.inr ⟨fun op' d' a' b' i' hm' hs' => ?_, rfl⟩, g7.set (c2 := c1) c _ (Nat.le_refl _) (by omega) (Nat.le_refl _)⟩
     obtain ⟨rfl, rfl, rfl, rfl, rfl⟩ := HC _ _ _ _ _ hm' hs'
     exact hs hs'
 | false =>
   have h1 : Ev.h9 [.g [.i .i64 op, .i .i64 d, .i .i64 a, .i .i64 b, .i .i64 i]] = some (.t [.s 0 0, .i .i64 2]) := by rw [h9_eq, if_neg (by rw [hm]; decide)]
   have hst := store_row g0 0 [.i .i64 0, .i .i64 0, .i .i64 0, .i .i64 0, .i .i64 0] (by simp) rfl
   simp only [WX, Int.reduceEq, Nat.reduceAdd, Nat.reduceLeDiff, B10, li, h9, hT, h1, hst, eq_self, ne_eq, not_false_eq_true]
   refine ⟨.inr ⟨fun op' d' a' b' i' hm' hs' => ?_, rfl⟩, g7.set (c2 := c1) c _ (Nat.le_refl _) (by omega) (Nat.le_refl _)⟩
   obtain ⟨rfl, rfl, rfl, rfl, rfl⟩ := HC _ _ _ _ _ hm' hs'
   rw [hm] at hm'; cases hm'
theorem t10i (Φ : Nat → Option CF) {L : List Tab} (h9 : Φ 9 = some (.orc (pureT L h9))) (h25 : Φ 25 = some c25) (h26 : Φ 26 = some (.orc (pureO h40))) (h27 : Φ 27 = some c27) (h29 : Φ 29 = some (.orc (pureO h43))) (h28 : Φ 28 = some c28) (h41 : Φ 41 = some c41) (h42 : Φ 42 = some c42) (h51 : Φ 51 = some c51) (h52 : Φ 52 = some c52) (h50 : Φ 50 = some c50) (h77 : Φ 77 = some c77) (h78 : Φ 78 = some (.orc (pureO h78))) (h92 : Φ 92 = some (.orc (pureO h92))) {F : RO} {M0 M : Mem} {c c1 cb : Nat} (ht : tabsIn F L = true) (hE1 : ErrVar F 1) (hE2 : ErrVar F 2) {s rest : List UInt8} {op d a b : Int} (h : PI F M0 M c1 c cb rest op d a b 0)
  (HC : ∀ op' d' a' b' i', mayI op' d' a' b' i' = true → textB op' d' a' b' i' = s → op' = op ∧ d' = d ∧ a' = a ∧ b' = b ∧ rest = joinL [32] (R4 op i')) (u : List (Option V)) :
  Wp b10_19 (K Φ none 10 F) (.mk ((.n (.n (.n (.n (uv3 u 31 15 47) (some (.p (c + 3) 0)) (uv3 u 39 23 55)) (some (.i .i64 0)) (uv7 u 35 19 51 11 43 27 59)) (uO u 1) (.n (uv7 u 33 17 49 9 41 25 57) (some (.p (c + 2) 0)) (uv7 u 37 21 53 13 45 29 61))) (some (sV s)) (.n (.n (.n (uv3 u 32 16 48) (some (.p cb 0)) (uv3 u 40 24 56)) (some (.p (c + 1) 0)) (uv7 u 36 20 52 12 44 28 60)) (some (.p c 0)) (.n (uv7 u 34 18 50 10 42 26 58) (some (.f 27 [] [.p (c + 2) 0])) (uv7 u 38 22 54 14 46 30 62))))) [] M c1) (seqQ b10_25 (K Φ none 10 F) (endQ F [.cn (.r .h) 5, .t (.l (.l .h))] fun r M' c' => ParseP s r ∧ Gr c M0 c' M')) := by
 have hPI := h
 obtain ⟨ok, k1, k2, k3, g0, g1, g2, g3, g4, g5, g6, g7⟩ := h
 have lb : load1 F M cb 3 = some (.b (iI (formI op))) := load_row g4 3
 cases hfl : iI (formI op) with
 | true =>
   rw [hfl] at lb
   simp only [WX, w10_17, w10_18, w10_19, lb]
   refine putE_to ((r27 Φ h27 h25 h26 h29 h28 h41 h42 h51 h52 h50 h77 h78 h92 ok hE1 hE2 g5 g1 (by omega) g2 g6 []).mono ?_)
   rintro r M2 c2 ⟨z, rfl, hz, hg⟩
   have hP := PI.step (d' := d) (a' := a) (b' := b) (i' := z) hPI hg
   have e3 : M2.get (c + 3) = some (rowB 24 [.i .i64 op, .i .i64 d, .i .i64 a, .i .i64 b, .i .i64 0]) := by rw [hg.old (c + 3) (by omega), get_ne _ _ (by omega)]; exact g3
   have hst := store_row e3 4 [.i .i64 z] (by simp) rfl
   simp only [WX, Nat.reduceAdd, hst]
   refine t10e Φ h9 h25 h26 h27 h29 h28 h41 h42 h51 h52 h50 h77 h78 h92 ht hE1 hE2 hP ?_ [none, _, none, none, none, none, none, none, none, _, _, _, _, _, _, _, _, _, _, _, _, _, _, _, _, _, _, _, _, _, _, _, _, _, _, _, _, _, _, _, _, _, _, _, _, _, _, _, _, _, _, _, _, _, _, _, _, _, _, _, _, _, _]
   intro op' d' a' b' i' hm' hs'
   obtain ⟨rfl, rfl, rfl, rfl, e⟩ := HC op' d' a' b' i' hm' hs'
   obtain ⟨m1, m2, m3, m4, m5⟩ := may_num hm'
   have hw : rest = joinL [32] ((itoa i') :: []) := by rw [e, R4, hfl, if_pos rfl] <;> rfl
   have hr : -10000000 < i' ∧ i' < 10000000 := by omega
   obtain ⟨w1, w2⟩ := cut_join (itoa i') ([]) (itoa_no hr.1 hr.2)
   rw [← hw] at w1 w2
   rw [w1, trimP_nil] at hz
   have hzz := hz i' hr.1 hr.2 rfl
   exact ⟨rfl, rfl, rfl, rfl, hzz.symm⟩
 | false =>
   rw [hfl] at lb
   simp only [WX, w10_17, w10_19, lb]
   refine t10e Φ h9 h25 h26 h27 h29 h28 h41 h42 h51 h52 h50 h77 h78 h92 ht hE1 hE2 (rest := rest) hPI ?_ [none, _, none, none, none, none, none, none, none, _, _, _, _, _, _, _, _, _, _, _, _, _, _, _, _, _, _, _, _, _, _, _, _, _, _, _, _, _, _, _, _, _, _, _, _, _, _, _, _, _, _, _, _, _, _, _, _, _, _, _, _, _, _]
   intro op' d' a' b' i' hm' hs'
   obtain ⟨rfl, rfl, rfl, rfl, e⟩ := HC op' d' a' b' i' hm' hs'
   have hz := (may_regs hm').2.2.2 hfl
   exact ⟨rfl, rfl, rfl, rfl, hz⟩
theorem t10b (Φ : Nat → Option CF) {L : List Tab} (h9 : Φ 9 = some (.orc (pureT L h9))) (h25 : Φ 25 = some c25) (h26 : Φ 26 = some (.orc (pureO h40))) (h27 : Φ 27 = some c27) (h29 : Φ 29 = some (.orc (pureO h43))) (h28 : Φ 28 = some c28) (h41 : Φ 41 = some c41) (h42 : Φ 42 = some c42) (h51 : Φ 51 = some c51) (h52 : Φ 52 = some c52) (h50 : Φ 50 = some c50) (h77 : Φ 77 = some c77) (h78 : Φ 78 = some (.orc (pureO h78))) (h92 : Φ 92 = some (.orc (pureO h92))) {F : RO} {M0 M : Mem} {c c1 cb : Nat} (ht : tabsIn F L = true) (hE1 : ErrVar F 1) (hE2 : ErrVar F 2) {s rest : List UInt8} {op d a : Int} (h : PI F M0 M c1 c cb rest op d a 0 0)
  (HC : ∀ op' d' a' b' i', mayI op' d' a' b' i' = true → textB op' d' a' b' i' = s → op' = op ∧ d' = d ∧ a' = a ∧ rest = joinL [32] (R3 op b' i')) (u : List (Option V)) :
  Wp b10_16 (K Φ none 10 F) (.mk ((.n (.n (.n (.n (uv3 u 31 15 47) (some (.p (c + 3) 0)) (uv3 u 39 23 55)) (some (.i .i64 0)) (uv7 u 35 19 51 11 43 27 59)) (uO u 1) (.n (uv7 u 33 17 49 9 41 25 57) (some (.p (c + 2) 0)) (uv7 u 37 21 53 13 45 29 61))) (some (sV s)) (.n (.n (.n (uv3 u 32 16 48) (some (.p cb 0)) (uv3 u 40 24 56)) (some (.p (c + 1) 0)) (uv7 u 36 20 52 12 44 28 60)) (some (.p c 0)) (.n (uv7 u 34 18 50 10 42 26 58) (some (.f 27 [] [.p (c + 2) 0])) (uv7 u 38 22 54 14 46 30 62))))) [] M c1) (seqQ (.seq b10_19 b10_25) (K Φ none 10 F) (endQ F [.cn (.r .h) 5, .t (.l (.l .h))] fun r M' c' => ParseP s r ∧ Gr c M0 c' M')) := by
 have hPI := h
 obtain ⟨ok, k1, k2, k3, g0, g1, g2, g3, g4, g5, g6, g7⟩ := h
 have lb : load1 F M cb 2 = some (.b (bI (formI op))) := load_row g4 2
 cases hfl : bI (formI op) with
 | true =>
   rw [hfl] at lb
   simp only [WX, w10_14, w10_15, w10_16, lb]
   refine putE_to ((r27 Φ h27 h25 h26 h29 h28 h41 h42 h51 h52 h50 h77 h78 h92 ok hE1 hE2 g5 g1 (by omega) g2 g6 [114]).mono ?_)
   rintro r M2 c2 ⟨z, rfl, hz, hg⟩
   have hP := PI.step (d' := d) (a' := a) (b' := z) (i' := 0) hPI hg
   have e3 : M2.get (c + 3) = some (rowB 24 [.i .i64 op, .i .i64 d, .i .i64 a, .i .i64 0, .i .i64 0]) := by rw [hg.old (c + 3) (by omega), get_ne _ _ (by omega)]; exact g3
   have hst := store_row e3 3 [.i .i64 z] (by simp) rfl
   simp only [WX, Nat.reduceAdd, hst]
   refine t10i Φ h9 h25 h26 h27 h29 h28 h41 h42 h51 h52 h50 h77 h78 h92 ht hE1 hE2 hP ?_ [none, _, none, none, none, none, none, none, none, _, _, _, _, _, _, _, _, _, _, _, _, _, _, _, _, _, _, _, _, _, _, _, _, _, _, _, _, _, _, _, _, _, _, _, _, _, _, _, _, _, _, _, _, _, _, _, _, _, _, _, _, _, _]
   intro op' d' a' b' i' hm' hs'
   obtain ⟨rfl, rfl, rfl, e⟩ := HC op' d' a' b' i' hm' hs'
   obtain ⟨m1, m2, m3, m4, m5⟩ := may_num hm'
   have hw : rest = joinL [32] ((114 :: itoa b') :: R4 op' i') := by rw [e, R3, hfl, if_pos rfl] <;> rfl
   have hr : -10000000 < b' ∧ b' < 10000000 := by have := m3 2; rw [show numT d' a' b' 2 = b' from rfl] at this; omega
   obtain ⟨w1, w2⟩ := cut_join (114 :: itoa b') (R4 op' i') (rW_no hr.1 hr.2)
   rw [← hw] at w1 w2
   rw [w1, trimP_r] at hz
   have hzz := hz b' hr.1 hr.2 rfl
   exact ⟨rfl, rfl, rfl, hzz.symm, w2⟩
 | false =>
   rw [hfl] at lb
   simp only [WX, w10_14, w10_16, lb]
   refine t10i Φ h9 h25 h26 h27 h29 h28 h41 h42 h51 h52 h50 h77 h78 h92 ht hE1 hE2 (rest := rest) hPI ?_ [none, _, none, none, none, none, none, none, none, _, _, _, _, _, _, _, _, _, _, _, _, _, _, _, _, _, _, _, _, _, _, _, _, _, _, _, _, _, _, _, _, _, _, _, _, _, _, _, _, _, _, _, _, _, _, _, _, _, _, _, _, _, _]
   intro op' d' a' b' i' hm' hs'
   obtain ⟨rfl, rfl, rfl, e⟩ := HC op' d' a' b' i' hm' hs'
   have hz := (may_regs hm').2.2.1 hfl
   exact ⟨rfl, rfl, rfl, hz, by rw [e, R3, hfl, if_neg (by decide)] <;> rfl⟩
theorem t10a (Φ : Nat → Option CF) {L : List Tab} (h9 : Φ 9 = some (.orc (pureT L h9))) (h25 : Φ 25 = some c25) (h26 : Φ 26 = some (.orc (pureO h40))) (h27 : Φ 27 = some c27) (h29 : Φ 29 = some (.orc (pureO h43))) (h28 : Φ 28 = some c28) (h41 : Φ 41 = some c41) (h42 : Φ 42 = some c42) (h51 : Φ 51 = some c51) (h52 : Φ 52 = some c52) (h50 : Φ 50 = some c50) (h77 : Φ 77 = some c77) (h78 : Φ 78 = some (.orc (pureO h78))) (h92 : Φ 92 = some (.orc (pureO h92))) {F : RO} {M0 M : Mem} {c c1 cb : Nat} (ht : tabsIn F L = true) (hE1 : ErrVar F 1) (hE2 : ErrVar F 2) {s rest : List UInt8} {op d : Int} (h : PI F M0 M c1 c cb rest op d 0 0 0)
  (HC : ∀ op' d' a' b' i', mayI op' d' a' b' i' = true → textB op' d' a' b' i' = s → op' = op ∧ d' = d ∧ rest = joinL [32] (R2 op a' b' i')) (u : List (Option V)) :
  Wp b10_13 (K Φ none 10 F) (.mk ((.n (.n (.n (.n (uv3 u 31 15 47) (some (.p (c + 3) 0)) (uv3 u 39 23 55)) (some (.i .i64 0)) (uv7 u 35 19 51 11 43 27 59)) (uO u 1) (.n (uv7 u 33 17 49 9 41 25 57) (some (.p (c + 2) 0)) (uv7 u 37 21 53 13 45 29 61))) (some (sV s)) (.n (.n (.n (uv3 u 32 16 48) (some (.p cb 0)) (uv3 u 40 24 56)) (some (.p (c + 1) 0)) (uv7 u 36 20 52 12 44 28 60)) (some (.p c 0)) (.n (uv7 u 34 18 50 10 42 26 58) (some (.f 27 [] [.p (c + 2) 0])) (uv7 u 38 22 54 14 46 30 62))))) [] M c1) (seqQ (.seq b10_16 (.seq b10_19 b10_25)) (K Φ none 10 F) (endQ F [.cn (.r .h) 5, .t (.l (.l .h))] fun r M' c' => ParseP s r ∧ Gr c M0 c' M')) := by
 have hPI := h
 obtain ⟨ok, k1, k2, k3, g0, g1, g2, g3, g4, g5, g6, g7⟩ := h
 have lb : load1 F M cb 1 = some (.b (aI (formI op))) := load_row g4 1
 cases hfl : aI (formI op) with
 | true =>
   rw [hfl] at lb
   simp only [WX, w10_11, w10_12, w10_13, lb]
   refine putE_to ((r27 Φ h27 h25 h26 h29 h28 h41 h42 h51 h52 h50 h77 h78 h92 ok hE1 hE2 g5 g1 (by omega) g2 g6 [114]).mono ?_)
   rintro r M2 c2 ⟨z, rfl, hz, hg⟩
   have hP := PI.step (d' := d) (a' := z) (b' := 0) (i' := 0) hPI hg
   have e3 : M2.get (c + 3) = some (rowB 24 [.i .i64 op, .i .i64 d, .i .i64 0, .i .i64 0, .i .i64 0]) := by rw [hg.old (c + 3) (by omega), get_ne _ _ (by omega)]; exact g3
   have hst := store_row e3 2 [.i .i64 z] (by simp) rfl
   simp only [WX, Nat.reduceAdd, hst]
   refine t10b Φ h9 h25 h26 h27 h29 h28 h41 h42 h51 h52 h50 h77 h78 h92 ht hE1 hE2 hP ?_ [none, _, none, none, none, none, none, none, none, _, _, _, _, _, _, _, _, _, _, _, _, _, _, _, _, _, _, _, _, _, _, _, _, _, _, _, _, _, _, _, _, _, _, _, _, _, _, _, _, _, _, _, _, _, _, _, _, _, _, _, _, _, _]
   intro op' d' a' b' i' hm' hs'
   obtain ⟨rfl, rfl, e⟩ := HC op' d' a' b' i' hm' hs'
   obtain ⟨m1, m2, m3, m4, m5⟩ := may_num hm'
   have hw : rest = joinL [32] ((114 :: itoa a') :: R3 op' b' i') := by rw [e, R2, hfl, if_pos rfl] <;> rfl
   have hr : -10000000 < a' ∧ a' < 10000000 := by have := m3 1; rw [show numT d' a' b' 1 = a' from rfl] at this; omega
   obtain ⟨w1, w2⟩ := cut_join (114 :: itoa a') (R3 op' b' i') (rW_no hr.1 hr.2)
   rw [← hw] at w1 w2
   rw [w1, trimP_r] at hz
   have hzz := hz a' hr.1 hr.2 rfl
   exact ⟨rfl, rfl, hzz.symm, w2⟩
 | false =>
   rw [hfl] at lb
   simp only [WX, w10_11, w10_13, lb]
   refine t10b Φ h9 h25 h26 h27 h29 h28 h41 h42 h51 h52 h50 h77 h78 h92 ht hE1 hE2 (rest := rest) hPI ?_ [none, _, none, none, none, none, none, none, none, _, _, _, _, _, _, _, _, _, _, _, _, _, _, _, _, _, _, _, _, _, _, _, _, _, _, _, _, _, _, _, _, _, _, _, _, _, _, _, _, _, _, _, _, _, _, _, _, _, _, _, _, _, _]
   intro op' d' a' b' i' hm' hs'
   obtain ⟨rfl, rfl, e⟩ := HC op' d' a' b' i' hm' hs'
   have hz := (may_regs hm').2.1 hfl
   exact ⟨rfl, rfl, hz, by rw [e, R2, hfl, if_neg (by decide)] <;> rfl⟩
theorem t10d (Φ : Nat → Option CF) {L : List Tab} (h9 : Φ 9 = some (.orc (pureT L h9))) (h25 : Φ 25 = some c25) (h26 : Φ 26 = some (.orc (pureO h40))) (h27 : Φ 27 = some c27) (h29 : Φ 29 = some (.orc (pureO h43))) (h28 : Φ 28 = some c28) (h41 : Φ 41 = some c41) (h42 : Φ 42 = some c42) (h51 : Φ 51 = some c51) (h52 : Φ 52 = some c52) (h50 : Φ 50 = some c50) (h77 : Φ 77 = some c77) (h78 : Φ 78 = some (.orc (pureO h78))) (h92 : Φ 92 = some (.orc (pureO h92))) {F : RO} {M0 M : Mem} {c c1 cb : Nat} (ht : tabsIn F L = true) (hE1 : ErrVar F 1) (hE2 : ErrVar F 2) {s rest : List UInt8} {op : Int} (h : PI F M0 M c1 c cb rest op 0 0 0 0)
  (HC : ∀ op' d' a' b' i', mayI op' d' a' b' i' = true → textB op' d' a' b' i' = s → op' = op ∧ rest = joinL [32] (R1 op d' a' b' i')) (u : List (Option V)) :
  Wp b10_10 (K Φ none 10 F) (.mk ((.n (.n (.n (.n (uv3 u 31 15 47) (some (.p (c + 3) 0)) (uv3 u 39 23 55)) (some (.i .i64 0)) (uv7 u 35 19 51 11 43 27 59)) (uO u 1) (.n (uv7 u 33 17 49 9 41 25 57) (some (.p (c + 2) 0)) (uv7 u 37 21 53 13 45 29 61))) (some (sV s)) (.n (.n (.n (uv3 u 32 16 48) (some (.p cb 0)) (uv3 u 40 24 56)) (some (.p (c + 1) 0)) (uv7 u 36 20 52 12 44 28 60)) (some (.p c 0)) (.n (uv7 u 34 18 50 10 42 26 58) (some (.f 27 [] [.p (c + 2) 0])) (uv7 u 38 22 54 14 46 30 62))))) [] M c1) (seqQ (.seq b10_13 (.seq b10_16 (.seq b10_19 b10_25))) (K Φ none 10 F) (endQ F [.cn (.r .h) 5, .t (.l (.l .h))] fun r M' c' => ParseP s r ∧ Gr c M0 c' M')) := by
 have hPI := h
 obtain ⟨ok, k1, k2, k3, g0, g1, g2, g3, g4, g5, g6, g7⟩ := h
 have lb : load1 F M cb 0 = some (.b (dI (formI op))) := load_row g4 0
 cases hfl : dI (formI op) with
 | true =>
   rw [hfl] at lb
   simp only [WX, w10_8, w10_9, w10_10, lb]
   refine putE_to ((r27 Φ h27 h25 h26 h29 h28 h41 h42 h51 h52 h50 h77 h78 h92 ok hE1 hE2 g5 g1 (by omega) g2 g6 [114]).mono ?_)
   rintro r M2 c2 ⟨z, rfl, hz, hg⟩
   have hP := PI.step (d' := z) (a' := 0) (b' := 0) (i' := 0) hPI hg
   have e3 : M2.get (c + 3) = some (rowB 24 [.i .i64 op, .i .i64 0, .i .i64 0, .i .i64 0, .i .i64 0]) := by rw [hg.old (c + 3) (by omega), get_ne _ _ (by omega)]; exact g3
   have hst := store_row e3 1 [.i .i64 z] (by simp) rfl
   simp only [WX, Nat.reduceAdd, hst]
   refine t10a Φ h9 h25 h26 h27 h29 h28 h41 h42 h51 h52 h50 h77 h78 h92 ht hE1 hE2 hP ?_ [none, _, none, none, none, none, none, none, none, _, _, _, _, _, _, _, _, _, _, _, _, _, _, _, _, _, _, _, _, _, _, _, _, _, _, _, _, _, _, _, _, _, _, _, _, _, _, _, _, _, _, _, _, _, _, _, _, _, _, _, _, _, _]
   intro op' d' a' b' i' hm' hs'
   obtain ⟨rfl, e⟩ := HC op' d' a' b' i' hm' hs'
   obtain ⟨m1, m2, m3, m4, m5⟩ := may_num hm'
   have hw : rest = joinL [32] ((114 :: itoa d') :: R2 op' a' b' i') := by rw [e, R1, hfl, if_pos rfl] <;> rfl
   have hr : -10000000 < d' ∧ d' < 10000000 := by have := m3 0; rw [show numT d' a' b' 0 = d' from rfl] at this; omega
   obtain ⟨w1, w2⟩ := cut_join (114 :: itoa d') (R2 op' a' b' i') (rW_no hr.1 hr.2)
   rw [← hw] at w1 w2
   rw [w1, trimP_r] at hz
   have hzz := hz d' hr.1 hr.2 rfl
   exact ⟨rfl, hzz.symm, w2⟩
 | false =>
   rw [hfl] at lb
   simp only [WX, w10_8, w10_10, lb]
   refine t10a Φ h9 h25 h26 h27 h29 h28 h41 h42 h51 h52 h50 h77 h78 h92 ht hE1 hE2 (rest := rest) hPI ?_ [none, _, none, none, none, none, none, none, none, _, _, _, _, _, _, _, _, _, _, _, _, _, _, _, _, _, _, _, _, _, _, _, _, _, _, _, _, _, _, _, _, _, _, _, _, _, _, _, _, _, _, _, _, _, _, _, _, _, _, _, _, _, _]
   intro op' d' a' b' i' hm' hs'
   obtain ⟨rfl, e⟩ := HC op' d' a' b' i' hm' hs'
   have hz := (may_regs hm').1 hfl
   exact ⟨rfl, hz, by rw [e, R1, hfl, if_neg (by decide)] <;> rfl⟩
theorem r10 (Φ : Nat → Option CF) {L : List Tab} (h9 : Φ 9 = some (.orc (pureT L h9))) (h25 : Φ 25 = some c25) (h26 : Φ 26 = some (.orc (pureO h40))) (h27 : Φ 27 = some c27) (h29 : Φ 29 = some (.orc (pureO h43))) (h28 : Φ 28 = some c28) (h41 : Φ 41 = some c41) (h42 : Φ 42 = some c42) (h51 : Φ 51 = some c51) (h52 : Φ 52 = some c52) (h50 : Φ 50 = some c50) (h77 : Φ 77 = some c77) (h78 : Φ 78 = some (.orc (pureO h78))) (h92 : Φ 92 = some (.orc (pureO h92))) (h : Φ 10 = some c10) (h30 : Φ 30 = some c30) (h11 : Φ 11 = some (.orc (pureO h11))) (h32 : Φ 32 = some (.orc (pureO h32))) (h31 : Φ 31 = some c31) (h19 : Φ 19 = some (.orc (pureO h19))) (h18 : Φ 18 = some (.orc (pureO h18)))
  {F : RO} {M : Mem} {c : Nat} (ok : Okm F M c) (ht : tabsIn F L = true) (hE1 : ErrVar F 1) (hE2 : ErrVar F 2) (hlow : ∀ g, g < 1000 → M.get g = none) (s : List UInt8) (hs : s.length ≤ 1000000) :
  Calls Φ F 10 [sV s] M c fun r M' c' => ParseP s r ∧ Gr c M c' M' := by
 refine calls_walk h ?_
 have hge := ok.ge
 have hS : ∀ l, isOne (sV l) = true := fun _ => rfl
 have hF : ∀ l, flatten (sV l) = [sV l] := fun _ => rfl
 have hF2 : ∀ f a b, flatten (V.f f a b) = [V.f f a b] := fun _ _ _ => rfl
 simp only [WX, Nat.reduceBEq, Nat.reduceAdd, Nat.reduceLeDiff, e10, w10_1, w10_2, w10_3, w10_4, w10_5, w10_6, w10_27, hS, hF, hF2]
 obtain ⟨X, hX⟩ : ∃ X : Mem, X = (((M.set c (rowB 24 [V.i .i64 0, V.i .i64 0, V.i .i64 0, V.i .i64 0, V.i .i64 0])).set (c + 1) (rowB 9 [sV s])).set (c + 2) (rowB 70 [V.f 25 [] [V.p (c + 1) 0]])).set (c + 3) (rowB 24 [V.i .i64 0, V.i .i64 0, V.i .i64 0, V.i .i64 0, V.i .i64 0]) := ⟨_, rfl⟩
 rw [← hX]
 have grX : Gr c M (c + 4) X := by
  rw [hX]
  exact ((((Gr.refl ok).set c _ (Nat.le_refl _) (Nat.lt_succ_self _) (Nat.le_succ _)).set (c + 1) _ (by omega) (show c + 1 < c + 2 by omega) (by omega)).set (c + 2) _ (by omega) (show c + 2 < c + 3 by omega) (by omega)).set (c + 3) _ (by omega) (by omega) (by omega)
 have okX := grX.ok ok
 have x0 : X.get c = some (rowB 24 [.i .i64 0, .i .i64 0, .i .i64 0, .i .i64 0, .i .i64 0]) := by rw [hX, get_ne _ _ (by omega), get_ne _ _ (by omega), get_ne _ _ (by omega), get_same]
 have x1 : X.get (c + 1) = some (rowB 9 [sV s]) := by rw [hX, get_ne _ _ (by omega), get_ne _ _ (by omega), get_same]
 have x2 : X.get (c + 2) = some (rowB 70 [.f 25 [] [.p (c + 1) 0]]) := by rw [hX, get_ne _ _ (by omega), get_same]
 have x3 : X.get (c + 3) = some (rowB 24 [.i .i64 0, .i .i64 0, .i .i64 0, .i .i64 0, .i .i64 0]) := by rw [hX, get_same]
 have xl : ∀ g, g < 1000 → X.get g = none := fun g hg => by rw [grX.old g (by omega)]; exact hlow g hg
 clear hX
 refine putE_to ((r25 Φ h25 h26 x1 hs).mono ?_)
 rintro r M1 c1 ⟨rfl, rfl, rfl⟩
 have ok1 := okX.put (y := rowB 9 [sV (aftL s)]) (show c + 1 < c + 4 by omega) x1
 simp only [WX]
 refine putE_to ((r30 Φ h30 h11 h32 h31 (befL s) ok1).mono ?_)
 rintro r M2 c2 ⟨⟨op, b, rfl, hfd⟩, hg⟩
 have ok2 := hg.ok ok1
 have o : ∀ x, x < c + 4 → x ≠ c + 1 → M2.get x = X.get x := fun x hx hn => by rw [hg.old x hx, get_ne _ _ hn]
 have hle := hg.le
 have e3 : M2.get (c + 3) = some (rowB 24 [.i .i64 0, .i .i64 0, .i .i64 0, .i .i64 0, .i .i64 0]) := by rw [o _ (by omega) (by omega)]; exact x3
 have hst := store_row e3 0 [.i .i64 op] (by simp) rfl
 have ld3 : load1 F (M2.set (c + 3) (rowB 24 (over [.i .i64 0, .i .i64 0, .i .i64 0, .i .i64 0, .i .i64 0] 0 [.i .i64 op]))) (c + 3) 0 = some (.i .i64 op) := load_row (get_same _ _ _) 0
 rw [show over [V.i .i64 0, V.i .i64 0, V.i .i64 0, V.i .i64 0, V.i .i64 0] 0 [V.i .i64 op] = [.i .i64 op, .i .i64 0, .i .i64 0, .i .i64 0, .i .i64 0] from rfl] at ld3
 simp only [WX, Nat.reduceAdd, Nat.reduceLeDiff, w10_7, hst, ld3, h19, h19_eq, h18, h18_eq]
 have gY : Gr c2 (M2.set (c + 3) (rowB 24 [.i .i64 op, .i .i64 0, .i .i64 0, .i .i64 0, .i .i64 0])) (c2 + 1) ((M2.set (c + 3) (rowB 24 [.i .i64 op, .i .i64 0, .i .i64 0, .i .i64 0, .i .i64 0])).set c2 (rowB 54 [.b (dI (formI op)), .b (aI (formI op)), .b (bI (formI op)), .b (iI (formI op))])) :=
  (Gr.refl (ok2.put (by omega) e3)).set c2 _ (Nat.le_refl _) (Nat.lt_succ_self _) (Nat.le_succ _)
 have okY := gY.ok (ok2.put (by omega) e3)
 have hPI : PI F M ((M2.set (c + 3) (rowB 24 [.i .i64 op, .i .i64 0, .i .i64 0, .i .i64 0, .i .i64 0])).set c2 (rowB 54 [.b (dI (formI op)), .b (aI (formI op)), .b (bI (formI op)), .b (iI (formI op))])) (c2 + 1) c c2 (aftL s) op 0 0 0 0 := by
  refine ⟨okY, by omega, by omega, hge, ?_, ?_, ?_, ?_, get_same _ _ _, fun g hg' => ?_, Nat.le_trans (aftL_len s) hs, ((((grX.set (c2 := c + 4) (c + 1) _ (by omega) (by omega) (Nat.le_refl _)).trans hg).set (c2 := c2) (c + 3) _ (by omega) (by omega) (Nat.le_refl _))).set (c2 := c2 + 1) c2 _ (by omega) (by omega) (by omega)⟩
  · rw [get_ne _ _ (by omega), get_ne _ _ (by omega), o c (by omega) (by omega)]; exact x0
  · rw [get_ne _ _ (by omega), get_ne _ _ (by omega), hg.old (c + 1) (by omega), get_same]
  · rw [get_ne _ _ (by omega), get_ne _ _ (by omega), o (c + 2) (by omega) (by omega)]; exact x2
  · rw [get_ne _ _ (by omega), get_same]
  · rw [get_ne _ _ (by omega), get_ne _ _ (by omega), o g (by omega) (by omega)]; exact xl g hg'
 simp only [WX, w10_26]
 refine t10d Φ h9 h25 h26 h27 h29 h28 h41 h42 h51 h52 h50 h77 h78 h92 ht hE1 hE2 hPI ?_ [none, _, none, none, none, none, none, none, none, _, _, _, _, _, _, _, _, _, _, _, _, _, _, _, _, _, _, _, _, _, _, _, _, _, _, _, _, _, _, _, _, _, _, _, _, _, _, _, _, _, _, _, _, _, _, _, _, _, _, _, _, _, _]
 intro op' d' a' b' i' hm' hs'
 have hw : s = joinL [32] (nameB op' :: R1 op' d' a' b' i') := by rw [← words_eq]; exact hs'.symm
 obtain ⟨w1, w2⟩ := cut_join (nameB op') (R1 op' d' a' b' i') (name_no op')
 rw [← hw] at w1 w2
 obtain ⟨n1, n2, _⟩ := may_num hm'
 have hN : IsN (nameB op') op'.toNat := by
  unfold IsN nameB
  rw [if_pos ⟨n1, n2⟩, List.getElem?_eq_getElem (show op'.toNat < nameL.length by rw [nameL_len]; omega)]
  exact ⟨by omega, rfl⟩
 rw [w1] at hfd
 rcases hfd with ⟨k, hk, rfl, _⟩ | ⟨hk, _⟩
 · have := isN_uniq hN hk
   have he : op' = (k : Int) := by omega
   subst he
   exact ⟨rfl, w2⟩
 · exact absurd hN (hk _)
def TabsSelf (L : List Tab) : Prop := ∀ ty, tabsIn (tabF L ty) L = true
theorem okm_self {L : List Tab} {ty : Nat → Nat} {ct : Nat} (hs : TabsSelf L) (hc : 1000 ≤ ct) : Okm (tabF L ty) .e ct := okm_tab (fun t ht => (tabsIn_mem (hs ty) t ht).1) hc
theorem bindS {v w : V} {f : List UInt8 → Option V} (h : (asS v).bind f = some w) : ∃ l, v = sV l ∧ f l = some w := by
 obtain ⟨l, h1, h2⟩ := Option.bind_eq_some_iff.1 h
 exact ⟨l, of_asS h1, h2⟩
theorem bindB {v w : V} {f : UInt8 → Option V} (h : (asB v).bind f = some w) : ∃ b, v = bV b ∧ f b = some w := by
 obtain ⟨l, h1, h2⟩ := Option.bind_eq_some_iff.1 h
 exact ⟨l, of_asB h1, h2⟩
theorem cutV_bd (b : UInt8) (l : List UInt8) : bd (fun _ => False) (cutV b l) := by
 unfold cutV
 cases fnd b l 0 <;> exact ⟨trivial, trivial, trivial, trivial⟩
section
variable {P : Program} (hm : P.follows .mixedOrders = true) {Φ : Nat → Option CF} (hΦ : PhiOk P Φ)
include hm hΦ
theorem o73 (h : Φ 73 = some c73) : OrcOk P 73 (pureO h73) := pure_of hm hΦ (by
 intro args v ct hv hct; unfold h73 at hv; split at hv
 · obtain ⟨l, rfl, hv1⟩ := bindS hv
   obtain ⟨b, rfl, hv2⟩ := bindB hv1
   obtain rfl := Option.some.inj hv2; exact ⟨trivial, t73 Φ h _ _ _⟩
 · cases hv)
theorem o49 (h : Φ 49 = some c49) (h73 : Φ 73 = some (.orc (pureO h73))) : OrcOk P 49 (pureO h49) := pure_of hm hΦ (by
 intro args v ct hv hct; unfold h49 at hv; split at hv
 · obtain ⟨l, rfl, hv1⟩ := bindS hv
   obtain ⟨s, rfl, hv2⟩ := bindS hv1
   split at hv2
   · obtain rfl := Option.some.inj hv2; exact ⟨trivial, t49 Φ h h73 _ _ _⟩
   · cases hv2
 · cases hv)
theorem o40 (h : Φ 40 = some c40) (h49 : Φ 49 = some (.orc (pureO h49))) : OrcOk P 40 (pureO h40) := pure_of hm hΦ (by
 intro args v ct hv hct; unfold h40 at hv; split at hv
 · obtain ⟨l, rfl, hv1⟩ := bindS hv
   obtain ⟨s, rfl, hv2⟩ := bindS hv1
   split at hv2
   · split at hv2
     · rename_i hl; obtain rfl := Option.some.inj hv2; exact ⟨cutV_bd _ _, t40 Φ h h49 _ _ hl _⟩
     · cases hv2
   · cases hv2
 · cases hv)
theorem o26 (h : Φ 26 = some c26) (h40' : Φ 40 = some (.orc (pureO h40))) : OrcOk P 26 (pureO h40) := pure_of hm hΦ (by
 intro args v ct hv hct; unfold h40 at hv; split at hv
 · obtain ⟨l, rfl, hv1⟩ := bindS hv
   obtain ⟨s, rfl, hv2⟩ := bindS hv1
   split at hv2
   · split at hv2
     · rename_i hl; obtain rfl := Option.some.inj hv2; exact ⟨cutV_bd _ _, t26 Φ h h40' _ _ hl _⟩
     · cases hv2
   · cases hv2
 · cases hv)
theorem o55 (h : Φ 55 = some c55) : OrcOk P 55 (pureO h55) := pure_of hm hΦ (by
 intro args v ct hv hct; unfold h55 at hv; split at hv
 · obtain ⟨l, rfl, hv1⟩ := bindS hv
   obtain ⟨s, rfl, hv2⟩ := bindS hv1
   obtain rfl := Option.some.inj hv2; exact ⟨trivial, t55 Φ h _ _ _⟩
 · cases hv)
theorem o43 (h : Φ 43 = some c43) (h55 : Φ 55 = some (.orc (pureO h55))) : OrcOk P 43 (pureO h43) := pure_of hm hΦ (by
 intro args v ct hv hct; unfold h43 at hv; split at hv
 · obtain ⟨l, rfl, hv1⟩ := bindS hv
   obtain ⟨s, rfl, hv2⟩ := bindS hv1
   obtain rfl := Option.some.inj hv2; exact ⟨trivial, t43 Φ h h55 _ _ _⟩
 · cases hv)
theorem o29 (h : Φ 29 = some c29) (h43' : Φ 43 = some (.orc (pureO h43))) : OrcOk P 29 (pureO h43) := pure_of hm hΦ (by
 intro args v ct hv hct; unfold h43 at hv; split at hv
 · obtain ⟨l, rfl, hv1⟩ := bindS hv
   obtain ⟨s, rfl, hv2⟩ := bindS hv1
   obtain rfl := Option.some.inj hv2; exact ⟨trivial, t29 Φ h h43' _ _ _⟩
 · cases hv)
theorem o86 (h : Φ 86 = some c86) : OrcOk P 86 (pureO h86) := pure_of hm hΦ (by
 intro args v ct hv hct; unfold h86 at hv; split at hv
 · split at hv
   · rename_i hh; obtain rfl := Option.some.inj hv; exact ⟨trivial, t86 Φ h _ hh _⟩
   · cases hv
 · cases hv)
theorem o87 (h : Φ 87 = some c87) : OrcOk P 87 (pureO h87) := pure_of hm hΦ (by
 intro args v ct hv hct; unfold h87 at hv; split at hv
 · obtain rfl := Option.some.inj hv; exact ⟨trivial, t87 Φ h _ _⟩
 · cases hv)
theorem o67 (h : Φ 67 = some c67) : OrcOk P 67 (pureO h67) := pure_of hm hΦ (by
 intro args v ct hv hct; unfold h67 at hv; split at hv
 · split at hv
   · rename_i hh; obtain rfl := Option.some.inj hv; exact ⟨trivial, t67 Φ h _ hh _⟩
   · cases hv
 · cases hv)
theorem o92 (h : Φ 92 = some c92) : OrcOk P 92 (pureO h92) := pure_of hm hΦ (by
 intro args v ct hv hct; unfold h92 at hv; split at hv
 · obtain ⟨b, rfl, hv1⟩ := bindB hv
   obtain rfl := Option.some.inj hv1; exact ⟨trivial, t92 Φ h _ _⟩
 · cases hv)
theorem o78 (h : Φ 78 = some c78) : OrcOk P 78 (pureO h78) := pure_of hm hΦ (by
 intro args v ct hv hct; unfold h78 at hv; split at hv
 · obtain ⟨l, rfl, hv1⟩ := bindS hv
   split at hv1
   · rename_i hl; obtain rfl := Option.some.inj hv1; exact ⟨trivial, t78 Φ h _ hl _⟩
   · cases hv1
 · cases hv)
theorem o68 {L : List Tab} (h : Φ 68 = some c68) (h66 : Φ 66 = some (.orc (pureO h66))) (h86 : Φ 86 = some (.orc (pureO h86))) (h87 : Φ 87 = some (.orc (pureO h87))) (hs : TabsSelf L) (hp : (3, IntKind.u64, pow10L) ∈ L) : OrcOk P 68 (pureT L h68) := pureT_ok hm hΦ (by
 intro args v ct ty hv hct; unfold h68 at hv; split at hv
 · split at hv
   · rename_i hh; obtain rfl := Option.some.inj hv; exact ⟨trivial, r68 Φ h h66 h86 h87 (okm_self hs hct) (hs ty) hp _ hh.1 hh.2⟩
   · cases hv
 · cases hv)
theorem o46 {L : List Tab} (h : Φ 46 = some c46) (h67 : Φ 67 = some (.orc (pureO h67))) (h68 : Φ 68 = some (.orc (pureT L h68))) (h69 : Φ 69 = some c69) (hs : TabsSelf L) : OrcOk P 46 (pureT L h46) := pureT_ok hm hΦ (by
 intro args v ct ty hv hct; unfold h46 at hv; split at hv
 · split at hv
   · rename_i hh; obtain rfl := Option.some.inj hv; exact ⟨trivial, r46 Φ h h67 h68 h69 (okm_self hs hct) (hs ty) _ hh.1 hh.2⟩
   · cases hv
 · cases hv)
theorem o36 {L : List Tab} (h : Φ 36 = some c36) (h46 : Φ 46 = some (.orc (pureT L h46))) (hs : TabsSelf L) : OrcOk P 36 (pureT L h36) := pureT_ok hm hΦ (by
 intro args v ct ty hv hct; unfold h36 at hv; split at hv
 · split at hv
   · rename_i hh; obtain rfl := Option.some.inj hv; exact ⟨trivial, r36 Φ h h46 (hs ty) _ hh.1 hh.2⟩
   · cases hv
 · cases hv)
theorem o23 {L : List Tab} (h : Φ 23 = some c23) (h36' : Φ 36 = some (.orc (pureT L h36))) (hs : TabsSelf L) : OrcOk P 23 (pureT L h36) := pureT_ok hm hΦ (by
 intro args v ct ty hv hct; unfold h36 at hv; split at hv
 · split at hv
   · rename_i hh; obtain rfl := Option.some.inj hv; exact ⟨trivial, r23 Φ h h36' (hs ty) _ hh.1 hh.2⟩
   · cases hv
 · cases hv)
theorem o9 {L : List Tab} (h : Φ 9 = some c9) (h21 : Φ 21 = some (.orc (pureO h21))) (h19 : Φ 19 = some (.orc (pureO h19))) (h18 : Φ 18 = some (.orc (pureO h18))) (h22 : Φ 22 = some (.orc (pureO h22))) (h23 : Φ 23 = some (.orc (pureT L h36)))
  (h24 : Φ 24 = some c24) (h37 : Φ 37 = some c37) (h38 : Φ 38 = some c38) (h39 : Φ 39 = some c39) (h47 : Φ 47 = some c47) (h48 : Φ 48 = some c48) (hs : TabsSelf L) : OrcOk P 9 (pureT L h9) := pureT_ok hm hΦ (by
 intro args v ct ty hv hct; unfold h9 at hv; split at hv
 · rename_i op d a b i
   obtain rfl := Option.some.inj hv
   by_cases hmy : mayI op d a b i = true
   · rw [if_pos hmy]
     exact ⟨⟨trivial, trivial, trivial⟩, r9 Φ h h21 h19 h18 h22 h23 h24 h37 h38 h39 h47 h48 (okm_self hs hct) (hs ty) op d a b i hmy⟩
   · rw [if_neg hmy]
     exact ⟨⟨trivial, trivial, trivial⟩, r9n Φ h h21 op d a b i (by simpa using hmy)⟩
 · cases hv)
theorem o11b (h : Φ 11 = some c11) : OrcOk P 11 (pureO h11) := pure_of hm hΦ (by
 intro args v ct hv hct; unfold h11 at hv; split at hv
 · obtain rfl := Option.some.inj hv; exact ⟨⟨trivial, trivial⟩, t11 Φ h _⟩
 · cases hv)
theorem o66b (h : Φ 66 = some c66) : OrcOk P 66 (pureO h66) := pure_of hm hΦ (by
 intro args v ct hv hct; unfold h66 at hv; split at hv
 · split at hv
   · obtain rfl := Option.some.inj hv; exact ⟨trivial, t66 Φ h _ (by assumption) _⟩
   · cases hv
 · cases hv)
end
theorem itoa_inj {m n : Int} (h1 : -10000000 < m) (h2 : m < 10000000) (k1 : -10000000 < n) (k2 : n < 10000000) (h : itoa m = itoa n) : m = n := by
 obtain ⟨⟨a1, a2⟩, ha⟩ := itoa_shape h1 h2
 obtain ⟨⟨b1, b2⟩, hb⟩ := itoa_shape k1 k2
 have nd : ∀ r : List UInt8, (∀ x ∈ (45 : UInt8) :: r, isDig x) → False := fun r hh => by
  have := hh 45 (List.mem_cons_self ..)
  unfold isDig at this
  rw [show (45 : UInt8).toNat = 45 from rfl] at this; omega
 rcases ha with ⟨_, d1, v1⟩ | ⟨_, r, e1, _, d1, v1⟩ <;> rcases hb with ⟨_, d2, v2⟩ | ⟨_, r2, e2, _, d2, v2⟩
 · rw [h] at v1; omega
 · rw [h, e2] at d1; exact (nd _ d1).elim
 · rw [← h, e1] at d2; exact (nd _ d2).elim
 · have : r = r2 := by rw [h, e2] at e1; injection e1 with _ e; exact e.symm
   subst this; omega
theorem reg_inj {m n : Int} (h1 : -10000000 < m) (h2 : m < 10000000) (k1 : -10000000 < n) (k2 : n < 10000000) {r r' : List (List UInt8)} (h : joinL [32] ((114 :: itoa m) :: r) = joinL [32] ((114 :: itoa n) :: r')) : m = n ∧ joinL [32] r = joinL [32] r' := by
 obtain ⟨p1, p2⟩ := cut_join (114 :: itoa m) r (rW_no h1 h2)
 obtain ⟨q1, q2⟩ := cut_join (114 :: itoa n) r' (rW_no k1 k2)
 rw [h] at p1 p2
 have e := p1.symm.trans q1
 injection e with _ e
 exact ⟨itoa_inj h1 h2 k1 k2 e, p2.symm.trans q2⟩
theorem join_one (w : List UInt8) : joinL [32] [w] = w := by simp [joinL]
theorem text_inj {op d a b i op' d' a' b' i' : Int} (hm : mayI op d a b i = true) (hm' : mayI op' d' a' b' i' = true) (h : textB op d a b i = textB op' d' a' b' i') : op = op' ∧ d = d' ∧ a = a' ∧ b = b' ∧ i = i' := by
 unfold textB at h
 rw [words_eq, words_eq] at h
 obtain ⟨n1, n2, n3, n4, n5⟩ := may_num hm
 obtain ⟨m1, m2, m3, m4, m5⟩ := may_num hm'
 obtain ⟨p1, p2⟩ := cut_join (nameB op) (R1 op d a b i) (name_no op)
 obtain ⟨q1, q2⟩ := cut_join (nameB op') (R1 op' d' a' b' i') (name_no op')
 rw [h] at p1 p2
 have e1 := p1.symm.trans q1
 have e2 := p2.symm.trans q2
 have isn : ∀ o : Int, 1 ≤ o → o ≤ 28 → IsN (nameB o) o.toNat := fun o g1 g2 => by
  unfold IsN nameB
  rw [if_pos ⟨g1, g2⟩, List.getElem?_eq_getElem (show o.toNat < nameL.length by rw [nameL_len]; omega)]
  exact ⟨by omega, rfl⟩
 have k1 := isn op n1 n2
 rw [e1] at k1
 have hop := isN_uniq k1 (isn op' m1 m2)
 obtain rfl : op = op' := by omega
 obtain ⟨z1, z2, z3, z4⟩ := may_regs hm
 obtain ⟨y1, y2, y3, y4⟩ := may_regs hm'
 have nd := n3 0; have na := n3 1; have nb := n3 2
 rw [show numT d a b 0 = d from rfl] at nd
 rw [show numT d a b 1 = a from rfl] at na
 rw [show numT d a b 2 = b from rfl] at nb
 have md := m3 0; have ma := m3 1; have mb := m3 2
 rw [show numT d' a' b' 0 = d' from rfl] at md
 rw [show numT d' a' b' 1 = a' from rfl] at ma
 rw [show numT d' a' b' 2 = b' from rfl] at mb
 have s1 : d = d' ∧ joinL [32] (R2 op a b i) = joinL [32] (R2 op a' b' i') := by
  unfold R1 at e2
  cases hf : dI (formI op) with
  | true =>
    rw [hf, if_pos rfl, if_pos rfl] at e2
    exact reg_inj (by omega) (by omega) (by omega) (by omega) e2
  | false =>
    rw [hf, if_neg (by decide), if_neg (by decide)] at e2
    exact ⟨(z1 hf).trans (y1 hf).symm, e2⟩
 have s2 : a = a' ∧ joinL [32] (R3 op b i) = joinL [32] (R3 op b' i') := by
  have e2 := s1.2
  unfold R2 at e2
  cases hf : aI (formI op) with
  | true =>
    rw [hf, if_pos rfl, if_pos rfl] at e2
    exact reg_inj (by omega) (by omega) (by omega) (by omega) e2
  | false =>
    rw [hf, if_neg (by decide), if_neg (by decide)] at e2
    exact ⟨(z2 hf).trans (y2 hf).symm, e2⟩
 have s3 : b = b' ∧ joinL [32] (R4 op i) = joinL [32] (R4 op i') := by
  have e2 := s2.2
  unfold R3 at e2
  cases hf : bI (formI op) with
  | true =>
    rw [hf, if_pos rfl, if_pos rfl] at e2
    exact reg_inj (by omega) (by omega) (by omega) (by omega) e2
  | false =>
    rw [hf, if_neg (by decide), if_neg (by decide)] at e2
    exact ⟨(z3 hf).trans (y3 hf).symm, e2⟩
 have s4 : i = i' := by
  have e2 := s3.2
  unfold R4 at e2
  cases hf : iI (formI op) with
  | true =>
    rw [hf, if_pos rfl, if_pos rfl, join_one, join_one] at e2
    exact itoa_inj (by omega) (by omega) (by omega) (by omega) e2
  | false => exact (z4 hf).trans (y4 hf).symm
 exact ⟨rfl, s1.1, s2.1, s3.1, s4⟩
theorem parse_uniq {s : List UInt8} {r r' : V} (h : ParseP s r) (h' : ParseP s r') : r = r' := by
 rcases h with ⟨op, d, a, b, i, hm, hs, rfl⟩ | ⟨hn, rfl⟩ <;> rcases h' with ⟨op', d', a', b', i', hm', hs', rfl⟩ | ⟨hn', rfl⟩
 · obtain ⟨rfl, rfl, rfl, rfl, rfl⟩ := text_inj hm hm' (hs.trans hs'.symm); rfl
 · exact absurd hs (hn' _ _ _ _ _ hm)
 · exact absurd hs' (hn _ _ _ _ _ hm')
 · rfl
def b4_1 : CC := (.reg [(ee a14 (.call 11 [])), (qq a1 (.mv z14))])
def b4_2 : CC := (.reg [(qq a15 (.mv z1)), (qq a16 (.eq false .func true z15 (.c .f0)))])
def b4_3 : CC := (.seq (.reg [(ez (.st 1 z0 xF))]) .ret)
def b4_4 : CC := (.reg [(aa a2 (.al 3 [(.i .i64 0)])), (ez (.st 1 z2 (x6 0)))])
def b4_5 : CC := (.reg [(qq a17 (.ld1 z2)), (qq a18 (.bi .lss z17 (x6 2)))])
def b4_6 : CC := (.seq b4_5 (.cond z18 .skip (.exit 0)))
def b4_7 : CC := (.reg [(aa a3 (.al 3 [(.i .i64 0)])), (ez (.st 1 z3 (x6 0)))])
def b4_8 : CC := (.reg [(qq a21 (.mv z1))])
def b4_9 : CC := (.reg [(qq a4 (.mv z22))])
def b4_10 : CC := (.reg [(qq a5 (.mv z23))])
def b4_11 : CC := (.reg [(qq a24 (.ld1 z3)), (qq a25 (.bi .add z24 (x6 1))), (ez (.st 1 z3 z25))])
def b4_12 : CC := (.dreg 15 [(0, 0, (qq a26 (.mv z4))), (1, 0, (qq a27 (.ld1 z3))), (2, 3, (qq a28 (.bi .neq z26 z27))), (3, 7, (qq a29 (.mv z28))), (4, 15, ⟨(some a30), .q (.ld1 z3), (some (a29, false))⟩), (5, 31, ⟨(some a31), .q (.bi .gtr z30 (x6 28)), (some (a29, false))⟩), (6, 63, (qq a32 (.pk z29 xT z31))), (7, 127, (qq a33 (.mv z32))), (8, 255, ⟨(some a34), .q (.mv z5), (some (a33, false))⟩), (10, 255, ⟨(some a36), .q (.ld1 z3), (some (a33, false))⟩), (9, 255, ⟨(some a35), .e (.call 12 []), (some (a33, false))⟩), (11, 1791, ⟨(some a37), .q (.iaS 1 z35 z36), (some (a33, false))⟩), (12, 3839, ⟨(some a38), .q (.ld1 z37), (some (a33, false))⟩), (13, 8191, ⟨(some a39), .q (.bi .neq z34 z38), (some (a33, false))⟩), (14, 16383, (qq a40 (.pk z33 xT z39)))])
def b4_13 : CC := (.seq (.reg [(ez (.st 1 z0 xF))]) .ret)
def b4_14 : CC := (.seq b4_12 (.cond z40 b4_13 .skip))
def b4_15 : CC := (.reg [(qq a41 (.ld1 z2)), (qq a42 (.bi .eql z41 (x6 0))), (qq a43 (.mv z42)), ⟨(some a44), .q (.ld1 z3), (some (a43, true))⟩, ⟨(some a45), .q (.bi .eql z44 (x6 5)), (some (a43, true))⟩, (qq a46 (.pk z43 z45 xF))])
def b4_16 : CC := (.seq b4_15 (.cond z46 (.exit 2) .skip))
def b4_17 : CC := (.rf z21 [a22, a23] (.seq b4_9 b4_10) (.block 3 (.seq b4_11 (.seq b4_14 b4_16))))
def b4_18 : CC := (.reg [(qq a47 (.ld1 z2)), (qq a48 (.bi .eql z47 (x6 1))), (qq a49 (.mv z48)), ⟨(some a50), .q (.ld1 z3), (some (a49, true))⟩, ⟨(some a51), .q (.bi .neq z50 (x6 28)), (some (a49, true))⟩, (qq a52 (.pk z49 z51 xF))])
def b4_19 : CC := (.seq (.reg [(ez (.st 1 z0 xF))]) .ret)
def b4_20 : CC := (.seq b4_18 (.cond z52 b4_19 .skip))
def b4_21 : CC := (.block 1 (.seq b4_7 (.seq (.seq b4_8 (.block 2 b4_17)) b4_20)))
def b4_22 : CC := (.reg [(qq a53 (.ld1 z2))])
def b4_23 : CC := (.reg [(aa a2 (.al 3 [(.i .i64 0)])), (ez (.st 1 z2 z53))])
def b4_24 : CC := (.reg [(qq a19 (.ld1 z2)), (qq a20 (.bi .add z19 (x6 1))), (ez (.st 1 z2 z20))])
def b4_25 : CC := (.loop (.seq b4_6 (.seq b4_21 (.seq (.seq b4_22 b4_23) b4_24))))
def b4_26 : CC := (.reg [(qq a54 (.bld [(.i .i64 0), (.i .i64 0), (.i .i64 0), (.i .i64 0), (.i .i64 0)] [(0, 1, (x6 5)), (4, 1, (x6 32768))])), (qq a55 (.bld [(.i .i64 0), (.i .i64 0), (.i .i64 0), (.i .i64 0), (.i .i64 0)] [(0, 1, (x6 5)), (4, 1, (x6 (-32769)))])), (qq a56 (.bld [(.i .i64 0), (.i .i64 0), (.i .i64 0), (.i .i64 0), (.i .i64 0)] [(0, 1, (x6 3)), (4, 1, (x6 (-1)))])), (qq a57 (.bld [(.i .i64 0), (.i .i64 0), (.i .i64 0), (.i .i64 0), (.i .i64 0)] [(0, 1, (x6 3)), (4, 1, (x6 65536))])), (qq a58 (.bld [(.i .i64 0), (.i .i64 0), (.i .i64 0), (.i .i64 0), (.i .i64 0)] [(0, 1, (x6 8)), (1, 1, (x6 16))])), (qq a59 (.bld [(.i .i64 0), (.i .i64 0), (.i .i64 0), (.i .i64 0), (.i .i64 0)] [(0, 1, (x6 8)), (3, 1, (x6 (-1)))])), (qq a60 (.bld [(.i .i64 0), (.i .i64 0), (.i .i64 0), (.i .i64 0), (.i .i64 0)] [(0, 1, (x6 1)), (1, 1, (x6 1))])), (qq a61 (.bld [(.i .i64 0), (.i .i64 0), (.i .i64 0), (.i .i64 0), (.i .i64 0)] [(0, 1, (x6 7)), (3, 1, (x6 1))])), (qq a62 (.bld [(.i .i64 0), (.i .i64 0), (.i .i64 0), (.i .i64 0), (.i .i64 0)] [(0, 1, (x6 29))])), (qq a63 (.bld [(.i .i64 0), (.i .i64 0), (.i .i64 0), (.i .i64 0), (.i .i64 0)] [])), (aa a64 (.bsl 24 10 5 [(.i .i64 0), (.i .i64 0), (.i .i64 0), (.i .i64 0), (.i .i64 0)] [(0, z54), (5, z55), (10, z56), (15, z57), (20, z58), (25, z59), (30, z60), (35, z61), (40, z62), (45, z63)])), (qq a6 (.mv z64))])
def b4_27 : CC := (.reg [(qq a7 (.mv (x6 0)))])
def b4_28 : CC := (.reg [(qq a65 (.mv z7)), (qq a66 (.mv z6)), (qq a67 (.ln .slice z66)), (qq a68 (.bi .lss z65 z67))])
def b4_29 : CC := (.cond z68 .skip (.exit 4))
def b4_30 : CC := (.reg [(qq a72 (.mv z6)), (qq a73 (.mv z7)), (qq a74 (.iaS 5 z72 z73)), (qq a75 (.ldn 5 z74)), (ee a76 (.call 8 [z75])), (qq a71 (.mv z76)), (qq a77 (.ex 0 z71)), (qq a78 (.ex 1 z71)), (qq a8 (.mv z77)), (qq a9 (.mv z78))])
def b4_31 : CC := (.reg [(qq a79 (.mv z9)), (ee a80 (.call 7 [z79])), (qq a81 (.bi .neq z80 (x6 2)))])
def b4_32 : CC := (.seq (.reg [(ez (.st 1 z0 xF))]) .ret)
def b4_33 : CC := (.seq b4_31 (.cond z81 b4_32 .skip))
def b4_34 : CC := (.reg [(qq a69 (.mv z7)), (qq a70 (.bi .add z69 (x6 1))), (qq a7 (.mv z70))])
def b4_35 : CC := (.seq (.seq b4_28 b4_29) (.seq (.block 5 (.seq b4_30 b4_33)) b4_34))
def b4_36 : CC := (.reg [(qq a82 (.bld [(.i .i64 0), (.i .i64 0), (.i .i64 0), (.i .i64 0), (.i .i64 0)] [(0, 1, (x6 5)), (4, 1, (x6 32767))])), (qq a83 (.bld [(.i .i64 0), (.i .i64 0), (.i .i64 0), (.i .i64 0), (.i .i64 0)] [(0, 1, (x6 5)), (1, 1, (x6 15)), (4, 1, (x6 (-32768)))])), (qq a84 (.bld [(.i .i64 0), (.i .i64 0), (.i .i64 0), (.i .i64 0), (.i .i64 0)] [(0, 1, (x6 3)), (4, 1, (x6 65535))])), (qq a85 (.bld [(.i .i64 0), (.i .i64 0), (.i .i64 0), (.i .i64 0), (.i .i64 0)] [(0, 1, (x6 6)), (1, 1, (x6 15)), (4, 1, (x6 65535))])), (qq a86 (.bld [(.i .i64 0), (.i .i64 0), (.i .i64 0), (.i .i64 0), (.i .i64 0)] [(0, 1, (x6 8)), (1, 1, (x6 15)), (2, 1, (x6 15)), (3, 1, (x6 15))])), (aa a87 (.bsl 24 5 5 [(.i .i64 0), (.i .i64 0), (.i .i64 0), (.i .i64 0), (.i .i64 0)] [(0, z82), (5, z83), (10, z84), (15, z85), (20, z86)])), (qq a10 (.mv z87))])
def b4_37 : CC := (.reg [(qq a11 (.mv (x6 0)))])
def b4_38 : CC := (.reg [(qq a88 (.mv z11)), (qq a89 (.mv z10)), (qq a90 (.ln .slice z89)), (qq a91 (.bi .lss z88 z90))])
def b4_39 : CC := (.cond z91 .skip (.exit 6))
def b4_40 : CC := (.reg [(qq a95 (.mv z10)), (qq a96 (.mv z11)), (qq a97 (.iaS 5 z95 z96)), (qq a98 (.ldn 5 z97)), (ee a99 (.call 8 [z98])), (qq a94 (.mv z99)), (qq a100 (.ex 0 z94)), (qq a101 (.ex 1 z94)), (qq a12 (.mv z100)), (qq a13 (.mv z101))])
def b4_41 : CC := (.reg [(qq a102 (.mv z13)), (ee a103 (.call 7 [z102])), (qq a104 (.bi .neq z103 (x6 0)))])
def b4_42 : CC := (.seq (.reg [(ez (.st 1 z0 xF))]) .ret)
def b4_43 : CC := (.seq b4_41 (.cond z104 b4_42 .skip))
def b4_44 : CC := (.reg [(qq a92 (.mv z11)), (qq a93 (.bi .add z92 (x6 1))), (qq a11 (.mv z93))])
def b4_45 : CC := (.seq (.seq b4_38 b4_39) (.seq (.block 7 (.seq b4_40 b4_43)) b4_44))
def b4_46 : CC := (.reg [(ee a105 (.call 5 [])), (ez (.st 1 z0 z105))])
def b4_47 : CC := (.seq (.seq b4_37 (.block 6 (.loop b4_45))) (.seq b4_46 .ret))
def b4_48 : CC := (.seq (.seq b4_27 (.block 4 (.loop b4_35))) (.seq b4_36 b4_47))
def b4_49 : CC := (.seq (.seq b4_2 (.cond z16 b4_3 .skip)) (.seq (.seq b4_4 (.block 0 b4_25)) (.seq b4_26 b4_48)))
def b4_50 : CC := (.seq (.reg [(aa a0 (.al 4 [(.b false)]))]) (.seq b4_1 b4_49))
def c4 : CF := .mk 7 [.c1 a0] b4_50
theorem e4 : argTr 7 [] = sk7 := rfl
theorem mayI_imm {op d a b i : Int} (h : mayI op d a b i = true) : ((op = 3 ∨ op = 6) → 0 ≤ i ∧ i ≤ 65535) ∧ (¬ (op = 3 ∨ op = 6) → -32768 ≤ i ∧ i ≤ 32767) := by
 unfold mayI at h
 simp only [Bool.and_eq_true, Bool.or_eq_true, decide_eq_true_eq] at h
 obtain ⟨_, _, _, _, _, g⟩ := h
 omega
theorem word_back {op d a b i : Int} (h : mayI op d a b i = true) : wordI op d a b i < 4294967296 ∧ opW (wordI op d a b i) = op ∧ dW (wordI op d a b i) = d ∧ aW (wordI op d a b i) = a ∧ bW (wordI op d a b i) = b ∧ iW (wordI op d a b i) = i := by
 obtain ⟨m1, m2, m3, m4, m5, m6, m7, m8, m9, m10, m11⟩ := mayI_bounds h
 obtain ⟨f1, f2⟩ := mayI_form h
 obtain ⟨z1, z2, z3, z4⟩ := may_regs h
 obtain ⟨y1, y2⟩ := mayI_imm h
 obtain ⟨w, hw⟩ : ∃ w, w = wordI op d a b i := ⟨_, rfl⟩
 rw [← hw]
 unfold wordI at hw
 have e0 : opW w = op := by unfold opW; omega
 refine ⟨by omega, e0, ?_, ?_, ?_, ?_⟩
 · unfold dW; rw [e0]
   cases hf : dI (formI op) with
   | true => rw [if_pos rfl]; omega
   | false => rw [if_neg (by decide), z1 hf]
 · unfold aW; rw [e0]
   cases hf : aI (formI op) with
   | true => rw [if_pos rfl]; omega
   | false => rw [if_neg (by decide), z2 hf]
 · unfold bW; rw [e0]
   cases hf : bI (formI op) with
   | true =>
     have : formI op = 5 := by unfold bI at hf; exact of_decide_eq_true hf
     have := f1 this
     rw [if_pos rfl]; omega
   | false => rw [if_neg (by decide), z3 hf]
 · unfold iW; rw [e0]
   cases hf : iI (formI op) with
   | true =>
     have : formI op ≠ 5 := by unfold iI at hf; have := of_decide_eq_true hf; omega
     have := f2 this
     rw [if_pos rfl]
     split
     · rename_i hh; have := y1 hh; omega
     · rename_i hh; have := y2 hh; unfold s16; split <;> omega
   | false => rw [if_neg (by decide), z4 hf]
theorem of_word {op d a b i : Int} (h : mayI op d a b i = true) : ofV (wordI op d a b i) = .t [.g [.i .i64 op, .i .i64 d, .i .i64 a, .i .i64 b, .i .i64 i], .i .i64 0] := by
 obtain ⟨_, e1, e2, e3, e4, e5⟩ := word_back h
 unfold ofV
 rw [e1, e2, e3, e4, e5, if_pos ⟨h, rfl⟩]
theorem word_inj {op d a b i op' d' a' b' i' : Int} (h : mayI op d a b i = true) (h' : mayI op' d' a' b' i' = true) (e : wordI op d a b i = wordI op' d' a' b' i') : op = op' ∧ d = d' ∧ a = a' ∧ b = b' ∧ i = i' := by
 obtain ⟨_, e1, e2, e3, e4, e5⟩ := word_back h
 obtain ⟨_, k1, k2, k3, k4, k5⟩ := word_back h'
 rw [e] at e1 e2 e3 e4 e5
 exact ⟨e1.symm.trans k1, e2.symm.trans k2, e3.symm.trans k3, e4.symm.trans k4, e5.symm.trans k5⟩
theorem of_form (w : Nat) : (∃ op d a b i : Int, mayI op d a b i = true ∧ wordI op d a b i = w ∧ ofV w = .t [.g [.i .i64 op, .i .i64 d, .i .i64 a, .i .i64 b, .i .i64 i], .i .i64 0]) ∨ ofV w = .t [.g [.i .i64 0, .i .i64 0, .i .i64 0, .i .i64 0, .i .i64 0], .i .i64 4] := by
 unfold ofV
 split
 · rename_i hh; exact .inl ⟨_, _, _, _, _, hh.1, hh.2, rfl⟩
 · exact .inr rfl
def b3_1 : CC := (.reg [(aa a3 (.bx 24 5 z0)), (aa a4 (.bx 24 5 z1)), (qq a6 (.mv xF))])
def w3_1 := wu b3_1.eq_1
def b3_2 : CC := (.reg [(ee a22 (.call 5 [])), (qq a23 (.un .not z22))])
def w3_2 := wu b3_2.eq_1
def b3_3 : CC := (.reg [(qq a6 (.mv xF))])
def w3_3 := wu b3_3.eq_1
def b3_4 : CC := (.seq b3_2 (.cond z23 (.seq b3_3 .ret) .skip))
def w3_4 := wu b3_4.eq_1
def b3_5 : CC := (.reg [(qq a25 (.mv z2)), (ee a26 (.call 6 [z25])), (qq a24 (.mv z26)), (qq a27 (.ex 0 z24)), (qq a28 (.ex 1 z24)), (aa a7 (.al 24 [(.i .i64 0), (.i .i64 0), (.i .i64 0), (.i .i64 0), (.i .i64 0)])), (ez (.st 5 z7 z27)), (qq a8 (.mv z28))])
def w3_5 := wu b3_5.eq_1
def b3_6 : CC := (.reg [(qq a29 (.mv z8)), (ee a30 (.call 7 [z29])), (qq a31 (.bi .eql z30 (x6 0)))])
def w3_6 := wu b3_6.eq_1
def b3_7 : CC := (.reg [(qq a33 (.ldn 5 z7)), (ee a34 (.call 8 [z33])), (qq a32 (.mv z34)), (qq a35 (.ex 0 z32)), (qq a36 (.ex 1 z32)), (qq a9 (.mv z35)), (qq a10 (.mv z36))])
def w3_7 := wu b3_7.eq_1
def b3_8 : CC := (.reg [(qq a37 (.mv z9)), (qq a38 (.mv z2)), (qq a39 (.bi .neq z37 z38)), (qq a40 (.mv z39)), ⟨(some a41), .q (.mv z10), (some (a40, false))⟩, ⟨(some a42), .e (.call 7 [z41]), (some (a40, false))⟩, ⟨(some a43), .q (.bi .neq z42 (x6 0)), (some (a40, false))⟩, (qq a44 (.pk z40 xT z43))])
def w3_8 := wu b3_8.eq_1
def b3_9 : CC := (.reg [(qq a6 (.mv xF))])
def w3_9 := wu b3_9.eq_1
def b3_10 : CC := (.cond z44 (.seq b3_9 .ret) .skip)
def w3_10 := wu b3_10.eq_1
def b3_11 : CC := (.cond z31 (.seq b3_7 (.seq b3_8 b3_10)) .skip)
def w3_11 := wu b3_11.eq_1
def b3_12 : CC := (.reg [(qq a46 (.ldn 5 z3)), (ee a47 (.call 8 [z46])), (qq a45 (.mv z47)), (qq a48 (.ex 0 z45)), (qq a49 (.ex 1 z45)), (qq a11 (.mv z48)), (qq a8 (.mv z49))])
def w3_12 := wu b3_12.eq_1
def b3_13 : CC := (.reg [(qq a51 (.ldn 5 z4)), (ee a52 (.call 8 [z51])), (qq a50 (.mv z52)), (qq a53 (.ex 0 z50)), (qq a54 (.ex 1 z50)), (qq a12 (.mv z53)), (qq a13 (.mv z54))])
def w3_13 := wu b3_13.eq_1
def b3_14 : CC := (.reg [(qq a55 (.mv z8)), (ee a56 (.call 7 [z55])), (qq a57 (.mv z13)), (ee a58 (.call 7 [z57])), (qq a59 (.bi .add z56 z58)), (qq a60 (.bi .neq z59 (x6 0)))])
def w3_14 := wu b3_14.eq_1
def b3_15 : CC := (.reg [(qq a6 (.mv xT))])
def w3_15 := wu b3_15.eq_1
def b3_16 : CC := (.cond z60 (.seq b3_15 .ret) .skip)
def w3_16 := wu b3_16.eq_1
def b3_17 : CC := (.reg [(qq a62 (.ldn 5 z3)), (ee a63 (.call 9 [z62])), (qq a61 (.mv z63)), (qq a64 (.ex 0 z61)), (qq a65 (.ex 1 z61)), (qq a14 (.mv z64)), (qq a15 (.mv z65))])
def w3_17 := wu b3_17.eq_1
def b3_18 : CC := (.reg [(qq a67 (.ldn 5 z4)), (ee a68 (.call 9 [z67])), (qq a66 (.mv z68)), (qq a69 (.ex 0 z66)), (qq a70 (.ex 1 z66)), (qq a16 (.mv z69)), (qq a17 (.mv z70))])
def w3_18 := wu b3_18.eq_1
def b3_19 : CC := (.reg [(qq a72 (.mv z11)), (ee a73 (.call 6 [z72])), (qq a71 (.mv z73)), (qq a74 (.ex 0 z71)), (qq a75 (.ex 1 z71)), (aa a18 (.al 24 [(.i .i64 0), (.i .i64 0), (.i .i64 0), (.i .i64 0), (.i .i64 0)])), (ez (.st 5 z18 z74)), (qq a19 (.mv z75))])
def w3_19 := wu b3_19.eq_1
def b3_20 : CC := (.reg [(qq a77 (.mv z14)), (ee a78 (.call 10 [z77])), (qq a76 (.mv z78)), (qq a79 (.ex 0 z76)), (qq a80 (.ex 1 z76)), (aa a20 (.al 24 [(.i .i64 0), (.i .i64 0), (.i .i64 0), (.i .i64 0), (.i .i64 0)])), (ez (.st 5 z20 z79)), (qq a21 (.mv z80))])
def w3_20 := wu b3_20.eq_1
def b3_21 : CC := (.reg [(qq a81 (.mv z15)), (ee a82 (.call 7 [z81])), (qq a83 (.mv z17)), (ee a84 (.call 7 [z83])), (qq a85 (.bi .add z82 z84)), (qq a86 (.mv z19)), (ee a87 (.call 7 [z86])), (qq a88 (.bi .add z85 z87)), (qq a89 (.mv z21)), (ee a90 (.call 7 [z89])), (qq a91 (.bi .add z88 z90)), (qq a92 (.bi .eql z91 (x6 0))), (qq a93 (.mv z92)), ⟨(some a94), .q (.ldn 5 z18), (some (a93, true))⟩, ⟨(some a95), .q (.ldn 5 z3), (some (a93, true))⟩, ⟨(some a96), .q (.eq false (.agg [(0, .int), (1, .int), (2, .int), (3, .int), (4, .int)]) false z94 z95), (some (a93, true))⟩, (qq a97 (.pk z93 z96 xF)), (qq a98 (.mv z97)), ⟨(some a99), .q (.ldn 5 z20), (some (a98, true))⟩, ⟨(some a100), .q (.ldn 5 z3), (some (a98, true))⟩, ⟨(some a101), .q (.eq false (.agg [(0, .int), (1, .int), (2, .int), (3, .int), (4, .int)]) false z99 z100), (some (a98, true))⟩, (qq a102 (.pk z98 z101 xF)), (qq a103 (.mv z102)), ⟨(some a104), .q (.mv z11), (some (a103, true))⟩, ⟨(some a105), .q (.mv z12), (some (a103, true))⟩, ⟨(some a106), .q (.bi .eql z104 z105), (some (a103, true))⟩, ⟨(some a107), .q (.ldn 5 z3), (some (a103, true))⟩, ⟨(some a108), .q (.ldn 5 z4), (some (a103, true))⟩, ⟨(some a109), .q (.eq false (.agg [(0, .int), (1, .int), (2, .int), (3, .int), (4, .int)]) false z107 z108), (some (a103, true))⟩, ⟨(some a110), .q (.eq false .bool false z106 z109), (some (a103, true))⟩, (qq a111 (.pk z103 z110 xF)), (qq a112 (.mv z111)), ⟨(some a113), .q (.mv z14), (some (a112, true))⟩, ⟨(some a114), .q (.mv z16), (some (a112, true))⟩, ⟨(some a115), .q (.bi .eql z113 z114), (some (a112, true))⟩, ⟨(some a116), .q (.ldn 5 z3), (some (a112, true))⟩, ⟨(some a117), .q (.ldn 5 z4), (some (a112, true))⟩, ⟨(some a118), .q (.eq false (.agg [(0, .int), (1, .int), (2, .int), (3, .int), (4, .int)]) false z116 z117), (some (a112, true))⟩, ⟨(some a119), .q (.eq false .bool false z115 z118), (some (a112, true))⟩, (qq a120 (.pk z112 z119 xF)), (qq a6 (.mv z120))])
def w3_21 := wu b3_21.eq_1
def b3_22 : CC := (.seq b3_17 (.seq b3_18 (.seq b3_19 (.seq b3_20 (.seq b3_21 .ret)))))
def w3_22 := wu b3_22.eq_1
def b3_23 : CC := (.seq (.seq b3_6 b3_11) (.seq b3_12 (.seq b3_13 (.seq (.seq b3_14 b3_16) b3_22))))
def w3_23 := wu b3_23.eq_1
def c3 : CF := .mk 7 [.t a6] (.seq b3_1 (.seq b3_4 (.seq b3_5 b3_23)))
theorem e3 (v0 v1 v2 : V) : argTr 7 [v0, v1, v2] = (.n (.n sk5 (some v1) sk5) (some v0) (.n sk5 (some v2) sk5)) := rfl
def B3 := ai @e3 (ai @w3_1 (ai @w3_2 (ai @w3_3 (ai @w3_4 (ai @w3_5 (ai @w3_6 (ai @w3_7 (ai @w3_8 (ai @w3_9 (ai @w3_10 (ai @w3_11 (ai @w3_12 (ai @w3_13 (ai @w3_14 (ai @w3_15 (ai @w3_16 (ai @w3_17 (ai @w3_18 (ai @w3_19 (ai @w3_20 (ai @w3_21 (ai @w3_22 (@w3_23)))))))))))))))))))))))
theorem text_len (op d a b i : Int) : (textB op d a b i).length ≤ 1000000 := by
 have h1 := join_len' [32] (wordsT op d a b i)
 have h2 : szL (wordsT op d a b i) ≤ 60 := by
  have := wk_sz op d a b 3
  have hil := itoa_len i
  rw [wordsT, szL_append]
  split
  · rw [szL, szL]; omega
  · rw [szL]; omega
 have h3 := szL_len (wordsT op d a b i)
 unfold textB
 rw [show ([32] : List UInt8).length = 1 from rfl] at h1
 omega
theorem tail3 (Φ : Nat → Option CF) {L : List Tab} (h6 : Φ 6 = some (.orc (pureO h6))) (h7 : Φ 7 = some (.orc (pureO h7))) (h8 : Φ 8 = some (.orc (pureO h8))) (h9 : Φ 9 = some (.orc (pureT L h9))) (h25 : Φ 25 = some c25) (h26 : Φ 26 = some (.orc (pureO h40))) (h27 : Φ 27 = some c27) (h29 : Φ 29 = some (.orc (pureO h43))) (h28 : Φ 28 = some c28) (h41 : Φ 41 = some c41) (h42 : Φ 42 = some c42) (h51 : Φ 51 = some c51) (h52 : Φ 52 = some c52) (h50 : Φ 50 = some c50) (h77 : Φ 77 = some c77) (h78 : Φ 78 = some (.orc (pureO h78))) (h92 : Φ 92 = some (.orc (pureO h92))) (h10 : Φ 10 = some c10) (h30 : Φ 30 = some c30) (h11 : Φ 11 = some (.orc (pureO h11))) (h32 : Φ 32 = some (.orc (pureO h32))) (h31 : Φ 31 = some c31) (h19 : Φ 19 = some (.orc (pureO h19))) (h18 : Φ 18 = some (.orc (pureO h18)))
  {F : RO} {M : Mem} {c c1 : Nat} (op d a b i p q r s t : Int) (ok : Okm F M c1) (hc : c + 1 < c1) (ht : tabsIn F L = true) (hE1 : ErrVar F 1) (hE2 : ErrVar F 2) (hlow : ∀ g, g < 1000 → M.get g = none)
  (hA : M.get c = some (rowB 24 [.i .i64 op, .i .i64 d, .i .i64 a, .i .i64 b, .i .i64 i])) (hB : M.get (c + 1) = some (rowB 24 [.i .i64 p, .i .i64 q, .i .i64 r, .i .i64 s, .i .i64 t])) (u : List (Option V)) :
  Wp b3_12 (K Φ none 3 F) (.mk ((.n (.n (.n (.n (uv7 u 63 31 95 15 79 47 111) (uO u 7) (uv7 u 71 39 103 23 87 55 119)) (some (.p c 0)) (.n (uv7 u 67 35 99 19 83 51 115) (uO u 11) (uv7 u 75 43 107 27 91 59 123))) (uO u 1) (.n (.n (uv7 u 65 33 97 17 81 49 113) (uO u 9) (uv7 u 73 41 105 25 89 57 121)) (uO u 5) (.n (uv7 u 69 37 101 21 85 53 117) (uO u 13) (uv7 u 77 45 109 29 93 61 125)))) (uO u 0) (.n (.n (.n (uv7 u 64 32 96 16 80 48 112) (uO u 8) (uv7 u 72 40 104 24 88 56 120)) (some (.p (c + 1) 0)) (.n (uv7 u 68 36 100 20 84 52 116) (uO u 12) (uv7 u 76 44 108 28 92 60 124))) (uO u 2) (.n (.n (uv7 u 66 34 98 18 82 50 114) (uO u 10) (uv7 u 74 42 106 26 90 58 122)) (some (.b false)) (.n (uv7 u 70 38 102 22 86 54 118) (uO u 14) (uv7 u 78 46 110 30 94 62 126)))))) [] M c1) (seqQ (.seq b3_13 (.seq (.seq b3_14 b3_16) b3_22)) (K Φ none 3 F) (endQ F [.t (.r (.r .h))] fun r _ _ => r = .b true)) := by
 have hT := fun h args M c => pureT_of ht h args M c
 have lnA := loadN_row (F := F) hA 5 rfl
 have lnB := loadN_row (F := F) hB 5 rfl
 have p00 : biV .add (.i .i64 0) (.i .i64 0) = some (.i .i64 0) := i64_add 0 0 (by omega) (by omega)
 have p20 : biV .add (.i .i64 2) (.i .i64 0) = some (.i .i64 2) := i64_add 2 0 (by omega) (by omega)
 have p02 : biV .add (.i .i64 0) (.i .i64 2) = some (.i .i64 2) := i64_add 0 2 (by omega) (by omega)
 have p22 : biV .add (.i .i64 2) (.i .i64 2) = some (.i .i64 4) := i64_add 2 2 (by omega) (by omega)
 have e2 : (mayI p q r s t = true ∧ er10 p q r s t = 0 ∨ er10 p q r s t = 2) := by
  unfold er10; split
  · rename_i hh; exact .inl ⟨hh, rfl⟩
  · exact .inr rfl
 cases hm : mayI op d a b i with
 | false =>
   have e1 : er10 op d a b i = 2 := by unfold er10; rw [if_neg (by rw [hm]; decide)]
   rcases e2 with ⟨_, e2⟩ | e2
   · simp only [WX, Int.reduceEq, B3, lnA, lnB, h8, h8_eq, e1, e2, h7, h7_eq, p20, ne_eq, not_false_eq_true]
   · simp only [WX, Int.reduceEq, B3, lnA, lnB, h8, h8_eq, e1, e2, h7, h7_eq, p22, ne_eq, not_false_eq_true]
 | true =>
   have e1 : er10 op d a b i = 0 := by unfold er10; rw [if_pos hm]
   rcases e2 with ⟨hm2, e2⟩ | e2
   · have t1 : Ev.h9 [.g [.i .i64 op, .i .i64 d, .i .i64 a, .i .i64 b, .i .i64 i]] = some (.t [sV (textB op d a b i), .i .i64 0]) := by rw [h9_eq, if_pos hm]
     have t2 : Ev.h9 [.g [.i .i64 p, .i .i64 q, .i .i64 r, .i .i64 s, .i .i64 t]] = some (.t [sV (textB p q r s t), .i .i64 0]) := by rw [h9_eq, if_pos hm2]
     have x1 : w8 op d a b i = ((wordI op d a b i : Nat) : Int) := if_pos hm
     have x2 : w8 p q r s t = ((wordI p q r s t : Nat) : Int) := if_pos hm2
     have g1 : Ev.h6 [.i .u32 ((wordI op d a b i : Nat) : Int)] = some (.t [.g [.i .i64 op, .i .i64 d, .i .i64 a, .i .i64 b, .i .i64 i], .i .i64 0]) := by rw [h6_eq _ (word_back hm).1, of_word hm]
     have gX : ∀ x, Gr c1 M (c1 + 1) (M.set c1 x) := fun x => (Gr.refl ok).set c1 _ (Nat.le_refl _) (Nat.lt_succ_self _) (Nat.le_succ _)
     have hlen := text_len op d a b i
     simp only [WX, Nat.reduceAdd, Nat.reduceLeDiff, B3, lnA, lnB, h8, h8_eq, e1, e2, x1, x2, h7, h7_eq, p00, ne_eq, not_true_eq_false, h9, hT, t1, t2, h6, g1]
     refine putE_to ((r10 Φ h9 h25 h26 h27 h29 h28 h41 h42 h51 h52 h50 h77 h78 h92 h10 h30 h11 h32 h31 h19 h18 ((gX _).ok ok) ht hE1 hE2 (fun g hg => by rw [(gX _).old g (by have := ok.ge; omega)]; exact hlow g hg) (textB op d a b i) hlen).mono ?_)
     rintro v M2 c2 ⟨hp, hg⟩
     obtain rfl := parse_uniq hp (.inl ⟨op, d, a, b, i, hm, rfl, rfl⟩)
     have hle := hg.le
     have kA : ∀ x, (M2.set c2 x).get c = some (rowB 24 [.i .i64 op, .i .i64 d, .i .i64 a, .i .i64 b, .i .i64 i]) := fun x => by rw [get_ne _ _ (by omega), hg.old c (by omega), get_ne _ _ (by omega)]; exact hA
     have kB : ∀ x, (M2.set c2 x).get (c + 1) = some (rowB 24 [.i .i64 p, .i .i64 q, .i .i64 r, .i .i64 s, .i .i64 t]) := fun x => by rw [get_ne _ _ (by omega), hg.old (c + 1) (by omega), get_ne _ _ (by omega)]; exact hB
     have kC : ∀ x, (M2.set c2 x).get c1 = some (rowB 24 [.i .i64 op, .i .i64 d, .i .i64 a, .i .i64 b, .i .i64 i]) := fun x => by rw [get_ne _ _ (by omega), hg.old c1 (by omega), get_same]
     have l1 := fun x => loadN_row (F := F) (kA x) 5 rfl
     have l2 := fun x => loadN_row (F := F) (kB x) 5 rfl
     have l4 := fun x => loadN_row (F := F) (kC x) 5 rfl
     by_cases hab : op = p ∧ d = q ∧ a = r ∧ b = s ∧ i = t
     · obtain ⟨rfl, rfl, rfl, rfl, rfl⟩ := hab
       simp only [WX, Nat.reduceAdd, Nat.reduceLeDiff, B3, l1, l2, l4, h7, h7_eq, p00, eq_self]
     · have n1 : decide (((wordI op d a b i : Nat) : Int) = ((wordI p q r s t : Nat) : Int)) = false := decide_eq_false (fun e => hab (word_inj hm hm2 (by omega)))
       have n2 : decide (textB op d a b i = textB p q r s t) = false := decide_eq_false (fun e => hab (text_inj hm hm2 e))
       have n3 : (decide (op = p) && (decide (d = q) && (decide (a = r) && (decide (b = s) && decide (i = t))))) = false := by
        simp only [Bool.and_eq_false_iff, decide_eq_false_iff_not]
        by_cases g1 : op = p <;> by_cases g2 : d = q <;> by_cases g3 : a = r <;> by_cases g4 : b = s <;> by_cases g5 : i = t <;> simp_all
       simp only [WX, Nat.reduceAdd, Nat.reduceLeDiff, B3, l1, l2, l4, h7, h7_eq, p00, eq_self, n1, n2, n3]
   · simp only [WX, Int.reduceEq, B3, lnA, lnB, h8, h8_eq, e1, e2, h7, h7_eq, p02, ne_eq, not_false_eq_true]
theorem l3 (Φ : Nat → Option CF) {L : List Tab} (h : Φ 3 = some c3) (h5 : Φ 5 = some (.orc (knownO L))) (h6 : Φ 6 = some (.orc (pureO h6))) (h7 : Φ 7 = some (.orc (pureO h7))) (h8 : Φ 8 = some (.orc (pureO h8))) (h9 : Φ 9 = some (.orc (pureT L h9))) (h25 : Φ 25 = some c25) (h26 : Φ 26 = some (.orc (pureO h40))) (h27 : Φ 27 = some c27) (h29 : Φ 29 = some (.orc (pureO h43))) (h28 : Φ 28 = some c28) (h41 : Φ 41 = some c41) (h42 : Φ 42 = some c42) (h51 : Φ 51 = some c51) (h52 : Φ 52 = some c52) (h50 : Φ 50 = some c50) (h77 : Φ 77 = some c77) (h78 : Φ 78 = some (.orc (pureO h78))) (h92 : Φ 92 = some (.orc (pureO h92))) (h10 : Φ 10 = some c10) (h30 : Φ 30 = some c30) (h11 : Φ 11 = some (.orc (pureO h11))) (h32 : Φ 32 = some (.orc (pureO h32))) (h31 : Φ 31 = some c31) (h19 : Φ 19 = some (.orc (pureO h19))) (h18 : Φ 18 = some (.orc (pureO h18)))
  {F : RO} {M : Mem} {c : Nat} (op d a b i p q r s t : Int) (w : Nat) (hw : w < 4294967296) (ok : Okm F M c) (ht : tabsIn F L = true) (hE1 : ErrVar F 1) (hE2 : ErrVar F 2) (hlow : ∀ g, g < 1000 → M.get g = none) :
  Calls Φ F 3 [.g [.i .i64 op, .i .i64 d, .i .i64 a, .i .i64 b, .i .i64 i], .g [.i .i64 p, .i .i64 q, .i .i64 r, .i .i64 s, .i .i64 t], .i .u32 (w : Int)] M c fun r _ _ => r = .b true := by
 have hkn := fun M c => knownO_nil ht M c
 refine calls_walk h ?_
 have gX : ∀ x y z, Gr c M (c + 3) (((M.set c x).set (c + 1) y).set (c + 2) z) := fun x y z => (((Gr.refl ok).set (c2 := c + 1) c _ (Nat.le_refl _) (by omega) (by omega)).set (c2 := c + 2) (c + 1) _ (by omega) (by omega) (by omega)).set (c2 := c + 3) (c + 2) _ (by omega) (by omega) (by omega)
 have fin : ∀ (z : Blk) (u : List (Option V)), Wp b3_12 (K Φ none 3 F) (.mk ((.n (.n (.n (.n (uv7 u 63 31 95 15 79 47 111) (uO u 7) (uv7 u 71 39 103 23 87 55 119)) (some (.p c 0)) (.n (uv7 u 67 35 99 19 83 51 115) (uO u 11) (uv7 u 75 43 107 27 91 59 123))) (uO u 1) (.n (.n (uv7 u 65 33 97 17 81 49 113) (uO u 9) (uv7 u 73 41 105 25 89 57 121)) (uO u 5) (.n (uv7 u 69 37 101 21 85 53 117) (uO u 13) (uv7 u 77 45 109 29 93 61 125)))) (uO u 0) (.n (.n (.n (uv7 u 64 32 96 16 80 48 112) (uO u 8) (uv7 u 72 40 104 24 88 56 120)) (some (.p (c + 1) 0)) (.n (uv7 u 68 36 100 20 84 52 116) (uO u 12) (uv7 u 76 44 108 28 92 60 124))) (uO u 2) (.n (.n (uv7 u 66 34 98 18 82 50 114) (uO u 10) (uv7 u 74 42 106 26 90 58 122)) (some (.b false)) (.n (uv7 u 70 38 102 22 86 54 118) (uO u 14) (uv7 u 78 46 110 30 94 62 126)))))) [] (((M.set c (rowB 24 [.i .i64 op, .i .i64 d, .i .i64 a, .i .i64 b, .i .i64 i])).set (c + 1) (rowB 24 [.i .i64 p, .i .i64 q, .i .i64 r, .i .i64 s, .i .i64 t])).set (c + 2) z) (c + 3)) (seqQ (.seq b3_13 (.seq (.seq b3_14 b3_16) b3_22)) (K Φ none 3 F) (endQ F [.t (.r (.r .h))] fun r _ _ => r = .b true)) := fun z u =>
  tail3 Φ h6 h7 h8 h9 h25 h26 h27 h29 h28 h41 h42 h51 h52 h50 h77 h78 h92 h10 h30 h11 h32 h31 h19 h18 op d a b i p q r s t ((gX _ _ _).ok ok) (by omega) ht hE1 hE2 (fun g hg => by rw [(gX _ _ _).old g (by have := ok.ge; omega)]; exact hlow g hg) (by rw [get_ne _ _ (by omega), get_ne _ _ (by omega), get_same]) (by rw [get_ne _ _ (by omega), get_same]) u
 rcases of_form w with ⟨o', d', a', b', i', hm, hwd, hv⟩ | hv
 · have e1 : er10 o' d' a' b' i' = 0 := by unfold er10; rw [if_pos hm]
   have x1 : w8 o' d' a' b' i' = (w : Int) := by unfold w8; rw [if_pos hm, hwd]
   have h1 : Ev.h6 [.i .u32 (w : Int)] = some (.t [.g [.i .i64 o', .i .i64 d', .i .i64 a', .i .i64 b', .i .i64 i'], .i .i64 0]) := by rw [h6_eq _ hw, hv]
   simp only [WX, Nat.reduceAdd, Nat.reduceLeDiff, e3, w3_1, w3_2, w3_4, w3_5, w3_6, w3_7, w3_8, w3_10, w3_11, w3_23, h5, hkn, h6, h1, h7, h7_eq, h8, h8_eq, e1, x1, ne_eq, not_true_eq_false, eq_self]
   exact fin _ [_, _, _, none, none, _, none, _, _, _, _, _, _, _, _, _, _, _, _, _, _, _, _, _, _, _, _, _, _, _, _, _, _, _, _, _, _, _, _, _, _, _, _, _, _, _, _, _, _, _, _, _, _, _, _, _, _, _, _, _, _, _, _, _, _, _, _, _, _, _, _, _, _, _, _, _, _, _, _, _, _, _, _, _, _, _, _, _, _, _, _, _, _, _, _, _, _, _, _, _, _, _, _, _, _, _, _, _, _, _, _, _, _, _, _, _, _, _, _, _, _, _, _, _, _, _, _]
 · have h1 : Ev.h6 [.i .u32 (w : Int)] = some (.t [.g [.i .i64 0, .i .i64 0, .i .i64 0, .i .i64 0, .i .i64 0], .i .i64 4]) := by rw [h6_eq _ hw, hv]
   simp only [WX, Int.reduceEq, Nat.reduceAdd, Nat.reduceLeDiff, e3, w3_1, w3_2, w3_4, w3_5, w3_6, w3_11, w3_23, h5, hkn, h6, h1, h7, h7_eq, eq_self]
   exact fin _ [_, _, _, none, none, _, none, _, _, _, _, _, _, _, _, _, _, _, _, _, _, _, _, _, _, _, _, _, _, _, _, _, _, _, _, _, _, _, _, _, _, _, _, _, _, _, _, _, _, _, _, _, _, _, _, _, _, _, _, _, _, _, _, _, _, _, _, _, _, _, _, _, _, _, _, _, _, _, _, _, _, _, _, _, _, _, _, _, _, _, _, _, _, _, _, _, _, _, _, _, _, _, _, _, _, _, _, _, _, _, _, _, _, _, _, _, _, _, _, _, _, _, _, _, _, _, _]
end
end Go.Proofs.YtffpeieapadocaaDoor.Ev
