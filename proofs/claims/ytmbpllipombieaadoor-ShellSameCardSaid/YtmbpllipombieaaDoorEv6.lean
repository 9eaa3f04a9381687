/- What is proved here: pieces of the evaluator's soundness: if the evaluator comes to a value, the model's run comes to it, for every world and tape; no conditions beyond the hypotheses of each theorem. -/
import Derived.Test.YtmbpllipombieaaDoorEv5
set_option linter.unusedSimpArgs false
set_option linter.unusedVariables false
set_option linter.defProp false
set_option maxRecDepth 10000
set_option maxHeartbeats 16000000
namespace Go.Proofs.YtmbpllipombieaaDoor.Ev
open Go
noncomputable section
def b28_1 : CC := (.reg [(qq a4 (.mv xF))])
def b28_2 : CC := (.reg [(qq a5 (.mv (x6 0)))])
def b28_3 : CC := (.reg [(qq a8 (.mv z5)), (qq a9 (.mv z0)), (qq a10 (.ln .str z9)), (qq a11 (.bi .lss z8 z10))])
def b28_4 : CC := (.reg [(qq a12 (.mv z0)), (qq a13 (.mv z5)), (qq a14 (.ixS z12 z13)), (qq a15 (.bi .eql z14 (.c (.i .u8 32))))])
def b28_5 : CC := (.reg [(qq a16 (.mv z5)), (qq a17 (.bi .add z16 (x6 1))), (qq a5 (.mv z17))])
def b28_6 : CC := (.cond z15 (.seq b28_5 (.exit 1)) .skip)
def b28_7 : CC := (.reg [(qq a18 (.mv z0)), (qq a19 (.mv z5)), (qq a20 (.slS z18 (some z19) none)), (ee a21 (.call 55 [z20])), (qq a22 (.bld [(.s 0 0), .l0] [(0, 1, z21)])), (aa a6 (.al 59 [(.s 0 0), .l0])), (ez (.st 2 z6 z22)), (qq a7 (.mv (x6 0)))])
def b28_8 : CC := (.reg [(qq a23 (.fa 0 z6)), (qq a24 (.ld1 z23)), (qq a25 (.ln .str z24)), (qq a7 (.mv z25))])
def b28_9 : CC := (.reg [(qq a26 (.mv z7)), (qq a27 (.bi .eql z26 (x6 0)))])
def b28_10 : CC := (.reg [(qq a29 (.mv z0)), (qq a30 (.mv z5)), (qq a31 (.slS z29 (some z30) none)), (ee a32 (.call 56 [z31])), (qq a28 (.mv z32)), (qq a33 (.ex 0 z28)), (qq a34 (.ex 1 z28)), (qq a35 (.fa 1 z6)), (ez (.st 1 z35 z33)), (qq a7 (.mv z34))])
def b28_11 : CC := (.seq b28_9 (.cond z27 b28_10 .skip))
def b28_12 : CC := (.reg [(qq a36 (.mv z7)), (qq a37 (.bi .eql z36 (x6 0))), (qq a38 (.mv z37)), ⟨(some a39), .q (.mv z1), (some (a38, false))⟩, ⟨(some a40), .q (.mv z5), (some (a38, false))⟩, ⟨(some a41), .q (.ldn 2 z6), (some (a38, false))⟩, ⟨(some a42), .e (.cv z39 [z40, z41]), (some (a38, false))⟩, ⟨(some a43), .q (.un .not z42), (some (a38, false))⟩, (qq a44 (.pk z38 xT z43))])
def b28_13 : CC := (.reg [(qq a4 (.mv xF))])
def b28_14 : CC := (.cond z44 (.seq b28_13 .ret) .skip)
def b28_15 : CC := (.reg [(qq a45 (.mv z5)), (qq a46 (.mv z7)), (qq a47 (.bi .add z45 z46)), (qq a5 (.mv z47))])
def b28_16 : CC := (.seq (.seq b28_8 b28_11) (.seq (.seq b28_12 b28_14) b28_15))
def b28_17 : CC := (.seq (.seq b28_3 (.cond z11 .skip (.exit 0))) (.block 1 (.seq (.seq b28_4 b28_6) (.seq b28_7 b28_16))))
def b28_18 : CC := (.reg [(qq a4 (.mv xT))])
def b28_19 : CC := (.seq b28_2 (.seq (.block 0 (.loop b28_17)) (.seq b28_18 .ret)))
def c28 : CF := .mk 6 [.t a4] (.seq b28_1 b28_19)
def b22_1 : CC := (.reg [(aa a2 (.bx 36 1 z0)), (aa a3 (.bx 36 1 z1)), (qq a4 (.mv xF))])
def b22_2 : CC := (.reg [(qq a6 (.fa 0 z2)), (qq a7 (.ld1 z6)), (qq a8 (.ln .slice z7)), (qq a9 (.fa 0 z3)), (qq a10 (.ld1 z9)), (qq a11 (.ln .slice z10)), (qq a12 (.bi .neq z8 z11))])
def b22_3 : CC := (.reg [(qq a4 (.mv xF))])
def b22_4 : CC := (.seq b22_2 (.cond z12 (.seq b22_3 .ret) .skip))
def b22_5 : CC := (.reg [(qq a5 (.mv (x6 0)))])
def b22_6 : CC := (.reg [(qq a13 (.mv z5)), (qq a14 (.fa 0 z2)), (qq a15 (.ld1 z14)), (qq a16 (.ln .slice z15)), (qq a17 (.bi .lss z13 z16))])
def b22_7 : CC := (.seq b22_6 (.cond z17 .skip (.exit 0)))
def b22_8 : CC := (.dreg 11 [(0, 0, (qq a20 (.fa 0 z2))), (1, 1, (qq a21 (.ld1 z20))), (2, 0, (qq a22 (.mv z5))), (3, 7, (qq a23 (.iaS 2 z21 z22))), (4, 15, (qq a24 (.ldn 2 z23))), (5, 0, (qq a25 (.fa 0 z3))), (6, 32, (qq a26 (.ld1 z25))), (7, 0, (qq a27 (.mv z5))), (8, 224, (qq a28 (.iaS 2 z26 z27))), (9, 480, (qq a29 (.ldn 2 z28))), (10, 1023, (qq a30 (.eq true (.agg [(0, .str), (1, .bool)]) false z24 z29)))])
def b22_9 : CC := (.reg [(qq a4 (.mv xF))])
def b22_10 : CC := (.seq b22_8 (.cond z30 (.seq b22_9 .ret) .skip))
def b22_11 : CC := (.reg [(qq a18 (.mv z5)), (qq a19 (.bi .add z18 (x6 1))), (qq a5 (.mv z19))])
def b22_12 : CC := (.block 0 (.loop (.seq b22_7 (.seq (.block 1 b22_10) b22_11))))
def b22_13 : CC := (.reg [(qq a4 (.mv xT))])
def b22_14 : CC := (.seq b22_1 (.seq b22_4 (.seq (.seq b22_5 b22_12) (.seq b22_13 .ret))))
def c22 : CF := .mk 5 [.t a4] b22_14
theorem e22 (v0 v1 : V) : argTr 5 [v0, v1] = (.n (.n sk3 (some v1) sk3) (some v0) sk4) := rfl
def B22 := ai @e22 (ai (wu b22_1.eq_1) (ai (wu b22_2.eq_1) (ai (wu b22_3.eq_1) (ai (wu b22_4.eq_1) (ai (wu b22_5.eq_1) (ai (wu b22_6.eq_1) (ai (wu b22_7.eq_1) (ai (wu b22_8.eq_1) (ai (wu b22_9.eq_1) (ai (wu b22_10.eq_1) (ai (wu b22_11.eq_1) (ai (wu b22_12.eq_1) (ai (wu b22_13.eq_1) (wu b22_14.eq_1))))))))))))))
theorem pc_at {F : RO} {M : Mem} {c : Nat} {v : V} {ps : List Pc} (h : SlAt F M c 2 v (pcE ps)) (i : Nat) (hi : i < ps.length) : ∃ b o, b < c ∧ (∀ k, iaSV 2 v (.i k (i : Int)) = some (.p b o)) ∧ loadN F M b o 2 = some (pcV ps[i]) := by
 obtain ⟨b, o, h1, h2, h3⟩ := h.at i (by rw [pcE_len]; exact hi)
 have e : (pcE ps)[i]'(by rw [pcE_len]; exact hi) = pcV ps[i] := by simp [pcE]
 rw [e] at h3
 exact ⟨b, o, h1, h2, h3.load (by simp [pcV])⟩
def b70_1 : CC := (.reg [(qq a4 (.mv xF))])
def b70_2 : CC := (.reg [(qq a6 (.mv z0)), (qq a7 (.ln .slice z6)), (qq a8 (.mv z1)), (qq a9 (.ln .slice z8)), (qq a10 (.bi .neq z7 z9))])
def b70_3 : CC := (.reg [(qq a4 (.mv xF))])
def b70_4 : CC := (.seq b70_2 (.cond z10 (.seq b70_3 .ret) .skip))
def b70_5 : CC := (.reg [(qq a11 (.mv z0)), (qq a12 (.ln .slice z11)), (qq a13 (.mv (x6 0)))])
def b70_6 : CC := (.reg [(qq a14 (.bi .lss z13 z12))])
def b70_7 : CC := (.reg [(qq a15 (.mv z13)), (qq a5 (.mv z15))])
def b70_8 : CC := (.dreg 9 [(0, 0, (qq a16 (.mv z0))), (1, 0, (qq a17 (.mv z5))), (2, 3, (qq a18 (.iaS 2 z16 z17))), (3, 7, (qq a19 (.ldn 2 z18))), (4, 0, (qq a20 (.mv z1))), (5, 0, (qq a21 (.mv z5))), (6, 48, (qq a22 (.iaS 2 z20 z21))), (7, 112, (qq a23 (.ldn 2 z22))), (8, 255, (qq a24 (.eq true (.agg [(0, .str), (1, .bool)]) false z19 z23)))])
def b70_9 : CC := (.reg [(qq a4 (.mv xF))])
def b70_10 : CC := (.seq b70_8 (.cond z24 (.seq b70_9 .ret) .skip))
def b70_11 : CC := (.reg [(qq a25 (.bi .add z13 (x6 1))), (qq a13 (.mv z25))])
def b70_12 : CC := (.seq (.cond z14 .skip (.exit 0)) (.seq (.block 1 (.seq b70_7 b70_10)) b70_11))
def b70_13 : CC := (.reg [(qq a4 (.mv xT))])
def b70_14 : CC := (.seq (.seq b70_5 (.block 0 (.loop (.seq b70_6 b70_12)))) (.seq b70_13 .ret))
def c70 : CF := .mk 5 [.t a4] (.seq b70_1 (.seq b70_4 b70_14))
theorem e70 (v0 v1 : V) : argTr 5 [v0, v1] = (.n (.n sk3 (some v1) sk3) (some v0) sk4) := rfl
def B70 := ai @e70 (ai (wu b70_1.eq_1) (ai (wu b70_2.eq_1) (ai (wu b70_3.eq_1) (ai (wu b70_4.eq_1) (ai (wu b70_5.eq_1) (ai (wu b70_6.eq_1) (ai (wu b70_7.eq_1) (ai (wu b70_8.eq_1) (ai (wu b70_9.eq_1) (ai (wu b70_10.eq_1) (ai (wu b70_11.eq_1) (ai (wu b70_12.eq_1) (ai (wu b70_13.eq_1) (wu b70_14.eq_1))))))))))))))
def b48_1 : CC := (.reg [(aa a2 (.bx 36 1 z0)), (aa a3 (.bx 36 1 z1)), (qq a4 (.mv xF))])
def b48_2 : CC := (.reg [(qq a5 (.fa 0 z2)), (qq a6 (.ld1 z5)), (qq a7 (.fa 0 z3)), (qq a8 (.ld1 z7)), (ee a9 (.call 70 [z6, z8])), (qq a4 (.mv z9))])
def c48 : CF := .mk 4 [.t a4] (.seq b48_1 (.seq b48_2 .ret))
theorem e48 (v0 v1 : V) : argTr 4 [v0, v1] = (.n (.n sk2 (some v1) sk2) (some v0) sk3) := rfl
def B48 := ai @e48 (ai (wu b48_1.eq_1) (wu b48_2.eq_1))
abbrev maxI : Nat := 9223372036854775807
def WdAt (F : RO) (M : Mem) (c : Nat) (v : V) (w : List Pc) : Prop := SlAt F M c 2 v (pcE w) ∧ w.length ≤ maxI
def LsAt {α : Type} (F : RO) (R : Mem → Nat → List V → α → Prop) (sz : Nat) (M : Mem) (c : Nat) (v : V) (l : List α) : Prop := ∃ es : List (List V), SlAt F M c sz v es ∧ es.length = l.length ∧ l.length ≤ maxI ∧ ∀ i (h : i < es.length) (h' : i < l.length), R M c es[i] l[i]
def W1 (F : RO) (M : Mem) (c : Nat) (e : List V) (w : List Pc) : Prop := ∃ x, e = [x] ∧ WdAt F M c x w
def CmAt (F : RO) (M : Mem) (c : Nat) (v : V) (l : List (List Pc)) : Prop := LsAt F (W1 F) 1 M c v l
def C1 (F : RO) (M : Mem) (c : Nat) (e : List V) (l : List (List Pc)) : Prop := ∃ x, e = [x] ∧ CmAt F M c x l
def CsAt (F : RO) (M : Mem) (c : Nat) (v : V) (l : List (List (List Pc))) : Prop := LsAt F (C1 F) 1 M c v l
structure Prt where
 join : Int
 nt : Bool
 inp : List Pc
 out : List Pc
 beh : Bool
 cmds : List (List (List Pc))
def P1 (F : RO) (M : Mem) (c : Nat) (e : List V) (p : Prt) : Prop := ∃ vi vo vc, e = [.i .i64 p.join, .b p.nt, vi, vo, .b p.beh, vc] ∧ WdAt F M c vi p.inp ∧ WdAt F M c vo p.out ∧ CsAt F M c vc p.cmds
def LnAt (F : RO) (M : Mem) (c : Nat) (v : V) (l : List Prt) : Prop := LsAt F (P1 F) 6 M c v l
theorem WdAt.grow {F : RO} {M M' : Mem} {c c' : Nat} {v : V} {w : List Pc} (h : WdAt F M c v w) (g : Gr c M c' M') : WdAt F M' c' v w := ⟨h.1.grow g, h.2⟩
theorem LsAt.grow {α : Type} {F : RO} {R : Mem → Nat → List V → α → Prop} {sz : Nat} {M M' : Mem} {c c' : Nat} {v : V} {l : List α} (hR : ∀ e x, R M c e x → R M' c' e x) (h : LsAt F R sz M c v l) (g : Gr c M c' M') : LsAt F R sz M' c' v l := by
 obtain ⟨es, h1, h2, h3, h4⟩ := h
 exact ⟨es, h1.grow g, h2, h3, fun i h h' => hR _ _ (h4 i h h')⟩
theorem W1.grow {F : RO} {M M' : Mem} {c c' : Nat} (g : Gr c M c' M') (e : List V) (w : List Pc) (h : W1 F M c e w) : W1 F M' c' e w := by obtain ⟨x, h1, h2⟩ := h; exact ⟨x, h1, h2.grow g⟩
theorem CmAt.grow {F : RO} {M M' : Mem} {c c' : Nat} {v : V} {l : List (List Pc)} (h : CmAt F M c v l) (g : Gr c M c' M') : CmAt F M' c' v l := LsAt.grow (W1.grow g) h g
theorem C1.grow {F : RO} {M M' : Mem} {c c' : Nat} (g : Gr c M c' M') (e : List V) (w : List (List Pc)) (h : C1 F M c e w) : C1 F M' c' e w := by obtain ⟨x, h1, h2⟩ := h; exact ⟨x, h1, h2.grow g⟩
theorem CsAt.grow {F : RO} {M M' : Mem} {c c' : Nat} {v : V} {l : List (List (List Pc))} (h : CsAt F M c v l) (g : Gr c M c' M') : CsAt F M' c' v l := LsAt.grow (C1.grow g) h g
theorem P1.grow {F : RO} {M M' : Mem} {c c' : Nat} (g : Gr c M c' M') (e : List V) (w : Prt) (h : P1 F M c e w) : P1 F M' c' e w := by obtain ⟨vi, vo, vc, h1, h2, h3, h4⟩ := h; exact ⟨vi, vo, vc, h1, h2.grow g, h3.grow g, h4.grow g⟩
theorem LnAt.grow {F : RO} {M M' : Mem} {c c' : Nat} {v : V} {l : List Prt} (h : LnAt F M c v l) (g : Gr c M c' M') : LnAt F M' c' v l := LsAt.grow (P1.grow g) h g
theorem sl_all1 {F : RO} {M : Mem} {c sz : Nat} {v : V} {es : List (List V)} (h : SlAt F M c sz v es) : isOne v = true ∧ flatten v = [v] ∧ allOne [v] = true := by
 rcases h with ⟨_, ⟨_, rfl | ⟨b, o0, o, rfl⟩⟩ | ⟨b, o, ⟨cap, _, rfl⟩ | ⟨el, kn, _, rfl⟩, _⟩⟩ <;> exact ⟨rfl, rfl, rfl⟩
theorem LsAt.one {α : Type} {F : RO} {R : Mem → Nat → List V → α → Prop} {sz : Nat} {M : Mem} {c : Nat} {v : V} {l : List α} (h : LsAt F R sz M c v l) : isOne v = true ∧ flatten v = [v] ∧ allOne [v] = true := by
 obtain ⟨es, h1, _⟩ := h; exact sl_all1 h1
theorem WdAt.one {F : RO} {M : Mem} {c : Nat} {v : V} {w : List Pc} (h : WdAt F M c v w) : isOne v = true ∧ flatten v = [v] ∧ allOne [v] = true := sl_all1 h.1
theorem LsAt.len {α : Type} {F : RO} {R : Mem → Nat → List V → α → Prop} {sz : Nat} {M : Mem} {c : Nat} {v : V} {l : List α} (h : LsAt F R sz M c v l) : lnL v = some (.i .i64 (l.length : Int)) := by
 obtain ⟨es, h1, h2, _⟩ := h; rw [← h2]; exact h1.len
theorem LsAt.max {α : Type} {F : RO} {R : Mem → Nat → List V → α → Prop} {sz : Nat} {M : Mem} {c : Nat} {v : V} {l : List α} (h : LsAt F R sz M c v l) : l.length ≤ 9223372036854775807 := by
 obtain ⟨es, h1, h2, h3, _⟩ := h; exact h3
theorem WdAt.len {F : RO} {M : Mem} {c : Nat} {v : V} {w : List Pc} (h : WdAt F M c v w) : lnL v = some (.i .i64 (w.length : Int)) := by have := h.1.len; rwa [pcE_len] at this
theorem LsAt.at {α : Type} {F : RO} {R : Mem → Nat → List V → α → Prop} {sz : Nat} {M : Mem} {c : Nat} {v : V} {l : List α} (h : LsAt F R sz M c v l) (hsz : 0 < sz) (i : Nat) (hi : i < l.length) :
  ∃ b o e, b < c ∧ (∀ k, iaSV sz v (.i k (i : Int)) = some (.p b o)) ∧ loadN F M b o sz = some e ∧ e.length = sz ∧ R M c e l[i] := by
 obtain ⟨es, h1, h2, h3, h4⟩ := h
 obtain ⟨b, o, a1, a2, a3⟩ := h1.at i (by omega)
 have hl : es[i].length = sz := h1.1 _ (List.getElem_mem _)
 exact ⟨b, o, es[i], a1, a2, by have := a3.load (by intro e; rw [e] at hl; simp at hl; omega); rwa [hl] at this, hl, h4 i _ hi⟩
theorem tk_next {α : Type} {l1 l2 : List α} {i : Nat} (h1 : i < l1.length) (h2 : i < l2.length) (h : l1.take i = l2.take i) (he : l1[i] = l2[i]) : l1.take (i + 1) = l2.take (i + 1) := by
 rw [List.take_succ_eq_append_getElem h1, List.take_succ_eq_append_getElem h2, h, he]
theorem tk_ne {α : Type} {l1 l2 : List α} {i : Nat} (h1 : i < l1.length) (h2 : i < l2.length) (he : l1[i] ≠ l2[i]) : l1 ≠ l2 := fun e => he (by subst e; rfl)
theorem tk_all {α : Type} {l1 l2 : List α} (hl : l1.length = l2.length) (h : l1.take l1.length = l2.take l1.length) : l1 = l2 := by
 rw [List.take_length, hl, List.take_length] at h; exact h
theorem pcV_eq (p q : Pc) : (decide (p.1 = q.1) && decide (p.2 = q.2)) = decide (p = q) := by
 obtain ⟨a, b⟩ := p
 obtain ⟨a', b'⟩ := q
 rw [Bool.eq_iff_iff]
 simp
theorem w70 (Φ : Nat → Option CF) (h : Φ 70 = some c70) {F : RO} {M : Mem} {c : Nat} (ok : Okm F M c) {v1 v2 : V} {l1 l2 : List Pc} (h1 : WdAt F M c v1 l1) (h2 : WdAt F M c v2 l2) :
  Calls Φ F 70 [v1, v2] M c fun r M' c' => r = .b (decide (l1 = l2)) ∧ Gr c M c' M' := by
 refine calls_walk h ?_
 have n1 := h1.len
 have n2 := h2.len
 have mx1 : l1.length ≤ 9223372036854775807 := h1.2
 by_cases hlen : l1.length = l2.length
 · have d0 : decide (¬ ((l1.length : Int) = (l2.length : Int))) = false := decide_eq_false (by omega)
   simp only [WX, B70, n1, n2, d0]
   obtain ⟨I, hI⟩ : ∃ I : Nat → St → Prop, ∀ n s', I n s' ↔ (∃ (i c1 : Nat) (u : List (Option V)), n = l1.length - i ∧ i ≤ l1.length ∧ c ≤ c1 ∧ s' = .mk ((.n (.n (.n (uv3 u 15 7 23) (uO u 3) (.n (uv1 u 19) (some (v1)) (uv1 u 27))) (some (v2)) (.n (uv3 u 17 9 25) (uO u 5) (.n (uv1 u 21) (some (.i .i64 (i : Int))) (uv1 u 29)))) (some (v1)) (.n (.n (uv3 u 16 8 24) (uO u 4) (.n (uv1 u 20) (some (.i .i64 (l1.length : Int))) (uv1 u 28))) (uO u 2) (uv7 u 18 10 26 6 22 14 30)))) [] M c1 ∧ l1.take i = l2.take i) := ⟨fun n s' => _, fun _ _ => Iff.rfl⟩
   refine wp_while I ?_ l1.length _ ((hI _ _).2 ⟨0, _, [none, none, _, _, _, _, _, _, _, _, _, none, none, none, _, _, _, _, _, _, _, _, _, _, _, _, _, _, _, _, _], rfl, Nat.zero_le _, Nat.le_refl _, rfl, rfl⟩)
   intro n s' hIs
   obtain ⟨i, c1, u, rfl, hi, hc1, rfl, hpre⟩ := (hI _ _).1 hIs
   clear hIs
   have q8 : i < l1.length → biV .add (.i .i64 (i : Int)) (.i .i64 1) = some (.i .i64 ((i + 1 : Nat) : Int)) := fun _ => by rw [i64_add _ _ (by omega) (by omega)]; simp
   by_cases hlt : i < l1.length
   · have q8 := q8 hlt
     have hlt2 : i < l2.length := by omega
     have d1 : decide ((i : Int) < (l1.length : Int)) = true := decide_eq_true (by omega)
     obtain ⟨b1, o1, _, ia1, ld1⟩ := pc_at h1.1 i hlt
     obtain ⟨b2, o2, _, ia2, ld2⟩ := pc_at h2.1 i hlt2
     have ia1 := ia1 .i64
     have ia2 := ia2 .i64
     have hfr := ok.free
     unfold pcV at ld1 ld2
     have hpv := pcV_eq l1[i] l2[i]
     by_cases he : l1[i] = l2[i]
     · have e1 : decide (l1[i].1 = l2[i].1) = true := decide_eq_true (by rw [he])
       have e2 : decide (l1[i].2 = l2[i].2) = true := decide_eq_true (by rw [he])
       simp only [WX, B70, d1, ia1, ia2, ld1, ld2, q8, e1, e2]
       exact ⟨l1.length - (i + 1), by omega, (hI _ _).2 ⟨i + 1, _, [none, none, _, _, _, _, _, _, _, _, _, none, none, none, _, _, _, _, _, _, _, _, _, _, _, _, _, _, _, _, _], rfl, hlt, by omega, rfl, tk_next hlt hlt2 hpre he⟩⟩
     · rw [decide_eq_false he] at hpv
       have hne := tk_ne hlt hlt2 he
       by_cases e1 : l1[i].1 = l2[i].1
       · have e2 : decide (l1[i].2 = l2[i].2) = false := by rw [decide_eq_true e1, Bool.true_and] at hpv; exact hpv
         have e1 := decide_eq_true e1
         simp only [WX, B70, d1, ia1, ia2, ld1, ld2, e1, e2]
         exact ⟨by rw [decide_eq_false hne], (Gr.refl ok).up (by omega)⟩
       · have e1 := decide_eq_false e1
         simp only [WX, B70, d1, ia1, ia2, ld1, ld2, e1, Bool.false_and]
         exact ⟨by rw [decide_eq_false hne], (Gr.refl ok).up (by omega)⟩
   · obtain rfl : i = l1.length := by omega
     have d1 : decide ((l1.length : Int) < (l1.length : Int)) = false := decide_eq_false (by omega)
     simp only [WX, B70, d1]
     exact ⟨by rw [decide_eq_true (tk_all hlen hpre)], (Gr.refl ok).up hc1⟩
 · have d0 : decide (¬ ((l1.length : Int) = (l2.length : Int))) = true := decide_eq_true (by omega)
   simp only [WX, B70, n1, n2, d0]
   exact ⟨by rw [decide_eq_false (fun e => hlen (by rw [e]))], Gr.refl ok⟩
theorem w48 (Φ : Nat → Option CF) (h : Φ 48 = some c48) (h70 : Φ 70 = some c70) {F : RO} {M : Mem} {c : Nat} (ok : Okm F M c) {v1 v2 : V} {l1 l2 : List Pc} (h1 : WdAt F M c v1 l1) (h2 : WdAt F M c v2 l2) :
  Calls Φ F 48 [.g [v1], .g [v2]] M c fun r M' c' => r = .b (decide (l1 = l2)) ∧ Gr c M c' M' := by
 refine calls_walk h ?_
 obtain ⟨y1, y2, y3⟩ := h1.one
 obtain ⟨z1, z2, z3⟩ := h2.one
 have hG : ∀ v, flatten (V.g [v]) = [v] := fun _ => rfl
 have gX := ((Gr.refl ok).set c (rowB 36 [v1]) (Nat.le_refl _) (Nat.lt_succ_self _) (Nat.le_succ _)).set (c + 1) (rowB 36 [v2]) (by omega) (show c + 1 < c + 2 by omega) (by omega)
 have m0 : ((M.set c (rowB 36 [v1])).set (c + 1) (rowB 36 [v2])).get c = some (rowB 36 [v1]) := by rw [get_ne _ _ (by omega)]; exact get_same _ _ _
 have m1 : ((M.set c (rowB 36 [v1])).set (c + 1) (rowB 36 [v2])).get (c + 1) = some (rowB 36 [v2]) := get_same _ _ _
 have l0 : load1 F ((M.set c (rowB 36 [v1])).set (c + 1) (rowB 36 [v2])) c 0 = some v1 := load_row m0 0
 have l1 : load1 F ((M.set c (rowB 36 [v1])).set (c + 1) (rowB 36 [v2])) (c + 1) 0 = some v2 := load_row m1 0
 simp only [WX, Nat.reduceAdd, B48, hG, y3, z3, l0, l1]
 generalize (M.set c (rowB 36 [v1])).set (c + 1) (rowB 36 [v2]) = X at gX l0 l1 ⊢
 refine putE_to ((w70 Φ h70 (gX.ok ok) (h1.grow gX) (h2.grow gX)).mono ?_)
 rintro r M' c' ⟨rfl, g⟩
 simp only [WX]
 exact gX.trans g
theorem w22 (Φ : Nat → Option CF) (h : Φ 22 = some c22) {F : RO} {M : Mem} {c : Nat} (ok : Okm F M c) {v1 v2 : V} {l1 l2 : List Pc} (h1 : WdAt F M c v1 l1) (h2 : WdAt F M c v2 l2) :
  Calls Φ F 22 [.g [v1], .g [v2]] M c fun r M' c' => r = .b (decide (l1 = l2)) ∧ Gr c M c' M' := by
 refine calls_walk h ?_
 obtain ⟨y1, y2, y3⟩ := h1.one
 obtain ⟨z1, z2, z3⟩ := h2.one
 have hG : ∀ v, flatten (V.g [v]) = [v] := fun _ => rfl
 have gX := ((Gr.refl ok).set c (rowB 36 [v1]) (Nat.le_refl _) (Nat.lt_succ_self _) (Nat.le_succ _)).set (c + 1) (rowB 36 [v2]) (by omega) (show c + 1 < c + 2 by omega) (by omega)
 have m0 : ((M.set c (rowB 36 [v1])).set (c + 1) (rowB 36 [v2])).get c = some (rowB 36 [v1]) := by rw [get_ne _ _ (by omega)]; exact get_same _ _ _
 have m1 : ((M.set c (rowB 36 [v1])).set (c + 1) (rowB 36 [v2])).get (c + 1) = some (rowB 36 [v2]) := get_same _ _ _
 have k1 := h1.grow gX
 have k2 := h2.grow gX
 have l0 : load1 F ((M.set c (rowB 36 [v1])).set (c + 1) (rowB 36 [v2])) c 0 = some v1 := load_row m0 0
 have l1' : load1 F ((M.set c (rowB 36 [v1])).set (c + 1) (rowB 36 [v2])) (c + 1) 0 = some v2 := load_row m1 0
 have n1 := h1.len
 have n2 := h2.len
 have mx1 : l1.length ≤ 9223372036854775807 := h1.2
 by_cases hlen : l1.length = l2.length
 · have d0 : decide (¬ ((l1.length : Int) = (l2.length : Int))) = false := decide_eq_false (by omega)
   simp only [WX, Nat.reduceAdd, B22, hG, y3, z3, l0, l1', n1, n2, d0]
   generalize (M.set c (rowB 36 [v1])).set (c + 1) (rowB 36 [v2]) = X at gX k1 k2 l0 l1' ⊢
   have okX := gX.ok ok
   obtain ⟨I, hI⟩ : ∃ I : Nat → St → Prop, ∀ n s', I n s' ↔ (∃ (i c1 : Nat) (u : List (Option V)), n = l1.length - i ∧ i ≤ l1.length ∧ c + 2 ≤ c1 ∧ s' = .mk ((.n (.n (.n (uv3 u 15 7 23) (some (.p (c + 1) 0)) (uv3 u 19 11 27)) (uO u 1) (.n (uv3 u 17 9 25) (some (.i .i64 (i : Int))) (uv3 u 21 13 29))) (uO u 0) (.n (uv7 u 16 8 24 4 20 12 28) (some (.p c 0)) (uv7 u 18 10 26 6 22 14 30)))) [] X c1 ∧ l1.take i = l2.take i) := ⟨fun n s' => _, fun _ _ => Iff.rfl⟩
   refine wp_while I ?_ l1.length _ ((hI _ _).2 ⟨0, _, [_, _, none, none, _, none, _, _, _, _, _, _, _, _, _, _, _, _, _, _, _, _, _, _, _, _, _, _, _, _, _], rfl, Nat.zero_le _, Nat.le_refl _, rfl, rfl⟩)
   intro n s' hIs
   obtain ⟨i, c1, u, rfl, hi, hc1, rfl, hpre⟩ := (hI _ _).1 hIs
   clear hIs
   by_cases hlt : i < l1.length
   · have q8 : biV .add (.i .i64 (i : Int)) (.i .i64 1) = some (.i .i64 ((i + 1 : Nat) : Int)) := by rw [i64_add _ _ (by omega) (by omega)]; simp
     have hlt2 : i < l2.length := by omega
     have d1 : decide ((i : Int) < (l1.length : Int)) = true := decide_eq_true (by omega)
     obtain ⟨b1, o1, _, ia1, ld1⟩ := pc_at k1.1 i hlt
     obtain ⟨b2, o2, _, ia2, ld2⟩ := pc_at k2.1 i hlt2
     have ia1 := ia1 .i64
     have ia2 := ia2 .i64
     have hfr := okX.free
     unfold pcV at ld1 ld2
     have hpv := pcV_eq l1[i] l2[i]
     by_cases he : l1[i] = l2[i]
     · have e1 : decide (l1[i].1 = l2[i].1) = true := decide_eq_true (by rw [he])
       have e2 : decide (l1[i].2 = l2[i].2) = true := decide_eq_true (by rw [he])
       simp only [WX, B22, n1, l0, l1', d1, ia1, ia2, ld1, ld2, q8, e1, e2]
       exact ⟨l1.length - (i + 1), by omega, (hI _ _).2 ⟨i + 1, _, [_, _, none, none, _, none, _, _, _, _, _, _, _, _, _, _, _, _, _, _, _, _, _, _, _, _, _, _, _, _, _], rfl, hlt, by omega, rfl, tk_next hlt hlt2 hpre he⟩⟩
     · rw [decide_eq_false he] at hpv
       have hne := tk_ne hlt hlt2 he
       by_cases e1 : l1[i].1 = l2[i].1
       · have e2 : decide (l1[i].2 = l2[i].2) = false := by rw [decide_eq_true e1, Bool.true_and] at hpv; exact hpv
         have e1 := decide_eq_true e1
         simp only [WX, B22, n1, l0, l1', d1, ia1, ia2, ld1, ld2, e1, e2]
         exact ⟨by rw [decide_eq_false hne], gX.up (by omega)⟩
       · have e1 := decide_eq_false e1
         simp only [WX, B22, n1, l0, l1', d1, ia1, ia2, ld1, ld2, e1, Bool.false_and]
         exact ⟨by rw [decide_eq_false hne], gX.up (by omega)⟩
   · obtain rfl : i = l1.length := by omega
     have d1 : decide ((l1.length : Int) < (l1.length : Int)) = false := decide_eq_false (by omega)
     simp only [WX, B22, n1, l0, d1]
     exact ⟨by rw [decide_eq_true (tk_all hlen hpre)], gX.up hc1⟩
 · have d0 : decide (¬ ((l1.length : Int) = (l2.length : Int))) = true := decide_eq_true (by omega)
   simp only [WX, Nat.reduceAdd, B22, hG, y3, z3, l0, l1', n1, n2, d0]
   exact ⟨by rw [decide_eq_false (fun e => hlen (by rw [e]))], gX⟩
def b51_1 : CC := (.reg [(qq a6 (.mv xF))])
def b51_2 : CC := (.reg [(qq a10 (.mv z0)), (qq a11 (.ln .slice z10)), (qq a12 (.mv z1)), (qq a13 (.ln .slice z12)), (qq a14 (.bi .neq z11 z13))])
def b51_3 : CC := (.reg [(qq a6 (.mv xF))])
def b51_4 : CC := (.seq b51_2 (.cond z14 (.seq b51_3 .ret) .skip))
def b51_5 : CC := (.reg [(qq a15 (.mv z0)), (qq a16 (.ln .slice z15)), (qq a17 (.mv (x6 0)))])
def b51_6 : CC := (.reg [(qq a18 (.bi .lss z17 z16))])
def b51_7 : CC := (.reg [(qq a19 (.mv z17)), (qq a20 (.iaS 1 z15 z17)), (qq a21 (.ldn 1 z20)), (aa a8 (.al 36 [.l0])), (qq a7 (.mv z19)), (ez (.st 1 z8 z21))])
def b51_8 : CC := (.reg [(qq a22 (.mv z1)), (qq a23 (.mv z7)), (qq a24 (.iaS 1 z22 z23)), (qq a25 (.ldn 1 z24)), (aa a9 (.al 36 [.l0])), (ez (.st 1 z9 z25))])
def b51_9 : CC := (.reg [(qq a26 (.mv z2)), (qq a27 (.ldn 1 z8)), (qq a28 (.ldn 1 z9)), (ee a29 (.cv z26 [z27, z28])), (qq a30 (.un .not z29))])
def b51_10 : CC := (.reg [(qq a6 (.mv xF))])
def b51_11 : CC := (.cond z30 (.seq b51_10 .ret) .skip)
def b51_12 : CC := (.reg [(qq a31 (.bi .add z17 (x6 1))), (qq a17 (.mv z31))])
def b51_13 : CC := (.seq (.block 1 (.seq b51_7 (.seq b51_8 (.seq b51_9 b51_11)))) b51_12)
def b51_14 : CC := (.seq (.cond z18 .skip (.exit 0)) b51_13)
def b51_15 : CC := (.reg [(qq a6 (.mv xT))])
def b51_16 : CC := (.seq (.seq b51_5 (.block 0 (.loop (.seq b51_6 b51_14)))) (.seq b51_15 .ret))
def c51 : CF := .mk 6 [.t a6] (.seq b51_1 (.seq b51_4 b51_16))
theorem e51 (v0 v1 v2 : V) : argTr 6 [v0, v1, v2] = (.n (.n sk4 (some v1) sk4) (some v0) (.n sk4 (some v2) sk4)) := rfl
def B51 := ai @e51 (ai (wu b51_1.eq_1) (ai (wu b51_2.eq_1) (ai (wu b51_3.eq_1) (ai (wu b51_4.eq_1) (ai (wu b51_5.eq_1) (ai (wu b51_6.eq_1) (ai (wu b51_7.eq_1) (ai (wu b51_8.eq_1) (ai (wu b51_9.eq_1) (ai (wu b51_10.eq_1) (ai (wu b51_11.eq_1) (ai (wu b51_12.eq_1) (ai (wu b51_13.eq_1) (ai (wu b51_14.eq_1) (ai (wu b51_15.eq_1) (wu b51_16.eq_1))))))))))))))))
def b50_1 : CC := (.reg [(aa a2 (.bx 42 1 z0)), (aa a3 (.bx 42 1 z1)), (qq a4 (.mv xF))])
def b50_2 : CC := (.reg [(qq a5 (.fa 0 z2)), (qq a6 (.ld1 z5)), (qq a7 (.fa 0 z3)), (qq a8 (.ld1 z7)), (ee a9 (.call 51 [z6, z8, (.c (.f 48 [] []))])), (qq a4 (.mv z9))])
def c50 : CF := .mk 4 [.t a4] (.seq b50_1 (.seq b50_2 .ret))
theorem e50 (v0 v1 : V) : argTr 4 [v0, v1] = (.n (.n sk2 (some v1) sk2) (some v0) sk3) := rfl
def B50 := ai @e50 (ai (wu b50_1.eq_1) (wu b50_2.eq_1))
def b49_1 : CC := (.reg [(qq a6 (.mv xF))])
def b49_2 : CC := (.reg [(qq a10 (.mv z0)), (qq a11 (.ln .slice z10)), (qq a12 (.mv z1)), (qq a13 (.ln .slice z12)), (qq a14 (.bi .neq z11 z13))])
def b49_3 : CC := (.reg [(qq a6 (.mv xF))])
def b49_4 : CC := (.seq b49_2 (.cond z14 (.seq b49_3 .ret) .skip))
def b49_5 : CC := (.reg [(qq a15 (.mv z0)), (qq a16 (.ln .slice z15)), (qq a17 (.mv (x6 0)))])
def b49_6 : CC := (.reg [(qq a18 (.bi .lss z17 z16))])
def b49_7 : CC := (.reg [(qq a19 (.mv z17)), (qq a20 (.iaS 1 z15 z17)), (qq a21 (.ldn 1 z20)), (aa a8 (.al 42 [.l0])), (qq a7 (.mv z19)), (ez (.st 1 z8 z21))])
def b49_8 : CC := (.reg [(qq a22 (.mv z1)), (qq a23 (.mv z7)), (qq a24 (.iaS 1 z22 z23)), (qq a25 (.ldn 1 z24)), (aa a9 (.al 42 [.l0])), (ez (.st 1 z9 z25))])
def b49_9 : CC := (.reg [(qq a26 (.mv z2)), (qq a27 (.ldn 1 z8)), (qq a28 (.ldn 1 z9)), (ee a29 (.cv z26 [z27, z28])), (qq a30 (.un .not z29))])
def b49_10 : CC := (.reg [(qq a6 (.mv xF))])
def b49_11 : CC := (.cond z30 (.seq b49_10 .ret) .skip)
def b49_12 : CC := (.reg [(qq a31 (.bi .add z17 (x6 1))), (qq a17 (.mv z31))])
def b49_13 : CC := (.seq (.block 1 (.seq b49_7 (.seq b49_8 (.seq b49_9 b49_11)))) b49_12)
def b49_14 : CC := (.seq (.cond z18 .skip (.exit 0)) b49_13)
def b49_15 : CC := (.reg [(qq a6 (.mv xT))])
def b49_16 : CC := (.seq (.seq b49_5 (.block 0 (.loop (.seq b49_6 b49_14)))) (.seq b49_15 .ret))
def c49 : CF := .mk 6 [.t a6] (.seq b49_1 (.seq b49_4 b49_16))
theorem e49 (v0 v1 v2 : V) : argTr 6 [v0, v1, v2] = (.n (.n sk4 (some v1) sk4) (some v0) (.n sk4 (some v2) sk4)) := rfl
def B49 := ai @e49 (ai (wu b49_1.eq_1) (ai (wu b49_2.eq_1) (ai (wu b49_3.eq_1) (ai (wu b49_4.eq_1) (ai (wu b49_5.eq_1) (ai (wu b49_6.eq_1) (ai (wu b49_7.eq_1) (ai (wu b49_8.eq_1) (ai (wu b49_9.eq_1) (ai (wu b49_10.eq_1) (ai (wu b49_11.eq_1) (ai (wu b49_12.eq_1) (ai (wu b49_13.eq_1) (ai (wu b49_14.eq_1) (ai (wu b49_15.eq_1) (wu b49_16.eq_1))))))))))))))))
def b47_1 : CC := (.reg [(aa a2 (.bx 39 6 z0)), (aa a3 (.bx 39 6 z1)), (qq a4 (.mv xF))])
def w47_1 := wu b47_1.eq_1
def b47_2 : CC := (.reg [(qq a5 (.fa 0 z2)), (qq a6 (.ld1 z5)), (qq a7 (.fa 0 z3)), (qq a8 (.ld1 z7)), (qq a9 (.bi .eql z6 z8)), (qq a10 (.mv z9)), ⟨(some a11), .q (.fa 1 z2), (some (a10, true))⟩, ⟨(some a12), .q (.ld1 z11), (some (a10, true))⟩, ⟨(some a13), .q (.fa 1 z3), (some (a10, true))⟩, ⟨(some a14), .q (.ld1 z13), (some (a10, true))⟩, ⟨(some a15), .q (.eq false .bool false z12 z14), (some (a10, true))⟩, (qq a16 (.pk z10 z15 xF)), (qq a17 (.mv z16)), ⟨(some a18), .q (.fa 4 z2), (some (a17, true))⟩, ⟨(some a19), .q (.ld1 z18), (some (a17, true))⟩, ⟨(some a20), .q (.fa 4 z3), (some (a17, true))⟩, ⟨(some a21), .q (.ld1 z20), (some (a17, true))⟩, ⟨(some a22), .q (.eq false .bool false z19 z21), (some (a17, true))⟩, (qq a23 (.pk z17 z22 xF)), (qq a24 (.mv z23)), ⟨(some a25), .q (.fa 2 z2), (some (a24, true))⟩, ⟨(some a26), .q (.ldn 1 z25), (some (a24, true))⟩, ⟨(some a27), .q (.fa 2 z3), (some (a24, true))⟩, ⟨(some a28), .q (.ldn 1 z27), (some (a24, true))⟩, ⟨(some a29), .e (.call 48 [z26, z28]), (some (a24, true))⟩, (qq a30 (.pk z24 z29 xF)), (qq a31 (.mv z30)), ⟨(some a32), .q (.fa 3 z2), (some (a31, true))⟩, ⟨(some a33), .q (.ldn 1 z32), (some (a31, true))⟩, ⟨(some a34), .q (.fa 3 z3), (some (a31, true))⟩, ⟨(some a35), .q (.ldn 1 z34), (some (a31, true))⟩, ⟨(some a36), .e (.call 48 [z33, z35]), (some (a31, true))⟩, (qq a37 (.pk z31 z36 xF)), (qq a38 (.mv z37)), ⟨(some a39), .q (.fa 5 z2), (some (a38, true))⟩, ⟨(some a40), .q (.ld1 z39), (some (a38, true))⟩, ⟨(some a41), .q (.fa 5 z3), (some (a38, true))⟩, ⟨(some a42), .q (.ld1 z41), (some (a38, true))⟩, ⟨(some a43), .e (.call 49 [z40, z42, (.c (.f 50 [] []))]), (some (a38, true))⟩, (qq a44 (.pk z38 z43 xF)), (qq a4 (.mv z44))])
def w47_2 := wu b47_2.eq_1
def c47 : CF := .mk 6 [.t a4] (.seq b47_1 (.seq b47_2 .ret))
theorem e47 (v0 v1 : V) : argTr 6 [v0, v1] = (.n (.n sk4 (some v1) sk4) (some v0) sk5) := rfl
def B47 := ai @e47 (ai @w47_1 (@w47_2))
deriving instance DecidableEq for Prt
theorem CmAt.one {F : RO} {M : Mem} {c : Nat} {v : V} {l : List (List Pc)} (h : CmAt F M c v l) : isOne v = true ∧ flatten v = [v] ∧ allOne [v] = true := LsAt.one h
theorem CmAt.len {F : RO} {M : Mem} {c : Nat} {v : V} {l : List (List Pc)} (h : CmAt F M c v l) : lnL v = some (.i .i64 (l.length : Int)) := LsAt.len h
theorem CmAt.max {F : RO} {M : Mem} {c : Nat} {v : V} {l : List (List Pc)} (h : CmAt F M c v l) : l.length ≤ 9223372036854775807 := LsAt.max h
theorem CsAt.one {F : RO} {M : Mem} {c : Nat} {v : V} {l : List (List (List Pc))} (h : CsAt F M c v l) : isOne v = true ∧ flatten v = [v] ∧ allOne [v] = true := LsAt.one h
theorem CsAt.len {F : RO} {M : Mem} {c : Nat} {v : V} {l : List (List (List Pc))} (h : CsAt F M c v l) : lnL v = some (.i .i64 (l.length : Int)) := LsAt.len h
theorem CsAt.max {F : RO} {M : Mem} {c : Nat} {v : V} {l : List (List (List Pc))} (h : CsAt F M c v l) : l.length ≤ 9223372036854775807 := LsAt.max h
theorem LnAt.one {F : RO} {M : Mem} {c : Nat} {v : V} {l : List Prt} (h : LnAt F M c v l) : isOne v = true ∧ flatten v = [v] ∧ allOne [v] = true := LsAt.one h
theorem LnAt.len {F : RO} {M : Mem} {c : Nat} {v : V} {l : List Prt} (h : LnAt F M c v l) : lnL v = some (.i .i64 (l.length : Int)) := LsAt.len h
theorem LnAt.max {F : RO} {M : Mem} {c : Nat} {v : V} {l : List Prt} (h : LnAt F M c v l) : l.length ≤ 9223372036854775807 := LsAt.max h
theorem w51 (Φ : Nat → Option CF) (h : Φ 51 = some c51) (h48 : Φ 48 = some c48) (h70 : Φ 70 = some c70) {F : RO} {M : Mem} {c : Nat} (ok : Okm F M c) {v1 v2 : V} {l1 l2 : List (List Pc)} (h1 : CmAt F M c v1 l1) (h2 : CmAt F M c v2 l2) :
  Calls Φ F 51 [v1, v2, .f 48 [] []] M c fun r M' c' => r = .b (decide (l1 = l2)) ∧ Gr c M c' M' := by
 refine calls_walk h ?_
 have n1 := h1.len
 have n2 := h2.len
 have mx1 := h1.max
 have hG : ∀ v, flatten (V.g [v]) = [v] := fun _ => rfl
 by_cases hlen : l1.length = l2.length
 · have d0 : decide (¬ ((l1.length : Int) = (l2.length : Int))) = false := decide_eq_false (by omega)
   simp only [WX, B51, n1, n2, d0]
   obtain ⟨I, hI⟩ : ∃ I : Nat → St → Prop, ∀ n s', I n s' ↔ (∃ (i c1 : Nat) (M1 : Mem) (u : List (Option V)), n = l1.length - i ∧ i ≤ l1.length ∧ s' = .mk ((.n (.n (.n (.n (.n (uv1 u 31) (some (v1)) (uv1 u 47)) (uO u 7) (uv3 u 39 23 55)) (uO u 3) (uv7 u 35 19 51 11 43 27 59)) (some (v2)) (.n (.n (.n (uv1 u 33) (some (.i .i64 (i : Int))) (uv1 u 49)) (uO u 9) (uv3 u 41 25 57)) (uO u 5) (uv7 u 37 21 53 13 45 29 61))) (some (v1)) (.n (.n (.n (.n (uv1 u 32) (some (.i .i64 (l1.length : Int))) (uv1 u 48)) (uO u 8) (uv3 u 40 24 56)) (uO u 4) (uv7 u 36 20 52 12 44 28 60)) (some (.f 48 [] [])) (.n (uv7 u 34 18 50 10 42 26 58) (uO u 6) (uv7 u 38 22 54 14 46 30 62))))) [] M1 c1 ∧ Gr c M c1 M1 ∧ l1.take i = l2.take i) := ⟨fun n s' => _, fun _ _ => Iff.rfl⟩
   refine wp_while I ?_ l1.length _ ((hI _ _).2 ⟨0, _, _, [none, none, none, _, _, _, _, _, _, _, _, _, _, _, _, none, none, none, _, _, _, _, _, _, _, _, _, _, _, _, _, _, _, _, _, _, _, _, _, _, _, _, _, _, _, _, _, _, _, _, _, _, _, _, _, _, _, _, _, _, _, _, _], rfl, Nat.zero_le _, rfl, Gr.refl ok, rfl⟩)
   intro n s' hIs
   obtain ⟨i, c1, M1, u, rfl, hi, rfl, gr1, hpre⟩ := (hI _ _).1 hIs
   clear hIs
   by_cases hlt : i < l1.length
   · have q8 : biV .add (.i .i64 (i : Int)) (.i .i64 1) = some (.i .i64 ((i + 1 : Nat) : Int)) := by rw [i64_add _ _ (by omega) (by omega)]; simp
     have hlt2 : i < l2.length := by omega
     have d1 : decide ((i : Int) < (l1.length : Int)) = true := decide_eq_true (by omega)
     have ok1 := gr1.ok ok
     obtain ⟨b1, o1, e1, hb1, ia1, ld1, el1, r1⟩ := LsAt.at (h1.grow gr1) (by decide) i hlt
     obtain ⟨b2, o2, e2, hb2, ia2, ld2, el2, r2⟩ := LsAt.at (h2.grow gr1) (by decide) i hlt2
     have ia1 := ia1 .i64
     have ia2 := ia2 .i64
     obtain ⟨x1, rfl, w1⟩ := r1
     obtain ⟨x2, rfl, w2⟩ := r2
     obtain ⟨y1, y2, y3⟩ := w1.one
     obtain ⟨z1, z2, z3⟩ := w2.one
     have g1 : Gr c1 M1 (c1 + 1) (M1.set c1 (rowB 36 [x1])) := (Gr.refl ok1).set c1 _ (Nat.le_refl _) (Nat.lt_succ_self _) (Nat.le_succ _)
     have g2 : Gr c1 M1 (c1 + 2) ((M1.set c1 (rowB 36 [x1])).set (c1 + 1) (rowB 36 [x2])) := g1.set (c1 + 1) _ (by omega) (by omega) (by omega)
     have m0 : ((M1.set c1 (rowB 36 [x1])).set (c1 + 1) (rowB 36 [x2])).get c1 = some (rowB 36 [x1]) := by rw [get_ne _ _ (by omega)]; exact get_same _ _ _
     have m1 : ((M1.set c1 (rowB 36 [x1])).set (c1 + 1) (rowB 36 [x2])).get (c1 + 1) = some (rowB 36 [x2]) := get_same _ _ _
     have k0 := loadN_row (F := F) m0 1 rfl
     have k1 := loadN_row (F := F) m1 1 rfl
     have ld2' : loadN F (M1.set c1 (rowB 36 [x1])) b2 o2 1 = some [x2] := (g1.loadN hb2 _ _).trans ld2
     have hf1 : flatten (V.g [x1]) = [x1] := by exact hG _
     have hf2 : flatten (V.g [x2]) = [x2] := by exact hG _
     have ha1 : allOne [x1] = true := by first | exact y3 | exact z3
     have ha2 : allOne [x2] = true := by first | exact y3 | exact z3
     simp only [WX, Nat.reduceAdd, Nat.reduceLeDiff, B51, d1, ia1, ia2, ld1, ld2', hf1, hf2, ha1, ha2, k0, k1]
     generalize (M1.set c1 (rowB 36 [x1])).set (c1 + 1) (rowB 36 [x2]) = X at g2 m0 m1 k0 k1 ⊢
     refine putE_to ((w48 Φ h48 h70 (g2.ok ok1) (w1.grow g2) (w2.grow g2)).mono ?_)
     rintro r M2 c2 ⟨rfl, g3⟩
     by_cases he : l1[i] = l2[i]
     · have dd : decide (l1[i] = l2[i]) = true := decide_eq_true he
       simp only [WX, B51, dd, q8]
       exact ⟨l1.length - (i + 1), by omega, (hI _ _).2 ⟨i + 1, _, _, [none, none, none, _, _, _, _, _, _, _, _, _, _, _, _, none, none, none, _, _, _, _, _, _, _, _, _, _, _, _, _, _, _, _, _, _, _, _, _, _, _, _, _, _, _, _, _, _, _, _, _, _, _, _, _, _, _, _, _, _, _, _, _], rfl, hlt, rfl, gr1.trans (g2.trans g3), tk_next hlt hlt2 hpre he⟩⟩
     · have dd : decide (l1[i] = l2[i]) = false := decide_eq_false he
       simp only [WX, B51, dd]
       exact ⟨by rw [decide_eq_false (tk_ne hlt hlt2 he)], gr1.trans (g2.trans g3)⟩
   · obtain rfl : i = l1.length := by omega
     have d1 : decide ((l1.length : Int) < (l1.length : Int)) = false := decide_eq_false (by omega)
     simp only [WX, B51, d1]
     exact ⟨by rw [decide_eq_true (tk_all hlen hpre)], gr1⟩
 · have d0 : decide (¬ ((l1.length : Int) = (l2.length : Int))) = true := decide_eq_true (by omega)
   simp only [WX, B51, n1, n2, d0]
   exact ⟨by rw [decide_eq_false (fun e => hlen (by rw [e]))], Gr.refl ok⟩
theorem w50 (Φ : Nat → Option CF) (h : Φ 50 = some c50) (h51 : Φ 51 = some c51) (h48 : Φ 48 = some c48) (h70 : Φ 70 = some c70) {F : RO} {M : Mem} {c : Nat} (ok : Okm F M c) {v1 v2 : V} {l1 l2 : List (List Pc)} (h1 : CmAt F M c v1 l1) (h2 : CmAt F M c v2 l2) :
  Calls Φ F 50 [.g [v1], .g [v2]] M c fun r M' c' => r = .b (decide (l1 = l2)) ∧ Gr c M c' M' := by
 refine calls_walk h ?_
 obtain ⟨y1, y2, y3⟩ := h1.one
 obtain ⟨z1, z2, z3⟩ := h2.one
 have hG : ∀ v, flatten (V.g [v]) = [v] := fun _ => rfl
 have gX := ((Gr.refl ok).set c (rowB 42 [v1]) (Nat.le_refl _) (Nat.lt_succ_self _) (Nat.le_succ _)).set (c + 1) (rowB 42 [v2]) (by omega) (show c + 1 < c + 2 by omega) (by omega)
 have m0 : ((M.set c (rowB 42 [v1])).set (c + 1) (rowB 42 [v2])).get c = some (rowB 42 [v1]) := by rw [get_ne _ _ (by omega)]; exact get_same _ _ _
 have m1 : ((M.set c (rowB 42 [v1])).set (c + 1) (rowB 42 [v2])).get (c + 1) = some (rowB 42 [v2]) := get_same _ _ _
 have l0 : load1 F ((M.set c (rowB 42 [v1])).set (c + 1) (rowB 42 [v2])) c 0 = some v1 := load_row m0 0
 have l1 : load1 F ((M.set c (rowB 42 [v1])).set (c + 1) (rowB 42 [v2])) (c + 1) 0 = some v2 := load_row m1 0
 simp only [WX, Nat.reduceAdd, B50, hG, y3, z3, l0, l1]
 generalize (M.set c (rowB 42 [v1])).set (c + 1) (rowB 42 [v2]) = X at gX l0 l1 ⊢
 refine putE_to ((w51 Φ h51 h48 h70 (gX.ok ok) (h1.grow gX) (h2.grow gX)).mono ?_)
 rintro r M' c' ⟨rfl, g⟩
 simp only [WX]
 exact gX.trans g
theorem w49 (Φ : Nat → Option CF) (h : Φ 49 = some c49) (h50 : Φ 50 = some c50) (h51 : Φ 51 = some c51) (h48 : Φ 48 = some c48) (h70 : Φ 70 = some c70) {F : RO} {M : Mem} {c : Nat} (ok : Okm F M c) {v1 v2 : V} {l1 l2 : List (List (List Pc))} (h1 : CsAt F M c v1 l1) (h2 : CsAt F M c v2 l2) :
  Calls Φ F 49 [v1, v2, .f 50 [] []] M c fun r M' c' => r = .b (decide (l1 = l2)) ∧ Gr c M c' M' := by
 refine calls_walk h ?_
 have n1 := h1.len
 have n2 := h2.len
 have mx1 := h1.max
 have hG : ∀ v, flatten (V.g [v]) = [v] := fun _ => rfl
 by_cases hlen : l1.length = l2.length
 · have d0 : decide (¬ ((l1.length : Int) = (l2.length : Int))) = false := decide_eq_false (by omega)
   simp only [WX, B49, n1, n2, d0]
   obtain ⟨I, hI⟩ : ∃ I : Nat → St → Prop, ∀ n s', I n s' ↔ (∃ (i c1 : Nat) (M1 : Mem) (u : List (Option V)), n = l1.length - i ∧ i ≤ l1.length ∧ s' = .mk ((.n (.n (.n (.n (.n (uv1 u 31) (some (v1)) (uv1 u 47)) (uO u 7) (uv3 u 39 23 55)) (uO u 3) (uv7 u 35 19 51 11 43 27 59)) (some (v2)) (.n (.n (.n (uv1 u 33) (some (.i .i64 (i : Int))) (uv1 u 49)) (uO u 9) (uv3 u 41 25 57)) (uO u 5) (uv7 u 37 21 53 13 45 29 61))) (some (v1)) (.n (.n (.n (.n (uv1 u 32) (some (.i .i64 (l1.length : Int))) (uv1 u 48)) (uO u 8) (uv3 u 40 24 56)) (uO u 4) (uv7 u 36 20 52 12 44 28 60)) (some (.f 50 [] [])) (.n (uv7 u 34 18 50 10 42 26 58) (uO u 6) (uv7 u 38 22 54 14 46 30 62))))) [] M1 c1 ∧ Gr c M c1 M1 ∧ l1.take i = l2.take i) := ⟨fun n s' => _, fun _ _ => Iff.rfl⟩
   refine wp_while I ?_ l1.length _ ((hI _ _).2 ⟨0, _, _, [none, none, none, _, _, _, _, _, _, _, _, _, _, _, _, none, none, none, _, _, _, _, _, _, _, _, _, _, _, _, _, _, _, _, _, _, _, _, _, _, _, _, _, _, _, _, _, _, _, _, _, _, _, _, _, _, _, _, _, _, _, _, _], rfl, Nat.zero_le _, rfl, Gr.refl ok, rfl⟩)
   intro n s' hIs
   obtain ⟨i, c1, M1, u, rfl, hi, rfl, gr1, hpre⟩ := (hI _ _).1 hIs
   clear hIs
   by_cases hlt : i < l1.length
   · have q8 : biV .add (.i .i64 (i : Int)) (.i .i64 1) = some (.i .i64 ((i + 1 : Nat) : Int)) := by rw [i64_add _ _ (by omega) (by omega)]; simp
     have hlt2 : i < l2.length := by omega
     have d1 : decide ((i : Int) < (l1.length : Int)) = true := decide_eq_true (by omega)
     have ok1 := gr1.ok ok
     obtain ⟨b1, o1, e1, hb1, ia1, ld1, el1, r1⟩ := LsAt.at (h1.grow gr1) (by decide) i hlt
     obtain ⟨b2, o2, e2, hb2, ia2, ld2, el2, r2⟩ := LsAt.at (h2.grow gr1) (by decide) i hlt2
     have ia1 := ia1 .i64
     have ia2 := ia2 .i64
     obtain ⟨x1, rfl, w1⟩ := r1
     obtain ⟨x2, rfl, w2⟩ := r2
     obtain ⟨y1, y2, y3⟩ := w1.one
     obtain ⟨z1, z2, z3⟩ := w2.one
     have g1 : Gr c1 M1 (c1 + 1) (M1.set c1 (rowB 42 [x1])) := (Gr.refl ok1).set c1 _ (Nat.le_refl _) (Nat.lt_succ_self _) (Nat.le_succ _)
     have g2 : Gr c1 M1 (c1 + 2) ((M1.set c1 (rowB 42 [x1])).set (c1 + 1) (rowB 42 [x2])) := g1.set (c1 + 1) _ (by omega) (by omega) (by omega)
     have m0 : ((M1.set c1 (rowB 42 [x1])).set (c1 + 1) (rowB 42 [x2])).get c1 = some (rowB 42 [x1]) := by rw [get_ne _ _ (by omega)]; exact get_same _ _ _
     have m1 : ((M1.set c1 (rowB 42 [x1])).set (c1 + 1) (rowB 42 [x2])).get (c1 + 1) = some (rowB 42 [x2]) := get_same _ _ _
     have k0 := loadN_row (F := F) m0 1 rfl
     have k1 := loadN_row (F := F) m1 1 rfl
     have ld2' : loadN F (M1.set c1 (rowB 42 [x1])) b2 o2 1 = some [x2] := (g1.loadN hb2 _ _).trans ld2
     have hf1 : flatten (V.g [x1]) = [x1] := by exact hG _
     have hf2 : flatten (V.g [x2]) = [x2] := by exact hG _
     have ha1 : allOne [x1] = true := by first | exact y3 | exact z3
     have ha2 : allOne [x2] = true := by first | exact y3 | exact z3
     simp only [WX, Nat.reduceAdd, Nat.reduceLeDiff, B49, d1, ia1, ia2, ld1, ld2', hf1, hf2, ha1, ha2, k0, k1]
     generalize (M1.set c1 (rowB 42 [x1])).set (c1 + 1) (rowB 42 [x2]) = X at g2 m0 m1 k0 k1 ⊢
     refine putE_to ((w50 Φ h50 h51 h48 h70 (g2.ok ok1) (w1.grow g2) (w2.grow g2)).mono ?_)
     rintro r M2 c2 ⟨rfl, g3⟩
     by_cases he : l1[i] = l2[i]
     · have dd : decide (l1[i] = l2[i]) = true := decide_eq_true he
       simp only [WX, B49, dd, q8]
       exact ⟨l1.length - (i + 1), by omega, (hI _ _).2 ⟨i + 1, _, _, [none, none, none, _, _, _, _, _, _, _, _, _, _, _, _, none, none, none, _, _, _, _, _, _, _, _, _, _, _, _, _, _, _, _, _, _, _, _, _, _, _, _, _, _, _, _, _, _, _, _, _, _, _, _, _, _, _, _, _, _, _, _, _], rfl, hlt, rfl, gr1.trans (g2.trans g3), tk_next hlt hlt2 hpre he⟩⟩
     · have dd : decide (l1[i] = l2[i]) = false := decide_eq_false he
       simp only [WX, B49, dd]
       exact ⟨by rw [decide_eq_false (tk_ne hlt hlt2 he)], gr1.trans (g2.trans g3)⟩
   · obtain rfl : i = l1.length := by omega
     have d1 : decide ((l1.length : Int) < (l1.length : Int)) = false := decide_eq_false (by omega)
     simp only [WX, B49, d1]
     exact ⟨by rw [decide_eq_true (tk_all hlen hpre)], gr1⟩
 · have d0 : decide (¬ ((l1.length : Int) = (l2.length : Int))) = true := decide_eq_true (by omega)
   simp only [WX, B49, n1, n2, d0]
   exact ⟨by rw [decide_eq_false (fun e => hlen (by rw [e]))], Gr.refl ok⟩
theorem prt_eq {p q : Prt} : p = q ↔ p.join = q.join ∧ p.nt = q.nt ∧ p.beh = q.beh ∧ p.inp = q.inp ∧ p.out = q.out ∧ p.cmds = q.cmds := by
 obtain ⟨a, b, c, d, e, f⟩ := p
 obtain ⟨a', b', c', d', e', f'⟩ := q
 simp only [Prt.mk.injEq]
 constructor
 · rintro ⟨h1, h2, h3, h4, h5, h6⟩; exact ⟨h1, h2, h5, h3, h4, h6⟩
 · rintro ⟨h1, h2, h5, h3, h4, h6⟩; exact ⟨h1, h2, h3, h4, h5, h6⟩
theorem w47 (Φ : Nat → Option CF) (h : Φ 47 = some c47) (h49 : Φ 49 = some c49) (h50 : Φ 50 = some c50) (h51 : Φ 51 = some c51) (h48 : Φ 48 = some c48) (h70 : Φ 70 = some c70) {F : RO} {M : Mem} {c : Nat} (ok : Okm F M c) {e1 e2 : List V} {p q : Prt} (h1 : P1 F M c e1 p) (h2 : P1 F M c e2 q) :
  Calls Φ F 47 [.g e1, .g e2] M c fun r M' c' => r = .b (decide (p = q)) ∧ Gr c M c' M' := by
 refine calls_walk h ?_
 obtain ⟨i1, o1, k1, rfl, a1, a2, a3⟩ := h1
 obtain ⟨i2, o2, k2, rfl, b1, b2, b3⟩ := h2
 obtain ⟨x1, x2, x3⟩ := a1.one
 obtain ⟨x4, x5, x6⟩ := a2.one
 obtain ⟨x7, x8, x9⟩ := a3.one
 obtain ⟨y1, y2, y3⟩ := b1.one
 obtain ⟨y4, y5, y6⟩ := b2.one
 obtain ⟨y7, y8, y9⟩ := b3.one
 obtain ⟨r1, hr1⟩ : ∃ r, r = [V.i .i64 p.join, .b p.nt, i1, o1, .b p.beh, k1] := ⟨_, rfl⟩
 obtain ⟨r2, hr2⟩ : ∃ r, r = [V.i .i64 q.join, .b q.nt, i2, o2, .b q.beh, k2] := ⟨_, rfl⟩
 have f1 : flatten (V.g r1) = r1 := rfl
 have f2 : flatten (V.g r2) = r2 := rfl
 have s1 : allOne r1 = true := by rw [hr1]; simp only [allOne_cons, allOne_nil, x1, x4, x7, Bool.and_true, Bool.and_self]; rfl
 have s2 : allOne r2 = true := by rw [hr2]; simp only [allOne_cons, allOne_nil, y1, y4, y7, Bool.and_true, Bool.and_self]; rfl
 have L1 : r1.length = 6 := by rw [hr1]; rfl
 have L2 : r2.length = 6 := by rw [hr2]; rfl
 rw [← hr1, ← hr2]
 have gX := ((Gr.refl ok).set c (rowB 39 r1) (Nat.le_refl _) (Nat.lt_succ_self _) (Nat.le_succ _)).set (c + 1) (rowB 39 r2) (by omega) (show c + 1 < c + 2 by omega) (by omega)
 have m0 : ((M.set c (rowB 39 r1)).set (c + 1) (rowB 39 r2)).get c = some (rowB 39 r1) := by rw [get_ne _ _ (by omega)]; exact get_same _ _ _
 have m1 : ((M.set c (rowB 39 r1)).set (c + 1) (rowB 39 r2)).get (c + 1) = some (rowB 39 r2) := get_same _ _ _
 have hfin : decide (p = q) = (decide (p.join = q.join) && (decide (p.nt = q.nt) && (decide (p.beh = q.beh) && (decide (p.inp = q.inp) && (decide (p.out = q.out) && decide (p.cmds = q.cmds)))))) := by
  rw [Bool.eq_iff_iff]; simp [prt_eq]
 simp only [WX, Nat.reduceAdd, e47, w47_1, f1, f2, s1, s2, L1, L2]
 generalize (M.set c (rowB 39 r1)).set (c + 1) (rowB 39 r2) = X at gX m0 m1 ⊢
 have A0 : load1 F X c 0 = some (.i .i64 p.join) := (load_row m0 0).trans (by rw [hr1]; rfl)
 have A1 : load1 F X c 1 = some (.b p.nt) := (load_row m0 1).trans (by rw [hr1]; rfl)
 have A4 : load1 F X c 4 = some (.b p.beh) := (load_row m0 4).trans (by rw [hr1]; rfl)
 have A5 : load1 F X c 5 = some k1 := (load_row m0 5).trans (by rw [hr1]; rfl)
 have A2 : loadN F X c 2 1 = some [i1] := by rw [set_same m0, loadN_same _ _ _ _ _ _ (by omega), hr1]; rfl
 have A3 : loadN F X c 3 1 = some [o1] := by rw [set_same m0, loadN_same _ _ _ _ _ _ (by omega), hr1]; rfl
 have B0 : load1 F X (c + 1) 0 = some (.i .i64 q.join) := (load_row m1 0).trans (by rw [hr2]; rfl)
 have B1 : load1 F X (c + 1) 1 = some (.b q.nt) := (load_row m1 1).trans (by rw [hr2]; rfl)
 have B4 : load1 F X (c + 1) 4 = some (.b q.beh) := (load_row m1 4).trans (by rw [hr2]; rfl)
 have B5 : load1 F X (c + 1) 5 = some k2 := (load_row m1 5).trans (by rw [hr2]; rfl)
 have B2 : loadN F X (c + 1) 2 1 = some [i2] := by rw [set_same m1, loadN_same _ _ _ _ _ _ (by omega), hr2]; rfl
 have B3 : loadN F X (c + 1) 3 1 = some [o2] := by rw [set_same m1, loadN_same _ _ _ _ _ _ (by omega), hr2]; rfl
 have okX := gX.ok ok
 have a1 := a1.grow gX
 have a2 := a2.grow gX
 have a3 := a3.grow gX
 have b1 := b1.grow gX
 have b2 := b2.grow gX
 have b3 := b3.grow gX
 rw [hfin]
 clear hfin m0 m1 hr1 hr2
 by_cases dj : p.join = q.join
 rotate_left
 · have dj := decide_eq_false dj
   simp only [WX, B47, A0, B0, dj, Bool.false_and]
   exact gX
 have dj := decide_eq_true dj
 cases dn : decide (p.nt = q.nt) with
 | false =>
   simp only [WX, B47, A0, B0, A1, B1, dj, dn, Bool.false_and]
   exact gX
 | true =>
 cases db : decide (p.beh = q.beh) with
 | false =>
   simp only [WX, B47, A0, B0, A1, B1, A4, B4, dj, dn, db, Bool.false_and]
   exact gX
 | true =>
 simp only [WX, B47, A0, B0, A1, B1, A4, B4, A2, B2, dj, dn, db]
 refine putE_to ((w48 Φ h48 h70 okX a1 b1).mono ?_)
 rintro r M2 c2 ⟨rfl, g2⟩
 cases di : decide (p.inp = q.inp) with
 | false =>
   simp only [WX, Bool.false_and]
   exact gX.trans g2
 | true =>
 have A3 : loadN F M2 c 3 1 = some [o1] := (g2.loadN (by omega) _ _).trans A3
 have B3 : loadN F M2 (c + 1) 3 1 = some [o2] := (g2.loadN (by omega) _ _).trans B3
 have A5 : load1 F M2 c 5 = some k1 := (g2.load1 (by omega) _).trans A5
 have B5 : load1 F M2 (c + 1) 5 = some k2 := (g2.load1 (by omega) _).trans B5
 simp only [WX, A3, B3]
 refine putE_to ((w48 Φ h48 h70 (g2.ok okX) (a2.grow g2) (b2.grow g2)).mono ?_)
 rintro r M3 c3 ⟨rfl, g3⟩
 cases d5 : decide (p.out = q.out) with
 | false =>
   simp only [WX, Bool.false_and]
   exact gX.trans (g2.trans g3)
 | true =>
 have hle2 := g2.le
 have A5 : load1 F M3 c 5 = some k1 := (g3.load1 (by omega) _).trans A5
 have B5 : load1 F M3 (c + 1) 5 = some k2 := (g3.load1 (by omega) _).trans B5
 simp only [WX, A5, B5]
 refine putE_to ((w49 Φ h49 h50 h51 h48 h70 ((g2.trans g3).ok okX) (a3.grow (g2.trans g3)) (b3.grow (g2.trans g3))).mono ?_)
 rintro r M4 c4 ⟨rfl, g4⟩
 simp only [WX]
 exact gX.trans ((g2.trans g3).trans g4)
def b46_1 : CC := (.reg [(qq a6 (.mv xF))])
def b46_2 : CC := (.reg [(qq a10 (.mv z0)), (qq a11 (.ln .slice z10)), (qq a12 (.mv z1)), (qq a13 (.ln .slice z12)), (qq a14 (.bi .neq z11 z13))])
def b46_3 : CC := (.reg [(qq a6 (.mv xF))])
def b46_4 : CC := (.seq b46_2 (.cond z14 (.seq b46_3 .ret) .skip))
def b46_5 : CC := (.reg [(qq a15 (.mv z0)), (qq a16 (.ln .slice z15)), (qq a17 (.mv (x6 0)))])
def b46_6 : CC := (.reg [(qq a18 (.bi .lss z17 z16))])
def b46_7 : CC := (.reg [(qq a19 (.mv z17)), (qq a20 (.iaS 6 z15 z17)), (qq a21 (.ldn 6 z20)), (aa a8 (.al 39 [(.i .i64 0), (.b false), .l0, .l0, (.b false), .l0])), (qq a7 (.mv z19)), (ez (.st 6 z8 z21))])
def b46_8 : CC := (.reg [(qq a22 (.mv z1)), (qq a23 (.mv z7)), (qq a24 (.iaS 6 z22 z23)), (qq a25 (.ldn 6 z24)), (aa a9 (.al 39 [(.i .i64 0), (.b false), .l0, .l0, (.b false), .l0])), (ez (.st 6 z9 z25))])
def b46_9 : CC := (.reg [(qq a26 (.mv z2)), (qq a27 (.ldn 6 z8)), (qq a28 (.ldn 6 z9)), (ee a29 (.cv z26 [z27, z28])), (qq a30 (.un .not z29))])
def b46_10 : CC := (.reg [(qq a6 (.mv xF))])
def b46_11 : CC := (.cond z30 (.seq b46_10 .ret) .skip)
def b46_12 : CC := (.reg [(qq a31 (.bi .add z17 (x6 1))), (qq a17 (.mv z31))])
def b46_13 : CC := (.seq (.block 1 (.seq b46_7 (.seq b46_8 (.seq b46_9 b46_11)))) b46_12)
def b46_14 : CC := (.seq (.cond z18 .skip (.exit 0)) b46_13)
def b46_15 : CC := (.reg [(qq a6 (.mv xT))])
def b46_16 : CC := (.seq (.seq b46_5 (.block 0 (.loop (.seq b46_6 b46_14)))) (.seq b46_15 .ret))
def c46 : CF := .mk 6 [.t a6] (.seq b46_1 (.seq b46_4 b46_16))
theorem e46 (v0 v1 v2 : V) : argTr 6 [v0, v1, v2] = (.n (.n sk4 (some v1) sk4) (some v0) (.n sk4 (some v2) sk4)) := rfl
def B46 := ai @e46 (ai (wu b46_1.eq_1) (ai (wu b46_2.eq_1) (ai (wu b46_3.eq_1) (ai (wu b46_4.eq_1) (ai (wu b46_5.eq_1) (ai (wu b46_6.eq_1) (ai (wu b46_7.eq_1) (ai (wu b46_8.eq_1) (ai (wu b46_9.eq_1) (ai (wu b46_10.eq_1) (ai (wu b46_11.eq_1) (ai (wu b46_12.eq_1) (ai (wu b46_13.eq_1) (ai (wu b46_14.eq_1) (ai (wu b46_15.eq_1) (wu b46_16.eq_1))))))))))))))))
def b23_1 : CC := (.reg [(aa a2 (.bx 25 1 z0)), (aa a3 (.bx 25 1 z1)), (qq a4 (.mv xF))])
def b23_2 : CC := (.reg [(qq a5 (.fa 0 z2)), (qq a6 (.ld1 z5)), (qq a7 (.fa 0 z3)), (qq a8 (.ld1 z7)), (ee a9 (.call 46 [z6, z8, (.c (.f 47 [] []))])), (qq a4 (.mv z9))])
def c23 : CF := .mk 4 [.t a4] (.seq b23_1 (.seq b23_2 .ret))
theorem e23 (v0 v1 : V) : argTr 4 [v0, v1] = (.n (.n sk2 (some v1) sk2) (some v0) sk3) := rfl
def B23 := ai @e23 (ai (wu b23_1.eq_1) (wu b23_2.eq_1))
theorem P1.all {F : RO} {M : Mem} {c : Nat} {e : List V} {p : Prt} (h : P1 F M c e p) : allOne e = true := by
 obtain ⟨i1, o1, k1, rfl, a1, a2, a3⟩ := h
 simp only [allOne_cons, allOne_nil, a1.one.1, a2.one.1, a3.one.1, Bool.and_true, Bool.and_self]; rfl
theorem w46 (Φ : Nat → Option CF) (h : Φ 46 = some c46) (h47 : Φ 47 = some c47) (h49 : Φ 49 = some c49) (h50 : Φ 50 = some c50) (h51 : Φ 51 = some c51) (h48 : Φ 48 = some c48) (h70 : Φ 70 = some c70) {F : RO} {M : Mem} {c : Nat} (ok : Okm F M c) {v1 v2 : V} {l1 l2 : List (Prt)} (h1 : LnAt F M c v1 l1) (h2 : LnAt F M c v2 l2) :
  Calls Φ F 46 [v1, v2, .f 47 [] []] M c fun r M' c' => r = .b (decide (l1 = l2)) ∧ Gr c M c' M' := by
 refine calls_walk h ?_
 have n1 := h1.len
 have n2 := h2.len
 have mx1 := h1.max
 have hG : ∀ v, flatten (V.g [v]) = [v] := fun _ => rfl
 by_cases hlen : l1.length = l2.length
 · have d0 : decide (¬ ((l1.length : Int) = (l2.length : Int))) = false := decide_eq_false (by omega)
   simp only [WX, B46, n1, n2, d0]
   obtain ⟨I, hI⟩ : ∃ I : Nat → St → Prop, ∀ n s', I n s' ↔ (∃ (i c1 : Nat) (M1 : Mem) (u : List (Option V)), n = l1.length - i ∧ i ≤ l1.length ∧ s' = .mk ((.n (.n (.n (.n (.n (uv1 u 31) (some (v1)) (uv1 u 47)) (uO u 7) (uv3 u 39 23 55)) (uO u 3) (uv7 u 35 19 51 11 43 27 59)) (some (v2)) (.n (.n (.n (uv1 u 33) (some (.i .i64 (i : Int))) (uv1 u 49)) (uO u 9) (uv3 u 41 25 57)) (uO u 5) (uv7 u 37 21 53 13 45 29 61))) (some (v1)) (.n (.n (.n (.n (uv1 u 32) (some (.i .i64 (l1.length : Int))) (uv1 u 48)) (uO u 8) (uv3 u 40 24 56)) (uO u 4) (uv7 u 36 20 52 12 44 28 60)) (some (.f 47 [] [])) (.n (uv7 u 34 18 50 10 42 26 58) (uO u 6) (uv7 u 38 22 54 14 46 30 62))))) [] M1 c1 ∧ Gr c M c1 M1 ∧ l1.take i = l2.take i) := ⟨fun n s' => _, fun _ _ => Iff.rfl⟩
   refine wp_while I ?_ l1.length _ ((hI _ _).2 ⟨0, _, _, [none, none, none, _, _, _, _, _, _, _, _, _, _, _, _, none, none, none, _, _, _, _, _, _, _, _, _, _, _, _, _, _, _, _, _, _, _, _, _, _, _, _, _, _, _, _, _, _, _, _, _, _, _, _, _, _, _, _, _, _, _, _, _], rfl, Nat.zero_le _, rfl, Gr.refl ok, rfl⟩)
   intro n s' hIs
   obtain ⟨i, c1, M1, u, rfl, hi, rfl, gr1, hpre⟩ := (hI _ _).1 hIs
   clear hIs
   by_cases hlt : i < l1.length
   · have q8 : biV .add (.i .i64 (i : Int)) (.i .i64 1) = some (.i .i64 ((i + 1 : Nat) : Int)) := by rw [i64_add _ _ (by omega) (by omega)]; simp
     have hlt2 : i < l2.length := by omega
     have d1 : decide ((i : Int) < (l1.length : Int)) = true := decide_eq_true (by omega)
     have ok1 := gr1.ok ok
     obtain ⟨b1, o1, e1, hb1, ia1, ld1, el1, r1⟩ := LsAt.at (h1.grow gr1) (by decide) i hlt
     obtain ⟨b2, o2, e2, hb2, ia2, ld2, el2, r2⟩ := LsAt.at (h2.grow gr1) (by decide) i hlt2
     have ia1 := ia1 .i64
     have ia2 := ia2 .i64
     have hov1 : over [V.i .i64 0, .b false, .l0, .l0, .b false, .l0] 0 e1 = e1 := by obtain ⟨_, _, _, rfl, _⟩ := r1; rfl
     have hov2 : over [V.i .i64 0, .b false, .l0, .l0, .b false, .l0] 0 e2 = e2 := by obtain ⟨_, _, _, rfl, _⟩ := r2; rfl
     have g1 : Gr c1 M1 (c1 + 1) (M1.set c1 (rowB 39 e1)) := (Gr.refl ok1).set c1 _ (Nat.le_refl _) (Nat.lt_succ_self _) (Nat.le_succ _)
     have g2 : Gr c1 M1 (c1 + 2) ((M1.set c1 (rowB 39 e1)).set (c1 + 1) (rowB 39 e2)) := g1.set (c1 + 1) _ (by omega) (by omega) (by omega)
     have m0 : ((M1.set c1 (rowB 39 e1)).set (c1 + 1) (rowB 39 e2)).get c1 = some (rowB 39 e1) := by rw [get_ne _ _ (by omega)]; exact get_same _ _ _
     have m1 : ((M1.set c1 (rowB 39 e1)).set (c1 + 1) (rowB 39 e2)).get (c1 + 1) = some (rowB 39 e2) := get_same _ _ _
     have k0 := loadN_row (F := F) m0 6 el1
     have k1 := loadN_row (F := F) m1 6 el2
     have ld2' : loadN F (M1.set c1 (rowB 39 e1)) b2 o2 6 = some e2 := (g1.loadN hb2 _ _).trans ld2
     have hf1 : flatten (V.g e1) = e1 := by rfl
     have hf2 : flatten (V.g e2) = e2 := by rfl
     have ha1 : allOne e1 = true := by first | exact r1.all | exact r2.all
     have ha2 : allOne e2 = true := by first | exact r1.all | exact r2.all
     simp only [WX, Nat.reduceAdd, Nat.reduceLeDiff, B46, d1, ia1, ia2, ld1, ld2', hf1, hf2, ha1, ha2, el1, el2, hov1, hov2, k0, k1]
     generalize (M1.set c1 (rowB 39 e1)).set (c1 + 1) (rowB 39 e2) = X at g2 m0 m1 k0 k1 ⊢
     refine putE_to ((w47 Φ h47 h49 h50 h51 h48 h70 (g2.ok ok1) (P1.grow g2 _ _ r1) (P1.grow g2 _ _ r2)).mono ?_)
     rintro r M2 c2 ⟨rfl, g3⟩
     by_cases he : l1[i] = l2[i]
     · have dd : decide (l1[i] = l2[i]) = true := decide_eq_true he
       simp only [WX, B46, dd, q8]
       exact ⟨l1.length - (i + 1), by omega, (hI _ _).2 ⟨i + 1, _, _, [none, none, none, _, _, _, _, _, _, _, _, _, _, _, _, none, none, none, _, _, _, _, _, _, _, _, _, _, _, _, _, _, _, _, _, _, _, _, _, _, _, _, _, _, _, _, _, _, _, _, _, _, _, _, _, _, _, _, _, _, _, _, _], rfl, hlt, rfl, gr1.trans (g2.trans g3), tk_next hlt hlt2 hpre he⟩⟩
     · have dd : decide (l1[i] = l2[i]) = false := decide_eq_false he
       simp only [WX, B46, dd]
       exact ⟨by rw [decide_eq_false (tk_ne hlt hlt2 he)], gr1.trans (g2.trans g3)⟩
   · obtain rfl : i = l1.length := by omega
     have d1 : decide ((l1.length : Int) < (l1.length : Int)) = false := decide_eq_false (by omega)
     simp only [WX, B46, d1]
     exact ⟨by rw [decide_eq_true (tk_all hlen hpre)], gr1⟩
 · have d0 : decide (¬ ((l1.length : Int) = (l2.length : Int))) = true := decide_eq_true (by omega)
   simp only [WX, B46, n1, n2, d0]
   exact ⟨by rw [decide_eq_false (fun e => hlen (by rw [e]))], Gr.refl ok⟩
theorem w23 (Φ : Nat → Option CF) (h : Φ 23 = some c23) (h46 : Φ 46 = some c46) (h47 : Φ 47 = some c47) (h49 : Φ 49 = some c49) (h50 : Φ 50 = some c50) (h51 : Φ 51 = some c51) (h48 : Φ 48 = some c48) (h70 : Φ 70 = some c70) {F : RO} {M : Mem} {c : Nat} (ok : Okm F M c) {v1 v2 : V} {l1 l2 : List Prt} (h1 : LnAt F M c v1 l1) (h2 : LnAt F M c v2 l2) :
  Calls Φ F 23 [.g [v1], .g [v2]] M c fun r M' c' => r = .b (decide (l1 = l2)) ∧ Gr c M c' M' := by
 refine calls_walk h ?_
 obtain ⟨y1, y2, y3⟩ := h1.one
 obtain ⟨z1, z2, z3⟩ := h2.one
 have hG : ∀ v, flatten (V.g [v]) = [v] := fun _ => rfl
 have gX := ((Gr.refl ok).set c (rowB 25 [v1]) (Nat.le_refl _) (Nat.lt_succ_self _) (Nat.le_succ _)).set (c + 1) (rowB 25 [v2]) (by omega) (show c + 1 < c + 2 by omega) (by omega)
 have m0 : ((M.set c (rowB 25 [v1])).set (c + 1) (rowB 25 [v2])).get c = some (rowB 25 [v1]) := by rw [get_ne _ _ (by omega)]; exact get_same _ _ _
 have m1 : ((M.set c (rowB 25 [v1])).set (c + 1) (rowB 25 [v2])).get (c + 1) = some (rowB 25 [v2]) := get_same _ _ _
 have l0 : load1 F ((M.set c (rowB 25 [v1])).set (c + 1) (rowB 25 [v2])) c 0 = some v1 := load_row m0 0
 have l1' : load1 F ((M.set c (rowB 25 [v1])).set (c + 1) (rowB 25 [v2])) (c + 1) 0 = some v2 := load_row m1 0
 simp only [WX, Nat.reduceAdd, B23, hG, y3, z3, l0, l1']
 generalize (M.set c (rowB 25 [v1])).set (c + 1) (rowB 25 [v2]) = X at gX l0 l1' ⊢
 refine putE_to ((w46 Φ h46 h47 h49 h50 h51 h48 h70 (gX.ok ok) (h1.grow gX) (h2.grow gX)).mono ?_)
 rintro r M' c' ⟨rfl, g⟩
 simp only [WX]
 exact gX.trans g
def b12_1 : CC := (.reg [(aa a2 (.bx 25 1 z0)), (aa a3 (.bx 25 1 z1)), (qq a4 (.mv xF))])
def w12_1 := wu b12_1.eq_1
def b12_2 : CC := (.reg [(qq a12 (.fa 0 z2)), (qq a13 (.ld1 z12)), (qq a14 (.ln .slice z13)), (qq a15 (.fa 0 z3)), (qq a16 (.ld1 z15)), (qq a17 (.ln .slice z16)), (qq a18 (.bi .neq z14 z17))])
def w12_2 := wu b12_2.eq_1
def b12_3 : CC := (.reg [(qq a4 (.mv xF))])
def w12_3 := wu b12_3.eq_1
def b12_4 : CC := (.seq b12_2 (.cond z18 (.seq b12_3 .ret) .skip))
def w12_4 := wu b12_4.eq_1
def b12_5 : CC := (.reg [(qq a5 (.mv (x6 0)))])
def w12_5 := wu b12_5.eq_1
def b12_6 : CC := (.reg [(qq a19 (.mv z5)), (qq a20 (.fa 0 z2)), (qq a21 (.ld1 z20)), (qq a22 (.ln .slice z21)), (qq a23 (.bi .lss z19 z22))])
def w12_6 := wu b12_6.eq_1
def b12_7 : CC := (.seq b12_6 (.cond z23 .skip (.exit 0)))
def w12_7 := wu b12_7.eq_1
def b12_8 : CC := (.dreg 14 [(0, 0, (qq a26 (.fa 0 z2))), (1, 1, (qq a27 (.ld1 z26))), (2, 0, (qq a28 (.mv z5))), (3, 7, (qq a29 (.iaS 6 z27 z28))), (4, 15, (qq a30 (.ldn 6 z29))), (5, 0, (qq a31 (.fa 0 z3))), (6, 32, (qq a32 (.ld1 z31))), (7, 0, (qq a33 (.mv z5))), (8, 224, (qq a34 (.iaS 6 z32 z33))), (9, 480, (qq a35 (.ldn 6 z34))), (10, 0, (aa a6 (.al 39 [(.i .i64 0), (.b false), .l0, .l0, (.b false), .l0]))), (11, 0, (aa a7 (.al 39 [(.i .i64 0), (.b false), .l0, .l0, (.b false), .l0]))), (12, 3103, (ez (.st 6 z6 z30))), (13, 8191, (ez (.st 6 z7 z35)))])
def w12_8 := wu b12_8.eq_1
def b12_9 : CC := (.reg [(qq a36 (.fa 0 z6)), (qq a37 (.ld1 z36)), (qq a38 (.fa 0 z7)), (qq a39 (.ld1 z38)), (qq a40 (.bi .neq z37 z39)), (qq a41 (.mv z40)), ⟨(some a42), .q (.fa 1 z6), (some (a41, false))⟩, ⟨(some a43), .q (.ld1 z42), (some (a41, false))⟩, ⟨(some a44), .q (.fa 1 z7), (some (a41, false))⟩, ⟨(some a45), .q (.ld1 z44), (some (a41, false))⟩, ⟨(some a46), .q (.eq true .bool false z43 z45), (some (a41, false))⟩, (qq a47 (.pk z41 xT z46)), (qq a48 (.mv z47)), ⟨(some a49), .q (.fa 4 z6), (some (a48, false))⟩, ⟨(some a50), .q (.ld1 z49), (some (a48, false))⟩, ⟨(some a51), .q (.fa 4 z7), (some (a48, false))⟩, ⟨(some a52), .q (.ld1 z51), (some (a48, false))⟩, ⟨(some a53), .q (.eq true .bool false z50 z52), (some (a48, false))⟩, (qq a54 (.pk z48 xT z53)), (qq a55 (.mv z54)), ⟨(some a56), .q (.fa 2 z6), (some (a55, false))⟩, ⟨(some a57), .q (.ldn 1 z56), (some (a55, false))⟩, ⟨(some a58), .q (.fa 2 z7), (some (a55, false))⟩, ⟨(some a59), .q (.ldn 1 z58), (some (a55, false))⟩, ⟨(some a60), .e (.call 22 [z57, z59]), (some (a55, false))⟩, ⟨(some a61), .q (.un .not z60), (some (a55, false))⟩, (qq a62 (.pk z55 xT z61)), (qq a63 (.mv z62)), ⟨(some a64), .q (.fa 3 z6), (some (a63, false))⟩, ⟨(some a65), .q (.ldn 1 z64), (some (a63, false))⟩, ⟨(some a66), .q (.fa 3 z7), (some (a63, false))⟩, ⟨(some a67), .q (.ldn 1 z66), (some (a63, false))⟩, ⟨(some a68), .e (.call 22 [z65, z67]), (some (a63, false))⟩, ⟨(some a69), .q (.un .not z68), (some (a63, false))⟩, (qq a70 (.pk z63 xT z69)), (qq a71 (.mv z70)), ⟨(some a72), .q (.fa 5 z6), (some (a71, false))⟩, ⟨(some a73), .q (.ld1 z72), (some (a71, false))⟩, ⟨(some a74), .q (.ln .slice z73), (some (a71, false))⟩, ⟨(some a75), .q (.fa 5 z7), (some (a71, false))⟩, ⟨(some a76), .q (.ld1 z75), (some (a71, false))⟩, ⟨(some a77), .q (.ln .slice z76), (some (a71, false))⟩, ⟨(some a78), .q (.bi .neq z74 z77), (some (a71, false))⟩, (qq a79 (.pk z71 xT z78))])
def w12_9 := wu b12_9.eq_1
def b12_10 : CC := (.reg [(qq a4 (.mv xF))])
def w12_10 := wu b12_10.eq_1
def b12_11 : CC := (.cond z79 (.seq b12_10 .ret) .skip)
def w12_11 := wu b12_11.eq_1
def b12_12 : CC := (.reg [(qq a8 (.mv (x6 0)))])
def w12_12 := wu b12_12.eq_1
def b12_13 : CC := (.reg [(qq a80 (.mv z8)), (qq a81 (.fa 5 z6)), (qq a82 (.ld1 z81)), (qq a83 (.ln .slice z82)), (qq a84 (.bi .lss z80 z83))])
def w12_13 := wu b12_13.eq_1
def b12_14 : CC := (.cond z84 .skip (.exit 2))
def w12_14 := wu b12_14.eq_1
def b12_15 : CC := (.dreg 14 [(0, 0, (qq a87 (.fa 5 z6))), (1, 1, (qq a88 (.ld1 z87))), (2, 0, (qq a89 (.mv z8))), (3, 7, (qq a90 (.iaS 1 z88 z89))), (4, 15, (qq a91 (.fa 0 z90))), (5, 31, (qq a92 (.ld1 z91))), (6, 0, (qq a93 (.fa 5 z7))), (7, 64, (qq a94 (.ld1 z93))), (8, 0, (qq a95 (.mv z8))), (9, 448, (qq a96 (.iaS 1 z94 z95))), (10, 960, (qq a97 (.fa 0 z96))), (11, 1984, (qq a98 (.ld1 z97))), (12, 63, (qq a9 (.mv z92))), (13, 8191, (qq a10 (.mv z98)))])
def w12_15 := wu b12_15.eq_1
def b12_16 : CC := (.reg [(qq a99 (.mv z9)), (qq a100 (.ln .slice z99)), (qq a101 (.mv z10)), (qq a102 (.ln .slice z101)), (qq a103 (.bi .neq z100 z102))])
def w12_16 := wu b12_16.eq_1
def b12_17 : CC := (.reg [(qq a4 (.mv xF))])
def w12_17 := wu b12_17.eq_1
def b12_18 : CC := (.cond z103 (.seq b12_17 .ret) .skip)
def w12_18 := wu b12_18.eq_1
def b12_19 : CC := (.reg [(qq a11 (.mv (x6 0)))])
def w12_19 := wu b12_19.eq_1
def b12_20 : CC := (.reg [(qq a104 (.mv z11)), (qq a105 (.mv z9)), (qq a106 (.ln .slice z105)), (qq a107 (.bi .lss z104 z106))])
def w12_20 := wu b12_20.eq_1
def b12_21 : CC := (.cond z107 .skip (.exit 4))
def w12_21 := wu b12_21.eq_1
def b12_22 : CC := (.dreg 10 [(0, 0, (qq a110 (.mv z9))), (1, 0, (qq a111 (.mv z11))), (2, 3, (qq a112 (.iaS 1 z110 z111))), (3, 7, (qq a113 (.ldn 1 z112))), (4, 0, (qq a114 (.mv z10))), (5, 0, (qq a115 (.mv z11))), (6, 48, (qq a116 (.iaS 1 z114 z115))), (7, 112, (qq a117 (.ldn 1 z116))), (8, 255, (ee a118 (.call 22 [z113, z117]))), (9, 511, (qq a119 (.un .not z118)))])
def w12_22 := wu b12_22.eq_1
def b12_23 : CC := (.reg [(qq a4 (.mv xF))])
def w12_23 := wu b12_23.eq_1
def b12_24 : CC := (.cond z119 (.seq b12_23 .ret) .skip)
def w12_24 := wu b12_24.eq_1
def b12_25 : CC := (.reg [(qq a108 (.mv z11)), (qq a109 (.bi .add z108 (x6 1))), (qq a11 (.mv z109))])
def w12_25 := wu b12_25.eq_1
def b12_26 : CC := (.seq (.seq b12_20 b12_21) (.seq (.block 5 (.seq b12_22 b12_24)) b12_25))
def w12_26 := wu b12_26.eq_1
def b12_27 : CC := (.seq (.seq b12_16 b12_18) (.seq b12_19 (.block 4 (.loop b12_26))))
def w12_27 := wu b12_27.eq_1
def b12_28 : CC := (.reg [(qq a85 (.mv z8)), (qq a86 (.bi .add z85 (x6 1))), (qq a8 (.mv z86))])
def w12_28 := wu b12_28.eq_1
def b12_29 : CC := (.seq (.seq b12_13 b12_14) (.seq (.block 3 (.seq b12_15 b12_27)) b12_28))
def w12_29 := wu b12_29.eq_1
def b12_30 : CC := (.seq (.seq b12_9 b12_11) (.seq b12_12 (.block 2 (.loop b12_29))))
def w12_30 := wu b12_30.eq_1
def b12_31 : CC := (.reg [(qq a24 (.mv z5)), (qq a25 (.bi .add z24 (x6 1))), (qq a5 (.mv z25))])
def w12_31 := wu b12_31.eq_1
def b12_32 : CC := (.loop (.seq b12_7 (.seq (.block 1 (.seq b12_8 b12_30)) b12_31)))
def w12_32 := wu b12_32.eq_1
def b12_33 : CC := (.reg [(qq a4 (.mv xT))])
def w12_33 := wu b12_33.eq_1
def b12_34 : CC := (.seq b12_4 (.seq (.seq b12_5 (.block 0 b12_32)) (.seq b12_33 .ret)))
def w12_34 := wu b12_34.eq_1
def c12 : CF := .mk 7 [.t a4] (.seq b12_1 b12_34)
theorem e12 (v0 v1 : V) : argTr 7 [v0, v1] = (.n (.n sk5 (some v1) sk5) (some v0) sk6) := rfl
def B12 := ai @e12 (ai @w12_1 (ai @w12_2 (ai @w12_3 (ai @w12_4 (ai @w12_5 (ai @w12_6 (ai @w12_7 (ai @w12_8 (ai @w12_9 (ai @w12_10 (ai @w12_11 (ai @w12_12 (ai @w12_13 (ai @w12_14 (ai @w12_15 (ai @w12_16 (ai @w12_17 (ai @w12_18 (ai @w12_19 (ai @w12_20 (ai @w12_21 (ai @w12_22 (ai @w12_23 (ai @w12_24 (ai @w12_25 (ai @w12_26 (ai @w12_27 (ai @w12_28 (ai @w12_29 (ai @w12_30 (ai @w12_31 (ai @w12_32 (ai @w12_33 (@w12_34))))))))))))))))))))))))))))))))))
theorem LsAt.at1 {α : Type} {F : RO} {R : Mem → Nat → V → α → Prop} {M : Mem} {c : Nat} {v : V} {l : List α} (h : LsAt F (fun M c e a => ∃ x, e = [x] ∧ R M c x a) 1 M c v l) (i : Nat) (hi : i < l.length) :
  ∃ b o x, b < c ∧ (∀ k, iaSV 1 v (.i k (i : Int)) = some (.p b o)) ∧ load1 F M b o = some x ∧ loadN F M b o 1 = some [x] ∧ R M c x l[i] := by
 obtain ⟨es, h1, h2, h3, h4⟩ := h
 obtain ⟨b, o, a1, a2, a3⟩ := h1.at i (by omega)
 obtain ⟨x, hx, hr⟩ := h4 i (by omega) hi
 rw [hx] at a3
 have a0 := a3 0 (by simp)
 exact ⟨b, o, x, a1, a2, a0, a3.load (by simp), hr⟩
theorem e12w (Φ : Nat → Option CF) (h22 : Φ 22 = some c22) {F : RO} {M : Mem} {c1 pc pd pa pb : Nat} {iv kv : V} (ok : Okm F M c1) {v1 v2 : V} {l1 l2 : List (List Pc)} (h1 : CmAt F M c1 v1 l1) (h2 : CmAt F M c1 v2 l2) (u : List (Option V)) (Q : Ex → St → Prop)
  (hT : l1 = l2 → ∀ (u : List (Option V)) M' c', Gr c1 M c' M' → Q .nrm (.mk ((.n (.n (.n (.n (uv7 u 63 31 95 15 79 47 111) (some (.p pb 0)) (uv7 u 71 39 103 23 87 55 119)) (some (.p pd 0)) (.n (uv7 u 67 35 99 19 83 51 115) (uO u 11) (uv7 u 75 43 107 27 91 59 123))) (uO u 1) (.n (.n (uv7 u 65 33 97 17 81 49 113) (uO u 9) (uv7 u 73 41 105 25 89 57 121)) (some (iv)) (.n (uv7 u 69 37 101 21 85 53 117) (uO u 13) (uv7 u 77 45 109 29 93 61 125)))) (uO u 0) (.n (.n (.n (uv7 u 64 32 96 16 80 48 112) (some (kv)) (uv7 u 72 40 104 24 88 56 120)) (uO u 4) (.n (uv7 u 68 36 100 20 84 52 116) (uO u 12) (uv7 u 76 44 108 28 92 60 124))) (some (.p pc 0)) (.n (.n (uv7 u 66 34 98 18 82 50 114) (uO u 10) (uv7 u 74 42 106 26 90 58 122)) (some (.p pa 0)) (.n (uv7 u 70 38 102 22 86 54 118) (uO u 14) (uv7 u 78 46 110 30 94 62 126)))))) [] M' c'))
  (hF : l1 ≠ l2 → ∀ (u : List (Option V)) M' c', Gr c1 M c' M' → Q .ret (.mk ((.n (.n (.n (.n (uv7 u 63 31 95 15 79 47 111) (uO u 7) (uv7 u 71 39 103 23 87 55 119)) (uO u 3) (.n (uv7 u 67 35 99 19 83 51 115) (uO u 11) (uv7 u 75 43 107 27 91 59 123))) (uO u 1) (.n (.n (uv7 u 65 33 97 17 81 49 113) (uO u 9) (uv7 u 73 41 105 25 89 57 121)) (uO u 5) (.n (uv7 u 69 37 101 21 85 53 117) (uO u 13) (uv7 u 77 45 109 29 93 61 125)))) (uO u 0) (.n (.n (.n (uv7 u 64 32 96 16 80 48 112) (uO u 8) (uv7 u 72 40 104 24 88 56 120)) (some (.b false)) (.n (uv7 u 68 36 100 20 84 52 116) (uO u 12) (uv7 u 76 44 108 28 92 60 124))) (uO u 2) (.n (.n (uv7 u 66 34 98 18 82 50 114) (uO u 10) (uv7 u 74 42 106 26 90 58 122)) (uO u 6) (.n (uv7 u 70 38 102 22 86 54 118) (uO u 14) (uv7 u 78 46 110 30 94 62 126)))))) [] M' c')) :
  Wp b12_27 (K Φ none 12 F) (.mk ((.n (.n (.n (.n (uv7 u 63 31 95 15 79 47 111) (some (.p pb 0)) (uv7 u 71 39 103 23 87 55 119)) (some (.p pd 0)) (.n (uv7 u 67 35 99 19 83 51 115) (uO u 11) (uv7 u 75 43 107 27 91 59 123))) (uO u 1) (.n (.n (uv7 u 65 33 97 17 81 49 113) (some (v1)) (uv7 u 73 41 105 25 89 57 121)) (some (iv)) (.n (uv7 u 69 37 101 21 85 53 117) (uO u 13) (uv7 u 77 45 109 29 93 61 125)))) (uO u 0) (.n (.n (.n (uv7 u 64 32 96 16 80 48 112) (some (kv)) (uv7 u 72 40 104 24 88 56 120)) (uO u 4) (.n (uv7 u 68 36 100 20 84 52 116) (uO u 12) (uv7 u 76 44 108 28 92 60 124))) (some (.p pc 0)) (.n (.n (uv7 u 66 34 98 18 82 50 114) (some (v2)) (uv7 u 74 42 106 26 90 58 122)) (some (.p pa 0)) (.n (uv7 u 70 38 102 22 86 54 118) (uO u 14) (uv7 u 78 46 110 30 94 62 126)))))) [] M c1) Q := by
 have n1 := h1.len
 have n2 := h2.len
 have mx1 := h1.max
 by_cases hlen : l1.length = l2.length
 · have d0 : decide (¬ ((l1.length : Int) = (l2.length : Int))) = false := decide_eq_false (by omega)
   simp only [WX, w12_16, w12_18, w12_19, w12_27, n1, n2, d0]
   obtain ⟨I, hI⟩ : ∃ I : Nat → St → Prop, ∀ n s', I n s' ↔ (∃ (i c2 : Nat) (M1 : Mem) (u : List (Option V)), n = l1.length - i ∧ i ≤ l1.length ∧ s' = .mk ((.n (.n (.n (.n (uv7 u 63 31 95 15 79 47 111) (some (.p pb 0)) (uv7 u 71 39 103 23 87 55 119)) (some (.p pd 0)) (.n (uv7 u 67 35 99 19 83 51 115) (some (.i .i64 (i : Int))) (uv7 u 75 43 107 27 91 59 123))) (uO u 1) (.n (.n (uv7 u 65 33 97 17 81 49 113) (some (v1)) (uv7 u 73 41 105 25 89 57 121)) (some (iv)) (.n (uv7 u 69 37 101 21 85 53 117) (uO u 13) (uv7 u 77 45 109 29 93 61 125)))) (uO u 0) (.n (.n (.n (uv7 u 64 32 96 16 80 48 112) (some (kv)) (uv7 u 72 40 104 24 88 56 120)) (uO u 4) (.n (uv7 u 68 36 100 20 84 52 116) (uO u 12) (uv7 u 76 44 108 28 92 60 124))) (some (.p pc 0)) (.n (.n (uv7 u 66 34 98 18 82 50 114) (some (v2)) (uv7 u 74 42 106 26 90 58 122)) (some (.p pa 0)) (.n (uv7 u 70 38 102 22 86 54 118) (uO u 14) (uv7 u 78 46 110 30 94 62 126)))))) [] M1 c2 ∧ Gr c1 M c2 M1 ∧ l1.take i = l2.take i) := ⟨fun n s' => _, fun _ _ => Iff.rfl⟩
   refine wp_while I ?_ l1.length _ ((hI _ _).2 ⟨0, _, _, [_, _, none, none, _, none, none, none, none, none, none, none, _, _, _, _, _, _, _, _, _, _, _, _, _, _, _, _, _, _, _, _, _, _, _, _, _, _, _, _, _, _, _, _, _, _, _, _, _, _, _, _, _, _, _, _, _, _, _, _, _, _, _, _, _, _, _, _, _, _, _, _, _, _, _, _, _, _, _, _, _, _, _, _, _, _, _, _, _, _, _, _, _, _, _, _, _, _, _, _, _, _, _, _, _, _, _, _, _, _, _, _, _, _, _, _, _, _, _, _, _, _, _, _, _, _, _], rfl, Nat.zero_le _, rfl, Gr.refl ok, rfl⟩)
   intro n s' hIs
   obtain ⟨i, c2, M1, u, rfl, hi, rfl, gr1, hpre⟩ := (hI _ _).1 hIs
   clear hIs
   by_cases hlt : i < l1.length
   · have q8 : biV .add (.i .i64 (i : Int)) (.i .i64 1) = some (.i .i64 ((i + 1 : Nat) : Int)) := by rw [i64_add _ _ (by omega) (by omega)]; simp
     have hlt2 : i < l2.length := by omega
     have d1 : decide ((i : Int) < (l1.length : Int)) = true := decide_eq_true (by omega)
     have ok1 := gr1.ok ok
     obtain ⟨b1, o1, x1, hb1, ia1, _, ld1, w1⟩ := LsAt.at1 (h1.grow gr1) i hlt
     obtain ⟨b2, o2, x2, hb2, ia2, _, ld2, w2⟩ := LsAt.at1 (h2.grow gr1) i hlt2
     have ia1 := ia1 .i64
     have ia2 := ia2 .i64
     have hfr := ok1.free
     have gX : Gr c2 M1 (c2 + 10) M1 := (Gr.refl ok1).up (by omega)
     simp only [WX, Nat.reducePow, Nat.reduceDiv, Nat.reduceMod, Nat.reduceBEq, wd_e1, B12, n1, d1, ia1, ia2, ld1, ld2, wd_e1]
     refine putDE_to ((w22 Φ h22 (gX.ok ok1) (w1.grow gX) (w2.grow gX)).mono ?_)
     rintro r M2 c3 ⟨rfl, g2⟩
     have gT := gX.trans g2
     refine ⟨(gT.ok ok1).free, ?_⟩
     by_cases he : l1[i] = l2[i]
     · have dd : decide (l1[i] = l2[i]) = true := decide_eq_true he
       simp only [WX, B12, dd, q8]
       exact ⟨l1.length - (i + 1), by omega, (hI _ _).2 ⟨i + 1, _, _, [_, _, none, none, _, none, none, none, none, none, none, none, _, _, _, _, _, _, _, _, _, _, _, _, _, _, _, _, _, _, _, _, _, _, _, _, _, _, _, _, _, _, _, _, _, _, _, _, _, _, _, _, _, _, _, _, _, _, _, _, _, _, _, _, _, _, _, _, _, _, _, _, _, _, _, _, _, _, _, _, _, _, _, _, _, _, _, _, _, _, _, _, _, _, _, _, _, _, _, _, _, _, _, _, _, _, _, _, _, _, _, _, _, _, _, _, _, _, _, _, _, _, _, _, _, _, _], rfl, hlt, rfl, gr1.trans gT, tk_next hlt hlt2 hpre he⟩⟩
     · have dd : decide (l1[i] = l2[i]) = false := decide_eq_false he
       simp only [WX, B12, dd]
       exact hF (tk_ne hlt hlt2 he) [_, _, _, _, none, _, _, _, _, _, _, _, _, _, _, _, _, _, _, _, _, _, _, _, _, _, _, _, _, _, _, _, _, _, _, _, _, _, _, _, _, _, _, _, _, _, _, _, _, _, _, _, _, _, _, _, _, _, _, _, _, _, _, _, _, _, _, _, _, _, _, _, _, _, _, _, _, _, _, _, _, _, _, _, _, _, _, _, _, _, _, _, _, _, _, _, _, _, _, _, _, _, _, _, _, _, _, _, _, _, _, _, _, _, _, _, _, _, _, _, _, _, _, _, _, _, _] _ _ (gr1.trans gT)
   · obtain rfl : i = l1.length := by omega
     have d1 : decide ((l1.length : Int) < (l1.length : Int)) = false := decide_eq_false (by omega)
     simp only [WX, B12, n1, d1]
     exact hT (tk_all hlen hpre) [_, _, none, none, _, none, none, none, none, _, _, _, _, _, _, _, _, _, _, _, _, _, _, _, _, _, _, _, _, _, _, _, _, _, _, _, _, _, _, _, _, _, _, _, _, _, _, _, _, _, _, _, _, _, _, _, _, _, _, _, _, _, _, _, _, _, _, _, _, _, _, _, _, _, _, _, _, _, _, _, _, _, _, _, _, _, _, _, _, _, _, _, _, _, _, _, _, _, _, _, _, _, _, _, _, _, _, _, _, _, _, _, _, _, _, _, _, _, _, _, _, _, _, _, _, _, _] _ _ gr1
 · have d0 : decide (¬ ((l1.length : Int) = (l2.length : Int))) = true := decide_eq_true (by omega)
   simp only [WX, B12, n1, n2, d0]
   exact hF (fun e => hlen (by rw [e])) [_, _, _, _, none, _, _, _, _, _, _, _, _, _, _, _, _, _, _, _, _, _, _, _, _, _, _, _, _, _, _, _, _, _, _, _, _, _, _, _, _, _, _, _, _, _, _, _, _, _, _, _, _, _, _, _, _, _, _, _, _, _, _, _, _, _, _, _, _, _, _, _, _, _, _, _, _, _, _, _, _, _, _, _, _, _, _, _, _, _, _, _, _, _, _, _, _, _, _, _, _, _, _, _, _, _, _, _, _, _, _, _, _, _, _, _, _, _, _, _, _, _, _, _, _, _, _] _ _ (Gr.refl ok)
theorem e12c (Φ : Nat → Option CF) (h22 : Φ 22 = some c22) {F : RO} {M : Mem} {c1 pc pd pa pb : Nat} {iv : V} (ok : Okm F M c1) {r1 r2 : List V} {p q : Prt} (h1 : P1 F M c1 r1 p) (h2 : P1 F M c1 r2 q) (ma : M.get pa = some (rowB 39 r1)) (mb : M.get pb = some (rowB 39 r2)) (ha : pa < c1) (hb : pb < c1) (u : List (Option V)) (Q : Ex → St → Prop)
  (hT : p = q → ∀ (u : List (Option V)) M' c', Gr c1 M c' M' → Q .nrm (.mk ((.n (.n (.n (.n (uv7 u 63 31 95 15 79 47 111) (uO u 7) (uv7 u 71 39 103 23 87 55 119)) (some (.p pd 0)) (.n (uv7 u 67 35 99 19 83 51 115) (uO u 11) (uv7 u 75 43 107 27 91 59 123))) (uO u 1) (.n (.n (uv7 u 65 33 97 17 81 49 113) (uO u 9) (uv7 u 73 41 105 25 89 57 121)) (some (iv)) (.n (uv7 u 69 37 101 21 85 53 117) (uO u 13) (uv7 u 77 45 109 29 93 61 125)))) (uO u 0) (.n (.n (.n (uv7 u 64 32 96 16 80 48 112) (uO u 8) (uv7 u 72 40 104 24 88 56 120)) (uO u 4) (.n (uv7 u 68 36 100 20 84 52 116) (uO u 12) (uv7 u 76 44 108 28 92 60 124))) (some (.p pc 0)) (.n (.n (uv7 u 66 34 98 18 82 50 114) (uO u 10) (uv7 u 74 42 106 26 90 58 122)) (uO u 6) (.n (uv7 u 70 38 102 22 86 54 118) (uO u 14) (uv7 u 78 46 110 30 94 62 126)))))) [] M' c'))
  (hF : p ≠ q → ∀ (u : List (Option V)) M' c', Gr c1 M c' M' → Q .ret (.mk ((.n (.n (.n (.n (uv7 u 63 31 95 15 79 47 111) (uO u 7) (uv7 u 71 39 103 23 87 55 119)) (uO u 3) (.n (uv7 u 67 35 99 19 83 51 115) (uO u 11) (uv7 u 75 43 107 27 91 59 123))) (uO u 1) (.n (.n (uv7 u 65 33 97 17 81 49 113) (uO u 9) (uv7 u 73 41 105 25 89 57 121)) (uO u 5) (.n (uv7 u 69 37 101 21 85 53 117) (uO u 13) (uv7 u 77 45 109 29 93 61 125)))) (uO u 0) (.n (.n (.n (uv7 u 64 32 96 16 80 48 112) (uO u 8) (uv7 u 72 40 104 24 88 56 120)) (some (.b false)) (.n (uv7 u 68 36 100 20 84 52 116) (uO u 12) (uv7 u 76 44 108 28 92 60 124))) (uO u 2) (.n (.n (uv7 u 66 34 98 18 82 50 114) (uO u 10) (uv7 u 74 42 106 26 90 58 122)) (uO u 6) (.n (uv7 u 70 38 102 22 86 54 118) (uO u 14) (uv7 u 78 46 110 30 94 62 126)))))) [] M' c')) :
  Wp b12_30 (K Φ none 12 F) (.mk ((.n (.n (.n (.n (uv7 u 63 31 95 15 79 47 111) (some (.p pb 0)) (uv7 u 71 39 103 23 87 55 119)) (some (.p pd 0)) (.n (uv7 u 67 35 99 19 83 51 115) (uO u 11) (uv7 u 75 43 107 27 91 59 123))) (uO u 1) (.n (.n (uv7 u 65 33 97 17 81 49 113) (uO u 9) (uv7 u 73 41 105 25 89 57 121)) (some (iv)) (.n (uv7 u 69 37 101 21 85 53 117) (uO u 13) (uv7 u 77 45 109 29 93 61 125)))) (uO u 0) (.n (.n (.n (uv7 u 64 32 96 16 80 48 112) (uO u 8) (uv7 u 72 40 104 24 88 56 120)) (uO u 4) (.n (uv7 u 68 36 100 20 84 52 116) (uO u 12) (uv7 u 76 44 108 28 92 60 124))) (some (.p pc 0)) (.n (.n (uv7 u 66 34 98 18 82 50 114) (uO u 10) (uv7 u 74 42 106 26 90 58 122)) (some (.p pa 0)) (.n (uv7 u 70 38 102 22 86 54 118) (uO u 14) (uv7 u 78 46 110 30 94 62 126)))))) [] M c1) Q := by
 obtain ⟨i1, o1, k1, hr1, a1, a2, a3⟩ := h1
 obtain ⟨i2, o2, k2, hr2, b1, b2, b3⟩ := h2
 have L1 : r1.length = 6 := by rw [hr1]; rfl
 have L2 : r2.length = 6 := by rw [hr2]; rfl
 have A0 : load1 F M pa 0 = some (.i .i64 p.join) := (load_row ma 0).trans (by rw [hr1]; rfl)
 have A1 : load1 F M pa 1 = some (.b p.nt) := (load_row ma 1).trans (by rw [hr1]; rfl)
 have A4 : load1 F M pa 4 = some (.b p.beh) := (load_row ma 4).trans (by rw [hr1]; rfl)
 have A5 : load1 F M pa 5 = some k1 := (load_row ma 5).trans (by rw [hr1]; rfl)
 have A2 : loadN F M pa 2 1 = some [i1] := by rw [set_same ma, loadN_same _ _ _ _ _ _ (by omega), hr1]; rfl
 have A3 : loadN F M pa 3 1 = some [o1] := by rw [set_same ma, loadN_same _ _ _ _ _ _ (by omega), hr1]; rfl
 have B0 : load1 F M pb 0 = some (.i .i64 q.join) := (load_row mb 0).trans (by rw [hr2]; rfl)
 have B1 : load1 F M pb 1 = some (.b q.nt) := (load_row mb 1).trans (by rw [hr2]; rfl)
 have B4 : load1 F M pb 4 = some (.b q.beh) := (load_row mb 4).trans (by rw [hr2]; rfl)
 have B5 : load1 F M pb 5 = some k2 := (load_row mb 5).trans (by rw [hr2]; rfl)
 have B2 : loadN F M pb 2 1 = some [i2] := by rw [set_same mb, loadN_same _ _ _ _ _ _ (by omega), hr2]; rfl
 have B3 : loadN F M pb 3 1 = some [o2] := by rw [set_same mb, loadN_same _ _ _ _ _ _ (by omega), hr2]; rfl
 clear ma mb hr1 hr2 L1 L2
 by_cases dj : p.join = q.join
 rotate_left
 · have dj' : decide (¬ (p.join = q.join)) = true := decide_eq_true dj
   simp only [WX, w12_9, w12_10, w12_11, w12_30, A0, B0, dj']
   exact hF (fun e => dj (by rw [e])) [_, _, _, _, none, _, _, _, _, _, _, _, _, _, _, _, _, _, _, _, _, _, _, _, _, _, _, _, _, _, _, _, _, _, _, _, _, _, _, _, _, _, _, _, _, _, _, _, _, _, _, _, _, _, _, _, _, _, _, _, _, _, _, _, _, _, _, _, _, _, _, _, _, _, _, _, _, _, _, _, _, _, _, _, _, _, _, _, _, _, _, _, _, _, _, _, _, _, _, _, _, _, _, _, _, _, _, _, _, _, _, _, _, _, _, _, _, _, _, _, _, _, _, _, _, _, _] _ _ (Gr.refl ok)
 have dj' : decide (¬ (p.join = q.join)) = false := decide_eq_false (fun h => h dj)
 by_cases dn : p.nt = q.nt
 rotate_left
 · have dn' : decide (p.nt = q.nt) = false := decide_eq_false dn
   simp only [WX, w12_9, w12_10, w12_11, w12_30, A0, B0, A1, B1, dj', dn']
   exact hF (fun e => dn (by rw [e])) [_, _, _, _, none, _, _, _, _, _, _, _, _, _, _, _, _, _, _, _, _, _, _, _, _, _, _, _, _, _, _, _, _, _, _, _, _, _, _, _, _, _, _, _, _, _, _, _, _, _, _, _, _, _, _, _, _, _, _, _, _, _, _, _, _, _, _, _, _, _, _, _, _, _, _, _, _, _, _, _, _, _, _, _, _, _, _, _, _, _, _, _, _, _, _, _, _, _, _, _, _, _, _, _, _, _, _, _, _, _, _, _, _, _, _, _, _, _, _, _, _, _, _, _, _, _, _] _ _ (Gr.refl ok)
 have dn' : decide (p.nt = q.nt) = true := decide_eq_true dn
 by_cases db : p.beh = q.beh
 rotate_left
 · have db' : decide (p.beh = q.beh) = false := decide_eq_false db
   simp only [WX, w12_9, w12_10, w12_11, w12_30, A0, B0, A1, B1, A4, B4, dj', dn', db']
   exact hF (fun e => db (by rw [e])) [_, _, _, _, none, _, _, _, _, _, _, _, _, _, _, _, _, _, _, _, _, _, _, _, _, _, _, _, _, _, _, _, _, _, _, _, _, _, _, _, _, _, _, _, _, _, _, _, _, _, _, _, _, _, _, _, _, _, _, _, _, _, _, _, _, _, _, _, _, _, _, _, _, _, _, _, _, _, _, _, _, _, _, _, _, _, _, _, _, _, _, _, _, _, _, _, _, _, _, _, _, _, _, _, _, _, _, _, _, _, _, _, _, _, _, _, _, _, _, _, _, _, _, _, _, _, _] _ _ (Gr.refl ok)
 have db' : decide (p.beh = q.beh) = true := decide_eq_true db
 simp only [WX, w12_9, w12_30, A0, B0, A1, B1, A4, B4, A2, B2, dj', dn', db']
 refine putE_to ((w22 Φ h22 ok a1 b1).mono ?_)
 rintro r M2 c2 ⟨rfl, g2⟩
 have hle2 := g2.le
 have A3 : loadN F M2 pa 3 1 = some [o1] := (g2.loadN (by omega) _ _).trans A3
 have B3 : loadN F M2 pb 3 1 = some [o2] := (g2.loadN (by omega) _ _).trans B3
 have A5 : load1 F M2 pa 5 = some k1 := (g2.load1 (by omega) _).trans A5
 have B5 : load1 F M2 pb 5 = some k2 := (g2.load1 (by omega) _).trans B5
 by_cases di : p.inp = q.inp
 rotate_left
 · have di' : decide (p.inp = q.inp) = false := decide_eq_false di
   simp only [WX, w12_10, w12_11, di']
   exact hF (fun e => di (by rw [e])) [_, _, _, _, none, _, _, _, _, _, _, _, _, _, _, _, _, _, _, _, _, _, _, _, _, _, _, _, _, _, _, _, _, _, _, _, _, _, _, _, _, _, _, _, _, _, _, _, _, _, _, _, _, _, _, _, _, _, _, _, _, _, _, _, _, _, _, _, _, _, _, _, _, _, _, _, _, _, _, _, _, _, _, _, _, _, _, _, _, _, _, _, _, _, _, _, _, _, _, _, _, _, _, _, _, _, _, _, _, _, _, _, _, _, _, _, _, _, _, _, _, _, _, _, _, _, _] _ _ g2
 have di' : decide (p.inp = q.inp) = true := decide_eq_true di
 simp only [WX, A3, B3, di']
 have ok2 := g2.ok ok
 refine putE_to ((w22 Φ h22 ok2 (a2.grow g2) (b2.grow g2)).mono ?_)
 rintro r M3 c3 ⟨rfl, g3⟩
 have hle3 := g3.le
 have A5 : load1 F M3 pa 5 = some k1 := (g3.load1 (by omega) _).trans A5
 have B5 : load1 F M3 pb 5 = some k2 := (g3.load1 (by omega) _).trans B5
 have g23 := g2.trans g3
 have ok3 := g3.ok ok2
 by_cases d5 : p.out = q.out
 rotate_left
 · have d5' : decide (p.out = q.out) = false := decide_eq_false d5
   simp only [WX, w12_10, w12_11, d5']
   exact hF (fun e => d5 (by rw [e])) [_, _, _, _, none, _, _, _, _, _, _, _, _, _, _, _, _, _, _, _, _, _, _, _, _, _, _, _, _, _, _, _, _, _, _, _, _, _, _, _, _, _, _, _, _, _, _, _, _, _, _, _, _, _, _, _, _, _, _, _, _, _, _, _, _, _, _, _, _, _, _, _, _, _, _, _, _, _, _, _, _, _, _, _, _, _, _, _, _, _, _, _, _, _, _, _, _, _, _, _, _, _, _, _, _, _, _, _, _, _, _, _, _, _, _, _, _, _, _, _, _, _, _, _, _, _, _] _ _ g23
 have d5' : decide (p.out = q.out) = true := decide_eq_true d5
 have a3 := a3.grow g23
 have b3 := b3.grow g23
 have n1 := a3.len
 have n2 := b3.len
 have mx1 := a3.max
 by_cases hlen : p.cmds.length = q.cmds.length
 rotate_left
 · have d0 : decide (¬ ((p.cmds.length : Int) = (q.cmds.length : Int))) = true := decide_eq_true (by omega)
   simp only [WX, w12_10, w12_11, A5, B5, n1, n2, d0, d5']
   exact hF (fun e => hlen (by rw [e])) [_, _, _, _, none, _, _, _, _, _, _, _, _, _, _, _, _, _, _, _, _, _, _, _, _, _, _, _, _, _, _, _, _, _, _, _, _, _, _, _, _, _, _, _, _, _, _, _, _, _, _, _, _, _, _, _, _, _, _, _, _, _, _, _, _, _, _, _, _, _, _, _, _, _, _, _, _, _, _, _, _, _, _, _, _, _, _, _, _, _, _, _, _, _, _, _, _, _, _, _, _, _, _, _, _, _, _, _, _, _, _, _, _, _, _, _, _, _, _, _, _, _, _, _, _, _, _] _ _ g23
 have d0 : decide (¬ ((p.cmds.length : Int) = (q.cmds.length : Int))) = false := decide_eq_false (by omega)
 have hnx : ∀ {l : List (List (List Pc))}, p.cmds = q.cmds → p = q := fun hc => prt_eq.2 ⟨dj, dn, db, di, d5, hc⟩
 simp only [WX, w12_11, w12_12, A5, B5, n1, n2, d0, d5']
 obtain ⟨I, hI⟩ : ∃ I : Nat → St → Prop, ∀ n s', I n s' ↔ (∃ (i c4 : Nat) (M1 : Mem) (u : List (Option V)), n = p.cmds.length - i ∧ i ≤ p.cmds.length ∧ s' = .mk ((.n (.n (.n (.n (uv7 u 63 31 95 15 79 47 111) (some (.p pb 0)) (uv7 u 71 39 103 23 87 55 119)) (some (.p pd 0)) (.n (uv7 u 67 35 99 19 83 51 115) (uO u 11) (uv7 u 75 43 107 27 91 59 123))) (uO u 1) (.n (.n (uv7 u 65 33 97 17 81 49 113) (uO u 9) (uv7 u 73 41 105 25 89 57 121)) (some (iv)) (.n (uv7 u 69 37 101 21 85 53 117) (uO u 13) (uv7 u 77 45 109 29 93 61 125)))) (uO u 0) (.n (.n (.n (uv7 u 64 32 96 16 80 48 112) (some (.i .i64 (i : Int))) (uv7 u 72 40 104 24 88 56 120)) (uO u 4) (.n (uv7 u 68 36 100 20 84 52 116) (uO u 12) (uv7 u 76 44 108 28 92 60 124))) (some (.p pc 0)) (.n (.n (uv7 u 66 34 98 18 82 50 114) (uO u 10) (uv7 u 74 42 106 26 90 58 122)) (some (.p pa 0)) (.n (uv7 u 70 38 102 22 86 54 118) (uO u 14) (uv7 u 78 46 110 30 94 62 126)))))) [] M1 c4 ∧ Gr c3 M3 c4 M1 ∧ p.cmds.take i = q.cmds.take i) := ⟨fun n s' => _, fun _ _ => Iff.rfl⟩
 refine wp_while I ?_ p.cmds.length _ ((hI _ _).2 ⟨0, _, _, [_, _, none, none, _, none, none, none, none, _, _, _, _, _, _, _, _, _, _, _, _, _, _, _, _, _, _, _, _, _, _, _, _, _, _, _, _, _, _, _, _, _, _, _, _, _, _, _, _, _, _, _, _, _, _, _, _, _, _, _, _, _, _, _, _, _, _, _, _, _, _, _, _, _, _, _, _, _, _, _, _, _, _, _, _, _, _, _, _, _, _, _, _, _, _, _, _, _, _, _, _, _, _, _, _, _, _, _, _, _, _, _, _, _, _, _, _, _, _, _, _, _, _, _, _, _, _], rfl, Nat.zero_le _, rfl, Gr.refl ok3, rfl⟩)
 intro n s' hIs
 obtain ⟨i, c4, M1, u, rfl, hi, rfl, gr1, hpre⟩ := (hI _ _).1 hIs
 clear hIs
 have A5 : load1 F M1 pa 5 = some k1 := (gr1.load1 (by omega) _).trans A5
 have B5 : load1 F M1 pb 5 = some k2 := (gr1.load1 (by omega) _).trans B5
 by_cases hlt : i < p.cmds.length
 · have q8 : biV .add (.i .i64 (i : Int)) (.i .i64 1) = some (.i .i64 ((i + 1 : Nat) : Int)) := by rw [i64_add _ _ (by omega) (by omega)]; simp
   have hlt2 : i < q.cmds.length := by omega
   have d1 : decide ((i : Int) < (p.cmds.length : Int)) = true := decide_eq_true (by omega)
   have ok4 := gr1.ok ok3
   obtain ⟨x1, y1, z1, hb1, ia1, ld1, _, w1⟩ := LsAt.at1 (a3.grow gr1) i hlt
   obtain ⟨x2, y2, z2, hb2, ia2, ld2, _, w2⟩ := LsAt.at1 (b3.grow gr1) i hlt2
   have ia1 := ia1 .i64
   have ia2 := ia2 .i64
   have hfr := ok4.free
   have gX : Gr c4 M1 (c4 + 14) M1 := (Gr.refl ok4).up (by omega)
   simp only [WX, w12_13, w12_14, w12_15, w12_29, A5, B5, n1, d1, ia1, ia2, ld1, ld2, Nat.add_zero]
   refine e12w Φ h22 (gX.ok ok4) (w1.grow gX) (w2.grow gX) [_, _, none, none, _, none, none, none, none, none, none, _, _, _, _, _, _, _, _, _, _, _, _, _, _, _, _, _, _, _, _, _, _, _, _, _, _, _, _, _, _, _, _, _, _, _, _, _, _, _, _, _, _, _, _, _, _, _, _, _, _, _, _, _, _, _, _, _, _, _, _, _, _, _, _, _, _, _, _, _, _, _, _, _, _, _, _, _, _, _, _, _, _, _, _, _, _, _, _, _, _, _, _, _, _, _, _, _, _, _, _, _, _, _, _, _, _, _, _, _, _, _, _, _, _, _, _] _ ?_ ?_
   · intro he u M' c' g
     simp only [WX, B12, q8]
     exact ⟨p.cmds.length - (i + 1), by omega, (hI _ _).2 ⟨i + 1, _, _, [_, _, none, none, _, none, none, none, none, _, _, _, _, _, _, _, _, _, _, _, _, _, _, _, _, _, _, _, _, _, _, _, _, _, _, _, _, _, _, _, _, _, _, _, _, _, _, _, _, _, _, _, _, _, _, _, _, _, _, _, _, _, _, _, _, _, _, _, _, _, _, _, _, _, _, _, _, _, _, _, _, _, _, _, _, _, _, _, _, _, _, _, _, _, _, _, _, _, _, _, _, _, _, _, _, _, _, _, _, _, _, _, _, _, _, _, _, _, _, _, _, _, _, _, _, _, _], rfl, hlt, rfl, gr1.trans (gX.trans g), tk_next hlt hlt2 hpre he⟩⟩
   · intro he u M' c' g
     simp only [WX]
     exact hF (fun e => tk_ne hlt hlt2 he (by rw [e])) [_, _, _, _, none, _, _, _, _, _, _, _, _, _, _, _, _, _, _, _, _, _, _, _, _, _, _, _, _, _, _, _, _, _, _, _, _, _, _, _, _, _, _, _, _, _, _, _, _, _, _, _, _, _, _, _, _, _, _, _, _, _, _, _, _, _, _, _, _, _, _, _, _, _, _, _, _, _, _, _, _, _, _, _, _, _, _, _, _, _, _, _, _, _, _, _, _, _, _, _, _, _, _, _, _, _, _, _, _, _, _, _, _, _, _, _, _, _, _, _, _, _, _, _, _, _, _] _ _ (g23.trans (gr1.trans (gX.trans g)))
 · obtain rfl : i = p.cmds.length := by omega
   have d1 : decide ((p.cmds.length : Int) < (p.cmds.length : Int)) = false := decide_eq_false (by omega)
   simp only [WX, B12, A5, n1, d1]
   exact hT (prt_eq.2 ⟨dj, dn, db, di, d5, tk_all hlen hpre⟩) [_, _, none, none, _, none, _, _, _, _, _, _, _, _, _, _, _, _, _, _, _, _, _, _, _, _, _, _, _, _, _, _, _, _, _, _, _, _, _, _, _, _, _, _, _, _, _, _, _, _, _, _, _, _, _, _, _, _, _, _, _, _, _, _, _, _, _, _, _, _, _, _, _, _, _, _, _, _, _, _, _, _, _, _, _, _, _, _, _, _, _, _, _, _, _, _, _, _, _, _, _, _, _, _, _, _, _, _, _, _, _, _, _, _, _, _, _, _, _, _, _, _, _, _, _, _, _] _ _ (g23.trans gr1)
theorem w12 (Φ : Nat → Option CF) (h : Φ 12 = some c12) (h22 : Φ 22 = some c22) {F : RO} {M : Mem} {c : Nat} (ok : Okm F M c) {v1 v2 : V} {l1 l2 : List Prt} (h1 : LnAt F M c v1 l1) (h2 : LnAt F M c v2 l2) :
  Calls Φ F 12 [.g [v1], .g [v2]] M c fun r M' c' => r = .b (decide (l1 = l2)) ∧ Gr c M c' M' := by
 refine calls_walk h ?_
 obtain ⟨y1, y2, y3⟩ := h1.one
 obtain ⟨z1, z2, z3⟩ := h2.one
 have hG : ∀ v, flatten (V.g [v]) = [v] := fun _ => rfl
 have gX := ((Gr.refl ok).set c (rowB 25 [v1]) (Nat.le_refl _) (Nat.lt_succ_self _) (Nat.le_succ _)).set (c + 1) (rowB 25 [v2]) (by omega) (show c + 1 < c + 2 by omega) (by omega)
 have m0 : ((M.set c (rowB 25 [v1])).set (c + 1) (rowB 25 [v2])).get c = some (rowB 25 [v1]) := by rw [get_ne _ _ (by omega)]; exact get_same _ _ _
 have m1 : ((M.set c (rowB 25 [v1])).set (c + 1) (rowB 25 [v2])).get (c + 1) = some (rowB 25 [v2]) := get_same _ _ _
 have k0 : load1 F ((M.set c (rowB 25 [v1])).set (c + 1) (rowB 25 [v2])) c 0 = some v1 := load_row m0 0
 have k1 : load1 F ((M.set c (rowB 25 [v1])).set (c + 1) (rowB 25 [v2])) (c + 1) 0 = some v2 := load_row m1 0
 have n1 := h1.len
 have n2 := h2.len
 have mx1 := h1.max
 have h1 := h1.grow gX
 have h2 := h2.grow gX
 have okX := gX.ok ok
 by_cases hlen : l1.length = l2.length
 rotate_left
 · have d0 : decide (¬ ((l1.length : Int) = (l2.length : Int))) = true := decide_eq_true (by omega)
   simp only [WX, Nat.reduceAdd, e12, w12_1, w12_2, w12_3, w12_4, w12_34, hG, y3, z3, k0, k1, n1, n2, d0]
   exact ⟨by rw [decide_eq_false (fun e => hlen (by rw [e]))], gX⟩
 have d0 : decide (¬ ((l1.length : Int) = (l2.length : Int))) = false := decide_eq_false (by omega)
 simp only [WX, Nat.reduceAdd, e12, w12_1, w12_2, w12_4, w12_5, w12_32, w12_34, hG, y3, z3, k0, k1, n1, n2, d0]
 generalize (M.set c (rowB 25 [v1])).set (c + 1) (rowB 25 [v2]) = X at gX h1 h2 okX k0 k1 ⊢
 clear m0 m1
 obtain ⟨I, hI⟩ : ∃ I : Nat → St → Prop, ∀ n s', I n s' ↔ (∃ (i c1 : Nat) (M1 : Mem) (u : List (Option V)), n = l1.length - i ∧ i ≤ l1.length ∧ s' = .mk ((.n (.n (.n (.n (uv7 u 63 31 95 15 79 47 111) (uO u 7) (uv7 u 71 39 103 23 87 55 119)) (some (.p (c + 1) 0)) (.n (uv7 u 67 35 99 19 83 51 115) (uO u 11) (uv7 u 75 43 107 27 91 59 123))) (uO u 1) (.n (.n (uv7 u 65 33 97 17 81 49 113) (uO u 9) (uv7 u 73 41 105 25 89 57 121)) (some (.i .i64 (i : Int))) (.n (uv7 u 69 37 101 21 85 53 117) (uO u 13) (uv7 u 77 45 109 29 93 61 125)))) (uO u 0) (.n (.n (.n (uv7 u 64 32 96 16 80 48 112) (uO u 8) (uv7 u 72 40 104 24 88 56 120)) (uO u 4) (.n (uv7 u 68 36 100 20 84 52 116) (uO u 12) (uv7 u 76 44 108 28 92 60 124))) (some (.p c 0)) (.n (.n (uv7 u 66 34 98 18 82 50 114) (uO u 10) (uv7 u 74 42 106 26 90 58 122)) (uO u 6) (.n (uv7 u 70 38 102 22 86 54 118) (uO u 14) (uv7 u 78 46 110 30 94 62 126)))))) [] M1 c1 ∧ Gr (c + 2) X c1 M1 ∧ l1.take i = l2.take i) := ⟨fun n s' => _, fun _ _ => Iff.rfl⟩
 refine wp_while I ?_ l1.length _ ((hI _ _).2 ⟨0, _, _, [_, _, none, none, _, none, _, _, _, _, _, _, _, _, _, _, _, _, _, _, _, _, _, _, _, _, _, _, _, _, _, _, _, _, _, _, _, _, _, _, _, _, _, _, _, _, _, _, _, _, _, _, _, _, _, _, _, _, _, _, _, _, _, _, _, _, _, _, _, _, _, _, _, _, _, _, _, _, _, _, _, _, _, _, _, _, _, _, _, _, _, _, _, _, _, _, _, _, _, _, _, _, _, _, _, _, _, _, _, _, _, _, _, _, _, _, _, _, _, _, _, _, _, _, _, _, _], rfl, Nat.zero_le _, rfl, Gr.refl okX, rfl⟩)
 intro n s' hIs
 obtain ⟨i, c1, M1, u, rfl, hi, rfl, gr1, hpre⟩ := (hI _ _).1 hIs
 clear hIs
 have hle1 := gr1.le
 have k0 : load1 F M1 c 0 = some v1 := (gr1.load1 (by omega) _).trans k0
 have k1 : load1 F M1 (c + 1) 0 = some v2 := (gr1.load1 (by omega) _).trans k1
 by_cases hlt : i < l1.length
 · have q8 : biV .add (.i .i64 (i : Int)) (.i .i64 1) = some (.i .i64 ((i + 1 : Nat) : Int)) := by rw [i64_add _ _ (by omega) (by omega)]; simp
   have hlt2 : i < l2.length := by omega
   have d1 : decide ((i : Int) < (l1.length : Int)) = true := decide_eq_true (by omega)
   have ok1 := gr1.ok okX
   obtain ⟨b1, o1, e1, hb1, ia1, ld1, el1, r1⟩ := LsAt.at (h1.grow gr1) (by decide) i hlt
   obtain ⟨b2, o2, e2, hb2, ia2, ld2, el2, r2⟩ := LsAt.at (h2.grow gr1) (by decide) i hlt2
   have ia1 := ia1 .i64
   have ia2 := ia2 .i64
   have hfr := ok1.free
   have lk1 : (look F M1 (c1 + 10)).isNone = true := by rw [ok1.look (by omega)]; rfl
   have lk2 : (look F M1 (c1 + 11)).isNone = true := by rw [ok1.look (by omega)]; rfl
   have rf : ∀ x, c1 ≤ x → readFree x [(9, b2), (6, c + 1), (4, b1), (1, c)] = true := fun x hx => by rw [readFree_cons _ _ _ _ (by omega), readFree_cons _ _ _ _ (by omega), readFree_cons _ _ _ _ (by omega), readFree_cons _ _ _ _ (by omega), readFree_nil]
   have rf1 := rf (c1 + 10) (by omega)
   have rf2 := rf (c1 + 11) (by omega)
   simp only [WX, w12_6, w12_7, w12_8, k0, k1, n1, d1, ia1, ia2, ld1, ld2, wd_a, putDA, lk1, lk2, rf1, rf2]
   have T1 : testBit 3103 11 = true := by decide
   have T2 : testBit 3103 10 = true := by decide
   obtain ⟨Z, hZ⟩ : ∃ Z : List V, Z = [V.i IntKind.i64 0, V.b false, V.l0, V.l0, V.b false, V.l0] := ⟨_, rfl⟩
   have lZ : Z.length = 6 := by rw [hZ]; rfl
   rw [← hZ]
   have gA : Gr c1 M1 (c1 + 14) ((M1.set (c1 + 11) (rowB 39 Z)).set (c1 + 10) (rowB 39 Z)) := ((Gr.refl ok1).set (c1 + 11) _ (by omega) (show c1 + 11 < c1 + 14 by omega) (by omega)).set (c1 + 10) _ (by omega) (by omega) (Nat.le_refl _)
   refine wd_sp (M1 := (M1.set (c1 + 11) (rowB 39 Z)).set (c1 + 10) (rowB 39 Z)) (b := c1 + 10) (ty := 39) (z := Z) (e := e1) _ _ _ _ _ _ _ _ _ _ _ _ _ (by simp only [List.all_cons, List.all_nil, T1, T2, Bool.and_self]) (by rw [mergeAll_cons, mergeAll_cons, mergeAll_nil]) (get_same _ _ _) rfl rfl r1.all el1 lZ rf1 (gA.ok ok1).free ?_
   intro N1 hN1
   have gN1 : Gr c1 M1 (c1 + 14) N1 := ⟨by omega, fun x hx => by rw [hN1, get_ne _ _ (by omega)]; exact gA.old x hx, fun x hx => by rw [hN1, get_ne _ _ (by omega)]; exact gA.new x hx⟩
   refine wd_sp (M1 := N1) (b := c1 + 11) (ty := 39) (z := Z) (e := e2) _ _ _ _ _ _ _ _ _ _ _ _ _ rfl (mergeAll_nil _) (by rw [hN1, get_ne _ _ (by omega), get_ne _ _ (by omega)]; exact get_same _ _ _) rfl rfl r2.all el2 lZ rf2 (gN1.ok ok1).free ?_
   intro N2 hN2
   have gN2 : Gr c1 M1 (c1 + 14) N2 := ⟨by omega, fun x hx => by rw [hN2, get_ne _ _ (by omega)]; exact gN1.old x hx, fun x hx => by rw [hN2, get_ne _ _ (by omega)]; exact gN1.new x hx⟩
   have ma : N2.get (c1 + 10) = some (rowB 39 e1) := by rw [hN2, get_ne _ _ (by omega), hN1]; exact get_same _ _ _
   have mb : N2.get (c1 + 11) = some (rowB 39 e2) := by rw [hN2]; exact get_same _ _ _
   have okN := gN2.ok ok1
   simp only [WX]
   refine e12c Φ h22 okN (P1.grow gN2 _ _ r1) (P1.grow gN2 _ _ r2) ma mb (by omega) (by omega) [_, _, none, none, _, none, none, none, _, _, _, _, _, _, _, _, _, _, _, _, _, _, _, _, _, _, _, _, _, _, _, _, _, _, _, _, _, _, _, _, _, _, _, _, _, _, _, _, _, _, _, _, _, _, _, _, _, _, _, _, _, _, _, _, _, _, _, _, _, _, _, _, _, _, _, _, _, _, _, _, _, _, _, _, _, _, _, _, _, _, _, _, _, _, _, _, _, _, _, _, _, _, _, _, _, _, _, _, _, _, _, _, _, _, _, _, _, _, _, _, _, _, _, _, _, _, _] _ ?_ ?_
   · intro he u M' c' g
     simp only [WX, B12, q8]
     exact ⟨l1.length - (i + 1), by omega, (hI _ _).2 ⟨i + 1, _, _, [_, _, none, none, _, none, _, _, _, _, _, _, _, _, _, _, _, _, _, _, _, _, _, _, _, _, _, _, _, _, _, _, _, _, _, _, _, _, _, _, _, _, _, _, _, _, _, _, _, _, _, _, _, _, _, _, _, _, _, _, _, _, _, _, _, _, _, _, _, _, _, _, _, _, _, _, _, _, _, _, _, _, _, _, _, _, _, _, _, _, _, _, _, _, _, _, _, _, _, _, _, _, _, _, _, _, _, _, _, _, _, _, _, _, _, _, _, _, _, _, _, _, _, _, _, _, _], rfl, hlt, rfl, gr1.trans (gN2.trans g), tk_next hlt hlt2 hpre he⟩⟩
   · intro he u M' c' g
     simp only [WX]
     exact ⟨by rw [decide_eq_false (tk_ne hlt hlt2 he)], gX.trans (gr1.trans (gN2.trans g))⟩
 · obtain rfl : i = l1.length := by omega
   have d1 : decide ((l1.length : Int) < (l1.length : Int)) = false := decide_eq_false (by omega)
   simp only [WX, B12, k0, n1, d1]
   exact ⟨by rw [decide_eq_true (tk_all hlen hpre)], gX.trans gr1⟩
def b37_1 : CC := (.reg [(aa a2 (.bx 36 1 z0)), (qq a4 (.mv (x6 0)))])
def b37_2 : CC := (.reg [(qq a7 (.fa 0 z2)), (qq a8 (.ld1 z7)), (qq a9 (.ln .slice z8)), (qq a5 (.mv z9))])
def b37_3 : CC := (.reg [(qq a6 (.mv (x6 0)))])
def b37_4 : CC := (.reg [(qq a10 (.mv z6)), (qq a11 (.fa 0 z2)), (qq a12 (.ld1 z11)), (qq a13 (.ln .slice z12)), (qq a14 (.bi .lss z10 z13)), (qq a15 (.mv z14)), ⟨(some a16), .q (.mv z5), (some (a15, true))⟩, ⟨(some a17), .q (.mv z1), (some (a15, true))⟩, ⟨(some a18), .q (.bi .leq z16 z17), (some (a15, true))⟩, (qq a19 (.pk z15 z18 xF))])
def b37_5 : CC := (.seq b37_4 (.cond z19 .skip (.exit 0)))
def b37_6 : CC := (.reg [(qq a22 (.mv z5)), (qq a23 (.fa 0 z2)), (qq a24 (.ld1 z23)), (qq a25 (.mv z6)), (qq a26 (.iaS 2 z24 z25)), (qq a27 (.fa 0 z26)), (qq a28 (.ld1 z27)), (qq a29 (.ln .str z28)), (qq a30 (.mv z1)), (qq a31 (.bi .add z30 (x6 1))), (qq a32 (.mn false z29 [z31])), (qq a33 (.bi .add z22 z32)), (qq a5 (.mv z33))])
def b37_7 : CC := (.reg [(qq a20 (.mv z6)), (qq a21 (.bi .add z20 (x6 1))), (qq a6 (.mv z21))])
def b37_8 : CC := (.block 0 (.loop (.seq b37_5 (.seq (.block 1 b37_6) b37_7))))
def b37_9 : CC := (.reg [(qq a34 (.mv z5)), (qq a4 (.mv z34))])
def b37_10 : CC := (.seq b37_1 (.seq b37_2 (.seq (.seq b37_3 b37_8) (.seq b37_9 .ret))))
def c37 : CF := .mk 6 [.t a4] b37_10
theorem e37 (v0 v1 : V) : argTr 6 [v0, v1] = (.n (.n sk4 (some v1) sk4) (some v0) sk5) := rfl
def B37 := ai @e37 (ai (wu b37_1.eq_1) (ai (wu b37_2.eq_1) (ai (wu b37_3.eq_1) (ai (wu b37_4.eq_1) (ai (wu b37_5.eq_1) (ai (wu b37_6.eq_1) (ai (wu b37_7.eq_1) (ai (wu b37_8.eq_1) (ai (wu b37_9.eq_1) (wu b37_10.eq_1))))))))))
def b14_1 : CC := (.reg [(aa a2 (.bx 25 1 z0)), (qq a4 (.mv xF))])
def w14_1 := wu b14_1.eq_1
def b14_2 : CC := (.reg [(qq a10 (.fa 0 z2)), (qq a11 (.ld1 z10)), (qq a12 (.ln .slice z11)), (qq a5 (.mv z12))])
def w14_2 := wu b14_2.eq_1
def b14_3 : CC := (.reg [(qq a6 (.mv (x6 0)))])
def w14_3 := wu b14_3.eq_1
def b14_4 : CC := (.reg [(qq a13 (.mv z6)), (qq a14 (.fa 0 z2)), (qq a15 (.ld1 z14)), (qq a16 (.ln .slice z15)), (qq a17 (.bi .lss z13 z16)), (qq a18 (.mv z17)), ⟨(some a19), .q (.mv z5), (some (a18, true))⟩, ⟨(some a20), .q (.mv z1), (some (a18, true))⟩, ⟨(some a21), .q (.bi .leq z19 z20), (some (a18, true))⟩, (qq a22 (.pk z18 z21 xF))])
def w14_4 := wu b14_4.eq_1
def b14_5 : CC := (.seq b14_4 (.cond z22 .skip (.exit 0)))
def w14_5 := wu b14_5.eq_1
def b14_6 : CC := (.reg [(qq a25 (.fa 0 z2)), (qq a26 (.ld1 z25)), (qq a27 (.mv z6)), (qq a28 (.iaS 6 z26 z27)), (qq a29 (.ldn 6 z28)), (aa a7 (.al 39 [(.i .i64 0), (.b false), .l0, .l0, (.b false), .l0])), (ez (.st 6 z7 z29))])
def w14_6 := wu b14_6.eq_1
def b14_7 : CC := (.reg [(qq a30 (.mv z5)), (qq a31 (.fa 5 z7)), (qq a32 (.ld1 z31)), (qq a33 (.ln .slice z32)), (qq a34 (.bi .add z30 z33)), (qq a35 (.fa 2 z7)), (qq a36 (.fa 0 z35)), (qq a37 (.ld1 z36)), (qq a38 (.ln .slice z37)), (qq a39 (.bi .add z34 z38)), (qq a40 (.fa 3 z7)), (qq a41 (.fa 0 z40)), (qq a42 (.ld1 z41)), (qq a43 (.ln .slice z42)), (qq a44 (.bi .add z39 z43)), (qq a5 (.mv z44))])
def w14_7 := wu b14_7.eq_1
def b14_8 : CC := (.reg [(qq a8 (.mv (x6 0)))])
def w14_8 := wu b14_8.eq_1
def b14_9 : CC := (.reg [(qq a45 (.mv z8)), (qq a46 (.fa 5 z7)), (qq a47 (.ld1 z46)), (qq a48 (.ln .slice z47)), (qq a49 (.bi .lss z45 z48)), (qq a50 (.mv z49)), ⟨(some a51), .q (.mv z5), (some (a50, true))⟩, ⟨(some a52), .q (.mv z1), (some (a50, true))⟩, ⟨(some a53), .q (.bi .leq z51 z52), (some (a50, true))⟩, (qq a54 (.pk z50 z53 xF))])
def w14_9 := wu b14_9.eq_1
def b14_10 : CC := (.seq b14_9 (.cond z54 .skip (.exit 2)))
def w14_10 := wu b14_10.eq_1
def b14_11 : CC := (.reg [(qq a57 (.mv z5)), (qq a58 (.fa 5 z7)), (qq a59 (.ld1 z58)), (qq a60 (.mv z8)), (qq a61 (.iaS 1 z59 z60)), (qq a62 (.fa 0 z61)), (qq a63 (.ld1 z62)), (qq a64 (.ln .slice z63)), (qq a65 (.bi .add z57 z64)), (qq a5 (.mv z65))])
def w14_11 := wu b14_11.eq_1
def b14_12 : CC := (.reg [(qq a9 (.mv (x6 0)))])
def w14_12 := wu b14_12.eq_1
def b14_13 : CC := (.reg [(qq a66 (.mv z9)), (qq a67 (.fa 5 z7)), (qq a68 (.ld1 z67)), (qq a69 (.mv z8)), (qq a70 (.iaS 1 z68 z69)), (qq a71 (.fa 0 z70)), (qq a72 (.ld1 z71)), (qq a73 (.ln .slice z72)), (qq a74 (.bi .lss z66 z73)), (qq a75 (.mv z74)), ⟨(some a76), .q (.mv z5), (some (a75, true))⟩, ⟨(some a77), .q (.mv z1), (some (a75, true))⟩, ⟨(some a78), .q (.bi .leq z76 z77), (some (a75, true))⟩, (qq a79 (.pk z75 z78 xF))])
def w14_13 := wu b14_13.eq_1
def b14_14 : CC := (.cond z79 .skip (.exit 4))
def w14_14 := wu b14_14.eq_1
def b14_15 : CC := (.reg [(qq a82 (.mv z5)), (qq a83 (.fa 5 z7)), (qq a84 (.ld1 z83)), (qq a85 (.mv z8)), (qq a86 (.iaS 1 z84 z85)), (qq a87 (.fa 0 z86)), (qq a88 (.ld1 z87)), (qq a89 (.mv z9)), (qq a90 (.iaS 1 z88 z89)), (qq a91 (.ldn 1 z90)), (qq a92 (.mv z1)), (ee a93 (.call 37 [z91, z92])), (qq a94 (.bi .add z82 z93)), (qq a5 (.mv z94))])
def w14_15 := wu b14_15.eq_1
def b14_16 : CC := (.reg [(qq a80 (.mv z9)), (qq a81 (.bi .add z80 (x6 1))), (qq a9 (.mv z81))])
def w14_16 := wu b14_16.eq_1
def b14_17 : CC := (.loop (.seq (.seq b14_13 b14_14) (.seq (.block 5 b14_15) b14_16)))
def w14_17 := wu b14_17.eq_1
def b14_18 : CC := (.reg [(qq a55 (.mv z8)), (qq a56 (.bi .add z55 (x6 1))), (qq a8 (.mv z56))])
def w14_18 := wu b14_18.eq_1
def b14_19 : CC := (.seq (.block 3 (.seq b14_11 (.seq b14_12 (.block 4 b14_17)))) b14_18)
def w14_19 := wu b14_19.eq_1
def b14_20 : CC := (.dreg 12 [(0, 0, (qq a95 (.mv z5))), (1, 0, (qq a96 (.fa 2 z7))), (2, 2, (qq a97 (.ldn 1 z96))), (3, 0, (qq a98 (.mv z1))), (6, 0, (qq a101 (.fa 3 z7))), (7, 64, (qq a102 (.ldn 1 z101))), (8, 0, (qq a103 (.mv z1))), (4, 14, (ee a99 (.call 37 [z97, z98]))), (5, 31, (qq a100 (.bi .add z95 z99))), (9, 478, (ee a104 (.call 37 [z102, z103]))), (10, 1023, (qq a105 (.bi .add z100 z104))), (11, 2047, (qq a5 (.mv z105)))])
def w14_20 := wu b14_20.eq_1
def b14_21 : CC := (.seq (.seq b14_8 (.block 2 (.loop (.seq b14_10 b14_19)))) b14_20)
def w14_21 := wu b14_21.eq_1
def b14_22 : CC := (.reg [(qq a23 (.mv z6)), (qq a24 (.bi .add z23 (x6 1))), (qq a6 (.mv z24))])
def w14_22 := wu b14_22.eq_1
def b14_23 : CC := (.seq b14_5 (.seq (.block 1 (.seq b14_6 (.seq b14_7 b14_21))) b14_22))
def w14_23 := wu b14_23.eq_1
def b14_24 : CC := (.reg [(qq a106 (.mv z5)), (qq a107 (.mv z1)), (qq a108 (.bi .gtr z106 z107)), (qq a4 (.mv z108))])
def w14_24 := wu b14_24.eq_1
def b14_25 : CC := (.seq (.seq b14_3 (.block 0 (.loop b14_23))) (.seq b14_24 .ret))
def w14_25 := wu b14_25.eq_1
def c14 : CF := .mk 7 [.t a4] (.seq b14_1 (.seq b14_2 b14_25))
theorem e14 (v0 v1 : V) : argTr 7 [v0, v1] = (.n (.n sk5 (some v1) sk5) (some v0) sk6) := rfl
def B14 := ai @e14 (ai @w14_1 (ai @w14_2 (ai @w14_3 (ai @w14_4 (ai @w14_5 (ai @w14_6 (ai @w14_7 (ai @w14_8 (ai @w14_9 (ai @w14_10 (ai @w14_11 (ai @w14_12 (ai @w14_13 (ai @w14_14 (ai @w14_15 (ai @w14_16 (ai @w14_17 (ai @w14_18 (ai @w14_19 (ai @w14_20 (ai @w14_21 (ai @w14_22 (ai @w14_23 (ai @w14_24 (@w14_25)))))))))))))))))))))))))
theorem add_any (a b : Int) : ∃ z, biV .add (.i .i64 a) (.i .i64 b) = some (.i .i64 z) := ⟨_, bi_add _ _ _⟩
theorem v_mn1 {F : RO} (mx : Bool) (x y : X) (M : Mem) (t : T) : (qop (.mn mx x [y]) F M t).val = minV mx (x.ev t) (y.ev t) := by
 show (qr (minAll mx t (x.ev t) [y])).val = _
 show (qr (match minV mx (x.ev t) (y.ev t) with | some v => minAll mx t v [] | none => none)).val = _
 cases minV mx (x.ev t) (y.ev t) <;> rfl
theorem mn_any (mx : Bool) (a b : Int) : ∃ z, minV mx (.i .i64 a) (.i .i64 b) = some (.i .i64 z) := by
 show ∃ z, (fI _ fun n => some (V.i .i64 n)) = _
 exact ⟨_, fI_eq _ _⟩
theorem pc_at1 {F : RO} {M : Mem} {c : Nat} {v : V} {ps : List Pc} (h : SlAt F M c 2 v (pcE ps)) (i : Nat) (hi : i < ps.length) : ∃ b o, b < c ∧ (∀ k, iaSV 2 v (.i k (i : Int)) = some (.p b o)) ∧ load1 F M b o = some (sV ps[i].1) := by
 obtain ⟨b, o, h1, h2, h3⟩ := h.at i (by rw [pcE_len]; exact hi)
 have e : (pcE ps)[i]'(by rw [pcE_len]; exact hi) = pcV ps[i] := by simp [pcE]
 rw [e] at h3
 have a0 := h3 0 (by simp [pcV])
 exact ⟨b, o, h1, h2, a0⟩
theorem w37 (Φ : Nat → Option CF) (h : Φ 37 = some c37) {F : RO} {M : Mem} {c : Nat} (ok : Okm F M c) {v : V} {w : List Pc} (hw : WdAt F M c v w) (m : Int) :
  Calls Φ F 37 [.g [v], .i .i64 m] M c fun r M' c' => (∃ z, r = .i .i64 z) ∧ Gr c M c' M' := by
 refine calls_walk h ?_
 obtain ⟨y1, y2, y3⟩ := hw.one
 have hG : ∀ v, flatten (V.g [v]) = [v] := fun _ => rfl
 have gX := (Gr.refl ok).set c (rowB 36 [v]) (Nat.le_refl _) (Nat.lt_succ_self _) (Nat.le_succ _)
 have m0 : (M.set c (rowB 36 [v])).get c = some (rowB 36 [v]) := get_same _ _ _
 have k0 : load1 F (M.set c (rowB 36 [v])) c 0 = some v := load_row m0 0
 have n1 := hw.len
 have mx1 : w.length ≤ 9223372036854775807 := hw.2
 have hX := hw.grow gX
 simp only [WX, B37, hG, y3, k0, n1]
 generalize M.set c (rowB 36 [v]) = X at gX k0 hX ⊢
 obtain ⟨I, hI⟩ : ∃ I : Nat → St → Prop, ∀ n s', I n s' ↔ (∃ (i : Nat) (z : Int) (u : List (Option V)), n = w.length - i ∧ i ≤ w.length ∧ s' = .mk ((.n (.n (.n (uv7 u 31 15 47 7 39 23 55) (uO u 3) (uv7 u 35 19 51 11 43 27 59)) (some (.i .i64 m)) (.n (uv7 u 33 17 49 9 41 25 57) (some (.i .i64 z)) (uv7 u 37 21 53 13 45 29 61))) (uO u 0) (.n (.n (uv7 u 32 16 48 8 40 24 56) (uO u 4) (uv7 u 36 20 52 12 44 28 60)) (some (.p c 0)) (.n (uv7 u 34 18 50 10 42 26 58) (some (.i .i64 (i : Int))) (uv7 u 38 22 54 14 46 30 62))))) [] X (c + 1)) := ⟨fun n s' => _, fun _ _ => Iff.rfl⟩
 refine wp_while I ?_ w.length _ ((hI _ _).2 ⟨0, _, [_, none, none, _, _, none, none, _, _, _, _, _, _, _, _, _, _, _, _, _, _, _, _, _, _, _, _, _, _, _, _, _, _, _, _, _, _, _, _, _, _, _, _, _, _, _, _, _, _, _, _, _, _, _, _, _, _, _, _, _, _, _, _], rfl, Nat.zero_le _, rfl⟩)
 intro n s' hIs
 obtain ⟨i, z, u, rfl, hi, rfl⟩ := (hI _ _).1 hIs
 clear hIs
 by_cases hlt : i < w.length
 · have q8 : biV .add (.i .i64 (i : Int)) (.i .i64 1) = some (.i .i64 ((i + 1 : Nat) : Int)) := by rw [i64_add _ _ (by omega) (by omega)]; simp
   have d1 : decide ((i : Int) < (w.length : Int)) = true := decide_eq_true (by omega)
   by_cases hz : z ≤ m
   · have d2 : decide (z ≤ m) = true := decide_eq_true hz
     obtain ⟨b, o, hb, ia, ld1⟩ := pc_at1 hX.1 i hlt
     have ia := ia .i64
     obtain ⟨z1, hz1⟩ := add_any m 1
     obtain ⟨z2, hz2⟩ := mn_any false (w[i].1.length : Int) z1
     obtain ⟨z3, hz3⟩ := add_any z z2
     simp only [WX, B37, k0, n1, d1, d2, ia, ld1, Nat.add_zero, v_mn1, hz1, hz2, hz3, q8]
     exact ⟨w.length - (i + 1), by omega, (hI _ _).2 ⟨i + 1, _, [_, none, none, _, _, none, none, _, _, _, _, _, _, _, _, _, _, _, _, _, _, _, _, _, _, _, _, _, _, _, _, _, _, _, _, _, _, _, _, _, _, _, _, _, _, _, _, _, _, _, _, _, _, _, _, _, _, _, _, _, _, _, _], rfl, hlt, rfl⟩⟩
   · have d2 : decide (z ≤ m) = false := decide_eq_false hz
     simp only [WX, B37, k0, n1, d1, d2]
     exact ⟨⟨_, rfl⟩, gX⟩
 · obtain rfl : i = w.length := by omega
   have d1 : decide ((w.length : Int) < (w.length : Int)) = false := decide_eq_false (by omega)
   simp only [WX, B37, k0, n1, d1]
   exact ⟨⟨_, rfl⟩, gX⟩
end
end Go.Proofs.YtmbpllipombieaaDoor.Ev
