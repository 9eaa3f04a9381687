/- What is proved here: pieces of the evaluator's soundness: if the evaluator comes to a value, the model's run comes to it, for every world and tape; no conditions beyond the hypotheses of each theorem. -/
import Derived.Test.YtffpeieapadocaaGreatDoorEv4
set_option linter.unusedSimpArgs false
set_option linter.unusedVariables false
set_option maxRecDepth 10000
set_option maxHeartbeats 8000000
namespace Go.Proofs.YtffpeieapadocaaGreatDoor.Ev
open Go
noncomputable def b10_1 : CC := (.reg [⟨(some (.l .h)), .a (.bx 26 5 (.t .h)), none⟩, ⟨(some (.r .h)), .q (.mv (.c (.i .u32 0))), none⟩, ⟨(some (.l (.l .h))), .q (.mv (.c (.i .i64 0))), none⟩])
theorem w10_1 (k : Kn) (s : St) (R : Ex → St → Prop) : Wp b10_1 k s R = Wp (.reg [⟨(some (.l .h)), .a (.bx 26 5 (.t .h)), none⟩, ⟨(some (.r .h)), .q (.mv (.c (.i .u32 0))), none⟩, ⟨(some (.l (.l .h))), .q (.mv (.c (.i .i64 0))), none⟩]) k s R := rfl
noncomputable def b10_2 : CC := (.reg [⟨(some (.r (.l .h))), .q (.ldn 5 (.t (.l .h))), none⟩, ⟨(some (.l (.r .h))), .e (.call 37 [(.t (.r (.l .h)))]), none⟩, ⟨(some (.r (.r .h))), .q (.un .not (.t (.l (.r .h)))), none⟩])
theorem w10_2 (k : Kn) (s : St) (R : Ex → St → Prop) : Wp b10_2 k s R = Wp (.reg [⟨(some (.r (.l .h))), .q (.ldn 5 (.t (.l .h))), none⟩, ⟨(some (.l (.r .h))), .e (.call 37 [(.t (.r (.l .h)))]), none⟩, ⟨(some (.r (.r .h))), .q (.un .not (.t (.l (.r .h)))), none⟩]) k s R := rfl
noncomputable def b10_3 : CC := (.reg [⟨(some (.r .h)), .q (.mv (.c (.i .u32 0))), none⟩, ⟨(some (.l (.l .h))), .q (.mv (.c (.i .i64 2))), none⟩])
theorem w10_3 (k : Kn) (s : St) (R : Ex → St → Prop) : Wp b10_3 k s R = Wp (.reg [⟨(some (.r .h)), .q (.mv (.c (.i .u32 0))), none⟩, ⟨(some (.l (.l .h))), .q (.mv (.c (.i .i64 2))), none⟩]) k s R := rfl
noncomputable def b10_4 : CC := (.seq b10_2 (.cond (.t (.r (.r .h))) (.seq b10_3 .ret) .skip))
theorem w10_4 (k : Kn) (s : St) (R : Ex → St → Prop) : Wp b10_4 k s R = Wp (.seq b10_2 (.cond (.t (.r (.r .h))) (.seq b10_3 .ret) .skip)) k s R := rfl
noncomputable def b10_5 : CC := (.reg [⟨(some (.l (.l (.l .h)))), .q (.fa 0 (.t (.l .h))), none⟩, ⟨(some (.r (.l (.l .h)))), .q (.ld1 (.t (.l (.l (.l .h))))), none⟩, ⟨(some (.l (.r (.l .h)))), .q (.ci .u32 (.t (.r (.l (.l .h))))), none⟩, ⟨(some (.r (.r (.l .h)))), .q (.fa 1 (.t (.l .h))), none⟩, ⟨(some (.l (.l (.r .h)))), .q (.ld1 (.t (.r (.r (.l .h))))), none⟩, ⟨(some (.r (.l (.r .h)))), .q (.ci .u32 (.t (.l (.l (.r .h))))), none⟩, ⟨(some (.l (.r (.r .h)))), .q (.bi .shl (.t (.r (.l (.r .h)))) (.c (.i .u64 12))), none⟩, ⟨(some (.r (.r (.r .h)))), .q (.bi .or (.t (.l (.r (.l .h)))) (.t (.l (.r (.r .h))))), none⟩, ⟨(some (.l (.l (.l (.l .h))))), .q (.fa 2 (.t (.l .h))), none⟩, ⟨(some (.r (.l (.l (.l .h))))), .q (.ld1 (.t (.l (.l (.l (.l .h)))))), none⟩, ⟨(some (.l (.r (.l (.l .h))))), .q (.ci .u32 (.t (.r (.l (.l (.l .h)))))), none⟩, ⟨(some (.r (.r (.l (.l .h))))), .q (.bi .shl (.t (.l (.r (.l (.l .h))))) (.c (.i .u64 8))), none⟩, ⟨(some (.l (.l (.r (.l .h))))), .q (.bi .or (.t (.r (.r (.r .h)))) (.t (.r (.r (.l (.l .h)))))), none⟩, ⟨(some (.r (.l (.r (.l .h))))), .q (.fa 3 (.t (.l .h))), none⟩, ⟨(some (.l (.r (.r (.l .h))))), .q (.ld1 (.t (.r (.l (.r (.l .h)))))), none⟩, ⟨(some (.r (.r (.r (.l .h))))), .q (.ci .u32 (.t (.l (.r (.r (.l .h)))))), none⟩, ⟨(some (.l (.l (.l (.r .h))))), .q (.bi .shl (.t (.r (.r (.r (.l .h))))) (.c (.i .u64 16))), none⟩, ⟨(some (.r (.l (.l (.r .h))))), .q (.bi .or (.t (.l (.l (.r (.l .h))))) (.t (.l (.l (.l (.r .h)))))), none⟩, ⟨(some (.l (.r (.l (.r .h))))), .q (.fa 4 (.t (.l .h))), none⟩, ⟨(some (.r (.r (.l (.r .h))))), .q (.ld1 (.t (.l (.r (.l (.r .h)))))), none⟩, ⟨(some (.l (.l (.r (.r .h))))), .q (.ci .u16 (.t (.r (.r (.l (.r .h)))))), none⟩, ⟨(some (.r (.l (.r (.r .h))))), .q (.ci .u32 (.t (.l (.l (.r (.r .h)))))), none⟩, ⟨(some (.l (.r (.r (.r .h))))), .q (.bi .shl (.t (.r (.l (.r (.r .h))))) (.c (.i .u64 16))), none⟩, ⟨(some (.r (.r (.r (.r .h))))), .q (.bi .or (.t (.r (.l (.l (.r .h))))) (.t (.l (.r (.r (.r .h)))))), none⟩, ⟨(some (.r .h)), .q (.mv (.t (.r (.r (.r (.r .h)))))), none⟩, ⟨(some (.l (.l .h))), .q (.mv (.c (.i .i64 0))), none⟩])
theorem w10_5 (k : Kn) (s : St) (R : Ex → St → Prop) : Wp b10_5 k s R = Wp (.reg [⟨(some (.l (.l (.l .h)))), .q (.fa 0 (.t (.l .h))), none⟩, ⟨(some (.r (.l (.l .h)))), .q (.ld1 (.t (.l (.l (.l .h))))), none⟩, ⟨(some (.l (.r (.l .h)))), .q (.ci .u32 (.t (.r (.l (.l .h))))), none⟩, ⟨(some (.r (.r (.l .h)))), .q (.fa 1 (.t (.l .h))), none⟩, ⟨(some (.l (.l (.r .h)))), .q (.ld1 (.t (.r (.r (.l .h))))), none⟩, ⟨(some (.r (.l (.r .h)))), .q (.ci .u32 (.t (.l (.l (.r .h))))), none⟩, ⟨(some (.l (.r (.r .h)))), .q (.bi .shl (.t (.r (.l (.r .h)))) (.c (.i .u64 12))), none⟩, ⟨(some (.r (.r (.r .h)))), .q (.bi .or (.t (.l (.r (.l .h)))) (.t (.l (.r (.r .h))))), none⟩, ⟨(some (.l (.l (.l (.l .h))))), .q (.fa 2 (.t (.l .h))), none⟩, ⟨(some (.r (.l (.l (.l .h))))), .q (.ld1 (.t (.l (.l (.l (.l .h)))))), none⟩, ⟨(some (.l (.r (.l (.l .h))))), .q (.ci .u32 (.t (.r (.l (.l (.l .h)))))), none⟩, ⟨(some (.r (.r (.l (.l .h))))), .q (.bi .shl (.t (.l (.r (.l (.l .h))))) (.c (.i .u64 8))), none⟩, ⟨(some (.l (.l (.r (.l .h))))), .q (.bi .or (.t (.r (.r (.r .h)))) (.t (.r (.r (.l (.l .h)))))), none⟩, ⟨(some (.r (.l (.r (.l .h))))), .q (.fa 3 (.t (.l .h))), none⟩, ⟨(some (.l (.r (.r (.l .h))))), .q (.ld1 (.t (.r (.l (.r (.l .h)))))), none⟩, ⟨(some (.r (.r (.r (.l .h))))), .q (.ci .u32 (.t (.l (.r (.r (.l .h)))))), none⟩, ⟨(some (.l (.l (.l (.r .h))))), .q (.bi .shl (.t (.r (.r (.r (.l .h))))) (.c (.i .u64 16))), none⟩, ⟨(some (.r (.l (.l (.r .h))))), .q (.bi .or (.t (.l (.l (.r (.l .h))))) (.t (.l (.l (.l (.r .h)))))), none⟩, ⟨(some (.l (.r (.l (.r .h))))), .q (.fa 4 (.t (.l .h))), none⟩, ⟨(some (.r (.r (.l (.r .h))))), .q (.ld1 (.t (.l (.r (.l (.r .h)))))), none⟩, ⟨(some (.l (.l (.r (.r .h))))), .q (.ci .u16 (.t (.r (.r (.l (.r .h)))))), none⟩, ⟨(some (.r (.l (.r (.r .h))))), .q (.ci .u32 (.t (.l (.l (.r (.r .h)))))), none⟩, ⟨(some (.l (.r (.r (.r .h))))), .q (.bi .shl (.t (.r (.l (.r (.r .h))))) (.c (.i .u64 16))), none⟩, ⟨(some (.r (.r (.r (.r .h))))), .q (.bi .or (.t (.r (.l (.l (.r .h))))) (.t (.l (.r (.r (.r .h)))))), none⟩, ⟨(some (.r .h)), .q (.mv (.t (.r (.r (.r (.r .h)))))), none⟩, ⟨(some (.l (.l .h))), .q (.mv (.c (.i .i64 0))), none⟩]) k s R := rfl
noncomputable def c10 : CF := .mk 5 [.t (.r .h), .t (.l (.l .h))] (.seq b10_1 (.seq b10_4 (.seq b10_5 .ret)))
theorem e10 (v0 : V) : argTr 5 [v0] = (.n (.n (.n (.n (.n .e none .e) none (.n .e none .e)) none (.n (.n .e none .e) none (.n .e none .e))) none (.n (.n (.n .e none .e) none (.n .e none .e)) none (.n (.n .e none .e) none (.n .e none .e)))) (some v0) (.n (.n (.n (.n .e none .e) none (.n .e none .e)) none (.n (.n .e none .e) none (.n .e none .e))) none (.n (.n (.n .e none .e) none (.n .e none .e)) none (.n (.n .e none .e) none (.n .e none .e))))) := rfl
def h37 : List V → Option V
  | [.g [.i .i64 op, .i .i64 d, .i .i64 a, .i .i64 b, .i .i64 i]] => some (.b (mayI op d a b i))
  | _ => none
theorem h37_eq (op d a b i : Int) : h37 [.g [.i .i64 op, .i .i64 d, .i .i64 a, .i .i64 b, .i .i64 i]] = some (.b (mayI op d a b i)) := rfl
def wordI (op d a b i : Int) : Nat := op.toNat + 4096 * d.toNat + 256 * a.toNat + 65536 * b.toNat + 65536 * (i % 65536).toNat
theorem may_regI {n : Bool} {x : Int} (h : regI n x = true) : 0 ≤ x ∧ x < 16 ∧ (x ≠ 0 → n = true) := by
  unfold regI at h
  simp only [decide_eq_true_eq] at h
  rcases h with h | ⟨h1, h2, h3⟩
  · subst h; exact ⟨by decide, by decide, fun h => absurd rfl h⟩
  · exact ⟨by omega, h3, fun _ => h1⟩
theorem mayI_bounds {op d a b i : Int} (h : mayI op d a b i = true) : 1 ≤ op ∧ op ≤ 28 ∧ 0 ≤ d ∧ d < 16 ∧ 0 ≤ a ∧ a < 16 ∧ 0 ≤ b ∧ b < 16 ∧ -32768 ≤ i ∧ i ≤ 65535 ∧ (b = 0 ∨ i = 0) := by
  unfold mayI at h
  simp only [Bool.and_eq_true, Bool.or_eq_true, decide_eq_true_eq] at h
  obtain ⟨h1, h2, h3, h4, h5, h6⟩ := h
  have r3 := may_regI h3
  have r4 := may_regI h4
  have r5 := may_regI h5
  have hbi : b = 0 ∨ i = 0 := by
    by_cases hb : b = 0
    · exact .inl hb
    · right
      have := r5.2.2 hb
      unfold bI at this
      simp only [decide_eq_true_eq] at this
      rcases h6 with h6 | ⟨h6, _⟩
      · exact h6
      · unfold iI at h6
        simp only [decide_eq_true_eq] at h6
        omega
  have hi : -32768 ≤ i ∧ i ≤ 65535 := by
    rcases h6 with h6 | ⟨_, h6⟩
    · omega
    · omega
  exact ⟨h1, h2, r3.1, r3.2.1, r4.1, r4.2.1, r5.1, r5.2.1, hi.1, hi.2, hbi⟩
theorem or_add12 (x y : Nat) (h : x < 4096) : x ||| 4096 * y = x + 4096 * y := by
  rw [Nat.or_comm, ← Nat.two_pow_add_eq_or_of_lt (show x < 2 ^ 12 from h) y, Nat.add_comm]
theorem or_add16 (x y : Nat) (h : x < 65536) : x ||| 65536 * y = x + 65536 * y := by
  rw [Nat.or_comm, ← Nat.two_pow_add_eq_or_of_lt (show x < 2 ^ 16 from h) y, Nat.add_comm]
theorem or_add8 (x y : Nat) (h : x < 256) : x ||| 256 * y = x + 256 * y := by
  rw [Nat.or_comm, ← Nat.two_pow_add_eq_or_of_lt (show x < 2 ^ 8 from h) y, Nat.add_comm]
theorem t10 (Φ : Nat → Option CF) (h : Φ 10 = some c10) (h37 : Φ 37 = some (.orc (pureO h37))) (op d a b i : Int) (ct : Nat) :
    To Φ 10 [.g [.i .i64 op, .i .i64 d, .i .i64 a, .i .i64 b, .i .i64 i]] ct (if mayI op d a b i = true then .t [.i .u32 (wordI op d a b i : Nat), .i .i64 0] else .t [.i .u32 0, .i .i64 2]) := by
  refine to_walk h ?_
  cases hm : mayI op d a b i with
  | false => simp only [wp_seq, seqQ_nrm, seqQ_ret, wp_reg, wp_ret, wo_nil, xo_q, xo_a, xo_e, wp_condT, putO, putA, putE, v_mv, v_un, un_not, v_ldn, ldn_p, xo_call, callC_orc, ev_t, ev_c, evs_nil, evs_cons, Tr.setP_h, Tr.setP_l, Tr.setP_r, getT_h, getT_l, getT_r, endQ_ret, endO, resV_nil', resV_t, consO_some, oneV_two, Bool.not_false, Bool.false_eq_true, if_true, if_false, pureO_of, ofO_some, flatten_g, allOne_nil, allOne_cons, isOne_i, Bool.and_true, List.length_cons, List.length_nil, Nat.reduceAdd, Nat.reduceLeDiff, Nat.zero_add, and_self, loadN_same, a_bx_eq, List.drop_zero, List.take_succ_cons, List.take_nil, Option.map_some, e10, w10_1, w10_2, w10_3, w10_4, h37, h37_eq, hm]
  | true =>
    obtain ⟨b1, b2, b3, b4, b5, b6, b7, b8, b9, b10, b11⟩ := mayI_bounds hm
    obtain ⟨o, rfl⟩ := Int.eq_ofNat_of_zero_le (show 0 ≤ op by omega)
    obtain ⟨d, rfl⟩ := Int.eq_ofNat_of_zero_le b3
    obtain ⟨a, rfl⟩ := Int.eq_ofNat_of_zero_le b5
    obtain ⟨b, rfl⟩ := Int.eq_ofNat_of_zero_le b7
    obtain ⟨j, hj⟩ := Int.eq_ofNat_of_zero_le (show 0 ≤ i % 65536 by omega)
    have w16 : IntKind.u16.wrap i = (j : Int) := by rw [wrap_u16]; exact hj
    have e1 := u32_nat o (by omega)
    have e2 := u32_nat d (by omega)
    have e3 := u32_nat a (by omega)
    have e4 := u32_nat b (by omega)
    have e5 := u32_nat j (by omega)
    have s1 := u32_shl12 d (by omega)
    have s2 := u32_shl8 a (by omega)
    have s3 := u32_shl16 b (by omega)
    have s4 := u32_shl16 j (by omega)
    have n1 : (o ||| 4096 * d) < 2 ^ 32 := Nat.or_lt_two_pow (by omega) (by omega)
    have n2 : (o ||| 4096 * d ||| 256 * a) < 2 ^ 32 := Nat.or_lt_two_pow n1 (by omega)
    have n3 : (o ||| 4096 * d ||| 256 * a ||| 65536 * b) < 2 ^ 32 := Nat.or_lt_two_pow n2 (by omega)
    have o1 := u32_or o (4096 * d) (by omega) (by omega)
    have o2 := u32_or (o ||| 4096 * d) (256 * a) n1 (by omega)
    have o3 := u32_or (o ||| 4096 * d ||| 256 * a) (65536 * b) n2 (by omega)
    have o4 := u32_or (o ||| 4096 * d ||| 256 * a ||| 65536 * b) (65536 * j) n3 (by omega)
    simp only [wp_seq, seqQ_nrm, wp_reg, wp_ret, wp_skip, wo_nil, xo_q, xo_a, xo_e, wp_condF, putO, putA, putE, v_mv, v_bi, v_un, un_not, v_ld1, v_ldn, ld1_p, ldn_p, load1_same, v_fa, xo_call, callC_orc, ev_t, ev_c, evs_nil, evs_cons, Tr.setP_h, Tr.setP_l, Tr.setP_r, getT_h, getT_l, getT_r, List.getElem?_cons_zero, List.getElem?_cons_succ, endQ_ret, endO, resV_nil', resV_t, consO_some, oneV_two, Bool.not_true, if_true, pureO_of, ofO_some, flatten_g, allOne_nil, allOne_cons, isOne_i, Bool.and_true, List.length_cons, List.length_nil, Nat.reduceAdd, Nat.reduceLeDiff, Nat.zero_add, and_self, v_ci, loadN_same, a_bx_eq, List.drop_zero, List.take_succ_cons, List.take_nil, Option.map_some, e10, w10_1, w10_2, w10_4, w10_5, h37, h37_eq, hm, w16, e1, e2, e3, e4, e5, s1, s2, s3, s4, o1, o2, o3, o4]
    have key : (o ||| 4096 * d ||| 256 * a ||| 65536 * b ||| 65536 * j) = wordI o d a b i := by
      unfold wordI
      rw [Nat.or_assoc o, Nat.or_comm (4096 * d), ← Nat.or_assoc o, or_add8 o a (by omega), or_add12 _ d (by omega)]
      rcases b11 with h0 | h0
      · have : b = 0 := by omega
        subst this
        rw [Nat.mul_zero, Nat.or_zero, or_add16 _ j (by omega)]
        omega
      · have : j = 0 := by omega
        subst this
        rw [Nat.mul_zero, Nat.or_zero, or_add16 _ b (by omega)]
        omega
    rw [key]
end Go.Proofs.YtffpeieapadocaaGreatDoor.Ev
set_option maxRecDepth 10000
set_option maxHeartbeats 8000000
namespace Go.Proofs.YtffpeieapadocaaGreatDoor.Ev
open Go
noncomputable def b13_1 : CC := (.reg [⟨(some (.l .h)), .a (.bx 26 5 (.t .h)), none⟩, ⟨(some (.r .h)), .q (.mv (.c (.i .u32 0))), none⟩])
theorem w13_1 (k : Kn) (s : St) (R : Ex → St → Prop) : Wp b13_1 k s R = Wp (.reg [⟨(some (.l .h)), .a (.bx 26 5 (.t .h)), none⟩, ⟨(some (.r .h)), .q (.mv (.c (.i .u32 0))), none⟩]) k s R := rfl
noncomputable def b13_2 : CC := (.reg [⟨(some (.r (.l .h))), .q (.fa 0 (.t (.l .h))), none⟩, ⟨(some (.l (.r .h))), .q (.ld1 (.t (.r (.l .h)))), none⟩, ⟨(some (.r (.r .h))), .q (.ci .u32 (.t (.l (.r .h)))), none⟩, ⟨(some (.l (.l (.l .h)))), .q (.fa 1 (.t (.l .h))), none⟩, ⟨(some (.r (.l (.l .h)))), .q (.ld1 (.t (.l (.l (.l .h))))), none⟩, ⟨(some (.l (.r (.l .h)))), .q (.bi .mul (.c (.i .i64 16)) (.t (.r (.l (.l .h))))), none⟩, ⟨(some (.r (.r (.l .h)))), .q (.fa 2 (.t (.l .h))), none⟩, ⟨(some (.l (.l (.r .h)))), .q (.ld1 (.t (.r (.r (.l .h))))), none⟩, ⟨(some (.r (.l (.r .h)))), .q (.bi .add (.t (.l (.r (.l .h)))) (.t (.l (.l (.r .h))))), none⟩, ⟨(some (.l (.r (.r .h)))), .q (.ci .u32 (.t (.r (.l (.r .h))))), none⟩, ⟨(some (.r (.r (.r .h)))), .q (.bi .mul (.t (.l (.r (.r .h)))) (.c (.i .u32 256))), none⟩, ⟨(some (.l (.l (.l (.l .h))))), .q (.bi .add (.t (.r (.r .h))) (.t (.r (.r (.r .h))))), none⟩, ⟨(some (.l (.l .h))), .q (.mv (.t (.l (.l (.l (.l .h)))))), none⟩])
theorem w13_2 (k : Kn) (s : St) (R : Ex → St → Prop) : Wp b13_2 k s R = Wp (.reg [⟨(some (.r (.l .h))), .q (.fa 0 (.t (.l .h))), none⟩, ⟨(some (.l (.r .h))), .q (.ld1 (.t (.r (.l .h)))), none⟩, ⟨(some (.r (.r .h))), .q (.ci .u32 (.t (.l (.r .h)))), none⟩, ⟨(some (.l (.l (.l .h)))), .q (.fa 1 (.t (.l .h))), none⟩, ⟨(some (.r (.l (.l .h)))), .q (.ld1 (.t (.l (.l (.l .h))))), none⟩, ⟨(some (.l (.r (.l .h)))), .q (.bi .mul (.c (.i .i64 16)) (.t (.r (.l (.l .h))))), none⟩, ⟨(some (.r (.r (.l .h)))), .q (.fa 2 (.t (.l .h))), none⟩, ⟨(some (.l (.l (.r .h)))), .q (.ld1 (.t (.r (.r (.l .h))))), none⟩, ⟨(some (.r (.l (.r .h)))), .q (.bi .add (.t (.l (.r (.l .h)))) (.t (.l (.l (.r .h))))), none⟩, ⟨(some (.l (.r (.r .h)))), .q (.ci .u32 (.t (.r (.l (.r .h))))), none⟩, ⟨(some (.r (.r (.r .h)))), .q (.bi .mul (.t (.l (.r (.r .h)))) (.c (.i .u32 256))), none⟩, ⟨(some (.l (.l (.l (.l .h))))), .q (.bi .add (.t (.r (.r .h))) (.t (.r (.r (.r .h))))), none⟩, ⟨(some (.l (.l .h))), .q (.mv (.t (.l (.l (.l (.l .h)))))), none⟩]) k s R := rfl
noncomputable def b13_3 : CC := (.reg [⟨(some (.r (.l (.l (.l .h))))), .q (.fa 0 (.t (.l .h))), none⟩, ⟨(some (.l (.r (.l (.l .h))))), .q (.ld1 (.t (.r (.l (.l (.l .h)))))), none⟩, ⟨(some (.r (.r (.l (.l .h))))), .e (.call 26 [(.t (.l (.r (.l (.l .h)))))]), none⟩, ⟨(some (.l (.l (.r (.l .h))))), .q (.bi .eql (.t (.r (.r (.l (.l .h))))) (.c (.i .i64 5))), none⟩])
theorem w13_3 (k : Kn) (s : St) (R : Ex → St → Prop) : Wp b13_3 k s R = Wp (.reg [⟨(some (.r (.l (.l (.l .h))))), .q (.fa 0 (.t (.l .h))), none⟩, ⟨(some (.l (.r (.l (.l .h))))), .q (.ld1 (.t (.r (.l (.l (.l .h)))))), none⟩, ⟨(some (.r (.r (.l (.l .h))))), .e (.call 26 [(.t (.l (.r (.l (.l .h)))))]), none⟩, ⟨(some (.l (.l (.r (.l .h))))), .q (.bi .eql (.t (.r (.r (.l (.l .h))))) (.c (.i .i64 5))), none⟩]) k s R := rfl
noncomputable def b13_4 : CC := (.reg [⟨(some (.r (.l (.r (.l .h))))), .q (.mv (.t (.l (.l .h)))), none⟩, ⟨(some (.l (.r (.r (.l .h))))), .q (.fa 3 (.t (.l .h))), none⟩, ⟨(some (.r (.r (.r (.l .h))))), .q (.ld1 (.t (.l (.r (.r (.l .h)))))), none⟩, ⟨(some (.l (.l (.l (.r .h))))), .q (.ci .u32 (.t (.r (.r (.r (.l .h)))))), none⟩, ⟨(some (.r (.l (.l (.r .h))))), .q (.bi .mul (.t (.l (.l (.l (.r .h))))) (.c (.i .u32 65536))), none⟩, ⟨(some (.l (.r (.l (.r .h))))), .q (.bi .add (.t (.r (.l (.r (.l .h))))) (.t (.r (.l (.l (.r .h)))))), none⟩, ⟨(some (.r .h)), .q (.mv (.t (.l (.r (.l (.r .h)))))), none⟩])
theorem w13_4 (k : Kn) (s : St) (R : Ex → St → Prop) : Wp b13_4 k s R = Wp (.reg [⟨(some (.r (.l (.r (.l .h))))), .q (.mv (.t (.l (.l .h)))), none⟩, ⟨(some (.l (.r (.r (.l .h))))), .q (.fa 3 (.t (.l .h))), none⟩, ⟨(some (.r (.r (.r (.l .h))))), .q (.ld1 (.t (.l (.r (.r (.l .h)))))), none⟩, ⟨(some (.l (.l (.l (.r .h))))), .q (.ci .u32 (.t (.r (.r (.r (.l .h)))))), none⟩, ⟨(some (.r (.l (.l (.r .h))))), .q (.bi .mul (.t (.l (.l (.l (.r .h))))) (.c (.i .u32 65536))), none⟩, ⟨(some (.l (.r (.l (.r .h))))), .q (.bi .add (.t (.r (.l (.r (.l .h))))) (.t (.r (.l (.l (.r .h)))))), none⟩, ⟨(some (.r .h)), .q (.mv (.t (.l (.r (.l (.r .h)))))), none⟩]) k s R := rfl
noncomputable def b13_5 : CC := (.seq b13_3 (.cond (.t (.l (.l (.r (.l .h))))) (.seq b13_4 .ret) .skip))
theorem w13_5 (k : Kn) (s : St) (R : Ex → St → Prop) : Wp b13_5 k s R = Wp (.seq b13_3 (.cond (.t (.l (.l (.r (.l .h))))) (.seq b13_4 .ret) .skip)) k s R := rfl
noncomputable def b13_6 : CC := (.reg [⟨(some (.r (.r (.l (.r .h))))), .q (.mv (.t (.l (.l .h)))), none⟩, ⟨(some (.l (.l (.r (.r .h))))), .q (.fa 4 (.t (.l .h))), none⟩, ⟨(some (.r (.l (.r (.r .h))))), .q (.ld1 (.t (.l (.l (.r (.r .h)))))), none⟩, ⟨(some (.l (.r (.r (.r .h))))), .q (.bi .and (.t (.r (.l (.r (.r .h))))) (.c (.i .i64 65535))), none⟩, ⟨(some (.r (.r (.r (.r .h))))), .q (.ci .u32 (.t (.l (.r (.r (.r .h)))))), none⟩, ⟨(some (.l (.l (.l (.l (.l .h)))))), .q (.bi .mul (.t (.r (.r (.r (.r .h))))) (.c (.i .u32 65536))), none⟩, ⟨(some (.r (.l (.l (.l (.l .h)))))), .q (.bi .add (.t (.r (.r (.l (.r .h))))) (.t (.l (.l (.l (.l (.l .h))))))), none⟩, ⟨(some (.r .h)), .q (.mv (.t (.r (.l (.l (.l (.l .h))))))), none⟩])
theorem w13_6 (k : Kn) (s : St) (R : Ex → St → Prop) : Wp b13_6 k s R = Wp (.reg [⟨(some (.r (.r (.l (.r .h))))), .q (.mv (.t (.l (.l .h)))), none⟩, ⟨(some (.l (.l (.r (.r .h))))), .q (.fa 4 (.t (.l .h))), none⟩, ⟨(some (.r (.l (.r (.r .h))))), .q (.ld1 (.t (.l (.l (.r (.r .h)))))), none⟩, ⟨(some (.l (.r (.r (.r .h))))), .q (.bi .and (.t (.r (.l (.r (.r .h))))) (.c (.i .i64 65535))), none⟩, ⟨(some (.r (.r (.r (.r .h))))), .q (.ci .u32 (.t (.l (.r (.r (.r .h)))))), none⟩, ⟨(some (.l (.l (.l (.l (.l .h)))))), .q (.bi .mul (.t (.r (.r (.r (.r .h))))) (.c (.i .u32 65536))), none⟩, ⟨(some (.r (.l (.l (.l (.l .h)))))), .q (.bi .add (.t (.r (.r (.l (.r .h))))) (.t (.l (.l (.l (.l (.l .h))))))), none⟩, ⟨(some (.r .h)), .q (.mv (.t (.r (.l (.l (.l (.l .h))))))), none⟩]) k s R := rfl
noncomputable def c13 : CF := .mk 6 [.t (.r .h)] (.seq b13_1 (.seq b13_2 (.seq b13_5 (.seq b13_6 .ret))))
theorem e13 (v0 : V) : argTr 6 [v0] = (.n (.n (.n (.n (.n (.n .e none .e) none (.n .e none .e)) none (.n (.n .e none .e) none (.n .e none .e))) none (.n (.n (.n .e none .e) none (.n .e none .e)) none (.n (.n .e none .e) none (.n .e none .e)))) none (.n (.n (.n (.n .e none .e) none (.n .e none .e)) none (.n (.n .e none .e) none (.n .e none .e))) none (.n (.n (.n .e none .e) none (.n .e none .e)) none (.n (.n .e none .e) none (.n .e none .e))))) (some v0) (.n (.n (.n (.n (.n .e none .e) none (.n .e none .e)) none (.n (.n .e none .e) none (.n .e none .e))) none (.n (.n (.n .e none .e) none (.n .e none .e)) none (.n (.n .e none .e) none (.n .e none .e)))) none (.n (.n (.n (.n .e none .e) none (.n .e none .e)) none (.n (.n .e none .e) none (.n .e none .e))) none (.n (.n (.n .e none .e) none (.n .e none .e)) none (.n (.n .e none .e) none (.n .e none .e)))))) := rfl
theorem mayI_form {op d a b i : Int} (h : mayI op d a b i = true) : (formI op = 5 → i = 0) ∧ (formI op ≠ 5 → b = 0) := by
  unfold mayI at h
  simp only [Bool.and_eq_true, Bool.or_eq_true, decide_eq_true_eq] at h
  obtain ⟨h1, h2, h3, h4, h5, h6⟩ := h
  constructor
  · intro hf
    rcases h6 with h6 | ⟨h6, _⟩
    · exact h6
    · rw [hf] at h6; cases h6
  · intro hf
    have r5 := may_regI h5
    by_cases hb : b = 0
    · exact hb
    · have := r5.2.2 hb
      unfold bI at this
      simp only [decide_eq_true_eq] at this
      exact absurd this hf
theorem t13 (Φ : Nat → Option CF) (h : Φ 13 = some c13) (h26 : Φ 26 = some (.orc (pureO h25))) (op d a b i : Int) (hm : mayI op d a b i = true) (ct : Nat) :
    To Φ 13 [.g [.i .i64 op, .i .i64 d, .i .i64 a, .i .i64 b, .i .i64 i]] ct (.i .u32 (wordI op d a b i : Nat)) := by
  refine to_walk h ?_
  obtain ⟨b1, b2, b3, b4, b5, b6, b7, b8, b9, b10, b11⟩ := mayI_bounds hm
  obtain ⟨f1, f2⟩ := mayI_form hm
  obtain ⟨o, rfl⟩ := Int.eq_ofNat_of_zero_le (show 0 ≤ op by omega)
  obtain ⟨d, rfl⟩ := Int.eq_ofNat_of_zero_le b3
  obtain ⟨a, rfl⟩ := Int.eq_ofNat_of_zero_le b5
  obtain ⟨b, rfl⟩ := Int.eq_ofNat_of_zero_le b7
  obtain ⟨j, hj⟩ := Int.eq_ofNat_of_zero_le (show 0 ≤ i % 65536 by omega)
  have a1 := i64_and65535 i
  rw [hj] at a1
  have e1 := u32_nat o (by omega)
  have e4 := u32_nat b (by omega)
  have e5 := u32_nat j (by omega)
  have m1 : biV .mul (.i .i64 16) (.i .i64 (d : Int)) = some (.i .i64 (16 * (d : Int))) := i64_mul 16 d (by omega) (by omega)
  have m2 : biV .add (.i .i64 (16 * (d : Int))) (.i .i64 (a : Int)) = some (.i .i64 ((16 * d + a : Nat) : Int)) := by rw [i64_add _ _ (by omega) (by omega)]; congr 2
  have e6 := u32_nat (16 * d + a) (by omega)
  have m3 : biV .mul (.i .u32 ((16 * d + a : Nat) : Int)) (.i .u32 256) = some (.i .u32 (((16 * d + a) * 256 : Nat) : Int)) := u32_mul (16 * d + a) 256 (by omega)
  have m4 : biV .add (.i .u32 (o : Int)) (.i .u32 (((16 * d + a) * 256 : Nat) : Int)) = some (.i .u32 ((o + (16 * d + a) * 256 : Nat) : Int)) := u32_add _ _ (by omega)
  have m5 : biV .mul (.i .u32 (b : Int)) (.i .u32 65536) = some (.i .u32 ((b * 65536 : Nat) : Int)) := u32_mul b 65536 (by omega)
  have m6 : biV .mul (.i .u32 (j : Int)) (.i .u32 65536) = some (.i .u32 ((j * 65536 : Nat) : Int)) := u32_mul j 65536 (by omega)
  have m7 : biV .add (.i .u32 ((o + (16 * d + a) * 256 : Nat) : Int)) (.i .u32 ((b * 65536 : Nat) : Int)) = some (.i .u32 ((o + (16 * d + a) * 256 + b * 65536 : Nat) : Int)) := u32_add _ _ (by omega)
  have m8 : biV .add (.i .u32 ((o + (16 * d + a) * 256 : Nat) : Int)) (.i .u32 ((j * 65536 : Nat) : Int)) = some (.i .u32 ((o + (16 * d + a) * 256 + j * 65536 : Nat) : Int)) := u32_add _ _ (by omega)
  simp only [wp_seq, seqQ_nrm, wp_reg, wo_nil, xo_q, xo_a, xo_e, putO, putA, putE, v_mv, v_bi, bi_eql, v_ld1, ld1_p, load1_same, v_fa, xo_call, callC_orc, ev_t, ev_c, evs_nil, evs_cons, Tr.setP_h, Tr.setP_l, Tr.setP_r, getT_h, getT_l, getT_r, List.getElem?_cons_zero, List.getElem?_cons_succ, if_true, pureO_of, ofO_some, flatten_g, allOne_nil, allOne_cons, isOne_i, Bool.and_true, List.length_cons, List.length_nil, Nat.reduceAdd, Nat.zero_add, and_self, v_ci, a_bx_eq, e13, w13_1, w13_2, w13_3, w13_5, h26, h25_eq, e1, m1, m2, e6, m3, m4]
  refine wp_cond (by simp only [ev_t, getT_h, getT_l, getT_r]; rfl) (fun h => ?_) (fun h => ?_) <;> simp only [wp_seq, seqQ_nrm, seqQ_ret, wp_reg, wp_ret, wp_skip, wo_nil, xo_q, putO, v_mv, v_bi, v_ld1, ld1_p, load1_same, v_fa, ev_t, ev_c, Tr.setP_h, Tr.setP_l, Tr.setP_r, getT_h, getT_l, getT_r, List.getElem?_cons_zero, List.getElem?_cons_succ, endQ_ret, endO, resV_nil', resV_t, consO_some, oneV_one, Nat.zero_add, v_ci, Nat.add_assoc, w13_4, w13_6, h, e4, e5, m5, m6, m7, m8, a1]
  · have hf : formI o = 5 := of_decide_eq_true h
    have := f1 hf
    subst this
    congr 2
    unfold wordI
    omega
  · have hf : formI o ≠ 5 := of_decide_eq_false h
    have := f2 hf
    congr 2
    unfold wordI
    omega
end Go.Proofs.YtffpeieapadocaaGreatDoor.Ev
set_option maxRecDepth 10000
set_option maxHeartbeats 16000000
namespace Go.Proofs.YtffpeieapadocaaGreatDoor.Ev
open Go
noncomputable def b31_1 : CC := (.reg [⟨(some (.r .h)), .a (.al 26 [(.i .i64 0), (.i .i64 0), (.i .i64 0), (.i .i64 0), (.i .i64 0)]), none⟩, ⟨(some (.l (.l .h))), .q (.mv (.c (.i .i64 0))), none⟩])
noncomputable def b31_2 : CC := (.reg [⟨(some (.r (.l (.l .h)))), .q (.mv (.t .h)), none⟩, ⟨(some (.l (.r (.l .h)))), .q (.bi .and (.t (.r (.l (.l .h)))) (.c (.i .u32 255))), none⟩, ⟨(some (.r (.r (.l .h)))), .q (.ci .i64 (.t (.l (.r (.l .h))))), none⟩, ⟨(some (.l (.l (.r .h)))), .q (.bld [(.i .i64 0), (.i .i64 0), (.i .i64 0), (.i .i64 0), (.i .i64 0)] [(0, 1, (.t (.r (.r (.l .h)))))]), none⟩, ⟨(some (.r (.l .h))), .a (.al 26 [(.i .i64 0), (.i .i64 0), (.i .i64 0), (.i .i64 0), (.i .i64 0)]), none⟩, ⟨none, .e (.st 5 (.t (.r (.l .h))) (.t (.l (.l (.r .h))))), none⟩])
noncomputable def b31_3 : CC := (.reg [⟨(some (.r (.l (.r .h)))), .q (.fa 0 (.t (.r (.l .h)))), none⟩, ⟨(some (.l (.r (.r .h)))), .q (.ld1 (.t (.r (.l (.r .h))))), none⟩, ⟨(some (.r (.r (.r .h)))), .e (.call 25 [(.t (.l (.r (.r .h))))]), none⟩, ⟨(some (.l (.l (.l (.l .h))))), .e (.call 40 [(.t (.r (.r (.r .h))))]), none⟩, ⟨(some (.l (.r .h))), .a (.al 80 [(.b false), (.b false), (.b false), (.b false)]), none⟩, ⟨none, .e (.st 4 (.t (.l (.r .h))) (.t (.l (.l (.l (.l .h)))))), none⟩])
noncomputable def b31_4 : CC := (.reg [⟨(some (.r (.l (.l (.l .h))))), .q (.fa 0 (.t (.l (.r .h)))), none⟩, ⟨(some (.l (.r (.l (.l .h))))), .q (.ld1 (.t (.r (.l (.l (.l .h)))))), none⟩])
noncomputable def b31_5 : CC := (.reg [⟨(some (.r (.r (.l (.l .h))))), .q (.mv (.t .h)), none⟩, ⟨(some (.l (.l (.r (.l .h))))), .q (.bi .shr (.t (.r (.r (.l (.l .h))))) (.c (.i .u64 12))), none⟩, ⟨(some (.r (.l (.r (.l .h))))), .q (.bi .and (.t (.l (.l (.r (.l .h))))) (.c (.i .u32 15))), none⟩, ⟨(some (.l (.r (.r (.l .h))))), .q (.ci .i64 (.t (.r (.l (.r (.l .h)))))), none⟩, ⟨(some (.r (.r (.r (.l .h))))), .q (.fa 1 (.t (.r (.l .h)))), none⟩, ⟨none, .e (.st 1 (.t (.r (.r (.r (.l .h))))) (.t (.l (.r (.r (.l .h)))))), none⟩])
noncomputable def b31_6 : CC := (.seq b31_4 (.cond (.t (.l (.r (.l (.l .h))))) b31_5 .skip))
noncomputable def b31_7 : CC := (.reg [⟨(some (.l (.l (.l (.r .h))))), .q (.fa 1 (.t (.l (.r .h)))), none⟩, ⟨(some (.r (.l (.l (.r .h))))), .q (.ld1 (.t (.l (.l (.l (.r .h)))))), none⟩])
noncomputable def b31_8 : CC := (.reg [⟨(some (.l (.r (.l (.r .h))))), .q (.mv (.t .h)), none⟩, ⟨(some (.r (.r (.l (.r .h))))), .q (.bi .shr (.t (.l (.r (.l (.r .h))))) (.c (.i .u64 8))), none⟩, ⟨(some (.l (.l (.r (.r .h))))), .q (.bi .and (.t (.r (.r (.l (.r .h))))) (.c (.i .u32 15))), none⟩, ⟨(some (.r (.l (.r (.r .h))))), .q (.ci .i64 (.t (.l (.l (.r (.r .h)))))), none⟩, ⟨(some (.l (.r (.r (.r .h))))), .q (.fa 2 (.t (.r (.l .h)))), none⟩, ⟨none, .e (.st 1 (.t (.l (.r (.r (.r .h))))) (.t (.r (.l (.r (.r .h)))))), none⟩])
noncomputable def b31_9 : CC := (.seq b31_7 (.cond (.t (.r (.l (.l (.r .h))))) b31_8 .skip))
noncomputable def b31_10 : CC := (.reg [⟨(some (.r (.r (.r (.r .h))))), .q (.fa 2 (.t (.l (.r .h)))), none⟩, ⟨(some (.l (.l (.l (.l (.l .h)))))), .q (.ld1 (.t (.r (.r (.r (.r .h)))))), none⟩])
noncomputable def b31_11 : CC := (.reg [⟨(some (.r (.l (.l (.l (.l .h)))))), .q (.mv (.t .h)), none⟩, ⟨(some (.l (.r (.l (.l (.l .h)))))), .q (.bi .shr (.t (.r (.l (.l (.l (.l .h)))))) (.c (.i .u64 16))), none⟩, ⟨(some (.r (.r (.l (.l (.l .h)))))), .q (.ci .i64 (.t (.l (.r (.l (.l (.l .h))))))), none⟩, ⟨(some (.l (.l (.r (.l (.l .h)))))), .q (.fa 3 (.t (.r (.l .h)))), none⟩, ⟨none, .e (.st 1 (.t (.l (.l (.r (.l (.l .h)))))) (.t (.r (.r (.l (.l (.l .h))))))), none⟩])
noncomputable def b31_12 : CC := (.seq b31_10 (.cond (.t (.l (.l (.l (.l (.l .h)))))) b31_11 .skip))
noncomputable def b31_13 : CC := (.reg [⟨(some (.r (.l (.r (.l (.l .h)))))), .q (.fa 3 (.t (.l (.r .h)))), none⟩, ⟨(some (.l (.r (.r (.l (.l .h)))))), .q (.ld1 (.t (.r (.l (.r (.l (.l .h))))))), none⟩])
noncomputable def b31_14 : CC := (.reg [⟨(some (.r (.r (.r (.l (.l .h)))))), .q (.mv (.t .h)), none⟩, ⟨(some (.l (.l (.l (.r (.l .h)))))), .q (.bi .shr (.t (.r (.r (.r (.l (.l .h)))))) (.c (.i .u64 16))), none⟩, ⟨(some (.r (.l (.l (.r (.l .h)))))), .q (.ci .i16 (.t (.l (.l (.l (.r (.l .h))))))), none⟩, ⟨(some (.l (.r (.l (.r (.l .h)))))), .q (.ci .i64 (.t (.r (.l (.l (.r (.l .h))))))), none⟩, ⟨(some (.r (.r (.l (.r (.l .h)))))), .q (.fa 4 (.t (.r (.l .h)))), none⟩, ⟨none, .e (.st 1 (.t (.r (.r (.l (.r (.l .h)))))) (.t (.l (.r (.l (.r (.l .h))))))), none⟩])
noncomputable def b31_15 : CC := (.reg [⟨(some (.l (.l (.r (.r (.l .h)))))), .q (.fa 0 (.t (.r (.l .h)))), none⟩, ⟨(some (.r (.l (.r (.r (.l .h)))))), .q (.ld1 (.t (.l (.l (.r (.r (.l .h))))))), none⟩, ⟨(some (.l (.r (.r (.r (.l .h)))))), .e (.call 54 [(.t (.r (.l (.r (.r (.l .h))))))]), none⟩])
noncomputable def b31_16 : CC := (.reg [⟨(some (.r (.r (.r (.r (.l .h)))))), .q (.mv (.t .h)), none⟩, ⟨(some (.l (.l (.l (.l (.r .h)))))), .q (.bi .shr (.t (.r (.r (.r (.r (.l .h)))))) (.c (.i .u64 16))), none⟩, ⟨(some (.r (.l (.l (.l (.r .h)))))), .q (.ci .i64 (.t (.l (.l (.l (.l (.r .h))))))), none⟩, ⟨(some (.l (.r (.l (.l (.r .h)))))), .q (.fa 4 (.t (.r (.l .h)))), none⟩, ⟨none, .e (.st 1 (.t (.l (.r (.l (.l (.r .h)))))) (.t (.r (.l (.l (.l (.r .h))))))), none⟩])
noncomputable def b31_17 : CC := (.seq b31_15 (.cond (.t (.l (.r (.r (.r (.l .h)))))) b31_16 .skip))
noncomputable def b31_18 : CC := (.cond (.t (.l (.r (.r (.l (.l .h)))))) (.seq b31_14 b31_17) .skip)
noncomputable def b31_19 : CC := (.reg [⟨(some (.l (.l (.r (.l (.r .h)))))), .q (.ldn 5 (.t (.r (.l .h)))), none⟩, ⟨(some (.r (.l (.r (.l (.r .h)))))), .e (.call 10 [(.t (.l (.l (.r (.l (.r .h))))))]), none⟩, ⟨(some (.r (.r (.l (.l (.r .h)))))), .q (.mv (.t (.r (.l (.r (.l (.r .h))))))), none⟩, ⟨(some (.l (.r (.r (.l (.r .h)))))), .q (.ex 0 (.t (.r (.r (.l (.l (.r .h))))))), none⟩, ⟨(some (.r (.r (.r (.l (.r .h)))))), .q (.ex 1 (.t (.r (.r (.l (.l (.r .h))))))), none⟩, ⟨(some (.r (.r .h))), .q (.mv (.t (.l (.r (.r (.l (.r .h))))))), none⟩, ⟨(some (.l (.l (.l .h)))), .q (.mv (.t (.r (.r (.r (.l (.r .h))))))), none⟩])
noncomputable def b31_20 : CC := (.reg [⟨(some (.l (.l (.l (.r (.r .h)))))), .q (.mv (.t (.l (.l (.l .h))))), none⟩, ⟨(some (.r (.l (.l (.r (.r .h)))))), .q (.bi .neq (.t (.l (.l (.l (.r (.r .h)))))) (.c (.i .i64 0))), none⟩, ⟨(some (.l (.r (.l (.r (.r .h)))))), .q (.mv (.t (.r (.l (.l (.r (.r .h))))))), none⟩, ⟨(some (.r (.r (.l (.r (.r .h)))))), .q (.mv (.t (.r (.r .h)))), (some ((.l (.r (.l (.r (.r .h))))), false))⟩, ⟨(some (.l (.l (.r (.r (.r .h)))))), .q (.mv (.t .h)), (some ((.l (.r (.l (.r (.r .h))))), false))⟩, ⟨(some (.r (.l (.r (.r (.r .h)))))), .q (.bi .neq (.t (.r (.r (.l (.r (.r .h)))))) (.t (.l (.l (.r (.r (.r .h))))))), (some ((.l (.r (.l (.r (.r .h))))), false))⟩, ⟨(some (.l (.r (.r (.r (.r .h)))))), .q (.pk (.t (.l (.r (.l (.r (.r .h)))))) (.c (.b true)) (.t (.r (.l (.r (.r (.r .h))))))), none⟩])
noncomputable def b31_21 : CC := (.reg [⟨(some (.r (.r (.r (.r (.r .h)))))), .q (.bld [(.i .i64 0), (.i .i64 0), (.i .i64 0), (.i .i64 0), (.i .i64 0)] []), none⟩, ⟨none, .e (.st 5 (.t (.r .h)) (.t (.r (.r (.r (.r (.r .h))))))), none⟩, ⟨(some (.l (.l .h))), .q (.mv (.c (.i .i64 4))), none⟩])
noncomputable def b31_22 : CC := (.cond (.t (.l (.r (.r (.r (.r .h)))))) (.seq b31_21 .ret) .skip)
noncomputable def b31_23 : CC := (.reg [⟨(some (.l (.l (.l (.l (.l (.l .h))))))), .q (.ldn 5 (.t (.r (.l .h)))), none⟩, ⟨none, .e (.st 5 (.t (.r .h)) (.t (.l (.l (.l (.l (.l (.l .h)))))))), none⟩, ⟨(some (.l (.l .h))), .q (.mv (.c (.i .i64 0))), none⟩])
noncomputable def b31_24 : CC := (.seq (.seq b31_19 (.seq b31_20 b31_22)) (.seq b31_23 .ret))
noncomputable def b31_25 : CC := (.seq b31_9 (.seq b31_12 (.seq (.seq b31_13 b31_18) b31_24)))
noncomputable def c31 : CF := .mk 7 [.cn (.r .h) 5, .t (.l (.l .h))] (.seq b31_1 (.seq b31_2 (.seq b31_3 (.seq b31_6 b31_25))))
def w10 (op d a b i : Int) : Int := if mayI op d a b i = true then (wordI op d a b i : Nat) else 0
def er10 (op d a b i : Int) : Int := if mayI op d a b i = true then 0 else 2
def h10 : List V → Option V
  | [.g [.i .i64 op, .i .i64 d, .i .i64 a, .i .i64 b, .i .i64 i]] => some (.t [.i .u32 (w10 op d a b i), .i .i64 (er10 op d a b i)])
  | _ => none
theorem h10_eq (op d a b i : Int) : h10 [.g [.i .i64 op, .i .i64 d, .i .i64 a, .i .i64 b, .i .i64 i]] = some (.t [.i .u32 (w10 op d a b i), .i .i64 (er10 op d a b i)]) := rfl
theorem u32_shr8 (w : Nat) : biV .shr (.i .u32 (w : Int)) (.i .u64 8) = some (.i .u32 ((w / 256 : Nat) : Int)) := u32_shr w 8 (by decide)
theorem u32_shr16 (w : Nat) : biV .shr (.i .u32 (w : Int)) (.i .u64 16) = some (.i .u32 ((w / 65536 : Nat) : Int)) := u32_shr w 16 (by decide)
end Go.Proofs.YtffpeieapadocaaGreatDoor.Ev
set_option maxRecDepth 10000
set_option maxHeartbeats 16000000
namespace Go.Proofs.YtffpeieapadocaaGreatDoor.Ev
open Go
def h12 : List V → Option V
  | [.g [.i .i64 op, .i .i64 d, .i .i64 a, .i .i64 b, .i .i64 i]] => some (.b (mayI op d a b i))
  | _ => none
theorem h12_eq (op d a b i : Int) : h12 [.g [.i .i64 op, .i .i64 d, .i .i64 a, .i .i64 b, .i .i64 i]] = some (.b (mayI op d a b i)) := rfl
def h13 : List V → Option V
  | [.g [.i .i64 op, .i .i64 d, .i .i64 a, .i .i64 b, .i .i64 i]] => if mayI op d a b i = true then some (.i .u32 (wordI op d a b i : Nat)) else none
  | _ => none
theorem h13_eq {op d a b i : Int} (h : (!mayI op d a b i) = false) : h13 [.g [.i .i64 op, .i .i64 d, .i .i64 a, .i .i64 b, .i .i64 i]] = some (.i .u32 (wordI op d a b i : Nat)) := by
  show (if mayI op d a b i = true then some (V.i .u32 (wordI op d a b i : Nat)) else none) = _
  rw [if_pos (by simpa using h)]
end Go.Proofs.YtffpeieapadocaaGreatDoor.Ev
set_option maxRecDepth 10000
set_option maxHeartbeats 16000000
namespace Go.Proofs.YtffpeieapadocaaGreatDoor.Ev
open Go
end Go.Proofs.YtffpeieapadocaaGreatDoor.Ev
set_option maxRecDepth 10000
set_option maxHeartbeats 16000000
namespace Go.Proofs.YtffpeieapadocaaGreatDoor.Ev
open Go
noncomputable def b11_1 : CC := (.reg [⟨(some (.l (.l .h))), .q (.mv (.t .h)), none⟩, ⟨(some (.r .h)), .q (.mv (.t (.l (.l .h)))), none⟩])
theorem w11_1 (k : Kn) (s : St) (R : Ex → St → Prop) : Wp b11_1 k s R = Wp (.reg [⟨(some (.l (.l .h))), .q (.mv (.t .h)), none⟩, ⟨(some (.r .h)), .q (.mv (.t (.l (.l .h)))), none⟩]) k s R := rfl
noncomputable def b11_2 : CC := (.seq (.reg [⟨(some (.r .h)), .q (.mv (.c (.i .i64 0))), none⟩]) (.seq b11_1 .ret))
theorem w11_2 (k : Kn) (s : St) (R : Ex → St → Prop) : Wp b11_2 k s R = Wp (.seq (.reg [⟨(some (.r .h)), .q (.mv (.c (.i .i64 0))), none⟩]) (.seq b11_1 .ret)) k s R := rfl
noncomputable def c11 : CF := .mk 3 [.t (.r .h)] b11_2
theorem e11 (v0 : V) : argTr 3 [v0] = (.n (.n (.n .e none .e) none (.n .e none .e)) (some v0) (.n (.n .e none .e) none (.n .e none .e))) := rfl
theorem t11 (Φ : Nat → Option CF) (h : Φ 11 = some c11) (x : Int) (ct : Nat) : To Φ 11 [.i .i64 x] ct (.i .i64 x) := by
  refine to_walk h ?_
  simp only [wp_seq, seqQ_nrm, wp_reg, wp_ret, wo_nil, xo_q, putO, v_mv, ev_t, ev_c, Tr.setP_h, Tr.setP_l, Tr.setP_r, getT_h, getT_l, getT_r, endQ_ret, endO, resV_nil', resV_t, consO_some, oneV_one, e11, w11_1, w11_2]
end Go.Proofs.YtffpeieapadocaaGreatDoor.Ev
set_option maxRecDepth 10000
set_option maxHeartbeats 16000000
namespace Go.Proofs.YtffpeieapadocaaGreatDoor.Ev
open Go
end Go.Proofs.YtffpeieapadocaaGreatDoor.Ev
set_option maxRecDepth 10000
set_option maxHeartbeats 16000000
namespace Go.Proofs.YtffpeieapadocaaGreatDoor.Ev
open Go
noncomputable def b6_1 : CC := (.reg [⟨(some (.r (.l .h))), .q (.mv (.c (.b false))), none⟩])
noncomputable def b6_2 : CC := (.reg [⟨(some (.r (.l (.l (.l .h))))), .q (.mv (.t (.l .h))), none⟩, ⟨(some (.l (.r (.l (.l .h))))), .q (.ln .slice (.t (.r (.l (.l (.l .h)))))), none⟩, ⟨(some (.r (.r (.l (.l .h))))), .q (.bi .gtr (.t (.l (.r (.l (.l .h))))) (.c (.i .i64 4000))), none⟩])
noncomputable def b6_3 : CC := (.reg [⟨(some (.l (.l (.r (.l .h))))), .e (.call 8 []), none⟩, ⟨(some (.r (.l .h))), .q (.mv (.t (.l (.l (.r (.l .h)))))), none⟩])
noncomputable def b6_4 : CC := (.seq b6_2 (.cond (.t (.r (.r (.l (.l .h))))) (.seq b6_3 .ret) .skip))
noncomputable def b6_5 : CC := (.reg [⟨(some (.l (.r (.r (.l .h))))), .q (.mv (.t .h)), none⟩, ⟨(some (.r (.r (.r (.l .h))))), .e (.call 31 [(.t (.l (.r (.r (.l .h)))))]), none⟩, ⟨(some (.r (.l (.r (.l .h))))), .q (.mv (.t (.r (.r (.r (.l .h)))))), none⟩, ⟨(some (.l (.l (.l (.r .h))))), .q (.ex 0 (.t (.r (.l (.r (.l .h)))))), none⟩, ⟨(some (.r (.l (.l (.r .h))))), .q (.ex 1 (.t (.r (.l (.r (.l .h)))))), none⟩, ⟨(some (.l (.r .h))), .a (.al 26 [(.i .i64 0), (.i .i64 0), (.i .i64 0), (.i .i64 0), (.i .i64 0)]), none⟩, ⟨none, .e (.st 5 (.t (.l (.r .h))) (.t (.l (.l (.l (.r .h)))))), none⟩, ⟨(some (.r (.r .h))), .q (.mv (.t (.r (.l (.l (.r .h)))))), none⟩])
noncomputable def b6_6 : CC := (.reg [⟨(some (.r (.r (.l (.r .h))))), .q (.mv (.t .h)), none⟩, ⟨(some (.l (.l (.r (.r .h))))), .e (.call 32 [(.t (.r (.r (.l (.r .h)))))]), none⟩, ⟨(some (.l (.r (.l (.r .h))))), .q (.mv (.t (.l (.l (.r (.r .h)))))), none⟩, ⟨(some (.r (.l (.r (.r .h))))), .q (.ex 0 (.t (.l (.r (.l (.r .h)))))), none⟩, ⟨(some (.l (.r (.r (.r .h))))), .q (.ex 1 (.t (.l (.r (.l (.r .h)))))), none⟩, ⟨(some (.l (.l (.l .h)))), .a (.al 26 [(.i .i64 0), (.i .i64 0), (.i .i64 0), (.i .i64 0), (.i .i64 0)]), none⟩, ⟨none, .e (.st 5 (.t (.l (.l (.l .h)))) (.t (.r (.l (.r (.r .h)))))), none⟩, ⟨(some (.r (.l (.l .h)))), .q (.mv (.t (.l (.r (.r (.r .h)))))), none⟩])
noncomputable def b6_7 : CC := (.reg [⟨(some (.r (.r (.r (.r .h))))), .q (.mv (.t (.l .h))), none⟩, ⟨(some (.l (.l (.l (.l (.l .h)))))), .e (.app 5 1 1 (.c .l0) (.t (.r (.r (.r (.r .h)))))), none⟩, ⟨(some (.r (.l (.l (.l (.l .h)))))), .a (.bsl 5 1 1 [(.i .u8 0)] [(0, (.c (.i .u8 119)))]), none⟩, ⟨(some (.l (.r (.l (.l (.l .h)))))), .e (.app 5 1 1 (.t (.l (.l (.l (.l (.l .h)))))) (.t (.r (.l (.l (.l (.l .h))))))), none⟩, ⟨(some (.l (.r (.l .h)))), .q (.mv (.t (.l (.r (.l (.l (.l .h))))))), none⟩])
noncomputable def b6_8 : CC := (.reg [⟨(some (.l (.l (.r (.l (.l .h)))))), .q (.mv (.t (.l (.r (.l .h))))), none⟩, ⟨(some (.r (.l (.r (.l (.l .h)))))), .q (.mv (.t (.l .h))), none⟩, ⟨(some (.l (.r (.r (.l (.l .h)))))), .q (.ln .slice (.t (.r (.l (.r (.l (.l .h))))))), none⟩, ⟨(some (.r (.r (.r (.l (.l .h)))))), .q (.slL 1 (.t (.l (.l (.r (.l (.l .h)))))) none (some (.t (.l (.r (.r (.l (.l .h))))))) none), none⟩, ⟨(some (.l (.l (.l (.r (.l .h)))))), .e (.call 33 [(.t (.r (.r (.r (.l (.l .h))))))]), none⟩, ⟨(some (.r (.r (.l (.l (.l .h)))))), .q (.mv (.t (.l (.l (.l (.r (.l .h))))))), none⟩, ⟨(some (.r (.l (.l (.r (.l .h)))))), .q (.ex 0 (.t (.r (.r (.l (.l (.l .h))))))), none⟩, ⟨(some (.l (.r (.l (.r (.l .h)))))), .q (.ex 1 (.t (.r (.r (.l (.l (.l .h))))))), none⟩, ⟨(some (.r (.r (.l .h)))), .a (.al 26 [(.i .i64 0), (.i .i64 0), (.i .i64 0), (.i .i64 0), (.i .i64 0)]), none⟩, ⟨none, .e (.st 5 (.t (.r (.r (.l .h)))) (.t (.r (.l (.l (.r (.l .h))))))), none⟩, ⟨(some (.l (.l (.r .h)))), .q (.mv (.t (.l (.r (.l (.r (.l .h))))))), none⟩])
noncomputable def b6_9 : CC := (.reg [⟨(some (.l (.l (.r (.r (.l .h)))))), .q (.mv (.t (.l .h))), none⟩, ⟨(some (.r (.l (.r (.r (.l .h)))))), .e (.call 34 [(.t (.l (.l (.r (.r (.l .h))))))]), none⟩, ⟨(some (.r (.r (.l (.r (.l .h)))))), .q (.mv (.t (.r (.l (.r (.r (.l .h))))))), none⟩, ⟨(some (.l (.r (.r (.r (.l .h)))))), .q (.ex 0 (.t (.r (.r (.l (.r (.l .h))))))), none⟩, ⟨(some (.r (.r (.r (.r (.l .h)))))), .q (.ex 1 (.t (.r (.r (.l (.r (.l .h))))))), none⟩, ⟨(some (.r (.l (.r .h)))), .a (.al 26 [(.i .i64 0), (.i .i64 0), (.i .i64 0), (.i .i64 0), (.i .i64 0)]), none⟩, ⟨none, .e (.st 5 (.t (.r (.l (.r .h)))) (.t (.l (.r (.r (.r (.l .h))))))), none⟩, ⟨(some (.l (.r (.r .h)))), .q (.mv (.t (.r (.r (.r (.r (.l .h))))))), none⟩])
noncomputable def b6_10 : CC := (.reg [⟨(some (.l (.l (.l (.l (.r .h)))))), .q (.ldn 5 (.t (.l (.r .h)))), none⟩, ⟨(some (.r (.l (.l (.l (.r .h)))))), .q (.ldn 5 (.t (.l (.l (.l .h))))), none⟩, ⟨(some (.l (.r (.l (.l (.r .h)))))), .q (.eq true (.agg [(0, .int), (1, .int), (2, .int), (3, .int), (4, .int)]) false (.t (.l (.l (.l (.l (.r .h)))))) (.t (.r (.l (.l (.l (.r .h))))))), none⟩, ⟨(some (.r (.r (.l (.l (.r .h)))))), .q (.mv (.t (.l (.r (.l (.l (.r .h))))))), none⟩, ⟨(some (.l (.l (.r (.l (.r .h)))))), .q (.mv (.t (.r (.r .h)))), (some ((.r (.r (.l (.l (.r .h))))), false))⟩, ⟨(some (.r (.l (.r (.l (.r .h)))))), .e (.call 11 [(.t (.l (.l (.r (.l (.r .h))))))]), (some ((.r (.r (.l (.l (.r .h))))), false))⟩, ⟨(some (.l (.r (.r (.l (.r .h)))))), .q (.mv (.t (.r (.l (.l .h))))), (some ((.r (.r (.l (.l (.r .h))))), false))⟩, ⟨(some (.r (.r (.r (.l (.r .h)))))), .q (.bi .neq (.t (.r (.l (.r (.l (.r .h)))))) (.t (.l (.r (.r (.l (.r .h))))))), (some ((.r (.r (.l (.l (.r .h))))), false))⟩, ⟨(some (.l (.l (.l (.r (.r .h)))))), .q (.pk (.t (.r (.r (.l (.l (.r .h)))))) (.c (.b true)) (.t (.r (.r (.r (.l (.r .h))))))), none⟩, ⟨(some (.r (.l (.l (.r (.r .h)))))), .q (.mv (.t (.l (.l (.l (.r (.r .h))))))), none⟩, ⟨(some (.l (.r (.l (.r (.r .h)))))), .q (.ldn 5 (.t (.r (.r (.l .h))))), (some ((.r (.l (.l (.r (.r .h))))), false))⟩, ⟨(some (.r (.r (.l (.r (.r .h)))))), .q (.ldn 5 (.t (.r (.l (.r .h))))), (some ((.r (.l (.l (.r (.r .h))))), false))⟩, ⟨(some (.l (.l (.r (.r (.r .h)))))), .q (.eq true (.agg [(0, .int), (1, .int), (2, .int), (3, .int), (4, .int)]) false (.t (.l (.r (.l (.r (.r .h)))))) (.t (.r (.r (.l (.r (.r .h))))))), (some ((.r (.l (.l (.r (.r .h))))), false))⟩, ⟨(some (.r (.l (.r (.r (.r .h)))))), .q (.pk (.t (.r (.l (.l (.r (.r .h)))))) (.c (.b true)) (.t (.l (.l (.r (.r (.r .h))))))), none⟩, ⟨(some (.l (.r (.r (.r (.r .h)))))), .q (.mv (.t (.r (.l (.r (.r (.r .h))))))), none⟩, ⟨(some (.r (.r (.r (.r (.r .h)))))), .q (.mv (.t (.l (.l (.r .h))))), (some ((.l (.r (.r (.r (.r .h))))), false))⟩, ⟨(some (.l (.l (.l (.l (.l (.l .h))))))), .e (.call 11 [(.t (.r (.r (.r (.r (.r .h))))))]), (some ((.l (.r (.r (.r (.r .h))))), false))⟩, ⟨(some (.r (.l (.l (.l (.l (.l .h))))))), .q (.mv (.t (.l (.r (.r .h))))), (some ((.l (.r (.r (.r (.r .h))))), false))⟩, ⟨(some (.l (.r (.l (.l (.l (.l .h))))))), .q (.bi .neq (.t (.l (.l (.l (.l (.l (.l .h))))))) (.t (.r (.l (.l (.l (.l (.l .h)))))))), (some ((.l (.r (.r (.r (.r .h))))), false))⟩, ⟨(some (.r (.r (.l (.l (.l (.l .h))))))), .q (.pk (.t (.l (.r (.r (.r (.r .h)))))) (.c (.b true)) (.t (.l (.r (.l (.l (.l (.l .h)))))))), none⟩, ⟨(some (.l (.l (.r (.l (.l (.l .h))))))), .q (.mv (.t (.r (.r (.l (.l (.l (.l .h)))))))), none⟩, ⟨(some (.r (.l (.r (.l (.l (.l .h))))))), .q (.mv (.t (.l (.r (.l .h))))), (some ((.l (.l (.r (.l (.l (.l .h)))))), false))⟩, ⟨(some (.l (.r (.r (.l (.l (.l .h))))))), .q (.bs (.t (.r (.l (.r (.l (.l (.l .h)))))))), (some ((.l (.l (.r (.l (.l (.l .h)))))), false))⟩, ⟨(some (.r (.r (.r (.l (.l (.l .h))))))), .q (.mv (.t (.l .h))), (some ((.l (.l (.r (.l (.l (.l .h)))))), false))⟩, ⟨(some (.l (.l (.l (.r (.l (.l .h))))))), .q (.bs (.t (.r (.r (.r (.l (.l (.l .h)))))))), (some ((.l (.l (.r (.l (.l (.l .h)))))), false))⟩, ⟨(some (.r (.l (.l (.r (.l (.l .h))))))), .q (.bi .add (.t (.l (.l (.l (.r (.l (.l .h))))))) (.c (.s 1 119))), (some ((.l (.l (.r (.l (.l (.l .h)))))), false))⟩, ⟨(some (.l (.r (.l (.r (.l (.l .h))))))), .q (.bi .neq (.t (.l (.r (.r (.l (.l (.l .h))))))) (.t (.r (.l (.l (.r (.l (.l .h)))))))), (some ((.l (.l (.r (.l (.l (.l .h)))))), false))⟩, ⟨(some (.r (.r (.l (.r (.l (.l .h))))))), .q (.pk (.t (.l (.l (.r (.l (.l (.l .h))))))) (.c (.b true)) (.t (.l (.r (.l (.r (.l (.l .h)))))))), none⟩])
noncomputable def b6_11 : CC := (.reg [⟨(some (.r (.l .h))), .q (.mv (.c (.b false))), none⟩])
noncomputable def b6_12 : CC := (.cond (.t (.r (.r (.l (.r (.l (.l .h))))))) (.seq b6_11 .ret) .skip)
noncomputable def b6_13 : CC := (.reg [⟨(some (.l (.l (.r (.r (.l (.l .h))))))), .q (.mv (.t (.r (.l (.l .h))))), none⟩, ⟨(some (.r (.l (.r (.r (.l (.l .h))))))), .q (.bi .eql (.t (.l (.l (.r (.r (.l (.l .h))))))) (.c (.i .i64 0))), none⟩])
noncomputable def b6_14 : CC := (.reg [⟨(some (.r (.r (.r (.r (.l (.l .h))))))), .q (.ldn 5 (.t (.l (.r .h)))), none⟩, ⟨(some (.l (.l (.l (.l (.r (.l .h))))))), .e (.call 10 [(.t (.r (.r (.r (.r (.l (.l .h)))))))]), none⟩, ⟨(some (.l (.r (.r (.r (.l (.l .h))))))), .q (.mv (.t (.l (.l (.l (.l (.r (.l .h)))))))), none⟩, ⟨(some (.r (.l (.l (.l (.r (.l .h))))))), .q (.ex 0 (.t (.l (.r (.r (.r (.l (.l .h)))))))), none⟩, ⟨(some (.l (.r (.l (.l (.r (.l .h))))))), .q (.ex 1 (.t (.l (.r (.r (.r (.l (.l .h)))))))), none⟩, ⟨(some (.r (.r (.r .h)))), .q (.mv (.t (.r (.l (.l (.l (.r (.l .h)))))))), none⟩, ⟨(some (.l (.l (.l (.l .h))))), .q (.mv (.t (.l (.r (.l (.l (.r (.l .h)))))))), none⟩])
noncomputable def b6_15 : CC := (.reg [⟨(some (.r (.r (.l (.l (.r (.l .h))))))), .q (.mv (.t (.r (.r (.r .h))))), none⟩, ⟨(some (.l (.l (.r (.l (.r (.l .h))))))), .q (.mv (.t .h)), none⟩, ⟨(some (.r (.l (.r (.l (.r (.l .h))))))), .q (.bi .eql (.t (.r (.r (.l (.l (.r (.l .h))))))) (.t (.l (.l (.r (.l (.r (.l .h)))))))), none⟩, ⟨(some (.l (.r (.r (.l (.r (.l .h))))))), .q (.mv (.t (.r (.l (.r (.l (.r (.l .h)))))))), none⟩, ⟨(some (.r (.r (.r (.l (.r (.l .h))))))), .q (.mv (.t (.l (.l (.l (.l .h)))))), (some ((.l (.r (.r (.l (.r (.l .h)))))), true))⟩, ⟨(some (.l (.l (.l (.r (.r (.l .h))))))), .e (.call 11 [(.t (.r (.r (.r (.l (.r (.l .h)))))))]), (some ((.l (.r (.r (.l (.r (.l .h)))))), true))⟩, ⟨(some (.r (.l (.l (.r (.r (.l .h))))))), .q (.bi .eql (.t (.l (.l (.l (.r (.r (.l .h))))))) (.c (.i .i64 0))), (some ((.l (.r (.r (.l (.r (.l .h)))))), true))⟩, ⟨(some (.l (.r (.l (.r (.r (.l .h))))))), .q (.pk (.t (.l (.r (.r (.l (.r (.l .h))))))) (.t (.r (.l (.l (.r (.r (.l .h))))))) (.c (.b false))), none⟩, ⟨(some (.r (.r (.l (.r (.r (.l .h))))))), .q (.mv (.t (.l (.r (.l (.r (.r (.l .h)))))))), none⟩, ⟨(some (.l (.l (.r (.r (.r (.l .h))))))), .e (.call 8 []), (some ((.r (.r (.l (.r (.r (.l .h)))))), true))⟩, ⟨(some (.r (.l (.r (.r (.r (.l .h))))))), .q (.pk (.t (.r (.r (.l (.r (.r (.l .h))))))) (.t (.l (.l (.r (.r (.r (.l .h))))))) (.c (.b false))), none⟩, ⟨(some (.r (.l .h))), .q (.mv (.t (.r (.l (.r (.r (.r (.l .h)))))))), none⟩])
noncomputable def b6_16 : CC := (.cond (.t (.r (.l (.r (.r (.l (.l .h))))))) (.seq b6_14 (.seq b6_15 .ret)) .skip)
noncomputable def b6_17 : CC := (.reg [⟨(some (.l (.r (.r (.r (.r (.l .h))))))), .e (.call 8 []), none⟩, ⟨(some (.r (.l .h))), .q (.mv (.t (.l (.r (.r (.r (.r (.l .h)))))))), none⟩])
noncomputable def b6_18 : CC := (.seq (.seq b6_10 b6_12) (.seq (.seq b6_13 b6_16) (.seq b6_17 .ret)))
noncomputable def b6_19 : CC := (.seq b6_5 (.seq b6_6 (.seq b6_7 (.seq b6_8 (.seq b6_9 b6_18)))))
noncomputable def c6 : CF := .mk 7 [.t (.r (.l .h))] (.seq b6_1 (.seq b6_4 b6_19))
theorem e6 (v0 v1 : V) : argTr 7 [v0, v1] = (.n (.n (.n (.n (.n (.n (.n .e none .e) none (.n .e none .e)) none (.n (.n .e none .e) none (.n .e none .e))) none (.n (.n (.n .e none .e) none (.n .e none .e)) none (.n (.n .e none .e) none (.n .e none .e)))) none (.n (.n (.n (.n .e none .e) none (.n .e none .e)) none (.n (.n .e none .e) none (.n .e none .e))) none (.n (.n (.n .e none .e) none (.n .e none .e)) none (.n (.n .e none .e) none (.n .e none .e))))) (some v1) (.n (.n (.n (.n (.n .e none .e) none (.n .e none .e)) none (.n (.n .e none .e) none (.n .e none .e))) none (.n (.n (.n .e none .e) none (.n .e none .e)) none (.n (.n .e none .e) none (.n .e none .e)))) none (.n (.n (.n (.n .e none .e) none (.n .e none .e)) none (.n (.n .e none .e) none (.n .e none .e))) none (.n (.n (.n .e none .e) none (.n .e none .e)) none (.n (.n .e none .e) none (.n .e none .e)))))) (some v0) (.n (.n (.n (.n (.n (.n .e none .e) none (.n .e none .e)) none (.n (.n .e none .e) none (.n .e none .e))) none (.n (.n (.n .e none .e) none (.n .e none .e)) none (.n (.n .e none .e) none (.n .e none .e)))) none (.n (.n (.n (.n .e none .e) none (.n .e none .e)) none (.n (.n .e none .e) none (.n .e none .e))) none (.n (.n (.n .e none .e) none (.n .e none .e)) none (.n (.n .e none .e) none (.n .e none .e))))) none (.n (.n (.n (.n (.n .e none .e) none (.n .e none .e)) none (.n (.n .e none .e) none (.n .e none .e))) none (.n (.n (.n .e none .e) none (.n .e none .e)) none (.n (.n .e none .e) none (.n .e none .e)))) none (.n (.n (.n (.n .e none .e) none (.n .e none .e)) none (.n (.n .e none .e) none (.n .e none .e))) none (.n (.n (.n .e none .e) none (.n .e none .e)) none (.n (.n .e none .e) none (.n .e none .e))))))) := rfl
def h11 : List V → Option V
  | [.i .i64 n] => some (.i .i64 n)
  | _ => none
theorem h11_eq (n : Int) : h11 [.i .i64 n] = some (.i .i64 n) := rfl
end Go.Proofs.YtffpeieapadocaaGreatDoor.Ev
