/- What is proved here: pieces of the evaluator's soundness: if the evaluator comes to a value, the model's run comes to it, for every world and tape; no conditions beyond the hypotheses of each theorem. -/
import Derived.Test.YtlghgdifncfogaaGreatDoorEv12
import GoSem.ClaimChange
set_option linter.unusedSimpArgs false
set_option linter.unusedVariables false
set_option linter.defProp false
namespace Go.Proofs.YtlghgdifncfogaaGreatDoor.Ev
open Go
inductive Ty where
  | bool | int (k : IntKind) | str | sl (e : Ty) | nil | cons (a b : Ty) | arr (n : Nat) (k : IntKind)
def Ty.D : Ty → Type
  | .bool => Bool
  | .int _ => Int
  | .str => List UInt8
  | .sl e => List e.D
  | .nil => Unit
  | .cons a b => a.D × b.D
  | .arr _ _ => List Int
def Ty.size : Ty → Nat
  | .nil => 0
  | .cons a b => a.size + b.size
  | .arr n _ => n
  | _ => 1
def Rp (F : RO) (M : Mem) (c : Nat) : (t : Ty) → List V → t.D → Prop
  | .bool, vs, x => vs = [.b x]
  | .int k, vs, n => (fun z : Int => vs = [.i k z] ∧ k.min ≤ z ∧ z ≤ k.max) n
  | .str, vs, x => (fun l : List UInt8 => vs = [sV l] ∧ l.length ≤ Go.maxLen) x
  | .sl e, vs, x => (fun l : List e.D => ∃ v es, vs = [v] ∧ SlAt F M c e.size v es ∧ l.length ≤ Go.maxLen ∧ es.length = l.length ∧ ∀ i (h : i < es.length) (h' : i < l.length), Rp F M c e es[i] l[i]) x
  | .nil, vs, _ => vs = []
  | .cons a b, vs, x => ∃ v1 v2, vs = v1 ++ v2 ∧ Rp F M c a v1 x.1 ∧ Rp F M c b v2 x.2
  | .arr n k, vs, x => (fun l : List Int => vs = l.map (V.i k) ∧ l.length = n ∧ ∀ z ∈ l, k.min ≤ z ∧ z ≤ k.max) x
theorem Rp.len {F : RO} {M : Mem} {c : Nat} : ∀ {t : Ty} {vs : List V} {x : t.D}, Rp F M c t vs x → vs.length = t.size
  | .bool, vs, x, h => by obtain rfl : vs = [.b x] := h; rfl
  | .int k, vs, x, h => by obtain ⟨rfl, _⟩ := h; rfl
  | .str, vs, x, h => by obtain ⟨rfl, _⟩ := h; rfl
  | .sl e, vs, x, h => by obtain ⟨v, es, rfl, _⟩ := h; rfl
  | .nil, vs, x, h => by obtain rfl : vs = [] := h; rfl
  | .cons a b, vs, x, h => by
    obtain ⟨v1, v2, rfl, h1, h2⟩ := h
    rw [List.length_append, h1.len, h2.len]; rfl
  | .arr n k, vs, x, h => by
    obtain ⟨rfl, hl, _⟩ := h
    exact (List.length_map (f := V.i k) (as := (x : List Int))).trans hl
def AsV (C : Nat) (cs : List Value) (vs : List V) : Prop := cs.map (vOf C) = vs.map some
theorem AsV.conc {C : Nat} : ∀ {cs : List Value} {vs : List V}, AsV C cs vs → concs E0 vs = cs ∧ bds (· < C) vs
  | [], [], _ => ⟨rfl, trivial⟩
  | [], _ :: _, h => by cases h
  | _ :: _, [], h => by cases h
  | c :: cs, v :: vs, h => by
    have h' : vOf C c :: cs.map (vOf C) = some v :: vs.map some := h
    injection h' with h1 h2
    obtain ⟨a1, a2⟩ := AsV.conc (cs := cs) (vs := vs) h2
    obtain ⟨b1, b2⟩ := vOf_conc h1
    exact ⟨by rw [concs, a1, b1], b2, a2⟩
theorem AsV.append {C : Nat} {cs cs' : List Value} {vs vs' : List V} (h : AsV C cs vs) (h' : AsV C cs' vs') : AsV C (cs ++ cs') (vs ++ vs') := by
  unfold AsV at *
  rw [List.map_append, List.map_append, h, h']
theorem AsV.len {C : Nat} {cs : List Value} {vs : List V} (h : AsV C cs vs) : cs.length = vs.length := by
  have := congrArg List.length h
  simpa using this
theorem AsV.get {C : Nat} {cs : List Value} {vs : List V} (h : AsV C cs vs) (i : Nat) (hi : i < cs.length) : vOf C cs[i] = vs[i]? := by
  have := congrArg (fun l : List (Option V) => l[i]?) h
  simp only [List.getElem?_map] at this
  rw [List.getElem?_eq_getElem hi, List.getElem?_eq_getElem (by rw [← h.len]; exact hi)] at this
  rw [List.getElem?_eq_getElem (by rw [← h.len]; exact hi)]
  simpa using this
section
variable {H : Type} {enc : TypeId × Value → H} {P : Program} {W : World} {C : Nat} {sp : Nat → Bool} {held : Bool}
def Ty.arg : Ty → List V → V
  | .cons _ _, vs => .g vs
  | .arr _ _, vs => .g vs
  | _, v :: _ => v
  | _, [] => undef
end
end Go.Proofs.YtlghgdifncfogaaGreatDoor.Ev
set_option maxRecDepth 100000
namespace Go.Proofs.YtlghgdifncfogaaGreatDoor.Ev
open Go
theorem ai {a b : Prop} (x : a) (y : b) : a ∧ b := ⟨x, y⟩
def WL := ai @wp_dreg (ai @befB_nil (ai @befB_cons (ai @putDE (ai @roFree_nil (ai @roFree_cons (ai @get_ne (ai @Tr.get_e (ai @isNone_none' (ai @dregQ_eq (ai @mergeAll_nil (ai @wd_nil (ai @wd_q (ai @putD_v (ai @putD_r (ai @oV_some (ai @dq_mv (ai @dq_ci (ai @dq_bi0 (ai @biQ_i (ai @dq_ex (ai @dq_ld0 (ai @ldQ_p (ai @ldR_some (ai @dq_iaS (ai @v_iaS (ai @lnSl (ai @lnL_l (ai @lnL_u (ai @lnL_l0 (ai @lnL_ue (ai @wp_seq (ai @seqQ_nrm (ai @seqQ_ret (ai @seqQ_ext (ai @wp_reg (ai @wp_ret (ai @wp_skip (ai @wp_exit (ai @wp_block (ai @blockQ_nrm (ai @blockQ_ret (ai @blockQ_ext (ai @loopQ_nrm (ai @loopQ_ret (ai @loopQ_ext (ai @wo_nil (ai @xo_q (ai @xo_a (ai @xo_e (ai @xo_e0 (ai @wo_gT (ai @wo_gF (ai @wo_gU (ai @wp_condT (ai @wp_condF (ai @putO (ai @putA (ai @putE (ai @putE0 (ai @setT_some (ai @setT_none (ai @v_mv (ai @v_pk (ai @pkV_T (ai @pkV_F (ai @v_bi (ai @bi_sub (ai @bi_lss (ai @bi_gtr (ai @bi_leq (ai @bi_geq (ai @bi_eql (ai @bi_neq (ai @v_un (ai @un_not (ai @v_ln (ai @lnS (ai @v_ixS (ai @v_ld1 (ai @v_ldn (ai @ld1_p (ai @ldn_p (ai @load1_same (ai @v_fa (ai @e_st_eq (ai @er_some (ai @xo_call (ai @callC_orc (ai @ev_t (ai @ev_c (ai @evs_nil (ai @evs_cons (ai @Tr.setP_h (ai @Tr.setP_l (ai @Tr.setP_r (ai @getT_h (ai @getT_n (ai @getT_l (ai @getT_r (ai @endQ_nrm (ai @endQ_ret (ai @endO (ai @resV_nil' (ai @resV_t (ai @consO_some (ai @oneV_one (ai @oneV_two (ai @Bool.not_true (ai @Bool.not_false (ai @Bool.false_eq_true (ai @Bool.true_eq_false (ai @decide_true (ai @decide_false (ai @pureO_of (ai @ofO_some (ai @flatten_b (ai @flatten_i (ai @flatten_s (ai @flatten_p (ai @flatten_p0 (ai @flatten_l (ai @flatten_u (ai @flatten_l0 (ai @flatten_m (ai @flatten_m0 (ai @flatten_f (ai @flatten_f0 (ai @flatten_g (ai @allOne_nil (ai @allOne_cons (ai @isOne_b (ai @isOne_i (ai @isOne_s (ai @isOne_p (ai @isOne_p0 (ai @isOne_l (ai @isOne_u (ai @isOne_l0 (ai @isOne_m (ai @isOne_f (ai @isOne_f0 (ai @Bool.and_true (ai @Bool.true_and (ai @evP_nil (ai @evP_cons (ai @fillV_nil (ai @fillV_cons (ai @over_nil (ai @over_cons (ai @Nat.zero_add (ai @and_self (ai @and_true (ai @true_and (ai @v_bld (ai @replL_over (ai @v_fl1 (ai @v_fln (ai @v_ex (ai @v_ci (ai @andO_some (ai @eqAt_some (ai @eqAll_nil (ai @eqAll_cons (ai @negO_F (ai @negO_T (ai @v_eq (ai @eqV_agg (ai @eqV_int (ai @eq1_int (ai @eq1_bool (ai @xo_cv (ai @callV_f (ai @v_mkf (ai @resV_cn (ai @resV_c1 (ai @load1_ne (ai @loadN_ne (ai @loadN_same (ai @storeN_same (ai @storeN_ne' (ai @mapS_some (ai @a_al_eq (ai @a_bx_eq (ai @v_ixA1 (ai @ixA1_g (ai @ne_add0 (ai @ne_add1 (ai @ne_add (ai @Nat.add_assoc (ai @x_app_eq (ai @v_slL (ai @v_bs (ai @a_bsl_w (ai @evPs_nil (ai @evPs_cons (ai @partsR_nil (ai @partsR_cons (ai @bslO_some (ai @v_slS (ai @lnSs (ai @bi_seq (ai @bi_sne (ai @eq1_str (ai @eqV_str (ai @wd_gT (ai @wd_gF (ai @wd_gU (ai @dq_ldn0 (ai @ldnQ_p (ai @ldnR_some (ai @dq_pk (ai @dq_lnL (ai @dq_lnS (ai @dq_ixS (ai @dq_un (ai @dq_eq (ai @shOk_agg (ai @shOks_nil (ai @shOks_cons (ai @shOk1_int (ai @shOk1_bool (ai @shOk1_str (ai @eqV_bool (ai @shOk_int (ai @shOk_bool (ai @shOk_str (ai @dq_fa (ai @putDP (ai @a_mks_w (ai @wp_condTc (ai @wp_condFc (ai @roundQ_nrm (ai @roundQ_ret (ai @roundQ_ext (ai @decide_eq_true_eq (ai @or_self (ai @or_true (ai @or_false (ai @true_or (ai @false_or (ai @and_false (@false_and))))))))))))))))))))))))))))))))))))))))))))))))))))))))))))))))))))))))))))))))))))))))))))))))))))))))))))))))))))))))))))))))))))))))))))))))))))))))))))))))))))))))))))))))))))))))))))))))))))))))))))))))))))))))))))))))))))))))))))))))))
def WM := ai @cond_true.{1} (ai @cond_false.{1} (ai @List.getElem?_cons_zero.{0} (ai @List.getElem?_cons_succ.{0} (ai @Option.getD_some.{0} (ai @if_true.{1} (ai @if_false.{1} (ai @ite_true.{1} (ai @ite_false.{1} (ai @List.set_cons_zero.{0} (ai @List.set_cons_succ.{0} (ai @List.length_cons.{0} (ai @List.length_nil.{0} (ai @List.nil_append.{0} (ai @List.append_nil.{0} (ai @List.cons_append.{0} (ai @List.drop_zero.{0} (ai @List.take_succ_cons.{0} (ai @List.take_zero.{0} (ai @List.take_nil.{0} (ai @List.drop_succ_cons.{0} (ai @Option.map_some.{0,0} (ai @Option.isSome_some.{0} (@Option.map_none.{0,0})))))))))))))))))))))))
def WX := ai @WL @WM
end Go.Proofs.YtlghgdifncfogaaGreatDoor.Ev
