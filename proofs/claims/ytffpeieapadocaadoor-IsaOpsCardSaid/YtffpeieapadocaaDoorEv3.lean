/- What is proved here: pieces of the evaluator's soundness: if the evaluator comes to a value, the model's run comes to it, for every world and tape; no conditions beyond the hypotheses of each theorem. -/
import Derived.Test.YtffpeieapadocaaDoorEv2
import Derived.Laws.StructEq
import Derived.Lib.Bytealg
set_option linter.unusedSimpArgs false
set_option linter.unusedVariables false
namespace Go.Proofs.YtffpeieapadocaaDoor.Ev
open Go

section
variable {P : Program} {E : Env} {F : RO} {M : Mem} {c : Nat → Prop} {w : World} {t : T} {a : Act}

theorem ShRel.noAgg {ty : TypeId} {sh : Sh} (h : ShRel P ty sh) : isAg P ty = some false := by
  cases h with
  | ptr e s hu _ => simp only [isAg, hu]
  | _ => rename_i hu; simp only [isAg, hu]

theorem eqAll_run (h : Cx P E F M c w t a) {xs ys : List V} : ∀ {fs : List Field} {ks : List (Nat × Sh)} {r : Bool}, shFields P fs = some ks → eqAll F M xs ys ks = some r → ∀ d, (Op.eqFields (d + 1) (concs E xs).toArray (concs E ys).toArray fs).run P w = .ok r w
  | [], ks, r, hs, hr, d => by
    obtain rfl := Option.some.inj hs
    obtain rfl := Option.some.inj hr
    rfl
  | f :: fs, ks, r, hs, hr, d => by
    rw [shFields] at hs
    split at hs
    · rename_i sh l h1 h2
      split at hs
      · rename_i hn
        obtain rfl := Option.some.inj hs
        have hsh := shOf1_rel h1
        rw [eqAll] at hr
        split at hr
        · rename_i x y hx hy
          rw [nth_eq] at hx hy
          have hag := hsh.noAgg
          have p1 := part_one (P := P) (w := w) (E := E) hag hx
          have p2 := part_one (P := P) (w := w) (E := E) hag hy
          split at hr
          · rename_i he
            have e1 := eq1_run h hsh he d
            simp only [Op.eqFields, hn, ne_eq, not_false_eq_true, if_true, Sem.run_bind, p1, p2, Result.andThen_ok, e1, Sem.run_ite, Bool.not_true, Bool.false_eq_true, if_false]
            exact eqAll_run h h2 hr d
          · rename_i hne
            have e1 := eq1_run h hsh hr d
            cases r with
            | true => exact absurd hr hne
            | false => simp only [Op.eqFields, hn, ne_eq, not_false_eq_true, if_true, Sem.run_bind, p1, p2, Result.andThen_ok, e1, Sem.run_ite, Bool.not_false, if_true, Sem.run_pure]
        · cases hr
      · cases hs
    · cases hs

theorem binOp_eql {ty : TypeId} {x y : Value} (h1 : ∀ k m k' n, ¬ (x = .int k m ∧ y = .int k' n)) (h2 : ∀ m n, ¬ (x = .string m ∧ y = .string n)) (h3 : ∀ k m, x ≠ .float k m) (h4 : ∀ k m n, x ≠ .complex k m n) :
    (binOp .eql ty x y) = (do pure (.bool (← Op.equal ty x y))) ∧ (binOp .neq ty x y) = (do pure (.bool (!(← Op.equal ty x y)))) := by
  cases x <;> first
    | exact absurd rfl (h3 _ _)
    | exact absurd rfl (h4 _ _ _)
    | exact ⟨rfl, rfl⟩
    | (cases y <;> first
        | exact (h1 _ _ _ _ ⟨rfl, rfl⟩).elim
        | exact (h2 _ _ ⟨rfl, rfl⟩).elim
        | exact ⟨rfl, rfl⟩)

/-- a value that is no number and no text -/
def Odd : Value → Prop
  | .int _ _ | .string _ | .float _ _ | .complex _ _ _ => False
  | _ => True

theorem eq_run {ty : TypeId} {A B : Operand} {x y : Value} {r : Bool} (hodd : Odd x) (hg : ∀ op, (eqGuard op ty A B x y).run P w = .ok () w) (he : (Op.equalIn 10000 ty x y).run P w = .ok r w) (neg : Bool) :
    (eqGuard (if neg then .neq else .eql) ty A B x y >>= fun _ => binOp (if neg then .neq else .eql) ty x y).run P w = .ok (.bool (if neg then !r else r)) w := by
  have hb := binOp_eql (ty := ty) (x := x) (y := y) (fun k m k' n e => by rw [e.1] at hodd; exact hodd) (fun m n e => by rw [e.1] at hodd; exact hodd) (fun k m e => by rw [e] at hodd; exact hodd) (fun k m n e => by rw [e] at hodd; exact hodd)
  have he' : (Op.equal ty x y).run P w = .ok r w := he
  simp only [Sem.run_bind, hg, Result.andThen_ok]
  cases neg with
  | true => simp [hb.2, he']
  | false => simp [hb.1, he']

theorem eqGuard_other {op : BinOp} {ty : TypeId} {A B : Operand} {x y : Value} (h1 : ¬ (x = .nilIface ∧ y = .nilIface)) (h2 : ∀ l m, ¬ (x = .agg l ∧ y = .agg m)) : (eqGuard op ty A B x y).run P w = .ok () w := by
  unfold eqGuard
  split
  all_goals simp only [Bool.not_true, Bool.false_eq_true, if_false, Bool.not_false, if_true]
  all_goals try rfl
  all_goals
    split
    · exact absurd ⟨rfl, rfl⟩ h1
    · exact absurd ⟨rfl, rfl⟩ (h2 _ _)
    · rfl

theorem eqGuard_nil {op : BinOp} {ty : TypeId} {A B : Operand} (h : (isConstO A || isConstO B) = true) : (eqGuard op ty A B .nilIface .nilIface).run P w = .ok () w := by
  cases A <;> cases B <;> first | (simp [isConstO] at h; done) | (cases op <;> simp [eqGuard])

theorem q_eq_ok (h : Cx P E F M c w t a) {o : Oper} {op : BinOp} {ty ty' : TypeId} {y z : Operand} (neg : Bool) (hop : o.op = .binOp (if neg then .neq else .eql) ty y z ty') {sh : Sh} (hsh : shOf P ty = some sh) {d : TypeDesc} (hu : P.underlying ty = some d) (hd1 : ∀ k, d ≠ .int k) (hd2 : d ≠ .string)
    {xa xb : X} (h1 : compX y = some xa) (h2 : compX z = some xb) {x : V} (hx : (qop (.eq neg sh (isConstO y || isConstO z) xa xb) F M t).val = some x) : QOk P E c w a o x := by
  have e1 := h.ev h1
  have e2 := h.ev h2
  have hx' : (q_eqr neg (eqV F M sh (isConstO y || isConstO z) (xa.ev t) (xb.ev t))).val = some x := hx
  unfold q_eqr at hx'
  split at hx'
  · rename_i r hr
    obtain rfl := cmpB hx'
    refine ⟨?_, trivial⟩
    have fin : ∀ (hodd : Odd (conc E (xa.ev t))), (∀ op, (eqGuard op ty y z (conc E (xa.ev t)) (conc E (xb.ev t))).run P w = .ok () w) → (Op.equalIn 10000 ty (conc E (xa.ev t)) (conc E (xb.ev t))).run P w = .ok r w →
        (execOp a.eval o).run P w = .ok (.value (conc E (.b (bif neg then !r else r)))) w := by
      intro hodd hg he
      simp only [execOp, hop]
      refine val_run ?_
      rw [e1.1, e2.1, eq_run hodd hg he neg]
      cases neg <;> rfl
    unfold shOf at hsh
    split at hsh
    · rename_i fs hus
      split at hsh
      · cases hsh
      · rename_i hcond
        simp only [Bool.or_eq_true, not_or, Bool.not_eq_true] at hcond
        obtain ⟨ks, hks, rfl⟩ := Option.map_eq_some_iff.1 hsh
        have hr' : eqAgg F M ks (xa.ev t) (xb.ev t) = some r := hr
        unfold eqAgg at hr'
        split at hr'
        · rename_i xs ys hvx hvy
          have hf : P.fieldsOf ty = fs := by simp [Program.fieldsOf, hus]
          refine fin (by rw [hvx]; trivial) (fun op => ?_) ?_
          · rw [hvx, hvy]; exact run_eqGuard_agg w op ty y z _ _ hcond.2
          · rw [hvx, hvy]
            simp only [conc]
            rw [run_equalIn_struct (P := P) w 9999 ty _ _ (by rw [hf]; exact hus) hcond.1, hf]
            exact eqAll_run h hks hr' 9998
        · cases hr'
    · rename_i hns
      have hrel := shOf1_rel hsh
      have hr' : eq1 F M sh (isConstO y || isConstO z) (xa.ev t) (xb.ev t) = some r := by
        cases hrel <;> exact hr
      have he := eq1_run h hrel hr' 9999
      cases hrel with
      | int k hu' => rw [hu] at hu'; exact absurd (Option.some.inj hu') (hd1 k)
      | str hu' => rw [hu] at hu'; exact absurd (Option.some.inj hu') hd2
      | bool hu' =>
        have hq : eqB (xa.ev t) (xb.ev t) = some r := hr'
        unfold eqB at hq
        split at hq
        · rename_i p q hvx hvy
          refine fin (by rw [hvx]; trivial) (fun op => ?_) he
          rw [hvx, hvy]; exact eqGuard_other (by simp [conc]) (by simp [conc])
        · cases hq
      | ptr el s hu' hz =>
        have hq : eqP F M (xa.ev t) (xb.ev t) = some r := hr'
        unfold eqP at hq
        split at hq
        · rename_i hvx hvy
          refine fin (by rw [hvx]; trivial) (fun op => ?_) he
          rw [hvx, hvy]; exact eqGuard_other (by simp [conc]) (by simp [conc])
        · rename_i hvx hvy
          refine fin (by rw [hvx]; trivial) (fun op => ?_) he
          rw [hvx, hvy]; exact eqGuard_other (by simp [conc]) (by simp [conc])
        · rename_i hvx hvy
          refine fin (by rw [hvx]; trivial) (fun op => ?_) he
          rw [hvx, hvy]; exact eqGuard_other (by simp [conc]) (by simp [conc])
        · rename_i hvx hvy
          refine fin (by rw [hvx]; trivial) (fun op => ?_) he
          rw [hvx, hvy]; exact eqGuard_other (by simp [conc]) (by simp [conc])
        · cases hq
      | slice el hu' =>
        have key : ∀ b, nilL (xa.ev t) = some b → ∃ ad n k, conc E (xa.ev t) = .slice ad n k := by
          intro b hb
          have := nilL_conc (E := E) hb
          cases b with
          | true => simp only [if_true] at this; exact ⟨_, _, _, this⟩
          | false => simp only [Bool.false_eq_true, if_false] at this; obtain ⟨ad, n, k, e⟩ := this; exact ⟨_, _, _, e⟩
        obtain ⟨ad, n, k, e⟩ : ∃ ad n k, conc E (xa.ev t) = .slice ad n k := by
          rcases nilEq_cases (show nilEq true (nilL (xa.ev t)) (nilL (xb.ev t)) = some r from hr') with ⟨g, _⟩ | ⟨g, _⟩ | ⟨g, _⟩ <;> exact key _ g
        refine fin (by rw [e]; trivial) (fun op => ?_) he
        rw [e]; exact eqGuard_other (by simp) (by simp)
      | map kk el hu' =>
        have key : ∀ b, nilM (xa.ev t) = some b → ∃ r, conc E (xa.ev t) = .map r := by
          intro b hb
          have := nilM_conc (E := E) hb
          cases b with
          | true => simp only [if_true] at this; exact ⟨_, this⟩
          | false => simp only [Bool.false_eq_true, if_false] at this; obtain ⟨r, e⟩ := this; exact ⟨_, e⟩
        obtain ⟨r', e⟩ : ∃ r, conc E (xa.ev t) = .map r := by
          rcases nilEq_cases (show nilEq true (nilM (xa.ev t)) (nilM (xb.ev t)) = some r from hr') with ⟨g, _⟩ | ⟨g, _⟩ | ⟨g, _⟩ <;> exact key _ g
        refine fin (by rw [e]; trivial) (fun op => ?_) he
        rw [e]; exact eqGuard_other (by simp) (by simp)
      | func p rr v hu' =>
        have key : ∀ b, nilF (xa.ev t) = some b → conc E (xa.ev t) = .nilFunc ∨ ∃ f l k, conc E (xa.ev t) = .func f l k := by
          intro b hb
          have := nilF_conc (E := E) hb
          cases b with
          | true => simp only [if_true] at this; exact .inl this
          | false => simp only [Bool.false_eq_true, if_false] at this; exact .inr this
        have e : conc E (xa.ev t) = .nilFunc ∨ ∃ f l k, conc E (xa.ev t) = .func f l k := by
          rcases nilEq_cases (show nilEq true (nilF (xa.ev t)) (nilF (xb.ev t)) = some r from hr') with ⟨g, _⟩ | ⟨g, _⟩ | ⟨g, _⟩ <;> exact key _ g
        rcases e with e | ⟨f, l, k, e⟩
        · refine fin (by rw [e]; trivial) (fun op => ?_) he
          rw [e]; exact eqGuard_other (by simp) (by simp)
        · refine fin (by rw [e]; trivial) (fun op => ?_) he
          rw [e]; exact eqGuard_other (by simp) (by simp)
      | iface ms hu' =>
        rcases nilEq_cases (show nilEq (isConstO y || isConstO z) (nilA (xa.ev t)) (nilA (xb.ev t)) = some r from hr') with ⟨g1, g2, hlit, _⟩ | ⟨g1, g2, _⟩ | ⟨g1, g2, _⟩
        · have a1 := nilA_conc g1
          have a2 := nilA_conc g2
          simp only [if_true] at a1 a2
          refine fin (by rw [a1]; trivial) (fun op => ?_) he
          rw [a1, a2]; exact eqGuard_nil hlit
        · have a1 := nilA_conc g1
          have a2 := nilA_conc g2
          simp only [if_true, Bool.false_eq_true, if_false] at a1 a2
          obtain ⟨_, _, a2⟩ := a2
          refine fin (by rw [a1]; trivial) (fun op => ?_) he
          rw [a1, a2]; exact eqGuard_other (by simp [conc]) (by simp [conc])
        · have a1 := nilA_conc g1
          have a2 := nilA_conc g2
          simp only [if_true, Bool.false_eq_true, if_false] at a1 a2
          obtain ⟨_, _, a1⟩ := a1
          refine fin (by rw [a1]; trivial) (fun op => ?_) he
          rw [a1, a2]; exact eqGuard_other (by simp [conc]) (by simp [conc])
  · cases hx'

theorem q_binOp (h : Cx P E F M c w t a) {o : Oper} {op : BinOp} {ty ty' : TypeId} {y z : Operand} (hop : o.op = .binOp op ty y z ty') {q : QO} (hc : compOp P o.op = some (.q q)) {x : V} (hx : (qop q F M t).val = some x) : QOk P E c w a o x := by
  rw [hop] at hc
  simp only [compOp] at hc
  have num : ∀ xa xb, compX y = some xa → compX z = some xb → QO.bi op xa xb = q → QOk P E c w a o x := by
    intro xa xb h1 h2 hq
    subst hq
    have e1 := h.ev h1
    have e2 := h.ev h2
    have hb := bi_run (P := P) (E := E) (c := c) (w := w) op ty (xv := xa.ev t) (yv := xb.ev t) (v := x) hx y z
    refine ⟨?_, hb.2⟩
    simp only [execOp, hop]
    refine val_run ?_
    rw [e1.1, e2.1]
    exact hb.1
  split at hc
  · rename_i k xa xb hu h1 h2
    exact num xa xb h1 h2 (by simpa [Ev.q] using hc)
  · rename_i xa xb hu h1 h2
    exact num xa xb h1 h2 (by simpa [Ev.q] using hc)
  · rename_i d xa xb hn1 hn2 hu h1 h2
    split at hc
    · obtain ⟨sh, hsh, e⟩ := Option.bind_eq_some_iff.1 hc
      obtain rfl : QO.eq false sh (isConstO y || isConstO z) xa xb = q := by simpa [Ev.q] using e
      exact q_eq_ok h (op := .eql) false hop hsh hu (fun k e => hn1 k e) (fun e => hn2 e) h1 h2 hx
    · obtain ⟨sh, hsh, e⟩ := Option.bind_eq_some_iff.1 hc
      obtain rfl : QO.eq true sh (isConstO y || isConstO z) xa xb = q := by simpa [Ev.q] using e
      exact q_eq_ok h (op := .neq) true hop hsh hu (fun k e => hn1 k e) (fun e => hn2 e) h1 h2 hx
    · cases hc
  · cases hc

end
end Go.Proofs.YtffpeieapadocaaDoor.Ev

namespace Go.Proofs.YtffpeieapadocaaDoor.Ev
open Go

theorem arr_of_list {α : Type} {x : Array α} {l : List α} (h : x.toList = l) : x = l.toArray := by
  rw [← h]

section
variable {P : Program} {E : Env} {F : RO} {M : Mem} {c : Nat → Prop} {w : World} {t : T} {a : Act}

theorem exec_builtin {o : Oper} {cl : Call} {b : Builtin} (hop : o.op = .call cl) (hb : cl.callee = .builtin b) {l : List Operand} (hl : cl.args.toList = l) {r : Result Next}
    (h : (builtin b cl.argTypes o.type (cl.args.map fun | .const _ => true | _ => false) (l.map a.eval).toArray).run P w = r) : (execOp a.eval o).run P w = r := by
  have hm : cl.args.map a.eval = (l.map a.eval).toArray := by rw [arr_of_list hl]; simp
  simp only [execOp, hop, resolve, hb, hm, Sem.run_bind, Sem.run_pure, Result.andThen_ok, invoke]
  exact h

theorem lenL_conc {v : V} {n : Nat} (h : lenL v = some n) : ∃ ad k, conc E v = .slice ad n k := by
  cases v <;> first | cases (show (none : Option Nat) = some n from h) | (obtain rfl := Option.some.inj h; exact ⟨_, _, rfl⟩)

theorem minAll_run {mx : Bool} (h : Cx P E F M c w t a) : ∀ {os : List Operand} {xs : List X} {v x : V}, compXs os = some xs → minAll mx t v xs = some x → bd c v →
    ((os.map a.eval).foldlM (if mx then Builtin.max2 else Builtin.min2) (conc E v)).run P w = .ok (conc E x) w ∧ bd c x
  | [], xs, v, x, hc, hm, hb => by
    obtain rfl := Option.some.inj hc
    obtain rfl := Option.some.inj hm
    exact ⟨rfl, hb⟩
  | o :: os, xs, v, x, hc, hm, hb => by
    rw [compXs] at hc
    split at hc
    · rename_i z l h1 h2
      obtain rfl := Option.some.inj hc
      rw [minAll] at hm
      split at hm
      · rename_i v' hv'
        have e := h.ev h1
        unfold minV at hv'
        split at hv'
        · rename_i k m k' n hy
          rw [fI_eq] at hv'
          obtain rfl := Option.some.inj hv'
          have ih := minAll_run h h2 hm trivial
          refine ⟨?_, ih.2⟩
          rw [hy] at e
          rw [List.map_cons, List.foldlM_cons, Sem.run_bind, e.1]
          have hstep : ((if mx then Builtin.max2 else Builtin.min2) (conc E (.i k m)) (conc E (.i k' n))).run P w = .ok (conc E (.i k (bif ltI (bif mx then m else n) (bif mx then n else m) then n else m))) w := by
            cases mx with
            | true =>
              simp only [if_true, conc, Builtin.max2, Sem.run_pure, cond_true, ltI_iff, cond_eq_ite, decide_eq_true_eq]
            | false =>
              simp only [Bool.false_eq_true, if_false, conc, Builtin.min2, Sem.run_pure, cond_false, ltI_iff, cond_eq_ite, decide_eq_true_eq]
          rw [hstep]
          exact ih.1
        · cases hv'
      · cases hm
    · cases hc


theorem sd_none {ats : Array TypeId} {ty n k : Nat} : (Builtin.unsafeSliceData_ ats ty #[.slice none n k]).run P w = .ok (.pointer none) w := rfl
theorem sd_some {ats : Array TypeId} {ty n k : Nat} {ad : Addr} (hk : k ≠ 0) : (Builtin.unsafeSliceData_ ats ty #[.slice (some ad) n k]).run P w = .ok (.pointer (some ad)) w := by
  change (if k ≠ 0 then (pure (.pointer (some ad)) : Sem Value) else _).run P w = _
  rw [if_pos hk]; rfl

theorem q_builtin (h : Cx P E F M c w t a) {o : Oper} {cl : Call} {b : Builtin} (hop : o.op = .call cl) (hb : cl.callee = .builtin b) {q : QO} (hc : compBuiltin P b cl.args.toList cl.argTypes.toList = some (.q q)) {x : V} (hx : (qop q F M t).val = some x) : QOk P E c w a o x := by
  unfold compBuiltin at hc
  split at hc
  · -- len
    rename_i y ty hargs htys
    have hat : cl.argTypes[0]? = some ty := by rw [arr_of_list htys]; rfl
    split at hc
    · rename_i z hu hz
      obtain rfl : QO.ln .str z = q := by simpa [Ev.q] using hc
      obtain ⟨n, s, hv, hg⟩ := onS_val (show (onS (z.ev t) QR.f fun n _ => QR.v (.i .i64 (.ofNat n))).val = some x from hx)
      obtain rfl := Option.some.inj hg
      have e := h.ev hz
      rw [hv] at e
      refine ⟨exec_builtin hop hb hargs ?_, trivial⟩
      simp only [builtin]
      refine val_run ?_
      simp [Builtin.len_, hat, e.1, run_und hu, conc, ba_size, goInt]
    · rename_i el z hu hz
      obtain rfl : QO.ln .slice z = q := by simpa [Ev.q] using hc
      have hx' : (q_ln1 (lenL (z.ev t))).val = some x := hx
      cases hl : lenL (z.ev t) with
      | none => rw [hl] at hx'; cases (show (none : Option V) = some x from hx')
      | some n =>
        rw [hl] at hx'
        obtain rfl := Option.some.inj hx'
        obtain ⟨ad, k, hcv⟩ := lenL_conc (E := E) hl
        have e := h.ev hz
        rw [hcv] at e
        refine ⟨exec_builtin hop hb hargs ?_, trivial⟩
        simp only [builtin]
        refine val_run ?_
        simp [Builtin.len_, hat, e.1, run_und hu, conc, goInt]
    · rename_i kt el z hu hz
      obtain rfl : QO.ln .map z = q := by simpa [Ev.q] using hc
      have e := h.ev hz
      have hx' : (ln_m F M (z.ev t)).val = some x := hx
      unfold ln_m at hx'
      split at hx'
      · rename_i hv
        obtain rfl := Option.some.inj hx'
        rw [hv] at e
        refine ⟨exec_builtin hop hb hargs ?_, trivial⟩
        simp only [builtin]
        refine val_run ?_
        simp [Builtin.len_, hat, e.1, run_und hu, conc, goInt]
      · rename_i b' hv
        obtain ⟨es, k, hl, hg⟩ := asMap_val hx'
        rw [fN_eq] at hg
        obtain rfl := Option.some.inj hg
        obtain ⟨ho, _⟩ := h.map hl
        rw [hv] at e
        refine ⟨exec_builtin hop hb hargs ?_, trivial⟩
        simp only [builtin]
        refine val_run ?_
        simp [Builtin.len_, hat, e.1, run_und hu, conc, goInt, run_getObj_map ho]
      · cases hx'
    · rename_i n el z hu hz
      obtain rfl : QO.lnc n = q := by simpa [Ev.q] using hc
      obtain rfl := Option.some.inj hx
      refine ⟨exec_builtin hop hb hargs ?_, trivial⟩
      simp only [builtin]
      refine val_run ?_
      simp [Builtin.len_, hat, run_und hu, conc, goInt]
    · rename_i ar z hu hz
      split at hc
      · rename_i n el hua
        obtain rfl : QO.lnc n = q := by simpa [Ev.q] using hc
        obtain rfl := Option.some.inj hx
        refine ⟨exec_builtin hop hb hargs ?_, trivial⟩
        simp only [builtin]
        refine val_run ?_
        simp [Builtin.len_, hat, run_und hu, run_und hua, conc, goInt]
      · cases hc
    · cases hc
  · -- cap
    rename_i y ty hargs htys
    have hat : cl.argTypes[0]? = some ty := by rw [arr_of_list htys]; rfl
    split at hc
    · rename_i el z hu hz
      obtain rfl : QO.cp z = q := by simpa [Ev.q] using hc
      have e := h.ev hz
      have hx' : (q_cp z F M t).val = some x := hx
      unfold q_cp at hx'
      split at hx'
      · rename_i hv
        obtain rfl := Option.some.inj hx'
        rw [hv] at e
        refine ⟨exec_builtin hop hb hargs ?_, trivial⟩
        simp only [builtin]
        refine val_run ?_
        simp [Builtin.cap_, hat, e.1, run_und hu, conc, goInt]
      · rename_i b' off n k hv
        obtain rfl := Option.some.inj hx'
        rw [hv] at e
        refine ⟨exec_builtin hop hb hargs ?_, trivial⟩
        simp only [builtin]
        refine val_run ?_
        simp [Builtin.cap_, hat, e.1, run_und hu, conc, goInt]
      · cases hx'
    · cases hc
  · -- append
    split at hc
    · split at hc
      · split at hc
        · cases hc
        · split at hc <;> cases hc
      · cases hc
    · cases hc
  · split at hc
    · split at hc
      · split at hc <;> cases hc
      · cases hc
    · cases hc
  · -- copy
    split at hc
    · split at hc
      · split at hc <;> cases hc
      · cases hc
    · cases hc
  · -- min
    rename_i _ y ys hargs
    split at hc
    · rename_i z zs hz hzs
      obtain rfl : QO.mn false z zs = q := by simpa [Ev.q] using hc
      have hm := qr_val (show (qr (minAll false t (z.ev t) zs)).val = some x from hx)
      have e := h.ev hz
      have hr := minAll_run h hzs hm e.2
      refine ⟨exec_builtin hop hb hargs ?_, hr.2⟩
      simp only [builtin]
      refine val_run ?_
      simp only [Builtin.min_, List.map_cons, List.toList_toArray, e.1]
      simpa using hr.1
    · cases hc
  · -- max
    rename_i _ y ys hargs
    split at hc
    · rename_i z zs hz hzs
      obtain rfl : QO.mn true z zs = q := by simpa [Ev.q] using hc
      have hm := qr_val (show (qr (minAll true t (z.ev t) zs)).val = some x from hx)
      have e := h.ev hz
      have hr := minAll_run h hzs hm e.2
      refine ⟨exec_builtin hop hb hargs ?_, hr.2⟩
      simp only [builtin]
      refine val_run ?_
      simp only [Builtin.max_, List.map_cons, List.toList_toArray, e.1]
      simpa using hr.1
    · cases hc
  · -- delete
    split at hc
    · obtain ⟨sh, _, e⟩ := Option.map_eq_some_iff.1 hc
      cases e
    · cases hc
  · -- unsafe.String
    split at hc
    · split at hc <;> cases hc
    · cases hc
  · -- unsafe.SliceData
    rename_i _ y hargs
    obtain ⟨z, hz, rfl⟩ := compX_bind (f := fun x => .sd x) hc
    have e := h.ev hz
    have hx' : (q_sd z F M t).val = some x := hx
    unfold q_sd at hx'
    split at hx'
    · rename_i hv
      obtain rfl := Option.some.inj hx'
      rw [hv] at e
      refine ⟨exec_builtin hop hb hargs ?_, trivial⟩
      simp only [builtin]
      refine val_run ?_
      simp only [List.map_cons, List.map_nil, e.1, conc]
      exact sd_none
    · rename_i b' off n k hv
      rw [beqN] at hx'
      by_cases hk : k = 0
      · rw [decide_eq_true hk] at hx'; cases (show (none : Option V) = some x from hx')
      · rw [decide_eq_false hk] at hx'
        obtain rfl := Option.some.inj hx'
        rw [hv] at e
        refine ⟨exec_builtin hop hb hargs ?_, e.2⟩
        simp only [builtin]
        refine val_run ?_
        simp only [List.map_cons, List.map_nil, e.1, conc]
        exact sd_some hk
    · rename_i b' off n el kn hv
      rw [bltN] at hx'
      by_cases hk : el < kn
      · rw [decide_eq_true hk] at hx'
        obtain rfl := Option.some.inj hx'
        rw [hv] at e
        refine ⟨exec_builtin hop hb hargs ?_, e.2⟩
        have hne : ¬ (kn - el + E.κ b' = 0) := by omega
        simp only [builtin]
        refine val_run ?_
        simp only [List.map_cons, List.map_nil, e.1, conc]
        exact sd_some hne
      · rw [decide_eq_false hk] at hx'; cases (show (none : Option V) = some x from hx')
    · cases hx'
  · split at hc
    · obtain ⟨z, _, e⟩ := Option.map_eq_some_iff.1 hc; cases e
    · cases hc
  · cases hc

end
end Go.Proofs.YtffpeieapadocaaDoor.Ev

namespace Go.Proofs.YtffpeieapadocaaDoor.Ev
open Go

/-! entries without a Go body -/
theorem next_none {fn : Func} {n : String} (hn : fn.name = n) (ho : fn.origin = "") (h1 : Extern.allNextRows.lookup n = none) (h2 : Extern.allNextRows.lookup "" = none) : Extern.findNext fn = none := by
  unfold Extern.findNext
  dsimp only
  rw [hn, ho, h1, h2]; rfl
theorem find_plain {fn : Func} {n : String} {e : Array Value → Sem Value} (hn : fn.name = n) (h0 : Extern.allGenericRows.lookup n = none) (h1 : Extern.allTypedRows.lookup n = none) (h2 : Extern.allRows.lookup n = some e) : Extern.find fn = some e := by
  unfold Extern.find
  dsimp only
  rw [hn, h0, h1, h2]; rfl
theorem find_typed {fn : Func} {n : String} {e : Extern.Typed} (hn : fn.name = n) (h0 : Extern.allGenericRows.lookup n = none) (h1 : Extern.allTypedRows.lookup n = some e) : Extern.find fn = some (e fn.params fn.resultTypes) := by
  unfold Extern.find
  dsimp only
  rw [hn, h0, h1]; rfl

theorem nx_empty : Extern.allNextRows.lookup "" = none := by kernel_rfl
theorem nx_ib : Extern.allNextRows.lookup "internal/bytealg.IndexByteString" = none := by kernel_rfl
theorem nx_cn : Extern.allNextRows.lookup "internal/bytealg.CountString" = none := by kernel_rfl
theorem nx_ne : Extern.allNextRows.lookup "internal/abi.NoEscape" = none := by kernel_rfl
theorem nx_nz : Extern.allNextRows.lookup "internal/bytealg.MakeNoZero" = none := by kernel_rfl
theorem ge_ib : Extern.allGenericRows.lookup "internal/bytealg.IndexByteString" = none := by kernel_rfl
theorem ge_cn : Extern.allGenericRows.lookup "internal/bytealg.CountString" = none := by kernel_rfl
theorem ge_ne : Extern.allGenericRows.lookup "internal/abi.NoEscape" = none := by kernel_rfl
theorem ge_nz : Extern.allGenericRows.lookup "internal/bytealg.MakeNoZero" = none := by kernel_rfl
theorem ty_ib : Extern.allTypedRows.lookup "internal/bytealg.IndexByteString" = none := by kernel_rfl
theorem ty_cn : Extern.allTypedRows.lookup "internal/bytealg.CountString" = none := by kernel_rfl
theorem ty_ne : Extern.allTypedRows.lookup "internal/abi.NoEscape" = none := by kernel_rfl
theorem ty_nz : Extern.allTypedRows.lookup "internal/bytealg.MakeNoZero" = some Extern.BytealgMakeNoZero.makeNoZero := by kernel_rfl
theorem al_ib : Extern.allRows.lookup "internal/bytealg.IndexByteString" = some Extern.BytealgIndexByte.indexByte := by kernel_rfl
theorem al_cn : Extern.allRows.lookup "internal/bytealg.CountString" = some Extern.BytealgCount.count := by kernel_rfl
theorem al_ne : Extern.allRows.lookup "internal/abi.NoEscape" = some Extern.AbiNoEscape.same := by kernel_rfl

theorem findB_index (c : Nat) : ∀ (n x i : Nat), (match findB (c % 256) n x i with | some j => (j : Int) | none => -1) = if Lib.indexByte (bl n x) (UInt8.ofNat c) = -1 then -1 else Lib.indexByte (bl n x) (UInt8.ofNat c) + i
  | 0, x, i => by simp [findB, bl, Lib.indexByte]
  | n + 1, x, i => by
    have ih := findB_index c n (x / 256) (i + 1)
    rw [findB, beqN, bl, Lib.indexByte]
    have hg := Lib.indexByte_ge (bl n (x / 256)) (UInt8.ofNat c)
    by_cases hc : x % 256 = c % 256
    · have hb : (UInt8.ofNat (x % 256) == UInt8.ofNat c) = true := by rw [hc, ofNat_mod]; simp
      rw [show Nat.mod x 256 = x % 256 from rfl, decide_eq_true hc, cond_true, hb]
      simp
    · have hb : (UInt8.ofNat (x % 256) == UInt8.ofNat c) = false := by
        rw [beq_eq_false_iff_ne]; intro e; apply hc
        have := congrArg UInt8.toNat e; simpa [UInt8.toNat_ofNat'] using this
      rw [show Nat.mod x 256 = x % 256 from rfl, decide_eq_false hc, cond_false, hb]
      show (match findB (c % 256) n (x / 256) (i + 1) with | some j => (j : Int) | none => -1) = _
      rw [ih]
      simp only [Bool.false_eq_true, if_false]
      by_cases h1 : Lib.indexByte (bl n (x / 256)) (UInt8.ofNat c) = -1
      · rw [if_pos h1, h1]; simp
      · rw [if_neg h1]
        have h2 : (Lib.indexByte (bl n (x / 256)) (UInt8.ofNat c) == -1) = false := by rw [beq_eq_false_iff_ne]; exact h1
        simp only [h2, Bool.false_eq_true, if_false]
        rw [if_neg (by omega)]
        omega

theorem countB_count (c : Nat) : ∀ (n x r : Nat), countB (c % 256) n x r = r + Lib.countByte (bl n x) (UInt8.ofNat c)
  | 0, x, r => by simp [countB, bl, Lib.countByte]
  | n + 1, x, r => by
    rw [countB, countB_count c n, beqN, bl, Lib.countByte, Lib.countByte, List.count_cons]
    by_cases hc : x % 256 = c % 256
    · have hb : (UInt8.ofNat (x % 256) == UInt8.ofNat c) = true := by rw [hc, ofNat_mod]; simp
      rw [show Nat.mod x 256 = x % 256 from rfl, decide_eq_true hc, hb]
      show r + 1 + _ = r + (_ + 1)
      show r + 1 + List.count (UInt8.ofNat c) (bl n (x / 256)) = r + (List.count (UInt8.ofNat c) (bl n (x / 256)) + 1)
      omega
    · have hb : (UInt8.ofNat (x % 256) == UInt8.ofNat c) = false := by
        rw [beq_eq_false_iff_ne]; intro e; apply hc
        have := congrArg UInt8.toNat e; simpa [UInt8.toNat_ofNat'] using this
      rw [show Nat.mod x 256 = x % 256 from rfl, decide_eq_false hc, hb]
      rfl

section
variable {P : Program} {E : Env} {F : RO} {M : Mem} {c : Nat → Prop} {w : World} {t : T} {a : Act}

theorem exec_extern {o : Oper} {cl : Call} {f : FuncId} {fn : Func} {e : Array Value → Sem Value} (hop : o.op = .call cl) (hcal : cl.callee = .value (.func f)) (hf : P.funcs[f]? = some fn) (hb : fn.body.isNone = true) (hne : fn.name ≠ "runtime.NumGoroutine")
    (hn : Extern.findNext fn = none) (he : Extern.find fn = some e) {l : List Operand} (hl : cl.args.toList = l) {v : Value} {w' : World} (h : (e (l.map a.eval).toArray).run P w = .ok v w') : (execOp a.eval o).run P w = .ok (.value v) w' := by
  have hm : cl.args.map a.eval = (l.map a.eval).toArray := by rw [arr_of_list hl]; simp
  have hr := run_callFunc_extern (P := P) hf (by simpa using hne) hb hn he (l.map a.eval).toArray w
  simp only [execOp, hop, resolve, hcal, Sem.run_bind, hm, Act.eval, Deferred.ofValue, Sem.run_pure, Result.andThen_ok, invoke, Array.empty_append, Array.append_empty, hr, h]


theorem asByte_some {v : V} {n : Nat} (h : asByte v = some n) : v = .i .u8 (n : Int) := by
  unfold asByte at h
  split at h
  · obtain rfl := Option.some.inj h; rfl
  · cases h

theorem q_extern (h : Cx P E F M c w t a) {o : Oper} {cl : Call} {f : FuncId} {fn : Func} (hop : o.op = .call cl) (hcal : cl.callee = .value (.func f)) (hf : P.funcs[f]? = some fn) (hb : fn.body.isNone = true) {q : QO} (hc : compExtern P fn cl.args.toList = some (.q q)) {x : V} (hx : (qop q F M t).val = some x) : QOk P E c w a o x := by
  unfold compExtern at hc
  split at hc
  · cases hc
  · rename_i hor
    have hor : fn.origin = "" := by simpa using hor
    split at hc
    · rename_i y z hargs
      split at hc
      · rename_i hnm
        have hnm : fn.name = "internal/bytealg.IndexByteString" := by simpa using hnm
        split at hc
        · rename_i xa xb h1 h2
          obtain rfl : QO.xib xa xb = q := by simpa [Ev.q] using hc
          have e1 := h.ev h1
          have e2 := h.ev h2
          obtain ⟨n, s, hv, hg⟩ := onS_val (show (onS (xa.ev t) QR.f fun n s => xib1 n s (asByte (xb.ev t))).val = some x from hx)
          unfold xib1 at hg
          split at hg
          · rename_i k hk
            rw [hv] at e1
            rw [asByte_some hk] at e2
            have hfi := findB_index k n s 0
            have hge := Lib.indexByte_ge (bl n s) (UInt8.ofNat k)
            have hxx : conc E x = .int .i64 (Lib.indexByte (bl n s) (UInt8.ofNat k)) ∧ bd c x := by
              unfold q_xib1 at hg
              split at hg
              · rename_i i hi
                obtain rfl := Option.some.inj hg
                refine ⟨?_, trivial⟩
                rw [show findB (k % 256) n s 0 = some i from hi] at hfi
                simp only at hfi
                simp only [conc]
                congr 1
                show (i : Int) = _
                split at hfi <;> omega
              · rename_i hi
                obtain rfl := Option.some.inj hg
                refine ⟨?_, trivial⟩
                rw [show findB (k % 256) n s 0 = none from hi] at hfi
                simp only at hfi
                simp only [conc]
                congr 1
                show (-1 : Int) = _
                split at hfi <;> omega
            refine ⟨?_, hxx.2⟩
            refine exec_extern hop hcal hf hb (by rw [hnm]; decide) (next_none hnm hor nx_ib nx_empty) (find_plain hnm ge_ib ty_ib al_ib) hargs ?_
            simp only [List.map_cons, List.map_nil, e1.1, e2.1, conc]
            rw [Lib.run_indexByteString, ba_toList, hxx.1]
            rfl
          · cases (show (none : Option V) = some x from hg)
        · cases hc
      · split at hc
        · rename_i hnm
          have hnm : fn.name = "internal/bytealg.CountString" := by simpa using hnm
          split at hc
          · rename_i xa xb h1 h2
            obtain rfl : QO.xcn xa xb = q := by simpa [Ev.q] using hc
            have e1 := h.ev h1
            have e2 := h.ev h2
            obtain ⟨n, s, hv, hg⟩ := onS_val (show (onS (xa.ev t) QR.f fun n s => xcn1 n s (asByte (xb.ev t))).val = some x from hx)
            unfold xcn1 at hg
            split at hg
            · rename_i k hk
              rw [hv] at e1
              rw [asByte_some hk] at e2
              rw [fN_eq] at hg
              obtain rfl := Option.some.inj hg
              refine ⟨?_, trivial⟩
              refine exec_extern hop hcal hf hb (by rw [hnm]; decide) (next_none hnm hor nx_cn nx_empty) (find_plain hnm ge_cn ty_cn al_cn) hargs ?_
              simp only [List.map_cons, List.map_nil, e1.1, e2.1, conc]
              rw [Lib.run_countString, ba_toList, show countB (Nat.mod k 256) n s 0 = countB (k % 256) n s 0 from rfl, countB_count, Nat.zero_add]
              rfl
            · cases (show (none : Option V) = some x from hg)
          · cases hc
        · cases hc
    · rename_i y hargs
      split at hc
      · rename_i hnm
        have hnm : fn.name = "internal/abi.NoEscape" := by simpa using hnm
        obtain ⟨z, hz, rfl⟩ := compX_bind (f := fun x => .mv x) hc
        obtain rfl : z.ev t = x := Option.some.inj hx
        have e := h.ev hz
        refine ⟨?_, e.2⟩
        refine exec_extern hop hcal hf hb (by rw [hnm]; decide) (next_none hnm hor nx_ne nx_empty) (find_plain hnm ge_ne ty_ne al_ne) hargs ?_
        simp only [List.map_cons, List.map_nil, e.1]
        rfl
      · split at hc
        · split at hc
          · split at hc
            · split at hc <;> cases hc
            · cases hc
          · cases hc
        · cases hc
    · cases hc

theorem q_arrayPtr (h : Cx P E F M c w t a) {o : Oper} {d : TypeId} {y : Operand} (hop : o.op = .sliceToArrayPointer d y) {q : QO} (hc : compOp P o.op = some (.q q)) {x : V} (hx : (qop q F M t).val = some x) : QOk P E c w a o x := by
  rw [hop] at hc
  simp only [compOp] at hc
  split at hc
  · rename_i n el z hu hz
    obtain rfl : QO.sap n z = q := by simpa [Ev.q] using hc
    have hx' : (q_sap n z F M t).val = some x := hx
    have e := h.ev hz
    unfold q_sap at hx'
    split at hx'
    · rename_i b off len cp hv
      rw [hv] at e
      rw [bleN] at hx'
      by_cases hl : n ≤ len
      · rw [decide_eq_true hl, cond_true] at hx'
        obtain rfl := Option.some.inj hx'
        refine ⟨?_, e.2⟩
        simp only [execOp, hop]
        refine val_run ?_
        rw [e.1]
        simp [Instr.arrayAt, run_und hu, conc, Nat.not_lt.2 hl]
      · rw [decide_eq_false hl] at hx'; cases hx'
    · rename_i b off len el' kn hv
      rw [hv] at e
      rw [bleN] at hx'
      by_cases hl : n ≤ len
      · rw [decide_eq_true hl, cond_true] at hx'
        obtain rfl := Option.some.inj hx'
        refine ⟨?_, e.2⟩
        simp only [execOp, hop]
        refine val_run ?_
        rw [e.1]
        simp [Instr.arrayAt, run_und hu, conc, Nat.not_lt.2 hl]
      · rw [decide_eq_false hl] at hx'; cases hx'
    · cases hx'
  · cases hc

/-- EVERY QUIET OPERATION -/
theorem q_all (h : Cx P E F M c w t a) {o : Oper} {q : QO} (hc : compOp P o.op = some (.q q)) {x : V} (hx : (qop q F M t).val = some x) : QOk P E c w a o x := by
  cases hop : o.op with
  | move y => exact q_move h (.inl hop) hc hx
  | assign y => exact q_move h (.inr hop) hc hx
  | pick p y z => exact q_pick h hop hc hx
  | alloc ty => rw [hop] at hc; obtain ⟨z, _, e⟩ := Option.map_eq_some_iff.1 hc; cases e
  | box ty y =>
    rw [hop] at hc; simp only [compOp] at hc
    split at hc <;> cases hc
  | build ty ps => exact q_build h hop hc hx
  | buildSlice ty n ps =>
    rw [hop] at hc; simp only [compOp] at hc
    split at hc
    · split at hc
      · split at hc
        · cases hc
        · obtain ⟨z, _, e⟩ := Option.map_eq_some_iff.1 hc; cases e
      · cases hc
    · cases hc
  | insert ty m k v =>
    rw [hop] at hc; simp only [compOp] at hc
    split at hc
    · obtain ⟨z, _, e⟩ := Option.map_eq_some_iff.1 hc; cases e
    · cases hc
  | load ty y => exact q_load h hop hc hx
  | store ty y z =>
    rw [hop] at hc; simp only [compOp] at hc
    split at hc <;> cases hc
  | ready g => rw [hop] at hc; cases hc
  | waits g => rw [hop] at hc; cases hc
  | nilCheck y => exact q_nilCheck h hop hc hx
  | binOp op ty y z ty' => exact q_binOp h hop hc hx
  | unOp op ty y => exact q_un_ok h hop hc hx
  | convert s d y => exact q_convert h hop hc hx
  | sliceToArrayPointer d y => exact q_arrayPtr h hop hc hx
  | makeInterface ty y => exact q_makeInterface h hop hc hx
  | makeFunc fn l1 l2 =>
    cases fn with
    | func f => exact q_makeFunc h hop hc hx
    | _ => rw [hop] at hc; cases hc
  | makeMap ty r =>
    cases r with
    | none => rw [hop] at hc; cases hc
    | some z => rw [hop] at hc; cases hc
  | makeChan ty y => rw [hop] at hc; cases hc
  | makeSlice ty l k =>
    rw [hop] at hc; simp only [compOp] at hc
    split at hc
    · split at hc
      · split at hc <;> cases hc
      · cases hc
    · cases hc
  | slice ty y lo hi mx => exact q_slice h hop hc hx
  | fieldAddr ty y f => exact q_fieldAddr h hop hc hx
  | field ty y f => exact q_field h hop hc hx
  | indexAddr ty y i => exact q_indexAddr h hop hc hx
  | index ty y i => exact q_index h hop hc hx
  | lookup ty y i ok => exact q_lookup h hop hc hx
  | mapUpdate ty m k v =>
    rw [hop] at hc; simp only [compOp] at hc
    split at hc
    · obtain ⟨z, _, e⟩ := Option.map_eq_some_iff.1 hc; cases e
    · cases hc
  | mapEntry ty m k => rw [hop] at hc; cases hc
  | entryStore ty m s v => rw [hop] at hc; cases hc
  | range ty y =>
    rw [hop] at hc; simp only [compOp] at hc
    split at hc <;> cases hc
  | next y b =>
    rw [hop] at hc
    cases b <;> (obtain ⟨z, _, e⟩ := Option.map_eq_some_iff.1 hc; cases e)
  | entry y => rw [hop] at hc; cases hc
  | typeAssert y ty ty' ok => exact q_typeAssert h hop hc hx
  | extract y i => exact q_extract h hop hc hx
  | call cl =>
    rw [hop] at hc
    simp only [compOp] at hc
    split at hc
    · rename_i b hcal
      exact q_builtin h hop hcal hc hx
    · rename_i f hcal
      split at hc
      · rename_i fn hf
        split at hc
        · rename_i hb
          exact q_extern h hop hcal hf hb hc hx
        · obtain ⟨z, _, e⟩ := Option.map_eq_some_iff.1 hc; cases e
      · cases hc
    · split at hc <;> cases hc
    · cases hc
  | go cl => rw [hop] at hc; cases hc
  | defer cl => rw [hop] at hc; cases hc
  | panic y => rw [hop] at hc; cases hc
  | send y z => rw [hop] at hc; cases hc
  | recv ty y b => rw [hop] at hc; cases hc
  | select cs b => rw [hop] at hc; cases hc

end
end Go.Proofs.YtffpeieapadocaaDoor.Ev

namespace Go.Proofs.YtffpeieapadocaaDoor.Ev
open Go

theorem cell_eq (n : Nat) (d : List V) (cs : T) (k : Nat) : cell n d cs k = if k < n then (match cs.get k with | some v => some v | none => d[k % d.length]?) else none := by
  show (Bool.rec (motive := fun _ => Option V) none (Option.rec (motive := fun _ => Option V) (nth d (Nat.mod k d.length)) (fun v => some v) (cs.get k)) (Nat.blt k n)) = _
  rw [bb, bltN]
  simp only [decide_eq_true_eq]
  by_cases h : k < n
  · rw [if_pos h, if_pos h]
    cases cs.get k with
    | none => exact nth_eq d _
    | some v => rfl
  · rw [if_neg h, if_neg h]

theorem cell_list {l : List V} {k : Nat} {v : V} (h : cell l.length [] (listTr l 0 .e) k = some v) : l[k]? = some v := by
  rw [cell_eq, listTr_get] at h
  by_cases hk : k < l.length
  · rw [if_pos hk, if_pos (by omega)] at h
    simp only [Nat.sub_zero] at h
    rw [List.getElem?_eq_getElem hk] at h ⊢
    exact h
  · rw [if_neg hk] at h; cases h

section
variable {P : Program} {E : Env} {F : RO} {M : Mem} {c : Nat → Prop} {w : World} {t : T} {a : Act}

/-- a fresh row whose cells are a list -/
theorem list_rel {E' : Env} {l : List V} {b ty : Nat} (he : Ext c E E') (hl : bds c l) (hβ : E'.β b = 0) {arr : Array Value} (ha : arr = (concs E l).toArray) :
    BlkRel P E' b (.cells ty l.length true 0 false [] (listTr l 0 .e)) (.cells arr ty) := by
  refine ⟨arr, (0, 0), rfl, ⟨fun k v hk => ?_, ?_, ?_, ?_⟩⟩
  · have hk := cell_list hk
    rw [hβ, Nat.zero_add, ha, conc_ext he v (bds_get hl hk)]
    simp [concs_get hk]
  · simp [hβ, ha, concs_map]
  · intro o _ _ h; omega
  · intro _; exact .inl rfl

theorem list_bd {l : List V} {ty : Nat} {c' : Nat → Prop} {ex str : Bool} {fz : Nat} (hl : bds c l) (hc : ∀ b, c b → c' b) : bdBlk c' (.cells ty l.length ex fz str [] (listTr l 0 .e)) :=
  fun k v hk => bd_mono hc v (bds_get hl (cell_list hk))

abbrev AOk (P : Program) (F : RO) (E : Env) (M : Mem) (c : Nat → Prop) (w : World) (a : Act) (o : Oper) (b : Nat) (c' : Nat → Prop) (v : V) (blk : Blk) : Prop :=
  ∃ E' w', (execOp a.eval o).run P w = .ok (.value (conc E' v)) w' ∧ Stp P F E M c w E' (M.set b blk) c' w' ∧ Ext (· ≠ b) E E' ∧ bd c' v

theorem a_alloc (h : Cx P E F M c w t a) {o : Oper} {ty : TypeId} (hop : o.op = .alloc ty) {ao : AO} (hc : compOp P o.op = some (.a ao)) {b : Nat} {c' : Nat → Prop} (hb : ¬ c b) (hbc : c' b) (hcc : ∀ b, c b → c' b) {v : V} {blk : Blk} (ha : aop ao b t = some (v, blk)) : AOk P F E M c w a o b c' v blk := by
  rw [hop] at hc
  obtain ⟨z, hz, e⟩ := Option.map_eq_some_iff.1 hc
  obtain rfl : AO.al ty (cellsOfV z) = ao := by simpa using e
  have ha' : a_al ty (cellsOfV z) b t = some (v, blk) := ha
  unfold a_al at ha'
  by_cases h1 : allOne (cellsOfV z) = true
  · rw [h1, cond_true] at ha'
    simp only [Option.some.injEq, Prod.mk.injEq] at ha'
    obtain ⟨rfl, rfl⟩ := ha'
    have hz' := zeroV_run (E := E) (c := c) (w := w) hz
    have hcell : (conc E z).cells = (concs E (cellsOfV z)).toArray := by rw [flatten_cells, cellsOfV_eq]
    have hbd : bds c (cellsOfV z) := by rw [cellsOfV_eq]; exact flatten_bd hz'.2
    obtain ⟨E', hS, hE, hρ, hβ, _⟩ := h.rel.alloc (.cells ty (cellsOfV z).length true 0 false [] (listTr (cellsOfV z) 0 .e)) (.cells (conc E z).cells ty) b 0 c' hb hbc hcc (list_bd hbd hcc) { w with heap := w.heap.push (.cells (conc E z).cells ty) } rfl rfl rfl rfl
      (fun E' he _ hβ _ => list_rel he hbd hβ hcell)
    refine ⟨E', _, ?_, hS, hE, hbc⟩
    simp only [execOp, hop]
    refine val_run ?_
    simp only [Instr.alloc, Sem.run_bind, hz'.1, Result.andThen_ok, newVar, newRow, run_newObj, Sem.run_pure, conc, hρ, hβ, Nat.add_zero]
  · rw [Bool.not_eq_true] at h1
    rw [h1] at ha'; cases ha'

theorem a_box (h : Cx P E F M c w t a) {o : Oper} {ty : TypeId} {y : Operand} (hop : o.op = .box ty y) {ao : AO} (hc : compOp P o.op = some (.a ao)) {b : Nat} {c' : Nat → Prop} (hb : ¬ c b) (hbc : c' b) (hcc : ∀ b, c b → c' b) {v : V} {blk : Blk} (ha : aop ao b t = some (v, blk)) : AOk P F E M c w a o b c' v blk := by
  rw [hop] at hc
  simp only [compOp] at hc
  split at hc
  · rename_i s x hs hx
    obtain rfl : AO.bx ty s x = ao := by simpa using hc
    have ha' : a_bx ty s x b t = some (v, blk) := ha
    unfold a_bx at ha'
    rw [beqN] at ha'
    by_cases h1 : (flatten (x.ev t)).length = s
    · by_cases h2 : allOne (flatten (x.ev t)) = true
      · rw [decide_eq_true h1, h2] at ha'
        simp only [Bool.and_self, cond_true, Option.some.injEq, Prod.mk.injEq] at ha'
        obtain ⟨rfl, rfl⟩ := ha'
        subst h1
        have e := h.ev hx
        have hbd := flatten_bd e.2
        obtain ⟨E', hS, hE, hρ, hβ, _⟩ := h.rel.alloc (.cells ty (flatten (x.ev t)).length true 0 false [] (listTr (flatten (x.ev t)) 0 .e)) (.cells (conc E (x.ev t)).cells ty) b 0 c' hb hbc hcc (list_bd hbd hcc) { w with heap := w.heap.push (.cells (conc E (x.ev t)).cells ty) } rfl rfl rfl rfl
          (fun E' he _ hβ _ => list_rel he hbd hβ (flatten_cells E _))
        refine ⟨E', _, ?_, hS, hE, hbc⟩
        simp only [execOp, hop]
        refine val_run ?_
        rw [e.1]
        simp only [Instr.box, Sem.run_bind, Result.andThen_ok, newVar, newRow, run_newObj, Sem.run_pure, conc, hρ, hβ, Nat.add_zero]
      · rw [Bool.not_eq_true] at h2
        rw [h2, Bool.and_false] at ha'; cases ha'
    · rw [decide_eq_false h1] at ha'; cases ha'
  · cases hc

theorem a_makeMap (h : Cx P E F M c w t a) {o : Oper} {ty : TypeId} (hop : o.op = .makeMap ty none) {ao : AO} (hc : compOp P o.op = some (.a ao)) {b : Nat} {c' : Nat → Prop} (hb : ¬ c b) (hbc : c' b) (hcc : ∀ b, c b → c' b) {v : V} {blk : Blk} (ha : aop ao b t = some (v, blk)) : AOk P F E M c w a o b c' v blk := by
  rw [hop] at hc
  obtain rfl : AO.mkm = ao := by simpa [compOp] using hc
  have ha' : a_mkm b t = some (v, blk) := ha
  simp only [a_mkm, Option.some.injEq, Prod.mk.injEq] at ha'
  obtain ⟨rfl, rfl⟩ := ha'
  obtain ⟨E', hS, hE, hρ, hβ, _⟩ := h.rel.alloc (.map [] 0) (.map #[] 0) b 0 c' hb hbc hcc (fun e he => by cases he) { w with heap := w.heap.push (.map #[] 0) } rfl rfl rfl rfl (fun E' _ _ _ _ => rfl)
  refine ⟨E', _, ?_, hS, hE, hbc⟩
  simp only [execOp, hop]
  refine val_run ?_
  simp [Instr.makeMap, conc, hρ]

theorem a_rangeS (h : Cx P E F M c w t a) {o : Oper} {ty : TypeId} {y : Operand} (hop : o.op = .range ty y) {ao : AO} (hc : compOp P o.op = some (.a ao)) {b : Nat} {c' : Nat → Prop} (hb : ¬ c b) (hbc : c' b) (hcc : ∀ b, c b → c' b) {v : V} {blk : Blk} (ha : aop ao b t = some (v, blk)) : AOk P F E M c w a o b c' v blk := by
  rw [hop] at hc
  simp only [compOp] at hc
  split at hc
  · rename_i x hu hx
    obtain rfl : AO.rgs x = ao := by simpa using hc
    have e := h.ev hx
    cases hv : x.ev t with
    | s n s =>
      have ha' : (onS (x.ev t) none fun n s => some (V.p b 0, Blk.siter n s 0)) = some (v, blk) := ha
      rw [hv] at ha' e
      have ha2 : some (V.p b 0, Blk.siter n s 0) = some (v, blk) := ha'
      simp only [Option.some.injEq, Prod.mk.injEq] at ha2
      obtain ⟨rfl, rfl⟩ := ha2
      obtain ⟨E', hS, hE, hρ, hβ, _⟩ := h.rel.alloc (.siter n s 0) (.stringIter (ba n s) 0) b 0 c' hb hbc hcc trivial { w with heap := w.heap.push (.stringIter (ba n s) 0) } rfl rfl rfl rfl (fun E' _ _ hβ _ => ⟨hβ, rfl⟩)
      refine ⟨E', _, ?_, hS, hE, hbc⟩
      simp only [execOp, hop]
      refine val_run ?_
      rw [e.1]
      simp [Instr.range, run_und hu, conc, hρ, hβ]
    | _ =>
      have ha' : (onS (x.ev t) none fun n s => some (V.p b 0, Blk.siter n s 0)) = some (v, blk) := ha
      rw [hv] at ha'
      cases (show (none : Option (V × Blk)) = some (v, blk) from ha')
  · cases hc
  · cases hc

theorem byteCells_one (n : Nat) : ∀ (x j : Nat) (v : V), (byteCells n x)[j]? = some v → bd c v := fun x j v hj => bds_get (byteCells_bd n x) hj

theorem a_convert (h : Cx P E F M c w t a) {o : Oper} {s d : TypeId} {y : Operand} (hop : o.op = .convert s d y) {ao : AO} (hc : compOp P o.op = some (.a ao)) {b : Nat} {c' : Nat → Prop} (hb : ¬ c b) (hbc : c' b) (hcc : ∀ b, c b → c' b) {v : V} {blk : Blk} (ha : aop ao b t = some (v, blk)) : AOk P F E M c w a o b c' v blk := by
  rw [hop] at hc
  simp only [compOp] at hc
  split at hc
  · cases hc
  · cases hc
  · split at hc <;> cases hc
  · rename_i el x hs hd hx
    split at hc
    · rename_i hu8
      obtain rfl : AO.sb el x = ao := by simpa using hc
      rw [Bool.and_eq_true] at hu8
      have hel : P.underlying el = some (.int .u8) := by
        have := hu8.1
        unfold isU8 at this
        split at this
        · assumption
        · cases this
      have hsz : P.cellsOf el = 1 := cellsOf_sz (by simpa using hu8.2)
      have e := h.ev hx
      have ha' : (onS (x.ev t) none fun n s => some (V.u b 0 n 0 n, Blk.cells el n false 0 true [] (listTr (byteCells n s) 0 .e))) = some (v, blk) := ha
      cases hv : x.ev t with
      | s n sx =>
        rw [hv] at ha' e
        have ha2 : some (V.u b 0 n 0 n, Blk.cells el n false 0 true [] (listTr (byteCells n sx) 0 .e)) = some (v, blk) := ha'
        simp only [Option.some.injEq, Prod.mk.injEq] at ha2
        obtain ⟨rfl, rfl⟩ := ha2
        have hrun := run_bytes_of_string (P := P) w s d el (ba n sx) hs hd hel
        have hgc : n ≤ grownCap w n 0 el := by simp [grownCap, Question.cut]
        have hrow : bytesRow (ba n sx) (grownCap w n 0 el) = (concs E (byteCells n sx)).toArray ++ Array.replicate (grownCap w n 0 el - n) (.int .u8 0) := by
          rw [bytesRow, byteCells_conc, ba_size]
          congr 1
          simp [ba]
        have hrs : (bytesRow (ba n sx) (grownCap w n 0 el)).size = grownCap w n 0 el := by
          rw [hrow]; simp [concs_map, byteCells_length]; omega
        rw [ba_size] at hrun
        obtain ⟨E', hS, hE, hρ, hβ, hκ⟩ := h.rel.alloc (.cells el n false 0 true [] (listTr (byteCells n sx) 0 .e)) (.cells (bytesRow (ba n sx) (grownCap w n 0 el)) el ((bytesRow (ba n sx) (grownCap w n 0 el)).size, (bytesRow (ba n sx) (grownCap w n 0 el)).size + 1)) b (grownCap w n 0 el - n) c' hb hbc hcc
          (fun k v hk => bd_mono hcc v (by
            have hk' := cell_list (l := byteCells n sx) (by rw [byteCells_length]; exact hk)
            exact byteCells_one n sx _ v hk'))
          (w.drew.alloc (.cells (bytesRow (ba n sx) (grownCap w n 0 el)) el ((bytesRow (ba n sx) (grownCap w n 0 el)).size, (bytesRow (ba n sx) (grownCap w n 0 el)).size + 1))) rfl rfl rfl rfl
          (fun E' he _ hβ hκ => by
            refine ⟨_, _, rfl, ⟨fun k v hk => ?_, ?_, ?_, ?_⟩⟩
            · have hk' := cell_list (l := byteCells n sx) (by rw [byteCells_length]; exact hk)
              have hlt : k < (byteCells n sx).length := (List.getElem?_eq_some_iff.1 hk').1
              rw [hβ, Nat.zero_add, hrow, conc_ext he v (byteCells_one n sx _ v hk'), Array.getElem?_append_left (by simpa [concs_map] using hlt)]
              simp [concs_get hk']
            · simp only [Bool.false_eq_true, if_false]
              rw [hrs, hβ, hκ, hsz]; omega
            · intro o _ ho hf
              have := hf.1
              simp only at this
              omega
            · intro hf; cases hf)
        refine ⟨E', _, ?_, hS, hE, hbc⟩
        simp only [execOp, hop]
        refine val_run ?_
        rw [e.1]
        simp only [conc]
        rw [hrun, hρ, hβ, hκ]
        have e0 : grownCap w n 0 el = n - 0 + (grownCap w n 0 el - n) := by omega
        rw [← e0]
      | _ =>
        rw [hv] at ha'
        cases (show (none : Option (V × Blk)) = some (v, blk) from ha')
    · cases hc
  · split at hc <;> cases hc
  · split at hc <;> cases hc
  · split at hc <;> cases hc
  · cases hc


/-- a row of zeros and parts -/
theorem zeroRow_get (zero : Array Value) (n j : Nat) (hj : j < n) (hz : 0 < zero.size) : ((Array.range n).map (zero[· % zero.size]!))[j]? = zero[j % zero.size]? := by
  have hm : j % zero.size < zero.size := Nat.mod_lt _ hz
  simp [hj, hm]

structure RowOk (E : Env) (m : Nat) (zero : List V) (tr : T) (arr : Array Value) : Prop where
  size : arr.size = m
  get : ∀ k v, cell m zero tr k = some v → arr[k]? = some (conc E v)
  bd : ∀ k v, cell m zero tr k = some v → Ev.bd c v

theorem fillP_run (h : Cx P E F M c w t a) {sz m : Nat} {zero : List V} : ∀ {ps : List (Nat × Operand)} {qs : List (Nat × X)} {tr r : T} {arr : Array Value}, compParts2 sz ps = some qs → fillP sz m t qs tr = some r → RowOk (c := c) E m zero tr arr →
    ∃ arr', Instr.fill (fun i => some (i * sz, sz)) arr (ps.map fun p => (p.1, a.eval p.2)) = some arr' ∧ RowOk (c := c) E m zero r arr'
  | [], qs, tr, r, arr, hc, hf, hR => by
    obtain rfl := Option.some.inj hc
    obtain rfl := Option.some.inj hf
    exact ⟨arr, rfl, hR⟩
  | (i, y) :: ps, qs, tr, r, arr, hc, hf, hR => by
    rw [compParts2] at hc
    split at hc
    · rename_i x l h1 h2
      obtain rfl := Option.some.inj hc
      rw [fillP, beqN, bleN, Tr.force_eq] at hf
      have e := h.ev h1
      by_cases g1 : (flatten (x.ev t)).length = sz
      · by_cases g2 : i * sz + sz ≤ m
        · by_cases g3 : allOne (flatten (x.ev t)) = true
          · rw [decide_eq_true g1, show Nat.add (i * sz) sz = i * sz + sz from rfl, decide_eq_true g2, g3] at hf
            simp only [Bool.and_self, cond_true] at hf
            have hcells : (a.eval y).cells = (concs E (flatten (x.ev t))).toArray := by rw [e.1, flatten_cells]
            have hlen : (concs E (flatten (x.ev t))).length = sz := by simp [concs_map, g1]
            have hfold := foldSet (i * sz) (concs E (flatten (x.ev t))) 0 arr
            have hR' : RowOk (c := c) E m zero (listTr (flatten (x.ev t)) (i * sz) tr) (((concs E (flatten (x.ev t))).zipIdx 0).foldl (fun cs (p : Value × Nat) => cs.setIfInBounds (i * sz + p.2) p.1) arr) := by
              refine ⟨by rw [hfold.1, hR.size], fun k v hk => ?_, fun k v hk => ?_⟩
              · rw [cell_eq, listTr_get] at hk
                by_cases hkm : k < m
                · rw [if_pos hkm] at hk
                  rw [hfold.2 k (by rw [hR.size]; exact hkm), hlen, Nat.add_zero]
                  rw [g1] at hk
                  by_cases hin : i * sz ≤ k ∧ k < i * sz + sz
                  · rw [if_pos hin] at hk ⊢
                    have hlt : k - i * sz < (flatten (x.ev t)).length := by omega
                    rw [List.getElem?_eq_getElem hlt] at hk
                    obtain rfl := Option.some.inj hk
                    exact concs_get (List.getElem?_eq_getElem hlt)
                  · rw [if_neg hin] at hk ⊢
                    exact hR.get k v (by rw [cell_eq, if_pos hkm]; exact hk)
                · rw [if_neg hkm] at hk; cases hk
              · rw [cell_eq, listTr_get] at hk
                by_cases hkm : k < m
                · rw [if_pos hkm] at hk
                  by_cases hin : i * sz ≤ k ∧ k < i * sz + (flatten (x.ev t)).length
                  · rw [if_pos hin] at hk
                    have hlt : k - i * sz < (flatten (x.ev t)).length := by omega
                    rw [List.getElem?_eq_getElem hlt] at hk
                    obtain rfl := Option.some.inj hk
                    exact bds_get (flatten_bd e.2) (List.getElem?_eq_getElem hlt)
                  · rw [if_neg hin] at hk
                    exact hR.bd k v (by rw [cell_eq, if_pos hkm]; exact hk)
                · rw [if_neg hkm] at hk; cases hk
            obtain ⟨arr', ha, hR''⟩ := fillP_run h h2 hf hR'
            refine ⟨arr', ?_, hR''⟩
            simp only [List.map_cons, Instr.fill, hcells]
            have c1 : (concs E (flatten (x.ev t))).toArray.size = sz := by simp [concs_map, g1]
            rw [c1, hR.size]
            have c2 : ¬ (i * sz + sz > m) := by omega
            simp only [ne_eq, not_true_eq_false, decide_false, Bool.false_or, decide_eq_true_eq, c2, if_false]
            rw [← ha]
            congr 1
            simp
          · rw [Bool.not_eq_true] at g3
            rw [g3, Bool.and_false] at hf; cases hf
        · rw [show Nat.add (i * sz) sz = i * sz + sz from rfl, decide_eq_false g2] at hf
          simp at hf
      · rw [decide_eq_false g1] at hf; simp at hf
    · cases hc

theorem zero_row {zero : List V} {m : Nat} (hz : bds c zero) (hpos : 0 < zero.length) : RowOk (c := c) E m zero .e ((Array.range m).map ((concs E zero).toArray[· % (concs E zero).toArray.size]!)) := by
  have hsz : (concs E zero).toArray.size = zero.length := by simp [concs_map]
  refine ⟨by simp, fun k v hk => ?_, fun k v hk => ?_⟩
  · rw [cell_eq] at hk
    by_cases hkm : k < m
    · rw [if_pos hkm] at hk
      rw [zeroRow_get _ _ _ hkm (by rw [hsz]; exact hpos), hsz]
      simp only [Tr.get_e] at hk
      simp [concs_get hk]
    · rw [if_neg hkm] at hk; cases hk
  · rw [cell_eq] at hk
    by_cases hkm : k < m
    · rw [if_pos hkm] at hk
      simp only [Tr.get_e] at hk
      exact bds_get hz hk
    · rw [if_neg hkm] at hk; cases hk

theorem row_rel {E' : Env} {m b ty : Nat} {zero : List V} {tr : T} {arr : Array Value} (he : Ext c E E') (hR : RowOk (c := c) E m zero tr arr) (hβ : E'.β b = 0) : BlkRel P E' b (.cells ty m true 0 false zero tr) (.cells arr ty) := by
  refine ⟨arr, (0, 0), rfl, ⟨fun k v hk => ?_, ?_, ?_, ?_⟩⟩
  · rw [hβ, Nat.zero_add, hR.get k v hk, conc_ext he v (hR.bd k v hk)]
  · simp [hβ, hR.size]
  · intro o _ _ h; omega
  · intro _; exact .inl rfl

theorem empty_row {m : Nat} (hm : m = 0) (zero : List V) : RowOk (c := c) E m zero .e ((Array.range m).map ((#[] : Array Value)[· % (#[] : Array Value).size]!)) := by
  subst hm
  refine ⟨by simp, fun k v hk => ?_, fun k v hk => ?_⟩ <;> (rw [cell_eq, if_neg (by omega)] at hk; cases hk)

theorem a_buildSlice (h : Cx P E F M c w t a) {o : Oper} {ty : TypeId} {n : Nat} {parts : Array (Nat × Operand)} (hop : o.op = .buildSlice ty n parts) {ao : AO} (hc : compOp P o.op = some (.a ao)) {b : Nat} {c' : Nat → Prop} (hb : ¬ c b) (hbc : c' b) (hcc : ∀ b, c b → c' b) {v : V} {blk : Blk} (ha : aop ao b t = some (v, blk)) : AOk P F E M c w a o b c' v blk := by
  rw [hop] at hc
  simp only [compOp] at hc
  have hparts : (parts.map fun (p : Nat × Operand) => (p.1, a.eval p.2)).toList = parts.toList.map fun p => (p.1, a.eval p.2) := by simp
  split at hc
  · rename_i el hu
    split at hc
    · rename_i s z hs hz
      split at hc
      · cases hc
      · rename_i hcond
        simp only [Bool.or_eq_true, decide_eq_true_eq, not_or] at hcond
        obtain ⟨qs, hqs, e⟩ := Option.map_eq_some_iff.1 hc
        obtain rfl : AO.bsl el n s (cellsOfV z) qs = ao := by simpa using e
        have ha' : a_bsl el n s (cellsOfV z) qs b t = some (v, blk) := ha
        unfold a_bsl at ha'
        split at ha'
        · rename_i tr htr
          rw [fN_eq] at ha'
          simp only [Option.some.injEq, Prod.mk.injEq] at ha'
          obtain ⟨rfl, rfl⟩ := ha'
          have hz' := zeroV_run (E := E) (c := c) (w := w) hz
          have hcell : (conc E z).cells = (concs E (cellsOfV z)).toArray := by rw [flatten_cells, cellsOfV_eq]
          have hbd : bds c (cellsOfV z) := by rw [cellsOfV_eq]; exact flatten_bd hz'.2
          by_cases hpos : 0 < (cellsOfV z).length
          · by_cases hns : n * s = 0
            · obtain ⟨arr, hfill, hR⟩ := fillP_run h hqs (m := n * s) htr (empty_row (E := E) hns (cellsOfV z))
              obtain ⟨E', hS, hE, hρ, hβ, _⟩ := h.rel.alloc (.cells el (n * s) true 0 false (cellsOfV z) tr) (.cells arr el) b 0 c' hb hbc hcc (fun k v hk => bd_mono hcc v (hR.bd k v hk)) { w with heap := w.heap.push (.cells arr el) } rfl rfl rfl rfl
                (fun E' he _ hβ _ => row_rel he hR hβ)
              refine ⟨E', _, ?_, hS, hE, hbc⟩
              simp only [execOp, hop]
              refine val_run ?_
              have hns' : ¬ (n * s > 2 ^ 24) := by omega
              simp only [Instr.buildSlice, Sem.run_bind, run_und hu, Result.andThen_ok, run_sz hs, hns', if_false, Sem.run_ite, hns, if_true, Sem.run_pure, hparts]
              rw [hns] at hfill
              simp only [hfill, newRow, Sem.run_bind, run_newObj, Sem.run_pure, Result.andThen_ok, conc, hρ, hβ, Nat.add_zero]
              rw [if_neg (by decide)]
            · obtain ⟨arr, hfill, hR⟩ := fillP_run h hqs (m := n * s) htr (zero_row (E := E) hbd hpos)
              obtain ⟨E', hS, hE, hρ, hβ, _⟩ := h.rel.alloc (.cells el (n * s) true 0 false (cellsOfV z) tr) (.cells arr el) b 0 c' hb hbc hcc (fun k v hk => bd_mono hcc v (hR.bd k v hk)) { w with heap := w.heap.push (.cells arr el) } rfl rfl rfl rfl
                (fun E' he _ hβ _ => row_rel he hR hβ)
              refine ⟨E', _, ?_, hS, hE, hbc⟩
              simp only [execOp, hop]
              refine val_run ?_
              have hns' : ¬ (n * s > 2 ^ 24) := hcond.1.2
              simp only [Instr.buildSlice, Sem.run_bind, run_und hu, Result.andThen_ok, run_sz hs, hns', if_false, Sem.run_ite, hns, hz'.1, Sem.run_pure, hparts, hcell]
              simp only [hfill, newRow, Sem.run_bind, run_newObj, Sem.run_pure, Result.andThen_ok, conc, hρ, hβ, Nat.add_zero]
          · exfalso
            have := hcond.2
            cases hcz : cellsOfV z with
            | nil => rw [hcz] at this; simp at this
            | cons x l => rw [hcz] at hpos; simp at hpos
        · cases ha'
    · cases hc
  · cases hc


theorem a_makeSlice (h : Cx P E F M c w t a) {o : Oper} {ty : TypeId} {l k : Operand} (hop : o.op = .makeSlice ty l k) {ao : AO} (hc : compOp P o.op = some (.a ao)) {b : Nat} {c' : Nat → Prop} (hb : ¬ c b) (hbc : c' b) (hcc : ∀ b, c b → c' b) {v : V} {blk : Blk} (ha : aop ao b t = some (v, blk)) : AOk P F E M c w a o b c' v blk := by
  rw [hop] at hc
  simp only [compOp] at hc
  split at hc
  · rename_i el xl xk hu h1 h2
    split at hc
    · rename_i s by_ z hs hby hz
      split at hc
      · cases hc
      · rename_i hcond
        simp only [Bool.or_eq_true, decide_eq_true_eq, not_or] at hcond
        obtain rfl : AO.mks el s by_ (cellsOfV z) xl xk = ao := by simpa using hc
        have ha' : a_mks1 el s by_ (cellsOfV z) b (asN (xl.ev t)) (asN (xk.ev t)) = some (v, blk) := ha
        unfold a_mks1 at ha'
        split at ha'
        · rename_i ln cp hl hk
          rw [bleN, bleN] at ha'
          by_cases g1 : ln ≤ cp
          · by_cases g2 : cp * (by_ + 1) ≤ 1099511627776
            · rw [decide_eq_true g1, show Nat.mul cp (Nat.succ by_) = cp * (by_ + 1) from rfl, decide_eq_true g2, fN_eq] at ha'
              simp only [Bool.and_self, cond_true, Option.some.injEq, Prod.mk.injEq] at ha'
              obtain ⟨rfl, rfl⟩ := ha'
              obtain ⟨k1, e1⟩ := asN_some hl
              obtain ⟨k2, e2⟩ := asN_some hk
              have v1 := h.ev h1
              have v2 := h.ev h2
              rw [e1] at v1
              rw [e2] at v2
              have hz' := zeroV_run (E := E) (c := c) (w := w) hz
              have hcell : (conc E z).cells = (concs E (cellsOfV z)).toArray := by rw [flatten_cells, cellsOfV_eq]
              have hbd : bds c (cellsOfV z) := by rw [cellsOfV_eq]; exact flatten_bd hz'.2
              have hpos : 0 < (cellsOfV z).length := by
                cases hcz : cellsOfV z with
                | nil => exact absurd (by rw [hcz]; rfl) hcond.2
                | cons x l => exact Nat.succ_pos _
              have hcp : cp ≤ 1099511627776 := by
                have : cp * 1 ≤ cp * (by_ + 1) := Nat.mul_le_mul_left cp (by omega)
                omega
              have hbc2 : by_ * cp ≤ 1099511627776 := by
                have : cp * by_ ≤ cp * (by_ + 1) := Nat.mul_le_mul_left cp (by omega)
                rw [Nat.mul_comm]; omega
              have w1 : IntKind.i64.wrap (ln : Int) = ln := by
                rw [wrap_s .i64 _ 18446744073709551616 9223372036854775808 rfl (by decide) (by decide), if_neg (by omega)]; omega
              have w2 : IntKind.i64.wrap (cp : Int) = cp := by
                rw [wrap_s .i64 _ 18446744073709551616 9223372036854775808 rfl (by decide) (by decide), if_neg (by omega)]; omega
              obtain ⟨i, hi, hib⟩ : ∃ i, P.info? el = some i ∧ i.bytes = by_ := by
                obtain ⟨i, hi, e⟩ := Option.map_eq_some_iff.1 hby
                exact ⟨i, hi, e⟩
              have hti : (typeInfo el).run P w = .ok i w := by simp [typeInfo, hi]
              have hbig : ¬ ((by_ : Int) * (cp : Int) > 2 ^ 48) := by
                have : ((by_ * cp : Nat) : Int) ≤ ((1099511627776 : Nat) : Int) := Int.ofNat_le.2 hbc2
                rw [Int.natCast_mul] at this
                have h48 : (2 : Int) ^ 48 = 281474976710656 := by decide
                rw [h48]; omega
              have htest : (decide ((cp : Int) < 0) || decide ((by_ : Int) * (cp : Int) > 2 ^ 48) || decide ((ln : Int) < 0) || decide ((ln : Int) > (cp : Int))) = false := by
                simp only [Bool.or_eq_false_iff, decide_eq_false_iff_not]
                exact ⟨⟨⟨by omega, hbig⟩, by omega⟩, by omega⟩
              by_cases hns : cp * s = 0
              · have hR := empty_row (E := E) (c := c) hns (cellsOfV z)
                obtain ⟨E', hS, hE, hρ, hβ, _⟩ := h.rel.alloc (.cells el (cp * s) true 0 false (cellsOfV z) .e) (.cells _ el) b 0 c' hb hbc hcc (fun k v hk => bd_mono hcc v (hR.bd k v hk)) { w with heap := w.heap.push (.cells _ el) } rfl rfl rfl rfl
                  (fun E' he _ hβ _ => row_rel he hR hβ)
                refine ⟨E', _, ?_, hS, hE, hbc⟩
                simp only [execOp, hop]
                refine val_run ?_
                rw [v1.1, v2.1]
                simp only [Instr.makeSlice, Sem.run_bind, run_und hu, Result.andThen_ok, conc, asInt, asIntOf, Sem.run_pure, hti, hib, w1, w2, htest, Bool.false_eq_true, if_false, Sem.run_ite, run_askRoom, Int.toNat_natCast, run_sz hs, hns, if_true, newRow, run_newObj, hρ, hβ, Nat.add_zero]
              · have hR := zero_row (E := E) (c := c) (m := cp * s) hbd hpos
                obtain ⟨E', hS, hE, hρ, hβ, _⟩ := h.rel.alloc (.cells el (cp * s) true 0 false (cellsOfV z) .e) (.cells _ el) b 0 c' hb hbc hcc (fun k v hk => bd_mono hcc v (hR.bd k v hk)) { w with heap := w.heap.push (.cells _ el) } rfl rfl rfl rfl
                  (fun E' he _ hβ _ => row_rel he hR hβ)
                refine ⟨E', _, ?_, hS, hE, hbc⟩
                simp only [execOp, hop]
                refine val_run ?_
                rw [v1.1, v2.1]
                simp only [Instr.makeSlice, Sem.run_bind, run_und hu, Result.andThen_ok, conc, asInt, asIntOf, Sem.run_pure, hti, hib, w1, w2, htest, Bool.false_eq_true, if_false, Sem.run_ite, run_askRoom, Int.toNat_natCast, run_sz hs, hns, hz'.1, hcell, newRow, run_newObj, hρ, hβ, Nat.add_zero]
            · rw [show Nat.mul cp (Nat.succ by_) = cp * (by_ + 1) from rfl, decide_eq_false g2, Bool.and_false] at ha'; cases ha'
          · rw [decide_eq_false g1] at ha'; cases ha'
        · cases ha'
    · cases hc
  · cases hc


theorem digits_size (n : Nat) : ∀ (x : Nat) (acc : Array Value), (Extern.BytealgMakeNoZero.digits n x acc).size = acc.size + n := by
  induction n with
  | zero => intro x acc; rfl
  | succ n ih => intro x acc; rw [Extern.BytealgMakeNoZero.digits, ih]; simp; omega

theorem asI64_some {v : V} {n : Nat} (h : asI64 v = some n) : v = .i .i64 (n : Int) := by
  unfold asI64 at h
  split at h
  · obtain rfl := Option.some.inj h; rfl
  · cases h

theorem noZero_run {ps rs : Array TypeId} {ty el n : Nat} (hr : rs[0]? = some ty) (hu : P.underlying ty = some (.slice el)) (hn : n ≤ 1099511627776) :
    ∃ bytes, (Extern.BytealgMakeNoZero.makeNoZero ps rs #[.int .i64 (n : Int)]).run P w = .ok (.slice (some ⟨w.heap.size, 0, none⟩) n (grownCap w n 0 el))
      { w with heap := w.heap.push (.cells (Extern.BytealgMakeNoZero.digits (grownCap w n 0 el) bytes #[]) el), drawn := w.drawn + 1 + 1 } := by
  have h1 : ¬ ((n : Int) < 0) := by omega
  have h2 : ¬ ((n : Int) > 2 ^ 48) := by
    have h48 : (2 : Int) ^ 48 = 281474976710656 := by decide
    rw [h48]; omega
  refine ⟨?_, ?_⟩
  rotate_left
  · conv => lhs; arg 2; whnf
    simp only [hr, Sem.run_bind, run_und hu, Result.andThen_ok, h1, h2, decide_false, Bool.or_self, Bool.false_eq_true, if_false, Sem.run_ite, Int.toNat_natCast, run_choose, Question.forced, run_askRoom, newRow, run_newObj, Sem.run_pure, Question.cut]
    rfl

theorem a_extern (h : Cx P E F M c w t a) {o : Oper} {cl : Call} {f : FuncId} {fn : Func} (hop : o.op = .call cl) (hcal : cl.callee = .value (.func f)) (hf : P.funcs[f]? = some fn) (hb0 : fn.body.isNone = true) {ao : AO} (hc : compExtern P fn cl.args.toList = some (.a ao)) {b : Nat} {c' : Nat → Prop} (hb : ¬ c b) (hbc : c' b) (hcc : ∀ b, c b → c' b) {v : V} {blk : Blk} (ha : aop ao b t = some (v, blk)) : AOk P F E M c w a o b c' v blk := by
  unfold compExtern at hc
  split at hc
  · cases hc
  · rename_i hor
    have hor : fn.origin = "" := by simpa using hor
    split at hc
    · split at hc
      · split at hc <;> cases hc
      · split at hc
        · split at hc <;> cases hc
        · cases hc
    · rename_i y hargs
      split at hc
      · obtain ⟨z, hz, e⟩ := Option.bind_eq_some_iff.1 hc; cases e
      · split at hc
        · rename_i hnm
          have hnm : fn.name = "internal/bytealg.MakeNoZero" := by simpa using hnm
          split at hc
          · rename_i x ty hx hres
            split at hc
            · rename_i el hu
              split at hc
              · rename_i hu8
                rw [Bool.and_eq_true] at hu8
                have hsz : P.cellsOf el = 1 := cellsOf_sz (by simpa using hu8.2)
                obtain rfl : AO.nz el x = ao := by simpa using hc
                have ha' : a_nz el x b t = some (v, blk) := ha
                unfold a_nz at ha'
                split at ha'
                · rename_i n hn
                  rw [bleN] at ha'
                  by_cases g1 : n ≤ 1099511627776
                  · rw [decide_eq_true g1] at ha'
                    simp only [cond_true, Option.some.injEq, Prod.mk.injEq] at ha'
                    obtain ⟨rfl, rfl⟩ := ha'
                    have e1 := asI64_some hn
                    have v1 := h.ev hx
                    rw [e1] at v1
                    have hres0 : fn.resultTypes[0]? = some ty := by rw [arr_of_list hres]; rfl
                    have hgc : n ≤ grownCap w n 0 el := by simp [grownCap, Question.cut]
                    obtain ⟨bytes, w', hrun, hheap, hos, hout, htape⟩ : ∃ bytes w', (Extern.BytealgMakeNoZero.makeNoZero fn.params fn.resultTypes #[.int .i64 (n : Int)]).run P w = .ok (.slice (some ⟨w.heap.size, 0, none⟩) n (grownCap w n 0 el)) w' ∧
                        w'.heap = w.heap.push (.cells (Extern.BytealgMakeNoZero.digits (grownCap w n 0 el) bytes #[]) el) ∧ w'.os = w.os ∧ w'.output = w.output ∧ w'.tape = w.tape := by
                      obtain ⟨bytes, hb2⟩ := noZero_run (P := P) (w := w) (ps := fn.params) hres0 hu g1
                      exact ⟨bytes, _, hb2, rfl, rfl, rfl, rfl⟩
                    obtain ⟨E', hS, hE, hρ, hβ, hκ⟩ := h.rel.alloc (.cells el n false 0 false [] .e) (.cells (Extern.BytealgMakeNoZero.digits (grownCap w n 0 el) bytes #[]) el) b (grownCap w n 0 el - n) c' hb hbc hcc
                      (fun k v hk => by
                        rw [cell_eq] at hk
                        simp only [Tr.get_e, List.getElem?_nil] at hk
                        split at hk <;> cases hk) w' hheap hos hout htape
                      (fun E' he _ hβ hκ => by
                        refine ⟨_, _, rfl, ⟨fun k v hk => ?_, ?_, ?_, ?_⟩⟩
                        · rw [cell_eq] at hk
                          simp only [Tr.get_e, List.getElem?_nil] at hk
                          split at hk <;> cases hk
                        · simp only [Bool.false_eq_true, if_false]
                          rw [digits_size, hβ, hκ, hsz]; simp; omega
                        · intro o _ _ h; omega
                        · intro _; exact .inl rfl)
                    refine ⟨E', w', ?_, hS, hE, hbc⟩
                    refine exec_extern hop hcal hf hb0 (by rw [hnm]; decide) (next_none hnm hor nx_nz nx_empty) (find_typed hnm ge_nz ty_nz) hargs ?_
                    simp only [List.map_cons, List.map_nil, v1.1, conc]
                    rw [hrun, hρ, hβ, hκ]
                    have e0 : grownCap w n 0 el = n - 0 + (grownCap w n 0 el - n) := by omega
                    rw [← e0]
                  · rw [decide_eq_false g1] at ha'; cases ha'
                · cases ha'
              · cases hc
            · cases hc
          · cases hc
        · cases hc
    · cases hc

/-- EVERY ALLOCATION -/
theorem a_all (h : Cx P E F M c w t a) {o : Oper} {ao : AO} (hc : compOp P o.op = some (.a ao)) {b : Nat} {c' : Nat → Prop} (hb : ¬ c b) (hbc : c' b) (hcc : ∀ b, c b → c' b) {v : V} {blk : Blk} (ha : aop ao b t = some (v, blk)) : AOk P F E M c w a o b c' v blk := by
  cases hop : o.op with
  | alloc ty => exact a_alloc h hop hc hb hbc hcc ha
  | box ty y => exact a_box h hop hc hb hbc hcc ha
  | buildSlice ty n ps => exact a_buildSlice h hop hc hb hbc hcc ha
  | convert s d y => exact a_convert h hop hc hb hbc hcc ha
  | makeMap ty r =>
    cases r with
    | none => exact a_makeMap h hop hc hb hbc hcc ha
    | some z => rw [hop] at hc; cases hc
  | makeSlice ty l k => exact a_makeSlice h hop hc hb hbc hcc ha
  | range ty y => exact a_rangeS h hop hc hb hbc hcc ha
  | call cl =>
    rw [hop] at hc
    simp only [compOp] at hc
    split at hc
    · rename_i b' hcal
      exfalso
      unfold compBuiltin at hc
      split at hc
      · split at hc <;> first | cases hc | (split at hc <;> cases hc)
      · split at hc <;> cases hc
      · split at hc
        · split at hc
          · split at hc
            · cases hc
            · split at hc <;> cases hc
          · cases hc
        · cases hc
      · split at hc
        · split at hc
          · split at hc <;> cases hc
          · cases hc
        · cases hc
      · split at hc
        · split at hc
          · split at hc <;> cases hc
          · cases hc
        · cases hc
      · split at hc <;> cases hc
      · split at hc <;> cases hc
      · split at hc
        · obtain ⟨z, _, e⟩ := Option.map_eq_some_iff.1 hc; cases e
        · cases hc
      · split at hc
        · split at hc <;> cases hc
        · cases hc
      · obtain ⟨z, _, e⟩ := Option.bind_eq_some_iff.1 hc; cases e
      · split at hc
        · obtain ⟨z, _, e⟩ := Option.map_eq_some_iff.1 hc; cases e
        · cases hc
      · cases hc
    · rename_i f hcal
      split at hc
      · rename_i fn hf
        split at hc
        · rename_i hb0
          exact a_extern h hop hcal hf hb0 hc hb hbc hcc ha
        · obtain ⟨z, _, e⟩ := Option.map_eq_some_iff.1 hc; cases e
      · cases hc
    · split at hc <;> cases hc
    · cases hc
  | move y => rw [hop] at hc; obtain ⟨z, _, e⟩ := Option.bind_eq_some_iff.1 hc; cases e
  | assign y => rw [hop] at hc; obtain ⟨z, _, e⟩ := Option.bind_eq_some_iff.1 hc; cases e
  | pick p y z => rw [hop] at hc; simp only [compOp] at hc; split at hc <;> cases hc
  | build ty ps =>
    rw [hop] at hc; simp only [compOp] at hc
    split at hc
    · split at hc
      · obtain ⟨z, _, e⟩ := Option.bind_eq_some_iff.1 hc; cases e
      · cases hc
    · split at hc
      · obtain ⟨z, _, e⟩ := Option.bind_eq_some_iff.1 hc; cases e
      · cases hc
    · cases hc
  | insert ty m k v =>
    rw [hop] at hc; simp only [compOp] at hc
    split at hc
    · obtain ⟨z, _, e⟩ := Option.map_eq_some_iff.1 hc; cases e
    · cases hc
  | load ty y => rw [hop] at hc; simp only [compOp] at hc; split at hc <;> cases hc
  | store ty y z => rw [hop] at hc; simp only [compOp] at hc; split at hc <;> cases hc
  | nilCheck y => rw [hop] at hc; obtain ⟨z, _, e⟩ := Option.bind_eq_some_iff.1 hc; cases e
  | binOp op ty y z ty' =>
    rw [hop] at hc; simp only [compOp] at hc
    split at hc
    · cases hc
    · cases hc
    · split at hc
      · obtain ⟨z, _, e⟩ := Option.bind_eq_some_iff.1 hc; cases e
      · obtain ⟨z, _, e⟩ := Option.bind_eq_some_iff.1 hc; cases e
      · cases hc
    · cases hc
  | unOp op ty y => rw [hop] at hc; obtain ⟨z, _, e⟩ := Option.bind_eq_some_iff.1 hc; cases e
  | makeInterface ty y => rw [hop] at hc; simp only [compOp] at hc; split at hc <;> cases hc
  | makeFunc fn l1 l2 =>
    cases fn with
    | func f => rw [hop] at hc; simp only [compOp] at hc; split at hc <;> cases hc
    | _ => rw [hop] at hc; cases hc
  | slice ty y lo hi mx =>
    rw [hop] at hc; simp only [compOp] at hc
    split at hc
    · split at hc
      · split at hc <;> cases hc
      · obtain ⟨z, _, e⟩ := Option.bind_eq_some_iff.1 hc; split at e <;> cases e
      · obtain ⟨z, _, e⟩ := Option.bind_eq_some_iff.1 hc; split at e <;> cases e
      · split at hc
        · obtain ⟨z, _, e⟩ := Option.bind_eq_some_iff.1 hc; split at e <;> cases e
        · cases hc
      · cases hc
    · cases hc
  | fieldAddr ty y f =>
    rw [hop] at hc; simp only [compOp] at hc
    split at hc
    · split at hc
      · split at hc <;> cases hc
      · cases hc
    · cases hc
  | field ty y f =>
    rw [hop] at hc; simp only [compOp] at hc
    split at hc
    · split at hc
      · split at hc <;> cases hc
      · cases hc
    · cases hc
  | indexAddr ty y i =>
    rw [hop] at hc; simp only [compOp] at hc
    split at hc
    · obtain ⟨z, _, e⟩ := Option.bind_eq_some_iff.1 hc; cases e
    · obtain ⟨z, _, e⟩ := Option.bind_eq_some_iff.1 hc; cases e
    · cases hc
  | index ty y i =>
    rw [hop] at hc; simp only [compOp] at hc
    split at hc
    · split at hc <;> cases hc
    · cases hc
    · cases hc
  | lookup ty y i ok =>
    rw [hop] at hc; simp only [compOp] at hc
    split at hc
    · split at hc <;> cases hc
    · cases hc
  | mapUpdate ty m k v =>
    rw [hop] at hc; simp only [compOp] at hc
    split at hc
    · obtain ⟨z, _, e⟩ := Option.map_eq_some_iff.1 hc; cases e
    · cases hc
  | next y b =>
    rw [hop] at hc
    cases b <;> (obtain ⟨z, _, e⟩ := Option.map_eq_some_iff.1 hc; cases e)
  | typeAssert y ty ty' ok => rw [hop] at hc; simp only [compOp] at hc; split at hc <;> cases hc
  | extract y i => rw [hop] at hc; obtain ⟨z, _, e⟩ := Option.bind_eq_some_iff.1 hc; cases e
  | sliceToArrayPointer d y => rw [hop] at hc; simp only [compOp] at hc; split at hc <;> cases hc
  | _ => rw [hop] at hc; cases hc

end
end Go.Proofs.YtffpeieapadocaaDoor.Ev

namespace Go.Proofs.YtffpeieapadocaaDoor.Ev
open Go

/-- what an operation leaves in its place -/
def NV (nx : Next) (v : Value) : Prop := nx = .value v ∨ (nx = .skip ∧ v = Go.undef)

theorem modify_eq {h : Array Obj} {r : Nat} {x : Obj} (f : Obj → Obj) (hx : h[r]? = some x) : h.modify r f = h.setIfInBounds r (f x) := by
  apply Array.ext_getElem?
  intro j
  rw [Array.getElem?_modify]
  by_cases e : r = j
  · subst e
    obtain ⟨hlt, hx'⟩ := Array.getElem?_eq_some_iff.1 hx
    simp [hlt, hx']
  · rw [if_neg e, Array.getElem?_setIfInBounds_ne e]

theorem setCell_eq {w : World} {r o : Nat} {arr : Array Value} {ty : TypeId} {fr : Nat × Nat} (h : w.heap[r]? = some (.cells arr ty fr)) (v : Value) :
    w.setCell ⟨r, o, none⟩ v = { w with heap := w.heap.setIfInBounds r (.cells (arr.setIfInBounds o v) ty fr) } := by
  unfold World.setCell
  rw [modify_eq _ h]
  simp

/-- values laid one behind the other -/
def splice (arr : Array Value) (off : Nat) (vs : List Value) (k : Nat) : Array Value := (vs.zipIdx k).foldl (fun cs (p : Value × Nat) => cs.setIfInBounds (off + p.2) p.1) arr

theorem storeCells_run {P : Program} (r off : Nat) (ty : TypeId) (fr : Nat × Nat) : ∀ (vs : List Value) (k : Nat) (arr : Array Value) (w : World), w.heap[r]? = some (.cells arr ty fr) →
    Unfrozen fr (off + k) arr.size → off + k + vs.length ≤ arr.size → (∀ v ∈ vs, v.oneCell' = true) →
    (storeCells ⟨r, off, none⟩ vs k).run P w = .ok () { w with heap := w.heap.setIfInBounds r (.cells (splice arr off vs k) ty fr) }
  | [], k, arr, w, h, _, _, _ => by
    have hlt := (Array.getElem?_eq_some_iff.1 h)
    simp only [storeCells, Sem.run_pure, splice, List.zipIdx_nil, List.foldl_nil]
    congr 1
    have : w.heap.setIfInBounds r (.cells arr ty fr) = w.heap := by
      apply Array.ext_getElem?
      intro j
      by_cases e : r = j
      · subst e
        rw [h]
        simp [hlt.1]
      · rw [Array.getElem?_setIfInBounds_ne e]
    rw [this]
  | v :: vs, k, arr, w, h, hf, hs, h1 => by
    simp only [List.length_cons] at hs
    have hc : w.cell? ⟨r, off + k, none⟩ = some (arr[off + k]'(by omega)) := by
      simp only [World.cell?, h, Option.isSome_none, Bool.false_eq_true, if_false]
      exact Array.getElem?_eq_getElem (by omega)
    have hz : w.frozen? ⟨r, off + k, none⟩ = false := by
      simp only [World.frozen?, h]
      have := hf (off + k) (Nat.le_refl _) (by omega)
      rw [Bool.and_eq_false_iff]
      simp only [decide_eq_false_iff_not]
      omega
    have hlt := (Array.getElem?_eq_some_iff.1 h).1
    rw [storeCells, Sem.run_bind, Addr.add_eq, run_store P w _ v _ (h1 v (by simp)), hc]
    simp only [hz, Bool.false_eq_true, if_false, Result.andThen_ok]
    rw [setCell_eq h]
    have h' : ({ w with heap := w.heap.setIfInBounds r (.cells (arr.setIfInBounds (off + k) v) ty fr) } : World).heap[r]? = some (.cells (arr.setIfInBounds (off + k) v) ty fr) := by
      simp [hlt]
    have ih := storeCells_run (P := P) r off ty fr vs (k + 1) (arr.setIfInBounds (off + k) v) _ h' (fun o ho ho' => hf o (by omega) (by simpa using ho')) (by simp; omega) (fun x hx => h1 x (by simp [hx]))
    rw [ih]
    simp only [splice, List.zipIdx_cons, List.foldl_cons]
    congr 2
    apply Array.ext_getElem?
    intro j
    by_cases e : r = j
    · subst e; simp [hlt]
    · rw [Array.getElem?_setIfInBounds_ne e, Array.getElem?_setIfInBounds_ne e, Array.getElem?_setIfInBounds_ne e]

section
variable {P : Program} {E : Env} {F : RO} {M : Mem} {c : Nat → Prop} {w : World} {t : T} {a : Act}

theorem isOne_conc {v : V} (h : isOne v = true) : (conc E v).oneCell' = true := by
  cases v <;> first | rfl | cases (show false = true from h)

theorem allOne_mem : ∀ {l : List V}, allOne l = true → ∀ v ∈ l, isOne v = true
  | [], _, v, hv => by cases hv
  | x :: l, h, v, hv => by
    have h' : (Bool.rec (motive := fun _ => Bool) false (allOne l) (isOne x)) = true := h
    rw [bb] at h'
    by_cases hx : isOne x = true
    · rw [if_pos hx] at h'
      cases hv with
      | head => exact hx
      | tail _ hm => exact allOne_mem h' v hm
    · rw [if_neg hx] at h'; cases h'

theorem storeN_some {b o : Nat} {vs : List V} {M' : Mem} (h : storeN M b o vs = some M') : ∃ ty n ex fz str d cs, M.get b = some (.cells ty n ex fz str d cs) ∧ o + vs.length ≤ n ∧ fz ≤ o ∧ allOne vs = true ∧
    M' = M.set b (.cells ty n ex fz str d (listTr vs o cs)) := by
  have h' : Option.rec (motive := fun _ => Option Mem) none (fun blk => storeIn M b o vs blk) (M.get b) = some M' := h
  cases hb : M.get b with
  | none => rw [hb] at h'; cases (show (none : Option Mem) = some M' from h')
  | some blk =>
    rw [hb] at h'
    cases blk with
    | cells ty n ex fz str d cs =>
      have h2 : (Bool.rec (motive := fun _ => Option Mem) none (Bool.rec (motive := fun _ => Option Mem) none (Bool.rec (motive := fun _ => Option Mem) none (storeIn2 M b o vs ty n ex fz str d cs) (allOne vs)) (Nat.ble fz o)) (Nat.ble (Nat.add o vs.length) n)) = some M' := h'
      rw [bb, bb, bb, bleN, bleN] at h2
      split at h2
      · rename_i g1
        split at h2
        · rename_i g2
          split at h2
          · rename_i g3
            refine ⟨ty, n, ex, fz, str, d, cs, rfl, of_decide_eq_true g1, of_decide_eq_true g2, g3, ?_⟩
            unfold storeIn2 at h2
            rw [Tr.force_eq, Tr.force_eq] at h2
            exact (Option.some.inj h2).symm
          · cases h2
        · cases h2
      · cases h2
    | _ => cases (show (none : Option Mem) = some M' from h')

/-- CELLS ARE STORED -/
theorem Cx.store (h : Cx P E F M c w t a) {b o : Nat} {vs : List V} {M' : Mem} (hs : storeN M b o vs = some M') (hb : bds c vs) :
    ∃ w', (storeCells ⟨E.ρ b, E.β b + o, none⟩ (concs E vs)).run P w = .ok () w' ∧ Stp P F E M c w E M' c w' := by
  obtain ⟨ty, n, ex, fz, str, d, cs, hM, h1, h2, h3, rfl⟩ := storeN_some hs
  obtain ⟨arr, fr, ho, hr⟩ := h.cells (look_some_M hM)
  have hle := hr.le
  have hlen : (concs E vs).length = vs.length := by simp [concs_map]
  have hone : ∀ v ∈ concs E vs, v.oneCell' = true := by
    intro v hv
    rw [concs_map, List.mem_map] at hv
    obtain ⟨x, hx, rfl⟩ := hv
    exact isOne_conc (allOne_mem h3 x hx)
  have hrun := storeCells_run (P := P) (E.ρ b) (E.β b + o) ty fr (concs E vs) 0 arr w ho (fun k hk hk' => hr.free k (by omega) hk') (by rw [hlen]; omega) hone
  refine ⟨_, hrun, h.rel.write b _ _ hM _ ?_ _ rfl rfl rfl rfl ?_⟩
  · intro k v hk
    rw [cell_eq, listTr_get] at hk
    have hold := (h.rel.has _ _ (look_some_M hM)).2.1
    split at hk
    · rename_i hkn
      by_cases hin : o ≤ k ∧ k < o + vs.length
      · rw [if_pos hin] at hk
        have hlt : k - o < vs.length := by omega
        rw [List.getElem?_eq_getElem hlt] at hk
        obtain rfl := Option.some.inj hk
        exact bds_get hb (List.getElem?_eq_getElem hlt)
      · rw [if_neg hin] at hk
        exact hold k v (by rw [cell_eq, if_pos hkn]; exact hk)
    · cases hk
  · have hsp := foldSet (E.β b + o) (concs E vs) 0 arr
    refine ⟨_, _, rfl, ⟨fun k v hk => ?_, ?_, ?_, hr.plain⟩⟩
    · rw [cell_eq, listTr_get] at hk
      split at hk
      · rename_i hkn
        show (splice arr (E.β b + o) (concs E vs) 0)[E.β b + k]? = _
        unfold splice
        rw [hsp.2 (E.β b + k) (by omega), hlen, Nat.add_zero]
        by_cases hin : o ≤ k ∧ k < o + vs.length
        · rw [if_pos hin] at hk
          rw [if_pos (by omega), show E.β b + k - (E.β b + o) = k - o by omega]
          have hlt : k - o < vs.length := by omega
          rw [List.getElem?_eq_getElem hlt] at hk
          obtain rfl := Option.some.inj hk
          exact concs_get (List.getElem?_eq_getElem hlt)
        · rw [if_neg hin] at hk
          rw [if_neg (by omega)]
          exact hr.cell k v (by rw [cell_eq, if_pos hkn]; exact hk)
      · cases hk
    · show if ex then E.β b = 0 ∧ (splice arr (E.β b + o) (concs E vs) 0).size = n else (splice arr (E.β b + o) (concs E vs) 0).size = E.β b + n + E.κ b * P.cellsOf ty
      unfold splice
      rw [hsp.1]; exact hr.size
    · show Unfrozen fr (E.β b + fz) (splice arr (E.β b + o) (concs E vs) 0).size
      unfold splice
      rw [hsp.1]; exact hr.free

/-- which names are new: those from the counter on -/
structure Grow (c : Nat → Prop) (ct : Nat) (c' : Nat → Prop) (ct' : Nat) : Prop where
  le : ct ≤ ct'
  new : ∀ b, c' b → c b ∨ (ct ≤ b ∧ b < ct')
theorem Grow.refl (c : Nat → Prop) (ct : Nat) : Grow c ct c ct := ⟨Nat.le_refl _, fun _ h => .inl h⟩
theorem Grow.trans {c c₁ c₂ : Nat → Prop} {n n₁ n₂ : Nat} (h : Grow c n c₁ n₁) (h' : Grow c₁ n₁ c₂ n₂) : Grow c n c₂ n₂ :=
  ⟨Nat.le_trans h.le h'.le, fun b hb => by
    have l1 := h.le
    have l2 := h'.le
    rcases h'.new b hb with hb | hb
    · rcases h.new b hb with hb | hb
      · exact .inl hb
      · exact .inr (by omega)
    · exact .inr (by omega)⟩
/-- from the counter on no name is used -/
def Fresh (c : Nat → Prop) (ct : Nat) : Prop := ∀ b, ct ≤ b → ¬ c b
theorem Fresh.grow {c c' : Nat → Prop} {n n' : Nat} (h : Fresh c n) (g : Grow c n c' n') : Fresh c' n' := fun b hb hc => by
  have := g.le
  rcases g.new b hc with h1 | h1
  · exact h b (by omega) h1
  · omega

abbrev EOk (P : Program) (F : RO) (E : Env) (M : Mem) (c : Nat → Prop) (ct : Nat) (w : World) (a : Act) (o : Oper) (v : V) (M' : Mem) (ct' : Nat) : Prop :=
  ∃ E' w' nx c', (execOp a.eval o).run P w = .ok nx w' ∧ NV nx (conc E' v) ∧ Stp P F E M c w E' M' c' w' ∧ bd c' v ∧ Grow c ct c' ct'

theorem onP_rc {v : V} {g : Nat → Nat → RC} {x : V} {M' : Mem} {c' : Nat} (h : onP v .f g = .k x M' c') : ∃ b o, v = .p b o ∧ g b o = .k x M' c' := by
  cases v with
  | p b o => exact ⟨b, o, rfl, h⟩
  | _ => cases (show RC.f = .k x M' c' from h)

theorem e_store (h : Cx P E F M c w t a) {o : Oper} {ty : TypeId} {y z : Operand} (hop : o.op = .store ty y z) {eo : EO} (hc : compOp P o.op = some (.e eo)) {k : Kn} (hk : k.F = F) {v : V} {M' : Mem} {ct ct' : Nat} (he : doE eo k M ct t = .k v M' ct') : EOk P F E M c ct w a o v M' ct' := by
  rw [hop] at hc
  simp only [compOp] at hc
  split at hc
  · rename_i n xa xv hs h1 h2
    obtain rfl : EO.st n xa xv = eo := by simpa using hc
    have e1 := h.ev h1
    have e2 := h.ev h2
    obtain ⟨b, off, hv, hg⟩ := onP_rc (show onP (xa.ev t) .f (fun b o => e_st1 n b o (flatten (xv.ev t)) M ct) = .k v M' ct' from he)
    unfold e_st1 at hg
    rw [bb, beqN] at hg
    split at hg
    · rename_i hn
      have hn : (flatten (xv.ev t)).length = n := of_decide_eq_true hn
      unfold er at hg
      cases hst : storeN M b off (flatten (xv.ev t)) with
      | none => rw [hst] at hg; cases (show RC.f = .k v M' ct' from hg)
      | some M'' =>
        rw [hst] at hg
        have hg' : RC.k undef M'' ct = .k v M' ct' := hg
        injection hg' with g1 g2 g3
        subst g1 g2 g3
        obtain ⟨w', hrun, hS⟩ := h.store hst (flatten_bd e2.2)
        rw [hv] at e1
        refine ⟨E, w', .skip, c, ?_, .inr ⟨rfl, rfl⟩, hS, trivial, .refl _ _⟩
        have hcs : (a.eval z).cells.size = n := by rw [e2.1, flatten_cells]; simp [concs_map, hn]
        have hcl : (a.eval z).cells.toList = concs E (flatten (xv.ev t)) := by rw [e2.1, flatten_cells]
        simp only [execOp, hop, e1.1, conc, Instr.storeAt, Instr.sureAddr, storeVar, Sem.run_bind, Sem.run_pure, Result.andThen_ok, hcs, run_sz hs, ne_eq, not_true_eq_false, if_false, Sem.run_ite, hcl, hrun]
    · cases hg
  · cases hc

end
end Go.Proofs.YtffpeieapadocaaDoor.Ev

