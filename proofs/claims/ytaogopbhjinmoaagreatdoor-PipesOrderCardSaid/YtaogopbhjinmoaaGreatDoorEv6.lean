/- What is proved here: pieces of the evaluator's soundness: if the evaluator comes to a value, the model's run comes to it, for every world and tape; no conditions beyond the hypotheses of each theorem. -/
import Derived.Test.YtaogopbhjinmoaaGreatDoorEv5
import Derived.RangeFuncRecord
import Derived.LoopNIn
import Derived.RangeFuncNested
import Derived.OrdersIn
set_option linter.unusedSimpArgs false
set_option linter.unusedVariables false
set_option linter.defProp false
namespace Go.Proofs.YtaogopbhjinmoaaGreatDoor.Ev
open Go
def fence (E : Env) (rd : Option Nat) : Fence := { fn := fun _ => True, depth := none, alive := false, round := rd.map E.ρ }
structure SR (P : Program) (Bd : List Deferred) (F : RO) (rd : Option Nat) (nt : Nat) (E : Env) (c : Nat → Prop) (w : World) (a : Act) (t : T) (d : List Nat) (M : Mem) (ct : Nat) : Prop where
  cx : Cx P E F M c w t a
  fr : Fresh c ct
  df : a.defers = (d.map fun b => { target := .collected (E.ρ b), args := #[] }) ++ Bd
  dc : ∀ b ∈ d, c b
  sz : nt ≤ a.tmps.size
  rd : ∀ l, rd = some l → c l
def Res (P : Program) (Bd : List Deferred) (F : RO) (rd : Option Nat) (nt : Nat) (E : Env) (c : Nat → Prop) (w : World) (M : Mem) (ct : Nat) (t' : T) (d' : List Nat) (M' : Mem) (ct' : Nat) (a' : Act) (w' : World) : Prop :=
  ∃ E' c', Stp P F E M c w E' M' c' w' ∧ Grow c ct c' ct' ∧ SR P Bd F rd nt E' c' w' a' t' d' M' ct'
section
variable {P : Program} {Bd : List Deferred} {E E' : Env} {F : RO} {M M' : Mem} {c c' : Nat → Prop} {ct ct' nt : Nat} {w w' : World} {t : T} {d : List Nat} {a : Act} {rd : Option Nat}
theorem setT_none (t : T) (v : V) : setT t none v = t := rfl
theorem setT_some (t : T) (p : Pos) (v : V) : setT t (some p) v = t.setP p v := rfl
theorem getT_of {p : Pos} {v : V} (h : t.getP p = some v) : getT t p = v := by unfold getT; rw [h]
theorem getT_none {p : Pos} (h : t.getP p = none) : getT t p = undef := by unfold getT; rw [h]
theorem getT_setP (t : T) (k j : Nat) (v : V) : getT (t.setP (posOf k) v) (posOf j) = if j = k then v else getT t (posOf j) := by
  have := getP_setP_posOf t k j v
  by_cases h : j = k
  · rw [if_pos h] at this ⊢; exact getT_of this
  · rw [if_neg h] at this ⊢; unfold getT; rw [this]
theorem getT_setP' (t : T) (p q : Pos) (v : V) : getT (t.setP p v) q = v ∨ getT (t.setP p v) q = getT t q := by
  by_cases h : q = p
  · subst h; exact .inl (getT_of (Tr.getP_setP_same q v t))
  · right; unfold getT; rw [Tr.getP_setP_ne p v q t h]
theorem bdT_put {dst : Option Pos} {v : V} (h : bdT c t) (hv : bd c v) : bdT c (setT t dst v) := by
  cases dst with
  | none => exact h
  | some p =>
    intro q
    rw [setT_some]
    rcases getT_setP' t p q v with e | e
    · rw [e]; exact hv
    · rw [e]; exact h q
theorem TRel_put {dst : Option Nat} {v : V} {val : Value} (h : TRel E t a.tmps) (hd : ∀ k, dst = some k → k < a.tmps.size) (hv : val = conc E v) : TRel E (setT t (dst.map posOf) v) (a.put dst val).tmps := by
  cases dst with
  | none => exact h
  | some k =>
    intro n
    have hk := hd k rfl
    rw [Option.map_some, setT_some, getT_setP]
    show (a.tmps.setIfInBounds k val).getD n Go.undef = _
    by_cases e : n = k
    · subst e
      rw [if_pos rfl, hv]
      simp [Array.getD_eq_getD_getElem?, hk]
    · rw [if_neg e, ← h n]
      simp [Array.getD_eq_getD_getElem?, Array.getElem?_setIfInBounds_ne (Ne.symm e)]
theorem Act.put_defers (a : Act) (dst : Option Tmp) (v : Value) : (a.put dst v).defers = a.defers := by cases dst <;> rfl
theorem Act.put_size (a : Act) (dst : Option Tmp) (v : Value) : (a.put dst v).tmps.size = a.tmps.size := by cases dst <;> simp [Act.put]
theorem SR.put (h : SR P Bd F rd nt E c w a t d M ct) {dst : Option Nat} (hd : dstOk nt dst = true) {v : V} {val : Value} (hv : val = conc E v) (hb : bd c v) : SR P Bd F rd nt E c w (a.put dst val) (setT t (dst.map posOf) v) d M ct := by
  refine ⟨⟨h.cx.rel, h.cx.glob, h.cx.big, TRel_put h.cx.tr (fun k hk => ?_) hv, bdT_put h.cx.bt hb⟩, h.fr, by rw [Act.put_defers]; exact h.df, h.dc, by rw [Act.put_size]; exact h.sz, h.rd⟩
  subst hk
  have : k < nt := by simpa [dstOk] using hd
  exact Nat.lt_of_lt_of_le this h.sz
theorem SR.stp (h : SR P Bd F rd nt E c w a t d M ct) (hS : Stp P F E M c w E' M' c' w') (hG : Grow c ct c' ct') : SR P Bd F rd nt E' c' w' a t d M' ct' := by
  refine ⟨⟨hS.rel, fun g hg => ?_, fun g hg => hS.le g (h.cx.big g hg), h.cx.tr.ext hS.ext h.cx.bt, fun p => bd_mono hS.le _ (h.cx.bt p)⟩, h.fr.grow hG, ?_, fun b hb => hS.le b (h.dc b hb), h.sz, fun l hl => hS.le l (h.rd l hl)⟩
  · rw [hS.ext.ρ g (h.cx.big g hg), hS.ext.β g (h.cx.big g hg)]; exact h.cx.glob g hg
  · rw [h.df]
    congr 1
    apply List.map_congr_left
    intro b hb
    rw [hS.ext.ρ b (h.dc b hb)]
theorem SR.res (h : SR P Bd F rd nt E c w a t d M ct) : Res P Bd F rd nt E c w M ct t d M ct a w := ⟨E, c, .refl h.cx.rel, .refl _ _, h⟩
theorem fence_ext (h : Ext c E E') (hr : ∀ l, rd = some l → c l) : fence E' rd = fence E rd := by
  cases rd with
  | none => rfl
  | some l => unfold fence; simp only [Option.map_some]; rw [h.ρ l (hr l rfl)]
theorem guard_ok (h : TRel E t a.tmps) {ops : Array Oper} {o : Oper} {g : Option (Pos × Bool)} (hg : (match o.guard with
    | none => some none
    | some (j, want) => match (ops[j]?).bind (·.dst) with
      | some d => some (some (posOf d, want))
      | none => none) = some g) : Region.wanted o (yielded ops a.tmps) = wanted t g := by
  unfold Region.wanted
  cases ho : o.guard with
  | none => rw [ho] at hg; obtain rfl := Option.some.inj hg; rfl
  | some jw =>
    obtain ⟨j, want⟩ := jw
    rw [ho] at hg
    simp only at hg
    cases hd : (ops[j]?).bind (·.dst) with
    | none => rw [hd] at hg; cases hg
    | some dn =>
      rw [hd] at hg
      obtain rfl := Option.some.inj hg
      simp only [yielded, hd, Option.bind_some]
      show _ = wanted1 want (getT t (posOf dn))
      have hn := h dn
      rw [Array.getD_eq_getD_getElem?] at hn
      cases hv : a.tmps[dn]? with
      | none =>
        rw [hv] at hn
        have hn' : conc E (getT t (posOf dn)) = .tuple #[] := hn.symm
        cases hx : getT t (posOf dn) <;> rw [hx] at hn' <;> first | rfl | (simp [conc] at hn')
      | some val =>
        rw [hv] at hn
        have hn' : val = conc E (getT t (posOf dn)) := hn
        cases hx : getT t (posOf dn) with
        | b x =>
          rw [hx] at hn'
          rw [hn']
          show (some x == some want) = Bool.rec (motive := fun _ => Bool) (notB want) want x
          cases x <;> cases want <;> rfl
        | _ => rw [hx] at hn'; rw [hn']; rfl
def CallOk (P : Program) (k : Kn) : Prop := ∀ (F : RO) (f : Nat) (args : List V) (M : Mem) (ct : Nat) (v : V) (M' : Mem) (ct' : Nat), callF (knF k F) f args M ct = .k v M' ct' →
  ∀ (E : Env) (c : Nat → Prop) (w : World), Rel P E F M c w → (∀ g, g < 1000 → E.ρ g = g ∧ E.β g = 0) → (∀ g, g < 1000 → c g) → Fresh c ct → bds c args →
    ∃ fn, P.funcs[f]? = some fn ∧ fn.body.isNone = false ∧ (fn.name == "runtime.NumGoroutine") = false ∧
    Calls P f (concs E args).toArray w fun e w' => ∃ E' c', e = .returned (conc E' v) ∧ Stp P F E M c w E' M' c' w' ∧ bd c' v ∧ Grow c ct c' ct'
def YieldOk (P : Program) (k : Kn) : Prop := ∀ (F : RO) (l : Nat) (args : List V) (M : Mem) (ct : Nat) (v : V) (M' : Mem) (ct' : Nat), callY (knF k F) l args M ct (loopOf (M.get l)) = .k v M' ct' →
  ∀ (E : Env) (c : Nat → Prop) (w : World) (rd : Option Nat), Rel P E F M c w → (∀ g, g < 1000 → E.ρ g = g ∧ E.β g = 0) → (∀ g, g < 1000 → c g) → Fresh c ct → bds c args →
    ∃ fn tmps asg body, (Instr.yield (E.ρ l) (concs E args).toArray).run P w = .ok (.round (E.ρ l) fn tmps asg body) w ∧
    RoundIn (fence E rd) 0 P (E.ρ l) fn tmps asg body w fun e w' => ∃ E' c', e = .returned (conc E' v) ∧ Stp P F E M c w E' M' c' w' ∧ bd c' v ∧ Grow c ct c' ct'
theorem tblF_mem {t f : Nat} : ∀ {l : List (Nat × Nat)}, tblF l t = some f → (t, f) ∈ l
  | h :: r, hh => by
    have h' : (bif Nat.beq h.1 t then some h.2 else tblF r t) = some f := hh
    cases hb : Nat.beq h.1 t with
    | true =>
      rw [hb, cond_true] at h'
      obtain rfl := Option.some.inj h'
      obtain rfl := Nat.eq_of_beq_eq_true hb
      exact List.mem_cons_self ..
    | false =>
      rw [hb, cond_false] at h'
      exact List.mem_cons_of_mem _ (tblF_mem h')
theorem method_run {name : String} {ty f : Nat} (h : tblF (invTbl P name) ty = some f) (v : Value) : (method (P.types.size + Made.depth) ty v name).run P w = .ok (f, v) w := by
  have hm := tblF_mem h
  unfold invTbl at hm
  obtain ⟨t0, ht0, e⟩ := List.mem_filterMap.1 hm
  obtain ⟨n, hn⟩ : ∃ n, P.types.size + Made.depth = n + 1 := ⟨P.types.size + Made.depth - 1, by have := List.mem_range.1 ht0; omega⟩
  rw [hn]
  split at e
  · rename_i i hi
    split at e
    · rename_i m hmm
      split at e
      · rename_i f' e' hp hf hu
        injection e with e; injection e with e1 e2; subst e1 e2
        have hpl : m.path.toList = [] := by simpa using hp
        simp [method, typeInfo, hi, hmm, hpl, follow, hf, receiverAt, run_und hu, Place.get]
      · cases e
      · rename_i f' d hnp hp hf hu
        injection e with e; injection e with e1 e2; subst e1 e2
        have hpl : m.path.toList = [] := by simpa using hp
        cases d <;> first
          | exact absurd rfl (hnp _)
          | simp [method, typeInfo, hi, hmm, hpl, follow, hf, receiverAt, run_und hu, Place.get]
      · cases e
    · cases e
  · cases e
theorem callsIn_any {n : Nat} {f : FuncId} {args : Array Value} {R : Ending → World → Prop} (h : Calls P f args w R) : CallsIn (fence E rd) n P f args w R := callsIn_wide.2 h
theorem compOp_noDefer {o : Op} {op : OK} (h : compOp P o = some op) : ∀ cl, o ≠ .defer cl := by
  intro cl e; subst e; cases h
theorem builtin_plain {b : Builtin} {as : List Operand} {ats : List TypeId} {x : EO} (hc : compBuiltin P b as ats = some (.e x)) : x.plain = true := by
  unfold compBuiltin at hc
  split at hc
  · split at hc <;> first | cases hc | (split at hc <;> cases hc)
  · split at hc <;> cases hc
  · split at hc
    · split at hc
      · split at hc
        · split at hc
          · split at hc
            · obtain rfl := OK.e.inj (Option.some.inj hc); rfl
            · cases hc
          · cases hc
        · split at hc
          · cases hc
          · obtain rfl := OK.e.inj (Option.some.inj hc); rfl
      · cases hc
    · cases hc
  · split at hc
    · split at hc
      · split at hc
        · cases hc
        · obtain rfl := OK.e.inj (Option.some.inj hc); rfl
      · cases hc
    · cases hc
  · split at hc
    · split at hc
      · split at hc
        · cases hc
        · obtain rfl := OK.e.inj (Option.some.inj hc); rfl
      · cases hc
    · cases hc
  · split at hc <;> cases hc
  · split at hc <;> cases hc
  · split at hc
    · obtain ⟨z, _, e⟩ := Option.map_eq_some_iff.1 hc
      obtain rfl := OK.e.inj e; rfl
    · cases hc
  · split at hc
    · split at hc
      · obtain rfl := OK.e.inj (Option.some.inj hc); rfl
      · cases hc
    · cases hc
  · obtain ⟨z, _, e⟩ := Option.bind_eq_some_iff.1 hc; cases e
  · split at hc
    · obtain ⟨z, _, e⟩ := Option.map_eq_some_iff.1 hc
      obtain rfl := OK.e.inj e; rfl
    · cases hc
  · cases hc
theorem notcall_plain {o : Op} (hn : ∀ cl, o ≠ .call cl) {x : EO} (hc : compOp P o = some (.e x)) : x.plain = true := by
  cases hx : x.plain with
  | true => rfl
  | false =>
    exfalso
    unfold compOp at hc
    split at hc
    all_goals first
      | exact absurd rfl (hn _)
      | (cases hc; done)
      | (obtain ⟨z, _, e⟩ := Option.bind_eq_some_iff.1 hc; cases e; done)
      | (obtain ⟨z, _, e⟩ := Option.map_eq_some_iff.1 hc; cases e; done)
      | (obtain ⟨z, _, e⟩ := Option.map_eq_some_iff.1 hc; obtain rfl := OK.e.inj e; cases hx; done)
      | skip
    all_goals (repeat' (first | (cases hc; done) | (obtain ⟨z, _, e⟩ := Option.bind_eq_some_iff.1 hc; cases e; done) | (obtain ⟨z, _, e⟩ := Option.bind_eq_some_iff.1 hc; split at e <;> cases e; done) | (obtain ⟨z, _, e⟩ := Option.map_eq_some_iff.1 hc; cases e; done) | (obtain ⟨z, _, e⟩ := Option.map_eq_some_iff.1 hc; obtain rfl := OK.e.inj e; cases hx; done) | (obtain rfl := OK.e.inj (Option.some.inj hc); cases hx; done) | split at hc))
def OpOk (P : Program) (F : RO) (rd : Option Nat) (E : Env) (M : Mem) (c : Nat → Prop) (ct : Nat) (w : World) (a : Act) (o : Oper) (v : V) (M' : Mem) (ct' : Nat) : Prop :=
  ∀ (next : Act → World → Prop) (Q : Exit → Act → World → Prop), (∀ E' c' w', Stp P F E M c w E' M' c' w' → Grow c ct c' ct' → bd c' v → next (a.put o.dst (conc E' v)) w') → o.wpIn (fence E rd) 0 P a w next Q
theorem EOk.op {o : Oper} (hd : ∀ cl, o.op ≠ .defer cl) {v : V} (h : EOk P F E M c ct w a o v M' ct') : OpOk P F rd E M c ct w a o v M' ct' := by
  intro next Q hn
  obtain ⟨E', w', nx, c', hr, hnv, hS, hb, hG⟩ := h
  refine ⟨fun _ _ => trivial, ?_⟩
  rw [Oper.semAt_eq _ _ _ hd, hr]
  rcases hnv with rfl | ⟨rfl, hv⟩
  · exact hn E' c' w' hS hG hb
  · have := hn E' c' w' hS hG hb
    rw [hv] at this
    exact this
theorem q_op (h : Cx P E F M c w t a) {o : Oper} {q : QO} (hc : compOp P o.op = some (.q q)) {x : V} (hx : (qop q F M t).val = some x) : OpOk P F rd E M c ct w a o x M ct := by
  intro next Q hn
  obtain ⟨hr, hb⟩ := q_all h hc hx
  refine ⟨fun _ _ => trivial, ?_⟩
  rw [Oper.semAt_eq _ _ _ (compOp_noDefer hc), hr]
  exact hn E c w (.refl h.rel) (.refl _ _) hb
theorem a_op (h : Cx P E F M c w t a) (hf : Fresh c ct) {o : Oper} {ao : AO} (hc : compOp P o.op = some (.a ao)) {v : V} {blk : Blk} (ha : aop ao ct t = some (v, blk)) : OpOk P F rd E M c ct w a o v (M.set ct blk) (ct + 1) := by
  intro next Q hn
  obtain ⟨E', w', hr, hS, _, hb⟩ := a_all h hc (hf ct (Nat.le_refl _)) (c' := fun b => c b ∨ b = ct) (.inr rfl) (fun _ h => .inl h) ha
  refine ⟨fun _ _ => trivial, ?_⟩
  rw [Oper.semAt_eq _ _ _ (compOp_noDefer hc), hr]
  exact hn E' _ w' hS (grow_one c ct) hb
theorem knF_F (k : Kn) (F : RO) : (knF k F).F = F := by cases k; rfl
theorem e_op {k : Kn} (hcall : CallOk P k) (hy : YieldOk P k) (h : Cx P E F M c w t a) (hf : Fresh c ct) {o : Oper} {eo : EO} (hc : compOp P o.op = some (.e eo)) {v : V} (he : doE eo (knF k F) M ct t = .k v M' ct') : OpOk P F rd E M c ct w a o v M' ct' := by
  cases hp : eo.plain with
  | true => exact EOk.op (compOp_noDefer hc) (e_all h hf hc hp (knF_F k F) he)
  | false =>
    have hnd := compOp_noDefer hc
    have fin : ∀ (f : Nat) (args : List V), (execOp a.eval o).run P w = (callFunc f (concs E args).toArray).run P w → bds c args → callF (knF k F) f args M ct = .k v M' ct' → OpOk P F rd E M c ct w a o v M' ct' := by
      intro f args hrun hba hcf next Q hn
      obtain ⟨fn, hfn, hbo, hnm, hC⟩ := hcall F f args M ct v M' ct' hcf E c w h.rel h.glob h.big hf hba
      refine ⟨fun _ _ => trivial, ?_⟩
      rw [Oper.semAt_eq _ _ _ hnd, hrun]
      have hcfn : (callFunc f (concs E args).toArray).run P w = .ok (.enter f (concs E args).toArray) w := by
        have h1 : ¬ fn.name = "runtime.NumGoroutine" := by simpa using hnm
        have h2 : ¬ fn.body = none := fun e => by rw [e] at hbo; cases hbo
        simp [callFunc, hfn, h1, h2]
      rw [hcfn, Oper.uponIn_enter]
      refine ⟨fun hd => by simp [fence] at hd, callsIn_any (hC.mono ?_)⟩
      rintro e w' ⟨E', c', rfl, hS, hb, hG⟩
      exact hn E' c' w' hS hG hb
    cases hop : o.op with
    | call cl =>
      rw [hop] at hc
      simp only [compOp] at hc
      split at hc
      ·
        rename_i b' hcal
        exfalso
        have hq : ∀ x, compBuiltin P b' cl.args.toList cl.argTypes.toList = some (.e x) → x.plain = true := fun x hx => builtin_plain hx
        rw [hq eo hc] at hp; cases hp
      · rename_i f hcal
        split at hc
        · rename_i fn hf0
          split at hc
          · exfalso
            unfold compExtern at hc
            split at hc
            · cases hc
            · split at hc
              · split at hc
                · split at hc <;> cases hc
                · split at hc
                  · split at hc <;> cases hc
                  · split at hc
                    · split at hc <;> cases hc
                    · split at hc
                      · split at hc <;> cases hc
                      · cases hc
              · split at hc
                · obtain ⟨z, _, e⟩ := Option.bind_eq_some_iff.1 hc; cases e
                · split at hc
                  · split at hc
                    · split at hc
                      · split at hc <;> cases hc
                      · cases hc
                    · cases hc
                  · split at hc
                    · obtain ⟨z, _, e⟩ := Option.map_eq_some_iff.1 hc
                      obtain rfl : EO.mcl z = eo := by simpa using e
                      cases hp
                    · cases hc
              · cases hc
          · obtain ⟨xs, hxs, e⟩ := Option.map_eq_some_iff.1 hc
            obtain rfl : EO.call f xs = eo := by simpa using e
            have ev := h.evs hxs
            have hm : cl.args.map a.eval = (concs E (evs xs t)).toArray := by
              rw [← ev.1]; apply Array.ext'; simp
            refine fin f (evs xs t) ?_ ev.2 he
            simp only [execOp, hop, resolve, hcal, hm, Act.eval, Deferred.ofValue, Sem.run_bind, Sem.run_pure, Result.andThen_ok, invoke, Array.empty_append, Array.append_empty]
        · cases hc
      · rename_i y hny hcal
        split at hc
        · rename_i x xs hx hxs
          obtain rfl : EO.cv x xs = eo := by simpa using hc
          have ev := h.evs hxs
          have e1 := h.ev hx
          have hm : cl.args.map a.eval = (concs E (evs xs t)).toArray := by
            rw [← ev.1]; apply Array.ext'; simp
          have he' : callV (knF k F) (x.ev t) (evs xs t) M ct = .k v M' ct' := he
          cases hv : x.ev t with
          | f f first caps =>
            rw [hv] at he' e1
            have he2 : callF (knF k F) f (first ++ (evs xs t ++ caps)) M ct = .k v M' ct' := he'
            refine fin f _ ?_ (bds_append e1.2.1 (bds_append ev.2 e1.2.2)) he2
            simp only [execOp, hop, resolve, hcal, hm, e1.1, conc, Deferred.ofValue, Sem.run_bind, Sem.run_pure, Result.andThen_ok, invoke]
            congr 2
            rw [concs_append, concs_append]; simp
          | y l =>
            rw [hv] at he' e1
            have he2 : callY (knF k F) l (evs xs t) M ct (loopOf (M.get l)) = .k v M' ct' := he'
            intro next Q hn
            obtain ⟨fn, tmps, asg, body, hyr, hR⟩ := hy F l (evs xs t) M ct v M' ct' he2 E c w rd h.rel h.glob h.big hf ev.2
            refine ⟨fun _ _ => trivial, ?_⟩
            rw [Oper.semAt_eq _ _ _ hnd]
            have hrun : (execOp a.eval o).run P w = .ok (.round (E.ρ l) fn tmps asg body) w := by
              simp only [execOp, hop, resolve, hcal, hm, e1.1, conc, Deferred.ofValue, Sem.run_bind, Sem.run_pure, Result.andThen_ok, invoke, Array.empty_append, hyr]
            rw [hrun, Oper.uponIn_round]
            refine ⟨fun hd => by simp [fence] at hd, hR.mono ?_⟩
            rintro e w' ⟨E', c', rfl, hS, hb, hG⟩
            exact hn E' c' w' hS hG hb
          | _ => rw [hv] at he'; cases (show RC.f = .k v M' ct' from he')
        · cases hc
      · rename_i y name hcal
        split at hc
        · rename_i x xs hx hxs
          obtain rfl : EO.inv (invTbl P name) x xs = eo := by simpa using hc
          have ev := h.evs hxs
          have e1 := h.ev hx
          have hm : cl.args.map a.eval = (concs E (evs xs t)).toArray := by
            rw [← ev.1]; apply Array.ext'; simp
          have he' : callN (invTbl P name) (knF k F) (x.ev t) (evs xs t) M ct = .k v M' ct' := he
          cases hv : x.ev t with
          | a ty u =>
            rw [hv] at he' e1
            have he2 : invF (knF k F) u (evs xs t) M ct (tblF (invTbl P name) ty) = .k v M' ct' := he'
            cases hf0 : tblF (invTbl P name) ty with
            | none => rw [hf0] at he2; cases (show RC.f = .k v M' ct' from he2)
            | some f =>
              rw [hf0] at he2
              have he3 : callF (knF k F) f (u :: evs xs t) M ct = .k v M' ct' := he2
              refine fin f (u :: evs xs t) ?_ ⟨e1.2, ev.2⟩ he3
              have hmr := method_run (w := w) hf0 (conc E u)
              have harr : #[conc E u] ++ (concs E (evs xs t)).toArray = (concs E (u :: evs xs t)).toArray := by simp [concs]
              have hext : (#[Value.iface ty (conc E u)] ++ (concs E (evs xs t)).toArray).extract 1 (#[Value.iface ty (conc E u)] ++ (concs E (evs xs t)).toArray).size = (concs E (evs xs t)).toArray := by
                apply Array.ext'; simp
              simp only [execOp, hop, resolve, hcal, hm, e1.1, conc, Sem.run_bind, Sem.run_pure, Result.andThen_ok, invoke, callMethod]
              have hget : (#[Value.iface ty (conc E u)] ++ (concs E (evs xs t)).toArray)[0]? = some (.iface ty (conc E u)) := by simp
              have hext1 : (#[Value.iface ty (conc E u)] ++ (concs E (evs xs t)).toArray).extract 1 = (concs E (evs xs t)).toArray := hext
              rw [hget]
              dsimp only
              simp only [Sem.run_bind, run_program, Result.andThen_ok, hmr, hext1, harr]
          | _ => rw [hv] at he'; cases (show RC.f = .k v M' ct' from he')
        · cases hc
    | _ =>
      exfalso
      have := notcall_plain (by rw [hop]; intro cl; simp) hc
      rw [this] at hp; cases hp
end
end Go.Proofs.YtaogopbhjinmoaaGreatDoor.Ev
namespace Go.Proofs.YtaogopbhjinmoaaGreatDoor.Ev
open Go
section
variable {P : Program} {Bd : List Deferred} {E E' : Env} {F : RO} {M M' : Mem} {c c' : Nat → Prop} {ct ct' nt : Nat} {w w' : World} {t t' : T} {d d' : List Nat} {a : Act} {rd : Option Nat}
theorem Res.trans {E₁ : Env} {c₁ : Nat → Prop} {w₁ : World} {M₁ : Mem} {ct₁ : Nat} (hS : Stp P F E M c w E₁ M₁ c₁ w₁) (hG : Grow c ct c₁ ct₁) {a' : Act} (h : Res P Bd F rd nt E₁ c₁ w₁ M₁ ct₁ t' d' M' ct' a' w') : Res P Bd F rd nt E c w M ct t' d' M' ct' a' w' := by
  obtain ⟨E', c', hS', hG', hR⟩ := h
  exact ⟨E', c', hS.trans hS', hG.trans hG', hR⟩
theorem putS_eq (dst : Option Pos) (d : List Nat) (M : Mem) (ct : Nat) (t : T) (v : V) : putS dst d M ct t v = some (.mk (setT t dst v) d M ct) := by
  unfold putS; rw [Tr.force_eq]
theorem seqOp_eq (dst : Option Pos) (op : OK) (g : Option (Pos × Bool)) (k : Kn) (t : T) (d : List Nat) (M : Mem) (ct : Nat) :
    seqOp (.mk dst op g) k (.mk t d M ct) = if wanted t g then sop op k dst t d M ct else some (.mk (setT t dst undef) d M ct) := by
  cases g with
  | none => rfl
  | some g =>
    show (Bool.rec (motive := fun _ => Option St) (putS dst d M ct t undef) (sop op k dst t d M ct) (wanted t (some g))) = _
    rw [bb, putS_eq]
theorem seqOps_cons (o : CO) (r : List CO) (k : Kn) (s : St) : seqOps (o :: r) k s = (seqOp o k s).bind fun s => seqOps r k s := by
  show Option.rec (motive := fun _ => Option St) none (fun s => seqOps r k s) (seqOp o k s) = _
  cases seqOp o k s <;> rfl
theorem sop_ok {k : Kn} (hcall : CallOk P k) (hy : YieldOk P k) (h : SR P Bd F rd nt E c w a t d M ct) {o : Oper} (hd : dstOk nt o.dst = true) {op : OK} (hc : compOp P o.op = some op) {s' : St} (hs : sop op (knF k F) (o.dst.map posOf) t d M ct = some s') :
    ∃ v M' ct', s' = .mk (setT t (o.dst.map posOf) v) d M' ct' ∧ OpOk P F rd E M c ct w a o v M' ct' := by
  cases op with
  | q q =>
    have hs' : s_q1 (o.dst.map posOf) t d M ct (qop q (knF k F).F M t) = some s' := hs
    rw [knF_F] at hs'
    cases hq : qop q F M t with
    | f => rw [hq] at hs'; cases (show (none : Option St) = some s' from hs')
    | v x =>
      rw [hq] at hs'
      have hs2 : putS (o.dst.map posOf) d M ct t x = some s' := hs'
      rw [putS_eq] at hs2
      exact ⟨x, M, ct, (Option.some.inj hs2).symm, q_op h.cx hc (by rw [hq]; rfl)⟩
    | r x b =>
      rw [hq] at hs'
      have hs2 : putS (o.dst.map posOf) d M ct t x = some s' := hs'
      rw [putS_eq] at hs2
      exact ⟨x, M, ct, (Option.some.inj hs2).symm, q_op h.cx hc (by rw [hq]; rfl)⟩
  | a ao =>
    have hs' : s_a1 (o.dst.map posOf) t d M ct (aop ao ct t) = some s' := hs
    cases ha : aop ao ct t with
    | none => rw [ha] at hs'; cases (show (none : Option St) = some s' from hs')
    | some p =>
      obtain ⟨v, blk⟩ := p
      rw [ha] at hs'
      have hs2 : s_a2 (o.dst.map posOf) t d M ct v blk = some s' := hs'
      unfold s_a2 at hs2
      rw [Tr.force_eq, fN_eq, putS_eq] at hs2
      exact ⟨v, M.set ct blk, ct + 1, (Option.some.inj hs2).symm, a_op h.cx h.fr hc ha⟩
  | e eo =>
    have hs' : s_e1 (o.dst.map posOf) t d (doE eo (knF k F) M ct t) = some s' := hs
    cases he : doE eo (knF k F) M ct t with
    | f => rw [he] at hs'; cases (show (none : Option St) = some s' from hs')
    | k v M' ct' =>
      rw [he] at hs'
      have hs2 : putS (o.dst.map posOf) d M' ct' t v = some s' := hs'
      rw [putS_eq] at hs2
      exact ⟨v, M', ct', (Option.some.inj hs2).symm, e_op hcall hy h.cx h.fr hc he⟩
theorem compO_some {ops : Array Oper} {o : Oper} {co : CO} (h : compO P nt ops o = some co) : dstOk nt o.dst = true ∧ ∃ g op, co = .mk (o.dst.map posOf) op g ∧
    (match o.guard with
    | none => some none
    | some (j, want) => match (ops[j]?).bind (·.dst) with
      | some d => some (some (posOf d, want))
      | none => none) = some g ∧ (compOp P o.op = some op ∨ op = .q .bad) := by
  unfold compO at h
  split at h
  · cases h
  · rename_i hd
    have hd' : dstOk nt o.dst = true := by simpa using hd
    split at h
    · cases h
    · rename_i g hg
      split at h
      · rename_i op hop
        obtain rfl := Option.some.inj h
        exact ⟨hd', g, op, rfl, hg, .inl hop⟩
      · obtain rfl := Option.some.inj h
        exact ⟨hd', g, _, rfl, hg, .inr rfl⟩
theorem seq_ok {k : Kn} (hcall : CallOk P k) (hy : YieldOk P k) {ops : Array Oper} {Q : Exit → Act → World → Prop} : ∀ (l : List Oper) (cos : List CO) (i : Nat) (E : Env) (c : Nat → Prop) (w : World) (a : Act) (t : T) (M : Mem) (ct : Nat), ops.toList.drop i = l → compOs P nt ops l = some cos →
    seqOps cos (knF k F) (.mk t d M ct) = some (.mk t' d' M' ct') → SR P Bd F rd nt E c w a t d M ct → (∀ a' w', Res P Bd F rd nt E c w M ct t' d' M' ct' a' w' → Q .normal a' w') → wpOpsIn (fence E rd) 0 P ops Q (List.range' i l.length) a w
  | [], cos, i, E, c, w, a, t, M, ct, hl, hc, hs, h, hQ => by
    obtain rfl := Option.some.inj hc
    have hs' : some (St.mk t d M ct) = some (.mk t' d' M' ct') := hs
    injection hs' with hs'
    injection hs' with e1 e2 e3 e4
    subst e1 e2 e3 e4
    exact hQ a w h.res
  | o :: l, cos, i, E, c, w, a, t, M, ct, hl, hc, hs, h, hQ => by
    rw [compOs] at hc
    split at hc
    · rename_i co cr h1 h2
      obtain rfl := Option.some.inj hc
      have hi : ops[i]? = some o := by
        have : (ops.toList.drop i)[0]? = some o := by rw [hl]; rfl
        simpa using this
      have hl' : ops.toList.drop (i + 1) = l := by
        rw [← List.drop_drop, hl]; rfl
      obtain ⟨hd, g, op, rfl, hg, hop⟩ := compO_some h1
      rw [seqOps_cons, seqOp_eq] at hs
      rw [List.length_cons, List.range'_succ]
      simp only [wpOpsIn, hi]
      rw [guard_ok h.cx.tr hg]
      by_cases hw : wanted t g = true
      · rw [if_pos hw] at hs
        rw [if_pos hw]
        obtain ⟨s1, hs1, hs2⟩ := Option.bind_eq_some_iff.1 hs
        rcases hop with hop | rfl
        · obtain ⟨v, M1, ct1, rfl, hO⟩ := sop_ok hcall hy h hd hop hs1
          refine hO _ _ fun E1 c1 w1 hS hG hb => ?_
          have h1 := (h.stp hS hG).put hd rfl hb
          rw [← fence_ext hS.ext h.rd]
          exact seq_ok hcall hy l cr (i + 1) E1 c1 w1 _ _ M1 ct1 hl' h2 hs2 h1 fun a' w' hr => hQ a' w' (hr.trans hS hG)
        · cases (show (none : Option St) = some s1 from hs1)
      · rw [if_neg hw] at hs
        rw [if_neg hw]
        refine ⟨fun _ _ => trivial, ?_⟩
        have h1 := h.put hd (v := undef) (val := Go.undef) rfl trivial
        exact seq_ok hcall hy l cr (i + 1) E c w _ _ M ct hl' h2 hs h1 hQ
    · cases hc
end
end Go.Proofs.YtaogopbhjinmoaaGreatDoor.Ev
namespace Go.Proofs.YtaogopbhjinmoaaGreatDoor.Ev
open Go
def exOf : Ex → Exit
  | .nrm => .normal
  | .ret => .ret
  | .ext id => .exit id
  | .gto l => .goto l
def ExOk (P : Program) (ex : ExF) : Prop := ∀ (rd : Option Nat) (fn : Nat) (F : RO) (cc : CC) (t : T) (d : List Nat) (M : Mem) (ct : Nat) (e : Ex) (t' : T) (d' : List Nat) (M' : Mem) (ct' : Nat),
  ex rd fn F cc (.mk t d M ct) = .k e (.mk t' d' M' ct') → ∀ (nt : Nat) (code : Code), Sim P nt code cc → ∀ {Bd : List Deferred} (E : Env) (c : Nat → Prop) (w : World) (a : Act), SR P Bd F rd nt E c w a t d M ct →
    ∀ Q : Exit → Act → World → Prop, (∀ a' w', Res P Bd F rd nt E c w M ct t' d' M' ct' a' w' → Q (exOf e) a' w') → code.wpIn (fence E rd) 0 P Q a w
def LpOk (P : Program) (ex : ExF) (m : Nat) : Prop := ∀ (rd : Option Nat) (fn : Nat) (F : RO) (b : CC) (t : T) (d : List Nat) (M : Mem) (ct : Nat) (e : Ex) (t' : T) (d' : List Nat) (M' : Mem) (ct' : Nat),
  ex rd fn F (.loop b) (.mk t d M ct) = .k e (.mk t' d' M' ct') → ∀ (nt : Nat) (code : Code), Sim P nt code b → ∀ {Bd : List Deferred} (E : Env) (c : Nat → Prop) (w : World) (a : Act), SR P Bd F rd nt E c w a t d M ct →
    ∀ Q : Exit → Act → World → Prop, (∀ a' w', Res P Bd F rd nt E c w M ct t' d' M' ct' a' w' → Q (exOf e) a' w') → Code.roundsIn (fence E rd) 0 P code Q m a w
def TblOk (P : Program) (nt : Nat) (body : Code) (tbl : CC) : Prop := ∀ l cl, findL l tbl = some cl → ∃ rest, findLabel body l = some rest ∧ Sim P nt rest cl
def OrcOk (P : Program) (f : Nat) (g : RO → List V → Mem → Nat → RC) : Prop := ∀ (F : RO) (args : List V) (M : Mem) (ct : Nat) (v : V) (M' : Mem) (ct' : Nat), g F args M ct = .k v M' ct' →
  ∀ (E : Env) (c : Nat → Prop) (w : World), Rel P E F M c w → (∀ g, g < 1000 → E.ρ g = g ∧ E.β g = 0) → (∀ g, g < 1000 → c g) → Fresh c ct → bds c args →
    ∃ fn, P.funcs[f]? = some fn ∧ fn.body.isNone = false ∧ (fn.name == "runtime.NumGoroutine") = false ∧
    Calls P f (concs E args).toArray w fun e w' => ∃ E' c', e = .returned (conc E' v) ∧ Stp P F E M c w E' M' c' w' ∧ bd c' v ∧ Grow c ct c' ct'
def CfOk (P : Program) (f : Nat) (cf : CF) : Prop :=
  match cf with
  | .mk n res body => ∃ fn, P.funcs[f]? = some fn ∧ comp P fn = some (.mk n res body)
  | .orc g => OrcOk P f g
def PhiOk (P : Program) (Φ : Nat → Option CF) : Prop := ∀ f cf, Φ f = some cf → CfOk P f cf
section
variable {P : Program} {Bd : List Deferred} {E E' : Env} {F : RO} {M M' : Mem} {c c' : Nat → Prop} {ct ct' nt : Nat} {w w' : World} {t t' : T} {d d' : List Nat} {a : Act} {rd : Option Nat}
theorem skel_get {n : Nat} : ∀ k, (skel n).get k = none := by
  induction n with
  | zero => intro k; rfl
  | succ n ih =>
    intro k
    show (Tr.n (skel n) none (skel n)).get k = none
    rw [Tr.get_n]
    split
    · rfl
    · split
      · exact ih _
      · exact ih _
theorem argTr_rel (E : Env) (args : List V) (m n : Nat) : TRel E (argTr m args) ((concs E args).toArray ++ Array.replicate n Go.undef) := by
  intro k
  have hg : (argTr m args).getP (posOf k) = args[k]? := by
    rw [getP_posOf]
    show (listTr args 0 (skel m)).get k = _
    rw [listTr_get]
    by_cases h : k < args.length
    · rw [if_pos (by omega)]; rfl
    · rw [if_neg (by omega), List.getElem?_eq_none (by omega)]; exact skel_get k
  rw [Array.getD_eq_getD_getElem?]
  by_cases h : k < args.length
  · have hv : args[k]? = some args[k] := List.getElem?_eq_getElem h
    rw [getT_of (hg.trans hv)]
    rw [Array.getElem?_append_left (by simpa [concs_map] using h)]
    simp [concs_map, h]
  · have hv : args[k]? = none := List.getElem?_eq_none (by omega)
    rw [getT_none (hg.trans hv)]
    rw [Array.getElem?_append_right (by simp [concs_map]; omega)]
    by_cases h2 : k - (concs E args).toArray.size < n
    · rw [Array.getElem?_replicate, if_pos h2]; rfl
    · rw [Array.getElem?_replicate, if_neg h2]; rfl
theorem pos_eq {p q : Pos} (h : ∀ t : Tr Unit, t.getP p = t.getP q) : p = q := by
  by_cases e : q = p
  · exact e.symm
  · have := h (Tr.e.setP p ())
    rw [Tr.getP_setP_same, Tr.getP_setP_ne p () q _ e, Tr.getP_e] at this
    cases this
theorem posOf_odd (k : Nat) : posOf (2 * k + 1) = .l (posOf k) := pos_eq fun t => by
  rw [getP_posOf]
  cases t with
  | e => rw [Tr.getP_e]; rfl
  | n l v r => rw [Tr.getP_l, getP_posOf, Tr.get_n, if_neg (by omega), if_neg (by omega), show (2 * k + 1) / 2 = k by omega]
theorem posOf_even (k : Nat) : posOf (2 * k + 2) = .r (posOf k) := pos_eq fun t => by
  rw [getP_posOf]
  cases t with
  | e => rw [Tr.getP_e]; rfl
  | n l v r => rw [Tr.getP_r, getP_posOf, Tr.get_n, if_neg (by omega), if_pos (by omega), show (2 * k + 2) / 2 - 1 = k by omega]
theorem posOf_surj : ∀ p : Pos, ∃ k, posOf k = p
  | .h => ⟨0, rfl⟩
  | .l p => let ⟨k, hk⟩ := posOf_surj p; ⟨2 * k + 1, by rw [posOf_odd, hk]⟩
  | .r p => let ⟨k, hk⟩ := posOf_surj p; ⟨2 * k + 2, by rw [posOf_even, hk]⟩
theorem argTr_bd {m : Nat} {args : List V} (h : bds c args) : bdT c (argTr m args) := by
  intro p
  have key : ∀ (vs : List V) (k : Nat) (t : T), bds c vs → bdT c t → bdT c (listTr vs k t) := by
    intro vs
    induction vs with
    | nil => intro k t _ ht; exact ht
    | cons v vs ih =>
      intro k t hv ht
      rw [listTr_cons]
      refine ih (k + 1) _ hv.2 ?_
      intro q
      obtain ⟨j, rfl⟩ := posOf_surj q
      have hg : (t.set k v).getP (posOf j) = if j = k then some v else t.getP (posOf j) := by
        rw [getP_posOf, getP_posOf, Tr.get_set]
      by_cases e : j = k
      · rw [if_pos e] at hg; rw [getT_of hg]; exact hv.1
      · rw [if_neg e] at hg
        have := ht (posOf j)
        unfold getT at this ⊢
        rw [hg]; exact this
  refine key args 0 (skel m) h ?_ p
  intro q
  obtain ⟨j, rfl⟩ := posOf_surj q
  rw [getT_none (by rw [getP_posOf]; exact skel_get j)]; trivial
end
end Go.Proofs.YtaogopbhjinmoaaGreatDoor.Ev
namespace Go.Proofs.YtaogopbhjinmoaaGreatDoor.Ev
open Go
section
variable {P : Program} {E E' : Env} {F : RO} {M M' : Mem} {c c' : Nat → Prop} {ct ct' nt : Nat} {w w' : World} {t t' : T} {d d' : List Nat} {a : Act} {rd : Option Nat}
theorem resV_cons (r : RV) (l : List RV) : resV F M t (r :: l) = (resV1 F M t r).bind fun v => (resV F M t l).map (v :: ·) := by
  show Option.rec (motive := fun _ => Option (List V)) none (fun v => resC v (resV F M t l)) (resV1 F M t r) = _
  cases resV1 F M t r with
  | none => rfl
  | some v =>
    show resC v (resV F M t l) = (resV F M t l).map (v :: ·)
    unfold resC
    cases resV F M t l <;> rfl
def resS (tmps : Array Value) : ResultVar → Sem Value
  | .tmp n => pure (tmps.getD n Go.undef)
  | .cell ad ty => do loadVar ty (← asAddr (tmps.getD ad Go.undef))
theorem resV1_ok (h : Cx P E F M c w t a) {x : ResultVar} {r : RV} (hc : compR P x = some r) {v : V} (hv : resV1 F M t r = some v) :
    (resS a.tmps x).run P w = .ok (conc E v) w ∧ bd c v := by
  unfold resS
  cases x with
  | tmp n =>
    obtain rfl := Option.some.inj hc
    obtain rfl : getT t (posOf n) = v := Option.some.inj hv
    exact ⟨by simp [h.tr n], h.bt _⟩
  | cell ad ty =>
    have hn := h.tr ad
    have hc' : (match isAg P ty, szOf P ty with
      | some true, some n => some (RV.cn (posOf ad) n)
      | some false, some _ => some (RV.c1 (posOf ad))
      | _, _ => none) = some r := hc
    replace hc := hc'
    clear hc'
    · split at hc
      · rename_i n h1 h2
        obtain rfl := Option.some.inj hc
        have hv' : (onP (getT t (posOf ad)) none fun b o => Option.rec (motive := fun _ => Option V) none (fun l => some (.g l)) (loadN F M b o n)) = some v := hv
        cases hg : getT t (posOf ad) with
        | p b o =>
          rw [hg] at hv' hn
          have hv2 : Option.rec (motive := fun _ => Option V) none (fun l => some (.g l)) (loadN F M b o n) = some v := hv'
          cases hl : loadN F M b o n with
          | none => rw [hl] at hv2; cases hv2
          | some l =>
            rw [hl] at hv2
            obtain rfl : V.g l = v := Option.some.inj hv2
            have hL := h.loadN hl
            refine ⟨?_, hL.2.1⟩
            simp only [hn, conc, asAddr, loadVar, Sem.run_bind, Sem.run_pure, Result.andThen_ok, isAg_run h1, Sem.run_ite, if_true, run_sz h2, hL.1]
        | _ => rw [hg] at hv'; cases (show (none : Option V) = some v from hv')
      · rename_i n h1 h2
        obtain rfl := Option.some.inj hc
        have hv' : (onP (getT t (posOf ad)) none fun b o => load1 F M b o) = some v := hv
        cases hg : getT t (posOf ad) with
        | p b o =>
          rw [hg] at hv' hn
          have hL := h.load1 (show Ev.load1 F M b o = some v from hv')
          refine ⟨?_, hL.2⟩
          simp only [hn, conc, asAddr, loadVar, Sem.run_bind, Sem.run_pure, Result.andThen_ok, isAg_run h1, Sem.run_ite, Bool.false_eq_true, if_false, run_load, hL.1]
        | _ => rw [hg] at hv'; cases (show (none : Option V) = some v from hv')
      · cases hc
theorem resV_ok (h : Cx P E F M c w t a) : ∀ {xs : List ResultVar} {rs : List RV} {vs : List V}, compRs P xs = some rs → resV F M t rs = some vs →
    (xs.mapM (resS a.tmps)).run P w = .ok (concs E vs) w ∧ bds c vs
  | [], rs, vs, hc, hv => by
    obtain rfl := Option.some.inj hc
    obtain rfl : [] = vs := Option.some.inj hv
    exact ⟨rfl, trivial⟩
  | x :: xs, rs, vs, hc, hv => by
    rw [compRs] at hc
    split at hc
    · rename_i r rr h1 h2
      obtain rfl := Option.some.inj hc
      rw [resV_cons] at hv
      obtain ⟨v, hv1, hv2⟩ := Option.bind_eq_some_iff.1 hv
      obtain ⟨vs', hv3, rfl⟩ := Option.map_eq_some_iff.1 hv2
      have e1 := resV1_ok h h1 hv1
      have e2 := resV_ok h h2 hv3
      refine ⟨?_, e1.2, e2.2⟩
      simp only [List.mapM_cons, Sem.run_bind, e1.1, e2.1, Result.andThen_ok, Sem.run_pure, concs]
    · cases hc
theorem results_ok (h : Cx P E F M c w t a) {fn : Func} {rs : List RV} {vs : List V} (hc : compRs P fn.results.toList = some rs) (hv : resV F M t rs = some vs) :
    (results fn a.tmps).run P w = .ok (conc E (oneV vs)) w ∧ bd c (oneV vs) := by
  have e := resV_ok h hc hv
  have hm : (fn.results.mapM (resS a.tmps)).run P w = .ok (concs E vs).toArray w := by
    rw [← Array.toArray_toList (xs := fn.results), List.mapM_toArray]
    simp [e.1]
  show (bind (fn.results.mapM (resS a.tmps)) _).run P w = _ ∧ _
  rw [Sem.run_bind, hm]
  match vs, e.2 with
  | [], _ => exact ⟨rfl, trivial⟩
  | [v], hb => exact ⟨rfl, hb.1⟩
  | v :: v' :: l, hb =>
    refine ⟨?_, hb⟩
    show Result.ok _ w = _
    congr 1
end
end Go.Proofs.YtaogopbhjinmoaaGreatDoor.Ev
namespace Go.Proofs.YtaogopbhjinmoaaGreatDoor.Ev
open Go
section
variable {P : Program} {Bd : List Deferred} {E E' : Env} {F : RO} {M M' : Mem} {c c' : Nat → Prop} {ct ct' nt : Nat} {w w' : World} {t t' : T} {d d' : List Nat} {a : Act} {rd : Option Nat}
theorem takeDefs_cons (b : Nat) (ds : List Nat) (M : Mem) : takeDefs (b :: ds) M = match M.get b with
    | some (.defs false) => takeDefs ds (M.set b (.defs true))
    | _ => none := by
  show Option.rec (motive := fun _ => Option Mem) none (fun blk => takeD1 (takeDefs ds) M b blk) (M.get b) = _
  cases M.get b with
  | none => rfl
  | some blk =>
    cases blk with
    | defs x =>
      cases x with
      | true => rfl
      | false => exact Tr.force_eq _ _
    | _ => rfl
theorem leaves_okB {fn : Func} {R : Ending → World → Prop} {t : T} {tmps : Array Value} {M₂ : Mem} : ∀ (ds : List Nat) (M : Mem) (w : World), takeDefs ds M = some M₂ → Rel P E F M c w →
    (∀ w', Stp P F E M c w E M₂ c w' → LeavesInM Fence.wide 0 P fn tmps R Bd .returning w') →
    LeavesInM Fence.wide 0 P fn tmps R ((ds.map fun b => { target := .collected (E.ρ b), args := #[] }) ++ Bd) .returning w
  | [], M, w, hm, h, hR => by
    obtain rfl : M = M₂ := Option.some.inj hm
    exact hR w (.refl h)
  | b :: ds, M, w, hm, h, hR => by
    rw [takeDefs_cons] at hm
    split at hm
    · rename_i hM
      obtain ⟨_, _, o, ho, hrel⟩ := h.has _ _ (look_some_M hM)
      have hrel' : o = .deferred (some []) := hrel
      subst hrel'
      have hS := h.write b _ (.defs true) hM (.deferred none) trivial (w.putObj (E.ρ b) (.deferred none)) rfl rfl rfl rfl rfl
      refine ⟨by simp, .inl ⟨E.ρ b, w.putObj (E.ρ b) (.deferred none), rfl, run_takeDeferred ho, ?_⟩⟩
      exact leaves_okB (t := t) ds _ _ hm hS.rel fun w' hS' => hR w' (hS.trans hS')
    · cases hm
theorem leaves_ok {fn : Func} {R : Ending → World → Prop} {t : T} {tmps : Array Value} {M₂ : Mem} (ds : List Nat) (M : Mem) (w : World) (hm : takeDefs ds M = some M₂) (h : Rel P E F M c w)
    (hR : ∀ w', Stp P F E M c w E M₂ c w' → ∃ v, (results fn tmps).run P w' = .ok v w' ∧ R (.returned v) w') :
    LeavesInM Fence.wide 0 P fn tmps R ((ds.map fun b => { target := .collected (E.ρ b), args := #[] }) ++ []) .returning w :=
  leaves_okB (t := t) (Bd := []) ds M w hm h fun w' hS => hR w' hS
theorem callC_some {ex : ExF} {f : Nat} {args : List V} {o : Option CF} {v : V} (h : callC ex F f args M ct o = .k v M' ct') : (∃ n res body e t1 d1 M1 vs, o = some (.mk n res body) ∧ ex none f F body (.mk (argTr n args) [] M ct) = .k e (.mk t1 d1 M1 ct') ∧ (e = .nrm ∨ e = .ret) ∧ takeDefs d1 M1 = some M' ∧ resV F M' t1 res = some vs ∧ v = oneV vs) ∨ ∃ g, o = some (.orc g) ∧ g F args M ct = .k v M' ct' := by
  cases o with
  | none => cases (show RC.f = .k v M' ct' from h)
  | some cf =>
    cases cf with
    | orc g => exact .inr ⟨g, rfl, h⟩
    | mk n res body =>
    left
    have h' : finish res F (ex none f F body (.mk (argTr n args) [] M ct)) = .k v M' ct' := h
    cases hx : ex none f F body (.mk (argTr n args) [] M ct) with
    | f => rw [hx] at h'; cases (show RC.f = .k v M' ct' from h')
    | k e s =>
      obtain ⟨t1, d1, M1, c1⟩ := s
      rw [hx] at h'
      have h2 : Bool.rec (motive := fun _ => RC) .f (finish1 res F t1 c1 (takeDefs d1 M1)) (isEnd e) = .k v M' ct' := h'
      rw [bb] at h2
      split at h2
      · rename_i he
        cases hm : takeDefs d1 M1 with
        | none => rw [hm] at h2; cases (show RC.f = .k v M' ct' from h2)
        | some M2 =>
          rw [hm] at h2
          have h3 : finish2 c1 M2 (resV F M2 t1 res) = .k v M' ct' := h2
          cases hr : resV F M2 t1 res with
          | none => rw [hr] at h3; cases (show RC.f = .k v M' ct' from h3)
          | some vs =>
            rw [hr] at h3
            have h4 : RC.k (oneV vs) M2 c1 = .k v M' ct' := h3
            injection h4 with e1 e2 e3
            subst e1 e2 e3
            refine ⟨n, res, body, e, t1, d1, M1, vs, rfl, hx, ?_, hm, hr, rfl⟩
            cases e with
            | nrm => exact .inl rfl
            | ret => exact .inr rfl
            | ext id => cases (show false = true from he)
            | gto l => cases (show false = true from he)
      · cases h2
theorem comp_some {fn : Func} {n : Nat} {res : List RV} {body : CC} (h : comp P fn = some (.mk n res body)) : (fn.name == "runtime.NumGoroutine") = false ∧ ∃ b, fn.body = some b ∧ Sim P fn.ntmps b body ∧ compRs P fn.results.toList = some res := by
  unfold comp at h
  split at h
  · cases h
  · rename_i hn
    refine ⟨by simpa using hn, ?_⟩
    split at h
    · cases h
    · rename_i b hb
      split at h
      · rename_i body' res' h1 h2
        injection h with h
        injection h with e0 e1 e2
        subst e0 e1 e2
        exact ⟨b, hb, ⟨_, h1⟩, h2⟩
      · cases h
theorem callOk_of {Φ : Nat → Option CF} {ex : ExF} (hΦ : PhiOk P Φ) (hex : ExOk P ex) (rd : Option Nat) (fn : Nat) (F₀ : RO) : CallOk P (.mk Φ ex rd fn F₀) := by
  intro F f args M ct v M' ct' h E c w hrel hglob hbig hfr hargs
  have h' : callC ex F f args M ct (Φ f) = .k v M' ct' := h
  rcases callC_some h' with ⟨n, res, body, e, t1, d1, M1, vs, ho, hx, he, hm, hr, rfl⟩ | ⟨g, ho, hg⟩
  case inr =>
    have hok : OrcOk P f g := hΦ f _ ho
    exact hok F args M ct v M' ct' hg E c w hrel hglob hbig hfr hargs
  obtain ⟨fn', hfn, hcomp⟩ : ∃ fn, P.funcs[f]? = some fn ∧ comp P fn = some (.mk n res body) := hΦ f _ ho
  obtain ⟨hnm, b, hb, hsim, hres⟩ := comp_some hcomp
  refine ⟨fn', hfn, by rw [hb]; rfl, hnm, ?_⟩
  refine (callsIn_wide (n := 0)).1 (callsIn_of_wp_marks hfn hb trivial ?_)
  have hSR : SR P [] F none fn'.ntmps E c w { tmps := (concs E args).toArray ++ Array.replicate (fn'.ntmps - (concs E args).toArray.size) Go.undef, defers := [] } (argTr n args) [] M ct :=
    ⟨⟨hrel, hglob, hbig, argTr_rel E args _ _, argTr_bd hargs⟩, hfr, rfl, fun b hb => by simp at hb, by simp; omega, fun l hl => by cases hl⟩
  refine hex none f F body _ [] M ct e t1 d1 M1 ct' hx fn'.ntmps b hsim E c w _ hSR _ ?_
  rintro a' w' ⟨E', c', hS, hG, hR⟩
  have key : LeavesInM Fence.wide 0 P fn' a'.tmps (fun e w' => ∃ E' c', e = .returned (conc E' (oneV vs)) ∧ Stp P F E M c w E' M' c' w' ∧ bd c' (oneV vs) ∧ Grow c ct c' ct') a'.defers .returning w' := by
    rw [hR.df]
    refine leaves_ok (t := t1) d1 M1 w' hm hR.cx.rel fun w2 hS2 => ?_
    have hcx : Cx P E' F M' c' w2 t1 a' := ⟨hS2.rel, hR.cx.glob, hR.cx.big, hR.cx.tr, hR.cx.bt⟩
    have hres' := results_ok hcx hres hr
    exact ⟨_, hres'.1, E', c', rfl, hS.trans hS2, hres'.2, hG⟩
  rcases he with rfl | rfl
  · exact key
  · exact key
end
end Go.Proofs.YtaogopbhjinmoaaGreatDoor.Ev
namespace Go.Proofs.YtaogopbhjinmoaaGreatDoor.Ev
open Go
section
variable {P : Program} {E E' : Env} {F : RO} {M M' : Mem} {c c' : Nat → Prop} {ct ct' nt : Nat} {w w' : World} {t t' : T} {d d' : List Nat} {a : Act} {rd : Option Nat}
theorem loopOf_some {o : Option Blk} {s : LS} {pe : Pend} {fn : Nat} {tm : T} {ps : List Pos} {asg body : CC} {dn : Nat} (h : loopOf o = .k s pe fn tm ps asg body dn) : o = some (.loop s pe fn tm ps asg body dn) := by
  unfold loopOf at h
  split at h
  · injection h with e1 e2 e3 e4 e5 e6 e7 e8
    subst e1 e2 e3 e4 e5 e6 e7 e8
    rfl
  · cases h
theorem setParams_ok {E : Env} : ∀ (ps : List Nat) (vs : List V) (t t' : T) (tmps : Array Value), setParams (ps.map posOf) vs t = some t' → TRel E t tmps → (∀ p ∈ ps, p < tmps.size) →
    ps.length = vs.length ∧ TRel E t' ((ps.zip (concs E vs)).foldl (fun tm (p : Nat × Value) => tm.setIfInBounds p.1 p.2) tmps)
  | [], [], t, t', tmps, h, ht, _ => by
    obtain rfl : t = t' := Option.some.inj h
    exact ⟨rfl, ht⟩
  | p :: ps, v :: vs, t, t', tmps, h, ht, hp => by
    have h' : setParams (ps.map posOf) vs (t.setP (posOf p) v) = some t' := by
      have : (t.setP (posOf p) v).force (fun t => setParams (ps.map posOf) vs t) = some t' := h
      rwa [Tr.force_eq] at this
    have h1 : TRel E (t.setP (posOf p) v) (tmps.setIfInBounds p (conc E v)) :=
      TRel_put (a := ⟨tmps, []⟩) (dst := some p) ht (fun k hk => by cases hk; exact hp p (by simp)) rfl
    have ih := setParams_ok ps vs _ t' _ h' h1 (fun q hq => by simpa using hp q (by simp [hq]))
    exact ⟨by simp [ih.1], by simpa [concs] using ih.2⟩
  | [], _ :: _, t, t', tmps, h, _, _ => by cases h
  | _ :: _, [], t, t', tmps, h, _, _ => by cases h
theorem setParams_bd : ∀ (ps : List Pos) (vs : List V) (t t' : T), setParams ps vs t = some t' → bds c vs → bdT c t → bdT c t'
  | [], [], t, t', h, _, ht => by obtain rfl : t = t' := Option.some.inj h; exact ht
  | p :: ps, v :: vs, t, t', h, hv, ht => by
    have h' : setParams ps vs (t.setP p v) = some t' := by
      have : (t.setP p v).force (fun t => setParams ps vs t) = some t' := h
      rwa [Tr.force_eq] at this
    exact setParams_bd ps vs _ t' h' hv.2 (bdT_put (dst := some p) ht hv.1)
  | [], _ :: _, t, t', h, _, _ => by cases h
  | _ :: _, [], t, t', h, _, _ => by cases h
theorem foldl_size (ps : List (Nat × Value)) : ∀ tmps : Array Value, (ps.foldl (fun tm (p : Nat × Value) => tm.setIfInBounds p.1 p.2) tmps).size = tmps.size := by
  induction ps with
  | nil => intro tmps; rfl
  | cons p ps ih => intro tmps; rw [List.foldl_cons, ih]; simp
end
end Go.Proofs.YtaogopbhjinmoaaGreatDoor.Ev
namespace Go.Proofs.YtaogopbhjinmoaaGreatDoor.Ev
open Go
section
variable {P : Program} {E E' : Env} {F : RO} {M M' : Mem} {c c' : Nat → Prop} {ct ct' nt : Nat} {w w' : World} {t t' : T} {d d' : List Nat} {a : Act} {rd : Option Nat}
theorem callY_some {Φ : Nat → Option CF} {ex : ExF} {rd₀ : Option Nat} {fn₀ : Nat} {l : Nat} {args : List V} {o : Option Blk} {v : V} (h : callY (.mk Φ ex rd₀ fn₀ F) l args M ct (loopOf o) = .k v M' ct') :
    ∃ pe fn tm ps asg body dn tp t1 M1 ct1 pe1 fn1 tm1 ps1 a1 b1 dn1 e t2 M3 s3 pe3 fn3 tm3 ps3 a3 b3 dn3 s4 pe4 r, o = some (.loop .ready pe fn tm ps asg body dn) ∧ setParams ps args tm = some tp ∧
      ex (some l) fn F asg (.mk tp [] M ct) = .k .nrm (.mk t1 [] M1 ct1) ∧ M1.get l = some (.loop .ready pe1 fn1 tm1 ps1 a1 b1 dn1) ∧
      ex (some l) fn F body (.mk t1 [] (M1.set l (.loop .busy pe1 fn1 tm1 ps1 a1 b1 dn1)) ct1) = .k e (.mk t2 [] M3 ct') ∧ M3.get l = some (.loop s3 pe3 fn3 tm3 ps3 a3 b3 dn3) ∧
      ((e = .nrm ∧ s4 = .ready ∧ pe4 = .none ∧ r = true) ∨ (e = .ret ∧ s4 = .done ∧ pe4 = .ret ∧ r = false) ∨ (∃ id, e = .ext id ∧ s4 = .done ∧ pe4 = .ext id ∧ r = false)) ∧
      v = .b r ∧ M' = M3.set l (.loop s4 pe4 fn3 tm3 ps3 a3 b3 dn3) := by
  cases hl : loopOf o with
  | f => rw [hl] at h; cases h
  | k s pe fn tm ps asg body dn =>
    rw [hl] at h
    cases s with
    | ready =>
      have ho := loopOf_some hl
      cases hp : setParams ps args tm with
      | none =>
        have h1 : y_go (.mk Φ ex rd₀ fn₀ F) l fn asg body M ct (setParams ps args tm) = .k v M' ct' := h
        rw [hp] at h1; cases h1
      | some tp =>
        have h1 : y_go (.mk Φ ex rd₀ fn₀ F) l fn asg body M ct (setParams ps args tm) = .k v M' ct' := h
        rw [hp] at h1
        have h2 : y_asg (.mk Φ ex rd₀ fn₀ F) l fn body (ex (some l) fn F asg (.mk tp [] M ct)) = .k v M' ct' := h1
        unfold y_asg at h2
        split at h2
        · rename_i t1 M1 ct1 hx1
          unfold y_body at h2
          split at h2
          · rename_i pe1 fn1 tm1 ps1 a1 b1 dn1 hl1
            rw [Tr.force_eq] at h2
            have h3 : y_done l (ex (some l) fn F body (.mk t1 [] (M1.set l (.loop .busy pe1 fn1 tm1 ps1 a1 b1 dn1)) ct1)) = .k v M' ct' := h2
            unfold y_done at h3
            split at h3
            · cases h3
            · rename_i e t2 d2 M3 ct2 hx2
              split at h3
              · have key : ∀ (s4 : LS) (pe4 : Pend) (r : Bool), y_end M3 l ct2 s4 pe4 r (loopOf (M3.get l)) = .k v M' ct' → ∃ s3 pe3 fn3 tm3 ps3 a3 b3 dn3, M3.get l = some (.loop s3 pe3 fn3 tm3 ps3 a3 b3 dn3) ∧ v = .b r ∧ M' = M3.set l (.loop s4 pe4 fn3 tm3 ps3 a3 b3 dn3) ∧ ct' = ct2 := by
                  intro s4 pe4 r hy
                  unfold y_end at hy
                  split at hy
                  · rename_i s3 pe3 fn3 tm3 ps3 a3 b3 dn3 hl3
                    rw [setM_eq] at hy
                    injection hy with g1 g2 g3
                    exact ⟨_, _, _, _, _, _, _, _, loopOf_some hl3, g1.symm, g2.symm, g3.symm⟩
                  · cases hy
                split at h3
                · obtain ⟨s3, pe3, fn3, tm3, ps3, a3, b3, dn3, hM3, hv, hM', hct⟩ := key _ _ _ h3
                  subst hct
                  exact ⟨pe, fn, tm, ps, asg, body, dn, tp, t1, M1, ct1, pe1, fn1, tm1, ps1, a1, b1, dn1, _, t2, M3, s3, pe3, fn3, tm3, ps3, a3, b3, dn3, .ready, .none, true, ho, hp, hx1, loopOf_some hl1, hx2, hM3, .inl ⟨rfl, rfl, rfl, rfl⟩, hv, hM'⟩
                · obtain ⟨s3, pe3, fn3, tm3, ps3, a3, b3, dn3, hM3, hv, hM', hct⟩ := key _ _ _ h3
                  subst hct
                  exact ⟨pe, fn, tm, ps, asg, body, dn, tp, t1, M1, ct1, pe1, fn1, tm1, ps1, a1, b1, dn1, _, t2, M3, s3, pe3, fn3, tm3, ps3, a3, b3, dn3, .done, .ret, false, ho, hp, hx1, loopOf_some hl1, hx2, hM3, .inr (.inl ⟨rfl, rfl, rfl, rfl⟩), hv, hM'⟩
                · rename_i id
                  obtain ⟨s3, pe3, fn3, tm3, ps3, a3, b3, dn3, hM3, hv, hM', hct⟩ := key _ _ _ h3
                  subst hct
                  exact ⟨pe, fn, tm, ps, asg, body, dn, tp, t1, M1, ct1, pe1, fn1, tm1, ps1, a1, b1, dn1, _, t2, M3, s3, pe3, fn3, tm3, ps3, a3, b3, dn3, .done, .ext id, false, ho, hp, hx1, loopOf_some hl1, hx2, hM3, .inr (.inr ⟨id, rfl, rfl, rfl, rfl⟩), hv, hM'⟩
                · cases h3
              · cases h3
          · cases h2
        · cases h2
    | _ => cases h
end
end Go.Proofs.YtaogopbhjinmoaaGreatDoor.Ev
namespace Go.Proofs.YtaogopbhjinmoaaGreatDoor.Ev
open Go
section
variable {P : Program} {Bd : List Deferred} {E E' : Env} {F : RO} {M M' : Mem} {c c' : Nat → Prop} {ct ct' nt : Nat} {w w' : World} {t t' : T} {d d' : List Nat} {a : Act} {rd : Option Nat}
theorem yieldOk_of {Φ : Nat → Option CF} {ex : ExF} (hex : ExOk P ex) (rd₀ : Option Nat) (fn₀ : Nat) (F₀ : RO) : YieldOk P (.mk Φ ex rd₀ fn₀ F₀) := by
  intro F l args M ct v M' ct' h E c w rd hrel hglob hbig hfr hargs
  obtain ⟨pe, fn, tm, ps, asg, body, dn, tp, t1, M1, ct1, pe1, fn1, tm1, ps1, a1, b1, dn1, e, t2, M3, s3, pe3, fn3, tm3, ps3, a3, b3, dn3, s4, pe4, r, ho, hp, hx1, hM1, hx2, hM3, hcase, rfl, rfl⟩ := callY_some (rd₀ := rd₀) (fn₀ := fn₀) h
  obtain ⟨hcl, hbd, ob, hob, fn', tmps, params, ca, cb, rfl, htr, hps, nt, hnt, hpar, hsa, hsb⟩ := hrel.has _ _ (look_some_M ho)
  subst hps
  obtain ⟨hlen, htr'⟩ := setParams_ok params.toList args tm tp tmps hp htr (fun p hp' => Nat.lt_of_lt_of_le (hpar p hp') hnt)
  have hy := run_yield (P := P) (args := (concs E args).toArray) hob (by simp [concs_map]; rw [← hlen]; simp)
  have hfold : (params.zip (concs E args).toArray).foldl (fun tmps (t, a) => tmps.setIfInBounds t a) tmps = (params.toList.zip (concs E args)).foldl (fun tm (p : Nat × Value) => tm.setIfInBounds p.1 p.2) tmps := by
    rw [← Array.foldl_toList]
    simp
  simp only [hfold] at hy
  refine ⟨fn', _, ca, cb, hy, roundIn_of_wpIn trivial ?_⟩
  have hSR : SR P [] F (some l) nt E c w { tmps := (params.toList.zip (concs E args)).foldl (fun tm (p : Nat × Value) => tm.setIfInBounds p.1 p.2) tmps, defers := [] } tp [] M ct :=
    ⟨⟨hrel, hglob, hbig, htr', setParams_bd _ _ _ _ hp hargs hbd.1⟩, hfr, rfl, fun b hb => by simp at hb, by rw [foldl_size]; exact hnt, fun l' hl' => by cases hl'; exact hcl⟩
  refine hex (some l) fn F asg tp [] M ct .nrm t1 [] M1 ct1 hx1 nt ca hsa E c w _ hSR _ ?_
  rintro a1' w1 ⟨E1, c1, hS1, hG1, hR1⟩
  obtain ⟨hcl1, hbd1, ob1, hob1, fn1', tmps1, params1, ca1, cb1, rfl, htr1, hps1, hnt1⟩ := hR1.cx.rel.has _ _ (look_some_M hM1)
  have hρ1 : E1.ρ l = E.ρ l := hS1.ext.ρ l hcl
  have hbr := run_beginRound (P := P) (l := E.ρ l) (by rw [← hρ1]; exact hob1) rfl
  refine ⟨_, hbr, ?_⟩
  have hS2 := hR1.cx.rel.write l _ (.loop .busy pe1 fn1 tm1 ps1 a1 b1 dn1) hM1 (.loop { state := .busy, pending := peOf pe1, fn := fn1', tmps := tmps1, params := params1, assign := ca1, body := cb1, defers := E1.ρ dn1 }) hbd1
    (w1.putObj (E.ρ l) (.loop { state := .busy, pending := peOf pe1, fn := fn1', tmps := tmps1, params := params1, assign := ca1, body := cb1, defers := E1.ρ dn1 })) (by rw [hρ1]; rfl) rfl rfl rfl
    ⟨fn1', tmps1, params1, ca1, cb1, rfl, htr1, hps1, hnt1⟩
  have hSR2 := hR1.stp hS2 (.refl _ _)
  have hfe : fence E1 (some l) = (fence E rd).inRound (E.ρ l) := by unfold fence Fence.inRound; simp [hρ1]
  rw [← hfe]
  refine hex (some l) fn F body t1 [] _ ct1 e t2 [] M3 ct' hx2 nt cb hsb E1 c1 _ _ hSR2 _ ?_
  rintro a2 w3 ⟨E3, c3, hS3, hG3, hR3⟩
  obtain ⟨hcl3, hbd3, ob3, hob3, fn3', tmps3, params3, ca3, cb3, rfl, htr3, hps3, hnt3⟩ := hR3.cx.rel.has _ _ (look_some_M hM3)
  have hρ3 : E3.ρ l = E.ρ l := (hS3.ext.ρ l hcl1).trans hρ1
  have fin : ∀ (jump : Option Code), lsOf s4 = (if jump.isNone then .ready else .done) → peOf pe4 = jump → r = jump.isNone →
      ∃ v' w', (Instr.endRound (E.ρ l) jump).run P w3 = .ok v' w' ∧ ∃ E' c', Ending.returned v' = .returned (conc E' (.b r)) ∧ Stp P F E M c w E' (M3.set l (.loop s4 pe4 fn3 tm3 ps3 a3 b3 dn3)) c' w' ∧ bd c' (.b r) ∧ Grow c ct c' ct' := by
    intro jump h1 h2 h3
    have her := run_endRound (P := P) (l := E.ρ l) jump (by rw [← hρ3]; exact hob3)
    refine ⟨_, _, her, E3, c3, by rw [h3]; rfl, ?_, trivial, hG1.trans hG3⟩
    refine ((hS1.trans hS2).trans hS3).trans (hR3.cx.rel.write l _ (.loop s4 pe4 fn3 tm3 ps3 a3 b3 dn3) hM3 (.loop { state := if jump.isNone then .ready else .done, pending := jump, fn := fn3', tmps := tmps3, params := params3, assign := ca3, body := cb3, defers := E3.ρ dn3 }) hbd3 _ (by rw [hρ3]; rfl) rfl rfl rfl ?_)
    exact ⟨fn3', tmps3, params3, ca3, cb3, by rw [h1, h2], htr3, hps3, hnt3⟩
  rcases hcase with ⟨rfl, rfl, rfl, rfl⟩ | ⟨rfl, rfl, rfl, rfl⟩ | ⟨id, rfl, rfl, rfl, rfl⟩
  · exact fin none rfl rfl rfl
  · exact fin (some .ret) rfl rfl rfl
  · exact fin (some (.exit id)) rfl rfl rfl
end
end Go.Proofs.YtaogopbhjinmoaaGreatDoor.Ev
namespace Go.Proofs.YtaogopbhjinmoaaGreatDoor.Ev
open Go
section
variable {Fn : Fence} {n : Nat} {P : Program} {b : Frame} {a : Act} {k : List Item} {cs : List Frame} {w : World} {Q : Exit → Act → World → Prop}
theorem stepR_scope {c : Code} : step P (lone (b.atR a (.code (.scope c) :: k)) cs w) = .next (lone (b.atR a (.code c :: .inScope c :: k)) cs w) :=
  step_lone_go (by simp [stepG, stepG.exec, Frame.atR])
theorem stepR_inScope {c : Code} : step P (lone (b.atR a (.inScope c :: k)) cs w) = .next (lone (b.atR a k) cs w) :=
  step_lone_go (by simp [stepG, stepG.exec, Frame.atR])
def inScopePost (body : Code) (J : Code → Act → World → Prop) (Q : Exit → Act → World → Prop) : Exit → Act → World → Prop
  | .goto l, a, w => match findLabel body l with
    | some rest => J rest a w
    | none => Q (.goto l) a w
  | e, a, w => Q e a w
def ScopeIn (Fn : Fence) (n : Nat) (P : Program) (body : Code) (Q : Exit → Act → World → Prop) : Nat → Code → Act → World → Prop
  | 0, _, _, _ => False
  | m + 1, c, a, w => c.wpIn Fn n P (inScopePost body (ScopeIn Fn n P body Q m) Q) a w
theorem wpIn_scope {body : Code} (m : Nat) (h : ScopeIn Fn n P body Q m body a w) : (Code.scope body).wpIn Fn n P Q a w := by
  intro b k cs hro hb hr
  have hx : ∀ id, exitTo id (.inScope body :: k) = exitTo id k := fun id => by simp [exitTo]
  have key : ∀ m c a w, ScopeIn Fn n P body Q m c a w →
      ∃ e a' w', Q e a' w' ∧ ArrivesIn (Machine.fenced P Fn) P (lone (b.atR a (.code c :: .inScope body :: k)) cs w) b k cs e a' w' := by
    intro m
    induction m with
    | zero => intro c a w h; exact h.elim
    | succ m ih =>
      intro c a w h
      obtain ⟨e, a₁, w₁, hq, harr⟩ := h b (.inScope body :: k) cs hro hb hr
      cases e with
      | normal => exact ⟨.normal, a₁, w₁, hq, StepsIn.trans harr (.one (fenced_calm hb hr rfl) stepR_inScope)⟩
      | exit id =>
        exact ⟨.exit id, a₁, w₁, hq, fun k' hk => harr.1 k' (by rw [hx]; exact hk),
          fun hr' hk => harr.2 hr' (by rw [hx]; exact hk)⟩
      | goto l =>
        cases hf : findLabel body l with
        | none =>
          have hq' : Q (.goto l) a₁ w₁ := by
            have : inScopePost body (ScopeIn Fn n P body Q m) Q (.goto l) a₁ w₁ := hq
            unfold inScopePost at this
            dsimp only at this
            rw [hf] at this; exact this
          have hg : gotoIn l (.inScope body :: k) = gotoIn l k := by simp [gotoIn, hf]
          exact ⟨.goto l, a₁, w₁, hq', fun k' hk => harr.1 k' (by rw [hg]; exact hk), fun hr' hk => harr.2 hr' (by rw [hg]; exact hk)⟩
        | some rest =>
          have hq' : ScopeIn Fn n P body Q m rest a₁ w₁ := by
            have : inScopePost body (ScopeIn Fn n P body Q m) Q (.goto l) a₁ w₁ := hq
            unfold inScopePost at this
            dsimp only at this
            rw [hf] at this; exact this
          obtain ⟨e₂, a₂, w₂, hq₂, harr₂⟩ := ih rest a₁ w₁ hq'
          have hg : gotoIn l (.inScope body :: k) = some (.code rest :: .inScope body :: k) := by simp [gotoIn, hf]
          exact ⟨e₂, a₂, w₂, hq₂, .of_steps (harr.1 _ hg) harr₂⟩
      | ret => exact ⟨_, a₁, w₁, hq, harr⟩
      | panic ch => exact ⟨_, a₁, w₁, hq, harr⟩
      | outgrown => exact ⟨_, a₁, w₁, hq, harr⟩
  obtain ⟨e, a', w', hq, harr⟩ := key m body a w h
  exact ⟨e, a', w', hq, .of_steps (.one (fenced_calm hb hr rfl) stepR_scope) harr⟩
end
end Go.Proofs.YtaogopbhjinmoaaGreatDoor.Ev
namespace Go.Proofs.YtaogopbhjinmoaaGreatDoor.Ev
open Go
section
variable {P : Program} {Bd : List Deferred} {E E' : Env} {F : RO} {M M' : Mem} {c c' : Nat → Prop} {ct ct' nt : Nat} {w w' : World} {t t' : T} {d d' : List Nat} {a : Act} {rd : Option Nat}
def DrOk (P : Program) (k : Kn) : Prop := ∀ (F : RO) (rd : Option Nat) (nt id : Nat) (ops : Array Oper) (cos : List CO), compOs P nt ops ops.toList = some cos → ∀ (n : Nat) (l : List (Nat × Nat × CO)), dregC ops cos = .dreg n l →
  ∀ (t : T) (d : List Nat) (M : Mem) (ct : Nat) (e : Ex) (t' : T) (d' : List Nat) (M' : Mem) (ct' : Nat), c_dreg n l (knF k F) (.mk t d M ct) = .k e (.mk t' d' M' ct') →
  ∀ {Bd : List Deferred} (E : Env) (c : Nat → Prop) (w : World) (a : Act), SR P Bd F rd nt E c w a t d M ct → ∀ Q : Exit → Act → World → Prop, (∀ a' w', Res P Bd F rd nt E c w M ct t' d' M' ct' a' w' → Q (exOf e) a' w') → (Code.region id ops true).wpIn (fence E rd) 0 P Q a w
theorem peOf_code {pe : Pend} {n : Nat} {Fn : Fence} {Q : Exit → Act → World → Prop} {e : Ex} {s : St} {s' : St} (h : rfPend s pe = .k e s') (hq : Q (exOf e) a w) :
    (match peOf pe with
     | none => Q .normal a w
     | some c => c.wpIn Fn n P Q a w) := by
  cases pe with
  | none =>
    have h' : Rs.k .nrm s = .k e s' := h
    injection h' with h1 h2
    subst h1
    exact hq
  | ret =>
    have h' : Rs.k .ret s = .k e s' := h
    injection h' with h1 h2
    subst h1
    exact wpIn_ret hq
  | ext id =>
    have h' : Rs.k (.ext id) s = .k e s' := h
    injection h' with h1 h2
    subst h1
    exact wpIn_exit hq
theorem rfPend_st {pe : Pend} {e : Ex} {s s' : St} (h : rfPend s pe = .k e s') : s' = s := by
  cases pe with
  | none => have h' : Rs.k .nrm s = .k e s' := h; injection h' with h1 h2; exact h2.symm
  | ret => have h' : Rs.k .ret s = .k e s' := h; injection h' with h1 h2; exact h2.symm
  | ext id => have h' : Rs.k (.ext id) s = .k e s' := h; injection h' with h1 h2; exact h2.symm
theorem rfDone_some {l : Nat} {r : RC} {e : Ex} {s' : St} (h : rfDone t d l r = .k e s') : ∃ v M1 c1 s pe fn tm ps a b dn, r = .k v M1 c1 ∧ M1.get l = some (.loop s pe fn tm ps a b dn) ∧ s ≠ .busy ∧
    rfPend (.mk t d (M1.set l (.loop .exhausted pe fn tm ps a b dn)) c1) pe = .k e s' := by
  cases r with
  | f => cases (show Rs.f = .k e s' from h)
  | k v M1 c1 =>
    have h1 : rfEnd t d M1 c1 l (loopOf (M1.get l)) = .k e s' := h
    cases hl : loopOf (M1.get l) with
    | f => rw [hl] at h1; cases (show Rs.f = .k e s' from h1)
    | k s pe fn tm ps a b dn =>
      rw [hl] at h1
      refine ⟨v, M1, c1, s, pe, fn, tm, ps, a, b, dn, rfl, loopOf_some hl, ?_, ?_⟩
      · rintro rfl; cases (show Rs.f = .k e s' from h1)
      · unfold rfEnd at h1
        split at h1
        · cases h1
        · rename_i heq
          injection heq with e1 e2 e3 e4 e5 e6 e7 e8
          subst e1 e2 e3 e4 e5 e6 e7 e8
          split at h1
          · cases h1
          · rw [Tr.force_eq] at h1; exact h1
theorem callI_some {k : Kn} {v : V} {args : List V} {x : V} (h : callI k v args M ct = .k x M' ct') : ∃ f first caps, v = .f f first caps ∧ callF k f (first ++ (args ++ caps)) M ct = .k x M' ct' := by
  cases v with
  | f f first caps => exact ⟨f, first, caps, rfl, h⟩
  | _ => cases (show RC.f = .k x M' ct' from h)
theorem rfGo_ok {Φ : Nat → Option CF} {ex : ExF} (hΦ : PhiOk P Φ) (hex : ExOk P ex) {fn₀ : Nat} {g : Operand} {ps : Array Tmp} {ca cb : Code} {x : X} {asg body : CC} (hx : compX g = some x)
    (hsa : Sim P nt ca asg) (hsb : Sim P nt cb body) (hps : ∀ p ∈ ps.toList, p < nt) {dn : Nat} {e : Ex} {s' : St}
    (h : rfGo x (ps.toList.map posOf) asg body (.mk Φ ex rd fn₀ F) t d M ct dn = .k e s') (hdn : c dn)
    (hSR : SR P Bd F rd nt E c w a t d M ct) {Q : Exit → Act → World → Prop} {fn : Nat} {mark : List Deferred} {w₁ : World}
    {w₀ : World} {a₀ : Act} (he : (Instr.enterLoop fn a₀.tmps ps ca cb (rd.map E.ρ)).run P w₀ = .ok (w.heap.size, mark) w₁)
    (hw₁ : w₁ = w.alloc (.loop { state := .ready, pending := none, fn, tmps := a₀.tmps, params := ps, assign := ca, body := cb, defers := E.ρ dn }))
    (ha : a = { a₀ with defers := mark ++ a₀.defers })
    (hQ : ∀ t' d' M' ct', s' = .mk t' d' M' ct' → ∀ a' w', Res P Bd F rd nt E c w M ct t' d' M' ct' a' w' → Q (exOf e) a' w') :
    ∃ (l : Nat) (mark : List Deferred) (w₁ : World) (d : Deferred) (w₁' : World) (f : FuncId) (args : Array Value) (w₂ : World),
      (Instr.enterLoop fn a₀.tmps ps ca cb (fence E rd).round).run P w₀ = .ok (l, mark) w₁ ∧
      (resolve a₀.eval (rangeCall g l) 0).run P w₁ = .ok d w₁' ∧
      (∀ f', Target.leads P w₁' d.target d.args = some f' → (fence E rd).fn f') ∧
      (invoke d.target d.args).run P w₁' = .ok (.enter f args) w₂ ∧
      ((fence E rd).depth.isSome = true → 1 ≤ 0) ∧
      CallsIn (fence E rd) (0 - 1) P f args w₂ (rangePost (fence E rd) 0 P l Q { a₀ with defers := mark ++ a₀.defers }) := by
  have h1 : rfDone t d ct (callI (.mk Φ ex rd fn₀ F) (x.ev t) [.y ct] (M.set ct (.loop .ready .none fn₀ t (ps.toList.map posOf) asg body dn)) (ct + 1)) = .k e s' := by
    unfold rfGo at h
    dsimp only at h
    rw [Tr.force_eq, fN_eq] at h
    exact h
  obtain ⟨v, M1, c1, s, pe, fn1, tm1, ps1, a1, b1, dn1, hr, hM1, hbusy, hpend⟩ := rfDone_some h1
  obtain ⟨f, first, caps, hv, hcf⟩ := callI_some hr
  have htm : a₀.tmps = a.tmps := by rw [ha]
  obtain ⟨E1, hS1, hE1, hρ1, hβ1, _⟩ := hSR.cx.rel.alloc (.loop .ready .none fn₀ t (ps.toList.map posOf) asg body dn) (.loop { state := .ready, pending := none, fn, tmps := a₀.tmps, params := ps, assign := ca, body := cb, defers := E.ρ dn }) ct 0 (fun b => c b ∨ b = ct) (hSR.fr ct (Nat.le_refl _)) (.inr rfl) (fun _ h => .inl h)
    ⟨fun p => bd_mono (fun _ h => .inl h) _ (hSR.cx.bt p), .inl hdn⟩ w₁ (by rw [hw₁]; rfl) (by rw [hw₁]; rfl) (by rw [hw₁]; rfl) (by rw [hw₁]; rfl)
    (fun E2 hE2 _ _ _ => ⟨fn, a₀.tmps, ps, ca, cb, by rw [hE2.ρ dn hdn]; rfl, by rw [htm]; exact hSR.cx.tr.ext hE2 hSR.cx.bt, rfl, nt, by rw [htm]; exact hSR.sz, hps, hsa, hsb⟩)
  have hG1 : Grow c ct (fun b => c b ∨ b = ct) (ct + 1) := grow_one c ct
  have hSR1 := hSR.stp hS1 hG1
  have ev := hSR1.cx.ev hx
  rw [hv] at ev
  have hcall := callOk_of hΦ hex rd fn₀ F
  have hcf' : callF (knF (.mk Φ ex rd fn₀ F) F) f (first ++ ([.y ct] ++ caps)) (M.set ct (.loop .ready .none fn₀ t (ps.toList.map posOf) asg body dn)) (ct + 1) = .k v M1 c1 := hcf
  obtain ⟨fn', hfn, hbo, hnm, hC⟩ := hcall F f _ _ _ _ _ _ hcf' E1 _ w₁ hSR1.cx.rel hSR1.cx.glob hSR1.cx.big hSR1.fr (bds_append ev.2.1 (bds_append (⟨.inr rfl, trivial⟩) ev.2.2))
  have hcfn : (callFunc f (concs E1 (first ++ ([.y ct] ++ caps))).toArray).run P w₁ = .ok (.enter f (concs E1 (first ++ ([.y ct] ++ caps))).toArray) w₁ := by
    have h1 : ¬ fn'.name = "runtime.NumGoroutine" := by simpa using hnm
    have h2 : ¬ fn'.body = none := fun e => by rw [e] at hbo; cases hbo
    simp [callFunc, hfn, h1, h2]
  have hge : a₀.eval g = .func (.func f) (concs E1 first).toArray (concs E1 caps).toArray := by
    have : a.eval g = a₀.eval g := by rw [ha]; rfl
    rw [← this, ev.1]; rfl
  refine ⟨w.heap.size, mark, w₁, ⟨.fn (.func f) (concs E1 caps).toArray, (concs E1 first).toArray ++ #[.func (.yield w.heap.size) #[] #[]]⟩, w₁, f, (concs E1 (first ++ ([.y ct] ++ caps))).toArray, w₁, he, ?_, fun _ _ => trivial, ?_, fun hd => by simp [fence] at hd, ?_⟩
  · have hm : (rangeCall g w.heap.size).args.map a₀.eval = #[.func (.yield w.heap.size) #[] #[]] := by simp [Act.eval]
    show (Deferred.ofValue (a₀.eval g) ((rangeCall g w.heap.size).args.map a₀.eval)).run P w₁ = _
    rw [hm, hge]; rfl
  · have : (concs E1 first).toArray ++ #[.func (.yield w.heap.size) #[] #[]] ++ (concs E1 caps).toArray = (concs E1 (first ++ ([.y ct] ++ caps))).toArray := by
      rw [concs_append, concs_append]
      simp [concs, conc, hρ1]
    simp only [invoke, this]
    exact hcfn
  · rw [← fence_ext hS1.ext hSR.rd]
    refine callsIn_any (hC.mono ?_)
    rintro e2 w2 ⟨E2, c2, rfl, hS2, hb2, hG2⟩
    obtain ⟨hcl, hbd, ob, hob, fn3, tmps3, params3, ca3, cb3, rfl, htr3, hps3, hnt3⟩ := hS2.rel.has _ _ (look_some_M hM1)
    have hρ2 : E2.ρ ct = w.heap.size := (hS2.ext.ρ ct (.inr rfl)).trans hρ1
    have hen := run_endLoop (P := P) (l := w.heap.size) (by rw [← hρ2]; exact hob) (by cases s <;> first | exact absurd rfl hbusy | (intro h; cases h))
    refine ⟨_, _, hen, ?_⟩
    have hS3 := hS2.rel.write ct _ (.loop .exhausted pe fn1 tm1 ps1 a1 b1 dn1) hM1 (.loop { state := .exhausted, pending := peOf pe, fn := fn3, tmps := tmps3, params := params3, assign := ca3, body := cb3, defers := E2.ρ dn1 }) hbd
      (w2.putObj w.heap.size (.loop { state := .exhausted, pending := peOf pe, fn := fn3, tmps := tmps3, params := params3, assign := ca3, body := cb3, defers := E2.ρ dn1 })) (by rw [hρ2]; rfl) rfl rfl rfl
      ⟨fn3, tmps3, params3, ca3, cb3, rfl, htr3, hps3, hnt3⟩
    have hst := rfPend_st hpend
    refine peOf_code hpend ?_
    have hR := (hSR1.stp hS2 hG2).stp hS3 (.refl _ _)
    rw [← ha]
    refine hQ _ _ _ _ hst a _ ⟨E2, c2, (hS1.trans hS2).trans hS3, hG1.trans hG2, hR⟩
end
end Go.Proofs.YtaogopbhjinmoaaGreatDoor.Ev
