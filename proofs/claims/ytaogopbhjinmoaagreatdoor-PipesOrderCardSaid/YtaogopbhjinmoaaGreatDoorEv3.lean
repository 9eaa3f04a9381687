/- What is proved here: pieces of the evaluator's soundness: if the evaluator comes to a value, the model's run comes to it, for every world and tape; no conditions beyond the hypotheses of each theorem. -/
import Derived.Test.YtaogopbhjinmoaaGreatDoorEv2
import Derived.Laws.StructEq
import Derived.Lib.Bytealg
import Derived.Lib.BytesEntry
import GoSem.Extern.BytealgCompare
set_option linter.unusedSimpArgs false
set_option linter.unusedVariables false
set_option linter.defProp false
namespace Go.Proofs.YtaogopbhjinmoaaGreatDoor.Ev
open Go
theorem flatten_cells (E : Env) (v : V) : (conc E v).cells = (concs E (flatten v)).toArray := by
  cases v <;> rfl
theorem flatten_bd {c : Nat → Prop} {v : V} (h : bd c v) : bds c (flatten v) := by
  cases v <;> first | exact ⟨h, trivial⟩ | exact h
theorem replL_spec {α : Type} : ∀ (l : List α) (o : Nat) (vs r : List α), replL l o vs = some r → o + vs.length ≤ l.length ∧ r.length = l.length ∧ ∀ j, r[j]? = if o ≤ j ∧ j < o + vs.length then vs[j - o]? else l[j]?
  | l, 0, [], r, h => by
    have : r = l := by rw [replL.eq_def] at h; exact (Option.some.inj h).symm
    subst this
    refine ⟨by simp, rfl, fun j => by rw [if_neg (by simp)]⟩
  | [], 0, v :: vs, r, h => by rw [replL.eq_def] at h; cases h
  | x :: l, 0, v :: vs, r, h => by
    rw [replL.eq_def] at h
    dsimp only at h
    split at h
    · rename_i t' ht
      obtain rfl := Option.some.inj h
      obtain ⟨h1, h2, h3⟩ := replL_spec l 0 vs t' ht
      refine ⟨by simp at h1 ⊢; omega, by simp [h2], fun j => ?_⟩
      cases j with
      | zero => simp
      | succ j =>
        rw [List.getElem?_cons_succ, h3 j]
        simp only [Nat.zero_le, true_and, Nat.sub_zero, List.length_cons, List.getElem?_cons_succ, Nat.zero_add]
        by_cases hj : j < vs.length
        · rw [if_pos hj, if_pos (by omega)]
        · rw [if_neg hj, if_neg (by omega)]
    · cases h
  | [], o + 1, vs, r, h => by rw [replL.eq_def] at h; cases vs <;> cases h
  | x :: l, o + 1, vs, r, h => by
    have h' : (match replL l o vs with | some t => some (x :: t) | none => none) = some r := by
      rw [replL.eq_def] at h; cases vs <;> exact h
    split at h'
    · rename_i t' ht
      obtain rfl := Option.some.inj h'
      obtain ⟨h1, h2, h3⟩ := replL_spec l o vs t' ht
      refine ⟨by simp; omega, by simp [h2], fun j => ?_⟩
      cases j with
      | zero => rw [if_neg (by omega)]; rfl
      | succ j =>
        rw [List.getElem?_cons_succ, List.getElem?_cons_succ, h3 j, show j + 1 - (o + 1) = j - o by omega]
        by_cases hj : o ≤ j ∧ j < o + vs.length
        · rw [if_pos hj, if_pos (by omega)]
        · rw [if_neg hj, if_neg (by omega)]
    · cases h'
theorem foldSet (off : Nat) : ∀ (vs : List Value) (k : Nat) (cs : Array Value),
    ((vs.zipIdx k).foldl (fun cs (p : Value × Nat) => cs.setIfInBounds (off + p.2) p.1) cs).size = cs.size ∧
    ∀ j, j < cs.size → ((vs.zipIdx k).foldl (fun cs (p : Value × Nat) => cs.setIfInBounds (off + p.2) p.1) cs)[j]? = if off + k ≤ j ∧ j < off + k + vs.length then vs[j - (off + k)]? else cs[j]?
  | [], k, cs => ⟨rfl, fun j _ => by simp only [List.zipIdx_nil, List.foldl_nil]; rw [if_neg (by simp)]⟩
  | v :: vs, k, cs => by
    simp only [List.zipIdx_cons, List.foldl_cons]
    have ih := foldSet off vs (k + 1) (cs.setIfInBounds (off + k) v)
    refine ⟨by rw [ih.1]; simp, fun j hj => ?_⟩
    rw [ih.2 j (by simpa using hj)]
    by_cases h1 : off + (k + 1) ≤ j ∧ j < off + (k + 1) + vs.length
    · rw [if_pos h1, if_pos (by simp; omega), show j - (off + k) = (j - (off + (k + 1))) + 1 by omega, List.getElem?_cons_succ]
    · rw [if_neg h1]
      by_cases h2 : j = off + k
      · subst h2
        rw [if_pos (by simp), Nat.sub_self, List.getElem?_cons_zero]
        simp [hj]
      · rw [if_neg (by simp; omega), Array.getElem?_setIfInBounds_ne (by omega)]
section
variable {P : Program} {E : Env} {F : RO} {M : Mem} {c : Nat → Prop} {w : World} {t : T} {a : Act}
theorem fill_step {cs r : List V} {o : Nat} {vs : List V} (h : replL cs o vs = some r) :
    (((concs E vs).toArray).zipIdx.foldl (fun cs (p : Value × Nat) => cs.setIfInBounds (o + p.2) p.1) (concs E cs).toArray) = (concs E r).toArray := by
  obtain ⟨h1, h2, h3⟩ := replL_spec _ _ _ _ h
  have hz : ((concs E vs).toArray).zipIdx.foldl (fun cs (p : Value × Nat) => cs.setIfInBounds (o + p.2) p.1) (concs E cs).toArray =
      ((concs E vs).zipIdx 0).foldl (fun cs (p : Value × Nat) => cs.setIfInBounds (o + p.2) p.1) (concs E cs).toArray := by
    simp
  rw [hz]
  have hf := foldSet o (concs E vs) 0 (concs E cs).toArray
  apply Array.ext_getElem?
  intro j
  by_cases hj : j < cs.length
  · rw [hf.2 j (by simp [concs_map, hj])]
    simp only [List.getElem?_toArray, concs_map, List.getElem?_map, List.length_map, Nat.add_zero]
    rw [h3 j]
    by_cases hc : o ≤ j ∧ j < o + vs.length
    · rw [if_pos hc, if_pos hc]
    · rw [if_neg hc, if_neg hc]
  · rw [Array.getElem?_eq_none (by rw [hf.1]; simp [concs_map]; omega), Array.getElem?_eq_none (by simp [concs_map]; omega)]
theorem fill_run (h : Cx P E F M c w t a) {place : Nat → Option (Nat × Nat)} : ∀ {ps : List (Nat × Operand)} {qs : List (Nat × Nat × X)} {cs r : List V}, compParts place ps = some qs → fillParts t cs qs = some r → bds c cs →
    Instr.fill place (concs E cs).toArray (ps.map fun p => (p.1, a.eval p.2)) = some (concs E r).toArray ∧ bds c r
  | [], qs, cs, r, hc, hf, hb => by
    obtain rfl := Option.some.inj hc
    obtain rfl := Option.some.inj hf
    exact ⟨rfl, hb⟩
  | (i, y) :: ps, qs, cs, r, hc, hf, hb => by
    rw [compParts] at hc
    split at hc
    · rename_i o s x l h1 h2 h3
      obtain rfl := Option.some.inj hc
      rw [fillParts, beqN] at hf
      have e := h.ev h2
      by_cases hs : (flatten (x.ev t)).length = s
      · rw [decide_eq_true hs, cond_true] at hf
        split at hf
        · rename_i cs' hr
          obtain ⟨g1, g2, g3⟩ := replL_spec _ _ _ _ hr
          have hb' : bds c cs' := by
            refine (bds_iff c cs').2 fun v hv => ?_
            obtain ⟨j, hj⟩ := List.mem_iff_getElem?.1 hv
            rw [g3 j] at hj
            split at hj
            · exact bds_get (flatten_bd e.2) hj
            · exact bds_get hb hj
          have ih := fill_run h h3 hf hb'
          refine ⟨?_, ih.2⟩
          have hcells : (a.eval y).cells = (concs E (flatten (x.ev t))).toArray := by rw [e.1, flatten_cells]
          simp only [List.map_cons, Instr.fill, h1, hcells]
          have c1 : (concs E (flatten (x.ev t))).toArray.size = s := by simp [concs_map, hs]
          have c2 : ¬ (o + s > (concs E cs).toArray.size) := by simp [concs_map]; omega
          rw [c1]
          simp only [ne_eq, not_true_eq_false, decide_false, Bool.false_or, decide_eq_true_eq, c2, if_false]
          rw [fill_step hr]
          exact ih.1
        · cases hf
      · rw [decide_eq_false hs] at hf; cases hf
    · cases hc
theorem fieldSizes_run : ∀ {fs : List Field} {ps : List (Nat × Nat)}, fieldSizes P fs = some ps → (fs.mapM fun f => do pure (f.offset, ← Go.sizeOf f.type) : Sem (List (Nat × Nat))).run P w = .ok ps w
  | [], ps, h => by obtain rfl := Option.some.inj h; simp
  | f :: fs, ps, h => by
    rw [fieldSizes] at h
    split at h
    · rename_i s l h1 h2
      obtain rfl := Option.some.inj h
      simp only [List.mapM_cons, Sem.run_bind, run_sz h1, Result.andThen_ok, Sem.run_pure, fieldSizes_run h2]
    · cases h
theorem cellsOfV_eq (v : V) : cellsOfV v = flatten v := by cases v <;> rfl
theorem q_build (h : Cx P E F M c w t a) {o : Oper} {ty : TypeId} {parts : Array (Nat × Operand)} (hop : o.op = .build ty parts) {q : QO} (hc : compOp P o.op = some (.q q)) {x : V} (hx : (qop q F M t).val = some x) : QOk P E c w a o x := by
  rw [hop] at hc
  simp only [compOp] at hc
  have hparts : (parts.map fun (p : Nat × Operand) => (p.1, a.eval p.2)).toList = parts.toList.map fun p => (p.1, a.eval p.2) := by simp
  split at hc
  · rename_i z fs hz hu
    split at hc
    · rename_i ps hps
      obtain ⟨qs, hqs, e⟩ := Option.bind_eq_some_iff.1 hc
      obtain rfl : QO.bld (cellsOfV z) qs = q := by simpa [Ev.q] using e
      obtain ⟨r, hr, rfl⟩ := qg_val (show (qg (fillParts t (cellsOfV z) qs)).val = some x from hx)
      have hz' := zeroV_run (E := E) (c := c) (w := w) hz
      have hf := fill_run h hqs hr (by rw [cellsOfV_eq]; exact flatten_bd hz'.2)
      refine ⟨?_, hf.2⟩
      simp only [execOp, hop]
      refine val_run ?_
      have hm : (fs.mapM fun f => do pure (f.offset, ← Go.sizeOf f.type) : Sem (Array (Nat × Nat))).run P w = .ok ps.toArray w := by
        rw [Array.mapM_eq_mapM_toList]
        simp only [Sem.run_map, fieldSizes_run hps, Result.andThen_ok]
      have hcz : (conc E z).cells = (concs E (cellsOfV z)).toArray := by rw [flatten_cells, cellsOfV_eq]
      have hpl : (fun (i : Nat) => ps.toArray[i]?) = fun (i : Nat) => ps[i]? := by funext i; simp
      simp only [Instr.build, Sem.run_bind, hz'.1, Result.andThen_ok, run_und hu, hm, hparts, hcz, hpl, hf.1, Sem.run_pure, conc]
    · cases hc
  · rename_i z n el hz hu
    split at hc
    · rename_i s hs
      obtain ⟨qs, hqs, e⟩ := Option.bind_eq_some_iff.1 hc
      obtain rfl : QO.bld (cellsOfV z) qs = q := by simpa [Ev.q] using e
      obtain ⟨r, hr, rfl⟩ := qg_val (show (qg (fillParts t (cellsOfV z) qs)).val = some x from hx)
      have hz' := zeroV_run (E := E) (c := c) (w := w) hz
      have hf := fill_run h hqs hr (by rw [cellsOfV_eq]; exact flatten_bd hz'.2)
      refine ⟨?_, hf.2⟩
      simp only [execOp, hop]
      refine val_run ?_
      have hcz : (conc E z).cells = (concs E (cellsOfV z)).toArray := by rw [flatten_cells, cellsOfV_eq]
      simp only [Instr.build, Sem.run_bind, hz'.1, Result.andThen_ok, run_und hu, run_sz hs, hparts, hcz, hf.1, Sem.run_pure, conc]
    · cases hc
  · cases hc
end
end Go.Proofs.YtaogopbhjinmoaaGreatDoor.Ev
namespace Go.Proofs.YtaogopbhjinmoaaGreatDoor.Ev
open Go
section
variable {P : Program} {E : Env} {F : RO} {M : Mem} {c : Nat → Prop} {w : World} {t : T} {a : Act}
theorem shape_of (h : Cx P E F M c w t a) {b : Nat} (hp : plainBlk F M b = true) : ∃ ty n, w.shape? (E.ρ b) = some (ty, n) ∧ E.β b ≤ n ∧ (∀ o, E.β b ≤ o → w.frozen? ⟨E.ρ b, o, none⟩ = false) ∧ (look F M b).isSome := by
  unfold plainBlk at hp
  split at hp
  · rename_i ty n ex fz str d cs hl
    obtain ⟨arr, fr, ho, hr⟩ := h.cells hl
    rw [beqN] at hp
    simp only [Bool.and_eq_true, decide_eq_true_eq, Bool.not_eq_true'] at hp
    obtain ⟨⟨rfl, rfl⟩, _⟩ := hp
    have hle := hr.le
    refine ⟨ty, arr.size, by simp [World.shape?, ho], by omega, fun o hob => ?_, by rw [hl]; rfl⟩
    simp only [World.frozen?, ho]
    rw [Bool.and_eq_false_iff]
    simp only [decide_eq_false_iff_not]
    rcases hr.plain rfl with e | ⟨hz, e⟩ <;> omega
  · cases hp
theorem ptrEq_run (h : Cx P E F M c w t a) {b o b' o' : Nat} {r : Bool} (hr : ptrEq F M b o b' o' = some r) :
    (sameAddr ⟨E.ρ b, E.β b + o, none⟩ ⟨E.ρ b', E.β b' + o', none⟩).run P w = .ok r w := by
  unfold ptrEq at hr
  rw [beqN] at hr
  by_cases hb : b = b'
  · subst hb
    rw [decide_eq_true rfl, cond_true] at hr
    obtain rfl := Option.some.inj hr
    rw [beqN]
    by_cases ho : o = o'
    · subst ho; simp [sameAddr]
    · have : ¬ (E.β b + o = E.β b + o') := by omega
      simp [sameAddr, ho, this]
  · rw [decide_eq_false hb, cond_false] at hr
    by_cases hp : (plainBlk F M b && plainBlk F M b') = true
    · rw [hp, cond_true] at hr
      obtain rfl := Option.some.inj hr
      rw [Bool.and_eq_true] at hp
      obtain ⟨ty, n, hs, hn, hf, hl⟩ := shape_of h hp.1
      obtain ⟨ty', n', hs', hn', hf', hl'⟩ := shape_of h hp.2
      have hne : ¬ (E.ρ b = E.ρ b') := fun e => hb (h.rel.inj b b' hl hl' e)
      have f1 := hf (E.β b + o) (by omega)
      have f2 := hf' (E.β b' + o') (by omega)
      have f3 := hf n hn
      have f4 := hf' n' hn'
      simp [sameAddr, hne, f1, f2, noView, viewAt, hs, hs', mayBeOne, stringish, f3, f4]
    · rw [Bool.not_eq_true] at hp
      rw [hp] at hr; cases hr
inductive ShRel (P : Program) (ty : TypeId) : Sh → Prop
  | bool : P.underlying ty = some .bool → ShRel P ty .bool
  | int (k : IntKind) : P.underlying ty = some (.int k) → ShRel P ty .int
  | str : P.underlying ty = some .string → ShRel P ty .str
  | ptr (e s : Nat) : P.underlying ty = some (.pointer e) → szOf P e = some (s + 1) → ShRel P ty .ptr
  | slice (e : Nat) : P.underlying ty = some (.slice e) → ShRel P ty .slice
  | map (k e : Nat) : P.underlying ty = some (.map k e) → ShRel P ty .map
  | func (p r : Array TypeId) (v : Bool) : P.underlying ty = some (.func p r v) → ShRel P ty .func
  | iface (ms : Array (String × TypeId)) : P.underlying ty = some (.interface ms) → ShRel P ty .iface
theorem shOf1_rel {ty : TypeId} {sh : Sh} (h : shOf1 P ty = some sh) : ShRel P ty sh := by
  unfold shOf1 at h
  split at h
  · rename_i hu; obtain rfl := Option.some.inj h; exact .bool hu
  · rename_i hu; obtain rfl := Option.some.inj h; exact .int _ hu
  · rename_i hu; obtain rfl := Option.some.inj h; exact .str hu
  · rename_i e hu
    split at h
    · cases h
    · rename_i hs
      obtain rfl := Option.some.inj h
      cases hz : szOf P e with
      | none => rw [hz] at hs; simp at hs
      | some k => cases k with
        | zero => rw [hz] at hs; simp at hs
        | succ k => exact .ptr e k hu hz
  · rename_i hu; obtain rfl := Option.some.inj h; exact .slice _ hu
  · rename_i hu; obtain rfl := Option.some.inj h; exact .map _ _ hu
  · rename_i hu; obtain rfl := Option.some.inj h; exact .func _ _ _ hu
  · rename_i hu; obtain rfl := Option.some.inj h; exact .iface _ hu
  · cases h
theorem nilL_conc {v : V} {b : Bool} (h : nilL v = some b) : if b then conc E v = .slice none 0 0 else ∃ ad n k, conc E v = .slice (some ad) n k := by
  cases v <;> first | cases (show (none : Option Bool) = some b from h) | (obtain rfl := Option.some.inj h; first | rfl | exact ⟨_, _, _, rfl⟩)
theorem nilM_conc {v : V} {b : Bool} (h : nilM v = some b) : if b then conc E v = .map none else ∃ r, conc E v = .map (some r) := by
  cases v <;> first | cases (show (none : Option Bool) = some b from h) | (obtain rfl := Option.some.inj h; first | rfl | exact ⟨_, rfl⟩)
theorem nilF_conc {v : V} {b : Bool} (h : nilF v = some b) : if b then conc E v = .nilFunc else ∃ f l k, conc E v = .func f l k := by
  cases v <;> first | cases (show (none : Option Bool) = some b from h) | (obtain rfl := Option.some.inj h; first | rfl | exact ⟨_, _, _, rfl⟩)
theorem nilA_conc {v : V} {b : Bool} (h : nilA v = some b) : if b then v = .a0 else ∃ ty z, v = .a ty z := by
  cases v <;> first | cases (show (none : Option Bool) = some b from h) | (obtain rfl := Option.some.inj h; first | rfl | exact ⟨_, _, rfl⟩)
theorem nilEq_cases {lit : Bool} {p q : Option Bool} {r : Bool} (h : nilEq lit p q = some r) :
    (p = some true ∧ q = some true ∧ lit = true ∧ r = true) ∨ (p = some true ∧ q = some false ∧ r = false) ∨ (p = some false ∧ q = some true ∧ r = false) := by
  unfold nilEq at h
  split at h
  · cases lit with
    | false => cases h
    | true => exact .inl ⟨rfl, rfl, rfl, (Option.some.inj h).symm⟩
  · exact .inr (.inl ⟨rfl, rfl, (Option.some.inj h).symm⟩)
  · exact .inr (.inr ⟨rfl, rfl, (Option.some.inj h).symm⟩)
  · cases h
theorem eq1_run (h : Cx P E F M c w t a) {ty : TypeId} {sh : Sh} (hs : ShRel P ty sh) {lit : Bool} {x y : V} {r : Bool} (hr : eq1 F M sh lit x y = some r) (d : Nat) :
    (Op.equalIn (d + 1) ty (conc E x) (conc E y)).run P w = .ok r w := by
  cases hs with
  | bool hu =>
    have hr' : eqB x y = some r := hr
    unfold eqB at hr'
    split at hr'
    · obtain rfl := Option.some.inj hr'
      simp [Op.equalIn, run_und hu, conc]
    · cases hr'
  | int k hu =>
    have hr' : eqN x y = some r := hr
    unfold eqN at hr'
    split at hr'
    · rename_i k1 m k2 n
      rw [sameK_iff] at hr'
      by_cases hk : k1 = k2
      · rw [decide_eq_true hk, cond_true, eqI_iff] at hr'
        obtain rfl := Option.some.inj hr'
        simp [Op.equalIn, run_und hu, conc, hk]
        rw [Bool.eq_iff_iff]; simp
      · rw [decide_eq_false hk] at hr'; cases hr'
    · cases hr'
  | str hu =>
    have hr' : eqS x y = some r := hr
    unfold eqS at hr'
    split at hr'
    · obtain rfl := Option.some.inj hr'
      simp [Op.equalIn, run_und hu, conc, ba_beq, strEq_iff]
    · cases hr'
  | ptr e s hu hz =>
    have hr' : eqP F M x y = some r := hr
    unfold eqP at hr'
    split at hr'
    · obtain rfl := Option.some.inj hr'
      simp [Op.equalIn, run_und hu, conc]
    · obtain rfl := Option.some.inj hr'
      simp [Op.equalIn, run_und hu, conc]
    · obtain rfl := Option.some.inj hr'
      simp [Op.equalIn, run_und hu, conc]
    · have hp := ptrEq_run h hr'
      simp [Op.equalIn, run_und hu, conc, run_sz hz, hp]
    · cases hr'
  | slice e hu =>
    rcases nilEq_cases (show nilEq true (nilL x) (nilL y) = some r from hr) with ⟨h1, h2, _, rfl⟩ | ⟨h1, h2, rfl⟩ | ⟨h1, h2, rfl⟩
    · have e1 := nilL_conc (E := E) h1
      have e2 := nilL_conc (E := E) h2
      simp only [if_true] at e1 e2
      rw [e1, e2]; simp [Op.equalIn, run_und hu]
    · have e1 := nilL_conc (E := E) h1
      have e2 := nilL_conc (E := E) h2
      simp only [if_true, Bool.false_eq_true, if_false] at e1 e2
      obtain ⟨_, _, _, e2⟩ := e2
      rw [e1, e2]; simp [Op.equalIn, run_und hu]
    · have e1 := nilL_conc (E := E) h1
      have e2 := nilL_conc (E := E) h2
      simp only [if_true, Bool.false_eq_true, if_false] at e1 e2
      obtain ⟨_, _, _, e1⟩ := e1
      rw [e1, e2]; simp [Op.equalIn, run_und hu]
  | map k e hu =>
    rcases nilEq_cases (show nilEq true (nilM x) (nilM y) = some r from hr) with ⟨h1, h2, _, rfl⟩ | ⟨h1, h2, rfl⟩ | ⟨h1, h2, rfl⟩
    · have e1 := nilM_conc (E := E) h1
      have e2 := nilM_conc (E := E) h2
      simp only [if_true] at e1 e2
      rw [e1, e2]; simp [Op.equalIn, run_und hu]
    · have e1 := nilM_conc (E := E) h1
      have e2 := nilM_conc (E := E) h2
      simp only [if_true, Bool.false_eq_true, if_false] at e1 e2
      obtain ⟨_, e2⟩ := e2
      rw [e1, e2]; simp [Op.equalIn, run_und hu]
    · have e1 := nilM_conc (E := E) h1
      have e2 := nilM_conc (E := E) h2
      simp only [if_true, Bool.false_eq_true, if_false] at e1 e2
      obtain ⟨_, e1⟩ := e1
      rw [e1, e2]; simp [Op.equalIn, run_und hu]
  | func p r' v hu =>
    rcases nilEq_cases (show nilEq true (nilF x) (nilF y) = some r from hr) with ⟨h1, h2, _, rfl⟩ | ⟨h1, h2, rfl⟩ | ⟨h1, h2, rfl⟩
    · have e1 := nilF_conc (E := E) h1
      have e2 := nilF_conc (E := E) h2
      simp only [if_true] at e1 e2
      rw [e1, e2]; simp [Op.equalIn, run_und hu]
    · have e1 := nilF_conc (E := E) h1
      have e2 := nilF_conc (E := E) h2
      simp only [if_true, Bool.false_eq_true, if_false] at e1 e2
      obtain ⟨_, _, _, e2⟩ := e2
      rw [e1, e2]; simp [Op.equalIn, run_und hu]
    · have e1 := nilF_conc (E := E) h1
      have e2 := nilF_conc (E := E) h2
      simp only [if_true, Bool.false_eq_true, if_false] at e1 e2
      obtain ⟨_, _, _, e1⟩ := e1
      rw [e1, e2]; simp [Op.equalIn, run_und hu]
  | iface ms hu =>
    rcases nilEq_cases (show nilEq lit (nilA x) (nilA y) = some r from hr) with ⟨h1, h2, _, rfl⟩ | ⟨h1, h2, rfl⟩ | ⟨h1, h2, rfl⟩
    · have e1 := nilA_conc h1
      have e2 := nilA_conc h2
      simp only [if_true] at e1 e2
      rw [e1, e2]; simp [Op.equalIn, run_und hu, conc]
    · have e1 := nilA_conc h1
      have e2 := nilA_conc h2
      simp only [if_true, Bool.false_eq_true, if_false] at e1 e2
      obtain ⟨_, _, e2⟩ := e2
      rw [e1, e2]; simp [Op.equalIn, run_und hu, conc]
    · have e1 := nilA_conc h1
      have e2 := nilA_conc h2
      simp only [if_true, Bool.false_eq_true, if_false] at e1 e2
      obtain ⟨_, _, e1⟩ := e1
      rw [e1, e2]; simp [Op.equalIn, run_und hu, conc]
end
end Go.Proofs.YtaogopbhjinmoaaGreatDoor.Ev
namespace Go.Proofs.YtaogopbhjinmoaaGreatDoor.Ev
open Go
section
variable {P : Program} {E : Env} {F : RO} {M : Mem} {c : Nat → Prop} {w : World} {t : T} {a : Act}
theorem ShRel.noAgg {ty : TypeId} {sh : Sh} (h : ShRel P ty sh) : isAg P ty = some false := by
  cases h with
  | ptr e s hu _ => simp only [isAg, hu]
  | _ => rename_i hu; simp only [isAg, hu]
theorem eqAll_run (h : Cx P E F M c w t a) {xs ys : List V} : ∀ {fs : List Field} {ks : List (Nat × Sh)} {r : Bool}, shFields P fs = some ks → eqAll F M xs ys ks = some r → ∀ d, (Op.eqFields (d + 1) (concs E xs).toArray (concs E ys).toArray fs).run P w = .ok r w
  | [], ks, r, hs, hr, d => by
    obtain rfl := Option.some.inj hs
    obtain rfl := Option.some.inj hr
    rfl
  | f :: fs, ks, r, hs, hr, d => by
    rw [shFields] at hs
    split at hs
    · rename_i sh l h1 h2
      split at hs
      · rename_i hn
        obtain rfl := Option.some.inj hs
        have hsh := shOf1_rel h1
        rw [eqAll] at hr
        split at hr
        · rename_i x y hx hy
          rw [nth_eq] at hx hy
          have hag := hsh.noAgg
          have p1 := part_one (P := P) (w := w) (E := E) hag hx
          have p2 := part_one (P := P) (w := w) (E := E) hag hy
          split at hr
          · rename_i he
            have e1 := eq1_run h hsh he d
            simp only [Op.eqFields, hn, ne_eq, not_false_eq_true, if_true, Sem.run_bind, p1, p2, Result.andThen_ok, e1, Sem.run_ite, Bool.not_true, Bool.false_eq_true, if_false]
            exact eqAll_run h h2 hr d
          · rename_i hne
            have e1 := eq1_run h hsh hr d
            cases r with
            | true => exact absurd hr hne
            | false => simp only [Op.eqFields, hn, ne_eq, not_false_eq_true, if_true, Sem.run_bind, p1, p2, Result.andThen_ok, e1, Sem.run_ite, Bool.not_false, if_true, Sem.run_pure]
        · cases hr
      · cases hs
    · cases hs
theorem binOp_eql {ty : TypeId} {x y : Value} (h1 : ∀ k m k' n, ¬ (x = .int k m ∧ y = .int k' n)) (h2 : ∀ m n, ¬ (x = .string m ∧ y = .string n)) (h3 : ∀ k m, x ≠ .float k m) (h4 : ∀ k m n, x ≠ .complex k m n) :
    (binOp .eql ty x y) = (do pure (.bool (← Op.equal ty x y))) ∧ (binOp .neq ty x y) = (do pure (.bool (!(← Op.equal ty x y)))) := by
  cases x <;> first
    | exact absurd rfl (h3 _ _)
    | exact absurd rfl (h4 _ _ _)
    | exact ⟨rfl, rfl⟩
    | (cases y <;> first
        | exact (h1 _ _ _ _ ⟨rfl, rfl⟩).elim
        | exact (h2 _ _ ⟨rfl, rfl⟩).elim
        | exact ⟨rfl, rfl⟩)
def Odd : Value → Prop
  | .int _ _ | .string _ | .float _ _ | .complex _ _ _ => False
  | _ => True
theorem eq_run {ty : TypeId} {A B : Operand} {x y : Value} {r : Bool} (hodd : Odd x) (hg : ∀ op, (eqGuard op ty A B x y).run P w = .ok () w) (he : (Op.equalIn 10000 ty x y).run P w = .ok r w) (neg : Bool) :
    (eqGuard (if neg then .neq else .eql) ty A B x y >>= fun _ => binOp (if neg then .neq else .eql) ty x y).run P w = .ok (.bool (if neg then !r else r)) w := by
  have hb := binOp_eql (ty := ty) (x := x) (y := y) (fun k m k' n e => by rw [e.1] at hodd; exact hodd) (fun m n e => by rw [e.1] at hodd; exact hodd) (fun k m e => by rw [e] at hodd; exact hodd) (fun k m n e => by rw [e] at hodd; exact hodd)
  have he' : (Op.equal ty x y).run P w = .ok r w := he
  simp only [Sem.run_bind, hg, Result.andThen_ok]
  cases neg with
  | true => simp [hb.2, he']
  | false => simp [hb.1, he']
theorem eqGuard_other {op : BinOp} {ty : TypeId} {A B : Operand} {x y : Value} (h1 : ¬ (x = .nilIface ∧ y = .nilIface)) (h2 : ∀ l m, ¬ (x = .agg l ∧ y = .agg m)) : (eqGuard op ty A B x y).run P w = .ok () w := by
  unfold eqGuard
  split
  all_goals simp only [Bool.not_true, Bool.false_eq_true, if_false, Bool.not_false, if_true]
  all_goals try rfl
  all_goals
    split
    · exact absurd ⟨rfl, rfl⟩ h1
    · exact absurd ⟨rfl, rfl⟩ (h2 _ _)
    · rfl
theorem eqGuard_nil {op : BinOp} {ty : TypeId} {A B : Operand} (h : (isConstO A || isConstO B) = true) : (eqGuard op ty A B .nilIface .nilIface).run P w = .ok () w := by
  cases A <;> cases B <;> first | (simp [isConstO] at h; done) | (cases op <;> simp [eqGuard])
theorem memN_eq (k : Nat) : ∀ l : List Nat, memN k l = l.contains k
  | [] => rfl
  | h :: r => by
    have : memN k (h :: r) = (bif Nat.beq h k then true else memN k r) := rfl
    rw [this, beqN, memN_eq k r, List.contains_cons]
    by_cases e : h = k
    · subst e; simp
    · rw [decide_eq_false e, cond_false, show (k == h) = false by simp; exact fun e' => e e'.symm]; rfl
theorem intTy_of {L : List Nat} (hL : L = intTys P) {t : Nat} (h : memN t L = true) : ∃ i k, P.info? t = some i ∧ i.comparable = true ∧ P.underlying t = some (.int k) := by
  rw [memN_eq, List.contains_iff_mem, hL] at h
  unfold intTys at h
  rw [List.mem_filter] at h
  have h2 := h.2
  unfold intTy at h2
  split at h2
  · rename_i i k h3 h4
    exact ⟨i, k, h3, h2, h4⟩
  · cases h2
theorem eqIf_run {ty : TypeId} {ms : Array (String × TypeId)} (hu : P.underlying ty = some (.interface ms)) {x y : V} {r : Bool} (hr : eqIf (intTys P) x y = some r) (d : Nat) :
    (Op.equalIn (d + 2) ty (conc E x) (conc E y)).run P w = .ok r w := by
  unfold eqIf at hr
  split at hr
  · rename_i t1 v1 t2 v2
    rw [beqN] at hr
    by_cases ht : t1 = t2
    · subst ht
      rw [decide_eq_true rfl, cond_true] at hr
      by_cases hm : memN t1 (intTys P) = true
      · rw [hm, cond_true] at hr
        obtain ⟨i, k, h1, h2, h3⟩ := intTy_of rfl hm
        unfold eqN at hr
        split at hr
        · rename_i k1 m k2 n
          rw [sameK_iff] at hr
          by_cases hk : k1 = k2
          · rw [decide_eq_true hk, cond_true, eqI_iff] at hr
            obtain rfl := Option.some.inj hr
            subst hk
            have inner : (Op.equalIn (d + 1) t1 (.int k1 m) (.int k1 n)).run P w = .ok (m == n) w := by
              simp [Op.equalIn, run_und h3]
            have hti : (typeInfo t1).run P w = .ok i w := by simp [typeInfo, h1]
            have hmn : decide (m = n) = (m == n) := by rw [Bool.eq_iff_iff]; simp
            rw [hmn]
            simp only [conc]
            rw [Op.equalIn.eq_2]
            simp only [Sem.run_bind, run_und hu, Result.andThen_ok, ne_eq, not_true_eq_false, if_false, hti, h2, Bool.not_true, Bool.false_eq_true, inner]
          · rw [decide_eq_false hk] at hr; cases hr
        · cases hr
      · rw [Bool.not_eq_true] at hm
        rw [hm] at hr; cases hr
    · rw [decide_eq_false ht, cond_false] at hr
      obtain rfl := Option.some.inj hr
      simp [Op.equalIn, run_und hu, conc, ht]
  · rcases nilEq_cases hr with ⟨_, _, h3, _⟩ | ⟨h1, h2, rfl⟩ | ⟨h1, h2, rfl⟩
    · cases h3
    · have e1 := nilA_conc h1
      have e2 := nilA_conc h2
      simp only [if_true, Bool.false_eq_true, if_false] at e1 e2
      obtain ⟨_, _, e2⟩ := e2
      rw [e1, e2]; simp [Op.equalIn, run_und hu, conc]
    · have e1 := nilA_conc h1
      have e2 := nilA_conc h2
      simp only [if_true, Bool.false_eq_true, if_false] at e1 e2
      obtain ⟨_, _, e1⟩ := e1
      rw [e1, e2]; simp [Op.equalIn, run_und hu, conc]
theorem eqIf_kind {L : List Nat} {x y : V} {r : Bool} (hr : eqIf L x y = some r) : (x = .a0 ∨ ∃ t v, x = .a t v) ∧ ¬ (x = .a0 ∧ y = .a0) := by
  unfold eqIf at hr
  split at hr
  · exact ⟨.inr ⟨_, _, rfl⟩, fun h => by cases h.1⟩
  · rcases nilEq_cases hr with ⟨_, _, h3, _⟩ | ⟨h1, h2, rfl⟩ | ⟨h1, h2, rfl⟩
    · cases h3
    · have e1 := nilA_conc h1
      have e2 := nilA_conc h2
      simp only [if_true, Bool.false_eq_true, if_false] at e1 e2
      obtain ⟨_, _, e2⟩ := e2
      exact ⟨.inl e1, fun h => by rw [e2] at h; cases h.2⟩
    · have e1 := nilA_conc h1
      simp only [Bool.false_eq_true, if_false] at e1
      obtain ⟨_, _, e1⟩ := e1
      exact ⟨.inr ⟨_, _, e1⟩, fun h => by rw [e1] at h; cases h.1⟩
theorem eqIf_kind2 {L : List Nat} {x y : V} {r : Bool} (hr : eqIf L x y = some r) : y = .a0 ∨ ∃ t v, y = .a t v := by
  unfold eqIf at hr
  split at hr
  · exact .inr ⟨_, _, rfl⟩
  · rcases nilEq_cases hr with ⟨_, _, h3, _⟩ | ⟨h1, h2, rfl⟩ | ⟨h1, h2, rfl⟩
    · cases h3
    · have e2 := nilA_conc h2
      simp only [Bool.false_eq_true, if_false] at e2
      exact .inr e2
    · have e2 := nilA_conc h2
      simp only [if_true] at e2
      exact .inl e2
theorem ifSh_cases (P : Program) (lit : Bool) (sh : Sh) : ifSh P lit sh = sh ∨ (sh = .iface ∧ lit = false ∧ ifSh P lit sh = .ifs (intTys P)) := by
  unfold ifSh
  split
  · exact .inr ⟨rfl, rfl, rfl⟩
  · exact .inl rfl
theorem q_eq_ok (h : Cx P E F M c w t a) {o : Oper} {op : BinOp} {ty ty' : TypeId} {y z : Operand} (neg : Bool) (hop : o.op = .binOp (if neg then .neq else .eql) ty y z ty') {sh : Sh} (hsh : shOf P ty = some sh) {d : TypeDesc} (hu : P.underlying ty = some d) (hd1 : ∀ k, d ≠ .int k) (hd2 : d ≠ .string)
    {xa xb : X} (h1 : compX y = some xa) (h2 : compX z = some xb) {x : V} (hx : (qop (.eq neg (ifSh P (isConstO y || isConstO z) sh) (isConstO y || isConstO z) xa xb) F M t).val = some x) : QOk P E c w a o x := by
  have e1 := h.ev h1
  have e2 := h.ev h2
  have hx' : (q_eqr neg (eqV F M (ifSh P (isConstO y || isConstO z) sh) (isConstO y || isConstO z) (xa.ev t) (xb.ev t))).val = some x := hx
  unfold q_eqr at hx'
  split at hx'
  · rename_i r hr
    obtain rfl := cmpB hx'
    refine ⟨?_, trivial⟩
    have fin : ∀ (hodd : Odd (conc E (xa.ev t))), (∀ op, (eqGuard op ty y z (conc E (xa.ev t)) (conc E (xb.ev t))).run P w = .ok () w) → (Op.equalIn 10000 ty (conc E (xa.ev t)) (conc E (xb.ev t))).run P w = .ok r w →
        (execOp a.eval o).run P w = .ok (.value (conc E (.b (bif neg then !r else r)))) w := by
      intro hodd hg he
      simp only [execOp, hop]
      refine val_run ?_
      rw [e1.1, e2.1, eq_run hodd hg he neg]
      cases neg <;> rfl
    rcases ifSh_cases P (isConstO y || isConstO z) sh with hif | ⟨rfl, hlit, hif⟩
    rotate_left
    · rw [hif] at hr
      have hr' : eqIf (intTys P) (xa.ev t) (xb.ev t) = some r := hr
      have hui : ∃ ms, P.underlying ty = some (.interface ms) := by
        unfold shOf at hsh
        split at hsh
        · split at hsh
          · cases hsh
          · obtain ⟨_, _, hh⟩ := Option.map_eq_some_iff.1 hsh; cases hh
        · have := shOf1_rel hsh
          cases this with
          | iface ms hu' => exact ⟨ms, hu'⟩
      obtain ⟨ms, hui⟩ := hui
      obtain ⟨k1, k2⟩ := eqIf_kind hr'
      refine fin ?_ (fun op => ?_) (eqIf_run hui hr' 9998)
      · rcases k1 with e | ⟨_, _, e⟩ <;> (rw [e]; trivial)
      · refine eqGuard_other ?_ ?_
        · rintro ⟨g1, g2⟩
          refine k2 ⟨?_, ?_⟩
          · rcases k1 with e | ⟨_, _, e⟩
            · exact e
            · rw [e] at g1; cases g1
          · rcases eqIf_kind2 hr' with e | ⟨_, _, e⟩
            · exact e
            · rw [e] at g2; cases g2
        · rintro l m ⟨g1, g2⟩
          rcases k1 with e | ⟨_, _, e⟩ <;> (rw [e] at g1; cases g1)
    rw [hif] at hr
    unfold shOf at hsh
    split at hsh
    · rename_i fs hus
      split at hsh
      · cases hsh
      · rename_i hcond
        simp only [Bool.or_eq_true, not_or, Bool.not_eq_true] at hcond
        obtain ⟨ks, hks, rfl⟩ := Option.map_eq_some_iff.1 hsh
        have hr' : eqAgg F M ks (xa.ev t) (xb.ev t) = some r := hr
        unfold eqAgg at hr'
        split at hr'
        · rename_i xs ys hvx hvy
          have hf : P.fieldsOf ty = fs := by simp [Program.fieldsOf, hus]
          refine fin (by rw [hvx]; trivial) (fun op => ?_) ?_
          · rw [hvx, hvy]; exact run_eqGuard_agg w op ty y z _ _ hcond.2
          · rw [hvx, hvy]
            simp only [conc]
            rw [run_equalIn_struct (P := P) w 9999 ty _ _ (by rw [hf]; exact hus) hcond.1, hf]
            exact eqAll_run h hks hr' 9998
        · cases hr'
    · rename_i hns
      have hrel := shOf1_rel hsh
      have hr' : eq1 F M sh (isConstO y || isConstO z) (xa.ev t) (xb.ev t) = some r := by
        cases hrel <;> exact hr
      have he := eq1_run h hrel hr' 9999
      cases hrel with
      | int k hu' => rw [hu] at hu'; exact absurd (Option.some.inj hu') (hd1 k)
      | str hu' => rw [hu] at hu'; exact absurd (Option.some.inj hu') hd2
      | bool hu' =>
        have hq : eqB (xa.ev t) (xb.ev t) = some r := hr'
        unfold eqB at hq
        split at hq
        · rename_i p q hvx hvy
          refine fin (by rw [hvx]; trivial) (fun op => ?_) he
          rw [hvx, hvy]; exact eqGuard_other (by simp [conc]) (by simp [conc])
        · cases hq
      | ptr el s hu' hz =>
        have hq : eqP F M (xa.ev t) (xb.ev t) = some r := hr'
        unfold eqP at hq
        split at hq
        · rename_i hvx hvy
          refine fin (by rw [hvx]; trivial) (fun op => ?_) he
          rw [hvx, hvy]; exact eqGuard_other (by simp [conc]) (by simp [conc])
        · rename_i hvx hvy
          refine fin (by rw [hvx]; trivial) (fun op => ?_) he
          rw [hvx, hvy]; exact eqGuard_other (by simp [conc]) (by simp [conc])
        · rename_i hvx hvy
          refine fin (by rw [hvx]; trivial) (fun op => ?_) he
          rw [hvx, hvy]; exact eqGuard_other (by simp [conc]) (by simp [conc])
        · rename_i hvx hvy
          refine fin (by rw [hvx]; trivial) (fun op => ?_) he
          rw [hvx, hvy]; exact eqGuard_other (by simp [conc]) (by simp [conc])
        · cases hq
      | slice el hu' =>
        have key : ∀ b, nilL (xa.ev t) = some b → ∃ ad n k, conc E (xa.ev t) = .slice ad n k := by
          intro b hb
          have := nilL_conc (E := E) hb
          cases b with
          | true => simp only [if_true] at this; exact ⟨_, _, _, this⟩
          | false => simp only [Bool.false_eq_true, if_false] at this; obtain ⟨ad, n, k, e⟩ := this; exact ⟨_, _, _, e⟩
        obtain ⟨ad, n, k, e⟩ : ∃ ad n k, conc E (xa.ev t) = .slice ad n k := by
          rcases nilEq_cases (show nilEq true (nilL (xa.ev t)) (nilL (xb.ev t)) = some r from hr') with ⟨g, _⟩ | ⟨g, _⟩ | ⟨g, _⟩ <;> exact key _ g
        refine fin (by rw [e]; trivial) (fun op => ?_) he
        rw [e]; exact eqGuard_other (by simp) (by simp)
      | map kk el hu' =>
        have key : ∀ b, nilM (xa.ev t) = some b → ∃ r, conc E (xa.ev t) = .map r := by
          intro b hb
          have := nilM_conc (E := E) hb
          cases b with
          | true => simp only [if_true] at this; exact ⟨_, this⟩
          | false => simp only [Bool.false_eq_true, if_false] at this; obtain ⟨r, e⟩ := this; exact ⟨_, e⟩
        obtain ⟨r', e⟩ : ∃ r, conc E (xa.ev t) = .map r := by
          rcases nilEq_cases (show nilEq true (nilM (xa.ev t)) (nilM (xb.ev t)) = some r from hr') with ⟨g, _⟩ | ⟨g, _⟩ | ⟨g, _⟩ <;> exact key _ g
        refine fin (by rw [e]; trivial) (fun op => ?_) he
        rw [e]; exact eqGuard_other (by simp) (by simp)
      | func p rr v hu' =>
        have key : ∀ b, nilF (xa.ev t) = some b → conc E (xa.ev t) = .nilFunc ∨ ∃ f l k, conc E (xa.ev t) = .func f l k := by
          intro b hb
          have := nilF_conc (E := E) hb
          cases b with
          | true => simp only [if_true] at this; exact .inl this
          | false => simp only [Bool.false_eq_true, if_false] at this; exact .inr this
        have e : conc E (xa.ev t) = .nilFunc ∨ ∃ f l k, conc E (xa.ev t) = .func f l k := by
          rcases nilEq_cases (show nilEq true (nilF (xa.ev t)) (nilF (xb.ev t)) = some r from hr') with ⟨g, _⟩ | ⟨g, _⟩ | ⟨g, _⟩ <;> exact key _ g
        rcases e with e | ⟨f, l, k, e⟩
        · refine fin (by rw [e]; trivial) (fun op => ?_) he
          rw [e]; exact eqGuard_other (by simp) (by simp)
        · refine fin (by rw [e]; trivial) (fun op => ?_) he
          rw [e]; exact eqGuard_other (by simp) (by simp)
      | iface ms hu' =>
        rcases nilEq_cases (show nilEq (isConstO y || isConstO z) (nilA (xa.ev t)) (nilA (xb.ev t)) = some r from hr') with ⟨g1, g2, hlit, _⟩ | ⟨g1, g2, _⟩ | ⟨g1, g2, _⟩
        · have a1 := nilA_conc g1
          have a2 := nilA_conc g2
          simp only [if_true] at a1 a2
          refine fin (by rw [a1]; trivial) (fun op => ?_) he
          rw [a1, a2]; exact eqGuard_nil hlit
        · have a1 := nilA_conc g1
          have a2 := nilA_conc g2
          simp only [if_true, Bool.false_eq_true, if_false] at a1 a2
          obtain ⟨_, _, a2⟩ := a2
          refine fin (by rw [a1]; trivial) (fun op => ?_) he
          rw [a1, a2]; exact eqGuard_other (by simp [conc]) (by simp [conc])
        · have a1 := nilA_conc g1
          have a2 := nilA_conc g2
          simp only [if_true, Bool.false_eq_true, if_false] at a1 a2
          obtain ⟨_, _, a1⟩ := a1
          refine fin (by rw [a1]; trivial) (fun op => ?_) he
          rw [a1, a2]; exact eqGuard_other (by simp [conc]) (by simp [conc])
  · cases hx'
theorem q_binOp (h : Cx P E F M c w t a) {o : Oper} {op : BinOp} {ty ty' : TypeId} {y z : Operand} (hop : o.op = .binOp op ty y z ty') {q : QO} (hc : compOp P o.op = some (.q q)) {x : V} (hx : (qop q F M t).val = some x) : QOk P E c w a o x := by
  rw [hop] at hc
  simp only [compOp] at hc
  have num : ∀ xa xb, compX y = some xa → compX z = some xb → QO.bi op xa xb = q → QOk P E c w a o x := by
    intro xa xb h1 h2 hq
    subst hq
    have e1 := h.ev h1
    have e2 := h.ev h2
    have hb := bi_run (P := P) (E := E) (c := c) (w := w) op ty (xv := xa.ev t) (yv := xb.ev t) (v := x) hx y z
    refine ⟨?_, hb.2⟩
    simp only [execOp, hop]
    refine val_run ?_
    rw [e1.1, e2.1]
    exact hb.1
  split at hc
  · rename_i k xa xb hu h1 h2
    exact num xa xb h1 h2 (by simpa [Ev.q] using hc)
  · rename_i xa xb hu h1 h2
    exact num xa xb h1 h2 (by simpa [Ev.q] using hc)
  · rename_i d xa xb hn1 hn2 hu h1 h2
    split at hc
    · obtain ⟨sh, hsh, e⟩ := Option.bind_eq_some_iff.1 hc
      obtain rfl : QO.eq false (ifSh P (isConstO y || isConstO z) sh) (isConstO y || isConstO z) xa xb = q := by simpa [Ev.q] using e
      exact q_eq_ok h (op := .eql) false hop hsh hu (fun k e => hn1 k e) (fun e => hn2 e) h1 h2 hx
    · obtain ⟨sh, hsh, e⟩ := Option.bind_eq_some_iff.1 hc
      obtain rfl : QO.eq true (ifSh P (isConstO y || isConstO z) sh) (isConstO y || isConstO z) xa xb = q := by simpa [Ev.q] using e
      exact q_eq_ok h (op := .neq) true hop hsh hu (fun k e => hn1 k e) (fun e => hn2 e) h1 h2 hx
    · cases hc
  · cases hc
end
end Go.Proofs.YtaogopbhjinmoaaGreatDoor.Ev
namespace Go.Proofs.YtaogopbhjinmoaaGreatDoor.Ev
open Go
theorem arr_of_list {α : Type} {x : Array α} {l : List α} (h : x.toList = l) : x = l.toArray := by
  rw [← h]
section
variable {P : Program} {E : Env} {F : RO} {M : Mem} {c : Nat → Prop} {w : World} {t : T} {a : Act}
theorem exec_builtin {o : Oper} {cl : Call} {b : Builtin} (hop : o.op = .call cl) (hb : cl.callee = .builtin b) {l : List Operand} (hl : cl.args.toList = l) {r : Result Next}
    (h : (builtin b cl.argTypes o.type (cl.args.map fun | .const _ => true | _ => false) (l.map a.eval).toArray).run P w = r) : (execOp a.eval o).run P w = r := by
  have hm : cl.args.map a.eval = (l.map a.eval).toArray := by rw [arr_of_list hl]; simp
  simp only [execOp, hop, resolve, hb, hm, Sem.run_bind, Sem.run_pure, Result.andThen_ok, invoke]
  exact h
theorem lenL_conc {v : V} {n : Nat} (h : lenL v = some n) : ∃ ad k, conc E v = .slice ad n k := by
  cases v <;> first | cases (show (none : Option Nat) = some n from h) | (obtain rfl := Option.some.inj h; exact ⟨_, _, rfl⟩)
theorem minAll_run {mx : Bool} (h : Cx P E F M c w t a) : ∀ {os : List Operand} {xs : List X} {v x : V}, compXs os = some xs → minAll mx t v xs = some x → bd c v →
    ((os.map a.eval).foldlM (if mx then Builtin.max2 else Builtin.min2) (conc E v)).run P w = .ok (conc E x) w ∧ bd c x
  | [], xs, v, x, hc, hm, hb => by
    obtain rfl := Option.some.inj hc
    obtain rfl := Option.some.inj hm
    exact ⟨rfl, hb⟩
  | o :: os, xs, v, x, hc, hm, hb => by
    rw [compXs] at hc
    split at hc
    · rename_i z l h1 h2
      obtain rfl := Option.some.inj hc
      rw [minAll] at hm
      split at hm
      · rename_i v' hv'
        have e := h.ev h1
        unfold minV at hv'
        split at hv'
        · rename_i k m k' n hy
          rw [fI_eq] at hv'
          obtain rfl := Option.some.inj hv'
          have ih := minAll_run h h2 hm trivial
          refine ⟨?_, ih.2⟩
          rw [hy] at e
          rw [List.map_cons, List.foldlM_cons, Sem.run_bind, e.1]
          have hstep : ((if mx then Builtin.max2 else Builtin.min2) (conc E (.i k m)) (conc E (.i k' n))).run P w = .ok (conc E (.i k (bif ltI (bif mx then m else n) (bif mx then n else m) then n else m))) w := by
            cases mx with
            | true =>
              simp only [if_true, conc, Builtin.max2, Sem.run_pure, cond_true, ltI_iff, cond_eq_ite, decide_eq_true_eq]
            | false =>
              simp only [Bool.false_eq_true, if_false, conc, Builtin.min2, Sem.run_pure, cond_false, ltI_iff, cond_eq_ite, decide_eq_true_eq]
          rw [hstep]
          exact ih.1
        · cases hv'
      · cases hm
    · cases hc
theorem sd_none {ats : Array TypeId} {ty n k : Nat} : (Builtin.unsafeSliceData_ ats ty #[.slice none n k]).run P w = .ok (.pointer none) w := rfl
theorem sd_some {ats : Array TypeId} {ty n k : Nat} {ad : Addr} (hk : k ≠ 0) : (Builtin.unsafeSliceData_ ats ty #[.slice (some ad) n k]).run P w = .ok (.pointer (some ad)) w := by
  change (if k ≠ 0 then (pure (.pointer (some ad)) : Sem Value) else _).run P w = _
  rw [if_pos hk]; rfl
theorem q_builtin (h : Cx P E F M c w t a) {o : Oper} {cl : Call} {b : Builtin} (hop : o.op = .call cl) (hb : cl.callee = .builtin b) {q : QO} (hc : compBuiltin P b cl.args.toList cl.argTypes.toList = some (.q q)) {x : V} (hx : (qop q F M t).val = some x) : QOk P E c w a o x := by
  unfold compBuiltin at hc
  split at hc
  ·
    rename_i y ty hargs htys
    have hat : cl.argTypes[0]? = some ty := by rw [arr_of_list htys]; rfl
    split at hc
    · rename_i z hu hz
      obtain rfl : QO.ln .str z = q := by simpa [Ev.q] using hc
      obtain ⟨n, s, hv, hg⟩ := onS_val (show (onS (z.ev t) QR.f fun n _ => QR.v (.i .i64 (.ofNat n))).val = some x from hx)
      obtain rfl := Option.some.inj hg
      have e := h.ev hz
      rw [hv] at e
      refine ⟨exec_builtin hop hb hargs ?_, trivial⟩
      simp only [builtin]
      refine val_run ?_
      simp [Builtin.len_, hat, e.1, run_und hu, conc, ba_size, goInt]
    · rename_i el z hu hz
      obtain rfl : QO.ln .slice z = q := by simpa [Ev.q] using hc
      have hx' : (q_ln1 (lenL (z.ev t))).val = some x := hx
      cases hl : lenL (z.ev t) with
      | none => rw [hl] at hx'; cases (show (none : Option V) = some x from hx')
      | some n =>
        rw [hl] at hx'
        obtain rfl := Option.some.inj hx'
        obtain ⟨ad, k, hcv⟩ := lenL_conc (E := E) hl
        have e := h.ev hz
        rw [hcv] at e
        refine ⟨exec_builtin hop hb hargs ?_, trivial⟩
        simp only [builtin]
        refine val_run ?_
        simp [Builtin.len_, hat, e.1, run_und hu, conc, goInt]
    · rename_i kt el z hu hz
      obtain rfl : QO.ln .map z = q := by simpa [Ev.q] using hc
      have e := h.ev hz
      have hx' : (ln_m F M (z.ev t)).val = some x := hx
      unfold ln_m at hx'
      split at hx'
      · rename_i hv
        obtain rfl := Option.some.inj hx'
        rw [hv] at e
        refine ⟨exec_builtin hop hb hargs ?_, trivial⟩
        simp only [builtin]
        refine val_run ?_
        simp [Builtin.len_, hat, e.1, run_und hu, conc, goInt]
      · rename_i b' hv
        obtain ⟨es, k, hl, hg⟩ := asMap_val hx'
        rw [fN_eq] at hg
        obtain rfl := Option.some.inj hg
        obtain ⟨ho, _⟩ := h.map hl
        rw [hv] at e
        refine ⟨exec_builtin hop hb hargs ?_, trivial⟩
        simp only [builtin]
        refine val_run ?_
        simp [Builtin.len_, hat, e.1, run_und hu, conc, goInt, run_getObj_map ho]
      · cases hx'
    · rename_i n el z hu hz
      obtain rfl : QO.lnc n = q := by simpa [Ev.q] using hc
      obtain rfl := Option.some.inj hx
      refine ⟨exec_builtin hop hb hargs ?_, trivial⟩
      simp only [builtin]
      refine val_run ?_
      simp [Builtin.len_, hat, run_und hu, conc, goInt]
    · rename_i ar z hu hz
      split at hc
      · rename_i n el hua
        obtain rfl : QO.lnc n = q := by simpa [Ev.q] using hc
        obtain rfl := Option.some.inj hx
        refine ⟨exec_builtin hop hb hargs ?_, trivial⟩
        simp only [builtin]
        refine val_run ?_
        simp [Builtin.len_, hat, run_und hu, run_und hua, conc, goInt]
      · cases hc
    · cases hc
  ·
    rename_i y ty hargs htys
    have hat : cl.argTypes[0]? = some ty := by rw [arr_of_list htys]; rfl
    split at hc
    · rename_i el z hu hz
      obtain rfl : QO.cp z = q := by simpa [Ev.q] using hc
      have e := h.ev hz
      have hx' : (q_cp z F M t).val = some x := hx
      unfold q_cp at hx'
      split at hx'
      · rename_i hv
        obtain rfl := Option.some.inj hx'
        rw [hv] at e
        refine ⟨exec_builtin hop hb hargs ?_, trivial⟩
        simp only [builtin]
        refine val_run ?_
        simp [Builtin.cap_, hat, e.1, run_und hu, conc, goInt]
      · rename_i b' off n k hv
        obtain rfl := Option.some.inj hx'
        rw [hv] at e
        refine ⟨exec_builtin hop hb hargs ?_, trivial⟩
        simp only [builtin]
        refine val_run ?_
        simp [Builtin.cap_, hat, e.1, run_und hu, conc, goInt]
      · cases hx'
    · cases hc
  ·
    split at hc
    · split at hc
      · split at hc
        · split at hc
          · split at hc <;> cases hc
          · cases hc
        · split at hc <;> cases hc
      · cases hc
    · cases hc
  · split at hc
    · split at hc
      · split at hc <;> cases hc
      · cases hc
    · cases hc
  ·
    split at hc
    · split at hc
      · split at hc <;> cases hc
      · cases hc
    · cases hc
  ·
    rename_i _ y ys hargs
    split at hc
    · rename_i z zs hz hzs
      obtain rfl : QO.mn false z zs = q := by simpa [Ev.q] using hc
      have hm := qr_val (show (qr (minAll false t (z.ev t) zs)).val = some x from hx)
      have e := h.ev hz
      have hr := minAll_run h hzs hm e.2
      refine ⟨exec_builtin hop hb hargs ?_, hr.2⟩
      simp only [builtin]
      refine val_run ?_
      simp only [Builtin.min_, List.map_cons, List.toList_toArray, e.1]
      simpa using hr.1
    · cases hc
  ·
    rename_i _ y ys hargs
    split at hc
    · rename_i z zs hz hzs
      obtain rfl : QO.mn true z zs = q := by simpa [Ev.q] using hc
      have hm := qr_val (show (qr (minAll true t (z.ev t) zs)).val = some x from hx)
      have e := h.ev hz
      have hr := minAll_run h hzs hm e.2
      refine ⟨exec_builtin hop hb hargs ?_, hr.2⟩
      simp only [builtin]
      refine val_run ?_
      simp only [Builtin.max_, List.map_cons, List.toList_toArray, e.1]
      simpa using hr.1
    · cases hc
  ·
    split at hc
    · obtain ⟨sh, _, e⟩ := Option.map_eq_some_iff.1 hc
      cases e
    · cases hc
  ·
    split at hc
    · split at hc <;> cases hc
    · cases hc
  ·
    rename_i _ y hargs
    obtain ⟨z, hz, rfl⟩ := compX_bind (f := fun x => .sd x) hc
    have e := h.ev hz
    have hx' : (q_sd z F M t).val = some x := hx
    unfold q_sd at hx'
    split at hx'
    · rename_i hv
      obtain rfl := Option.some.inj hx'
      rw [hv] at e
      refine ⟨exec_builtin hop hb hargs ?_, trivial⟩
      simp only [builtin]
      refine val_run ?_
      simp only [List.map_cons, List.map_nil, e.1, conc]
      exact sd_none
    · rename_i b' off n k hv
      rw [beqN] at hx'
      by_cases hk : k = 0
      · rw [decide_eq_true hk] at hx'; cases (show (none : Option V) = some x from hx')
      · rw [decide_eq_false hk] at hx'
        obtain rfl := Option.some.inj hx'
        rw [hv] at e
        refine ⟨exec_builtin hop hb hargs ?_, e.2⟩
        simp only [builtin]
        refine val_run ?_
        simp only [List.map_cons, List.map_nil, e.1, conc]
        exact sd_some hk
    · rename_i b' off n el kn hv
      rw [bltN] at hx'
      by_cases hk : el < kn
      · rw [decide_eq_true hk] at hx'
        obtain rfl := Option.some.inj hx'
        rw [hv] at e
        refine ⟨exec_builtin hop hb hargs ?_, e.2⟩
        have hne : ¬ (kn - el + E.κ b' = 0) := by omega
        simp only [builtin]
        refine val_run ?_
        simp only [List.map_cons, List.map_nil, e.1, conc]
        exact sd_some hne
      · rw [decide_eq_false hk] at hx'; cases (show (none : Option V) = some x from hx')
    · cases hx'
  · split at hc
    · obtain ⟨z, _, e⟩ := Option.map_eq_some_iff.1 hc; cases e
    · cases hc
  · cases hc
end
end Go.Proofs.YtaogopbhjinmoaaGreatDoor.Ev
namespace Go.Proofs.YtaogopbhjinmoaaGreatDoor.Ev
open Go
theorem next_none {fn : Func} {n : String} (hn : fn.name = n) (ho : fn.origin = "") (h1 : Extern.allNextRows.lookup n = none) (h2 : Extern.allNextRows.lookup "" = none) : Extern.findNext fn = none := by
  unfold Extern.findNext
  dsimp only
  rw [hn, ho, h1, h2]; rfl
theorem find_plain {fn : Func} {n : String} {e : Array Value → Sem Value} (hn : fn.name = n) (h0 : Extern.allGenericRows.lookup n = none) (h1 : Extern.allTypedRows.lookup n = none) (h2 : Extern.allRows.lookup n = some e) : Extern.find fn = some e := by
  unfold Extern.find
  dsimp only
  rw [hn, h0, h1, h2]; rfl
theorem find_typed {fn : Func} {n : String} {e : Extern.Typed} (hn : fn.name = n) (h0 : Extern.allGenericRows.lookup n = none) (h1 : Extern.allTypedRows.lookup n = some e) : Extern.find fn = some (e fn.params fn.resultTypes) := by
  unfold Extern.find
  dsimp only
  rw [hn, h0, h1]; rfl
theorem nx_empty : Extern.allNextRows.lookup "" = none := by kernel_rfl
theorem nx_ib : Extern.allNextRows.lookup "internal/bytealg.IndexByteString" = none := by kernel_rfl
theorem nx_xb : Extern.allNextRows.lookup "internal/bytealg.IndexByte" = none := by kernel_rfl
theorem nx_cn : Extern.allNextRows.lookup "internal/bytealg.CountString" = none := by kernel_rfl
theorem nx_ne : Extern.allNextRows.lookup "internal/abi.NoEscape" = none := by kernel_rfl
theorem nx_nz : Extern.allNextRows.lookup "internal/bytealg.MakeNoZero" = none := by kernel_rfl
theorem ge_ib : Extern.allGenericRows.lookup "internal/bytealg.IndexByteString" = none := by kernel_rfl
theorem ge_xb : Extern.allGenericRows.lookup "internal/bytealg.IndexByte" = none := by kernel_rfl
theorem ge_cn : Extern.allGenericRows.lookup "internal/bytealg.CountString" = none := by kernel_rfl
theorem ge_ne : Extern.allGenericRows.lookup "internal/abi.NoEscape" = none := by kernel_rfl
theorem ge_nz : Extern.allGenericRows.lookup "internal/bytealg.MakeNoZero" = none := by kernel_rfl
theorem ty_ib : Extern.allTypedRows.lookup "internal/bytealg.IndexByteString" = none := by kernel_rfl
theorem ty_xb : Extern.allTypedRows.lookup "internal/bytealg.IndexByte" = none := by kernel_rfl
theorem ty_cn : Extern.allTypedRows.lookup "internal/bytealg.CountString" = none := by kernel_rfl
theorem ty_ne : Extern.allTypedRows.lookup "internal/abi.NoEscape" = none := by kernel_rfl
theorem ty_nz : Extern.allTypedRows.lookup "internal/bytealg.MakeNoZero" = some Extern.BytealgMakeNoZero.makeNoZero := by kernel_rfl
theorem al_ib : Extern.allRows.lookup "internal/bytealg.IndexByteString" = some Extern.BytealgIndexByte.indexByte := by kernel_rfl
theorem al_xb : Extern.allRows.lookup "internal/bytealg.IndexByte" = some Extern.BytealgIndexByte.indexByte := by kernel_rfl
theorem al_cn : Extern.allRows.lookup "internal/bytealg.CountString" = some Extern.BytealgCount.count := by kernel_rfl
theorem al_ne : Extern.allRows.lookup "internal/abi.NoEscape" = some Extern.AbiNoEscape.same := by kernel_rfl
theorem strCmp_ss (n x m y : Nat) : strCmp (n + 1) x (m + 1) y = if x % 256 = y % 256 then strCmp n (x / 256) m (y / 256) else if x % 256 < y % 256 then -1 else 1 := by
  show (bif Nat.beq (Nat.mod x 256) (Nat.mod y 256) then strCmp n (Nat.div x 256) m (Nat.div y 256) else bif Nat.blt (Nat.mod x 256) (Nat.mod y 256) then Int.negSucc 0 else 1) = _
  rw [beqN, bltN]
  by_cases h : x % 256 = y % 256
  · rw [decide_eq_true (show Nat.mod x 256 = Nat.mod y 256 from h), if_pos h]; rfl
  · rw [decide_eq_false (show ¬ Nat.mod x 256 = Nat.mod y 256 from h), if_neg h]
    by_cases h2 : x % 256 < y % 256
    · rw [decide_eq_true (show Nat.mod x 256 < Nat.mod y 256 from h2), if_pos h2]; rfl
    · rw [decide_eq_false (show ¬ Nat.mod x 256 < Nat.mod y 256 from h2), if_neg h2]; rfl
def cmpL : List UInt8 → List UInt8 → Int
  | [], [] => 0
  | [], _ :: _ => -1
  | _ :: _, [] => 1
  | c :: l, d :: r => if c = d then cmpL l r else if c < d then -1 else 1
theorem ofNat_lt {a b : Nat} (ha : a < 256) (hb : b < 256) : UInt8.ofNat a < UInt8.ofNat b ↔ a < b := by
  rw [UInt8.lt_iff_toNat_lt]
  simp [UInt8.toNat_ofNat', Nat.mod_eq_of_lt ha, Nat.mod_eq_of_lt hb]
theorem ofNat_inj {a b : Nat} (ha : a < 256) (hb : b < 256) : UInt8.ofNat a = UInt8.ofNat b ↔ a = b := by
  constructor
  · intro h
    have := congrArg UInt8.toNat h
    simpa [UInt8.toNat_ofNat', Nat.mod_eq_of_lt ha, Nat.mod_eq_of_lt hb] using this
  · exact fun h => by rw [h]
theorem strCmp_eq : ∀ (n x m y : Nat), strCmp n x m y = cmpL (bl n x) (bl m y)
  | 0, x, 0, y => rfl
  | 0, x, m + 1, y => rfl
  | n + 1, x, 0, y => rfl
  | n + 1, x, m + 1, y => by
    have h1 : x % 256 < 256 := Nat.mod_lt _ (by decide)
    have h2 : y % 256 < 256 := Nat.mod_lt _ (by decide)
    rw [strCmp_ss, bl, bl, cmpL, strCmp_eq n (x / 256) m (y / 256)]
    simp only [ofNat_inj h1 h2, ofNat_lt h1 h2]
theorem cmp_find : ∀ (l r : List UInt8), (match (List.range (min l.length r.length)).find? (fun i => l[i]! != r[i]!) with
    | some i => if l[i]! < r[i]! then (-1 : Int) else 1
    | none => if l.length < r.length then -1 else if l.length > r.length then 1 else 0) = cmpL l r
  | [], [] => rfl
  | [], _ :: r => by simp [cmpL]
  | _ :: l, [] => by simp [cmpL]
  | c :: l, d :: r => by
    have ih := cmp_find l r
    rw [cmpL]
    rw [show min (c :: l).length (d :: r).length = min l.length r.length + 1 by simp only [List.length_cons]; omega, List.range_succ_eq_map, List.find?_cons]
    by_cases h : c = d
    · subst h
      simp only [List.getElem!_cons_zero, bne_self_eq_false, if_true]
      rw [← ih, List.find?_map]
      simp only [Function.comp_def, Nat.succ_eq_add_one, List.getElem!_cons_succ, List.length_cons]
      cases hf : (List.range (min l.length r.length)).find? (fun i => l[i]! != r[i]!) with
      | none => simp only [Option.map_none, Nat.add_lt_add_iff_right, gt_iff_lt]
      | some i => simp only [Option.map_some, List.getElem!_cons_succ]
    · have hb : ((c :: l)[0]! != (d :: r)[0]!) = true := by simpa using h
      rw [hb]
      simp [h]
theorem cmp_eq (n x m y : Nat) : Extern.BytealgCompare.cmp (ba n x) (ba m y) = strCmp n x m y := by
  rw [strCmp_eq, ← cmp_find]
  have hg : ∀ (k z i : Nat), (ba k z)[i]! = (bl k z)[i]! := by
    intro k z i
    by_cases h : i < k
    · rw [getElem!_pos (ba k z) i (by rw [ba_size]; exact h), getElem!_pos (bl k z) i (by rw [bl_length]; exact h)]
      show (bl k z).toArray[i]'(by simpa [bl_length] using h) = _
      simp
    · rw [getElem!_neg (ba k z) i (by rw [ba_size]; exact h), getElem!_neg (bl k z) i (by rw [bl_length]; exact h)]
  unfold Extern.BytealgCompare.cmp
  simp only [hg, ba_size, bl_length]
  cases List.find? (fun i => (bl n x)[i]! != (bl m y)[i]!) (List.range (min n m)) <;> rfl
theorem nx_cm : Extern.allNextRows.lookup "internal/bytealg.abigen_runtime_cmpstring" = none := by kernel_rfl
theorem ge_cm : Extern.allGenericRows.lookup "internal/bytealg.abigen_runtime_cmpstring" = none := by kernel_rfl
theorem ty_cm : Extern.allTypedRows.lookup "internal/bytealg.abigen_runtime_cmpstring" = none := by kernel_rfl
theorem al_cm : Extern.allRows.lookup "internal/bytealg.abigen_runtime_cmpstring" = some Extern.BytealgCompare.compare := by kernel_rfl
theorem findB_index (c : Nat) : ∀ (n x i : Nat), (match findB (c % 256) n x i with | some j => (j : Int) | none => -1) = if Lib.indexByte (bl n x) (UInt8.ofNat c) = -1 then -1 else Lib.indexByte (bl n x) (UInt8.ofNat c) + i
  | 0, x, i => by simp [findB, bl, Lib.indexByte]
  | n + 1, x, i => by
    have ih := findB_index c n (x / 256) (i + 1)
    rw [findB, beqN, bl, Lib.indexByte]
    have hg := Lib.indexByte_ge (bl n (x / 256)) (UInt8.ofNat c)
    by_cases hc : x % 256 = c % 256
    · have hb : (UInt8.ofNat (x % 256) == UInt8.ofNat c) = true := by rw [hc, ofNat_mod]; simp
      rw [show Nat.mod x 256 = x % 256 from rfl, decide_eq_true hc, cond_true, hb]
      simp
    · have hb : (UInt8.ofNat (x % 256) == UInt8.ofNat c) = false := by
        rw [beq_eq_false_iff_ne]; intro e; apply hc
        have := congrArg UInt8.toNat e; simpa [UInt8.toNat_ofNat'] using this
      rw [show Nat.mod x 256 = x % 256 from rfl, decide_eq_false hc, cond_false, hb]
      show (match findB (c % 256) n (x / 256) (i + 1) with | some j => (j : Int) | none => -1) = _
      rw [ih]
      simp only [Bool.false_eq_true, if_false]
      by_cases h1 : Lib.indexByte (bl n (x / 256)) (UInt8.ofNat c) = -1
      · rw [if_pos h1, h1]; simp
      · rw [if_neg h1]
        have h2 : (Lib.indexByte (bl n (x / 256)) (UInt8.ofNat c) == -1) = false := by rw [beq_eq_false_iff_ne]; exact h1
        simp only [h2, Bool.false_eq_true, if_false]
        rw [if_neg (by omega)]
        omega
theorem countB_count (c : Nat) : ∀ (n x r : Nat), countB (c % 256) n x r = r + Lib.countByte (bl n x) (UInt8.ofNat c)
  | 0, x, r => by simp [countB, bl, Lib.countByte]
  | n + 1, x, r => by
    rw [countB, countB_count c n, beqN, bl, Lib.countByte, Lib.countByte, List.count_cons]
    by_cases hc : x % 256 = c % 256
    · have hb : (UInt8.ofNat (x % 256) == UInt8.ofNat c) = true := by rw [hc, ofNat_mod]; simp
      rw [show Nat.mod x 256 = x % 256 from rfl, decide_eq_true hc, hb]
      show r + 1 + _ = r + (_ + 1)
      show r + 1 + List.count (UInt8.ofNat c) (bl n (x / 256)) = r + (List.count (UInt8.ofNat c) (bl n (x / 256)) + 1)
      omega
    · have hb : (UInt8.ofNat (x % 256) == UInt8.ofNat c) = false := by
        rw [beq_eq_false_iff_ne]; intro e; apply hc
        have := congrArg UInt8.toNat e; simpa [UInt8.toNat_ofNat'] using this
      rw [show Nat.mod x 256 = x % 256 from rfl, decide_eq_false hc, hb]
      rfl
section
variable {P : Program} {E : Env} {F : RO} {M : Mem} {c : Nat → Prop} {w : World} {t : T} {a : Act}
theorem exec_extern {o : Oper} {cl : Call} {f : FuncId} {fn : Func} {e : Array Value → Sem Value} (hop : o.op = .call cl) (hcal : cl.callee = .value (.func f)) (hf : P.funcs[f]? = some fn) (hb : fn.body.isNone = true) (hne : fn.name ≠ "runtime.NumGoroutine")
    (hn : Extern.findNext fn = none) (he : Extern.find fn = some e) {l : List Operand} (hl : cl.args.toList = l) {v : Value} {w' : World} (h : (e (l.map a.eval).toArray).run P w = .ok v w') : (execOp a.eval o).run P w = .ok (.value v) w' := by
  have hm : cl.args.map a.eval = (l.map a.eval).toArray := by rw [arr_of_list hl]; simp
  have hr := run_callFunc_extern (P := P) hf (by simpa using hne) hb hn he (l.map a.eval).toArray w
  simp only [execOp, hop, resolve, hcal, Sem.run_bind, hm, Act.eval, Deferred.ofValue, Sem.run_pure, Result.andThen_ok, invoke, Array.empty_append, Array.append_empty, hr, h]
theorem asByte_some {v : V} {n : Nat} (h : asByte v = some n) : v = .i .u8 (n : Int) := by
  unfold asByte at h
  split at h
  · obtain rfl := Option.some.inj h; rfl
  · cases h
theorem Cx.loadN_cells (h : Cx P E F M c w t a) {b o n : Nat} {l : List V} (hl : Ev.loadN F M b o n = some l) :
    ∀ j v, (concs E l)[j]? = some v → w.cell? ⟨E.ρ b, E.β b + o + j, none⟩ = some v := by
  obtain ⟨ty, m, ex, fz, str, d, cs, hb, hg⟩ := asCells_some (f := none) hl (by simp)
  obtain ⟨arr, fr, ho, hr⟩ := h.cells hb
  have hc := cellsAt_get n o l hg
  intro j v hj
  rw [concs_map, List.getElem?_map, Option.map_eq_some_iff] at hj
  obtain ⟨x, hx, rfl⟩ := hj
  simp only [World.cell?, ho, Option.isSome_none, Bool.false_eq_true, if_false]
  rw [Nat.add_assoc]
  exact hr.cell _ _ (hc.2 j x hx)
theorem Cx.readB_cells (h : Cx P E F M c w t a) {n b o : Nat} {vs : List V} {r : Option Nat} (hr : Ev.readB F M 1 n b o = some (vs, r)) :
    vs.length = n ∧ ∀ j v, (concs E vs)[j]? = some v → w.cell? ⟨E.ρ b, E.β b + o + j, none⟩ = some v := by
  refine ⟨by have := (h.readB hr).2.2; omega, ?_⟩
  unfold Ev.readB at hr
  rw [beqN] at hr
  by_cases hn : n = 0
  · rw [decide_eq_true hn, cond_true] at hr
    obtain ⟨rfl, _⟩ := Prod.mk.inj (Option.some.inj hr)
    intro j v hj; simp [concs] at hj
  · rw [decide_eq_false hn, cond_false] at hr
    split at hr
    · rename_i us hl
      obtain ⟨rfl, _⟩ := Prod.mk.inj (Option.some.inj hr)
      exact h.loadN_cells hl
    · cases hr
theorem bytesOf_cells {r o n s cap : Nat} {vs : List V} (hs : bytesV vs = some (n, s)) (hc : ∀ j v, (concs E vs)[j]? = some v → w.cell? ⟨r, o + j, none⟩ = some v) : (Extern.Bytes.bytesOf (.slice (some ⟨r, o, none⟩) vs.length cap)).run P w = .ok (ba n s) w := by
  obtain ⟨ns, rfl, rfl, hb⟩ := bytesV_spec _ _ _ hs
  have := Lib.run_loadBytesX (P := P) w (ns.map Int.ofNat) ⟨r, o, none⟩ .empty fun j x hj => by
    rw [Addr.add_eq]
    refine hc j (.int .u8 x) ?_
    rw [List.getElem?_map, Option.map_eq_some_iff] at hj
    obtain ⟨k, hk, rfl⟩ := hj
    rw [concs_map, List.getElem?_map, List.getElem?_map, hk]
    rfl
  rw [List.length_map] at this
  rw [List.length_map]
  show (Extern.Bytes.loadBytes ⟨r, o, none⟩ _ .empty).run P w = _
  rw [this]
  congr 1
  apply ba_ext
  rw [hb]
  simp [Lib.bytesOf, List.map_map, Function.comp_def]
theorem bytesOf_none {l cap : Nat} : (Extern.Bytes.bytesOf (.slice none l cap)).run P w = .ok (ba 0 0) w := by
  show Result.ok ByteArray.empty w = _
  congr 1
theorem Cx.bytesOf (h : Cx P E F M c w t a) {v : V} {n m s : Nat} {vs : List V} {r : Option Nat} (hv : ∀ a b, v ≠ .s a b) (hn : lenV v = some n) (hr : Ev.readL F M 1 n v = some (vs, r)) (hs : bytesV vs = some (m, s)) : (Extern.Bytes.bytesOf (conc E v)).run P w = .ok (ba m s) w := by
  have nil : ∀ {us : List V} {q : Option Nat}, (bif Nat.beq 0 0 then some (([] : List V), (none : Option Nat)) else none) = some (us, q) → us = [] := fun he => by
    obtain ⟨rfl, _⟩ := Prod.mk.inj (Option.some.inj he); rfl
  have z : ∀ {us : List V}, us = [] → bytesV us = some (m, s) → m = 0 ∧ s = 0 := fun e hb => by
    subst e
    obtain ⟨rfl, rfl⟩ := Prod.mk.inj (Option.some.inj hb); exact ⟨rfl, rfl⟩
  cases v with
  | l b o len cap =>
    obtain rfl := Option.some.inj hn
    obtain ⟨e, hc⟩ := h.readB_cells (show Ev.readB F M 1 len b o = some (vs, r) from hr)
    subst e
    exact bytesOf_cells hs hc
  | u b o len el kn =>
    obtain rfl := Option.some.inj hn
    obtain ⟨e, hc⟩ := h.readB_cells (show Ev.readB F M 1 len b o = some (vs, r) from hr)
    subst e
    exact bytesOf_cells hs hc
  | ue b o0 o =>
    obtain rfl := Option.some.inj hn
    obtain rfl := nil (show _ = some (vs, r) from hr)
    obtain ⟨rfl, rfl⟩ := z rfl hs
    show Result.ok ByteArray.empty w = _
    congr 1
  | l0 =>
    obtain rfl := Option.some.inj hn
    obtain rfl := nil (show _ = some (vs, r) from hr)
    obtain ⟨rfl, rfl⟩ := z rfl hs
    exact bytesOf_none
  | s a b => exact absurd rfl (hv a b)
  | _ => cases hn
def ixB (cv : Value) (b : ByteArray) : Sem Value := do
  let c ← Extern.Bytes.asByte cv
  match (List.range b.size).find? fun i => b[i]! == c with
  | some i => pure (goInt i)
  | none => pure (goInt (-1))
theorem ixB_eq (v cv : Value) : Extern.BytealgIndexByte.indexByte #[v, cv] = Extern.Bytes.bytesOf v >>= ixB cv := rfl
theorem indexByte_of {v cv : Value} {s : ByteArray} (h : (Extern.Bytes.bytesOf v).run P w = .ok s w) : (Extern.BytealgIndexByte.indexByte #[v, cv]).run P w = (Extern.BytealgIndexByte.indexByte #[.string s, cv]).run P w := by
  have h2 : (Extern.Bytes.bytesOf (.string s)).run P w = .ok s w := rfl
  rw [ixB_eq, ixB_eq]
  simp only [Sem.run_bind, h, h2]
theorem tagB_val {b : Option Nat} {r : QR} {x : V} (h : (tagB b r).val = some x) : r.val = some x := by
  cases r with
  | v y => cases b with
    | none => exact h
    | some b => exact h
  | f => cases h
  | r y b' => cases h
theorem xib1_ok {n s : Nat} {o : Option Nat} {x : V} (hg : (xib1 n s o).val = some x) : ∃ k, o = some k ∧ conc E x = .int .i64 (Lib.indexByte (bl n s) (UInt8.ofNat k)) ∧ bd c x := by
  unfold xib1 at hg
  split at hg
  · rename_i k
    refine ⟨k, rfl, ?_⟩
    have hfi := findB_index k n s 0
    have hge := Lib.indexByte_ge (bl n s) (UInt8.ofNat k)
    unfold q_xib1 at hg
    split at hg
    · rename_i i hi
      obtain rfl := Option.some.inj hg
      refine ⟨?_, trivial⟩
      rw [show findB (k % 256) n s 0 = some i from hi] at hfi
      simp only at hfi
      simp only [conc]
      congr 1
      show (i : Int) = _
      split at hfi <;> omega
    · rename_i hi
      obtain rfl := Option.some.inj hg
      refine ⟨?_, trivial⟩
      rw [show findB (k % 256) n s 0 = none from hi] at hfi
      simp only at hfi
      simp only [conc]
      congr 1
      show (-1 : Int) = _
      split at hfi <;> omega
  · cases hg
theorem q_extern (h : Cx P E F M c w t a) {o : Oper} {cl : Call} {f : FuncId} {fn : Func} (hop : o.op = .call cl) (hcal : cl.callee = .value (.func f)) (hf : P.funcs[f]? = some fn) (hb : fn.body.isNone = true) {q : QO} (hc : compExtern P fn cl.args.toList = some (.q q)) {x : V} (hx : (qop q F M t).val = some x) : QOk P E c w a o x := by
  unfold compExtern at hc
  split at hc
  · cases hc
  · rename_i hor
    have hor : fn.origin = "" := by simpa using hor
    split at hc
    · rename_i y z hargs
      split at hc
      · rename_i hnm
        have hnm : fn.name = "internal/bytealg.IndexByteString" := by simpa using hnm
        split at hc
        · rename_i xa xb h1 h2
          obtain rfl : QO.xib xa xb = q := by simpa [Ev.q] using hc
          have e1 := h.ev h1
          have e2 := h.ev h2
          obtain ⟨n, s, hv, hg⟩ := onS_val (show (onS (xa.ev t) QR.f fun n s => xib1 n s (asByte (xb.ev t))).val = some x from hx)
          unfold xib1 at hg
          split at hg
          · rename_i k hk
            rw [hv] at e1
            rw [asByte_some hk] at e2
            have hfi := findB_index k n s 0
            have hge := Lib.indexByte_ge (bl n s) (UInt8.ofNat k)
            have hxx : conc E x = .int .i64 (Lib.indexByte (bl n s) (UInt8.ofNat k)) ∧ bd c x := by
              unfold q_xib1 at hg
              split at hg
              · rename_i i hi
                obtain rfl := Option.some.inj hg
                refine ⟨?_, trivial⟩
                rw [show findB (k % 256) n s 0 = some i from hi] at hfi
                simp only at hfi
                simp only [conc]
                congr 1
                show (i : Int) = _
                split at hfi <;> omega
              · rename_i hi
                obtain rfl := Option.some.inj hg
                refine ⟨?_, trivial⟩
                rw [show findB (k % 256) n s 0 = none from hi] at hfi
                simp only at hfi
                simp only [conc]
                congr 1
                show (-1 : Int) = _
                split at hfi <;> omega
            refine ⟨?_, hxx.2⟩
            refine exec_extern hop hcal hf hb (by rw [hnm]; decide) (next_none hnm hor nx_ib nx_empty) (find_plain hnm ge_ib ty_ib al_ib) hargs ?_
            simp only [List.map_cons, List.map_nil, e1.1, e2.1, conc]
            rw [Lib.run_indexByteString, ba_toList, hxx.1]
            rfl
          · cases (show (none : Option V) = some x from hg)
        · cases hc
      · split at hc
        · rename_i hnm
          have hnm : fn.name = "internal/bytealg.CountString" := by simpa using hnm
          split at hc
          · rename_i xa xb h1 h2
            obtain rfl : QO.xcn xa xb = q := by simpa [Ev.q] using hc
            have e1 := h.ev h1
            have e2 := h.ev h2
            obtain ⟨n, s, hv, hg⟩ := onS_val (show (onS (xa.ev t) QR.f fun n s => xcn1 n s (asByte (xb.ev t))).val = some x from hx)
            unfold xcn1 at hg
            split at hg
            · rename_i k hk
              rw [hv] at e1
              rw [asByte_some hk] at e2
              rw [fN_eq] at hg
              obtain rfl := Option.some.inj hg
              refine ⟨?_, trivial⟩
              refine exec_extern hop hcal hf hb (by rw [hnm]; decide) (next_none hnm hor nx_cn nx_empty) (find_plain hnm ge_cn ty_cn al_cn) hargs ?_
              simp only [List.map_cons, List.map_nil, e1.1, e2.1, conc]
              rw [Lib.run_countString, ba_toList, show countB (Nat.mod k 256) n s 0 = countB (k % 256) n s 0 from rfl, countB_count, Nat.zero_add]
              rfl
            · cases (show (none : Option V) = some x from hg)
          · cases hc
        · split at hc
          · rename_i hnm
            have hnm : fn.name = "internal/bytealg.abigen_runtime_cmpstring" := by simpa using hnm
            split at hc
            · rename_i xa xb h1 h2
              obtain rfl : QO.xcmp xa xb = q := by simpa [Ev.q] using hc
              have e1 := h.ev h1
              have e2 := h.ev h2
              obtain ⟨n, s, hv, hg⟩ := onS_val (show (onS (xa.ev t) QR.f fun n a => onS (xb.ev t) .f fun m b => vI .i64 (strCmp n a m b)).val = some x from hx)
              obtain ⟨m, s2, hv2, hg⟩ := onS_val hg
              rw [hv] at e1
              rw [hv2] at e2
              rw [vI_eq] at hg
              obtain rfl := Option.some.inj hg
              refine ⟨?_, trivial⟩
              refine exec_extern hop hcal hf hb (by rw [hnm]; decide) (next_none hnm hor nx_cm nx_empty) (find_plain hnm ge_cm ty_cm al_cm) hargs ?_
              simp only [List.map_cons, List.map_nil, e1.1, e2.1, conc]
              show ((pure (ba n s) : Sem ByteArray) >>= fun a => (pure (ba m s2) : Sem ByteArray) >>= fun b => (pure (goInt (Extern.BytealgCompare.cmp a b)) : Sem Value)).run P w = _
              rw [pure_bind, pure_bind, cmp_eq]
              rfl
            · cases hc
          · split at hc
            · rename_i hnm
              have hnm : fn.name = "internal/bytealg.IndexByte" := by simpa using hnm
              split at hc
              · rename_i xa xb h1 h2
                obtain rfl : QO.xibB xa xb = q := by simpa [Ev.q] using hc
                have e1 := h.ev h1
                have e2 := h.ev h2
                have hx' : (q_xibB xa xb F M t).val = some x := hx
                unfold q_xibB at hx'
                split at hx'
                · cases hx'
                · rename_i v hv
                  unfold xibB1 at hx'
                  split at hx'
                  · rename_i n hn
                    split at hx'
                    · rename_i vs b hr
                      unfold xibB2 at hx'
                      split at hx'
                      · rename_i m sx hb'
                        rw [fN_eq, fN_eq] at hx'
                        obtain ⟨k, hk, hxx⟩ := xib1_ok (E := E) (c := c) (tagB_val hx')
                        rw [asByte_some hk] at e2
                        refine ⟨?_, hxx.2⟩
                        refine exec_extern hop hcal hf hb (by rw [hnm]; decide) (next_none hnm hor nx_xb nx_empty) (find_plain hnm ge_xb ty_xb al_xb) hargs ?_
                        simp only [List.map_cons, List.map_nil, e1.1, e2.1]
                        rw [indexByte_of (h.bytesOf hv hn hr hb')]
                        simp only [conc]
                        rw [Lib.run_indexByteString, ba_toList, hxx.1]
                        rfl
                      · cases hx'
                    · cases hx'
                  · cases hx'
              · cases hc
            · cases hc
    · rename_i y hargs
      split at hc
      · rename_i hnm
        have hnm : fn.name = "internal/abi.NoEscape" := by simpa using hnm
        obtain ⟨z, hz, rfl⟩ := compX_bind (f := fun x => .mv x) hc
        obtain rfl : z.ev t = x := Option.some.inj hx
        have e := h.ev hz
        refine ⟨?_, e.2⟩
        refine exec_extern hop hcal hf hb (by rw [hnm]; decide) (next_none hnm hor nx_ne nx_empty) (find_plain hnm ge_ne ty_ne al_ne) hargs ?_
        simp only [List.map_cons, List.map_nil, e.1]
        rfl
      · split at hc
        · split at hc
          · split at hc
            · split at hc <;> cases hc
            · cases hc
          · cases hc
        · split at hc
          · obtain ⟨z, _, e⟩ := Option.map_eq_some_iff.1 hc; cases e
          · cases hc
    · cases hc
theorem q_arrayPtr (h : Cx P E F M c w t a) {o : Oper} {d : TypeId} {y : Operand} (hop : o.op = .sliceToArrayPointer d y) {q : QO} (hc : compOp P o.op = some (.q q)) {x : V} (hx : (qop q F M t).val = some x) : QOk P E c w a o x := by
  rw [hop] at hc
  simp only [compOp] at hc
  split at hc
  · rename_i n el z hu hz
    obtain rfl : QO.sap n z = q := by simpa [Ev.q] using hc
    have hx' : (q_sap n z F M t).val = some x := hx
    have e := h.ev hz
    unfold q_sap at hx'
    split at hx'
    · rename_i b off len cp hv
      rw [hv] at e
      rw [bleN] at hx'
      by_cases hl : n ≤ len
      · rw [decide_eq_true hl, cond_true] at hx'
        obtain rfl := Option.some.inj hx'
        refine ⟨?_, e.2⟩
        simp only [execOp, hop]
        refine val_run ?_
        rw [e.1]
        simp [Instr.arrayAt, run_und hu, conc, Nat.not_lt.2 hl]
      · rw [decide_eq_false hl] at hx'; cases hx'
    · rename_i b off len el' kn hv
      rw [hv] at e
      rw [bleN] at hx'
      by_cases hl : n ≤ len
      · rw [decide_eq_true hl, cond_true] at hx'
        obtain rfl := Option.some.inj hx'
        refine ⟨?_, e.2⟩
        simp only [execOp, hop]
        refine val_run ?_
        rw [e.1]
        simp [Instr.arrayAt, run_und hu, conc, Nat.not_lt.2 hl]
      · rw [decide_eq_false hl] at hx'; cases hx'
    · cases hx'
  · cases hc
theorem q_all (h : Cx P E F M c w t a) {o : Oper} {q : QO} (hc : compOp P o.op = some (.q q)) {x : V} (hx : (qop q F M t).val = some x) : QOk P E c w a o x := by
  cases hop : o.op with
  | move y => exact q_move h (.inl hop) hc hx
  | assign y => exact q_move h (.inr hop) hc hx
  | pick p y z => exact q_pick h hop hc hx
  | alloc ty => rw [hop] at hc; obtain ⟨z, _, e⟩ := Option.map_eq_some_iff.1 hc; cases e
  | box ty y =>
    rw [hop] at hc; simp only [compOp] at hc
    split at hc <;> cases hc
  | build ty ps => exact q_build h hop hc hx
  | buildSlice ty n ps =>
    rw [hop] at hc; simp only [compOp] at hc
    split at hc
    · split at hc
      · split at hc
        · cases hc
        · obtain ⟨z, _, e⟩ := Option.map_eq_some_iff.1 hc; cases e
      · cases hc
    · cases hc
  | insert ty m k v =>
    rw [hop] at hc; simp only [compOp] at hc
    split at hc
    · obtain ⟨z, _, e⟩ := Option.map_eq_some_iff.1 hc; cases e
    · cases hc
  | load ty y => exact q_load h hop hc hx
  | store ty y z =>
    rw [hop] at hc; simp only [compOp] at hc
    split at hc <;> cases hc
  | ready g => rw [hop] at hc; cases hc
  | waits g => rw [hop] at hc; cases hc
  | nilCheck y => exact q_nilCheck h hop hc hx
  | binOp op ty y z ty' => exact q_binOp h hop hc hx
  | unOp op ty y => exact q_un_ok h hop hc hx
  | convert s d y => exact q_convert h hop hc hx
  | sliceToArrayPointer d y => exact q_arrayPtr h hop hc hx
  | makeInterface ty y => exact q_makeInterface h hop hc hx
  | makeFunc fn l1 l2 =>
    cases fn with
    | func f => exact q_makeFunc h hop hc hx
    | _ => rw [hop] at hc; cases hc
  | makeMap ty r =>
    cases r with
    | none => rw [hop] at hc; cases hc
    | some z => rw [hop] at hc; cases hc
  | makeChan ty y => rw [hop] at hc; cases hc
  | makeSlice ty l k =>
    rw [hop] at hc; simp only [compOp] at hc
    split at hc
    · split at hc
      · split at hc <;> cases hc
      · cases hc
    · cases hc
  | slice ty y lo hi mx => exact q_slice h hop hc hx
  | fieldAddr ty y f => exact q_fieldAddr h hop hc hx
  | field ty y f => exact q_field h hop hc hx
  | indexAddr ty y i => exact q_indexAddr h hop hc hx
  | index ty y i => exact q_index h hop hc hx
  | lookup ty y i ok => exact q_lookup h hop hc hx
  | mapUpdate ty m k v =>
    rw [hop] at hc; simp only [compOp] at hc
    split at hc
    · obtain ⟨z, _, e⟩ := Option.map_eq_some_iff.1 hc; cases e
    · cases hc
  | mapEntry ty m k => rw [hop] at hc; cases hc
  | entryStore ty m s v => rw [hop] at hc; cases hc
  | range ty y =>
    rw [hop] at hc; simp only [compOp] at hc
    split at hc <;> cases hc
  | next y b =>
    rw [hop] at hc
    cases b <;> (obtain ⟨z, _, e⟩ := Option.map_eq_some_iff.1 hc; cases e)
  | entry y => rw [hop] at hc; obtain ⟨z, _, e⟩ := Option.map_eq_some_iff.1 hc; cases e
  | typeAssert y ty ty' ok => exact q_typeAssert h hop hc hx
  | extract y i => exact q_extract h hop hc hx
  | call cl =>
    rw [hop] at hc
    simp only [compOp] at hc
    split at hc
    · rename_i b hcal
      exact q_builtin h hop hcal hc hx
    · rename_i f hcal
      split at hc
      · rename_i fn hf
        split at hc
        · rename_i hb
          exact q_extern h hop hcal hf hb hc hx
        · obtain ⟨z, _, e⟩ := Option.map_eq_some_iff.1 hc; cases e
      · cases hc
    · split at hc <;> cases hc
    · split at hc <;> cases hc
  | go cl => rw [hop] at hc; cases hc
  | defer cl => rw [hop] at hc; cases hc
  | panic y => rw [hop] at hc; cases hc
  | send y z => rw [hop] at hc; cases hc
  | recv ty y b => rw [hop] at hc; cases hc
  | select cs b => rw [hop] at hc; cases hc
end
end Go.Proofs.YtaogopbhjinmoaaGreatDoor.Ev
