/- What is proved here: pieces of the evaluator's soundness: if the evaluator comes to a value, the model's run comes to it, for every world and tape; no conditions beyond the hypotheses of each theorem. -/
import Derived.Test.YtaogopbhjinmoaaGreatDoorEv3
set_option linter.unusedSimpArgs false
set_option linter.unusedVariables false
set_option linter.defProp false
namespace Go.Proofs.YtaogopbhjinmoaaGreatDoor.Ev
open Go
theorem cell_eq (n : Nat) (d : List V) (cs : T) (k : Nat) : cell n d cs k = if k < n then (match cs.get k with | some v => some v | none => d[k % d.length]?) else none := by
  show (Bool.rec (motive := fun _ => Option V) none (Option.rec (motive := fun _ => Option V) (nth d (Nat.mod k d.length)) (fun v => some v) (cs.get k)) (Nat.blt k n)) = _
  rw [bb, bltN]
  simp only [decide_eq_true_eq]
  by_cases h : k < n
  · rw [if_pos h, if_pos h]
    cases cs.get k with
    | none => exact nth_eq d _
    | some v => rfl
  · rw [if_neg h, if_neg h]
theorem cell_list {l : List V} {k : Nat} {v : V} (h : cell l.length [] (listTr l 0 .e) k = some v) : l[k]? = some v := by
  rw [cell_eq, listTr_get] at h
  by_cases hk : k < l.length
  · rw [if_pos hk, if_pos (by omega)] at h
    simp only [Nat.sub_zero] at h
    rw [List.getElem?_eq_getElem hk] at h ⊢
    exact h
  · rw [if_neg hk] at h; cases h
section
variable {P : Program} {E : Env} {F : RO} {M : Mem} {c : Nat → Prop} {w : World} {t : T} {a : Act}
theorem list_rel {E' : Env} {l : List V} {b ty : Nat} (he : Ext c E E') (hl : bds c l) (hβ : E'.β b = 0) {arr : Array Value} (ha : arr = (concs E l).toArray) :
    BlkRel P E' b (.cells ty l.length true 0 false [] (listTr l 0 .e)) (.cells arr ty) := by
  refine ⟨arr, (0, 0), rfl, ⟨fun k v hk => ?_, ?_, ?_, ?_⟩⟩
  · have hk := cell_list hk
    rw [hβ, Nat.zero_add, ha, conc_ext he v (bds_get hl hk)]
    simp [concs_get hk]
  · simp [hβ, ha, concs_map]
  · intro o _ _ h; omega
  · intro _; exact .inl rfl
theorem list_bd {l : List V} {ty : Nat} {c' : Nat → Prop} {ex str : Bool} {fz : Nat} (hl : bds c l) (hc : ∀ b, c b → c' b) : bdBlk c' (.cells ty l.length ex fz str [] (listTr l 0 .e)) :=
  fun k v hk => bd_mono hc v (bds_get hl (cell_list hk))
abbrev AOk (P : Program) (F : RO) (E : Env) (M : Mem) (c : Nat → Prop) (w : World) (a : Act) (o : Oper) (b : Nat) (c' : Nat → Prop) (v : V) (blk : Blk) : Prop :=
  ∃ E' w', (execOp a.eval o).run P w = .ok (.value (conc E' v)) w' ∧ Stp P F E M c w E' (M.set b blk) c' w' ∧ Ext (· ≠ b) E E' ∧ bd c' v
theorem a_alloc (h : Cx P E F M c w t a) {o : Oper} {ty : TypeId} (hop : o.op = .alloc ty) {ao : AO} (hc : compOp P o.op = some (.a ao)) {b : Nat} {c' : Nat → Prop} (hb : ¬ c b) (hbc : c' b) (hcc : ∀ b, c b → c' b) {v : V} {blk : Blk} (ha : aop ao b t = some (v, blk)) : AOk P F E M c w a o b c' v blk := by
  rw [hop] at hc
  obtain ⟨z, hz, e⟩ := Option.map_eq_some_iff.1 hc
  obtain rfl : AO.al ty (cellsOfV z) = ao := by simpa using e
  have ha' : a_al ty (cellsOfV z) b t = some (v, blk) := ha
  unfold a_al at ha'
  by_cases h1 : allOne (cellsOfV z) = true
  · rw [h1, cond_true] at ha'
    simp only [Option.some.injEq, Prod.mk.injEq] at ha'
    obtain ⟨rfl, rfl⟩ := ha'
    have hz' := zeroV_run (E := E) (c := c) (w := w) hz
    have hcell : (conc E z).cells = (concs E (cellsOfV z)).toArray := by rw [flatten_cells, cellsOfV_eq]
    have hbd : bds c (cellsOfV z) := by rw [cellsOfV_eq]; exact flatten_bd hz'.2
    obtain ⟨E', hS, hE, hρ, hβ, _⟩ := h.rel.alloc (.cells ty (cellsOfV z).length true 0 false [] (listTr (cellsOfV z) 0 .e)) (.cells (conc E z).cells ty) b 0 c' hb hbc hcc (list_bd hbd hcc) { w with heap := w.heap.push (.cells (conc E z).cells ty) } rfl rfl rfl rfl
      (fun E' he _ hβ _ => list_rel he hbd hβ hcell)
    refine ⟨E', _, ?_, hS, hE, hbc⟩
    simp only [execOp, hop]
    refine val_run ?_
    simp only [Instr.alloc, Sem.run_bind, hz'.1, Result.andThen_ok, newVar, newRow, run_newObj, Sem.run_pure, conc, hρ, hβ, Nat.add_zero]
  · rw [Bool.not_eq_true] at h1
    rw [h1] at ha'; cases ha'
theorem a_box (h : Cx P E F M c w t a) {o : Oper} {ty : TypeId} {y : Operand} (hop : o.op = .box ty y) {ao : AO} (hc : compOp P o.op = some (.a ao)) {b : Nat} {c' : Nat → Prop} (hb : ¬ c b) (hbc : c' b) (hcc : ∀ b, c b → c' b) {v : V} {blk : Blk} (ha : aop ao b t = some (v, blk)) : AOk P F E M c w a o b c' v blk := by
  rw [hop] at hc
  simp only [compOp] at hc
  split at hc
  · rename_i s x hs hx
    obtain rfl : AO.bx ty s x = ao := by simpa using hc
    have ha' : a_bx ty s x b t = some (v, blk) := ha
    unfold a_bx at ha'
    rw [beqN] at ha'
    by_cases h1 : (flatten (x.ev t)).length = s
    · by_cases h2 : allOne (flatten (x.ev t)) = true
      · rw [decide_eq_true h1, h2] at ha'
        simp only [Bool.and_self, cond_true, Option.some.injEq, Prod.mk.injEq] at ha'
        obtain ⟨rfl, rfl⟩ := ha'
        subst h1
        have e := h.ev hx
        have hbd := flatten_bd e.2
        obtain ⟨E', hS, hE, hρ, hβ, _⟩ := h.rel.alloc (.cells ty (flatten (x.ev t)).length true 0 false [] (listTr (flatten (x.ev t)) 0 .e)) (.cells (conc E (x.ev t)).cells ty) b 0 c' hb hbc hcc (list_bd hbd hcc) { w with heap := w.heap.push (.cells (conc E (x.ev t)).cells ty) } rfl rfl rfl rfl
          (fun E' he _ hβ _ => list_rel he hbd hβ (flatten_cells E _))
        refine ⟨E', _, ?_, hS, hE, hbc⟩
        simp only [execOp, hop]
        refine val_run ?_
        rw [e.1]
        simp only [Instr.box, Sem.run_bind, Result.andThen_ok, newVar, newRow, run_newObj, Sem.run_pure, conc, hρ, hβ, Nat.add_zero]
      · rw [Bool.not_eq_true] at h2
        rw [h2, Bool.and_false] at ha'; cases ha'
    · rw [decide_eq_false h1] at ha'; cases ha'
  · cases hc
theorem a_makeMap (h : Cx P E F M c w t a) {o : Oper} {ty : TypeId} (hop : o.op = .makeMap ty none) {ao : AO} (hc : compOp P o.op = some (.a ao)) {b : Nat} {c' : Nat → Prop} (hb : ¬ c b) (hbc : c' b) (hcc : ∀ b, c b → c' b) {v : V} {blk : Blk} (ha : aop ao b t = some (v, blk)) : AOk P F E M c w a o b c' v blk := by
  rw [hop] at hc
  obtain rfl : AO.mkm = ao := by simpa [compOp] using hc
  have ha' : a_mkm b t = some (v, blk) := ha
  simp only [a_mkm, Option.some.injEq, Prod.mk.injEq] at ha'
  obtain ⟨rfl, rfl⟩ := ha'
  obtain ⟨E', hS, hE, hρ, hβ, _⟩ := h.rel.alloc (.map [] 0) (.map #[] 0) b 0 c' hb hbc hcc (fun e he => by cases he) { w with heap := w.heap.push (.map #[] 0) } rfl rfl rfl rfl (fun E' _ _ _ _ => rfl)
  refine ⟨E', _, ?_, hS, hE, hbc⟩
  simp only [execOp, hop]
  refine val_run ?_
  simp [Instr.makeMap, conc, hρ]
theorem a_rangeS (h : Cx P E F M c w t a) {o : Oper} {ty : TypeId} {y : Operand} (hop : o.op = .range ty y) {ao : AO} (hc : compOp P o.op = some (.a ao)) {b : Nat} {c' : Nat → Prop} (hb : ¬ c b) (hbc : c' b) (hcc : ∀ b, c b → c' b) {v : V} {blk : Blk} (ha : aop ao b t = some (v, blk)) : AOk P F E M c w a o b c' v blk := by
  rw [hop] at hc
  simp only [compOp] at hc
  split at hc
  · rename_i x hu hx
    obtain rfl : AO.rgs x = ao := by simpa using hc
    have e := h.ev hx
    cases hv : x.ev t with
    | s n s =>
      have ha' : (onS (x.ev t) none fun n s => some (V.p b 0, Blk.siter n s 0)) = some (v, blk) := ha
      rw [hv] at ha' e
      have ha2 : some (V.p b 0, Blk.siter n s 0) = some (v, blk) := ha'
      simp only [Option.some.injEq, Prod.mk.injEq] at ha2
      obtain ⟨rfl, rfl⟩ := ha2
      obtain ⟨E', hS, hE, hρ, hβ, _⟩ := h.rel.alloc (.siter n s 0) (.stringIter (ba n s) 0) b 0 c' hb hbc hcc trivial { w with heap := w.heap.push (.stringIter (ba n s) 0) } rfl rfl rfl rfl (fun E' _ _ hβ _ => ⟨hβ, rfl⟩)
      refine ⟨E', _, ?_, hS, hE, hbc⟩
      simp only [execOp, hop]
      refine val_run ?_
      rw [e.1]
      simp [Instr.range, run_und hu, conc, hρ, hβ]
    | _ =>
      have ha' : (onS (x.ev t) none fun n s => some (V.p b 0, Blk.siter n s 0)) = some (v, blk) := ha
      rw [hv] at ha'
      cases (show (none : Option (V × Blk)) = some (v, blk) from ha')
  · cases hc
  · cases hc
theorem byteCells_one (n : Nat) : ∀ (x j : Nat) (v : V), (byteCells n x)[j]? = some v → bd c v := fun x j v hj => bds_get (byteCells_bd n x) hj
theorem a_convert (h : Cx P E F M c w t a) {o : Oper} {s d : TypeId} {y : Operand} (hop : o.op = .convert s d y) {ao : AO} (hc : compOp P o.op = some (.a ao)) {b : Nat} {c' : Nat → Prop} (hb : ¬ c b) (hbc : c' b) (hcc : ∀ b, c b → c' b) {v : V} {blk : Blk} (ha : aop ao b t = some (v, blk)) : AOk P F E M c w a o b c' v blk := by
  rw [hop] at hc
  simp only [compOp] at hc
  split at hc
  · cases hc
  · cases hc
  · split at hc <;> cases hc
  · rename_i el x hs hd hx
    split at hc
    · rename_i hu8
      obtain rfl : AO.sb el x = ao := by simpa using hc
      rw [Bool.and_eq_true] at hu8
      have hel : P.underlying el = some (.int .u8) := by
        have := hu8.1
        unfold isU8 at this
        split at this
        · assumption
        · cases this
      have hsz : P.cellsOf el = 1 := cellsOf_sz (by simpa using hu8.2)
      have e := h.ev hx
      have ha' : (onS (x.ev t) none fun n s => some (V.u b 0 n 0 n, Blk.cells el n false 0 true [] (listTr (byteCells n s) 0 .e))) = some (v, blk) := ha
      cases hv : x.ev t with
      | s n sx =>
        rw [hv] at ha' e
        have ha2 : some (V.u b 0 n 0 n, Blk.cells el n false 0 true [] (listTr (byteCells n sx) 0 .e)) = some (v, blk) := ha'
        simp only [Option.some.injEq, Prod.mk.injEq] at ha2
        obtain ⟨rfl, rfl⟩ := ha2
        have hrun := run_bytes_of_string (P := P) w s d el (ba n sx) hs hd hel
        have hgc : n ≤ grownCap w n 0 el := by simp [grownCap, Question.cut]
        have hrow : bytesRow (ba n sx) (grownCap w n 0 el) = (concs E (byteCells n sx)).toArray ++ Array.replicate (grownCap w n 0 el - n) (.int .u8 0) := by
          rw [bytesRow, byteCells_conc, ba_size]
          congr 1
          simp [ba]
        have hrs : (bytesRow (ba n sx) (grownCap w n 0 el)).size = grownCap w n 0 el := by
          rw [hrow]; simp [concs_map, byteCells_length]; omega
        rw [ba_size] at hrun
        obtain ⟨E', hS, hE, hρ, hβ, hκ⟩ := h.rel.alloc (.cells el n false 0 true [] (listTr (byteCells n sx) 0 .e)) (.cells (bytesRow (ba n sx) (grownCap w n 0 el)) el ((bytesRow (ba n sx) (grownCap w n 0 el)).size, (bytesRow (ba n sx) (grownCap w n 0 el)).size + 1)) b (grownCap w n 0 el - n) c' hb hbc hcc
          (fun k v hk => bd_mono hcc v (by
            have hk' := cell_list (l := byteCells n sx) (by rw [byteCells_length]; exact hk)
            exact byteCells_one n sx _ v hk'))
          (w.drew.alloc (.cells (bytesRow (ba n sx) (grownCap w n 0 el)) el ((bytesRow (ba n sx) (grownCap w n 0 el)).size, (bytesRow (ba n sx) (grownCap w n 0 el)).size + 1))) rfl rfl rfl rfl
          (fun E' he _ hβ hκ => by
            refine ⟨_, _, rfl, ⟨fun k v hk => ?_, ?_, ?_, ?_⟩⟩
            · have hk' := cell_list (l := byteCells n sx) (by rw [byteCells_length]; exact hk)
              have hlt : k < (byteCells n sx).length := (List.getElem?_eq_some_iff.1 hk').1
              rw [hβ, Nat.zero_add, hrow, conc_ext he v (byteCells_one n sx _ v hk'), Array.getElem?_append_left (by simpa [concs_map] using hlt)]
              simp [concs_get hk']
            · simp only [Bool.false_eq_true, if_false]
              rw [hrs, hβ, hκ, hsz]; omega
            · intro o _ ho hf
              have := hf.1
              simp only at this
              omega
            · intro hf; cases hf)
        refine ⟨E', _, ?_, hS, hE, hbc⟩
        simp only [execOp, hop]
        refine val_run ?_
        rw [e.1]
        simp only [conc]
        rw [hrun, hρ, hβ, hκ]
        have e0 : grownCap w n 0 el = n - 0 + (grownCap w n 0 el - n) := by omega
        rw [← e0]
      | _ =>
        rw [hv] at ha'
        cases (show (none : Option (V × Blk)) = some (v, blk) from ha')
    · cases hc
  · split at hc <;> cases hc
  · split at hc <;> cases hc
  · split at hc <;> cases hc
  · cases hc
theorem zeroRow_get (zero : Array Value) (n j : Nat) (hj : j < n) (hz : 0 < zero.size) : ((Array.range n).map (zero[· % zero.size]!))[j]? = zero[j % zero.size]? := by
  have hm : j % zero.size < zero.size := Nat.mod_lt _ hz
  simp [hj, hm]
structure RowOk (E : Env) (m : Nat) (zero : List V) (tr : T) (arr : Array Value) : Prop where
  size : arr.size = m
  get : ∀ k v, cell m zero tr k = some v → arr[k]? = some (conc E v)
  bd : ∀ k v, cell m zero tr k = some v → Ev.bd c v
theorem fillP_run (h : Cx P E F M c w t a) {sz m : Nat} {zero : List V} : ∀ {ps : List (Nat × Operand)} {qs : List (Nat × X)} {tr r : T} {arr : Array Value}, compParts2 sz ps = some qs → fillP sz m t qs tr = some r → RowOk (c := c) E m zero tr arr →
    ∃ arr', Instr.fill (fun i => some (i * sz, sz)) arr (ps.map fun p => (p.1, a.eval p.2)) = some arr' ∧ RowOk (c := c) E m zero r arr'
  | [], qs, tr, r, arr, hc, hf, hR => by
    obtain rfl := Option.some.inj hc
    obtain rfl := Option.some.inj hf
    exact ⟨arr, rfl, hR⟩
  | (i, y) :: ps, qs, tr, r, arr, hc, hf, hR => by
    rw [compParts2] at hc
    split at hc
    · rename_i x l h1 h2
      obtain rfl := Option.some.inj hc
      rw [fillP, beqN, bleN, Tr.force_eq] at hf
      have e := h.ev h1
      by_cases g1 : (flatten (x.ev t)).length = sz
      · by_cases g2 : i * sz + sz ≤ m
        · by_cases g3 : allOne (flatten (x.ev t)) = true
          · rw [decide_eq_true g1, show Nat.add (i * sz) sz = i * sz + sz from rfl, decide_eq_true g2, g3] at hf
            simp only [Bool.and_self, cond_true] at hf
            have hcells : (a.eval y).cells = (concs E (flatten (x.ev t))).toArray := by rw [e.1, flatten_cells]
            have hlen : (concs E (flatten (x.ev t))).length = sz := by simp [concs_map, g1]
            have hfold := foldSet (i * sz) (concs E (flatten (x.ev t))) 0 arr
            have hR' : RowOk (c := c) E m zero (listTr (flatten (x.ev t)) (i * sz) tr) (((concs E (flatten (x.ev t))).zipIdx 0).foldl (fun cs (p : Value × Nat) => cs.setIfInBounds (i * sz + p.2) p.1) arr) := by
              refine ⟨by rw [hfold.1, hR.size], fun k v hk => ?_, fun k v hk => ?_⟩
              · rw [cell_eq, listTr_get] at hk
                by_cases hkm : k < m
                · rw [if_pos hkm] at hk
                  rw [hfold.2 k (by rw [hR.size]; exact hkm), hlen, Nat.add_zero]
                  rw [g1] at hk
                  by_cases hin : i * sz ≤ k ∧ k < i * sz + sz
                  · rw [if_pos hin] at hk ⊢
                    have hlt : k - i * sz < (flatten (x.ev t)).length := by omega
                    rw [List.getElem?_eq_getElem hlt] at hk
                    obtain rfl := Option.some.inj hk
                    exact concs_get (List.getElem?_eq_getElem hlt)
                  · rw [if_neg hin] at hk ⊢
                    exact hR.get k v (by rw [cell_eq, if_pos hkm]; exact hk)
                · rw [if_neg hkm] at hk; cases hk
              · rw [cell_eq, listTr_get] at hk
                by_cases hkm : k < m
                · rw [if_pos hkm] at hk
                  by_cases hin : i * sz ≤ k ∧ k < i * sz + (flatten (x.ev t)).length
                  · rw [if_pos hin] at hk
                    have hlt : k - i * sz < (flatten (x.ev t)).length := by omega
                    rw [List.getElem?_eq_getElem hlt] at hk
                    obtain rfl := Option.some.inj hk
                    exact bds_get (flatten_bd e.2) (List.getElem?_eq_getElem hlt)
                  · rw [if_neg hin] at hk
                    exact hR.bd k v (by rw [cell_eq, if_pos hkm]; exact hk)
                · rw [if_neg hkm] at hk; cases hk
            obtain ⟨arr', ha, hR''⟩ := fillP_run h h2 hf hR'
            refine ⟨arr', ?_, hR''⟩
            simp only [List.map_cons, Instr.fill, hcells]
            have c1 : (concs E (flatten (x.ev t))).toArray.size = sz := by simp [concs_map, g1]
            rw [c1, hR.size]
            have c2 : ¬ (i * sz + sz > m) := by omega
            simp only [ne_eq, not_true_eq_false, decide_false, Bool.false_or, decide_eq_true_eq, c2, if_false]
            rw [← ha]
            congr 1
            simp
          · rw [Bool.not_eq_true] at g3
            rw [g3, Bool.and_false] at hf; cases hf
        · rw [show Nat.add (i * sz) sz = i * sz + sz from rfl, decide_eq_false g2] at hf
          simp at hf
      · rw [decide_eq_false g1] at hf; simp at hf
    · cases hc
theorem zero_row {zero : List V} {m : Nat} (hz : bds c zero) (hpos : 0 < zero.length) : RowOk (c := c) E m zero .e ((Array.range m).map ((concs E zero).toArray[· % (concs E zero).toArray.size]!)) := by
  have hsz : (concs E zero).toArray.size = zero.length := by simp [concs_map]
  refine ⟨by simp, fun k v hk => ?_, fun k v hk => ?_⟩
  · rw [cell_eq] at hk
    by_cases hkm : k < m
    · rw [if_pos hkm] at hk
      rw [zeroRow_get _ _ _ hkm (by rw [hsz]; exact hpos), hsz]
      simp only [Tr.get_e] at hk
      simp [concs_get hk]
    · rw [if_neg hkm] at hk; cases hk
  · rw [cell_eq] at hk
    by_cases hkm : k < m
    · rw [if_pos hkm] at hk
      simp only [Tr.get_e] at hk
      exact bds_get hz hk
    · rw [if_neg hkm] at hk; cases hk
theorem row_rel {E' : Env} {m b ty : Nat} {zero : List V} {tr : T} {arr : Array Value} (he : Ext c E E') (hR : RowOk (c := c) E m zero tr arr) (hβ : E'.β b = 0) : BlkRel P E' b (.cells ty m true 0 false zero tr) (.cells arr ty) := by
  refine ⟨arr, (0, 0), rfl, ⟨fun k v hk => ?_, ?_, ?_, ?_⟩⟩
  · rw [hβ, Nat.zero_add, hR.get k v hk, conc_ext he v (hR.bd k v hk)]
  · simp [hβ, hR.size]
  · intro o _ _ h; omega
  · intro _; exact .inl rfl
theorem empty_row {m : Nat} (hm : m = 0) (zero : List V) : RowOk (c := c) E m zero .e ((Array.range m).map ((#[] : Array Value)[· % (#[] : Array Value).size]!)) := by
  subst hm
  refine ⟨by simp, fun k v hk => ?_, fun k v hk => ?_⟩ <;> (rw [cell_eq, if_neg (by omega)] at hk; cases hk)
theorem a_buildSlice (h : Cx P E F M c w t a) {o : Oper} {ty : TypeId} {n : Nat} {parts : Array (Nat × Operand)} (hop : o.op = .buildSlice ty n parts) {ao : AO} (hc : compOp P o.op = some (.a ao)) {b : Nat} {c' : Nat → Prop} (hb : ¬ c b) (hbc : c' b) (hcc : ∀ b, c b → c' b) {v : V} {blk : Blk} (ha : aop ao b t = some (v, blk)) : AOk P F E M c w a o b c' v blk := by
  rw [hop] at hc
  simp only [compOp] at hc
  have hparts : (parts.map fun (p : Nat × Operand) => (p.1, a.eval p.2)).toList = parts.toList.map fun p => (p.1, a.eval p.2) := by simp
  split at hc
  · rename_i el hu
    split at hc
    · rename_i s z hs hz
      split at hc
      · cases hc
      · rename_i hcond
        simp only [Bool.or_eq_true, decide_eq_true_eq, not_or] at hcond
        obtain ⟨qs, hqs, e⟩ := Option.map_eq_some_iff.1 hc
        obtain rfl : AO.bsl el n s (cellsOfV z) qs = ao := by simpa using e
        have ha' : a_bsl el n s (cellsOfV z) qs b t = some (v, blk) := ha
        unfold a_bsl at ha'
        split at ha'
        · rename_i tr htr
          rw [fN_eq] at ha'
          simp only [Option.some.injEq, Prod.mk.injEq] at ha'
          obtain ⟨rfl, rfl⟩ := ha'
          have hz' := zeroV_run (E := E) (c := c) (w := w) hz
          have hcell : (conc E z).cells = (concs E (cellsOfV z)).toArray := by rw [flatten_cells, cellsOfV_eq]
          have hbd : bds c (cellsOfV z) := by rw [cellsOfV_eq]; exact flatten_bd hz'.2
          by_cases hpos : 0 < (cellsOfV z).length
          · by_cases hns : n * s = 0
            · obtain ⟨arr, hfill, hR⟩ := fillP_run h hqs (m := n * s) htr (empty_row (E := E) hns (cellsOfV z))
              obtain ⟨E', hS, hE, hρ, hβ, _⟩ := h.rel.alloc (.cells el (n * s) true 0 false (cellsOfV z) tr) (.cells arr el) b 0 c' hb hbc hcc (fun k v hk => bd_mono hcc v (hR.bd k v hk)) { w with heap := w.heap.push (.cells arr el) } rfl rfl rfl rfl
                (fun E' he _ hβ _ => row_rel he hR hβ)
              refine ⟨E', _, ?_, hS, hE, hbc⟩
              simp only [execOp, hop]
              refine val_run ?_
              have hns' : ¬ (n * s > 2 ^ 24) := by omega
              simp only [Instr.buildSlice, Sem.run_bind, run_und hu, Result.andThen_ok, run_sz hs, hns', if_false, Sem.run_ite, hns, if_true, Sem.run_pure, hparts]
              rw [hns] at hfill
              simp only [hfill, newRow, Sem.run_bind, run_newObj, Sem.run_pure, Result.andThen_ok, conc, hρ, hβ, Nat.add_zero]
              rw [if_neg (by decide)]
            · obtain ⟨arr, hfill, hR⟩ := fillP_run h hqs (m := n * s) htr (zero_row (E := E) hbd hpos)
              obtain ⟨E', hS, hE, hρ, hβ, _⟩ := h.rel.alloc (.cells el (n * s) true 0 false (cellsOfV z) tr) (.cells arr el) b 0 c' hb hbc hcc (fun k v hk => bd_mono hcc v (hR.bd k v hk)) { w with heap := w.heap.push (.cells arr el) } rfl rfl rfl rfl
                (fun E' he _ hβ _ => row_rel he hR hβ)
              refine ⟨E', _, ?_, hS, hE, hbc⟩
              simp only [execOp, hop]
              refine val_run ?_
              have hns' : ¬ (n * s > 2 ^ 24) := hcond.1.2
              simp only [Instr.buildSlice, Sem.run_bind, run_und hu, Result.andThen_ok, run_sz hs, hns', if_false, Sem.run_ite, hns, hz'.1, Sem.run_pure, hparts, hcell]
              simp only [hfill, newRow, Sem.run_bind, run_newObj, Sem.run_pure, Result.andThen_ok, conc, hρ, hβ, Nat.add_zero]
          · exfalso
            have := hcond.2
            cases hcz : cellsOfV z with
            | nil => rw [hcz] at this; simp at this
            | cons x l => rw [hcz] at hpos; simp at hpos
        · cases ha'
    · cases hc
  · cases hc
theorem a_makeSlice (h : Cx P E F M c w t a) {o : Oper} {ty : TypeId} {l k : Operand} (hop : o.op = .makeSlice ty l k) {ao : AO} (hc : compOp P o.op = some (.a ao)) {b : Nat} {c' : Nat → Prop} (hb : ¬ c b) (hbc : c' b) (hcc : ∀ b, c b → c' b) {v : V} {blk : Blk} (ha : aop ao b t = some (v, blk)) : AOk P F E M c w a o b c' v blk := by
  rw [hop] at hc
  simp only [compOp] at hc
  split at hc
  · rename_i el xl xk hu h1 h2
    split at hc
    · rename_i s by_ z hs hby hz
      split at hc
      · cases hc
      · rename_i hcond
        simp only [Bool.or_eq_true, decide_eq_true_eq, not_or] at hcond
        obtain rfl : AO.mks el s by_ (cellsOfV z) xl xk = ao := by simpa using hc
        have ha' : a_mks1 el s by_ (cellsOfV z) b (asN (xl.ev t)) (asN (xk.ev t)) = some (v, blk) := ha
        unfold a_mks1 at ha'
        split at ha'
        · rename_i ln cp hl hk
          rw [bleN, bleN] at ha'
          by_cases g1 : ln ≤ cp
          · by_cases g2 : cp * (by_ + 1) ≤ 281474976710656
            · rw [decide_eq_true g1, show Nat.mul cp (Nat.succ by_) = cp * (by_ + 1) from rfl, decide_eq_true g2, fN_eq] at ha'
              simp only [Bool.and_self, cond_true, Option.some.injEq, Prod.mk.injEq] at ha'
              obtain ⟨rfl, rfl⟩ := ha'
              obtain ⟨k1, e1⟩ := asN_some hl
              obtain ⟨k2, e2⟩ := asN_some hk
              have v1 := h.ev h1
              have v2 := h.ev h2
              rw [e1] at v1
              rw [e2] at v2
              have hz' := zeroV_run (E := E) (c := c) (w := w) hz
              have hcell : (conc E z).cells = (concs E (cellsOfV z)).toArray := by rw [flatten_cells, cellsOfV_eq]
              have hbd : bds c (cellsOfV z) := by rw [cellsOfV_eq]; exact flatten_bd hz'.2
              have hpos : 0 < (cellsOfV z).length := by
                cases hcz : cellsOfV z with
                | nil => exact absurd (by rw [hcz]; rfl) hcond.2
                | cons x l => exact Nat.succ_pos _
              have hcp : cp ≤ 281474976710656 := by
                have : cp * 1 ≤ cp * (by_ + 1) := Nat.mul_le_mul_left cp (by omega)
                omega
              have hbc2 : by_ * cp ≤ 281474976710656 := by
                have : cp * by_ ≤ cp * (by_ + 1) := Nat.mul_le_mul_left cp (by omega)
                rw [Nat.mul_comm]; omega
              have w1 : IntKind.i64.wrap (ln : Int) = ln := by
                rw [wrap_s .i64 _ 18446744073709551616 9223372036854775808 rfl (by decide) (by decide), if_neg (by omega)]; omega
              have w2 : IntKind.i64.wrap (cp : Int) = cp := by
                rw [wrap_s .i64 _ 18446744073709551616 9223372036854775808 rfl (by decide) (by decide), if_neg (by omega)]; omega
              obtain ⟨i, hi, hib⟩ : ∃ i, P.info? el = some i ∧ i.bytes = by_ := by
                obtain ⟨i, hi, e⟩ := Option.map_eq_some_iff.1 hby
                exact ⟨i, hi, e⟩
              have hti : (typeInfo el).run P w = .ok i w := by simp [typeInfo, hi]
              have hbig : ¬ ((by_ : Int) * (cp : Int) > 2 ^ 48) := by
                have : ((by_ * cp : Nat) : Int) ≤ ((281474976710656 : Nat) : Int) := Int.ofNat_le.2 hbc2
                rw [Int.natCast_mul] at this
                have h48 : (2 : Int) ^ 48 = 281474976710656 := by decide
                rw [h48]; omega
              have htest : (decide ((cp : Int) < 0) || decide ((by_ : Int) * (cp : Int) > 2 ^ 48) || decide ((ln : Int) < 0) || decide ((ln : Int) > (cp : Int))) = false := by
                simp only [Bool.or_eq_false_iff, decide_eq_false_iff_not]
                exact ⟨⟨⟨by omega, hbig⟩, by omega⟩, by omega⟩
              by_cases hns : cp * s = 0
              · have hR := empty_row (E := E) (c := c) hns (cellsOfV z)
                obtain ⟨E', hS, hE, hρ, hβ, _⟩ := h.rel.alloc (.cells el (cp * s) true 0 false (cellsOfV z) .e) (.cells _ el) b 0 c' hb hbc hcc (fun k v hk => bd_mono hcc v (hR.bd k v hk)) { w with heap := w.heap.push (.cells _ el) } rfl rfl rfl rfl
                  (fun E' he _ hβ _ => row_rel he hR hβ)
                refine ⟨E', _, ?_, hS, hE, hbc⟩
                simp only [execOp, hop]
                refine val_run ?_
                rw [v1.1, v2.1]
                simp only [Instr.makeSlice, Sem.run_bind, run_und hu, Result.andThen_ok, conc, asInt, asIntOf, Sem.run_pure, hti, hib, w1, w2, htest, Bool.false_eq_true, if_false, Sem.run_ite, run_askRoom, Int.toNat_natCast, run_sz hs, hns, if_true, newRow, run_newObj, hρ, hβ, Nat.add_zero]
              · have hR := zero_row (E := E) (c := c) (m := cp * s) hbd hpos
                obtain ⟨E', hS, hE, hρ, hβ, _⟩ := h.rel.alloc (.cells el (cp * s) true 0 false (cellsOfV z) .e) (.cells _ el) b 0 c' hb hbc hcc (fun k v hk => bd_mono hcc v (hR.bd k v hk)) { w with heap := w.heap.push (.cells _ el) } rfl rfl rfl rfl
                  (fun E' he _ hβ _ => row_rel he hR hβ)
                refine ⟨E', _, ?_, hS, hE, hbc⟩
                simp only [execOp, hop]
                refine val_run ?_
                rw [v1.1, v2.1]
                simp only [Instr.makeSlice, Sem.run_bind, run_und hu, Result.andThen_ok, conc, asInt, asIntOf, Sem.run_pure, hti, hib, w1, w2, htest, Bool.false_eq_true, if_false, Sem.run_ite, run_askRoom, Int.toNat_natCast, run_sz hs, hns, hz'.1, hcell, newRow, run_newObj, hρ, hβ, Nat.add_zero]
            · rw [show Nat.mul cp (Nat.succ by_) = cp * (by_ + 1) from rfl, decide_eq_false g2, Bool.and_false] at ha'; cases ha'
          · rw [decide_eq_false g1] at ha'; cases ha'
        · cases ha'
    · cases hc
  · cases hc
theorem digits_size (n : Nat) : ∀ (x : Nat) (acc : Array Value), (Extern.BytealgMakeNoZero.digits n x acc).size = acc.size + n := by
  induction n with
  | zero => intro x acc; rfl
  | succ n ih => intro x acc; rw [Extern.BytealgMakeNoZero.digits, ih]; simp; omega
theorem asI64_some {v : V} {n : Nat} (h : asI64 v = some n) : v = .i .i64 (n : Int) := by
  unfold asI64 at h
  split at h
  · obtain rfl := Option.some.inj h; rfl
  · cases h
theorem noZero_run {ps rs : Array TypeId} {ty el n : Nat} (hr : rs[0]? = some ty) (hu : P.underlying ty = some (.slice el)) (hn : n ≤ 1099511627776) :
    ∃ bytes, (Extern.BytealgMakeNoZero.makeNoZero ps rs #[.int .i64 (n : Int)]).run P w = .ok (.slice (some ⟨w.heap.size, 0, none⟩) n (grownCap w n 0 el))
      { w with heap := w.heap.push (.cells (Extern.BytealgMakeNoZero.digits (grownCap w n 0 el) bytes #[]) el), drawn := w.drawn + 1 + 1 } := by
  have h1 : ¬ ((n : Int) < 0) := by omega
  have h2 : ¬ ((n : Int) > 2 ^ 48) := by
    have h48 : (2 : Int) ^ 48 = 281474976710656 := by decide
    rw [h48]; omega
  refine ⟨?_, ?_⟩
  rotate_left
  · conv => lhs; arg 2; whnf
    simp only [hr, Sem.run_bind, run_und hu, Result.andThen_ok, h1, h2, decide_false, Bool.or_self, Bool.false_eq_true, if_false, Sem.run_ite, Int.toNat_natCast, run_choose, Question.forced, run_askRoom, newRow, run_newObj, Sem.run_pure, Question.cut]
    rfl
theorem a_extern (h : Cx P E F M c w t a) {o : Oper} {cl : Call} {f : FuncId} {fn : Func} (hop : o.op = .call cl) (hcal : cl.callee = .value (.func f)) (hf : P.funcs[f]? = some fn) (hb0 : fn.body.isNone = true) {ao : AO} (hc : compExtern P fn cl.args.toList = some (.a ao)) {b : Nat} {c' : Nat → Prop} (hb : ¬ c b) (hbc : c' b) (hcc : ∀ b, c b → c' b) {v : V} {blk : Blk} (ha : aop ao b t = some (v, blk)) : AOk P F E M c w a o b c' v blk := by
  unfold compExtern at hc
  split at hc
  · cases hc
  · rename_i hor
    have hor : fn.origin = "" := by simpa using hor
    split at hc
    · split at hc
      · split at hc <;> cases hc
      · split at hc
        · split at hc <;> cases hc
        · split at hc
          · split at hc <;> cases hc
          · split at hc
            · split at hc <;> cases hc
            · cases hc
    · rename_i y hargs
      split at hc
      · obtain ⟨z, hz, e⟩ := Option.bind_eq_some_iff.1 hc; cases e
      · split at hc
        · rename_i hnm
          have hnm : fn.name = "internal/bytealg.MakeNoZero" := by simpa using hnm
          split at hc
          · rename_i x ty hx hres
            split at hc
            · rename_i el hu
              split at hc
              · rename_i hu8
                rw [Bool.and_eq_true] at hu8
                have hsz : P.cellsOf el = 1 := cellsOf_sz (by simpa using hu8.2)
                obtain rfl : AO.nz el x = ao := by simpa using hc
                have ha' : a_nz el x b t = some (v, blk) := ha
                unfold a_nz at ha'
                split at ha'
                · rename_i n hn
                  rw [bleN] at ha'
                  by_cases g1 : n ≤ 1099511627776
                  · rw [decide_eq_true g1] at ha'
                    simp only [cond_true, Option.some.injEq, Prod.mk.injEq] at ha'
                    obtain ⟨rfl, rfl⟩ := ha'
                    have e1 := asI64_some hn
                    have v1 := h.ev hx
                    rw [e1] at v1
                    have hres0 : fn.resultTypes[0]? = some ty := by rw [arr_of_list hres]; rfl
                    have hgc : n ≤ grownCap w n 0 el := by simp [grownCap, Question.cut]
                    obtain ⟨bytes, w', hrun, hheap, hos, hout, htape⟩ : ∃ bytes w', (Extern.BytealgMakeNoZero.makeNoZero fn.params fn.resultTypes #[.int .i64 (n : Int)]).run P w = .ok (.slice (some ⟨w.heap.size, 0, none⟩) n (grownCap w n 0 el)) w' ∧
                        w'.heap = w.heap.push (.cells (Extern.BytealgMakeNoZero.digits (grownCap w n 0 el) bytes #[]) el) ∧ w'.os = w.os ∧ w'.output = w.output ∧ w'.tape = w.tape := by
                      obtain ⟨bytes, hb2⟩ := noZero_run (P := P) (w := w) (ps := fn.params) hres0 hu g1
                      exact ⟨bytes, _, hb2, rfl, rfl, rfl, rfl⟩
                    obtain ⟨E', hS, hE, hρ, hβ, hκ⟩ := h.rel.alloc (.cells el n false 0 false [] .e) (.cells (Extern.BytealgMakeNoZero.digits (grownCap w n 0 el) bytes #[]) el) b (grownCap w n 0 el - n) c' hb hbc hcc
                      (fun k v hk => by
                        rw [cell_eq] at hk
                        simp only [Tr.get_e, List.getElem?_nil] at hk
                        split at hk <;> cases hk) w' hheap hos hout htape
                      (fun E' he _ hβ hκ => by
                        refine ⟨_, _, rfl, ⟨fun k v hk => ?_, ?_, ?_, ?_⟩⟩
                        · rw [cell_eq] at hk
                          simp only [Tr.get_e, List.getElem?_nil] at hk
                          split at hk <;> cases hk
                        · simp only [Bool.false_eq_true, if_false]
                          rw [digits_size, hβ, hκ, hsz]; simp; omega
                        · intro o _ _ h; omega
                        · intro _; exact .inl rfl)
                    refine ⟨E', w', ?_, hS, hE, hbc⟩
                    refine exec_extern hop hcal hf hb0 (by rw [hnm]; decide) (next_none hnm hor nx_nz nx_empty) (find_typed hnm ge_nz ty_nz) hargs ?_
                    simp only [List.map_cons, List.map_nil, v1.1, conc]
                    rw [hrun, hρ, hβ, hκ]
                    have e0 : grownCap w n 0 el = n - 0 + (grownCap w n 0 el - n) := by omega
                    rw [← e0]
                  · rw [decide_eq_false g1] at ha'; cases ha'
                · cases ha'
              · cases hc
            · cases hc
          · cases hc
        · split at hc
          · obtain ⟨z, _, e⟩ := Option.map_eq_some_iff.1 hc; cases e
          · cases hc
    · cases hc
theorem a_all (h : Cx P E F M c w t a) {o : Oper} {ao : AO} (hc : compOp P o.op = some (.a ao)) {b : Nat} {c' : Nat → Prop} (hb : ¬ c b) (hbc : c' b) (hcc : ∀ b, c b → c' b) {v : V} {blk : Blk} (ha : aop ao b t = some (v, blk)) : AOk P F E M c w a o b c' v blk := by
  cases hop : o.op with
  | alloc ty => exact a_alloc h hop hc hb hbc hcc ha
  | box ty y => exact a_box h hop hc hb hbc hcc ha
  | buildSlice ty n ps => exact a_buildSlice h hop hc hb hbc hcc ha
  | convert s d y => exact a_convert h hop hc hb hbc hcc ha
  | makeMap ty r =>
    cases r with
    | none => exact a_makeMap h hop hc hb hbc hcc ha
    | some z => rw [hop] at hc; cases hc
  | makeSlice ty l k => exact a_makeSlice h hop hc hb hbc hcc ha
  | range ty y => exact a_rangeS h hop hc hb hbc hcc ha
  | call cl =>
    rw [hop] at hc
    simp only [compOp] at hc
    split at hc
    · rename_i b' hcal
      exfalso
      unfold compBuiltin at hc
      split at hc
      · split at hc <;> first | cases hc | (split at hc <;> cases hc)
      · split at hc <;> cases hc
      · split at hc
        · split at hc
          · split at hc
            · split at hc
              · split at hc <;> cases hc
              · cases hc
            · split at hc <;> cases hc
          · cases hc
        · cases hc
      · split at hc
        · split at hc
          · split at hc <;> cases hc
          · cases hc
        · cases hc
      · split at hc
        · split at hc
          · split at hc <;> cases hc
          · cases hc
        · cases hc
      · split at hc <;> cases hc
      · split at hc <;> cases hc
      · split at hc
        · obtain ⟨z, _, e⟩ := Option.map_eq_some_iff.1 hc; cases e
        · cases hc
      · split at hc
        · split at hc <;> cases hc
        · cases hc
      · obtain ⟨z, _, e⟩ := Option.bind_eq_some_iff.1 hc; cases e
      · split at hc
        · obtain ⟨z, _, e⟩ := Option.map_eq_some_iff.1 hc; cases e
        · cases hc
      · cases hc
    · rename_i f hcal
      split at hc
      · rename_i fn hf
        split at hc
        · rename_i hb0
          exact a_extern h hop hcal hf hb0 hc hb hbc hcc ha
        · obtain ⟨z, _, e⟩ := Option.map_eq_some_iff.1 hc; cases e
      · cases hc
    · split at hc <;> cases hc
    · split at hc <;> cases hc
  | move y => rw [hop] at hc; obtain ⟨z, _, e⟩ := Option.bind_eq_some_iff.1 hc; cases e
  | assign y => rw [hop] at hc; obtain ⟨z, _, e⟩ := Option.bind_eq_some_iff.1 hc; cases e
  | pick p y z => rw [hop] at hc; simp only [compOp] at hc; split at hc <;> cases hc
  | build ty ps =>
    rw [hop] at hc; simp only [compOp] at hc
    split at hc
    · split at hc
      · obtain ⟨z, _, e⟩ := Option.bind_eq_some_iff.1 hc; cases e
      · cases hc
    · split at hc
      · obtain ⟨z, _, e⟩ := Option.bind_eq_some_iff.1 hc; cases e
      · cases hc
    · cases hc
  | insert ty m k v =>
    rw [hop] at hc; simp only [compOp] at hc
    split at hc
    · obtain ⟨z, _, e⟩ := Option.map_eq_some_iff.1 hc; cases e
    · cases hc
  | load ty y => rw [hop] at hc; simp only [compOp] at hc; split at hc <;> cases hc
  | store ty y z => rw [hop] at hc; simp only [compOp] at hc; split at hc <;> cases hc
  | nilCheck y => rw [hop] at hc; obtain ⟨z, _, e⟩ := Option.bind_eq_some_iff.1 hc; cases e
  | binOp op ty y z ty' =>
    rw [hop] at hc; simp only [compOp] at hc
    split at hc
    · cases hc
    · cases hc
    · split at hc
      · obtain ⟨z, _, e⟩ := Option.bind_eq_some_iff.1 hc; cases e
      · obtain ⟨z, _, e⟩ := Option.bind_eq_some_iff.1 hc; cases e
      · cases hc
    · cases hc
  | unOp op ty y => rw [hop] at hc; obtain ⟨z, _, e⟩ := Option.bind_eq_some_iff.1 hc; cases e
  | makeInterface ty y => rw [hop] at hc; simp only [compOp] at hc; split at hc <;> cases hc
  | makeFunc fn l1 l2 =>
    cases fn with
    | func f => rw [hop] at hc; simp only [compOp] at hc; split at hc <;> cases hc
    | _ => rw [hop] at hc; cases hc
  | slice ty y lo hi mx =>
    rw [hop] at hc; simp only [compOp] at hc
    split at hc
    · split at hc
      · split at hc <;> cases hc
      · obtain ⟨z, _, e⟩ := Option.bind_eq_some_iff.1 hc; split at e <;> cases e
      · obtain ⟨z, _, e⟩ := Option.bind_eq_some_iff.1 hc; split at e <;> cases e
      · split at hc
        · obtain ⟨z, _, e⟩ := Option.bind_eq_some_iff.1 hc; split at e <;> cases e
        · cases hc
      · cases hc
    · cases hc
  | fieldAddr ty y f =>
    rw [hop] at hc; simp only [compOp] at hc
    split at hc
    · split at hc
      · split at hc <;> cases hc
      · cases hc
    · cases hc
  | field ty y f =>
    rw [hop] at hc; simp only [compOp] at hc
    split at hc
    · split at hc
      · split at hc <;> cases hc
      · cases hc
    · cases hc
  | indexAddr ty y i =>
    rw [hop] at hc; simp only [compOp] at hc
    split at hc
    · obtain ⟨z, _, e⟩ := Option.bind_eq_some_iff.1 hc; cases e
    · obtain ⟨z, _, e⟩ := Option.bind_eq_some_iff.1 hc; cases e
    · cases hc
  | index ty y i =>
    rw [hop] at hc; simp only [compOp] at hc
    split at hc
    · split at hc <;> cases hc
    · cases hc
    · cases hc
  | lookup ty y i ok =>
    rw [hop] at hc; simp only [compOp] at hc
    split at hc
    · split at hc <;> cases hc
    · cases hc
  | mapUpdate ty m k v =>
    rw [hop] at hc; simp only [compOp] at hc
    split at hc
    · obtain ⟨z, _, e⟩ := Option.map_eq_some_iff.1 hc; cases e
    · cases hc
  | entry y => rw [hop] at hc; obtain ⟨z, _, e⟩ := Option.map_eq_some_iff.1 hc; cases e
  | next y b =>
    rw [hop] at hc
    cases b <;> (obtain ⟨z, _, e⟩ := Option.map_eq_some_iff.1 hc; cases e)
  | typeAssert y ty ty' ok => rw [hop] at hc; simp only [compOp] at hc; split at hc <;> cases hc
  | extract y i => rw [hop] at hc; obtain ⟨z, _, e⟩ := Option.bind_eq_some_iff.1 hc; cases e
  | sliceToArrayPointer d y => rw [hop] at hc; simp only [compOp] at hc; split at hc <;> cases hc
  | _ => rw [hop] at hc; cases hc
end
end Go.Proofs.YtaogopbhjinmoaaGreatDoor.Ev
namespace Go.Proofs.YtaogopbhjinmoaaGreatDoor.Ev
open Go
def NV (nx : Next) (v : Value) : Prop := nx = .value v ∨ (nx = .skip ∧ v = Go.undef)
theorem modify_eq {h : Array Obj} {r : Nat} {x : Obj} (f : Obj → Obj) (hx : h[r]? = some x) : h.modify r f = h.setIfInBounds r (f x) := by
  apply Array.ext_getElem?
  intro j
  rw [Array.getElem?_modify]
  by_cases e : r = j
  · subst e
    obtain ⟨hlt, hx'⟩ := Array.getElem?_eq_some_iff.1 hx
    simp [hlt, hx']
  · rw [if_neg e, Array.getElem?_setIfInBounds_ne e]
theorem setCell_eq {w : World} {r o : Nat} {arr : Array Value} {ty : TypeId} {fr : Nat × Nat} (h : w.heap[r]? = some (.cells arr ty fr)) (v : Value) :
    w.setCell ⟨r, o, none⟩ v = { w with heap := w.heap.setIfInBounds r (.cells (arr.setIfInBounds o v) ty fr) } := by
  unfold World.setCell
  rw [modify_eq _ h]
  simp
def splice (arr : Array Value) (off : Nat) (vs : List Value) (k : Nat) : Array Value := (vs.zipIdx k).foldl (fun cs (p : Value × Nat) => cs.setIfInBounds (off + p.2) p.1) arr
theorem storeCells_run {P : Program} (r off : Nat) (ty : TypeId) (fr : Nat × Nat) : ∀ (vs : List Value) (k : Nat) (arr : Array Value) (w : World), w.heap[r]? = some (.cells arr ty fr) →
    Unfrozen fr (off + k) arr.size → off + k + vs.length ≤ arr.size → (∀ v ∈ vs, v.oneCell' = true) →
    (storeCells ⟨r, off, none⟩ vs k).run P w = .ok () { w with heap := w.heap.setIfInBounds r (.cells (splice arr off vs k) ty fr) }
  | [], k, arr, w, h, _, _, _ => by
    have hlt := (Array.getElem?_eq_some_iff.1 h)
    simp only [storeCells, Sem.run_pure, splice, List.zipIdx_nil, List.foldl_nil]
    congr 1
    have : w.heap.setIfInBounds r (.cells arr ty fr) = w.heap := by
      apply Array.ext_getElem?
      intro j
      by_cases e : r = j
      · subst e
        rw [h]
        simp [hlt.1]
      · rw [Array.getElem?_setIfInBounds_ne e]
    rw [this]
  | v :: vs, k, arr, w, h, hf, hs, h1 => by
    simp only [List.length_cons] at hs
    have hc : w.cell? ⟨r, off + k, none⟩ = some (arr[off + k]'(by omega)) := by
      simp only [World.cell?, h, Option.isSome_none, Bool.false_eq_true, if_false]
      exact Array.getElem?_eq_getElem (by omega)
    have hz : w.frozen? ⟨r, off + k, none⟩ = false := by
      simp only [World.frozen?, h]
      have := hf (off + k) (Nat.le_refl _) (by omega)
      rw [Bool.and_eq_false_iff]
      simp only [decide_eq_false_iff_not]
      omega
    have hlt := (Array.getElem?_eq_some_iff.1 h).1
    rw [storeCells, Sem.run_bind, Addr.add_eq, run_store P w _ v _ (h1 v (by simp)), hc]
    simp only [hz, Bool.false_eq_true, if_false, Result.andThen_ok]
    rw [setCell_eq h]
    have h' : ({ w with heap := w.heap.setIfInBounds r (.cells (arr.setIfInBounds (off + k) v) ty fr) } : World).heap[r]? = some (.cells (arr.setIfInBounds (off + k) v) ty fr) := by
      simp [hlt]
    have ih := storeCells_run (P := P) r off ty fr vs (k + 1) (arr.setIfInBounds (off + k) v) _ h' (fun o ho ho' => hf o (by omega) (by simpa using ho')) (by simp; omega) (fun x hx => h1 x (by simp [hx]))
    rw [ih]
    simp only [splice, List.zipIdx_cons, List.foldl_cons]
    congr 2
    apply Array.ext_getElem?
    intro j
    by_cases e : r = j
    · subst e; simp [hlt]
    · rw [Array.getElem?_setIfInBounds_ne e, Array.getElem?_setIfInBounds_ne e, Array.getElem?_setIfInBounds_ne e]
section
variable {P : Program} {E : Env} {F : RO} {M : Mem} {c : Nat → Prop} {w : World} {t : T} {a : Act}
theorem isOne_conc {v : V} (h : isOne v = true) : (conc E v).oneCell' = true := by
  cases v <;> first | rfl | cases (show false = true from h)
theorem allOne_mem : ∀ {l : List V}, allOne l = true → ∀ v ∈ l, isOne v = true
  | [], _, v, hv => by cases hv
  | x :: l, h, v, hv => by
    have h' : (Bool.rec (motive := fun _ => Bool) false (allOne l) (isOne x)) = true := h
    rw [bb] at h'
    by_cases hx : isOne x = true
    · rw [if_pos hx] at h'
      cases hv with
      | head => exact hx
      | tail _ hm => exact allOne_mem h' v hm
    · rw [if_neg hx] at h'; cases h'
theorem storeN_some {b o : Nat} {vs : List V} {M' : Mem} (h : storeN M b o vs = some M') : ∃ ty n ex fz str d cs, M.get b = some (.cells ty n ex fz str d cs) ∧ o + vs.length ≤ n ∧ fz ≤ o ∧ allOne vs = true ∧
    M' = M.set b (.cells ty n ex fz str d (listTr vs o cs)) := by
  have h' : Option.rec (motive := fun _ => Option Mem) none (fun blk => storeIn M b o vs blk) (M.get b) = some M' := h
  cases hb : M.get b with
  | none => rw [hb] at h'; cases (show (none : Option Mem) = some M' from h')
  | some blk =>
    rw [hb] at h'
    cases blk with
    | cells ty n ex fz str d cs =>
      have h2 : (Bool.rec (motive := fun _ => Option Mem) none (Bool.rec (motive := fun _ => Option Mem) none (Bool.rec (motive := fun _ => Option Mem) none (storeIn2 M b o vs ty n ex fz str d cs) (allOne vs)) (Nat.ble fz o)) (Nat.ble (Nat.add o vs.length) n)) = some M' := h'
      rw [bb, bb, bb, bleN, bleN] at h2
      split at h2
      · rename_i g1
        split at h2
        · rename_i g2
          split at h2
          · rename_i g3
            refine ⟨ty, n, ex, fz, str, d, cs, rfl, of_decide_eq_true g1, of_decide_eq_true g2, g3, ?_⟩
            unfold storeIn2 at h2
            rw [Tr.force_eq, Tr.force_eq] at h2
            exact (Option.some.inj h2).symm
          · cases h2
        · cases h2
      · cases h2
    | _ => cases (show (none : Option Mem) = some M' from h')
theorem Cx.store (h : Cx P E F M c w t a) {b o : Nat} {vs : List V} {M' : Mem} (hs : storeN M b o vs = some M') (hb : bds c vs) :
    ∃ w', (storeCells ⟨E.ρ b, E.β b + o, none⟩ (concs E vs)).run P w = .ok () w' ∧ Stp P F E M c w E M' c w' := by
  obtain ⟨ty, n, ex, fz, str, d, cs, hM, h1, h2, h3, rfl⟩ := storeN_some hs
  obtain ⟨arr, fr, ho, hr⟩ := h.cells (look_some_M hM)
  have hle := hr.le
  have hlen : (concs E vs).length = vs.length := by simp [concs_map]
  have hone : ∀ v ∈ concs E vs, v.oneCell' = true := by
    intro v hv
    rw [concs_map, List.mem_map] at hv
    obtain ⟨x, hx, rfl⟩ := hv
    exact isOne_conc (allOne_mem h3 x hx)
  have hrun := storeCells_run (P := P) (E.ρ b) (E.β b + o) ty fr (concs E vs) 0 arr w ho (fun k hk hk' => hr.free k (by omega) hk') (by rw [hlen]; omega) hone
  refine ⟨_, hrun, h.rel.write b _ _ hM _ ?_ _ rfl rfl rfl rfl ?_⟩
  · intro k v hk
    rw [cell_eq, listTr_get] at hk
    have hold := (h.rel.has _ _ (look_some_M hM)).2.1
    split at hk
    · rename_i hkn
      by_cases hin : o ≤ k ∧ k < o + vs.length
      · rw [if_pos hin] at hk
        have hlt : k - o < vs.length := by omega
        rw [List.getElem?_eq_getElem hlt] at hk
        obtain rfl := Option.some.inj hk
        exact bds_get hb (List.getElem?_eq_getElem hlt)
      · rw [if_neg hin] at hk
        exact hold k v (by rw [cell_eq, if_pos hkn]; exact hk)
    · cases hk
  · have hsp := foldSet (E.β b + o) (concs E vs) 0 arr
    refine ⟨_, _, rfl, ⟨fun k v hk => ?_, ?_, ?_, hr.plain⟩⟩
    · rw [cell_eq, listTr_get] at hk
      split at hk
      · rename_i hkn
        show (splice arr (E.β b + o) (concs E vs) 0)[E.β b + k]? = _
        unfold splice
        rw [hsp.2 (E.β b + k) (by omega), hlen, Nat.add_zero]
        by_cases hin : o ≤ k ∧ k < o + vs.length
        · rw [if_pos hin] at hk
          rw [if_pos (by omega), show E.β b + k - (E.β b + o) = k - o by omega]
          have hlt : k - o < vs.length := by omega
          rw [List.getElem?_eq_getElem hlt] at hk
          obtain rfl := Option.some.inj hk
          exact concs_get (List.getElem?_eq_getElem hlt)
        · rw [if_neg hin] at hk
          rw [if_neg (by omega)]
          exact hr.cell k v (by rw [cell_eq, if_pos hkn]; exact hk)
      · cases hk
    · show if ex then E.β b = 0 ∧ (splice arr (E.β b + o) (concs E vs) 0).size = n else (splice arr (E.β b + o) (concs E vs) 0).size = E.β b + n + E.κ b * P.cellsOf ty
      unfold splice
      rw [hsp.1]; exact hr.size
    · show Unfrozen fr (E.β b + fz) (splice arr (E.β b + o) (concs E vs) 0).size
      unfold splice
      rw [hsp.1]; exact hr.free
structure Grow (c : Nat → Prop) (ct : Nat) (c' : Nat → Prop) (ct' : Nat) : Prop where
  le : ct ≤ ct'
  new : ∀ b, c' b → c b ∨ (ct ≤ b ∧ b < ct')
theorem Grow.refl (c : Nat → Prop) (ct : Nat) : Grow c ct c ct := ⟨Nat.le_refl _, fun _ h => .inl h⟩
theorem Grow.trans {c c₁ c₂ : Nat → Prop} {n n₁ n₂ : Nat} (h : Grow c n c₁ n₁) (h' : Grow c₁ n₁ c₂ n₂) : Grow c n c₂ n₂ :=
  ⟨Nat.le_trans h.le h'.le, fun b hb => by
    have l1 := h.le
    have l2 := h'.le
    rcases h'.new b hb with hb | hb
    · rcases h.new b hb with hb | hb
      · exact .inl hb
      · exact .inr (by omega)
    · exact .inr (by omega)⟩
def Fresh (c : Nat → Prop) (ct : Nat) : Prop := ∀ b, ct ≤ b → ¬ c b
theorem Fresh.grow {c c' : Nat → Prop} {n n' : Nat} (h : Fresh c n) (g : Grow c n c' n') : Fresh c' n' := fun b hb hc => by
  have := g.le
  rcases g.new b hc with h1 | h1
  · exact h b (by omega) h1
  · omega
abbrev EOk (P : Program) (F : RO) (E : Env) (M : Mem) (c : Nat → Prop) (ct : Nat) (w : World) (a : Act) (o : Oper) (v : V) (M' : Mem) (ct' : Nat) : Prop :=
  ∃ E' w' nx c', (execOp a.eval o).run P w = .ok nx w' ∧ NV nx (conc E' v) ∧ Stp P F E M c w E' M' c' w' ∧ bd c' v ∧ Grow c ct c' ct'
theorem onP_rc {v : V} {g : Nat → Nat → RC} {x : V} {M' : Mem} {c' : Nat} (h : onP v .f g = .k x M' c') : ∃ b o, v = .p b o ∧ g b o = .k x M' c' := by
  cases v with
  | p b o => exact ⟨b, o, rfl, h⟩
  | _ => cases (show RC.f = .k x M' c' from h)
theorem e_store (h : Cx P E F M c w t a) {o : Oper} {ty : TypeId} {y z : Operand} (hop : o.op = .store ty y z) {eo : EO} (hc : compOp P o.op = some (.e eo)) {k : Kn} (hk : k.F = F) {v : V} {M' : Mem} {ct ct' : Nat} (he : doE eo k M ct t = .k v M' ct') : EOk P F E M c ct w a o v M' ct' := by
  rw [hop] at hc
  simp only [compOp] at hc
  split at hc
  · rename_i n xa xv hs h1 h2
    obtain rfl : EO.st n xa xv = eo := by simpa using hc
    have e1 := h.ev h1
    have e2 := h.ev h2
    obtain ⟨b, off, hv, hg⟩ := onP_rc (show onP (xa.ev t) .f (fun b o => e_st1 n b o (flatten (xv.ev t)) M ct) = .k v M' ct' from he)
    unfold e_st1 at hg
    rw [bb, beqN] at hg
    split at hg
    · rename_i hn
      have hn : (flatten (xv.ev t)).length = n := of_decide_eq_true hn
      unfold er at hg
      cases hst : storeN M b off (flatten (xv.ev t)) with
      | none => rw [hst] at hg; cases (show RC.f = .k v M' ct' from hg)
      | some M'' =>
        rw [hst] at hg
        have hg' : RC.k undef M'' ct = .k v M' ct' := hg
        injection hg' with g1 g2 g3
        subst g1 g2 g3
        obtain ⟨w', hrun, hS⟩ := h.store hst (flatten_bd e2.2)
        rw [hv] at e1
        refine ⟨E, w', .skip, c, ?_, .inr ⟨rfl, rfl⟩, hS, trivial, .refl _ _⟩
        have hcs : (a.eval z).cells.size = n := by rw [e2.1, flatten_cells]; simp [concs_map, hn]
        have hcl : (a.eval z).cells.toList = concs E (flatten (xv.ev t)) := by rw [e2.1, flatten_cells]
        simp only [execOp, hop, e1.1, conc, Instr.storeAt, Instr.sureAddr, storeVar, Sem.run_bind, Sem.run_pure, Result.andThen_ok, hcs, run_sz hs, ne_eq, not_true_eq_false, if_false, Sem.run_ite, hcl, hrun]
    · cases hg
  · cases hc
end
end Go.Proofs.YtaogopbhjinmoaaGreatDoor.Ev
namespace Go.Proofs.YtaogopbhjinmoaaGreatDoor.Ev
open Go
theorem setEnt_map (E : Env) (k v : V) : ∀ (es : List (V × V × Nat)) (i : Nat), (setEnt k v es i).map (entry E) = (es.map (entry E)).modify i fun e => { e with key := conc E k, val := conc E v }
  | [], i => by simp [setEnt]
  | (k', v', b) :: es, 0 => by simp [setEnt, entry]
  | (k', v', b) :: es, i + 1 => by simp [setEnt, setEnt_map E k v es i]
theorem setEnt_mem (k v : V) : ∀ (es : List (V × V × Nat)) (i : Nat) (e : V × V × Nat), e ∈ setEnt k v es i → e ∈ es ∨ (e.1 = k ∧ e.2.1 = v)
  | [], i, e, h => by simp [setEnt] at h
  | (k', v', b) :: es, 0, e, h => by
    simp only [setEnt, List.mem_cons] at h
    rcases h with rfl | h
    · exact .inr ⟨rfl, rfl⟩
    · exact .inl (by simp [h])
  | (k', v', b) :: es, i + 1, e, h => by
    simp only [setEnt, List.mem_cons] at h
    rcases h with rfl | h
    · exact .inl (by simp)
    · rcases setEnt_mem k v es i e h with h | h
      · exact .inl (by simp [h])
      · exact .inr h
theorem snocE_eq (x : V × V × Nat) : ∀ es, snocE x es = es ++ [x]
  | [] => rfl
  | h :: r => by rw [snocE, snocE_eq x r]; rfl
section
variable {P : Program} {E : Env} {F : RO} {M : Mem} {c : Nat → Prop} {w : World} {t : T} {a : Act}
theorem intsEq_true : ∀ {a b : List V}, intsEq a b = some true → a = b
  | [], [], _ => rfl
  | [], _ :: _, h => by cases h
  | x :: l, b, h => by
    obtain ⟨k, n, hx⟩ := intsOk_at (intsEq_ok h) 0 (by simp)
    obtain rfl : x = .i k n := by simpa using hx
    obtain ⟨y, l', q, rfl, hq, hr⟩ := intsEq_cons h
    have hr' : (eqI n y && q) = true := hr.symm
    rw [Bool.and_eq_true, eqI_iff] at hr'
    obtain ⟨h1, rfl⟩ := hr'
    rw [of_decide_eq_true h1, intsEq_true hq]
theorem sameBits_self (n : Nat) : ∀ (l : List Value), (∀ v ∈ l, Instr.sameBits n v v = true) → ((l.zip l).all fun x => Instr.sameBits n x.1 x.2) = true
  | [], _ => rfl
  | v :: l, h => by
    rw [List.zip_cons_cons, List.all_cons, h v (by simp), sameBits_self n l fun x hx => h x (by simp [hx])]; rfl
theorem ints_same {l : List V} (h : intsOk l = true) : ∀ v ∈ concs E l, Instr.sameBits 9999 v v = true := by
  intro v hv
  rw [concs_map] at hv
  obtain ⟨x, hx, rfl⟩ := List.mem_map.1 hv
  obtain ⟨i, hi, he⟩ := List.mem_iff_getElem.1 hx
  obtain ⟨k, n, hk⟩ := intsOk_at h i hi
  rw [List.getElem?_eq_getElem hi, he] at hk
  obtain rfl := Option.some.inj hk
  simp [conc, Instr.sameBits]
theorem keyEq_conc {sh : Sh} {x y : V} (h : keyEq sh x y = some true) : conc E y = conc E x ∧ Instr.sameBits 10000 (conc E x) (conc E x) = true := by
  unfold keyEq at h
  split at h
  · rename_i ks a b
    cases hl : Nat.beq a.length ks.length with
    | false => rw [hl] at h; cases h
    | true =>
      rw [hl, cond_true] at h
      have hab := intsEq_true h
      subst hab
      refine ⟨rfl, ?_⟩
      show ((concs E a).toArray.size == (concs E a).toArray.size && ((concs E a).toArray.toList.zip (concs E a).toArray.toList).all fun (x, y) => Instr.sameBits 9999 x y) = true
      rw [beq_self_eq_true, Bool.true_and]
      exact sameBits_self 9999 _ (by simpa using ints_same (E := E) (intsEq_ok h))
  · rename_i k m k' n
    rw [sameK_iff] at h
    by_cases hk : k = k'
    · rw [decide_eq_true hk, cond_true, eqI_iff] at h
      have hm : m = n := by simpa using h
      subst hk hm
      exact ⟨rfl, by simp [conc, Instr.sameBits]⟩
    · rw [decide_eq_false hk] at h; cases h
  · rename_i n x m y
    rw [strEq_iff] at h
    have hb : bl n x = bl m y := by simpa using h
    refine ⟨by simp only [conc, ba, hb], ?_⟩
    have := ba_beq n x n x
    simp only [conc, Instr.sameBits, this, decide_true]
  · rename_i x y
    have hxy : x = y := by simpa using h
    subst hxy
    exact ⟨rfl, by simp [conc, Instr.sameBits]⟩
  · cases h
theorem onM_rc {v : V} {g : Nat → RC} {x : V} {M' : Mem} {c' : Nat} (h : onM v .f g = .k x M' c') : ∃ b, v = .m b ∧ g b = .k x M' c' := by
  cases v with
  | m b => exact ⟨b, rfl, h⟩
  | _ => cases (show RC.f = .k x M' c' from h)
theorem asMap_rc {o : Option Blk} {g : List (V × V × Nat) → Nat → RC} {x : V} {M' : Mem} {c' : Nat} (h : asMap o .f g = .k x M' c') : ∃ es k, o = some (.map es k) ∧ g es k = .k x M' c' := by
  cases o with
  | none => cases (show RC.f = .k x M' c' from h)
  | some b => cases b with
    | map es k => exact ⟨es, k, rfl, h⟩
    | _ => cases (show RC.f = .k x M' c' from h)
theorem setM_eq (M : Mem) (c b : Nat) (blk : Blk) (v : V) : setM M c b blk v = .k v (M.set b blk) c := Tr.force_eq _ _
theorem run_setObj {r : Nat} {o o' : Obj} (h : w.heap[r]? = some o) (hn : ∀ x y z, o ≠ .cells x y z) : (setObj r o').run P w = .ok () { w with heap := w.heap.setIfInBounds r o' } := by
  simp only [setObj, Sem.run, h]
theorem mu_run (h : Cx P E F M c w t a) {ty kt et : TypeId} (hu : P.underlying ty = some (.map kt et)) {sh : Sh} (hks : keySh P kt = some sh) {b : Nat} {es : List (V × V × Nat)} {clock : Nat} (hM : M.get b = some (.map es clock)) {k v x : V} (hbk : bd c k) (hbv : bd c v) {M' : Mem} {ct ct' : Nat}
    (he : e_mu1 M ct b es clock k v (findK sh k es 0) = .k x M' ct') : ∃ w', (Instr.mapUpdate ty (.map (some (E.ρ b))) (conc E k) (conc E v)).run P w = .ok () w' ∧ Stp P F E M c w E M' c w' ∧ x = undef ∧ ct' = ct := by
  obtain ⟨d, hd, hkk⟩ := keySh_kind hks
  obtain ⟨ho, hbd⟩ := h.map (look_some_M hM)
  unfold e_mu1 at he
  split at he
  · rename_i i v0 hf
    rw [setM_eq] at he
    injection he with g1 g2 g3
    subst g1 g2 g3
    have hfk := findKey_run (P := P) (w := w) (E := E) hd hkk hf
    have hck : ∀ b, (Instr.checkKey b 10000 kt (conc E k)).run P w = .ok () w := fun b => checkKey_run hd hkk (findK_ok hf) b 9998
    obtain ⟨_, k', b', hm, hkt⟩ := findK_at es 0 _ hf (i, v0) rfl
    obtain ⟨hke, hsb⟩ := keyEq_conc (E := E) hkt
    have hget : ((es.map (entry E)).toArray[i]?).map (·.key) = some (conc E k) := by
      simp only [Nat.sub_zero] at hm
      simp [hm, entry, hke]
    refine ⟨_, ?_, h.rel.write b _ (.map (setEnt k v es i) clock) hM (.map (((es.map (entry E)).modify i fun e => { e with key := conc E k, val := conc E v }).toArray) clock) ?_ { w with heap := w.heap.setIfInBounds (E.ρ b) (.map (((es.map (entry E)).modify i fun e => { e with key := conc E k, val := conc E v }).toArray) clock) } rfl rfl rfl rfl ?_, rfl, rfl⟩
    · have hso := run_setObj (P := P) (w := w) (o' := .map (((es.map (entry E)).modify i fun e => { e with key := conc E k, val := conc E v }).toArray) clock) ho (by intros; simp)
      simp only [Instr.mapUpdate, Sem.run_bind, run_und hu, Result.andThen_ok, run_getObj_map ho, hck, List.toList_toArray, hfk, Option.map_some, hget, Option.getD_some, Instr.keyThatStays, hsb, if_true, Sem.run_ite, Sem.run_pure]
      rw [← hso]
      congr 2
      simp
    · intro e hemem
      rcases setEnt_mem k v es i e hemem with h1 | ⟨h1, h2⟩
      · exact hbd e h1
      · exact ⟨h1 ▸ hbk, h2 ▸ hbv⟩
    · show _ = _
      rw [setEnt_map]
  · rename_i hf
    rw [fN_eq, setM_eq] at he
    injection he with g1 g2 g3
    subst g1 g2 g3
    have hfk := findKey_run (P := P) (w := w) (E := E) hd hkk hf
    have hck : ∀ b, (Instr.checkKey b 10000 kt (conc E k)).run P w = .ok () w := fun b => checkKey_run hd hkk (findK_ok hf) b 9998
    refine ⟨_, ?_, h.rel.write b _ (.map (snocE (k, v, clock) es) (clock + 1)) hM (.map ((es.map (entry E)).toArray.push { key := conc E k, val := conc E v, born := clock }) (clock + 1)) ?_ { w with heap := w.heap.setIfInBounds (E.ρ b) (.map ((es.map (entry E)).toArray.push { key := conc E k, val := conc E v, born := clock }) (clock + 1)) } rfl rfl rfl rfl ?_, rfl, rfl⟩
    · have hso := run_setObj (P := P) (w := w) (o' := .map ((es.map (entry E)).toArray.push { key := conc E k, val := conc E v, born := clock }) (clock + 1)) ho (by intros; simp)
      simp only [Instr.mapUpdate, Sem.run_bind, run_und hu, Result.andThen_ok, run_getObj_map ho, hck, List.toList_toArray, hfk, Option.map_none, hso]
    · intro e hemem
      rw [snocE_eq, List.mem_append, List.mem_singleton] at hemem
      rcases hemem with h1 | rfl
      · exact hbd e h1
      · exact ⟨hbk, hbv⟩
    · show _ = _
      rw [snocE_eq]; simp [entry]
  · cases he
theorem e_mapUpdate (h : Cx P E F M c w t a) {o : Oper} {ty : TypeId} {m y z : Operand} (hop : o.op = .mapUpdate ty m y z ∨ o.op = .insert ty m y z) {eo : EO} (hc : compOp P o.op = some (.e eo)) {k : Kn} (hk : k.F = F) {v : V} {M' : Mem} {ct ct' : Nat} (he : doE eo k M ct t = .k v M' ct') : EOk P F E M c ct w a o v M' ct' := by
  have hc' : (match P.underlying ty, compX m, compX y, compX z with
    | some (.map kt _), some m, some k, some v => (keySh P kt).map fun sh => OK.e (.mu sh m k v)
    | _, _, _, _ => none) = some (.e eo) := by rcases hop with hop | hop <;> (rw [hop] at hc; exact hc)
  split at hc'
  · rename_i kt et xm xk xv hu h1 h2 h3
    obtain ⟨sh, hks, e⟩ := Option.map_eq_some_iff.1 hc'
    obtain rfl : EO.mu sh xm xk xv = eo := by simpa using e
    obtain ⟨b, hv, hg⟩ := onM_rc (show onM (xm.ev t) .f (fun b => asMap (M.get b) .f fun es clock => e_mu1 M ct b es clock (xk.ev t) (xv.ev t) (findK sh (xk.ev t) es 0)) = .k v M' ct' from he)
    obtain ⟨es, clock, hM, hg⟩ := asMap_rc hg
    have e1 := h.ev h1
    have e2 := h.ev h2
    have e3 := h.ev h3
    rw [hv] at e1
    obtain ⟨w', hrun, hS, rfl, rfl⟩ := mu_run h hu hks hM e2.2 e3.2 hg
    refine ⟨E, w', .skip, c, ?_, .inr ⟨rfl, rfl⟩, hS, trivial, .refl _ _⟩
    rcases hop with hop | hop <;> simp only [execOp, hop, e1.1, e2.1, e3.1, conc, Sem.run_bind, hrun, Result.andThen_ok, Sem.run_pure]
  · cases hc'
end
end Go.Proofs.YtaogopbhjinmoaaGreatDoor.Ev
namespace Go.Proofs.YtaogopbhjinmoaaGreatDoor.Ev
open Go
theorem delEnt_map (E : Env) : ∀ (es : List (V × V × Nat)) (i : Nat), (delEnt es i).map (entry E) = (es.map (entry E)).eraseIdx i
  | [], i => by simp [delEnt]
  | h :: es, 0 => by simp [delEnt]
  | h :: es, i + 1 => by simp [delEnt, delEnt_map E es i]
theorem delEnt_mem : ∀ (es : List (V × V × Nat)) (i : Nat) (e : V × V × Nat), e ∈ delEnt es i → e ∈ es
  | [], i, e, h => by simp [delEnt] at h
  | x :: es, 0, e, h => by simp only [delEnt] at h; simp [h]
  | x :: es, i + 1, e, h => by
    simp only [delEnt, List.mem_cons] at h
    rcases h with rfl | h
    · simp
    · simp [delEnt_mem es i e h]
section
variable {P : Program} {E : Env} {F : RO} {M : Mem} {c : Nat → Prop} {w : World} {t : T} {a : Act}
theorem same_heap {r : Nat} {o : Obj} (h : w.heap[r]? = some o) : w.heap.setIfInBounds r o = w.heap := by
  apply Array.ext_getElem?
  intro j
  by_cases e : r = j
  · subst e
    have hlt := (Array.getElem?_eq_some_iff.1 h).1
    rw [h]; simp [hlt]
  · rw [Array.getElem?_setIfInBounds_ne e]
theorem e_delete (h : Cx P E F M c w t a) {o : Oper} {cl : Call} (hop : o.op = .call cl) (hb : cl.callee = .builtin .delete) {m y : Operand} {ty : TypeId} {ts : List TypeId} (hargs : cl.args.toList = [m, y]) (htys : cl.argTypes.toList = ty :: ts) {kt et : TypeId} (hu : P.underlying ty = some (.map kt et)) {sh : Sh} (hks : keySh P kt = some sh)
    {xm xk : X} (h1 : compX m = some xm) (h2 : compX y = some xk) {k : Kn} {v : V} {M' : Mem} {ct ct' : Nat} (he : doE (.del sh xm xk) k M ct t = .k v M' ct') : EOk P F E M c ct w a o v M' ct' := by
  obtain ⟨b, hv, hg⟩ := onM_rc (show onM (xm.ev t) .f (fun b => asMap (M.get b) .f fun es clock => e_del1 M ct b es clock (findK sh (xk.ev t) es 0)) = .k v M' ct' from he)
  obtain ⟨es, clock, hM, hg⟩ := asMap_rc hg
  obtain ⟨d, hd, hkk⟩ := keySh_kind hks
  obtain ⟨ho, hbd⟩ := h.map (look_some_M hM)
  have e1 := h.ev h1
  have e2 := h.ev h2
  rw [hv] at e1
  have hat : cl.argTypes[0]? = some ty := by rw [arr_of_list htys]; rfl
  unfold e_del1 at hg
  split at hg
  · rename_i i v0 hf
    rw [setM_eq] at hg
    injection hg with g1 g2 g3
    subst g1 g2 g3
    have hfk := findKey_run (P := P) (w := w) (E := E) hd hkk hf
    have hck : ∀ b, (Instr.checkKey b 10000 kt (conc E (xk.ev t))).run P w = .ok () w := fun b => checkKey_run hd hkk (findK_ok hf) b 9998
    have hso := run_setObj (P := P) (w := w) (o' := .map ((es.map (entry E)).toArray.eraseIdxIfInBounds i) clock) ho (by intros; simp)
    refine ⟨E, { w with heap := w.heap.setIfInBounds (E.ρ b) (.map ((es.map (entry E)).toArray.eraseIdxIfInBounds i) clock) }, .value (.tuple #[]), c, exec_builtin hop hb hargs ?_, .inl rfl, h.rel.write b _ (.map (delEnt es i) clock) hM (.map ((es.map (entry E)).toArray.eraseIdxIfInBounds i) clock) ?_ _ rfl rfl rfl rfl ?_, trivial, .refl _ _⟩
    · simp only [builtin]
      refine val_run ?_
      simp only [Builtin.delete_, hat, e1.1, e2.1, conc, List.map_cons, List.map_nil, List.getElem?_toArray, List.getElem?_cons_zero, List.getElem?_cons_succ, Sem.run_bind, run_und hu, Result.andThen_ok, run_getObj_map ho, hck, List.toList_toArray, hfk, Option.map_some, hso, Sem.run_pure]
    · exact fun e hemem => hbd e (delEnt_mem es i e hemem)
    · show _ = _
      rw [delEnt_map]; simp
  · rename_i hf
    injection hg with g1 g2 g3
    subst g1 g2 g3
    have hfk := findKey_run (P := P) (w := w) (E := E) hd hkk hf
    have hck : ∀ b, (Instr.checkKey b 10000 kt (conc E (xk.ev t))).run P w = .ok () w := fun b => checkKey_run hd hkk (findK_ok hf) b 9998
    have hso := run_setObj (P := P) (w := w) (o' := .map (es.map (entry E)).toArray clock) ho (by intros; simp)
    rw [same_heap ho] at hso
    refine ⟨E, w, .value (.tuple #[]), c, exec_builtin hop hb hargs ?_, .inl rfl, .refl h.rel, trivial, .refl _ _⟩
    simp only [builtin]
    refine val_run ?_
    simp only [Builtin.delete_, hat, e1.1, e2.1, conc, List.map_cons, List.map_nil, List.getElem?_toArray, List.getElem?_cons_zero, List.getElem?_cons_succ, Sem.run_bind, run_und hu, Result.andThen_ok, run_getObj_map ho, hck, List.toList_toArray, hfk, Option.map_none, hso, Sem.run_pure]
  · cases hg
theorem e_mark (h : Cx P E F M c w t a) {o : Oper} {s : TypeId} {y : Operand} (hop : o.op = .convert s s y) {el : TypeId} (hu : P.underlying s = some (.slice el)) (hel : P.underlying el = some (.int .u8)) {x : X} (hx : compX y = some x)
    {k : Kn} {v : V} {M' : Mem} {ct ct' : Nat} (he : doE (.ms x) k M ct t = .k v M' ct') : EOk P F E M c ct w a o v M' ct' := by
  have he' : e_ms x k.F M ct t = .k v M' ct' := he
  unfold e_ms at he'
  split at he'
  · rename_i b off n cp hv
    unfold msIn at he'
    split at he'
    · rename_i ty m d cs hM
      rw [setM_eq] at he'
      injection he' with g1 g2 g3
      subst g1 g2 g3
      have e := h.ev hx
      rw [hv] at e
      obtain ⟨arr, fr, ho, hr⟩ := h.cells (look_some_M hM)
      have hsz := hr.size
      simp only [if_true] at hsz
      have hfr : fr.1 = fr.2 := by
        rcases hr.plain rfl with e | ⟨e, _⟩
        · exact e
        · exact absurd rfl e
      have hshape : w.shape? (E.ρ b) = some (ty, m) := by simp [World.shape?, ho, hsz.2]
      have hfz : w.freeze ⟨E.ρ b, m, none⟩ 1 = { w with heap := w.heap.setIfInBounds (E.ρ b) (.cells arr ty (m, m + 1)) } := by
        unfold World.freeze
        rw [if_neg (by decide), modify_eq _ ho]
        simp [hfr]
      refine ⟨E, { w with heap := w.heap.setIfInBounds (E.ρ b) (.cells arr ty (m, m + 1)) }, .value (conc E (.l b off n cp)), c, ?_, .inl rfl, h.rel.write b _ _ hM (.cells arr ty (m, m + 1)) ?_ _ rfl rfl rfl rfl ?_, e.2, .refl _ _⟩
      · simp only [execOp, hop]
        refine val_run ?_
        rw [e.1]
        simp only [convert, Sem.run_bind, run_und hu, Result.andThen_ok, conc, beq_self_eq_true, run_und hel, markStringish, run_shape, hshape, run_freeze, hfz, Sem.run_pure]
      · exact (h.rel.has _ _ (look_some_M hM)).2.1
      · refine ⟨arr, _, rfl, ⟨hr.cell, hr.size, ?_, fun hf => by cases hf⟩⟩
        intro o' _ ho' hf
        have := hf.1
        simp only at this
        omega
    · cases he'
  · cases he'
end
end Go.Proofs.YtaogopbhjinmoaaGreatDoor.Ev
namespace Go.Proofs.YtaogopbhjinmoaaGreatDoor.Ev
open Go
section
variable {P : Program} {E : Env} {F : RO} {M : Mem} {c : Nat → Prop} {w : World} {t : T} {a : Act}
theorem Cx.world {w' : World} (h : Cx P E F M c w t a) (hh : w'.heap = w.heap) : Cx P E F M c w' t a := ⟨h.rel.world hh, h.glob, h.big, h.tr, h.bt⟩
theorem Rel.drop (h : Rel P E F M c w) (b : Nat) : Stp P F E M c w E (M.del b) c w := by
  have hl : ∀ x y, look F (M.del b) x = some y → look F M x = some y ∨ (x = b ∧ roGet F x = some y) := by
    intro x y hx
    by_cases e : x = b
    · right
      refine ⟨e, ?_⟩
      rwa [look_none_M (by rw [Tr.get_del, if_pos e])] at hx
    · left
      rwa [look_congr (M := M) (by rw [Tr.get_del, if_neg e])] at hx
  have hl' : ∀ x y, look F (M.del b) x = some y → look F M x = some y := by
    intro x y hx
    rcases hl x y hx with h1 | ⟨h1, h2⟩
    · exact h1
    · rw [look_none_M (h.apart x (by rw [h2]; rfl))]; exact h2
  have hs : ∀ x, (look F (M.del b) x).isSome → (look F M x).isSome := by
    intro x hx
    obtain ⟨y, hy⟩ := Option.isSome_iff_exists.1 hx
    rw [hl' x y hy]; rfl
  refine ⟨.refl c E, fun _ h => h, ⟨fun x y hx => h.has x y (hl' x y hx), fun x x' hx hx' e => h.inj x x' (hs x hx) (hs x' hx') e, fun x hx => ?_⟩, fun x hx => ?_, fun _ _ _ => rfl, Nat.le_refl _, rfl, rfl, rfl⟩
  · rw [Tr.get_del]; split
    · rfl
    · exact h.apart x hx
  · rw [Tr.get_del] at hx
    split at hx
    · cases hx
    · exact .inl ⟨x, hx, rfl⟩
theorem Rel.take (h : Rel P E F M c w) (b n : Nat) (blk blk' : Blk) (hb : M.get b = some blk) (o' : Obj) (β' κ' : Nat) (c' : Nat → Prop) (hn : ¬ c n) (hn' : c' n) (hcc : ∀ b, c b → c' b)
    (hbd : bdBlk c' blk') (w' : World) (hh : w'.heap = w.heap.setIfInBounds (E.ρ b) o') (hos : w'.os = w.os) (hout : w'.output = w.output) (htape : w'.tape = w.tape)
    (hr : ∀ E' : Env, Ext c E E' → E'.ρ n = E.ρ b → E'.β n = β' → E'.κ n = κ' → BlkRel P E' n blk' o') :
    ∃ E', Stp P F E M c w E' ((M.del b).set n blk') c' w' ∧ E'.ρ n = E.ρ b ∧ E'.β n = β' ∧ E'.κ n = κ' := by
  let E' : Env := ⟨fun x => if x = n then E.ρ b else E.ρ x, fun x => if x = n then β' else E.β x, fun x => if x = n then κ' else E.κ x⟩
  have he : Ext (· ≠ n) E E' := ⟨fun x hx => if_neg hx, fun x hx => if_neg hx, fun x hx => if_neg hx⟩
  have hec : Ext c E E' := he.sub fun x hx e => hn (e ▸ hx)
  have hρ : E'.ρ n = E.ρ b := if_pos rfl
  have hbc := (h.has b blk (look_some_M hb)).1
  have hbn : b ≠ n := fun e => hn (e ▸ hbc)
  have hlt : E.ρ b < w.heap.size := by
    obtain ⟨_, _, o, ho, _⟩ := h.has b blk (look_some_M hb)
    exact (Array.getElem?_eq_some_iff.1 ho).1
  have hold : ∀ x y, look F ((M.del b).set n blk') x = some y → x ≠ n → x ≠ b ∧ look F M x = some y := by
    intro x y hx hne
    rw [look_congr (M := M.del b) (by rw [Tr.get_set, if_neg hne])] at hx
    by_cases e : x = b
    · exfalso
      rw [look_none_M (by rw [Tr.get_del, if_pos e])] at hx
      have := h.apart x (by rw [hx]; rfl)
      rw [e, hb] at this; cases this
    · exact ⟨e, by rwa [look_congr (M := M) (by rw [Tr.get_del, if_neg e])] at hx⟩
  refine ⟨E', ⟨hec, hcc, ⟨?_, ?_, ?_⟩, ?_, ?_, ?_, hos, hout, htape⟩, hρ, if_pos rfl, if_pos rfl⟩
  · intro x y hx
    by_cases hxn : x = n
    · subst hxn
      rw [look_some_M (by rw [Tr.get_set, if_pos rfl])] at hx
      obtain rfl : blk' = y := by simpa using hx
      exact ⟨hn', hbd, o', by rw [hρ, hh]; simp [hlt], hr E' hec hρ (if_pos rfl) (if_pos rfl)⟩
    · obtain ⟨hxb, hx'⟩ := hold x y hx hxn
      obtain ⟨h1, h2, o, h3, h4⟩ := h.has x y hx'
      refine ⟨hcc x h1, bdBlk_mono hcc y h2, o, ?_, h4.ext hec h1 h2⟩
      have hne : E.ρ b ≠ E.ρ x := fun e' => hxb (h.inj b x (by rw [look_some_M hb]; rfl) (by rw [hx']; rfl) e').symm
      rw [hec.ρ x h1, hh, Array.getElem?_setIfInBounds_ne hne]
      exact h3
  · have key : ∀ x y, look F ((M.del b).set n blk') x = some y → x ≠ n → E'.ρ x ≠ E.ρ b := by
      intro x y hx hxn e
      obtain ⟨hxb, hx'⟩ := hold x y hx hxn
      rw [hec.ρ x (h.has x y hx').1] at e
      exact hxb (h.inj x b (by rw [hx']; rfl) (by rw [look_some_M hb]; rfl) e)
    intro x x' hx hx' e
    obtain ⟨y, hy⟩ := Option.isSome_iff_exists.1 hx
    obtain ⟨y', hy'⟩ := Option.isSome_iff_exists.1 hx'
    by_cases h1 : x = n
    · by_cases h2 : x' = n
      · rw [h1, h2]
      · rw [h1, hρ] at e; exact absurd e.symm (key x' y' hy' h2)
    · by_cases h2 : x' = n
      · rw [h2, hρ] at e; exact absurd e (key x y hy h1)
      · obtain ⟨_, g1⟩ := hold x y hy h1
        obtain ⟨_, g2⟩ := hold x' y' hy' h2
        rw [hec.ρ x (h.has x y g1).1, hec.ρ x' (h.has x' y' g2).1] at e
        exact h.inj x x' (by rw [g1]; rfl) (by rw [g2]; rfl) e
  · intro x hx
    have hM := h.apart x hx
    obtain ⟨y, hy⟩ := Option.isSome_iff_exists.1 hx
    have hxc := (h.has x y (by rw [look_none_M hM]; exact hy)).1
    rw [Tr.get_set, if_neg (fun e : x = n => hn (e ▸ hxc)), Tr.get_del]
    split
    · rfl
    · exact hM
  · intro x hx
    by_cases hxn : x = n
    · exact .inl ⟨b, by rw [hb]; rfl, by rw [hxn, hρ]⟩
    · rw [Tr.get_set, if_neg hxn, Tr.get_del] at hx
      split at hx
      · cases hx
      · obtain ⟨y, hy⟩ := Option.isSome_iff_exists.1 hx
        exact .inl ⟨x, hx, (hec.ρ x (h.has x y (look_some_M hy)).1).symm⟩
  · intro r _ hnr
    have hne : E.ρ b ≠ r := hnr b (by rw [hb]; rfl)
    rw [hh, Array.getElem?_setIfInBounds_ne hne]
  · rw [hh]; simp
def ZerosOk (P : Program) (ats : Array TypeId) : Prop := (∃ t2 d, ats[1]? = some t2 ∧ P.underlying t2 = some d ∧ ∀ k, d ≠ .int k) ∨ ats[1]? = none
theorem append_grow_run {ats : Array TypeId} {rty ty e : TypeId} {i : TypeInfo} {z : Value} (hat : ats[0]? = some ty) (hu : P.underlying ty = some (.slice e)) (hzs : ZerosOk P ats) (hi : P.info? e = some i) (hz : i.zero = some z)
    {X : Value} {base : Option Addr} {sLen sCap n : Nat} {old new : Array Value} (hlen : (Builtin.lenOf X).run P w = .ok n w) (hold : (Builtin.firstCells i.size sLen (.slice base sLen sCap)).run P w.drew = .ok old w.drew)
    (hnew : (Builtin.firstCells i.size n X).run P w.drew = .ok new w.drew) (hg : sCap < sLen + n) (h63 : sLen + n ≤ 9223372036854775807) (h48 : Builtin.nextslicecap (sLen + n) sCap * i.bytes ≤ 281474976710656) :
    (Builtin.append_ ats rty #[.slice base sLen sCap, X]).run P w = .ok (.slice (some ⟨w.heap.size, 0, none⟩) (sLen + n) (grownCap w (sLen + n) sCap e))
      (w.drew.alloc (.cells (old ++ new ++ Builtin.zeroCells z.cells (grownCap w (sLen + n) sCap e - (sLen + n))) e)) := by
  have hn : ¬ (sLen + n ≤ sCap) := by omega
  have h63' : ¬ (9223372036854775807 < ((sLen : Int) + (n : Int))) := by omega
  have h48' : ¬ (281474976710656 < Builtin.nextslicecap (sLen + n) sCap * i.bytes) := by omega
  rcases hzs with ⟨t2, d, h1, h2, h3⟩ | h1
  · have hd : (d matches .int _) = false := by cases d <;> first | rfl | exact absurd rfl (h3 _)
    simp [Builtin.append_, hat, h1, run_underlying hu, run_underlying h2, hd, Go.sizeOf, typeInfo, zeroValue, hi, hz, hlen, hn, h63', h48', Question.forced, hold, hnew, newRow, grownCap]
  · simp [Builtin.append_, hat, h1, run_underlying hu, Go.sizeOf, typeInfo, zeroValue, hi, hz, hlen, hn, h63', h48', Question.forced, hold, hnew, newRow, grownCap]
theorem append_in_run {ats : Array TypeId} {rty ty e : TypeId} {i : TypeInfo} (hat : ats[0]? = some ty) (hu : P.underlying ty = some (.slice e)) (hzs : ZerosOk P ats) (hi : P.info? e = some i)
    {X : Value} {ad : Addr} {sLen sCap n : Nat} {new : Array Value} {w' : World} (hlen : (Builtin.lenOf X).run P w = .ok n w)
    (hnew : (Builtin.firstCells i.size n X).run P w = .ok new w) (hg : sLen + n ≤ sCap) (hst : (storeCells (ad.add (sLen * i.size)) new.toList).run P w = .ok () w') :
    (Builtin.append_ ats rty #[.slice (some ad) sLen sCap, X]).run P w = .ok (.slice (some ad) (sLen + n) sCap) w' := by
  rcases hzs with ⟨t2, d, h1, h2, h3⟩ | h1
  · have hd : (d matches .int _) = false := by cases d <;> first | rfl | exact absurd rfl (h3 _)
    simp [Builtin.append_, hat, h1, run_underlying hu, run_underlying h2, hd, Go.sizeOf, typeInfo, hi, hlen, hg, hnew, hst]
  · simp [Builtin.append_, hat, h1, run_underlying hu, Go.sizeOf, typeInfo, hi, hlen, hg, hnew, hst]
theorem append_zero_run {ats : Array TypeId} {rty ty e : TypeId} {i : TypeInfo} (hat : ats[0]? = some ty) (hu : P.underlying ty = some (.slice e)) (hzs : ZerosOk P ats) (hi : P.info? e = some i)
    {X : Value} {base : Option Addr} {sLen sCap : Nat} (hlen : (Builtin.lenOf X).run P w = .ok 0 w)
    (hnew : (Builtin.firstCells i.size 0 X).run P w = .ok #[] w) (hg : sLen ≤ sCap) :
    (Builtin.append_ ats rty #[.slice base sLen sCap, X]).run P w = .ok (.slice base sLen sCap) w := by
  rcases hzs with ⟨t2, d, h1, h2, h3⟩ | h1
  · have hd : (d matches .int _) = false := by cases d <;> first | rfl | exact absurd rfl (h3 _)
    cases base <;> simp [Builtin.append_, hat, h1, run_underlying hu, run_underlying h2, hd, Go.sizeOf, typeInfo, hi, hlen, hg, hnew, storeCells]
  · cases base <;> simp [Builtin.append_, hat, h1, run_underlying hu, Go.sizeOf, typeInfo, hi, hlen, hg, hnew, storeCells]
theorem srcRun (h : Cx P E F M c w t a) {sz n : Nat} {y : V} {new : List V} (hs : splitSrc F M sz y = some (n, new)) :
    (Builtin.lenOf (conc E y)).run P w = .ok n w ∧ (Builtin.firstCells sz n (conc E y)).run P w = .ok (concs E new).toArray w ∧ bds c new := by
  unfold splitSrc at hs
  split at hs
  · rename_i m x
    rw [beqN] at hs
    by_cases h1 : sz = 1
    · rw [decide_eq_true h1, cond_true] at hs
      simp only [Option.some.injEq, Prod.mk.injEq] at hs
      obtain ⟨rfl, rfl⟩ := hs
      refine ⟨by simp [conc, Builtin.lenOf, ba_size], ?_, byteCells_bd _ _⟩
      simp only [conc, Builtin.firstCells, Sem.run_pure, byteCells_conc]
      congr 1
      have he : (ba m x).extract 0 m = ba m x := by
        apply ByteArray.ext
        rw [ByteArray.data_extract]
        have h2 := Array.extract_size (xs := (ba m x).data)
        have h3 : (ba m x).data.size = m := ba_size m x
        rwa [h3] at h2
      rw [he]
      simp [ba]
    · rw [decide_eq_false h1] at hs; cases hs
  · rename_i y' hne
    split at hs
    · rename_i k hk
      unfold snd1 at hs
      split at hs
      · rename_i vs r hr
        simp only [Option.some.injEq, Prod.mk.injEq] at hs
        obtain ⟨rfl, rfl⟩ := hs
        obtain ⟨⟨ad, len, cap, hcv, hld⟩, hb, hl⟩ := h.readL hr
        rcases lenV_slice (E := E) hk with ⟨ad', cap', hcv'⟩ | ⟨x, hx⟩
        · rw [hcv] at hcv'
          injection hcv' with e1 e2 e3
          subst e1 e2 e3
          rw [hcv]
          refine ⟨by simp [Builtin.lenOf], ?_, hb⟩
          cases ad with
          | none => simp only at hld; subst hld; simp [Builtin.firstCells, concs]
          | some ad => simp only [Builtin.firstCells]; exact hld
        · exact absurd hx (hne _ _)
      · cases hs
    · cases hs
theorem zOk_zero {e sz : Nat} {i : TypeInfo} (hi : P.info? e = some i) (h : zOk P e sz = true) : ∃ z, i.zero = some z ∧ z.cells.size = sz := by
  unfold zOk at h
  split at h
  · rename_i z hz
    unfold zeroV at hz
    rw [hi] at hz
    obtain ⟨zv, h1, h2⟩ := Option.bind_eq_some_iff.1 hz
    have h1' : i.zero = some zv := by simpa using h1
    have := (toV_conc ⟨id, id, id⟩ (fun _ => True) _ _ _ h2).1
    refine ⟨zv, h1', ?_⟩
    rw [← this, flatten_cells, ← cellsOfV_eq]
    simp [concs_map]
    simpa using h
  · cases h
theorem zeroCells_size (zero : Array Value) (n : Nat) : (Builtin.zeroCells zero n).size = n * zero.size := by simp [Builtin.zeroCells]
theorem concs_append (E : Env) (l r : List V) : concs E (l ++ r) = concs E l ++ concs E r := by simp [concs_map]
theorem bds_append {l r : List V} (h : bds c l) (h' : bds c r) : bds c (l ++ r) := by
  rw [bds_iff] at *
  intro v hv
  rcases List.mem_append.1 hv with hv | hv
  · exact h v hv
  · exact h' v hv
theorem grown_rel {E' : Env} {b e len fz cap : Nat} {str : Bool} {vs : List V} {zero : Array Value} (he : Ext c E E') (hb : bds c vs) (hβ : E'.β b = 0) (hκ : E'.κ b = cap - len) (hl : vs.length = len * P.cellsOf e) (hc : len ≤ cap) (hz : zero.size = P.cellsOf e) :
    BlkRel P E' b (.cells e vs.length false fz str [] (listTr vs 0 .e)) (.cells ((concs E vs).toArray ++ Builtin.zeroCells zero (cap - len)) e) := by
  refine ⟨_, _, rfl, ⟨fun k v hk => ?_, ?_, ?_, fun _ => .inl rfl⟩⟩
  · have hk' := cell_list hk
    have hlt : k < vs.length := (List.getElem?_eq_some_iff.1 hk').1
    rw [hβ, Nat.zero_add, conc_ext he v (bds_get hb hk'), Array.getElem?_append_left (by simpa [concs_map] using hlt)]
    simp [concs_get hk']
  · simp only [Bool.false_eq_true, if_false]
    rw [Array.size_append, zeroCells_size, hβ, hκ, hz]
    simp [concs_map]
  · intro o _ ho hf
    have h1 := hf.1
    have h2 := hf.2
    simp only at h1 h2
    omega
end
end Go.Proofs.YtaogopbhjinmoaaGreatDoor.Ev
