/- What is proved here: pieces of the evaluator's soundness: if the evaluator comes to a value, the model's run comes to it, for every world and tape; no conditions beyond the hypotheses of each theorem. -/
import Derived.Test.YtpokoiicogheaaaGreatDoorEv1
import Derived.Lib.UnsafeStr
import Derived.RangeFuncRecord
import Derived.LoopNIn
import Derived.RangeFuncNested
import Derived.OrdersIn
set_option linter.unusedSimpArgs false
set_option linter.unusedVariables false
set_option linter.defProp false
namespace Go.Proofs.YtpokoiicogheaaaGreatDoor.Ev
open Go
noncomputable section
theorem setEnt_map (E : Env) (k v : V) : ∀ (es : List (V × V × Nat)) (i : Nat), (setEnt k v es i).map (entry E) = (es.map (entry E)).modify i fun e => { e with key := conc E k, val := conc E v }
 | [], i => by simp [setEnt]
 | (k', v', b) :: es, 0 => by simp [setEnt, entry]
 | (k', v', b) :: es, i + 1 => by simp [setEnt, setEnt_map E k v es i]
theorem setEnt_mem (k v : V) : ∀ (es : List (V × V × Nat)) (i : Nat) (e : V × V × Nat), e ∈ setEnt k v es i → e ∈ es ∨ (e.1 = k ∧ e.2.1 = v)
 | [], i, e, h => by simp [setEnt] at h
 | (k', v', b) :: es, 0, e, h => by
   simp only [setEnt, List.mem_cons] at h
   rcases h with rfl | h
   · exact .inr ⟨rfl, rfl⟩
   · exact .inl (by simp [h])
 | (k', v', b) :: es, i + 1, e, h => by
   simp only [setEnt, List.mem_cons] at h
   rcases h with rfl | h
   · exact .inl (by simp)
   · rcases setEnt_mem k v es i e h with h | h
     · exact .inl (by simp [h])
     · exact .inr h
theorem snocE_eq (x : V × V × Nat) : ∀ es, snocE x es = es ++ [x]
 | [] => rfl
 | h :: r => by rw [snocE, snocE_eq x r]; rfl
section
variable {P : Program} {E : Env} {F : RO} {M : Mem} {c : Nat → Prop} {w : World} {t : T} {a : Act}
theorem intsEq_true : ∀ {a b : List V}, intsEq a b = some true → a = b
 | [], [], _ => rfl
 | [], _ :: _, h => by cases h
 | x :: l, b, h => by
   obtain ⟨k, n, hx⟩ := intsOk_at (intsEq_ok h) 0 (by simp)
   obtain rfl : x = .i k n := by simpa using hx
   obtain ⟨y, l', q, rfl, hq, hr⟩ := intsEq_cons h
   have hr' : (eqI n y && q) = true := hr.symm
   rw [Bool.and_eq_true, eqI_iff] at hr'
   obtain ⟨h1, rfl⟩ := hr'
   rw [of_decide_eq_true h1, intsEq_true hq]
theorem sameBits_self (n : Nat) : ∀ (l : List Value), (∀ v ∈ l, Instr.sameBits n v v = true) → ((l.zip l).all fun x => Instr.sameBits n x.1 x.2) = true
 | [], _ => rfl
 | v :: l, h => by
   rw [List.zip_cons_cons, List.all_cons, h v (by simp), sameBits_self n l fun x hx => h x (by simp [hx])]; rfl
theorem ints_same {l : List V} (h : intsOk l = true) : ∀ v ∈ concs E l, Instr.sameBits 9999 v v = true := by
 intro v hv
 rw [concs_map] at hv
 obtain ⟨x, hx, rfl⟩ := List.mem_map.1 hv
 obtain ⟨i, hi, he⟩ := List.mem_iff_getElem.1 hx
 obtain ⟨k, n, hk⟩ := intsOk_at h i hi
 rw [List.getElem?_eq_getElem hi, he] at hk
 obtain rfl := Option.some.inj hk
 simp [conc, Instr.sameBits]
theorem keyEq_conc {sh : Sh} {x y : V} (h : keyEq sh x y = some true) : conc E y = conc E x ∧ Instr.sameBits 10000 (conc E x) (conc E x) = true := by
 unfold keyEq at h
 split at h
 · rename_i ks a b
   cases hl : Nat.beq a.length ks.length with
   | false => rw [hl] at h; cases h
   | true =>
     rw [hl, cond_true] at h
     have hab := intsEq_true h
     subst hab
     refine ⟨rfl, ?_⟩
     show ((concs E a).toArray.size == (concs E a).toArray.size && ((concs E a).toArray.toList.zip (concs E a).toArray.toList).all fun (x, y) => Instr.sameBits 9999 x y) = true
     rw [beq_self_eq_true, Bool.true_and]
     exact sameBits_self 9999 _ (by simpa using ints_same (E := E) (intsEq_ok h))
 · rename_i k m k' n
   rw [sameK_iff] at h
   by_cases hk : k = k'
   · rw [decide_eq_true hk, cond_true, eqI_iff] at h
     have hm : m = n := by simpa using h
     subst hk hm
     exact ⟨rfl, by simp [conc, Instr.sameBits]⟩
   · rw [decide_eq_false hk] at h; cases h
 · rename_i n x m y
   rw [strEq_iff] at h
   have hb : bl n x = bl m y := by simpa using h
   refine ⟨by simp only [conc, ba, hb], ?_⟩
   have := ba_beq n x n x
   simp only [conc, Instr.sameBits, this, decide_true]
 · rename_i x y
   have hxy : x = y := by simpa using h
   subst hxy
   exact ⟨rfl, by simp [conc, Instr.sameBits]⟩
 · cases h
theorem onM_rc {v : V} {g : Nat → RC} {x : V} {M' : Mem} {c' : Nat} (h : onM v .f g = .k x M' c') : ∃ b, v = .m b ∧ g b = .k x M' c' := by
 cases v with
 | m b => exact ⟨b, rfl, h⟩
 | _ => cases (show RC.f = .k x M' c' from h)
theorem asMap_rc {o : Option Blk} {g : List (V × V × Nat) → Nat → RC} {x : V} {M' : Mem} {c' : Nat} (h : asMap o .f g = .k x M' c') : ∃ es k, o = some (.map es k) ∧ g es k = .k x M' c' := by
 cases o with
 | none => cases (show RC.f = .k x M' c' from h)
 | some b => cases b with
   | map es k => exact ⟨es, k, rfl, h⟩
   | _ => cases (show RC.f = .k x M' c' from h)
theorem setM_eq (M : Mem) (c b : Nat) (blk : Blk) (v : V) : setM M c b blk v = .k v (M.set b blk) c := Tr.force_eq _ _
theorem run_setObj {r : Nat} {o o' : Obj} (h : w.heap[r]? = some o) (hn : ∀ x y z, o ≠ .cells x y z) : (setObj r o').run P w = .ok () { w with heap := w.heap.setIfInBounds r o' } := by
 simp only [setObj, Sem.run, h]
theorem MapS.bd {es es' : List (V × V × Nat)} {k k' : Nat} (h : MapS es k es' k') (hb : ∀ e ∈ es, bd c e.1 ∧ bd c e.2.1) : ∀ e ∈ es', bd c e.1 ∧ bd c e.2.1 := by
 rcases h with ⟨_, rfl, _⟩ | ⟨_, _, hp⟩
 · exact hb
 · exact perm_sub hp (Q := fun a b => Ev.bd c a ∧ Ev.bd c b) hb
open Classical in
def repl (k v : V) (p : V × V) : V × V := if p.1 = k then (k, v) else p
theorem repl_id {k v : V} : ∀ {es : List (V × V × Nat)}, (∀ e ∈ es, e.1 ≠ k) → (kvE es).map (repl k v) = kvE es
 | [], _ => rfl
 | (k', v', b) :: es, h => by
   have h0 : k' ≠ k := h _ (List.mem_cons_self ..)
   have ih := repl_id (k := k) (v := v) (es := es) fun e he => h e (List.mem_cons_of_mem _ he)
   unfold kvE at ih ⊢
   rw [List.map_cons, List.map_cons, ih]
   congr 1
   exact if_neg h0
theorem setEnt_kv {k v : V} : ∀ {es : List (V × V × Nat)} {i : Nat} {v0 : V} {b0 : Nat}, (es.map (·.1)).Nodup → es[i]? = some (k, v0, b0) → kvE (setEnt k v es i) = (kvE es).map (repl k v)
 | [], i, v0, b0, _, h => by cases i <;> cases h
 | (k', v', b) :: es, 0, v0, b0, hn, h => by
   have h := Option.some.inj (show some (k', v', b) = some (k, v0, b0) from h)
   injection h with e1 _
   subst e1
   rw [List.map_cons, List.nodup_cons] at hn
   have ih := repl_id (k := k') (v := v) (es := es) fun e he e1 => hn.1 (List.mem_map.2 ⟨e, he, e1⟩)
   unfold kvE at ih ⊢
   rw [setEnt, List.map_cons, List.map_cons, List.map_cons, ih]
   congr 1
   exact (if_pos rfl).symm
 | (k', v', b) :: es, i + 1, v0, b0, hn, h => by
   rw [List.map_cons, List.nodup_cons] at hn
   have h : es[i]? = some (k, v0, b0) := h
   have h0 : k' ≠ k := fun e1 => hn.1 (List.mem_map.2 ⟨_, List.mem_of_getElem? h, e1.symm⟩)
   have ih := setEnt_kv (v := v) hn.2 h
   unfold kvE at ih ⊢
   rw [setEnt, List.map_cons, List.map_cons, List.map_cons, ih]
   congr 1
   exact (if_neg h0).symm
theorem setEnt_keys {k v : V} : ∀ {es : List (V × V × Nat)} {i : Nat} {v0 : V} {b0 : Nat}, es[i]? = some (k, v0, b0) → (setEnt k v es i).map (·.1) = es.map (·.1)
 | [], i, v0, b0, h => by cases i <;> cases h
 | (k', v', b) :: es, 0, v0, b0, h => by
   have h := Option.some.inj (show some (k', v', b) = some (k, v0, b0) from h)
   injection h with e1 _
   subst e1
   rw [setEnt, List.map_cons, List.map_cons]
 | (k', v', b) :: es, i + 1, v0, b0, h => by
   rw [setEnt, List.map_cons, List.map_cons, setEnt_keys (es := es) (i := i) h]
theorem find_key {sh : Sh} {x v : V} {es : List (V × V × Nat)} {i : Nat} (hK : KeysI es) (hf : findK sh x es 0 = some (some (i, v))) : ∃ b, es[i]? = some (x, v, b) := by
 obtain ⟨_, k1, b1, h2, h3⟩ := findK_at es 0 _ hf (i, v) rfl
 obtain ⟨⟨κ, hκ⟩, _⟩ := hK
 obtain ⟨n, hn⟩ := hκ _ (List.mem_of_getElem? h2)
 have hn : k1 = .i κ n := hn
 subst hn
 obtain ⟨m', _, e2, e3⟩ := keyEq_int h3
 have e5 : m' = n := of_decide_eq_true e3.symm
 refine ⟨b1, ?_⟩
 rw [e2, e5]
 exact h2
theorem MapS.set {es es' : List (V × V × Nat)} {k k' : Nat} (h : MapS es k es' k') {sh : Sh} {x v v0 v1 : V} {i j : Nat} (hf : findK sh x es 0 = some (some (i, v0))) (hf' : findK sh x es' 0 = some (some (j, v1))) : MapS (setEnt x v es i) k (setEnt x v es' j) k' := by
 rcases h with ⟨h1, rfl, rfl⟩ | ⟨h1, hK, hp⟩
 · rw [hf] at hf'
   injection hf' with e; injection e with e; injection e with e1 e2
   subst e1
   exact .inl ⟨h1, rfl, rfl⟩
 · obtain ⟨b, hb⟩ := find_key hK hf
   obtain ⟨b', hb'⟩ := find_key (hK.perm hp) hf'
   have e1 := setEnt_keys (v := v) hb
   refine .inr ⟨h1, ⟨?_, by rw [e1]; exact hK.2⟩, ?_⟩
   · obtain ⟨κ, hκ⟩ := hK.1
     refine ⟨κ, fun e he => ?_⟩
     have : e.1 ∈ (setEnt x v es i).map (·.1) := List.mem_map.2 ⟨e, he, rfl⟩
     rw [e1] at this
     obtain ⟨e', he', h'⟩ := List.mem_map.1 this
     obtain ⟨n, hn⟩ := hκ e' he'
     exact ⟨n, by rw [← h']; exact hn⟩
   · rw [setEnt_kv hK.2 hb, setEnt_kv (hK.perm hp).2 hb']
     exact hp.map _
theorem MapS.snoc {es es' : List (V × V × Nat)} {k k' : Nat} (h : MapS es k es' k') {sh : Sh} {x v : V} (hf : findK sh x es 0 = some none) (hg : (bif ordd k then ordd (Nat.succ k) else isI x) = true) : MapS (snocE (x, v, k) es) (k + 1) (snocE (x, v, k') es') (k' + 1) := by
 rcases h with ⟨h1, rfl, rfl⟩ | ⟨h1, hK, hp⟩
 · rw [h1, cond_true] at hg
   exact .inl ⟨hg, rfl, rfl⟩
 · rw [h1, cond_false] at hg
   obtain ⟨κ0, m, rfl⟩ : ∃ κ m, x = .i κ m := by
    cases x with
    | i κ m => exact ⟨κ, m, rfl⟩
    | _ => cases hg
   have h2 : ordd (k + 1) = false := by
    unfold ordd at h1 ⊢
    rw [bltN] at h1 ⊢
    have := of_decide_eq_false h1
    exact decide_eq_false (by omega)
   have hkv : ∀ (l : List (V × V × Nat)) (n : Nat), kvE (snocE (.i κ0 m, v, n) l) = kvE l ++ [(.i κ0 m, v)] := fun l n => by rw [snocE_eq]; unfold kvE; rw [List.map_append]; rfl
   refine .inr ⟨h2, ?_, by rw [hkv, hkv]; exact hp.append_right _⟩
   rw [snocE_eq]
   cases es with
   | nil => exact ⟨⟨κ0, fun e he => by rw [List.nil_append, List.mem_singleton] at he; subst he; exact ⟨m, rfl⟩⟩, by simp⟩
   | cons e0 es0 =>
     obtain ⟨⟨κ, hκ⟩, hn⟩ := hK
     obtain ⟨k0, v0, b0⟩ := e0
     obtain ⟨n0, hn0⟩ := hκ _ (List.mem_cons_self ..)
     have hn0 : k0 = .i κ n0 := hn0
     obtain ⟨e1, e2⟩ : sh = .int ∧ κ0 = κ := by
      have hf2 := hf
      rw [hn0] at hf2
      rcases findK_cons hf2 with ⟨h1, _⟩ | ⟨h1, _⟩
      · obtain ⟨m, e1, e2, _⟩ := keyEq_int h1; injection e2 with e3 _; exact ⟨e1, e3⟩
      · obtain ⟨m, e1, e2, _⟩ := keyEq_int h1; injection e2 with e3 _; exact ⟨e1, e3⟩
     subst e1 e2
     have hno : ∀ v b, (.i κ0 m, v, b) ∉ (k0, v0, b0) :: es0 := by
      rcases findK_int κ0 m _ 0 hκ with ⟨_, h3⟩ | ⟨j, v', h3⟩
      · exact h3
      · rw [h3] at hf; cases hf
     refine ⟨⟨κ0, fun e he => ?_⟩, ?_⟩
     · rcases List.mem_append.1 he with he | he
       · exact hκ e he
       · rw [List.mem_singleton] at he; subst he; exact ⟨m, rfl⟩
     · rw [List.map_append, List.nodup_append]
       refine ⟨hn, by simp, ?_⟩
       intro a ha b hb e
       rw [List.map_cons, List.map_nil, List.mem_singleton] at hb
       subst hb
       obtain ⟨e', he', rfl⟩ := List.mem_map.1 ha
       obtain ⟨a1, a2, a3⟩ := e'
       have e : a1 = .i κ0 m := e
       subst e
       exact hno _ _ he'
theorem MapS.rel {es es' : List (V × V × Nat)} {k k' : Nat} (h : MapS es k es' k') : MapR E es k (.map (es'.map (entry E)).toArray k') := by
 rcases h with ⟨h1, rfl, rfl⟩ | ⟨h1, hK, hp⟩
 · exact .inl ⟨h1, rfl⟩
 · exact .inr ⟨h1, hK, es', k', rfl, hp⟩
theorem mu_run (h : Cx P E F M c w t a) {ty kt et : TypeId} (hu : P.underlying ty = some (.map kt et)) {sh : Sh} (hks : keySh P kt = some sh) {b : Nat} {es : List (V × V × Nat)} {clock : Nat} (hM : M.get b = some (.map es clock)) {k v x : V} (hbk : bd c k) (hbv : bd c v) {M' : Mem} {ct ct' : Nat}
  (he : e_mu1 M ct b es clock k v (findK sh k es 0) = .k x M' ct') : ∃ w', (Instr.mapUpdate ty (.map (some (E.ρ b))) (conc E k) (conc E v)).run P w = .ok () w' ∧ Stp P F E M c w E M' c w' ∧ x = undef ∧ ct' = ct := by
 obtain ⟨d, hd, hkk⟩ := keySh_kind hks
 obtain ⟨es', ck', ho, hbd, hms⟩ := h.map (look_some_M hM)
 have hck : ∀ {r}, findK sh k es 0 = some r → ∀ b, (Instr.checkKey b 10000 kt (conc E k)).run P w = .ok () w := fun hf b => checkKey_run hd hkk (findK_ok hf) b 9998
 unfold e_mu1 at he
 split at he
 · rename_i i v0 hf
   rw [setM_eq] at he
   injection he with g1 g2 g3
   subst g1 g2 g3
   have hck := hck hf
   obtain ⟨r', hf', hr'⟩ := hms.find hf
   obtain ⟨j, rfl⟩ : ∃ j', r' = some (j', v0) := by
    cases r' with
    | none => cases hr'
    | some p => exact ⟨p.1, congrArg some (Prod.ext rfl (Option.some.inj hr'))⟩
   have hfk := findKey_run (P := P) (w := w) (E := E) hd hkk hf'
   obtain ⟨_, k', b', hm, hkt⟩ := findK_at es' 0 _ hf' (j, v0) rfl
   obtain ⟨hke, hsb⟩ := keyEq_conc (E := E) hkt
   have hget : ((es'.map (entry E)).toArray[j]?).map (·.key) = some (conc E k) := by
    simp only [Nat.sub_zero] at hm
    simp [hm, entry, hke]
   have hrel := (hms.set (v := v) hf hf').rel (E := E)
   rw [setEnt_map] at hrel
   refine ⟨_, ?_, h.rel.write b _ (.map (setEnt k v es i) clock) hM (.map (((es'.map (entry E)).modify j fun e => { e with key := conc E k, val := conc E v }).toArray) ck') ?_ { w with heap := w.heap.setIfInBounds (E.ρ b) (.map (((es'.map (entry E)).modify j fun e => { e with key := conc E k, val := conc E v }).toArray) ck') } rfl rfl rfl rfl hrel, rfl, rfl⟩
   · have hso := run_setObj (P := P) (w := w) (o' := .map (((es'.map (entry E)).modify j fun e => { e with key := conc E k, val := conc E v }).toArray) ck') ho (by intros; simp)
     simp only [Instr.mapUpdate, Sem.run_bind, run_und hu, Result.andThen_ok, run_getObj_map ho, hck, List.toList_toArray, hfk, Option.map_some, hget, Option.getD_some, Instr.keyThatStays, hsb, if_true, Sem.run_ite, Sem.run_pure]
     rw [← hso]
     congr 2
     simp
   · intro e hemem
     rcases setEnt_mem k v es i e hemem with h1 | ⟨h1, h2⟩
     · exact hbd e h1
     · exact ⟨h1 ▸ hbk, h2 ▸ hbv⟩
 · rename_i hf
   cases hgd : (bif ordd clock then ordd (Nat.succ clock) else isI k) with
   | false => rw [hgd] at he; cases he
   | true =>
     rw [hgd, cond_true, fN_eq, setM_eq] at he
     injection he with g1 g2 g3
     subst g1 g2 g3
     have hck := hck hf
     obtain ⟨r', hf', hr'⟩ := hms.find hf
     obtain rfl : r' = none := by cases r' with
      | none => rfl
      | some p => cases hr'
     have hfk := findKey_run (P := P) (w := w) (E := E) hd hkk hf'
     have hrel := (hms.snoc (v := v) hf hgd).rel (E := E)
     rw [snocE_eq (k, v, ck') es'] at hrel
     have hpush : ((es' ++ [(k, v, ck')]).map (entry E)).toArray = (es'.map (entry E)).toArray.push { key := conc E k, val := conc E v, born := ck' } := by simp [entry]
     rw [hpush] at hrel
     refine ⟨_, ?_, h.rel.write b _ (.map (snocE (k, v, clock) es) (clock + 1)) hM (.map ((es'.map (entry E)).toArray.push { key := conc E k, val := conc E v, born := ck' }) (ck' + 1)) ?_ { w with heap := w.heap.setIfInBounds (E.ρ b) (.map ((es'.map (entry E)).toArray.push { key := conc E k, val := conc E v, born := ck' }) (ck' + 1)) } rfl rfl rfl rfl hrel, rfl, rfl⟩
     · have hso := run_setObj (P := P) (w := w) (o' := .map ((es'.map (entry E)).toArray.push { key := conc E k, val := conc E v, born := ck' }) (ck' + 1)) ho (by intros; simp)
       simp only [Instr.mapUpdate, Sem.run_bind, run_und hu, Result.andThen_ok, run_getObj_map ho, hck, List.toList_toArray, hfk, Option.map_none, hso]
     · intro e hemem
       rw [snocE_eq, List.mem_append, List.mem_singleton] at hemem
       rcases hemem with h1 | rfl
       · exact hbd e h1
       · exact ⟨hbk, hbv⟩
 · cases he
theorem e_mapUpdate (h : Cx P E F M c w t a) {o : Oper} {ty : TypeId} {m y z : Operand} (hop : o.op = .mapUpdate ty m y z ∨ o.op = .insert ty m y z) {eo : EO} (hc : compOp P o.op = some (.e eo)) {k : Kn} (hk : k.F = F) {v : V} {M' : Mem} {ct ct' : Nat} (he : doE eo k M ct t = .k v M' ct') : EOk P F E M c ct w a o v M' ct' := by
 have hc' : (match P.underlying ty, compX m, compX y, compX z with
  | some (.map kt _), some m, some k, some v => (keySh P kt).map fun sh => OK.e (.mu sh m k v)
  | _, _, _, _ => none) = some (.e eo) := by rcases hop with hop | hop <;> (rw [hop] at hc; exact hc)
 split at hc'
 · rename_i kt et xm xk xv hu h1 h2 h3
   obtain ⟨sh, hks, e⟩ := Option.map_eq_some_iff.1 hc'
   obtain rfl : EO.mu sh xm xk xv = eo := by simpa using e
   obtain ⟨b, hv, hg⟩ := onM_rc (show onM (xm.ev t) .f (fun b => asMap (M.get b) .f fun es clock => e_mu1 M ct b es clock (xk.ev t) (xv.ev t) (findK sh (xk.ev t) es 0)) = .k v M' ct' from he)
   obtain ⟨es, clock, hM, hg⟩ := asMap_rc hg
   have e1 := h.ev h1
   have e2 := h.ev h2
   have e3 := h.ev h3
   rw [hv] at e1
   obtain ⟨w', hrun, hS, rfl, rfl⟩ := mu_run h hu hks hM e2.2 e3.2 hg
   refine ⟨E, w', .skip, c, ?_, .inr ⟨rfl, rfl⟩, hS, trivial, .refl _ _⟩
   rcases hop with hop | hop <;> simp only [execOp, hop, e1.1, e2.1, e3.1, conc, Sem.run_bind, hrun, Result.andThen_ok, Sem.run_pure]
 · cases hc'
end
theorem delEnt_map (E : Env) : ∀ (es : List (V × V × Nat)) (i : Nat), (delEnt es i).map (entry E) = (es.map (entry E)).eraseIdx i
 | [], i => by simp [delEnt]
 | h :: es, 0 => by simp [delEnt]
 | h :: es, i + 1 => by simp [delEnt, delEnt_map E es i]
theorem delEnt_mem : ∀ (es : List (V × V × Nat)) (i : Nat) (e : V × V × Nat), e ∈ delEnt es i → e ∈ es
 | [], i, e, h => by simp [delEnt] at h
 | x :: es, 0, e, h => by simp only [delEnt] at h; simp [h]
 | x :: es, i + 1, e, h => by
   simp only [delEnt, List.mem_cons] at h
   rcases h with rfl | h
   · simp
   · simp [delEnt_mem es i e h]
section
variable {P : Program} {E : Env} {F : RO} {M : Mem} {c : Nat → Prop} {w : World} {t : T} {a : Act}
theorem same_heap {r : Nat} {o : Obj} (h : w.heap[r]? = some o) : w.heap.setIfInBounds r o = w.heap := by
 apply Array.ext_getElem?
 intro j
 by_cases e : r = j
 · subst e
   have hlt := (Array.getElem?_eq_some_iff.1 h).1
   rw [h]; simp [hlt]
 · rw [Array.getElem?_setIfInBounds_ne e]
open Classical in
theorem delEnt_kv {k : V} : ∀ {es : List (V × V × Nat)} {i : Nat} {v0 : V} {b0 : Nat}, (es.map (·.1)).Nodup → es[i]? = some (k, v0, b0) → kvE (delEnt es i) = (kvE es).filter fun p => decide (p.1 ≠ k)
 | [], i, v0, b0, _, h => by cases i <;> cases h
 | (k', v', b) :: es, 0, v0, b0, hn, h => by
   have h := Option.some.inj (show some (k', v', b) = some (k, v0, b0) from h)
   injection h with e1 _
   subst e1
   rw [List.map_cons, List.nodup_cons] at hn
   show kvE es = List.filter _ ((k', v') :: kvE es)
   rw [List.filter_cons_of_neg (by simp)]
   refine (List.filter_eq_self.2 ?_).symm
   rintro ⟨a, b1⟩ he
   obtain ⟨b2, he⟩ := kv_mem.1 he
   exact decide_eq_true fun e1 => hn.1 (List.mem_map.2 ⟨_, he, e1⟩)
 | (k', v', b) :: es, i + 1, v0, b0, hn, h => by
   rw [List.map_cons, List.nodup_cons] at hn
   have h : es[i]? = some (k, v0, b0) := h
   have h0 : k' ≠ k := fun e1 => hn.1 (List.mem_map.2 ⟨_, List.mem_of_getElem? h, e1.symm⟩)
   show (k', v') :: kvE (delEnt es i) = List.filter _ ((k', v') :: kvE es)
   rw [List.filter_cons_of_pos (by simpa using h0), delEnt_kv hn.2 h]
theorem MapS.del {es es' : List (V × V × Nat)} {k k' : Nat} (h : MapS es k es' k') {sh : Sh} {x v0 v1 : V} {i j : Nat} (hf : findK sh x es 0 = some (some (i, v0))) (hf' : findK sh x es' 0 = some (some (j, v1))) : MapS (delEnt es i) k (delEnt es' j) k' := by
 rcases h with ⟨h1, rfl, rfl⟩ | ⟨h1, hK, hp⟩
 · rw [hf] at hf'
   injection hf' with e; injection e with e; injection e with e1 e2
   subst e1
   exact .inl ⟨h1, rfl, rfl⟩
 · obtain ⟨b, hb⟩ := find_key hK hf
   obtain ⟨b', hb'⟩ := find_key (hK.perm hp) hf'
   have e1 := delEnt_kv hK.2 hb
   refine .inr ⟨h1, ⟨?_, ?_⟩, ?_⟩
   · obtain ⟨κ, hκ⟩ := hK.1
     exact ⟨κ, fun e he => hκ e (delEnt_mem es i e he)⟩
   · rw [← keys_kv, e1]
     have := hK.2
     rw [← keys_kv] at this
     exact this.sublist (List.filter_sublist.map _)
   · rw [e1, delEnt_kv (hK.perm hp).2 hb']
     exact hp.filter _
theorem e_delete (h : Cx P E F M c w t a) {o : Oper} {cl : Call} (hop : o.op = .call cl) (hb : cl.callee = .builtin .delete) {m y : Operand} {ty : TypeId} {ts : List TypeId} (hargs : cl.args.toList = [m, y]) (htys : cl.argTypes.toList = ty :: ts) {kt et : TypeId} (hu : P.underlying ty = some (.map kt et)) {sh : Sh} (hks : keySh P kt = some sh)
  {xm xk : X} (h1 : compX m = some xm) (h2 : compX y = some xk) {k : Kn} {v : V} {M' : Mem} {ct ct' : Nat} (he : doE (.del sh xm xk) k M ct t = .k v M' ct') : EOk P F E M c ct w a o v M' ct' := by
 obtain ⟨b, hv, hg⟩ := onM_rc (show onM (xm.ev t) .f (fun b => asMap (M.get b) .f fun es clock => e_del1 M ct b es clock (findK sh (xk.ev t) es 0)) = .k v M' ct' from he)
 obtain ⟨es, clock, hM, hg⟩ := asMap_rc hg
 obtain ⟨d, hd, hkk⟩ := keySh_kind hks
 obtain ⟨es', ck', ho, hbd, hms⟩ := h.map (look_some_M hM)
 have e1 := h.ev h1
 have e2 := h.ev h2
 rw [hv] at e1
 have hat : cl.argTypes[0]? = some ty := by rw [arr_of_list htys]; rfl
 unfold e_del1 at hg
 split at hg
 · rename_i i v0 hf
   rw [setM_eq] at hg
   injection hg with g1 g2 g3
   subst g1 g2 g3
   have hck : ∀ b, (Instr.checkKey b 10000 kt (conc E (xk.ev t))).run P w = .ok () w := fun b => checkKey_run hd hkk (findK_ok hf) b 9998
   obtain ⟨r', hf', hr'⟩ := hms.find hf
   obtain ⟨j, rfl⟩ : ∃ j', r' = some (j', v0) := by
    cases r' with
    | none => cases hr'
    | some p => exact ⟨p.1, congrArg some (Prod.ext rfl (Option.some.inj hr'))⟩
   have hfk := findKey_run (P := P) (w := w) (E := E) hd hkk hf'
   have hrel := (hms.del hf hf').rel (E := E)
   rw [delEnt_map] at hrel
   have hera : ((es'.map (entry E)).eraseIdx j).toArray = (es'.map (entry E)).toArray.eraseIdxIfInBounds j := by simp
   rw [hera] at hrel
   have hso := run_setObj (P := P) (w := w) (o' := .map ((es'.map (entry E)).toArray.eraseIdxIfInBounds j) ck') ho (by intros; simp)
   refine ⟨E, { w with heap := w.heap.setIfInBounds (E.ρ b) (.map ((es'.map (entry E)).toArray.eraseIdxIfInBounds j) ck') }, .value (.tuple #[]), c, exec_builtin hop hb hargs ?_, .inl rfl, h.rel.write b _ (.map (delEnt es i) clock) hM (.map ((es'.map (entry E)).toArray.eraseIdxIfInBounds j) ck') ?_ _ rfl rfl rfl rfl hrel, trivial, .refl _ _⟩
   · simp only [builtin]
     refine val_run ?_
     simp only [Builtin.delete_, hat, e1.1, e2.1, conc, List.map_cons, List.map_nil, List.getElem?_toArray, List.getElem?_cons_zero, List.getElem?_cons_succ, Sem.run_bind, run_und hu, Result.andThen_ok, run_getObj_map ho, hck, List.toList_toArray, hfk, Option.map_some, hso, Sem.run_pure]
   · exact fun e hemem => hbd e (delEnt_mem es i e hemem)
 · rename_i hf
   injection hg with g1 g2 g3
   subst g1 g2 g3
   have hck : ∀ b, (Instr.checkKey b 10000 kt (conc E (xk.ev t))).run P w = .ok () w := fun b => checkKey_run hd hkk (findK_ok hf) b 9998
   obtain ⟨r', hf', hr'⟩ := hms.find hf
   obtain rfl : r' = none := by cases r' with
    | none => rfl
    | some p => cases hr'
   have hfk := findKey_run (P := P) (w := w) (E := E) hd hkk hf'
   have hso := run_setObj (P := P) (w := w) (o' := .map (es'.map (entry E)).toArray ck') ho (by intros; simp)
   rw [same_heap ho] at hso
   refine ⟨E, w, .value (.tuple #[]), c, exec_builtin hop hb hargs ?_, .inl rfl, .refl h.rel, trivial, .refl _ _⟩
   simp only [builtin]
   refine val_run ?_
   simp only [Builtin.delete_, hat, e1.1, e2.1, conc, List.map_cons, List.map_nil, List.getElem?_toArray, List.getElem?_cons_zero, List.getElem?_cons_succ, Sem.run_bind, run_und hu, Result.andThen_ok, run_getObj_map ho, hck, List.toList_toArray, hfk, Option.map_none, hso, Sem.run_pure]
 · cases hg
theorem e_mark (h : Cx P E F M c w t a) {o : Oper} {s : TypeId} {y : Operand} (hop : o.op = .convert s s y) {el : TypeId} (hu : P.underlying s = some (.slice el)) (hel : P.underlying el = some (.int .u8)) {x : X} (hx : compX y = some x)
  {k : Kn} {v : V} {M' : Mem} {ct ct' : Nat} (he : doE (.ms x) k M ct t = .k v M' ct') : EOk P F E M c ct w a o v M' ct' := by
 have he' : e_ms x k.F M ct t = .k v M' ct' := he
 unfold e_ms at he'
 split at he'
 · rename_i b off n cp hv
   unfold msIn at he'
   split at he'
   · rename_i ty m d cs hM
     rw [setM_eq] at he'
     injection he' with g1 g2 g3
     subst g1 g2 g3
     have e := h.ev hx
     rw [hv] at e
     obtain ⟨arr, fr, ho, hr⟩ := h.cells (look_some_M hM)
     have hsz := hr.size
     simp only [if_true] at hsz
     have hfr : fr.1 = fr.2 := by
      rcases hr.plain rfl with e | ⟨e, _⟩
      · exact e
      · exact absurd rfl e
     have hshape : w.shape? (E.ρ b) = some (ty, m) := by simp [World.shape?, ho, hsz.2]
     have hfz : w.freeze ⟨E.ρ b, m, none⟩ 1 = { w with heap := w.heap.setIfInBounds (E.ρ b) (.cells arr ty (m, m + 1)) } := by
      unfold World.freeze
      rw [if_neg (by decide), modify_eq _ ho]
      simp [hfr]
     refine ⟨E, { w with heap := w.heap.setIfInBounds (E.ρ b) (.cells arr ty (m, m + 1)) }, .value (conc E (.l b off n cp)), c, ?_, .inl rfl, h.rel.write b _ _ hM (.cells arr ty (m, m + 1)) ?_ _ rfl rfl rfl rfl ?_, e.2, .refl _ _⟩
     · simp only [execOp, hop]
       refine val_run ?_
       rw [e.1]
       simp only [convert, Sem.run_bind, run_und hu, Result.andThen_ok, conc, beq_self_eq_true, run_und hel, markStringish, run_shape, hshape, run_freeze, hfz, Sem.run_pure]
     · exact (h.rel.has _ _ (look_some_M hM)).2.1
     · refine ⟨arr, _, rfl, ⟨hr.cell, hr.size, ?_, fun hf => by cases hf⟩⟩
       intro o' _ ho' hf
       have := hf.1
       simp only at this
       omega
   · cases he'
 · cases he'
end
section
variable {P : Program} {E : Env} {F : RO} {M : Mem} {c : Nat → Prop} {w : World} {t : T} {a : Act}
theorem Cx.world {w' : World} (h : Cx P E F M c w t a) (hh : w'.heap = w.heap) : Cx P E F M c w' t a := ⟨h.rel.world hh, h.glob, h.big, h.tr, h.bt⟩
theorem Rel.drop (h : Rel P E F M c w) (b : Nat) : Stp P F E M c w E (M.del b) c w := by
 have hl : ∀ x y, look F (M.del b) x = some y → look F M x = some y ∨ (x = b ∧ roGet F x = some y) := by
  intro x y hx
  by_cases e : x = b
  · right
    refine ⟨e, ?_⟩
    rwa [look_none_M (by rw [Tr.get_del, if_pos e])] at hx
  · left
    rwa [look_congr (M := M) (by rw [Tr.get_del, if_neg e])] at hx
 have hl' : ∀ x y, look F (M.del b) x = some y → look F M x = some y := by
  intro x y hx
  rcases hl x y hx with h1 | ⟨h1, h2⟩
  · exact h1
  · rw [look_none_M (h.apart x (by rw [h2]; rfl))]; exact h2
 have hs : ∀ x, (look F (M.del b) x).isSome → (look F M x).isSome := by
  intro x hx
  obtain ⟨y, hy⟩ := Option.isSome_iff_exists.1 hx
  rw [hl' x y hy]; rfl
 refine ⟨.refl c E, fun _ h => h, ⟨fun x y hx => h.has x y (hl' x y hx), fun x x' hx hx' e => h.inj x x' (hs x hx) (hs x' hx') e, fun x hx => ?_⟩, fun x hx => ?_, fun _ _ _ => rfl, Nat.le_refl _, rfl, rfl, rfl⟩
 · rw [Tr.get_del]; split
   · rfl
   · exact h.apart x hx
 · rw [Tr.get_del] at hx
   split at hx
   · cases hx
   · exact .inl ⟨x, hx, rfl⟩
theorem Rel.take (h : Rel P E F M c w) (b n : Nat) (blk blk' : Blk) (hb : M.get b = some blk) (o' : Obj) (β' κ' : Nat) (c' : Nat → Prop) (hn : ¬ c n) (hn' : c' n) (hcc : ∀ b, c b → c' b)
  (hbd : bdBlk c' blk') (w' : World) (hh : w'.heap = w.heap.setIfInBounds (E.ρ b) o') (hos : w'.os = w.os) (hout : w'.output = w.output) (htape : w'.tape = w.tape)
  (hr : ∀ E' : Env, Ext c E E' → E'.ρ n = E.ρ b → E'.β n = β' → E'.κ n = κ' → BlkRel P E' n blk' o') :
  ∃ E', Stp P F E M c w E' ((M.del b).set n blk') c' w' ∧ E'.ρ n = E.ρ b ∧ E'.β n = β' ∧ E'.κ n = κ' := by
 let E' : Env := ⟨fun x => if x = n then E.ρ b else E.ρ x, fun x => if x = n then β' else E.β x, fun x => if x = n then κ' else E.κ x⟩
 have he : Ext (· ≠ n) E E' := ⟨fun x hx => if_neg hx, fun x hx => if_neg hx, fun x hx => if_neg hx⟩
 have hec : Ext c E E' := he.sub fun x hx e => hn (e ▸ hx)
 have hρ : E'.ρ n = E.ρ b := if_pos rfl
 have hbc := (h.has b blk (look_some_M hb)).1
 have hbn : b ≠ n := fun e => hn (e ▸ hbc)
 have hlt : E.ρ b < w.heap.size := by
  obtain ⟨_, _, o, ho, _⟩ := h.has b blk (look_some_M hb)
  exact (Array.getElem?_eq_some_iff.1 ho).1
 have hold : ∀ x y, look F ((M.del b).set n blk') x = some y → x ≠ n → x ≠ b ∧ look F M x = some y := by
  intro x y hx hne
  rw [look_congr (M := M.del b) (by rw [Tr.get_set, if_neg hne])] at hx
  by_cases e : x = b
  · exfalso
    rw [look_none_M (by rw [Tr.get_del, if_pos e])] at hx
    have := h.apart x (by rw [hx]; rfl)
    rw [e, hb] at this; cases this
  · exact ⟨e, by rwa [look_congr (M := M) (by rw [Tr.get_del, if_neg e])] at hx⟩
 refine ⟨E', ⟨hec, hcc, ⟨?_, ?_, ?_⟩, ?_, ?_, ?_, hos, hout, htape⟩, hρ, if_pos rfl, if_pos rfl⟩
 · intro x y hx
   by_cases hxn : x = n
   · subst hxn
     rw [look_some_M (by rw [Tr.get_set, if_pos rfl])] at hx
     obtain rfl : blk' = y := by simpa using hx
     exact ⟨hn', hbd, o', by rw [hρ, hh]; simp [hlt], hr E' hec hρ (if_pos rfl) (if_pos rfl)⟩
   · obtain ⟨hxb, hx'⟩ := hold x y hx hxn
     obtain ⟨h1, h2, o, h3, h4⟩ := h.has x y hx'
     refine ⟨hcc x h1, bdBlk_mono hcc y h2, o, ?_, h4.ext hec h1 h2⟩
     have hne : E.ρ b ≠ E.ρ x := fun e' => hxb (h.inj b x (by rw [look_some_M hb]; rfl) (by rw [hx']; rfl) e').symm
     rw [hec.ρ x h1, hh, Array.getElem?_setIfInBounds_ne hne]
     exact h3
 · have key : ∀ x y, look F ((M.del b).set n blk') x = some y → x ≠ n → E'.ρ x ≠ E.ρ b := by
    intro x y hx hxn e
    obtain ⟨hxb, hx'⟩ := hold x y hx hxn
    rw [hec.ρ x (h.has x y hx').1] at e
    exact hxb (h.inj x b (by rw [hx']; rfl) (by rw [look_some_M hb]; rfl) e)
   intro x x' hx hx' e
   obtain ⟨y, hy⟩ := Option.isSome_iff_exists.1 hx
   obtain ⟨y', hy'⟩ := Option.isSome_iff_exists.1 hx'
   by_cases h1 : x = n
   · by_cases h2 : x' = n
     · rw [h1, h2]
     · rw [h1, hρ] at e; exact absurd e.symm (key x' y' hy' h2)
   · by_cases h2 : x' = n
     · rw [h2, hρ] at e; exact absurd e (key x y hy h1)
     · obtain ⟨_, g1⟩ := hold x y hy h1
       obtain ⟨_, g2⟩ := hold x' y' hy' h2
       rw [hec.ρ x (h.has x y g1).1, hec.ρ x' (h.has x' y' g2).1] at e
       exact h.inj x x' (by rw [g1]; rfl) (by rw [g2]; rfl) e
 · intro x hx
   have hM := h.apart x hx
   obtain ⟨y, hy⟩ := Option.isSome_iff_exists.1 hx
   have hxc := (h.has x y (by rw [look_none_M hM]; exact hy)).1
   rw [Tr.get_set, if_neg (fun e : x = n => hn (e ▸ hxc)), Tr.get_del]
   split
   · rfl
   · exact hM
 · intro x hx
   by_cases hxn : x = n
   · exact .inl ⟨b, by rw [hb]; rfl, by rw [hxn, hρ]⟩
   · rw [Tr.get_set, if_neg hxn, Tr.get_del] at hx
     split at hx
     · cases hx
     · obtain ⟨y, hy⟩ := Option.isSome_iff_exists.1 hx
       exact .inl ⟨x, hx, (hec.ρ x (h.has x y (look_some_M hy)).1).symm⟩
 · intro r _ hnr
   have hne : E.ρ b ≠ r := hnr b (by rw [hb]; rfl)
   rw [hh, Array.getElem?_setIfInBounds_ne hne]
 · rw [hh]; simp
def ZerosOk (P : Program) (ats : Array TypeId) : Prop := (∃ t2 d, ats[1]? = some t2 ∧ P.underlying t2 = some d ∧ ∀ k, d ≠ .int k) ∨ ats[1]? = none
theorem append_grow_run {ats : Array TypeId} {rty ty e : TypeId} {i : TypeInfo} {z : Value} (hat : ats[0]? = some ty) (hu : P.underlying ty = some (.slice e)) (hzs : ZerosOk P ats) (hi : P.info? e = some i) (hz : i.zero = some z)
  {X : Value} {base : Option Addr} {sLen sCap n : Nat} {old new : Array Value} (hlen : (Builtin.lenOf X).run P w = .ok n w) (hold : (Builtin.firstCells i.size sLen (.slice base sLen sCap)).run P w.drew = .ok old w.drew)
  (hnew : (Builtin.firstCells i.size n X).run P w.drew = .ok new w.drew) (hg : sCap < sLen + n) (h63 : sLen + n ≤ 9223372036854775807) (h48 : Builtin.nextslicecap (sLen + n) sCap * i.bytes ≤ 281474976710656) :
  (Builtin.append_ ats rty #[.slice base sLen sCap, X]).run P w = .ok (.slice (some ⟨w.heap.size, 0, none⟩) (sLen + n) (grownCap w (sLen + n) sCap e))
   (w.drew.alloc (.cells (old ++ new ++ Builtin.zeroCells z.cells (grownCap w (sLen + n) sCap e - (sLen + n))) e)) := by
 have hn : ¬ (sLen + n ≤ sCap) := by omega
 have h63' : ¬ (9223372036854775807 < ((sLen : Int) + (n : Int))) := by omega
 have h48' : ¬ (281474976710656 < Builtin.nextslicecap (sLen + n) sCap * i.bytes) := by omega
 rcases hzs with ⟨t2, d, h1, h2, h3⟩ | h1
 · have hd : (d matches .int _) = false := by cases d <;> first | rfl | exact absurd rfl (h3 _)
   simp [Builtin.append_, hat, h1, run_underlying hu, run_underlying h2, hd, Go.sizeOf, typeInfo, zeroValue, hi, hz, hlen, hn, h63', h48', Question.forced, hold, hnew, newRow, grownCap]
 · simp [Builtin.append_, hat, h1, run_underlying hu, Go.sizeOf, typeInfo, zeroValue, hi, hz, hlen, hn, h63', h48', Question.forced, hold, hnew, newRow, grownCap]
theorem append_in_run {ats : Array TypeId} {rty ty e : TypeId} {i : TypeInfo} (hat : ats[0]? = some ty) (hu : P.underlying ty = some (.slice e)) (hzs : ZerosOk P ats) (hi : P.info? e = some i)
  {X : Value} {ad : Addr} {sLen sCap n : Nat} {new : Array Value} {w' : World} (hlen : (Builtin.lenOf X).run P w = .ok n w)
  (hnew : (Builtin.firstCells i.size n X).run P w = .ok new w) (hg : sLen + n ≤ sCap) (hst : (storeCells (ad.add (sLen * i.size)) new.toList).run P w = .ok () w') :
  (Builtin.append_ ats rty #[.slice (some ad) sLen sCap, X]).run P w = .ok (.slice (some ad) (sLen + n) sCap) w' := by
 rcases hzs with ⟨t2, d, h1, h2, h3⟩ | h1
 · have hd : (d matches .int _) = false := by cases d <;> first | rfl | exact absurd rfl (h3 _)
   simp [Builtin.append_, hat, h1, run_underlying hu, run_underlying h2, hd, Go.sizeOf, typeInfo, hi, hlen, hg, hnew, hst]
 · simp [Builtin.append_, hat, h1, run_underlying hu, Go.sizeOf, typeInfo, hi, hlen, hg, hnew, hst]
theorem append_zero_run {ats : Array TypeId} {rty ty e : TypeId} {i : TypeInfo} (hat : ats[0]? = some ty) (hu : P.underlying ty = some (.slice e)) (hzs : ZerosOk P ats) (hi : P.info? e = some i)
  {X : Value} {base : Option Addr} {sLen sCap : Nat} (hlen : (Builtin.lenOf X).run P w = .ok 0 w)
  (hnew : (Builtin.firstCells i.size 0 X).run P w = .ok #[] w) (hg : sLen ≤ sCap) :
  (Builtin.append_ ats rty #[.slice base sLen sCap, X]).run P w = .ok (.slice base sLen sCap) w := by
 rcases hzs with ⟨t2, d, h1, h2, h3⟩ | h1
 · have hd : (d matches .int _) = false := by cases d <;> first | rfl | exact absurd rfl (h3 _)
   cases base <;> simp [Builtin.append_, hat, h1, run_underlying hu, run_underlying h2, hd, Go.sizeOf, typeInfo, hi, hlen, hg, hnew, storeCells]
 · cases base <;> simp [Builtin.append_, hat, h1, run_underlying hu, Go.sizeOf, typeInfo, hi, hlen, hg, hnew, storeCells]
theorem srcRun (h : Cx P E F M c w t a) {sz n : Nat} {y : V} {new : List V} (hs : splitSrc F M sz y = some (n, new)) :
  (Builtin.lenOf (conc E y)).run P w = .ok n w ∧ (Builtin.firstCells sz n (conc E y)).run P w = .ok (concs E new).toArray w ∧ bds c new := by
 unfold splitSrc at hs
 split at hs
 · rename_i m x
   rw [beqN] at hs
   by_cases h1 : sz = 1
   · rw [decide_eq_true h1, cond_true] at hs
     simp only [Option.some.injEq, Prod.mk.injEq] at hs
     obtain ⟨rfl, rfl⟩ := hs
     refine ⟨by simp [conc, Builtin.lenOf, ba_size], ?_, byteCells_bd _ _⟩
     simp only [conc, Builtin.firstCells, Sem.run_pure, byteCells_conc]
     congr 1
     have he : (ba m x).extract 0 m = ba m x := by
      apply ByteArray.ext
      rw [ByteArray.data_extract]
      have h2 := Array.extract_size (xs := (ba m x).data)
      have h3 : (ba m x).data.size = m := ba_size m x
      rwa [h3] at h2
     rw [he]
     simp [ba]
   · rw [decide_eq_false h1] at hs; cases hs
 · rename_i y' hne
   split at hs
   · rename_i k hk
     unfold snd1 at hs
     split at hs
     · rename_i vs r hr
       simp only [Option.some.injEq, Prod.mk.injEq] at hs
       obtain ⟨rfl, rfl⟩ := hs
       obtain ⟨⟨ad, len, cap, hcv, hld⟩, hb, hl⟩ := h.readL hr
       rcases lenV_slice (E := E) hk with ⟨ad', cap', hcv'⟩ | ⟨x, hx⟩
       · rw [hcv] at hcv'
         injection hcv' with e1 e2 e3
         subst e1 e2 e3
         rw [hcv]
         refine ⟨by simp [Builtin.lenOf], ?_, hb⟩
         cases ad with
         | none => simp only at hld; subst hld; simp [Builtin.firstCells, concs]
         | some ad => simp only [Builtin.firstCells]; exact hld
       · exact absurd hx (hne _ _)
     · cases hs
   · cases hs
theorem zOk_zero {e sz : Nat} {i : TypeInfo} (hi : P.info? e = some i) (h : zOk P e sz = true) : ∃ z, i.zero = some z ∧ z.cells.size = sz := by
 unfold zOk at h
 split at h
 · rename_i z hz
   unfold zeroV at hz
   rw [hi] at hz
   obtain ⟨zv, h1, h2⟩ := Option.bind_eq_some_iff.1 hz
   have h1' : i.zero = some zv := by simpa using h1
   have := (toV_conc ⟨id, id, id⟩ (fun _ => True) _ _ _ h2).1
   refine ⟨zv, h1', ?_⟩
   rw [← this, flatten_cells, ← cellsOfV_eq]
   simp [concs_map]
   simpa using h
 · cases h
theorem zeroCells_size (zero : Array Value) (n : Nat) : (Builtin.zeroCells zero n).size = n * zero.size := by simp [Builtin.zeroCells]
theorem concs_append (E : Env) (l r : List V) : concs E (l ++ r) = concs E l ++ concs E r := by simp [concs_map]
theorem bds_append {l r : List V} (h : bds c l) (h' : bds c r) : bds c (l ++ r) := by
 rw [bds_iff] at *
 intro v hv
 rcases List.mem_append.1 hv with hv | hv
 · exact h v hv
 · exact h' v hv
theorem grown_rel {E' : Env} {b e len fz cap : Nat} {str : Bool} {vs : List V} {zero : Array Value} (he : Ext c E E') (hb : bds c vs) (hβ : E'.β b = 0) (hκ : E'.κ b = cap - len) (hl : vs.length = len * P.cellsOf e) (hc : len ≤ cap) (hz : zero.size = P.cellsOf e) :
  BlkRel P E' b (.cells e vs.length false fz str [] (listTr vs 0 .e)) (.cells ((concs E vs).toArray ++ Builtin.zeroCells zero (cap - len)) e) := by
 refine ⟨_, _, rfl, ⟨fun k v hk => ?_, ?_, ?_, fun _ => .inl rfl⟩⟩
 · have hk' := cell_list hk
   have hlt : k < vs.length := (List.getElem?_eq_some_iff.1 hk').1
   rw [hβ, Nat.zero_add, conc_ext he v (bds_get hb hk'), Array.getElem?_append_left (by simpa [concs_map] using hlt)]
   simp [concs_get hk']
 · simp only [Bool.false_eq_true, if_false]
   rw [Array.size_append, zeroCells_size, hβ, hκ, hz]
   simp [concs_map]
 · intro o _ ho hf
   have h1 := hf.1
   have h2 := hf.2
   simp only at h1 h2
   omega
end
section
variable {P : Program} {E : Env} {F : RO} {M : Mem} {c : Nat → Prop} {w : World} {t : T} {a : Act}
abbrev EVal (P : Program) (F : RO) (E : Env) (M : Mem) (c : Nat → Prop) (ct : Nat) (w : World) (s : Sem Value) (v : V) (M' : Mem) (ct' : Nat) : Prop :=
 ∃ E' w' c', s.run P w = .ok (conc E' v) w' ∧ Stp P F E M c w E' M' c' w' ∧ bd c' v ∧ Grow c ct c' ct'
theorem room_iff {len by_ : Nat} (h : room len by_ = true) : (3 * len + 2000) * by_ ≤ 281474976710656 ∧ len ≤ 1099511627776 := by
 unfold room at h
 rw [bleN, bleN] at h
 simpa using h
theorem grown_some {M0 : Mem} {ct e by_ len fz : Nat} {str : Bool} {vs : List V} {v : V} {M' : Mem} {ct' : Nat} (h : grown M0 ct e by_ len fz str vs = .k v M' ct') :
  room len by_ = true ∧ v = .u ct 0 len 0 len ∧ M' = M0.set ct (.cells e vs.length false fz str [] (listTr vs 0 .e)) ∧ ct' = ct + 1 := by
 unfold grown at h
 cases hr : room len by_ with
 | false => rw [hr] at h; cases h
 | true =>
   rw [hr, cond_true, Tr.force_eq, fN_eq, fN_eq] at h
   injection h with h1 h2 h3
   exact ⟨rfl, h1.symm, h2.symm, h3.symm⟩
theorem grow_one (c : Nat → Prop) (ct : Nat) : Grow c ct (fun b => c b ∨ b = ct) (ct + 1) := ⟨by omega, fun b hb => hb.elim .inl fun h => .inr (by omega)⟩
theorem grown_new (h : Cx P E F M c w t a) {ct : Nat} (hf : Fresh c ct) {M0 : Mem} (hM0 : Stp P F E M c w E M0 c w) {ats : Array TypeId} {rty ty e : TypeId} {i : TypeInfo} (hat : ats[0]? = some ty) (hu : P.underlying ty = some (.slice e)) (hzs : ZerosOk P ats) (hi : P.info? e = some i) (hzo : zOk P e i.size = true)
  {X : Value} {base : Option Addr} {sLen sCap n fz : Nat} {str : Bool} {old new : List V} (hlen : (Builtin.lenOf X).run P w = .ok n w) (hold : (Builtin.firstCells i.size sLen (.slice base sLen sCap)).run P w.drew = .ok (concs E old).toArray w.drew)
  (hnew : (Builtin.firstCells i.size n X).run P w.drew = .ok (concs E new).toArray w.drew) (hbo : bds c old) (hbn : bds c new) (hlo : old.length = sLen * i.size) (hln : new.length = n * i.size) (hg : sCap < sLen + n)
  {v : V} {M' : Mem} {ct' : Nat} (hgr : grown M0 ct e i.bytes (sLen + n) fz str (old ++ new) = .k v M' ct') :
  EVal P F E M c ct w (Builtin.append_ ats rty #[.slice base sLen sCap, X]) v M' ct' := by
 obtain ⟨hr, rfl, rfl, rfl⟩ := grown_some hgr
 obtain ⟨hr1, hr2⟩ := room_iff hr
 obtain ⟨z, hz, hzc⟩ := zOk_zero hi hzo
 have h2 := nextslicecap_le hg
 have h48 : Builtin.nextslicecap (sLen + n) sCap * i.bytes ≤ 281474976710656 := by
  have h3 : Builtin.nextslicecap (sLen + n) sCap * i.bytes ≤ (3 * (sLen + n) + 2000) * i.bytes := Nat.mul_le_mul_right _ (by omega)
  omega
 have hrun := append_grow_run (w := w) (rty := rty) hat hu hzs hi hz hlen hold hnew hg (by omega) h48
 have hcap : sLen + n ≤ grownCap w (sLen + n) sCap e := by simp [grownCap, Question.cut]
 have hco : P.cellsOf e = i.size := by unfold Program.cellsOf; rw [hi]; rfl
 have hbd := bds_append hbo hbn
 have harr : (concs E old).toArray ++ (concs E new).toArray = (concs E (old ++ new)).toArray := by rw [concs_append]; simp
 rw [harr] at hrun
 obtain ⟨E', hS, hE, hρ, hβ, hκ⟩ := hM0.rel.alloc (.cells e (old ++ new).length false fz str [] (listTr (old ++ new) 0 .e)) (.cells ((concs E (old ++ new)).toArray ++ Builtin.zeroCells z.cells (grownCap w (sLen + n) sCap e - (sLen + n))) e) ct
  (grownCap w (sLen + n) sCap e - (sLen + n)) (fun b => c b ∨ b = ct) (hf ct (Nat.le_refl _)) (.inr rfl) (fun _ h => .inl h) (list_bd hbd fun _ h => .inl h)
  (w.drew.alloc (.cells ((concs E (old ++ new)).toArray ++ Builtin.zeroCells z.cells (grownCap w (sLen + n) sCap e - (sLen + n))) e)) rfl rfl rfl rfl
  (fun E' he _ hβ hκ => grown_rel he hbd hβ hκ (by rw [List.length_append, hlo, hln, hco, Nat.add_mul]) hcap (by rw [hzc, hco]))
 refine ⟨E', _, _, ?_, hM0.trans hS, .inr rfl, grow_one c ct⟩
 rw [hrun]
 simp only [conc, hρ, hβ, hκ]
 congr 2
 omega
theorem grown_in (h : Cx P E F M c w t a) {ct : Nat} (hf : Fresh c ct) {b n' fz o kn sLen n : Nat} {str : Bool} {d : List V} {cs : T} {e : TypeId} {i : TypeInfo} (hi : P.info? e = some i) (hM : M.get b = some (.cells e n' false fz str d cs))
  (hn' : n' = o + kn * i.size) (hfz : fz ≤ o + sLen * i.size) {old new : List V} (hold : ∀ j v, old[j]? = some v → cell n' d cs (o + j) = some v) (hbo : bds c old) (hbn : bds c new) (h1 : allOne new = true) (hlo : old.length = sLen * i.size) (hln : new.length = n * i.size)
  (hle : sLen + n ≤ kn + E.κ b) {by_ : Nat} {v : V} {M' : Mem} {ct' : Nat} (hgr : grown (M.del b) ct e by_ (sLen + n) fz str (old ++ new) = .k v M' ct') :
  ∃ E' w' c', (storeCells ⟨E.ρ b, E.β b + o + sLen * i.size, none⟩ (concs E new)).run P w = .ok () w' ∧ Stp P F E M c w E' M' c' w' ∧ bd c' v ∧ Grow c ct c' ct' ∧ conc E' v = .slice (some ⟨E.ρ b, E.β b + o, none⟩) (sLen + n) (kn + E.κ b) := by
 obtain ⟨hr, rfl, rfl, rfl⟩ := grown_some hgr
 obtain ⟨arr, fr, ho, hrel⟩ := h.cells (look_some_M hM)
 have hco : P.cellsOf e = i.size := by unfold Program.cellsOf; rw [hi]; rfl
 have hsz := hrel.size
 simp only [Bool.false_eq_true, if_false] at hsz
 rw [hco] at hsz
 have hlen : (concs E new).length = n * i.size := by simp [concs_map, hln]
 have hone : ∀ v ∈ concs E new, v.oneCell' = true := by
  intro v hv
  rw [concs_map, List.mem_map] at hv
  obtain ⟨x, hx, rfl⟩ := hv
  exact isOne_conc (allOne_mem h1 x hx)
 have hmul : (sLen + n) * i.size ≤ (kn + E.κ b) * i.size := Nat.mul_le_mul_right _ hle
 rw [Nat.add_mul, Nat.add_mul] at hmul
 have hrun := storeCells_run (P := P) (E.ρ b) (E.β b + o + sLen * i.size) e fr (concs E new) 0 arr w ho (fun k hk hk' => hrel.free k (by omega) hk') (by rw [hlen]; omega) hone
 have hsp := foldSet (E.β b + o + sLen * i.size) (concs E new) 0 arr
 have hbd := bds_append hbo hbn
 obtain ⟨E', hS, hρ, hβ, hκ⟩ := h.rel.take b ct _ (.cells e (old ++ new).length false fz str [] (listTr (old ++ new) 0 .e)) hM (.cells (splice arr (E.β b + o + sLen * i.size) (concs E new) 0) e fr) (E.β b + o) (kn + E.κ b - (sLen + n)) (fun x => c x ∨ x = ct)
  (hf ct (Nat.le_refl _)) (.inr rfl) (fun _ h => .inl h) (list_bd hbd fun _ h => .inl h) { w with heap := w.heap.setIfInBounds (E.ρ b) (.cells (splice arr (E.β b + o + sLen * i.size) (concs E new) 0) e fr) } rfl rfl rfl rfl (fun E' he hρ hβ hκ => by
   refine ⟨_, _, rfl, ⟨fun k v hk => ?_, ?_, ?_, ?_⟩⟩
   · have hk' := cell_list hk
     have hlt : k < (old ++ new).length := (List.getElem?_eq_some_iff.1 hk').1
     rw [List.length_append, hlo, hln] at hlt
     rw [hβ, conc_ext he v (bds_get hbd hk')]
     unfold splice
     rw [hsp.2 (E.β b + o + k) (by omega), hlen, Nat.add_zero]
     by_cases hko : k < sLen * i.size
     · rw [if_neg (by omega)]
       rw [List.getElem?_append_left (by omega)] at hk'
       rw [Nat.add_assoc]
       exact hrel.cell (o + k) v (hold k v hk')
     · rw [if_pos (by omega), show E.β b + o + k - (E.β b + o + sLen * i.size) = k - old.length by omega]
       rw [List.getElem?_append_right (by omega)] at hk'
       exact concs_get hk'
   · simp only [Bool.false_eq_true, if_false]
     unfold splice
     rw [hsp.1, hβ, hκ, hco, List.length_append, hlo, hln, hsz, Nat.sub_mul, Nat.add_mul, Nat.add_mul]
     omega
   · unfold splice
     rw [hsp.1, hβ]
     intro k hk hk'
     exact hrel.free k (by omega) hk'
   · intro hs
     rw [hβ]
     rcases hrel.plain hs with hp | ⟨hp, hp'⟩
     · exact .inl hp
     · exact .inr ⟨hp, by omega⟩)
 refine ⟨E', _, _, hrun, hS, .inr rfl, grow_one c ct, ?_⟩
 simp only [conc, hρ, hβ, hκ]
 congr 1
 omega
theorem cell_more {m : Nat} {d : List V} {cs : T} {new : List V} {k : Nat} {v : V} (h : cell (m + new.length) d (listTr new m cs) k = some v) : (k < m ∧ cell m d cs k = some v) ∨ (m ≤ k ∧ new[k - m]? = some v) := by
 rw [cell_eq, listTr_get] at h
 split at h
 · rename_i hk
   by_cases hm : m ≤ k
   · right
     rw [if_pos ⟨hm, hk⟩, List.getElem?_eq_getElem (by omega)] at h
     exact ⟨hm, by rw [List.getElem?_eq_getElem (by omega)]; exact h⟩
   · left
     rw [if_neg (by omega)] at h
     exact ⟨by omega, by rw [cell_eq, if_pos (by omega)]; exact h⟩
 · cases h
theorem more_bd {m e fz : Nat} {d : List V} {cs : T} {new : List V} {c' : Nat → Prop} {ex str : Bool} (ho : bdBlk c (.cells e m ex fz str d cs)) (hn : bds c new) (hc : ∀ b, c b → c' b) : bdBlk c' (.cells e (m + new.length) false fz str d (listTr new m cs)) := fun k v hk => by
 rcases cell_more hk with ⟨_, h⟩ | ⟨_, h⟩
 · exact bd_mono hc v (ho k v h)
 · exact bd_mono hc v (bds_get hn h)
theorem grownT_some {M0 : Mem} {ct e by_ len fz m : Nat} {str : Bool} {new d : List V} {cs : T} {v : V} {M' : Mem} {ct' : Nat} (h : grownT M0 ct e by_ len fz str new m d cs = .k v M' ct') :
  room len by_ = true ∧ v = .u ct 0 len 0 len ∧ M' = M0.set ct (.cells e (m + new.length) false fz str d (listTr new m cs)) ∧ ct' = ct + 1 := by
 unfold grownT at h
 cases hr : room len by_ with
 | false => rw [hr] at h; cases h
 | true =>
   rw [hr, cond_true, Tr.force_eq, fN_eq, Tr.force_eq, fN_eq, fN_eq] at h
   injection h with h1 h2 h3
   exact ⟨rfl, h1.symm, h2.symm, h3.symm⟩
theorem grownT_new (h : Cx P E F M c w t a) {ct : Nat} (hf : Fresh c ct) {ats : Array TypeId} {rty ty e : TypeId} {i : TypeInfo} (hat : ats[0]? = some ty) (hu : P.underlying ty = some (.slice e)) (hzs : ZerosOk P ats) (hi : P.info? e = some i) (hzo : zOk P e i.size = true)
  {X : Value} {b m sLen sCap n fz : Nat} {str : Bool} {d new : List V} {cs : T} (hM : M.get b = some (.cells e m false fz str d cs)) (hm : m = sLen * i.size) (hlen : (Builtin.lenOf X).run P w = .ok n w)
  (hnew : (Builtin.firstCells i.size n X).run P w.drew = .ok (concs E new).toArray w.drew) (hbn : bds c new) (hln : new.length = n * i.size) (hg : sCap < sLen + n)
  {v : V} {M' : Mem} {ct' : Nat} (hgr : grownT (M.del b) ct e i.bytes (sLen + n) fz str new m d cs = .k v M' ct') :
  EVal P F E M c ct w (Builtin.append_ ats rty #[.slice (some ⟨E.ρ b, E.β b + 0, none⟩) sLen sCap, X]) v M' ct' := by
 obtain ⟨hr, rfl, rfl, rfl⟩ := grownT_some hgr
 obtain ⟨hr1, hr2⟩ := room_iff hr
 obtain ⟨z, hz, hzc⟩ := zOk_zero hi hzo
 obtain ⟨arr, fr, ho, hrel⟩ := h.cells (look_some_M hM)
 have hbo := (h.rel.has _ _ (look_some_M hM)).2.1
 have hM0 := h.rel.drop b
 have hle := hrel.le
 obtain ⟨ol, hol⟩ : ∃ ol, ol = (arr.toList.drop (E.β b)).take m := ⟨_, rfl⟩
 have hll : ol.length = m := by rw [hol, List.length_take, List.length_drop, Array.length_toList]; omega
 have hget : ∀ j, j < m → ol[j]? = arr[E.β b + j]? := fun j hj => by rw [hol, List.getElem?_take_of_lt hj, List.getElem?_drop, Array.getElem?_toList]
 have hold : (Builtin.firstCells i.size sLen (.slice (some ⟨E.ρ b, E.β b + 0, none⟩) sLen sCap)).run P w.drew = .ok ol.toArray w.drew := by
  simp only [Builtin.firstCells]
  have := run_loadCells_list (P := P) w.drew ⟨E.ρ b, E.β b + 0, none⟩ ol (fun j v hj => by
   rw [Addr.add_eq]
   have hjm : j < m := by rw [← hll]; exact (List.getElem?_eq_some_iff.1 hj).1
   have ho' : w.drew.heap[E.ρ b]? = some (.cells arr e fr) := ho
   simp only [World.cell?, ho', Option.isSome_none, Bool.false_eq_true, if_false]
   rw [Nat.add_zero, ← hget j hjm]; exact hj)
  rwa [hll, hm] at this
 have h2 := nextslicecap_le hg
 have h48 : Builtin.nextslicecap (sLen + n) sCap * i.bytes ≤ 281474976710656 := by
  have h3 : Builtin.nextslicecap (sLen + n) sCap * i.bytes ≤ (3 * (sLen + n) + 2000) * i.bytes := Nat.mul_le_mul_right _ (by omega)
  omega
 have hrun := append_grow_run (w := w) (rty := rty) hat hu hzs hi hz hlen hold hnew hg (by omega) h48
 have hcap : sLen + n ≤ grownCap w (sLen + n) sCap e := by simp [grownCap, Question.cut]
 have hco : P.cellsOf e = i.size := by unfold Program.cellsOf; rw [hi]; rfl
 have harr : ol.toArray ++ (concs E new).toArray = (ol ++ concs E new).toArray := by simp
 rw [harr] at hrun
 obtain ⟨E', hS, hE, hρ, hβ, hκ⟩ := hM0.rel.alloc (.cells e (m + new.length) false fz str d (listTr new m cs)) (.cells ((ol ++ concs E new).toArray ++ Builtin.zeroCells z.cells (grownCap w (sLen + n) sCap e - (sLen + n))) e) ct
  (grownCap w (sLen + n) sCap e - (sLen + n)) (fun b => c b ∨ b = ct) (hf ct (Nat.le_refl _)) (.inr rfl) (fun _ h => .inl h) (more_bd hbo hbn fun _ h => .inl h)
  (w.drew.alloc (.cells ((ol ++ concs E new).toArray ++ Builtin.zeroCells z.cells (grownCap w (sLen + n) sCap e - (sLen + n))) e)) rfl rfl rfl rfl
  (fun E' he _ hβ hκ => by
   have hcl : (concs E new).length = n * i.size := by simp [concs_map, hln]
   refine ⟨_, _, rfl, ⟨fun k v hk => ?_, ?_, ?_, fun _ => .inl rfl⟩⟩
   · rw [hβ, Nat.zero_add]
     rcases cell_more hk with ⟨h1, h2⟩ | ⟨h1, h2⟩
     · rw [conc_ext he v (hbo k v h2), Array.getElem?_append_left (by simp [hll]; omega)]
       have : (ol ++ concs E new).toArray[k]? = ol[k]? := by rw [List.getElem?_toArray, List.getElem?_append_left (by omega)]
       rw [this, hget k h1]
       exact hrel.cell k v h2
     · have hlt : k - m < new.length := (List.getElem?_eq_some_iff.1 h2).1
       rw [conc_ext he v (bds_get hbn h2), Array.getElem?_append_left (by simp [hll, hcl]; omega)]
       have : (ol ++ concs E new).toArray[k]? = (concs E new)[k - m]? := by rw [List.getElem?_toArray, List.getElem?_append_right (by omega), hll]
       rw [this]
       exact concs_get h2
   · simp only [Bool.false_eq_true, if_false]
     rw [Array.size_append, zeroCells_size, hβ, hκ, hzc, hco]
     simp [hll, hcl, hln]
   · intro o _ ho hf
     have h1 := hf.1
     have h2 := hf.2
     simp only at h1 h2
     omega)
 refine ⟨E', _, _, ?_, hM0.trans hS, .inr rfl, grow_one c ct⟩
 rw [hrun]
 simp only [conc, hρ, hβ, hκ]
 congr 2
 omega
theorem grownT_in (h : Cx P E F M c w t a) {ct : Nat} (hf : Fresh c ct) {b m fz sLen n : Nat} {str : Bool} {d : List V} {cs : T} {e : TypeId} {i : TypeInfo} (hi : P.info? e = some i) (hM : M.get b = some (.cells e m false fz str d cs))
  (hm : m = sLen * i.size) (hfz : fz ≤ sLen * i.size) {new : List V} (hbn : bds c new) (h1 : allOne new = true) (hln : new.length = n * i.size)
  (hle : sLen + n ≤ sLen + E.κ b) {by_ : Nat} {v : V} {M' : Mem} {ct' : Nat} (hgr : grownT (M.del b) ct e by_ (sLen + n) fz str new m d cs = .k v M' ct') :
  ∃ E' w' c', (storeCells ⟨E.ρ b, E.β b + 0 + sLen * i.size, none⟩ (concs E new)).run P w = .ok () w' ∧ Stp P F E M c w E' M' c' w' ∧ bd c' v ∧ Grow c ct c' ct' ∧ conc E' v = .slice (some ⟨E.ρ b, E.β b + 0, none⟩) (sLen + n) (sLen + E.κ b) := by
 obtain ⟨hr, rfl, rfl, rfl⟩ := grownT_some hgr
 obtain ⟨arr, fr, ho, hrel⟩ := h.cells (look_some_M hM)
 have hbo := (h.rel.has _ _ (look_some_M hM)).2.1
 have hco : P.cellsOf e = i.size := by unfold Program.cellsOf; rw [hi]; rfl
 have hsz := hrel.size
 simp only [Bool.false_eq_true, if_false] at hsz
 rw [hco] at hsz
 have hlen : (concs E new).length = n * i.size := by simp [concs_map, hln]
 have hone : ∀ v ∈ concs E new, v.oneCell' = true := by
  intro v hv
  rw [concs_map, List.mem_map] at hv
  obtain ⟨x, hx, rfl⟩ := hv
  exact isOne_conc (allOne_mem h1 x hx)
 have hmul : (sLen + n) * i.size ≤ (sLen + E.κ b) * i.size := Nat.mul_le_mul_right _ hle
 rw [Nat.add_mul, Nat.add_mul] at hmul
 have hrun := storeCells_run (P := P) (E.ρ b) (E.β b + 0 + sLen * i.size) e fr (concs E new) 0 arr w ho (fun k hk hk' => hrel.free k (by omega) hk') (by rw [hlen]; omega) hone
 have hsp := foldSet (E.β b + 0 + sLen * i.size) (concs E new) 0 arr
 obtain ⟨E', hS, hρ, hβ, hκ⟩ := h.rel.take b ct _ (.cells e (m + new.length) false fz str d (listTr new m cs)) hM (.cells (splice arr (E.β b + 0 + sLen * i.size) (concs E new) 0) e fr) (E.β b + 0) (sLen + E.κ b - (sLen + n)) (fun x => c x ∨ x = ct)
  (hf ct (Nat.le_refl _)) (.inr rfl) (fun _ h => .inl h) (more_bd hbo hbn fun _ h => .inl h) { w with heap := w.heap.setIfInBounds (E.ρ b) (.cells (splice arr (E.β b + 0 + sLen * i.size) (concs E new) 0) e fr) } rfl rfl rfl rfl (fun E' he hρ hβ hκ => by
   refine ⟨_, _, rfl, ⟨fun k v hk => ?_, ?_, ?_, ?_⟩⟩
   · rw [hβ]
     unfold splice
     rcases cell_more hk with ⟨k1, k2⟩ | ⟨k1, k2⟩
     · rw [conc_ext he v (hbo k v k2), hsp.2 (E.β b + 0 + k) (by omega), hlen, Nat.add_zero, if_neg (by omega)]
       exact hrel.cell k v k2
     · have hlt : k - m < new.length := (List.getElem?_eq_some_iff.1 k2).1
       rw [conc_ext he v (bds_get hbn k2), hsp.2 (E.β b + 0 + k) (by omega), hlen, Nat.add_zero, if_pos (by omega), show E.β b + 0 + k - (E.β b + 0 + sLen * i.size) = k - m by omega]
       exact concs_get k2
   · simp only [Bool.false_eq_true, if_false]
     unfold splice
     rw [hsp.1, hβ, hκ, hco, hln, hsz, Nat.sub_mul, Nat.add_mul, Nat.add_mul]
     omega
   · unfold splice
     rw [hsp.1, hβ]
     intro k hk hk'
     exact hrel.free k (by omega) hk'
   · intro hs
     rw [hβ]
     rcases hrel.plain hs with hp | ⟨hp, hp'⟩
     · exact .inl hp
     · exact .inr ⟨hp, by omega⟩)
 refine ⟨E', _, _, hrun, hS, .inr rfl, grow_one c ct, ?_⟩
 simp only [conc, hρ, hβ, hκ]
 congr 1
 omega
theorem mayWrite_some {b ty o e fz : Nat} {str : Bool} (h : mayWrite M b ty o e = some (fz, str)) : ∃ n d cs, M.get b = some (.cells ty n false fz str d cs) ∧ n = e ∧ fz ≤ o ∧ o ≤ e := by
 unfold mayWrite at h
 split at h
 · rename_i ty' n fz' str' d cs hM
   rw [beqN, beqN, bleN, bleN] at h
   by_cases hc : (decide (ty' = ty) && decide (n = e) && decide (fz' ≤ o) && decide (o ≤ e)) = true
   · rw [hc, cond_true] at h
     simp only [Option.some.injEq, Prod.mk.injEq] at h
     obtain ⟨rfl, rfl⟩ := h
     simp only [Bool.and_eq_true, decide_eq_true_eq] at hc
     obtain ⟨⟨⟨rfl, rfl⟩, h3⟩, h4⟩ := hc
     exact ⟨_, _, _, hM, rfl, h3, h4⟩
   · rw [Bool.not_eq_true] at hc
     rw [hc] at h; cases h
 · cases h
theorem appIn_some {ct b o sz len n : Nat} {new : List V} {f : Nat → V} {v : V} {M' : Mem} {ct' : Nat} (h : appIn ct b o sz len n M new f = .k v M' ct') : storeN M b (o + len * sz) new = some M' ∧ v = f (len + n) ∧ ct' = ct := by
 unfold appIn at h
 split at h
 · rename_i M'' hs
   rw [fN_eq] at h
   injection h with h1 h2 h3
   subst h2
   exact ⟨hs, h1.symm, h3.symm⟩
 · cases h
theorem grownL_some {M0 : Mem} {ct e by_ len fz : Nat} {str : Bool} {new : List V} {r : Option (List V × Option Nat)} {v : V} {M' : Mem} {ct' : Nat} (h : grownL M0 ct e by_ len fz str new r = .k v M' ct') : ∃ old q, r = some (old, q) ∧ grown M0 ct e by_ len fz str (old ++ new) = .k v M' ct' := by
 unfold grownL at h
 split at h
 · exact ⟨_, _, rfl, h⟩
 · cases h
theorem readB_cell {sz n b o n' ty fz : Nat} {ex str : Bool} {d : List V} {cs : T} {vs : List V} {r : Option Nat} (hM : M.get b = some (.cells ty n' ex fz str d cs)) (h : readB F M sz n b o = some (vs, r)) : ∀ j v, vs[j]? = some v → cell n' d cs (o + j) = some v := by
 unfold Ev.readB at h
 rw [beqN] at h
 by_cases hn : n = 0
 · rw [decide_eq_true hn, cond_true] at h
   simp only [Option.some.injEq, Prod.mk.injEq] at h
   obtain ⟨rfl, rfl⟩ := h
   intro j v hj; simp at hj
 · rw [decide_eq_false hn, cond_false] at h
   split at h
   · rename_i l hl
     simp only [Option.some.injEq, Prod.mk.injEq] at h
     obtain ⟨rfl, rfl⟩ := h
     obtain ⟨ty', m, ex', fz', str', d', cs', hb, hg⟩ := asCells_some (f := none) hl (by simp)
     rw [look_some_M hM] at hb
     injection hb with hb
     injection hb with h1 h2 h3 h4 h5 h6 h7
     subst h2 h6 h7
     exact (cellsAt_get _ _ _ hg).2
   · cases h
theorem firstCells_drew {sz n b o len cap : Nat} (h : Cx P E F M c w t a) {old : List V} {r : Option Nat} (hr : readB F M sz n b o = some (old, r)) : (Builtin.firstCells sz n (.slice (some ⟨E.ρ b, E.β b + o, none⟩) len cap)).run P w.drew = .ok (concs E old).toArray w.drew := by
 simp only [Builtin.firstCells]
 exact ((h.world (w' := w.drew) rfl).readB hr).1
theorem app_run (h : Cx P E F M c w t a) {ct : Nat} (hf : Fresh c ct) {ats : Array TypeId} {rty ty e : TypeId} {i : TypeInfo} (hat : ats[0]? = some ty) (hu : P.underlying ty = some (.slice e)) (hzs : ZerosOk P ats) (hi : P.info? e = some i) (hpos : i.size ≠ 0) (hzo : zOk P e i.size = true)
  {x y : V} {n : Nat} {new : List V} (hs : splitSrc F M i.size y = some (n, new)) (hbx : bd c x) (h1 : allOne new = true) (hln : new.length = n * i.size)
  {v : V} {M' : Mem} {ct' : Nat} (ha : app F M ct e i.size i.bytes x n new = .k v M' ct') : EVal P F E M c ct w (Builtin.append_ ats rty #[conc E x, conc E y]) v M' ct' := by
 obtain ⟨hlen, hfc, hbn⟩ := srcRun h hs
 obtain ⟨_, hfcd, _⟩ := srcRun (h.world (w' := w.drew) rfl) hs
 unfold app at ha
 rw [beqN] at ha
 by_cases hn0 : n = 0
 · subst hn0
   rw [decide_eq_true rfl, cond_true] at ha
   have hnil : new = [] := List.eq_nil_of_length_eq_zero (by omega)
   subst hnil
   cases hlk : lenOk x with
   | false => rw [hlk] at ha; cases ha
   | true =>
     rw [hlk, cond_true] at ha
     injection ha with g1 g2 g3
     subst g1 g2 g3
     have hsl : ∃ base sLen sCap, conc E x = .slice base sLen sCap ∧ sLen ≤ sCap := by
      cases x <;> first
       | cases (show false = true from hlk)
       | (refine ⟨_, _, _, rfl, ?_⟩
          first
           | exact Nat.le_refl _
           | exact Nat.zero_le _
           | (have : Nat.ble _ _ = true := hlk
              rw [bleN] at this
              have := of_decide_eq_true this
              first
               | exact this
               | exact Nat.le_trans this (Nat.le_add_right _ _)))
     obtain ⟨base, sLen, sCap, hcx, hle⟩ := hsl
     refine ⟨E, w, c, ?_, .refl h.rel, hbx, .refl _ _⟩
     rw [hcx]
     exact append_zero_run hat hu hzs hi hlen hfc hle
 · rw [decide_eq_false hn0, cond_false] at ha
   have fin : ∀ {b o len n' cap : Nat} {M'' : Mem}, storeN M b (o + len * i.size) new = some M'' → len + n ≤ cap → c b → ∃ w', (Builtin.append_ ats rty #[.slice (some ⟨E.ρ b, E.β b + o, none⟩) len cap, conc E y]).run P w = .ok (.slice (some ⟨E.ρ b, E.β b + o, none⟩) (len + n) cap) w' ∧ Stp P F E M c w E M'' c w' := by
    intro b o len n' cap M'' hst hcap hb
    obtain ⟨w', hrun, hS⟩ := h.store hst hbn
    refine ⟨w', append_in_run hat hu hzs hi hlen hfc hcap ?_, hS⟩
    rw [Addr.add_eq, Nat.add_assoc]
    exact hrun
   cases x with
   | l0 =>
     exact grown_new h hf (.refl h.rel) hat hu hzs hi hzo (old := []) hlen (by simp [Builtin.firstCells, concs]) hfcd trivial hbn (by simp) hln (by omega) (by simpa using ha)
   | l b o len cap =>
     have ha' : app_l F M ct e i.size i.bytes b o len cap n new = .k v M' ct' := ha
     unfold app_l at ha'
     rw [bleN] at ha'
     by_cases hcap : len + n ≤ cap
     · rw [decide_eq_true (show Nat.add len n ≤ cap from hcap), cond_true] at ha'
       obtain ⟨hst, rfl, rfl⟩ := appIn_some ha'
       obtain ⟨w', hrun, hS⟩ := fin (n' := 0) hst hcap hbx
       exact ⟨E, w', c, hrun, hS, hbx, .refl _ _⟩
     · rw [decide_eq_false (show ¬ Nat.add len n ≤ cap from hcap), cond_false] at ha'
       obtain ⟨old, q, hr, hgr⟩ := grownL_some ha'
       have hrb := h.readB hr
       exact grown_new h hf (.refl h.rel) hat hu hzs hi hzo hlen (firstCells_drew h hr) hfcd hrb.2.1 hbn hrb.2.2 hln (by omega) hgr
   | u b o len el kn =>
     have ha' : app_u F M ct e i.size i.bytes b o len el kn n new = .k v M' ct' := ha
     unfold app_u at ha'
     rw [bleN] at ha'
     by_cases hcap : el + len + n ≤ kn
     · rw [decide_eq_true (show Nat.add (Nat.add el len) n ≤ kn from hcap), cond_true] at ha'
       obtain ⟨hst, rfl, rfl⟩ := appIn_some ha'
       obtain ⟨w', hrun, hS⟩ := fin (n' := 0) (cap := kn - el + E.κ b) hst (by omega) hbx
       exact ⟨E, w', c, hrun, hS, hbx, .refl _ _⟩
     · rw [decide_eq_false (show ¬ Nat.add (Nat.add el len) n ≤ kn from hcap), cond_false] at ha'
       split at ha'
       · rename_i fz str hmw
         obtain ⟨n', d, cs, hM, hn', hfz, _⟩ := mayWrite_some hmw
         cases hw : Nat.beq o 0 && Nat.beq (Nat.sub kn el) len with
         | true =>
           rw [hw, cond_true, hM] at ha'
           rw [Bool.and_eq_true, beqN, beqN] at hw
           obtain rfl : o = 0 := of_decide_eq_true hw.1
           have hkl : kn - el = len := of_decide_eq_true hw.2
           have ha2 : grownT (M.del b) ct e i.bytes (len + n) fz str new n' d cs = .k v M' ct' := ha'
           have hm : n' = len * i.size := by
            have : n' = 0 + (kn - el) * i.size := hn'
            rw [this, hkl, Nat.zero_add]
           have hcx : conc E (.u b 0 len el kn) = .slice (some ⟨E.ρ b, E.β b + 0, none⟩) len (kn - el + E.κ b) := rfl
           rw [hcx]
           by_cases hroom : len + n ≤ kn - el + E.κ b
           · rw [hkl] at hroom ⊢
             obtain ⟨E', w', c', hrun, hS, hb', hG, hcv⟩ := grownT_in h hf hi hM hm (by have : fz ≤ 0 + len * i.size := hfz; omega) hbn h1 hln hroom ha2
             refine ⟨E', w', c', ?_, hS, hb', hG⟩
             rw [hcv]
             refine append_in_run hat hu hzs hi hlen hfc hroom ?_
             rw [Addr.add_eq]
             exact hrun
           · exact grownT_new h hf hat hu hzs hi hzo hM hm hlen hfcd hbn hln (by omega) ha2
         | false =>
         rw [hw, cond_false] at ha'
         obtain ⟨old, q, hr, hgr⟩ := grownL_some ha'
         have hrb := h.readB hr
         by_cases hroom : len + n ≤ kn - el + E.κ b
         · obtain ⟨E', w', c', hrun, hS, hb', hG, hcv⟩ := grown_in h hf hi hM (o := o) (kn := kn - el) (sLen := len) hn' hfz (readB_cell hM hr) hrb.2.1 hbn h1 hrb.2.2 hln hroom hgr
           refine ⟨E', w', c', ?_, hS, hb', hG⟩
           rw [hcv]
           refine append_in_run hat hu hzs hi hlen hfc hroom ?_
           rw [Addr.add_eq]
           exact hrun
         · exact grown_new h hf (h.rel.drop b) hat hu hzs hi hzo hlen (firstCells_drew h hr) hfcd hrb.2.1 hbn hrb.2.2 hln (by omega) hgr
       · cases ha'
   | ue b o0 o =>
     have ha' : (match mayWrite M b e o o with
      | some (fz, str) => grown (M.del b) ct e i.bytes n fz str new
      | none => .f) = .k v M' ct' := ha
     split at ha'
     · rename_i fz str hmw
       obtain ⟨n', d, cs, hM, hn', hfz, _⟩ := mayWrite_some hmw
       by_cases hroom : n ≤ E.κ b
       · have hκ : E.κ b ≠ 0 := by omega
         obtain ⟨E', w', c', hrun, hS, hb', hG, hcv⟩ := grown_in h hf hi hM (o := o) (kn := 0) (sLen := 0) (old := []) (n := n) (by simpa using hn') (by simpa using hfz) (fun j v hj => by simp at hj) trivial hbn h1 (by simp) hln (by omega) (by simpa using ha')
         refine ⟨E', w', c', ?_, hS, hb', hG⟩
         rw [hcv]
         simp only [conc, if_neg hκ]
         have := append_in_run (w := w) (rty := rty) (sLen := 0) (sCap := E.κ b) (ad := ⟨E.ρ b, E.β b + o, none⟩) hat hu hzs hi hlen hfc (by omega) (w' := w') (by rw [Addr.add_eq]; exact hrun)
         simpa using this
       · have := grown_new (rty := rty) (base := some (if E.κ b = 0 then (if o < o0 then adD b else ⟨E.ρ b, E.β b + o0, none⟩) else ⟨E.ρ b, E.β b + o, none⟩)) (sLen := 0) (sCap := E.κ b) (old := []) h hf (h.rel.drop b) hat hu hzs hi hzo hlen (by simp [Builtin.firstCells, concs, loadCells, loadCellsFrom]) hfcd trivial hbn (by simp) hln (by omega) (by simpa using ha')
         exact this
     · cases ha'
   | _ => cases (show RC.f = .k v M' ct' from ha)
end
section
variable {P : Program} {E : Env} {F : RO} {M : Mem} {c : Nat → Prop} {w : World} {t : T} {a : Act}
theorem EVal.op {o : Oper} {cl : Call} {b : Builtin} (hop : o.op = .call cl) (hb : cl.callee = .builtin b) {l : List Operand} (hl : cl.args.toList = l) {s : Sem Value} {v : V} {M' : Mem} {ct ct' : Nat}
  (he : ∀ fs, builtin b cl.argTypes o.type fs (l.map a.eval).toArray = (s >>= fun v => pure (Next.value v))) (h : EVal P F E M c ct w s v M' ct') : EOk P F E M c ct w a o v M' ct' := by
 obtain ⟨E', w', c', hr, hS, hb', hG⟩ := h
 exact ⟨E', w', .value (conc E' v), c', exec_builtin hop hb hl (by rw [he]; exact val_run hr), .inl rfl, hS, hb', hG⟩
theorem e_append (h : Cx P E F M c w t a) {ct : Nat} (hf : Fresh c ct) {o : Oper} {cl : Call} (hop : o.op = .call cl) (hb : cl.callee = .builtin .append) {y z : Operand} (hargs : cl.args.toList = [y, z]) {ty e : TypeId} (hat : cl.argTypes[0]? = some ty) (hzs : ZerosOk P cl.argTypes)
  (hu : P.underlying ty = some (.slice e)) {sz by_ : Nat} (hsz : szOf P e = some sz) (hby : byOf P e = some by_) (hpos : sz ≠ 0) (hzo : zOk P e sz = true) {xx xy : X} (h1 : compX y = some xx) (h2 : compX z = some xy)
  {k : Kn} (hk : k.F = F) {v : V} {M' : Mem} {ct' : Nat} (he : doE (.app e sz by_ xx xy) k M ct t = .k v M' ct') : EOk P F E M c ct w a o v M' ct' := by
 have he' : e_app1 k.F M ct e sz by_ (xx.ev t) (splitSrc k.F M sz (xy.ev t)) = .k v M' ct' := he
 rw [hk] at he'
 obtain ⟨i, hi, rfl⟩ := szOf_info hsz
 have hby' : i.bytes = by_ := by
  unfold byOf at hby; rw [hi] at hby; simpa using hby
 subst hby'
 have e1 := h.ev h1
 have e2 := h.ev h2
 cases hs : splitSrc F M i.size (xy.ev t) with
 | none => rw [hs] at he'; cases (show RC.f = .k v M' ct' from he')
 | some r =>
   obtain ⟨n, new⟩ := r
   rw [hs] at he'
   have he2 : (bif allOne new && Nat.beq new.length (Nat.mul n i.size) then app F M ct e i.size i.bytes (xx.ev t) n new else .f) = .k v M' ct' := he'
   rw [beqN] at he2
   by_cases hc1 : allOne new = true
   · by_cases hc2 : new.length = n * i.size
     · rw [hc1, decide_eq_true (show new.length = Nat.mul n i.size from hc2)] at he2
       have he3 : app F M ct e i.size i.bytes (xx.ev t) n new = .k v M' ct' := he2
       have := app_run (rty := o.type) h hf hat hu hzs hi hpos hzo hs e1.2 hc1 hc2 he3
       refine EVal.op hop hb hargs (s := Builtin.append_ cl.argTypes o.type #[conc E (xx.ev t), conc E (xy.ev t)]) (fun fs => ?_) this
       simp only [builtin, List.map_cons, List.map_nil, e1.1, e2.1]
     · rw [hc1, decide_eq_false (show ¬ new.length = Nat.mul n i.size from hc2)] at he2; cases he2
   · rw [Bool.not_eq_true] at hc1
     rw [hc1] at he2; cases he2
theorem zc_cons (n : Nat) : Builtin.zeroCells #[Value.int .u8 0] n = (List.replicate n (Value.int .u8 0)).toArray := by
 apply Array.ext'
 simp only [Builtin.zeroCells]
 apply List.ext_getElem
 · simp
 · intro i h1 h2
   simp [Nat.mod_one]
theorem bl_zero (n : Nat) : bl n 0 = List.replicate n 0 := by
 induction n with
 | zero => rfl
 | succ n ih => rw [bl, Nat.zero_div, ih]; rfl
theorem fc_zero (n : Nat) : Builtin.firstCells 1 n (.string (ba n 0)) = pure (Builtin.zeroCells #[Value.int .u8 0] n) := by
 show (pure (((ba n 0).extract 0 n).data.map fun b => Value.int .u8 b.toNat) : Sem (Array Value)) = _
 congr 1
 rw [zc_cons]
 apply Array.ext'
 have e : ((ba n 0).extract 0 n) = ba n 0 := by
  apply ByteArray.ext
  simp [ByteArray.data_extract, ba, List.take_of_length_le, bl_length]
 rw [e]
 show ((bl n 0).toArray.map fun b => Value.int .u8 b.toNat).toList = _
 rw [bl_zero]
 simp
theorem appendZ_eq {ats : Array TypeId} {rty ty t2 e : TypeId} {ik : IntKind} {i : TypeInfo} (hat : ats[0]? = some ty) (hat1 : ats[1]? = some t2) (hu : P.underlying ty = some (.slice e)) (hu2 : P.underlying t2 = some (.int ik)) (hi : P.info? e = some i) (hz : i.zero = some (.int .u8 0)) (hs : i.size = 1) (hby : i.bytes = 1)
  {base : Option Addr} {sLen sCap n : Nat} {k : IntKind} (hn : sLen + n ≤ 1099511627776) :
  (Builtin.append_ ats rty #[.slice base sLen sCap, .int k n]).run P w = (Builtin.append_ #[ty] rty #[.slice base sLen sCap, .string (ba n 0)]).run P w := by
 have hm : IntKind.i64.max = 9223372036854775807 := rfl
 have hw : IntKind.i64.wrap (n : Int) = (n : Int) := by rw [show IntKind.i64.wrap (n : Int) = ((n : Int) + 9223372036854775808) % 18446744073709551616 - 9223372036854775808 from (by simp [IntKind.wrap, IntKind.bits, IntKind.signed]; split <;> omega)]; omega
 have hlen : (Builtin.lenOf (.string (ba n 0))).run P w = .ok n w := by
  show Result.ok (ba n 0).size w = _
  rw [ba_size]
 have hfc := fc_zero n
 have h48 : ¬ (281474976710656 < (n : Int)) := by omega
 have h0 : ¬ ((n : Int) < 0) := by omega
 have hzr : n = 0 → Builtin.zeroCells #[Value.int .u8 0] n = #[] := fun e => by subst e; rw [zc_cons]; rfl
 have hzc : Value.cells (.int .u8 0) = #[Value.int .u8 0] := rfl
 have h63 : ¬ (9223372036854775807 < (sLen : Int) + (n : Int)) := by omega
 by_cases hc : sLen + n ≤ sCap
 · simp [Builtin.append_, hat, hat1, run_underlying hu, run_underlying hu2, Go.sizeOf, typeInfo, zeroValue, hi, hz, hs, hby, hw, h48, h0, asInt, asIntOf, hlen, hfc, hc, hzc, h63, Question.forced]
   intro hn0
   rw [hzr hn0]
 · have hle := nextslicecap_le (need := sLen + n) (old := sCap) (by omega)
   have h48b : ¬ (281474976710656 < Builtin.nextslicecap (sLen + n) sCap) := by omega
   simp [Builtin.append_, hat, hat1, run_underlying hu, run_underlying hu2, Go.sizeOf, typeInfo, zeroValue, hi, hz, hs, hby, hw, h48, h0, asInt, asIntOf, hlen, hfc, hc, hzc, h63, h48b, Question.forced]
   by_cases hn0 : n = 0
   · simp only [if_pos hn0, hzr hn0]
     simp
   · simp only [if_neg hn0]
theorem EVal.op2 {o : Oper} {cl : Call} {b : Builtin} (hop : o.op = .call cl) (hb : cl.callee = .builtin b) {l : List Operand} (hl : cl.args.toList = l) {s : Sem Value} {v : V} {M' : Mem} {ct ct' : Nat}
  (he : ∀ fs, (builtin b cl.argTypes o.type fs (l.map a.eval).toArray).run P w = (s >>= fun v => pure (Next.value v)).run P w) (h : EVal P F E M c ct w s v M' ct') : EOk P F E M c ct w a o v M' ct' := by
 obtain ⟨E', w', c', hr, hS, hb', hG⟩ := h
 exact ⟨E', w', .value (conc E' v), c', exec_builtin hop hb hl (by rw [he]; exact val_run hr), .inl rfl, hS, hb', hG⟩
theorem lenV_le {x : V} {m : Nat} (h : lenV x = some m) (hx : ∀ a b, x ≠ .s a b) : ∃ base cap, conc E x = .slice base m cap := by
 rcases lenV_slice (E := E) h with ⟨ad, cap, e⟩ | ⟨y, e⟩
 · exact ⟨_, _, e⟩
 · exact absurd e (hx _ _)
theorem e_appendZ (h : Cx P E F M c w t a) {ct : Nat} (hf : Fresh c ct) {o : Oper} {cl : Call} (hop : o.op = .call cl) (hb : cl.callee = .builtin .append) {y z : Operand} (hargs : cl.args.toList = [y, z]) {ty t2 e : TypeId} (hat : cl.argTypes[0]? = some ty) (hat1 : cl.argTypes[1]? = some t2)
  {ik : IntKind} (hd : P.underlying t2 = some (.int ik)) (hu : P.underlying ty = some (.slice e)) (hsz : szOf P e = some 1) (hby : byOf P e = some 1) (hzv : zeroV P e = some (.i .u8 (.ofNat 0))) (hzo : zOk P e 1 = true) {xx xy : X} (h1 : compX y = some xx) (h2 : compX z = some xy)
  {k : Kn} (hk : k.F = F) {v : V} {M' : Mem} {ct' : Nat} (he : doE (.apz e 1 xx xy) k M ct t = .k v M' ct') : EOk P F E M c ct w a o v M' ct' := by
 have he' : e_apz e 1 xx xy k.F M ct t = .k v M' ct' := he
 rw [hk] at he'
 obtain ⟨i, hi, hs1⟩ := szOf_info hsz
 have hby' : i.bytes = 1 := by
  unfold byOf at hby; rw [hi] at hby; simpa using hby
 have e1 := h.ev h1
 have e2 := h.ev h2
 unfold e_apz at he'
 split at he'
 · rename_i n hn
   obtain ⟨kk, hy⟩ := asN_some hn
   rw [hy] at e2
   split at he'
   · cases he'
   · rename_i vv hv
     unfold apz1 at he'
     split at he'
     · rename_i m hm
       rw [bleN] at he'
       by_cases hmn : m + n ≤ 1099511627776
       · rw [decide_eq_true (show Nat.add m n ≤ 1099511627776 from hmn), cond_true] at he'
         cases hs : splitSrc F M 1 (.s n 0) with
         | none => rw [hs] at he'; cases (show RC.f = .k v M' ct' from he')
         | some r =>
           obtain ⟨n', new⟩ := r
           rw [hs] at he'
           have he2 : (bif allOne new && Nat.beq new.length (Nat.mul n' 1) then app F M ct e 1 1 (xx.ev t) n' new else .f) = .k v M' ct' := he'
           rw [beqN] at he2
           by_cases hc1 : allOne new = true
           · by_cases hc2 : new.length = n' * 1
             · rw [hc1, decide_eq_true (show new.length = Nat.mul n' 1 from hc2)] at he2
               have he3 : app F M ct e 1 1 (xx.ev t) n' new = .k v M' ct' := he2
               obtain ⟨zv, hzz, hz1⟩ : ∃ zv, i.zero = some zv ∧ zv = .int .u8 0 := by
                unfold zeroV at hzv
                rw [hi] at hzv
                obtain ⟨zv, g1, g2⟩ := Option.bind_eq_some_iff.1 hzv
                exact ⟨zv, by simpa using g1, (toV_conc E c _ zv _ g2).1.symm⟩
               subst hz1
               rw [← hs1] at hs hc2 he3 hzo
               have he4 : app F M ct e i.size i.bytes (xx.ev t) n' new = .k v M' ct' := by rw [hby']; rw [hs1] at he3 ⊢; exact he3
               have := app_run (ats := #[ty]) (rty := o.type) h hf (by rfl) hu (.inr rfl) hi (by omega) hzo hs e1.2 hc1 hc2 he4
               obtain ⟨base, cap, hcx⟩ := lenV_le (E := E) hm hv
               refine EVal.op2 hop hb hargs (s := Builtin.append_ #[ty] o.type #[conc E (xx.ev t), conc E (.s n 0)]) (fun fs => ?_) this
               simp only [builtin, List.map_cons, List.map_nil, e1.1, e2.1, hcx, conc]
               have hq := appendZ_eq (P := P) (w := w) (rty := o.type) hat hat1 hu hd hi hzz hs1 hby' (base := base) (sCap := cap) (k := kk) hmn
               simp only [Sem.run_bind, List.map_cons, List.map_nil] at hq ⊢
               rw [hq]
             · rw [hc1, decide_eq_false (show ¬ new.length = Nat.mul n' 1 from hc2)] at he2; cases he2
           · rw [Bool.not_eq_true] at hc1
             rw [hc1] at he2; cases he2
       · rw [decide_eq_false (show ¬ Nat.add m n ≤ 1099511627776 from hmn)] at he'; cases he'
     · cases he'
 · cases he'
theorem cpySrc_run (h : Cx P E F M c w t a) {sz n m : Nat} {y : V} {vs : List V} (hl : lenV y = some m) (hn : n ≤ m) (hs : cpySrc F M sz n y = some vs) :
  (Builtin.lenOf (conc E y)).run P w = .ok m w ∧ (Builtin.firstCells sz n (conc E y)).run P w = .ok (concs E vs).toArray w ∧ bds c vs := by
 unfold cpySrc at hs
 split at hs
 · rename_i m' x
   obtain rfl : m' = m := Option.some.inj hl
   rw [beqN] at hs
   by_cases h1 : sz = 1
   · rw [decide_eq_true h1, cond_true] at hs
     obtain rfl := Option.some.inj hs
     refine ⟨by simp [conc, Builtin.lenOf, ba_size], ?_, byteCells_bd _ _⟩
     simp only [conc, Builtin.firstCells, Sem.run_pure, byteCells_conc]
     congr 1
     apply Array.ext'
     simp only [ba, Array.toList_map, ByteArray.data_extract, Array.toList_extract, List.extract_eq_take_drop, Nat.sub_zero, List.drop_zero]
     congr 1
     have e := bl_mod m' x
     rw [← bl_take n m' _ hn]
     show List.take n (bl m' x) = List.take n (bl m' (x % 256 ^ m'))
     rw [e]
   · rw [decide_eq_false h1] at hs; cases hs
 · rename_i y' hne
   obtain ⟨⟨vs', r⟩, hr, rfl⟩ := Option.map_eq_some_iff.1 hs
   obtain ⟨⟨ad, len, cap, hcv, hld⟩, hb, _⟩ := h.readL hr
   rcases lenV_slice (E := E) hl with ⟨ad', cap', hcv'⟩ | ⟨x, hx⟩
   · rw [hcv] at hcv'
     injection hcv' with e1 e2 e3
     subst e1 e2 e3
     rw [hcv]
     refine ⟨by simp [Builtin.lenOf], ?_, hb⟩
     cases ad with
     | none => simp only at hld; subst hld; simp [Builtin.firstCells, concs]
     | some ad => simp only [Builtin.firstCells]; exact hld
   · exact absurd hx (hne _ _)
theorem lenOf_run (w : World) {y : V} {m : Nat} (hl : lenV y = some m) : (Builtin.lenOf (conc E y)).run P w = .ok m w := by
 rcases lenV_slice (E := E) hl with ⟨ad, cap, h⟩ | ⟨x, rfl⟩
 · rw [h]; simp [Builtin.lenOf]
 · simp [conc, Builtin.lenOf, ba_size]
theorem e_copy (h : Cx P E F M c w t a) {o : Oper} {cl : Call} (hop : o.op = .call cl) (hb : cl.callee = .builtin .copy) {y z : Operand} (hargs : cl.args.toList = [y, z]) {ty e : TypeId} (hat : cl.argTypes[0]? = some ty)
  (hu : P.underlying ty = some (.slice e)) {sz : Nat} (hsz : szOf P e = some sz) {xx xy : X} (h1 : compX y = some xx) (h2 : compX z = some xy)
  {k : Kn} (hk : k.F = F) {v : V} {M' : Mem} {ct ct' : Nat} (he : doE (.cpy sz xx xy) k M ct t = .k v M' ct') : EOk P F E M c ct w a o v M' ct' := by
 have he' : e_cpy sz xx xy k.F M ct t = .k v M' ct' := he
 rw [hk] at he'
 have e1 := h.ev h1
 have e2 := h.ev h2
 unfold e_cpy at he'
 split at he'
 · cases he'
 · rename_i x hne
   unfold e_cpy1 at he'
   split at he'
   · rename_i dn sn hd hs
     rw [fN_eq, bleN] at he'
     have hmin : (bif decide (sn ≤ dn) then sn else dn) = Nat.min sn dn := by
      by_cases hh : sn ≤ dn
      · rw [decide_eq_true hh, cond_true]; exact (Nat.min_eq_left hh).symm
      · rw [decide_eq_false hh, cond_false]; exact (Nat.min_eq_right (by omega)).symm
     rw [hmin, beqN] at he'
     rcases lenV_slice (E := E) hd with ⟨ad, cap, hcx⟩ | ⟨x, hx⟩
     case inr => exact absurd hx (hne _ _)
     refine EVal.op hop hb hargs (s := Builtin.copy_ cl.argTypes o.type #[conc E (xx.ev t), conc E (xy.ev t)]) (fun fs => by simp only [builtin, List.map_cons, List.map_nil, e1.1, e2.1]) ?_
     have hlo := lenOf_run (P := P) (E := E) w hs
     by_cases h0 : Nat.min sn dn = 0
     · rw [decide_eq_true h0, cond_true] at he'
       injection he' with g1 g2 g3
       subst g1 g2 g3
       refine ⟨E, w, c, ?_, .refl h.rel, trivial, .refl _ _⟩
       have hfc : (Builtin.firstCells sz 0 (conc E (xy.ev t))).run P w = .ok #[] w := by
        rcases lenV_slice (E := E) hs with ⟨ad', cap', hcy⟩ | ⟨x, hx⟩
        · rw [hcy]; cases ad' <;> simp [Builtin.firstCells, loadCells, loadCellsFrom]
        · rw [hx]; simp [conc, Builtin.firstCells]
       rw [hcx]
       cases ad <;> simp [Builtin.copy_, hat, run_und hu, hlo, h0, run_sz hsz, hfc, storeCells, conc, goInt]
     · rw [decide_eq_false h0, cond_false] at he'
       cases hsrc : cpySrc F M sz (Nat.min sn dn) (xy.ev t) with
       | none => rw [hsrc] at he'; cases (show RC.f = .k v M' ct' from he')
       | some vs =>
         rw [hsrc] at he'
         obtain ⟨_, hfc, hbv⟩ := cpySrc_run h hs (Nat.min_le_left _ _) hsrc
         have fin : ∀ b off, conc E (xx.ev t) = .slice (some ⟨E.ρ b, E.β b + off, none⟩) dn cap → (match storeN M b off vs with
           | some M => RC.k (.i .i64 (.ofNat (Nat.min sn dn))) M ct
           | none => .f) = .k v M' ct' → EVal P F E M c ct w (Builtin.copy_ cl.argTypes o.type #[conc E (xx.ev t), conc E (xy.ev t)]) v M' ct' := by
          intro b off hcx' hg
          split at hg
          · rename_i M'' hst
            injection hg with g1 g2 g3
            subst g1 g2 g3
            obtain ⟨w', hrun, hS⟩ := h.store hst hbv
            refine ⟨E, w', c, ?_, hS, trivial, .refl _ _⟩
            rw [hcx']
            simp [Builtin.copy_, hat, run_und hu, hlo, run_sz hsz, hfc, hrun, conc, goInt]
          · cases hg
         cases hv : xx.ev t with
         | l b off len cp =>
           rw [hv] at he' hcx fin
           have hcx' : Value.slice (some ⟨E.ρ b, E.β b + off, none⟩) len cp = .slice ad dn cap := hcx
           injection hcx' with q1 q2 q3
           subst q1 q2 q3
           exact fin b off rfl he'
         | u b off len el kn =>
           rw [hv] at he' hcx fin
           have hcx' : Value.slice (some ⟨E.ρ b, E.β b + off, none⟩) len (kn - el + E.κ b) = .slice ad dn cap := hcx
           injection hcx' with q1 q2 q3
           subst q1 q2 q3
           exact fin b off rfl he'
         | _ => rw [hv] at he'; cases (show RC.f = .k v M' ct' from he')
   · cases he'
theorem zeroCells_rep (E : Env) (z : Array Value) (zs : List V) (hz : z = (concs E zs).toArray) (n : Nat) : (Builtin.zeroCells z n).toList = concs E (repV zs n) := by
 subst hz
 have hsz : (concs E zs).length = zs.length := by simp [concs_map]
 by_cases h0 : zs.length = 0
 · have hz0 : zs = [] := List.eq_nil_of_length_eq_zero h0
   subst hz0
   have : ∀ n, repV [] n = [] := by intro n; induction n with | zero => rfl | succ n ih => simp [repV, ih]
   rw [this]
   simp [Builtin.zeroCells, concs]
 · induction n with
   | zero => simp [Builtin.zeroCells, repV, concs]
   | succ n ih =>
     rw [repV, concs_map E (zs ++ repV zs n), List.map_append, ← concs_map, ← concs_map, ← ih]
     apply List.ext_getElem?
     intro i
     simp only [Builtin.zeroCells, Array.toList_map, Array.toList_range, List.getElem?_map, List.size_toArray, hsz]
     by_cases hi : i < zs.length
     · rw [List.getElem?_append_left (by omega), List.getElem?_range (by rw [Nat.succ_mul]; omega)]
       simp only [Option.map_some, Nat.mod_eq_of_lt hi]
       rw [List.getElem?_eq_getElem (by omega)]
       simp [hsz, hi]
     · rw [List.getElem?_append_right (by omega), hsz, List.getElem?_map]
       by_cases h2 : i < (n + 1) * zs.length
       · rw [List.getElem?_range h2, List.getElem?_range (by rw [Nat.succ_mul] at h2; omega)]
         simp only [Option.map_some]
         have : (i - zs.length) % zs.length = i % zs.length := (Nat.mod_eq_sub_mod (by omega)).symm
         rw [this]
       · rw [List.getElem?_eq_none (by simp; omega), List.getElem?_eq_none (by rw [Nat.succ_mul] at h2; simp; omega)]
theorem repV_bd {zs : List V} (h : bds c zs) (n : Nat) : bds c (repV zs n) := by
 induction n with
 | zero => exact trivial
 | succ n ih =>
   rw [bds_iff] at *
   intro v hv
   rw [repV, List.mem_append] at hv
   rcases hv with hv | hv
   · exact h v hv
   · exact ih v hv
theorem e_clear (h : Cx P E F M c w t a) {o : Oper} {cl : Call} (hop : o.op = .call cl) (hb : cl.callee = .builtin .clear) {y : Operand} (hargs : cl.args.toList = [y]) {ty e : TypeId} (hat : cl.argTypes[0]? = some ty)
  (hu : P.underlying ty = some (.slice e)) {z : V} (hz : zeroV P e = some z) {xx : X} (h1 : compX y = some xx)
  {k : Kn} {v : V} {M' : Mem} {ct ct' : Nat} (he : doE (.clr (cellsOfV z) xx) k M ct t = .k v M' ct') : EOk P F E M c ct w a o v M' ct' := by
 have he' : e_clr (cellsOfV z) xx k.F M ct t = .k v M' ct' := he
 have e1 := h.ev h1
 have hz' := zeroV_run (P := P) (E := E) (c := c) (w := w) hz
 have hcell : (conc E z).cells = (concs E (cellsOfV z)).toArray := by rw [flatten_cells, cellsOfV_eq]
 have hbd : bds c (cellsOfV z) := by rw [cellsOfV_eq]; exact flatten_bd hz'.2
 refine EVal.op hop hb hargs (s := Builtin.clear_ cl.argTypes o.type #[conc E (xx.ev t)]) (fun fs => by simp only [builtin, List.map_cons, List.map_nil, e1.1]) ?_
 have nothing : ∀ {ad : Option Addr} {cap : Nat}, conc E (xx.ev t) = .slice ad 0 cap → RC.k undef M ct = .k v M' ct' → EVal P F E M c ct w (Builtin.clear_ cl.argTypes o.type #[conc E (xx.ev t)]) v M' ct' := by
  intro ad cap hcx hg
  injection hg with g1 g2 g3
  subst g1 g2 g3
  refine ⟨E, w, c, ?_, .refl h.rel, trivial, .refl _ _⟩
  rw [hcx]
  cases ad <;> simp [Builtin.clear_, hat, run_und hu, conc, undef, concs]
 have fin : ∀ b off n cap, conc E (xx.ev t) = .slice (some ⟨E.ρ b, E.β b + off, none⟩) n cap → clrW M ct b off n (cellsOfV z) = .k v M' ct' → EVal P F E M c ct w (Builtin.clear_ cl.argTypes o.type #[conc E (xx.ev t)]) v M' ct' := by
  intro b off n cap hcx hg
  unfold clrW at hg
  rw [beqN] at hg
  by_cases h0 : n = 0
  · subst h0
    rw [decide_eq_true rfl, cond_true] at hg
    exact nothing hcx hg
  · rw [decide_eq_false h0, cond_false] at hg
    cases hst : storeN M b off (repV (cellsOfV z) n) with
    | none => rw [hst] at hg; cases (show RC.f = .k v M' ct' from hg)
    | some M2 =>
      rw [hst] at hg
      have hg' : RC.k undef M2 ct = .k v M' ct' := hg
      injection hg' with g1 g2 g3
      subst g1 g2 g3
      obtain ⟨w', hrun, hS⟩ := h.store hst (repV_bd hbd n)
      refine ⟨E, w', c, ?_, hS, trivial, .refl _ _⟩
      rw [hcx]
      have hzc := zeroCells_rep E _ _ hcell n
      obtain ⟨m, rfl⟩ : ∃ m, n = m + 1 := ⟨n - 1, by omega⟩
      simp [Builtin.clear_, hat, run_und hu, hz'.1, hzc, hrun, conc, undef, concs]
 unfold e_clr at he'
 split at he'
 · rename_i hv
   exact nothing (ad := none) (cap := 0) (by rw [hv]; rfl) he'
 · rename_i b o0 off hv
   exact nothing (by rw [hv]; rfl) he'
 · rename_i b off n cp hv
   exact fin b off n cp (by rw [hv]; rfl) he'
 · rename_i b off n el kn hv
   exact fin b off n _ (by rw [hv]; rfl) he'
 · cases he'
theorem lies_bytes {e : TypeId} (hc : P.cellsOf e = 1) (count off n : Nat) (hn : off + n ≤ count) : liesAt P P.depth e count off e n = true := by
 have hd : P.depth = (2 * (P.types.size + Made.depth) + 1) + 1 := rfl
 rw [hd]
 simp only [liesAt, Bool.or_eq_true]
 left
 rw [hd]
 simp [rowAt, hc, hn, sameLayout, Nat.mod_one]
theorem freezeM_some {b o n : Nat} {M' : Mem} (h : freezeM M b o n = some M') : ∃ ty m ex fz d cs, M.get b = some (.cells ty m ex fz false d cs) ∧ M' = M.set b (.cells ty m ex (if fz ≤ o + n then o + n else fz) false d cs) := by
 unfold freezeM at h
 split at h
 · rename_i ty m ex fz str d cs hM
   cases str with
   | true => cases h
   | false =>
     rw [cond_false, fN_eq, bleN] at h
     obtain rfl := Option.some.inj h
     refine ⟨_, _, _, _, _, _, hM, ?_⟩
     congr 2
     by_cases hh : fz ≤ o + n
     · rw [decide_eq_true (show fz ≤ Nat.add o n from hh), if_pos hh]; rfl
     · rw [decide_eq_false (show ¬ fz ≤ Nat.add o n from hh), if_neg hh]; rfl
 · cases h
theorem loadBytes_run (r : Nat) : ∀ (ns : List Nat) (off : Nat) (acc : ByteArray), (∀ j (hj : j < ns.length), w.cell? ⟨r, off + j, none⟩ = some (.int .u8 (ns[j] : Int))) →
  (loadBytes ⟨r, off, none⟩ acc ns.length).run P w = .ok ⟨acc.data ++ (ns.map fun c => UInt8.ofNat c).toArray⟩ w
 | [], off, acc, _ => by simp [loadBytes]
 | x :: l, off, acc, h => by
   have h0 : w.cell? ⟨r, off, none⟩ = some (.int .u8 (x : Int)) := h 0 (by simp)
   have ih := loadBytes_run r l (off + 1) (acc.push x.toUInt8) (fun j hj => by
    have := h (j + 1) (by simpa using hj)
    rw [show off + 1 + j = off + (j + 1) by omega]
    simpa using this)
   simp only [List.length_cons, loadBytes, Sem.run_bind, run_load, h0, Result.andThen, Int.toNat_natCast, Addr.add_eq]
   rw [ih]
   congr 1
   apply ByteArray.ext
   simp [ByteArray.push]
theorem us_nil {ats : Array TypeId} {rty pt : TypeId} (hat : ats[0]? = some pt) (p : Option Addr) (k : IntKind) : (Builtin.unsafeString_ ats rty #[.pointer p, .int k 0]).run P w = .ok (.string .empty) w := by
 have hmax : IntKind.i64.max = 9223372036854775807 := rfl
 conv => lhs; arg 2; whnf
 cases p <;> simp [asInt, asIntOf, hmax, hat]
theorem us_some {ats : Array TypeId} {rty pt e : TypeId} (hat : ats[0]? = some pt) (hu : P.underlying pt = some (.pointer e)) (ad : Addr) (k : IntKind) {n : Nat} (h0 : n ≠ 0) (hn : n ≤ 1099511627776) (hv : (variablesAt ad e n).run P w = .ok true w) {s : ByteArray} (hl : (loadBytes ad .empty n).run P w = .ok s w) :
  (Builtin.unsafeString_ ats rty #[.pointer (some ad), .int k n]).run P w = .ok (.string s) (w.freeze ad n) := by
 have hmax : IntKind.i64.max = 9223372036854775807 := rfl
 have h1 : ¬ ((n : Int) < 0) := by omega
 have h2 : ¬ ((9223372036854775807 : Int) < (n : Int)) := by omega
 have h3 : ¬ ((n : Int) = 0) := by omega
 conv => lhs; arg 2; whnf
 simp [asInt, asIntOf, hmax, hat, h1, h2, h3, h0, elemOf, run_und hu, hv, hl, run_freeze]
theorem e_unsafeString (h : Cx P E F M c w t a) {o : Oper} {cl : Call} (hop : o.op = .call cl) (hb : cl.callee = .builtin .unsafeString) {y z : Operand} (hargs : cl.args.toList = [y, z]) {pt e : TypeId} (hat : cl.argTypes[0]? = some pt)
  (hu : P.underlying pt = some (.pointer e)) (hsz : szOf P e = some 1) {xx xy : X} (h1 : compX y = some xx) (h2 : compX z = some xy)
  {k : Kn} (hk : k.F = F) {v : V} {M' : Mem} {ct ct' : Nat} (he : doE (.us e xx xy) k M ct t = .k v M' ct') : EOk P F E M c ct w a o v M' ct' := by
 have he' : e_us e xx xy k.F M ct t = .k v M' ct' := he
 rw [hk] at he'
 have e1 := h.ev h1
 have e2 := h.ev h2
 have hmax : IntKind.i64.max = 9223372036854775807 := rfl
 unfold e_us at he'
 split at he'
 · rename_i n hn
   obtain ⟨ik, hy⟩ := asN_some hn
   rw [hy] at e2
   refine EVal.op hop hb hargs (s := Builtin.unsafeString_ cl.argTypes o.type #[conc E (xx.ev t), .int ik n]) (fun fs => by simp only [builtin, List.map_cons, List.map_nil, e1.1, e2.1, conc]) ?_
   have hz : (conc E (.s 0 0)) = .string .empty := by simp only [conc]; rfl
   split at he'
   · rename_i hv
     rw [beqN] at he'
     by_cases h0 : n = 0
     · subst h0
       rw [decide_eq_true rfl, cond_true] at he'
       injection he' with g1 g2 g3
       subst g1 g2 g3
       refine ⟨E, w, c, ?_, .refl h.rel, trivial, .refl _ _⟩
       rw [hv, hz]; exact us_nil hat none ik
     · rw [decide_eq_false h0] at he'; cases he'
   · rename_i b off hv
     unfold e_us1 at he'
     rw [beqN] at he'
     by_cases h0 : n = 0
     · subst h0
       rw [decide_eq_true rfl, cond_true] at he'
       injection he' with g1 g2 g3
       subst g1 g2 g3
       refine ⟨E, w, c, ?_, .refl h.rel, trivial, .refl _ _⟩
       rw [hv, hz]; exact us_nil hat _ ik
     · rw [decide_eq_false h0, cond_false, bleN] at he'
       cases hty : tyIs M b e with
       | false => rw [hty] at he'; cases he'
       | true =>
         by_cases hnb : n ≤ 1099511627776
         · rw [hty, decide_eq_true hnb] at he'
           simp only [Bool.and_self, cond_true] at he'
           split at he'
           · rename_i vs hld
             unfold e_us2 at he'
             split at he'
             · rename_i n' s hbv
               split at he'
               · rename_i M'' hfz
                 rw [fN_eq, fN_eq] at he'
                 injection he' with g1 g2 g3
                 subst g1 g2 g3
                 obtain ⟨ty, m, ex, fz, d, cs, hM, rfl⟩ := freezeM_some hfz
                 obtain ⟨arr, fr, ho, hr⟩ := h.cells (look_some_M hM)
                 have hte : ty = e := by
                  unfold tyIs at hty; rw [hM] at hty; simp only [beqN] at hty; exact of_decide_eq_true hty
                 subst hte
                 have hl := h.loadN hld
                 obtain ⟨ns, rfl, rfl, hbb⟩ := bytesV_spec _ _ _ hbv
                 have hnl : ns.length = n := by simpa using hl.2.2
                 have hcells : ∀ j (hj : j < ns.length), w.cell? ⟨E.ρ b, E.β b + off + j, none⟩ = some (.int .u8 (ns[j] : Int)) := by
                  intro j hjn
                  obtain ⟨ty', m', ex', fz', str', d', cs', hb', hg⟩ := asCells_some (f := none) hld (by simp)
                  rw [look_some_M hM] at hb'
                  injection hb' with hb'
                  injection hb' with q1 q2 q3 q4 q5 q6 q7
                  subst q2 q6 q7
                  have hcell := (cellsAt_get _ _ _ hg).2 j (.i .u8 (.ofNat ns[j])) (by simp [hjn])
                  have := hr.cell _ _ hcell
                  simp only [World.cell?, ho, Option.isSome_none, Bool.false_eq_true, if_false]
                  rw [Nat.add_assoc, this]
                  rfl
                 have hsize : E.β b + off + n ≤ arr.size := by
                  have := hcells (n - 1) (by omega)
                  simp only [World.cell?, ho, Option.isSome_none, Bool.false_eq_true, if_false] at this
                  have := (Array.getElem?_eq_some_iff.1 this).1
                  omega
                 have hlb := loadBytes_run (P := P) (w := w) (E.ρ b) ns (E.β b + off) .empty hcells
                 have hba : (⟨ByteArray.empty.data ++ (ns.map fun c => UInt8.ofNat c).toArray⟩ : ByteArray) = ba ns.length s := by
                  unfold ba; rw [hbb]; apply ByteArray.ext; simp
                 rw [hba] at hlb
                 have hco := cellsOf_sz hsz
                 have hva : (variablesAt ⟨E.ρ b, E.β b + off, none⟩ ty n).run P w = .ok true w := by
                  have hsh : w.shape? (E.ρ b) = some (ty, arr.size) := by simp [World.shape?, ho]
                  simp [variablesAt, run_shape, hsh, hco, lies_bytes hco arr.size (E.β b + off) n hsize]
                 subst hnl
                 have hrun := us_some (w := w) (rty := o.type) hat hu ⟨E.ρ b, E.β b + off, none⟩ ik h0 hnb hva hlb
                 have hfw : w.freeze ⟨E.ρ b, E.β b + off, none⟩ ns.length = { w with heap := w.heap.setIfInBounds (E.ρ b) (.cells arr ty (if fr.1 == fr.2 then (E.β b + off, E.β b + off + ns.length) else (min fr.1 (E.β b + off), max fr.2 (E.β b + off + ns.length)))) } := by
                  unfold World.freeze
                  rw [if_neg h0, modify_eq _ ho]
                 rw [hfw] at hrun
                 generalize hnf : (if fr.1 == fr.2 then (E.β b + off, E.β b + off + ns.length) else (min fr.1 (E.β b + off), max fr.2 (E.β b + off + ns.length))) = nf at hrun
                 refine ⟨E, { w with heap := w.heap.setIfInBounds (E.ρ b) (.cells arr ty nf) }, c, ?_, h.rel.write b _ _ hM (.cells arr ty nf) ?_ { w with heap := w.heap.setIfInBounds (E.ρ b) (.cells arr ty nf) } rfl rfl rfl rfl ?_, trivial, .refl _ _⟩
                 · rw [hv]; exact hrun
                 · exact (h.rel.has _ _ (look_some_M hM)).2.1
                 · subst hnf
                   have hhi : (if fr.1 == fr.2 then (E.β b + off, E.β b + off + ns.length) else (min fr.1 (E.β b + off), max fr.2 (E.β b + off + ns.length))).2 ≤ E.β b + (if fz ≤ off + ns.length then off + ns.length else fz) := by
                    by_cases hfe : fr.1 = fr.2
                    · rw [if_pos (by simpa using hfe)]
                      simp only
                      split <;> omega
                    · rw [if_neg (by simpa using hfe)]
                      simp only
                      rcases hr.plain rfl with hp | ⟨hp, hp'⟩
                      · exact absurd hp hfe
                      · split <;> omega
                   refine ⟨arr, _, rfl, ⟨hr.cell, hr.size, fun k hk hk' hf => ?_, fun _ => .inr ⟨?_, hhi⟩⟩⟩
                   · have := hf.2
                     omega
                   · split <;> omega
               · cases he'
             · cases he'
           · cases he'
         · rw [decide_eq_false hnb, Bool.and_false] at he'; cases he'
   · cases he'
 · cases he'
end
section
variable {P : Program} {E : Env} {F : RO} {M : Mem} {c : Nat → Prop} {w : World} {t : T} {a : Act}
theorem run_getObj_other {r : Nat} {o : Obj} (h : w.heap[r]? = some o) (hn : ∀ x y z, o ≠ .cells x y z) : (getObj r).run P w = .ok o w := by
 simp only [getObj, Sem.run, h]
theorem ba_get {n s i : Nat} (h : i < n) : ((ba n s).get! i).toNat = s / 256 ^ i % 256 := by
 have hb := bl_get n s i h
 have : (ba n s).get! i = UInt8.ofNat (s / 256 ^ i % 256) := by
  show (bl n s).toArray[i]! = _
  simp [hb]
 rw [this]
 simp [UInt8.toNat_ofNat']
theorem e_nextS (h : Cx P E F M c w t a) {o : Oper} {y : Operand} (hop : o.op = .next y true) {x : X} (hx : compX y = some x) {k : Kn} {v : V} {M' : Mem} {ct ct' : Nat} (he : doE (.nxs x) k M ct t = .k v M' ct') : EOk P F E M c ct w a o v M' ct' := by
 have he' : e_nxs x k.F M ct t = .k v M' ct' := he
 have e := h.ev hx
 unfold e_nxs at he'
 split at he'
 · rename_i b hv
   rw [hv] at e
   unfold nxsIn at he'
   split at he'
   · rename_i n s pos hM
     obtain ⟨_, _, ob, hob, hβ, rfl⟩ := h.rel.has _ _ (look_some_M hM)
     have hgo := run_getObj_other (P := P) hob (by intros; simp)
     have hpt : a.eval y = .pointer (some ⟨E.ρ b, 0, none⟩) := by rw [e.1]; simp [conc, hβ]
     rw [bltN] at he'
     by_cases hp : pos < n
     · rw [decide_eq_true hp, cond_true, fN_eq, bltN] at he'
       by_cases hch : s / 256 ^ pos % 256 < 128
       · rw [decide_eq_true (show Nat.mod (Nat.div s (p256 pos)) 256 < 128 from hch), cond_true, fN_eq, setM_eq] at he'
         injection he' with g1 g2 g3
         subst g1 g2 g3
         have hdec : Utf8.decode (ba n s) pos = (s / 256 ^ pos % 256, 1) := by
          have := ba_get (s := s) hp
          simp only [Utf8.decode, Nat.add_zero, this, if_pos hch]
         have hso := run_setObj (P := P) (o' := .stringIter (ba n s) (pos + 1)) hob (by intros; simp)
         refine ⟨E, _, .value (.tuple #[.bool true, goInt pos, .int .i32 (s / 256 ^ pos % 256 : Nat)]), c, ?_, .inl rfl, h.rel.write b _ (.siter n s (pos + 1)) hM (.stringIter (ba n s) (pos + 1)) trivial { w with heap := w.heap.setIfInBounds (E.ρ b) (.stringIter (ba n s) (pos + 1)) } rfl rfl rfl rfl ⟨hβ, rfl⟩, ⟨trivial, trivial, trivial, trivial⟩, .refl _ _⟩
         simp only [execOp, hop]
         refine val_run ?_
         rw [hpt]
         simp only [Instr.next, Sem.run_bind, hgo, Result.andThen_ok, ba_size, hp, if_true, hdec, hso, Sem.run_pure, Sem.run_ite]
       · rw [decide_eq_false (show ¬ Nat.mod (Nat.div s (p256 pos)) 256 < 128 from hch), cond_false] at he'
         unfold nxsU at he'
         rw [fN_eq, fN_eq, setM_eq] at he'
         injection he' with g1 g2 g3
         subst g1 g2 g3
         have hso := run_setObj (P := P) (o' := .stringIter (ba n s) (pos + (Utf8.decode (ba n s) pos).2)) hob (by intros; simp)
         refine ⟨E, _, .value (.tuple #[.bool true, goInt pos, .int .i32 ((Utf8.decode (ba n s) pos).1 : Nat)]), c, ?_, .inl rfl, h.rel.write b _ (.siter n s (pos + (Utf8.decode (ba n s) pos).2)) hM (.stringIter (ba n s) (pos + (Utf8.decode (ba n s) pos).2)) trivial { w with heap := w.heap.setIfInBounds (E.ρ b) (.stringIter (ba n s) (pos + (Utf8.decode (ba n s) pos).2)) } rfl rfl rfl rfl ⟨hβ, rfl⟩, ⟨trivial, trivial, trivial, trivial⟩, .refl _ _⟩
         simp only [execOp, hop]
         refine val_run ?_
         rw [hpt]
         simp only [Instr.next, Sem.run_bind, hgo, Result.andThen_ok, ba_size, hp, if_true, hso, Sem.run_pure, Sem.run_ite]
     · rw [decide_eq_false hp, cond_false] at he'
       injection he' with g1 g2 g3
       subst g1 g2 g3
       refine ⟨E, w, .value (.tuple #[.bool false]), c, ?_, .inl rfl, .refl h.rel, ⟨trivial, trivial⟩, .refl _ _⟩
       simp only [execOp, hop]
       refine val_run ?_
       rw [hpt]
       simp only [Instr.next, Sem.run_bind, hgo, Result.andThen_ok, ba_size, hp, if_false, Sem.run_pure, Sem.run_ite]
   · cases he'
 · cases he'
theorem e_rangeM (h : Cx P E F M c w t a) {ct : Nat} (hf : Fresh c ct) {o : Oper} {ty kt et : TypeId} {y : Operand} (hop : o.op = .range ty y) (hu : P.underlying ty = some (.map kt et)) {x : X} (hx : compX y = some x) {k : Kn} (hk : k.F = F) {v : V} {M' : Mem} {ct' : Nat} (he : doE (.rgm x) k M ct t = .k v M' ct') : EOk P F E M c ct w a o v M' ct' := by
 have he' : e_rgm x k.F M ct t = .k v M' ct' := he
 rw [hk] at he'
 have e := h.ev hx
 unfold e_rgm at he'
 split at he'
 · rename_i hv
   rw [fN_eq, setM_eq] at he'
   injection he' with g1 g2 g3
   subst g1 g2 g3
   rw [hv] at e
   obtain ⟨E', hS, hE, hρ, hβ, _⟩ := h.rel.alloc (.miter none 0 [] 0) (.mapIter none 0 #[] 0) ct 0 (fun b => c b ∨ b = ct) (hf ct (Nat.le_refl _)) (.inr rfl) (fun _ h => .inl h) (fun b hb => by cases hb) { w with heap := w.heap.push (.mapIter none 0 #[] 0) } rfl rfl rfl rfl (fun E' _ _ hβ _ => ⟨hβ, rfl⟩)
   refine ⟨E', _, .value (conc E' (.p ct 0)), _, ?_, .inl rfl, hS, .inr rfl, grow_one c ct⟩
   simp only [execOp, hop]
   refine val_run ?_
   rw [e.1]
   simp [Instr.range, run_und hu, conc, hρ, hβ]
 · rename_i b hv
   obtain ⟨es, clock, hM, hg⟩ := asMap_rc he'
   cases hor' : ordd clock with
   | false => rw [hor'] at hg; cases hg
   | true =>
   rw [hor', cond_true, fN_eq, setM_eq] at hg
   injection hg with g1 g2 g3
   subst g1 g2 g3
   rw [hv] at e
   obtain ⟨ho, hbd⟩ := h.mapO hM hor'
   obtain ⟨E', hS, hE, hρ, hβ, _⟩ := h.rel.alloc (.miter (some b) clock [] clock) (.mapIter (some (E.ρ b)) clock #[] clock) ct 0 (fun b => c b ∨ b = ct) (hf ct (Nat.le_refl _)) (.inr rfl) (fun _ h => .inl h) (fun b' hb' => by cases hb'; exact .inl e.2) { w with heap := w.heap.push (.mapIter (some (E.ρ b)) clock #[] clock) } rfl rfl rfl rfl (fun E' he _ hβ _ => ⟨hβ, by simp [he.ρ b e.2]⟩)
   refine ⟨E', _, .value (conc E' (.p ct 0)), _, ?_, .inl rfl, hS, .inr rfl, grow_one c ct⟩
   simp only [execOp, hop]
   refine val_run ?_
   rw [e.1]
   simp [Instr.range, run_und hu, conc, hρ, hβ, run_getObj_map ho]
 · cases he'
theorem leftE_eq (seen : List Nat) : ∀ es, leftE seen es = es.filter fun e => !seen.contains e.2.2
 | [] => rfl
 | h :: r => by
   have : leftE seen (h :: r) = (bif memN h.2.2 seen then leftE seen r else h :: leftE seen r) := rfl
   rw [this, memN_eq, leftE_eq seen r, List.filter_cons]
   cases seen.contains h.2.2 <;> rfl
theorem allOld_iff (since : Nat) : ∀ es : List (V × V × Nat), allOld since es = true → ∀ e ∈ es, e.2.2 < since
 | [], _, e, he => by cases he
 | h :: r, ha, e, he => by
   have h' : (Nat.blt h.2.2 since && allOld since r) = true := by rw [← ha]; rfl
   rw [bltN, Bool.and_eq_true] at h'
   cases he with
   | head => exact of_decide_eq_true h'.1
   | tail _ hm => exact allOld_iff since r h'.2 e hm
theorem nextM_run {ty r m : Nat} {esr left : List MapEntry} {clock since st : Nat} {seen : List Nat} (hr : w.heap[r]? = some (.mapIter (some m) since seen.toArray st)) (hm : w.heap[m]? = some (.map esr.toArray clock))
  (hold : ∀ e ∈ esr, e.born < since) (hst : since ≤ st) (hl : esr.filter (fun e => !seen.contains e.born) = left) :
  (left = [] → (Instr.next (.pointer (some ⟨r, 0, none⟩)) false ty).run P w = .ok (.tuple #[.bool false]) w) ∧
  (∀ e, left = [e] → (Instr.next (.pointer (some ⟨r, 0, none⟩)) false ty).run P w = .ok (.tuple #[.bool true, e.key, e.val]) { w with heap := w.heap.setIfInBounds r (.mapIter (some m) since (seen.toArray.push e.born) clock) }) := by
 have hgo := run_getObj_other (P := P) hr (by intros; simp)
 have hgm := run_getObj_map (P := P) hm
 have hc : (!seen.toArray.isEmpty && !esr.toArray.isEmpty && esr.toArray.all (fun e => decide (e.born ≥ st))) = false := by
  cases esr with
  | nil => simp
  | cons h0 r0 =>
    have := hold h0 (by simp)
    simp
    intro _ h1; omega
 have hleft : esr.toArray.filter (fun e => !seen.toArray.contains e.born) = left.toArray := by
  rw [List.filter_toArray', ← hl]
  · simp
  · simp
 have hlold : ∀ e ∈ left, e.born < since := by
  intro e he
  rw [← hl] at he
  exact hold e (List.mem_filter.1 he).1
 have h1 : left.toArray.filter (fun e => decide (e.born < since)) = left.toArray := by
  rw [List.filter_toArray' (by simp)]
  congr 1
  exact List.filter_eq_self.2 fun e he => by simpa using hlold e he
 have h2 : left.toArray.filter (fun e => decide (e.born ≥ since)) = #[] := by
  rw [List.filter_toArray' (by simp)]
  rw [List.filter_eq_nil_iff.2]
  intro e he; have := hlold e he; simp; omega
 constructor
 · intro e0
   subst e0
   simp only [Instr.next, Sem.run_bind, hgo, hgm, Result.andThen_ok, hc, Bool.false_eq_true, if_false, Sem.run_ite, Sem.run_pure, hleft, h1, h2]
   simp [Question.forced]
 · intro e e0
   subst e0
   have hso := run_setObj (P := P) (o' := .mapIter (some m) since (seen.toArray.push e.born) clock) hr (by intros; simp)
   simp only [Instr.next, Sem.run_bind, hgo, hgm, Result.andThen_ok, hc, Bool.false_eq_true, if_false, Sem.run_ite, Sem.run_pure, hleft, h1, h2]
   simp only [List.push_toArray] at hso ⊢
   simp [Question.forced, hso]
theorem e_nextM (h : Cx P E F M c w t a) {o : Oper} {y : Operand} (hop : o.op = .next y false) {x : X} (hx : compX y = some x) {k : Kn} (hk : k.F = F) {v : V} {M' : Mem} {ct ct' : Nat} (he : doE (.nxm x) k M ct t = .k v M' ct') : EOk P F E M c ct w a o v M' ct' := by
 have he' : e_nxm x k.F M ct t = .k v M' ct' := he
 rw [hk] at he'
 have e := h.ev hx
 unfold e_nxm at he'
 split at he'
 · rename_i b hv
   rw [hv] at e
   unfold nxmIn at he'
   split at he'
   · rename_i i1 i2 i3 hM
     injection he' with g1 g2 g3
     subst g1 g2 g3
     obtain ⟨_, _, ob, hob, hβ, rfl⟩ := h.rel.has _ _ (look_some_M hM)
     have hgo := run_getObj_other (P := P) hob (by intros; simp)
     have hpt : a.eval y = .pointer (some ⟨E.ρ b, 0, none⟩) := by rw [e.1]; simp [conc, hβ]
     refine ⟨E, w, .value (.tuple #[.bool false]), c, ?_, .inl rfl, .refl h.rel, ⟨trivial, trivial⟩, .refl _ _⟩
     simp only [execOp, hop]
     refine val_run ?_
     rw [hpt]
     simp [Instr.next, hgo]
   · rename_i m since seen st hM
     obtain ⟨_, hbb, ob, hob, hβ, rfl⟩ := h.rel.has _ _ (look_some_M hM)
     have hgo := run_getObj_other (P := P) hob (by intros; simp)
     have hpt : a.eval y = .pointer (some ⟨E.ρ b, 0, none⟩) := by rw [e.1]; simp [conc, hβ]
     obtain ⟨es, clock, hm, hg⟩ := asMap_rc he'
     cases hor' : ordd clock with
     | false => rw [hor'] at hg; cases hg
     | true =>
     rw [hor', Bool.true_and] at hg
     obtain ⟨ho, hbd⟩ := h.mapO hm hor'
     have hgm := run_getObj_map (P := P) ho
     by_cases hal : allOld since es = true
     · by_cases hst : since ≤ st
       · rw [hal, bleN, decide_eq_true hst] at hg
         simp only [Bool.and_self, cond_true] at hg
         have hold := allOld_iff since es hal
         have hold' : ∀ e ∈ es.map (entry E), e.born < since := by
          intro e' he'
          obtain ⟨e0, h0, rfl⟩ := List.mem_map.1 he'
          exact hold e0 h0
         have hl : (es.map (entry E)).filter (fun e => !seen.contains e.born) = (leftE seen es).map (entry E) := by
          rw [leftE_eq, List.filter_map]; rfl
         have key := nextM_run (P := P) (ty := o.type) (r := E.ρ b) (m := E.ρ m) hob ho hold' hst hl
         split at hg
         · rename_i hle
           injection hg with g1 g2 g3
           subst g1 g2 g3
           refine ⟨E, w, .value (.tuple #[.bool false]), c, ?_, .inl rfl, .refl h.rel, ⟨trivial, trivial⟩, .refl _ _⟩
           simp only [execOp, hop]
           refine val_run ?_
           rw [hpt]
           exact key.1 (by rw [hle]; rfl)
         · rename_i k0 v0 born hle
           rw [setM_eq] at hg
           injection hg with g1 g2 g3
           subst g1 g2 g3
           have hin : (k0, v0, born) ∈ es := by
            have : (k0, v0, born) ∈ leftE seen es := by rw [hle]; simp
            rw [leftE_eq] at this
            exact (List.mem_filter.1 this).1
           refine ⟨E, _, .value (.tuple #[.bool true, conc E k0, conc E v0]), c, ?_, .inl rfl, h.rel.write b _ (.miter (some m) since (seen ++ [born]) clock) hM (.mapIter (some (E.ρ m)) since (seen.toArray.push born) clock) hbb { w with heap := w.heap.setIfInBounds (E.ρ b) (.mapIter (some (E.ρ m)) since (seen.toArray.push born) clock) } rfl rfl rfl rfl ⟨hβ, by simp⟩, ⟨trivial, (hbd _ hin).1, (hbd _ hin).2, trivial⟩, .refl _ _⟩
           simp only [execOp, hop]
           refine val_run ?_
           rw [hpt]
           exact key.2 (entry E (k0, v0, born)) (by rw [hle]; rfl)
         · cases hg
       · rw [hal, bleN, decide_eq_false hst] at hg; cases hg
     · rw [Bool.not_eq_true] at hal
       rw [hal] at hg; cases hg
   · cases he'
 · cases he'
theorem lastN_eq : ∀ l : List Nat, lastN l = l.getLast?
 | [] => rfl
 | [a] => rfl
 | a :: b :: l => by rw [lastN, lastN_eq (b :: l)]; simp
theorem findBorn_eq (s : Nat) : ∀ es : List (V × V × Nat), ((es.map (entry E)).find? fun e => e.born == s) = (findBorn s es).map fun p => ({ key := conc E p.1, val := conc E p.2, born := s } : MapEntry)
 | [] => rfl
 | (k, v, b) :: r => by
   rw [List.map_cons, List.find?_cons, findBorn, beqN]
   show (match b == s with | true => some (entry E (k, v, b)) | false => _) = _
   by_cases e : b = s
   · subst e
     simp [entry]
   · rw [show (b == s) = false by simpa using e, show decide ((k, v, b).2.2 = s) = false by simpa using e]
     exact findBorn_eq s r
theorem findBorn_mem {s : Nat} {k v : V} : ∀ {es : List (V × V × Nat)}, findBorn s es = some (k, v) → ∃ e ∈ es, e.1 = k ∧ e.2.1 = v
 | h :: r, hf => by
   rw [findBorn] at hf
   cases hb : Nat.beq h.2.2 s with
   | true =>
     rw [hb, cond_true] at hf
     have := Option.some.inj hf
     injection this with e1 e2
     exact ⟨h, by simp, e1, e2⟩
   | false =>
     rw [hb, cond_false] at hf
     obtain ⟨e, he, h1⟩ := findBorn_mem hf
     exact ⟨e, by simp [he], h1⟩
theorem e_entry (h : Cx P E F M c w t a) {o : Oper} {y : Operand} (hop : o.op = .entry y) {x : X} (hx : compX y = some x) {k : Kn} (hk : k.F = F) {v : V} {M' : Mem} {ct ct' : Nat} (he : doE (.ent x) k M ct t = .k v M' ct') : EOk P F E M c ct w a o v M' ct' := by
 have he' : e_ent x k.F M ct t = .k v M' ct' := he
 rw [hk] at he'
 have e := h.ev hx
 unfold e_ent at he'
 split at he'
 · rename_i b hv
   rw [hv] at e
   unfold entIn at he'
   split at he'
   · rename_i m since seen st hM
     obtain ⟨_, hbb, ob, hob, hβ, rfl⟩ := h.rel.has _ _ (look_some_M hM)
     have hgo := run_getObj_other (P := P) hob (by intros; simp)
     have hpt : a.eval y = .pointer (some ⟨E.ρ b, 0, none⟩) := by rw [e.1]; simp [conc, hβ]
     obtain ⟨es, clock, hm, hg⟩ := asMap_rc he'
     cases hor' : ordd clock with
     | false => rw [hor'] at hg; cases hg
     | true =>
     rw [hor', Bool.true_and] at hg
     obtain ⟨ho, hbd⟩ := h.mapO hm hor'
     have hgm := run_getObj_map (P := P) ho
     rw [beqN] at hg
     by_cases hcl : clock = st
     · subst hcl
       rw [decide_eq_true rfl, cond_true] at hg
       cases hl : lastN seen with
       | none => rw [hl] at hg; cases (show RC.f = .k v M' ct' from hg)
       | some s =>
         rw [hl] at hg
         have hg2 : entOut M ct (findBorn s es) = .k v M' ct' := hg
         cases hf : findBorn s es with
         | none => rw [hf] at hg2; cases (show RC.f = .k v M' ct' from hg2)
         | some kv =>
           obtain ⟨k0, v0⟩ := kv
           rw [hf] at hg2
           have hg3 : RC.k (.t [k0, v0]) M ct = .k v M' ct' := hg2
           injection hg3 with g1 g2 g3
           subst g1 g2 g3
           obtain ⟨e0, he0, r1, r2⟩ := findBorn_mem hf
           have hb0 := hbd _ he0
           rw [r1, r2] at hb0
           have hback : seen.toArray.back? = some s := by rw [List.back?_toArray, ← lastN_eq, hl]
           have hfind := findBorn_eq (E := E) s es
           rw [hf] at hfind
           refine ⟨E, w, .value (.tuple #[conc E k0, conc E v0]), c, ?_, .inl rfl, .refl h.rel, ⟨hb0.1, hb0.2, trivial⟩, .refl _ _⟩
           simp only [execOp, hop]
           refine val_run ?_
           rw [hpt]
           simp [Instr.entry, hgo, hgm, hback, hfind]
     · rw [decide_eq_false hcl] at hg; cases hg
   · cases he'
 · cases he'
theorem nx_mc : Extern.allNextRows.lookup "maps.clone" = none := by kernel_rfl
theorem ge_mc : Extern.allGenericRows.lookup "maps.clone" = none := by kernel_rfl
theorem ty_mc : Extern.allTypedRows.lookup "maps.clone" = none := by kernel_rfl
theorem al_mc : Extern.allRows.lookup "maps.clone" = some Extern.MapsClone.clone := by kernel_rfl
theorem mclone_run {r : Nat} {es : Array MapEntry} {clock : Nat} (t : TypeId) (hb : w.heap[r]? = some (.map es clock)) :
  (Extern.MapsClone.clone #[.iface t (.map (some r))]).run P w = .ok (.iface t (.map (some w.heap.size))) { w with heap := w.heap.push (.map es clock) } := by
 have e : Extern.MapsClone.clone #[.iface t (.map (some r))] = (getObj r >>= fun o => match o with
   | .map entries clock => (newObj (.map entries clock) >>= fun n => pure (.iface t (.map (some n))))
   | _ => stuck "maps.clone: a map expected") := rfl
 rw [e]
 simp [run_getObj_map (P := P) hb, newObj]
 rfl
theorem e_mclone (h : Cx P E F M c w t a) {ct : Nat} (hf : Fresh c ct) {o : Oper} {cl : Call} {f : FuncId} {fn : Func} (hop : o.op = .call cl) (hcal : cl.callee = .value (.func f)) (hf0 : P.funcs[f]? = some fn) (hb : fn.body.isNone = true) (hor : fn.origin = "") (hnm : fn.name = "maps.clone") {y : Operand} (hargs : cl.args.toList = [y])
  {x : X} (hx : compX y = some x) {k : Kn} (hk : k.F = F) {v : V} {M' : Mem} {ct' : Nat} (he : doE (.mcl x) k M ct t = .k v M' ct') : EOk P F E M c ct w a o v M' ct' := by
 have he' : e_mcl x k.F M ct t = .k v M' ct' := he
 rw [hk] at he'
 have e := h.ev hx
 unfold e_mcl at he'
 split at he'
 · rename_i ty b hv
   obtain ⟨es, clock, hM, hg⟩ := asMap_rc he'
   cases hor' : ordd clock with
   | false => rw [hor'] at hg; cases hg
   | true =>
   rw [hor', cond_true, fN_eq, setM_eq] at hg
   injection hg with g1 g2 g3
   subst g1 g2 g3
   rw [hv] at e
   obtain ⟨ho, hbd⟩ := h.mapO hM hor'
   obtain ⟨E', hS, hE, hρ, hβ, _⟩ := h.rel.alloc (.map es clock) (.map (es.map (entry E)).toArray clock) ct 0 (fun b => c b ∨ b = ct) (hf ct (Nat.le_refl _)) (.inr rfl) (fun _ h => .inl h) (fun e he => ⟨bd_mono (fun _ h => .inl h) _ (hbd e he).1, bd_mono (fun _ h => .inl h) _ (hbd e he).2⟩) { w with heap := w.heap.push (.map (es.map (entry E)).toArray clock) } rfl rfl rfl rfl (fun E' he _ hβ _ => BlkRel.ext (P := P) (b := b) (blk := .map es clock) (.inl ⟨hor', rfl⟩) he e.2 hbd)
   refine ⟨E', _, .value (conc E' (.a ty (.m ct))), _, ?_, .inl rfl, hS, .inr rfl, grow_one c ct⟩
   refine exec_extern hop hcal hf0 hb (by rw [hnm]; decide) (next_none hnm hor nx_mc nx_empty) (find_plain hnm ge_mc ty_mc al_mc) hargs ?_
   simp only [List.map_cons, List.map_nil, e.1, conc]
   rw [mclone_run ty ho, hρ]
 · cases he'
end
section
variable {P : Program} {E : Env} {F : RO} {M : Mem} {c : Nat → Prop} {w : World} {t : T} {a : Act}
def EO.plain : EO → Bool
 | .call _ _ | .cv _ _ | .inv _ _ _ => false
 | _ => true
theorem at0 {α : Type} {x : Array α} {y : α} {l : List α} (h : x.toList = y :: l) : x[0]? = some y := by rw [arr_of_list h]; rfl
theorem at1 {α : Type} {x : Array α} {y z : α} {l : List α} (h : x.toList = y :: z :: l) : x[1]? = some z := by rw [arr_of_list h]; rfl
theorem at1n {α : Type} {x : Array α} {y : α} (h : x.toList = [y]) : x[1]? = none := by rw [arr_of_list h]; rfl
theorem e_all (h : Cx P E F M c w t a) {ct : Nat} (hf : Fresh c ct) {o : Oper} {eo : EO} (hc : compOp P o.op = some (.e eo)) (hp : eo.plain = true) {k : Kn} (hk : k.F = F) {v : V} {M' : Mem} {ct' : Nat} (he : doE eo k M ct t = .k v M' ct') : EOk P F E M c ct w a o v M' ct' := by
 cases hop : o.op with
 | store ty y z => exact e_store h hop hc hk he
 | mapUpdate ty m y z => exact e_mapUpdate h (.inl hop) hc hk he
 | insert ty m y z => exact e_mapUpdate h (.inr hop) hc hk he
 | next y b =>
   rw [hop] at hc
   cases b with
   | true =>
     obtain ⟨x, hx, e⟩ := Option.map_eq_some_iff.1 hc
     obtain rfl : EO.nxs x = eo := by simpa using e
     exact e_nextS h hop hx he
   | false =>
     obtain ⟨x, hx, e⟩ := Option.map_eq_some_iff.1 hc
     obtain rfl : EO.nxm x = eo := by simpa using e
     exact e_nextM h hop hx hk he
 | entry y =>
   rw [hop] at hc
   obtain ⟨x, hx, e⟩ := Option.map_eq_some_iff.1 hc
   obtain rfl : EO.ent x = eo := by simpa using e
   exact e_entry h hop hx hk he
 | range ty y =>
   rw [hop] at hc
   simp only [compOp] at hc
   split at hc
   · cases hc
   · rename_i kt et x hu hx
     obtain rfl : EO.rgm x = eo := by simpa using hc
     exact e_rangeM h hf hop hu hx hk he
   · cases hc
 | convert s d y =>
   rw [hop] at hc
   simp only [compOp] at hc
   split at hc
   · cases hc
   · cases hc
   · split at hc <;> cases hc
   · split at hc <;> cases hc
   · rename_i e0 el x h1 h2 hx
     split at hc
     · rename_i hcond
       obtain rfl : EO.ms x = eo := by simpa using hc
       rw [Bool.and_eq_true] at hcond
       have hsd : s = d := by simpa using hcond.1
       subst hsd
       have hel : P.underlying el = some (.int .u8) := by
        have := hcond.2
        unfold isU8 at this
        split at this
        · assumption
        · cases this
       exact e_mark h hop h2 hel hx he
     · cases hc
   · split at hc <;> cases hc
   · split at hc <;> cases hc
   · cases hc
 | call cl =>
   rw [hop] at hc
   simp only [compOp] at hc
   split at hc
   · rename_i b' hcal
     unfold compBuiltin at hc
     split at hc
     · split at hc <;> first | cases hc | (split at hc <;> cases hc)
     · split at hc <;> cases hc
     · rename_i y z ty t2 ts hargs htys
       split at hc
       · rename_i el x1 x2 hu h1 h2
         split at hc
         · rename_i sz by_ d hsz hby hd
           split at hc
           · rename_i ik
             split at hc
             · rename_i hz
               split at hc
               · rename_i hcond
                 obtain rfl : EO.apz el by_ x1 x2 = eo := by simpa using hc
                 rw [Bool.and_eq_true, Bool.and_eq_true, Bool.and_eq_true] at hcond
                 obtain ⟨hu8, h3, h4, hzo⟩ := hcond
                 obtain rfl : sz = 1 := by simpa using h3
                 obtain rfl : by_ = 1 := by simpa using h4
                 exact e_appendZ h hf hop hcal hargs (at0 htys) (at1 htys) hd hu hsz hby hz hzo h1 h2 hk he
               · cases hc
             · cases hc
           · rename_i hnd
             split at hc
             · cases hc
             · rename_i hcond
               obtain rfl : EO.app el sz by_ x1 x2 = eo := by simpa using hc
               rw [Bool.not_eq_true, Bool.or_eq_false_iff] at hcond
               have hpos : sz ≠ 0 := by simpa using hcond.1
               have hzo : zOk P el sz = true := by simpa using hcond.2
               exact e_append h hf hop hcal hargs (at0 htys) (.inl ⟨t2, d, at1 htys, hd, fun k e => hnd k e⟩) hu hsz hby hpos hzo h1 h2 hk he
         · cases hc
       · cases hc
     · rename_i y z ty hargs htys
       split at hc
       · rename_i el x1 x2 hu h1 h2
         split at hc
         · rename_i sz by_ hsz hby
           split at hc
           · cases hc
           · rename_i hcond
             obtain rfl : EO.app el sz by_ x1 x2 = eo := by simpa using hc
             rw [Bool.not_eq_true, Bool.or_eq_false_iff] at hcond
             have hpos : sz ≠ 0 := by simpa using hcond.1
             have hzo : zOk P el sz = true := by simpa using hcond.2
             exact e_append h hf hop hcal hargs (at0 htys) (.inr (at1n htys)) hu hsz hby hpos hzo h1 h2 hk he
         · cases hc
       · cases hc
     · rename_i y z ty ts hargs htys
       split at hc
       · rename_i el x1 x2 hu h1 h2
         split at hc
         · rename_i sz hsz
           split at hc
           · cases hc
           · obtain rfl : EO.cpy sz x1 x2 = eo := by simpa using hc
             exact e_copy h hop hcal hargs (at0 htys) hu hsz h1 h2 hk he
         · cases hc
       · cases hc
     · split at hc <;> cases hc
     · split at hc <;> cases hc
     · rename_i m y ty ts hargs htys
       split at hc
       · rename_i kt et xm xk hu h1 h2
         obtain ⟨sh, hks, e⟩ := Option.map_eq_some_iff.1 hc
         obtain rfl : EO.del sh xm xk = eo := by simpa using e
         exact e_delete h hop hcal hargs htys hu hks h1 h2 he
       · cases hc
     · rename_i y z ty ts hargs htys
       split at hc
       · rename_i el x1 x2 hu h1 h2
         split at hc
         · rename_i hcond
           obtain rfl : EO.us el x1 x2 = eo := by simpa using hc
           rw [Bool.and_eq_true] at hcond
           exact e_unsafeString h hop hcal hargs (at0 htys) hu (by simpa using hcond.2) h1 h2 hk he
         · cases hc
       · cases hc
     · obtain ⟨z, _, e⟩ := Option.bind_eq_some_iff.1 hc; cases e
     · rename_i y ty ts hargs htys
       split at hc
       · rename_i el x1 hu h1
         obtain ⟨z, hz, e⟩ := Option.map_eq_some_iff.1 hc
         obtain rfl : EO.clr (cellsOfV z) x1 = eo := by simpa using e
         exact e_clear h hop hcal hargs (at0 htys) hu hz h1 he
       · cases hc
     · cases hc
   · rename_i f hcal
     split at hc
     · rename_i fn hf0
       split at hc
       · unfold compExtern at hc
         split at hc
         · cases hc
         · split at hc
           · split at hc
             · split at hc <;> cases hc
             · split at hc
               · split at hc <;> cases hc
               · split at hc
                 · split at hc <;> cases hc
                 · split at hc
                   · split at hc <;> cases hc
                   · cases hc
           · split at hc
             · obtain ⟨z, _, e⟩ := Option.bind_eq_some_iff.1 hc; cases e
             · split at hc
               · split at hc
                 · split at hc
                   · split at hc <;> cases hc
                   · cases hc
                 · cases hc
               · split at hc
                 · rename_i hnm
                   obtain ⟨x, hx, e⟩ := Option.map_eq_some_iff.1 hc
                   obtain rfl : EO.mcl x = eo := by simpa using e
                   exact e_mclone h hf hop hcal hf0 (by assumption) (by simpa using ‹¬ fn.origin ≠ ""›) (by simpa using hnm) (by assumption) hx hk he
                 · cases hc
           · cases hc
       · obtain ⟨z, _, e⟩ := Option.map_eq_some_iff.1 hc
         obtain rfl : EO.call f z = eo := by simpa using e
         cases hp
     · cases hc
   · split at hc
     · rename_i x xs h1 h2
       obtain rfl : EO.cv x xs = eo := by simpa using hc
       cases hp
     · cases hc
   · split at hc
     · rename_i x xs h1 h2
       obtain rfl : EO.inv _ x xs = eo := by simpa using hc
       cases hp
     · cases hc
 | alloc ty => rw [hop] at hc; obtain ⟨z, _, e⟩ := Option.map_eq_some_iff.1 hc; cases e
 | box ty y => rw [hop] at hc; simp only [compOp] at hc; split at hc <;> cases hc
 | buildSlice ty n ps =>
   rw [hop] at hc; simp only [compOp] at hc
   split at hc
   · split at hc
     · split at hc
       · cases hc
       · obtain ⟨z, _, e⟩ := Option.map_eq_some_iff.1 hc; cases e
     · cases hc
   · cases hc
 | makeMap ty r =>
   cases r with
   | none => rw [hop] at hc; cases hc
   | some z => rw [hop] at hc; cases hc
 | makeSlice ty l k' =>
   rw [hop] at hc; simp only [compOp] at hc
   split at hc
   · split at hc
     · split at hc <;> cases hc
     · cases hc
   · cases hc
 | move y => rw [hop] at hc; obtain ⟨z, _, e⟩ := Option.bind_eq_some_iff.1 hc; cases e
 | assign y => rw [hop] at hc; obtain ⟨z, _, e⟩ := Option.bind_eq_some_iff.1 hc; cases e
 | pick p y z => rw [hop] at hc; simp only [compOp] at hc; split at hc <;> cases hc
 | build ty ps =>
   rw [hop] at hc; simp only [compOp] at hc
   split at hc
   · split at hc
     · obtain ⟨z, _, e⟩ := Option.bind_eq_some_iff.1 hc; cases e
     · cases hc
   · split at hc
     · obtain ⟨z, _, e⟩ := Option.bind_eq_some_iff.1 hc; cases e
     · cases hc
   · cases hc
 | load ty y => rw [hop] at hc; simp only [compOp] at hc; split at hc <;> cases hc
 | nilCheck y => rw [hop] at hc; obtain ⟨z, _, e⟩ := Option.bind_eq_some_iff.1 hc; cases e
 | binOp op ty y z ty' =>
   rw [hop] at hc; simp only [compOp] at hc
   split at hc
   · cases hc
   · cases hc
   · split at hc
     · obtain ⟨z, _, e⟩ := Option.bind_eq_some_iff.1 hc; cases e
     · obtain ⟨z, _, e⟩ := Option.bind_eq_some_iff.1 hc; cases e
     · cases hc
   · cases hc
 | unOp op ty y => rw [hop] at hc; obtain ⟨z, _, e⟩ := Option.bind_eq_some_iff.1 hc; cases e
 | makeInterface ty y => rw [hop] at hc; simp only [compOp] at hc; split at hc <;> cases hc
 | makeFunc fn l1 l2 =>
   cases fn with
   | func f => rw [hop] at hc; simp only [compOp] at hc; split at hc <;> cases hc
   | _ => rw [hop] at hc; cases hc
 | slice ty y lo hi mx =>
   rw [hop] at hc; simp only [compOp] at hc
   split at hc
   · split at hc
     · split at hc <;> cases hc
     · obtain ⟨z, _, e⟩ := Option.bind_eq_some_iff.1 hc; split at e <;> cases e
     · obtain ⟨z, _, e⟩ := Option.bind_eq_some_iff.1 hc; split at e <;> cases e
     · split at hc
       · obtain ⟨z, _, e⟩ := Option.bind_eq_some_iff.1 hc; split at e <;> cases e
       · cases hc
     · cases hc
   · cases hc
 | fieldAddr ty y f =>
   rw [hop] at hc; simp only [compOp] at hc
   split at hc
   · split at hc
     · split at hc <;> cases hc
     · cases hc
   · cases hc
 | field ty y f =>
   rw [hop] at hc; simp only [compOp] at hc
   split at hc
   · split at hc
     · split at hc <;> cases hc
     · cases hc
   · cases hc
 | indexAddr ty y i =>
   rw [hop] at hc; simp only [compOp] at hc
   split at hc
   · obtain ⟨z, _, e⟩ := Option.bind_eq_some_iff.1 hc; cases e
   · obtain ⟨z, _, e⟩ := Option.bind_eq_some_iff.1 hc; cases e
   · cases hc
 | index ty y i =>
   rw [hop] at hc; simp only [compOp] at hc
   split at hc
   · split at hc <;> cases hc
   · cases hc
   · cases hc
 | lookup ty y i ok =>
   rw [hop] at hc; simp only [compOp] at hc
   split at hc
   · split at hc <;> cases hc
   · cases hc
 | typeAssert y ty ty' ok => rw [hop] at hc; simp only [compOp] at hc; split at hc <;> cases hc
 | extract y i => rw [hop] at hc; obtain ⟨z, _, e⟩ := Option.bind_eq_some_iff.1 hc; cases e
 | sliceToArrayPointer d y => rw [hop] at hc; simp only [compOp] at hc; split at hc <;> cases hc
 | _ => rw [hop] at hc; cases hc
end
def fence (E : Env) (rd : Option Nat) : Fence := { fn := fun _ => True, depth := none, alive := false, round := rd.map E.ρ }
structure SR (P : Program) (Bd : List Deferred) (F : RO) (rd : Option Nat) (nt : Nat) (E : Env) (c : Nat → Prop) (w : World) (a : Act) (t : T) (d : List Nat) (M : Mem) (ct : Nat) : Prop where
 cx : Cx P E F M c w t a
 fr : Fresh c ct
 df : a.defers = (d.map fun b => { target := .collected (E.ρ b), args := #[] }) ++ Bd
 dc : ∀ b ∈ d, c b
 sz : nt ≤ a.tmps.size
 rd : ∀ l, rd = some l → c l
def Res (P : Program) (Bd : List Deferred) (F : RO) (rd : Option Nat) (nt : Nat) (E : Env) (c : Nat → Prop) (w : World) (M : Mem) (ct : Nat) (t' : T) (d' : List Nat) (M' : Mem) (ct' : Nat) (a' : Act) (w' : World) : Prop :=
 ∃ E' c', Stp P F E M c w E' M' c' w' ∧ Grow c ct c' ct' ∧ SR P Bd F rd nt E' c' w' a' t' d' M' ct'
section
variable {P : Program} {Bd : List Deferred} {E E' : Env} {F : RO} {M M' : Mem} {c c' : Nat → Prop} {ct ct' nt : Nat} {w w' : World} {t : T} {d : List Nat} {a : Act} {rd : Option Nat}
theorem setT_none (t : T) (v : V) : setT t none v = t := rfl
theorem setT_some (t : T) (p : Pos) (v : V) : setT t (some p) v = t.setP p v := rfl
theorem getT_of {p : Pos} {v : V} (h : t.getP p = some v) : getT t p = v := by unfold getT; rw [h]
theorem getT_none {p : Pos} (h : t.getP p = none) : getT t p = undef := by unfold getT; rw [h]
theorem getT_setP (t : T) (k j : Nat) (v : V) : getT (t.setP (posOf k) v) (posOf j) = if j = k then v else getT t (posOf j) := by
 have := getP_setP_posOf t k j v
 by_cases h : j = k
 · rw [if_pos h] at this ⊢; exact getT_of this
 · rw [if_neg h] at this ⊢; unfold getT; rw [this]
theorem getT_setP' (t : T) (p q : Pos) (v : V) : getT (t.setP p v) q = v ∨ getT (t.setP p v) q = getT t q := by
 by_cases h : q = p
 · subst h; exact .inl (getT_of (Tr.getP_setP_same q v t))
 · right; unfold getT; rw [Tr.getP_setP_ne p v q t h]
theorem bdT_put {dst : Option Pos} {v : V} (h : bdT c t) (hv : bd c v) : bdT c (setT t dst v) := by
 cases dst with
 | none => exact h
 | some p =>
   intro q
   rw [setT_some]
   rcases getT_setP' t p q v with e | e
   · rw [e]; exact hv
   · rw [e]; exact h q
theorem TRel_put {dst : Option Nat} {v : V} {val : Value} (h : TRel E t a.tmps) (hd : ∀ k, dst = some k → k < a.tmps.size) (hv : val = conc E v) : TRel E (setT t (dst.map posOf) v) (a.put dst val).tmps := by
 cases dst with
 | none => exact h
 | some k =>
   intro n
   have hk := hd k rfl
   rw [Option.map_some, setT_some, getT_setP]
   show (a.tmps.setIfInBounds k val).getD n Go.undef = _
   by_cases e : n = k
   · subst e
     rw [if_pos rfl, hv]
     simp [Array.getD_eq_getD_getElem?, hk]
   · rw [if_neg e, ← h n]
     simp [Array.getD_eq_getD_getElem?, Array.getElem?_setIfInBounds_ne (Ne.symm e)]
theorem Act.put_defers (a : Act) (dst : Option Tmp) (v : Value) : (a.put dst v).defers = a.defers := by cases dst <;> rfl
theorem Act.put_size (a : Act) (dst : Option Tmp) (v : Value) : (a.put dst v).tmps.size = a.tmps.size := by cases dst <;> simp [Act.put]
theorem SR.put (h : SR P Bd F rd nt E c w a t d M ct) {dst : Option Nat} (hd : dstOk nt dst = true) {v : V} {val : Value} (hv : val = conc E v) (hb : bd c v) : SR P Bd F rd nt E c w (a.put dst val) (setT t (dst.map posOf) v) d M ct := by
 refine ⟨⟨h.cx.rel, h.cx.glob, h.cx.big, TRel_put h.cx.tr (fun k hk => ?_) hv, bdT_put h.cx.bt hb⟩, h.fr, by rw [Act.put_defers]; exact h.df, h.dc, by rw [Act.put_size]; exact h.sz, h.rd⟩
 subst hk
 have : k < nt := by simpa [dstOk] using hd
 exact Nat.lt_of_lt_of_le this h.sz
theorem SR.stp (h : SR P Bd F rd nt E c w a t d M ct) (hS : Stp P F E M c w E' M' c' w') (hG : Grow c ct c' ct') : SR P Bd F rd nt E' c' w' a t d M' ct' := by
 refine ⟨⟨hS.rel, fun g hg => ?_, fun g hg => hS.le g (h.cx.big g hg), h.cx.tr.ext hS.ext h.cx.bt, fun p => bd_mono hS.le _ (h.cx.bt p)⟩, h.fr.grow hG, ?_, fun b hb => hS.le b (h.dc b hb), h.sz, fun l hl => hS.le l (h.rd l hl)⟩
 · rw [hS.ext.ρ g (h.cx.big g hg), hS.ext.β g (h.cx.big g hg)]; exact h.cx.glob g hg
 · rw [h.df]
   congr 1
   apply List.map_congr_left
   intro b hb
   rw [hS.ext.ρ b (h.dc b hb)]
theorem SR.res (h : SR P Bd F rd nt E c w a t d M ct) : Res P Bd F rd nt E c w M ct t d M ct a w := ⟨E, c, .refl h.cx.rel, .refl _ _, h⟩
theorem fence_ext (h : Ext c E E') (hr : ∀ l, rd = some l → c l) : fence E' rd = fence E rd := by
 cases rd with
 | none => rfl
 | some l => unfold fence; simp only [Option.map_some]; rw [h.ρ l (hr l rfl)]
theorem guard_ok (h : TRel E t a.tmps) {ops : Array Oper} {o : Oper} {g : Option (Pos × Bool)} (hg : (match o.guard with
  | none => some none
  | some (j, want) => match (ops[j]?).bind (·.dst) with
    | some d => some (some (posOf d, want))
    | none => none) = some g) : Region.wanted o (yielded ops a.tmps) = wanted t g := by
 unfold Region.wanted
 cases ho : o.guard with
 | none => rw [ho] at hg; obtain rfl := Option.some.inj hg; rfl
 | some jw =>
   obtain ⟨j, want⟩ := jw
   rw [ho] at hg
   simp only at hg
   cases hd : (ops[j]?).bind (·.dst) with
   | none => rw [hd] at hg; cases hg
   | some dn =>
     rw [hd] at hg
     obtain rfl := Option.some.inj hg
     simp only [yielded, hd, Option.bind_some]
     show _ = wanted1 want (getT t (posOf dn))
     have hn := h dn
     rw [Array.getD_eq_getD_getElem?] at hn
     cases hv : a.tmps[dn]? with
     | none =>
       rw [hv] at hn
       have hn' : conc E (getT t (posOf dn)) = .tuple #[] := hn.symm
       cases hx : getT t (posOf dn) <;> rw [hx] at hn' <;> first | rfl | (simp [conc] at hn')
     | some val =>
       rw [hv] at hn
       have hn' : val = conc E (getT t (posOf dn)) := hn
       cases hx : getT t (posOf dn) with
       | b x =>
         rw [hx] at hn'
         rw [hn']
         show (some x == some want) = Bool.rec (motive := fun _ => Bool) (notB want) want x
         cases x <;> cases want <;> rfl
       | _ => rw [hx] at hn'; rw [hn']; rfl
def CallOk (P : Program) (k : Kn) : Prop := ∀ (F : RO) (f : Nat) (args : List V) (M : Mem) (ct : Nat) (v : V) (M' : Mem) (ct' : Nat), callF (knF k F) f args M ct = .k v M' ct' →
 ∀ (E : Env) (c : Nat → Prop) (w : World), Rel P E F M c w → (∀ g, g < 1000 → E.ρ g = g ∧ E.β g = 0) → (∀ g, g < 1000 → c g) → Fresh c ct → bds c args →
  ∃ fn, P.funcs[f]? = some fn ∧ fn.body.isNone = false ∧ (fn.name == "runtime.NumGoroutine") = false ∧
  Calls P f (concs E args).toArray w fun e w' => ∃ E' c', e = .returned (conc E' v) ∧ Stp P F E M c w E' M' c' w' ∧ bd c' v ∧ Grow c ct c' ct'
def YieldOk (P : Program) (k : Kn) : Prop := ∀ (F : RO) (l : Nat) (args : List V) (M : Mem) (ct : Nat) (v : V) (M' : Mem) (ct' : Nat), callY (knF k F) l args M ct (loopOf (M.get l)) = .k v M' ct' →
 ∀ (E : Env) (c : Nat → Prop) (w : World) (rd : Option Nat), Rel P E F M c w → (∀ g, g < 1000 → E.ρ g = g ∧ E.β g = 0) → (∀ g, g < 1000 → c g) → Fresh c ct → bds c args →
  ∃ fn tmps asg body, (Instr.yield (E.ρ l) (concs E args).toArray).run P w = .ok (.round (E.ρ l) fn tmps asg body) w ∧
  RoundIn (fence E rd) 0 P (E.ρ l) fn tmps asg body w fun e w' => ∃ E' c', e = .returned (conc E' v) ∧ Stp P F E M c w E' M' c' w' ∧ bd c' v ∧ Grow c ct c' ct'
theorem tblF_mem {t f : Nat} : ∀ {l : List (Nat × Nat)}, tblF l t = some f → (t, f) ∈ l
 | h :: r, hh => by
   have h' : (bif Nat.beq h.1 t then some h.2 else tblF r t) = some f := hh
   cases hb : Nat.beq h.1 t with
   | true =>
     rw [hb, cond_true] at h'
     obtain rfl := Option.some.inj h'
     obtain rfl := Nat.eq_of_beq_eq_true hb
     exact List.mem_cons_self ..
   | false =>
     rw [hb, cond_false] at h'
     exact List.mem_cons_of_mem _ (tblF_mem h')
theorem method_run {name : String} {ty f : Nat} (h : tblF (invTbl P name) ty = some f) (v : Value) : (method (P.types.size + Made.depth) ty v name).run P w = .ok (f, v) w := by
 have hm := tblF_mem h
 unfold invTbl at hm
 obtain ⟨t0, ht0, e⟩ := List.mem_filterMap.1 hm
 obtain ⟨n, hn⟩ : ∃ n, P.types.size + Made.depth = n + 1 := ⟨P.types.size + Made.depth - 1, by have := List.mem_range.1 ht0; omega⟩
 rw [hn]
 split at e
 · rename_i i hi
   split at e
   · rename_i m hmm
     split at e
     · rename_i f' e' hp hf hu
       injection e with e; injection e with e1 e2; subst e1 e2
       have hpl : m.path.toList = [] := by simpa using hp
       simp [method, typeInfo, hi, hmm, hpl, follow, hf, receiverAt, run_und hu, Place.get]
     · cases e
     · rename_i f' d hnp hp hf hu
       injection e with e; injection e with e1 e2; subst e1 e2
       have hpl : m.path.toList = [] := by simpa using hp
       cases d <;> first
        | exact absurd rfl (hnp _)
        | simp [method, typeInfo, hi, hmm, hpl, follow, hf, receiverAt, run_und hu, Place.get]
     · cases e
   · cases e
 · cases e
theorem callsIn_any {n : Nat} {f : FuncId} {args : Array Value} {R : Ending → World → Prop} (h : Calls P f args w R) : CallsIn (fence E rd) n P f args w R := callsIn_wide.2 h
theorem compOp_noDefer {o : Op} {op : OK} (h : compOp P o = some op) : ∀ cl, o ≠ .defer cl := by
 intro cl e; subst e; cases h
theorem builtin_plain {b : Builtin} {as0 : List Operand} {ats : List TypeId} {x : EO} (hc : compBuiltin P b as0 ats = some (.e x)) : x.plain = true := by
 unfold compBuiltin at hc
 split at hc
 · split at hc <;> first | cases hc | (split at hc <;> cases hc)
 · split at hc <;> cases hc
 · split at hc
   · split at hc
     · split at hc
       · split at hc
         · split at hc
           · obtain rfl := OK.e.inj (Option.some.inj hc); rfl
           · cases hc
         · cases hc
       · split at hc
         · cases hc
         · obtain rfl := OK.e.inj (Option.some.inj hc); rfl
     · cases hc
   · cases hc
 · split at hc
   · split at hc
     · split at hc
       · cases hc
       · obtain rfl := OK.e.inj (Option.some.inj hc); rfl
     · cases hc
   · cases hc
 · split at hc
   · split at hc
     · split at hc
       · cases hc
       · obtain rfl := OK.e.inj (Option.some.inj hc); rfl
     · cases hc
   · cases hc
 · split at hc <;> cases hc
 · split at hc <;> cases hc
 · split at hc
   · obtain ⟨z, _, e⟩ := Option.map_eq_some_iff.1 hc
     obtain rfl := OK.e.inj e; rfl
   · cases hc
 · split at hc
   · split at hc
     · obtain rfl := OK.e.inj (Option.some.inj hc); rfl
     · cases hc
   · cases hc
 · obtain ⟨z, _, e⟩ := Option.bind_eq_some_iff.1 hc; cases e
 · split at hc
   · obtain ⟨z, _, e⟩ := Option.map_eq_some_iff.1 hc
     obtain rfl := OK.e.inj e; rfl
   · cases hc
 · cases hc
theorem notcall_plain {o : Op} (hn : ∀ cl, o ≠ .call cl) {x : EO} (hc : compOp P o = some (.e x)) : x.plain = true := by
 cases hx : x.plain with
 | true => rfl
 | false =>
   exfalso
   unfold compOp at hc
   split at hc
   all_goals first
    | exact absurd rfl (hn _)
    | (cases hc; done)
    | (obtain ⟨z, _, e⟩ := Option.bind_eq_some_iff.1 hc; cases e; done)
    | (obtain ⟨z, _, e⟩ := Option.map_eq_some_iff.1 hc; cases e; done)
    | (obtain ⟨z, _, e⟩ := Option.map_eq_some_iff.1 hc; obtain rfl := OK.e.inj e; cases hx; done)
    | skip
   all_goals (repeat' (first | (cases hc; done) | (obtain ⟨z, _, e⟩ := Option.bind_eq_some_iff.1 hc; cases e; done) | (obtain ⟨z, _, e⟩ := Option.bind_eq_some_iff.1 hc; split at e <;> cases e; done) | (obtain ⟨z, _, e⟩ := Option.map_eq_some_iff.1 hc; cases e; done) | (obtain ⟨z, _, e⟩ := Option.map_eq_some_iff.1 hc; obtain rfl := OK.e.inj e; cases hx; done) | (obtain rfl := OK.e.inj (Option.some.inj hc); cases hx; done) | split at hc))
def OpOk (P : Program) (F : RO) (rd : Option Nat) (E : Env) (M : Mem) (c : Nat → Prop) (ct : Nat) (w : World) (a : Act) (o : Oper) (v : V) (M' : Mem) (ct' : Nat) : Prop :=
 ∀ (next : Act → World → Prop) (Q : Exit → Act → World → Prop), (∀ E' c' w', Stp P F E M c w E' M' c' w' → Grow c ct c' ct' → bd c' v → next (a.put o.dst (conc E' v)) w') → o.wpIn (fence E rd) 0 P a w next Q
theorem EOk.op {o : Oper} (hd : ∀ cl, o.op ≠ .defer cl) {v : V} (h : EOk P F E M c ct w a o v M' ct') : OpOk P F rd E M c ct w a o v M' ct' := by
 intro next Q hn
 obtain ⟨E', w', nx, c', hr, hnv, hS, hb, hG⟩ := h
 refine ⟨fun _ _ => trivial, ?_⟩
 rw [Oper.semAt_eq _ _ _ hd, hr]
 rcases hnv with rfl | ⟨rfl, hv⟩
 · exact hn E' c' w' hS hG hb
 · have := hn E' c' w' hS hG hb
   rw [hv] at this
   exact this
theorem q_op (h : Cx P E F M c w t a) {o : Oper} {q : QO} (hc : compOp P o.op = some (.q q)) {x : V} (hx : (qop q F M t).val = some x) : OpOk P F rd E M c ct w a o x M ct := by
 intro next Q hn
 obtain ⟨hr, hb⟩ := q_all h hc hx
 refine ⟨fun _ _ => trivial, ?_⟩
 rw [Oper.semAt_eq _ _ _ (compOp_noDefer hc), hr]
 exact hn E c w (.refl h.rel) (.refl _ _) hb
theorem a_op (h : Cx P E F M c w t a) (hf : Fresh c ct) {o : Oper} {ao : AO} (hc : compOp P o.op = some (.a ao)) {v : V} {blk : Blk} (ha : aop ao ct t = some (v, blk)) : OpOk P F rd E M c ct w a o v (M.set ct blk) (ct + 1) := by
 intro next Q hn
 obtain ⟨E', w', hr, hS, _, hb⟩ := a_all h hc (hf ct (Nat.le_refl _)) (c' := fun b => c b ∨ b = ct) (.inr rfl) (fun _ h => .inl h) ha
 refine ⟨fun _ _ => trivial, ?_⟩
 rw [Oper.semAt_eq _ _ _ (compOp_noDefer hc), hr]
 exact hn E' _ w' hS (grow_one c ct) hb
theorem knF_F (k : Kn) (F : RO) : (knF k F).F = F := by cases k; rfl
theorem e_op {k : Kn} (hcall : CallOk P k) (hy : YieldOk P k) (h : Cx P E F M c w t a) (hf : Fresh c ct) {o : Oper} {eo : EO} (hc : compOp P o.op = some (.e eo)) {v : V} (he : doE eo (knF k F) M ct t = .k v M' ct') : OpOk P F rd E M c ct w a o v M' ct' := by
 cases hp : eo.plain with
 | true => exact EOk.op (compOp_noDefer hc) (e_all h hf hc hp (knF_F k F) he)
 | false =>
   have hnd := compOp_noDefer hc
   have fin : ∀ (f : Nat) (args : List V), (execOp a.eval o).run P w = (callFunc f (concs E args).toArray).run P w → bds c args → callF (knF k F) f args M ct = .k v M' ct' → OpOk P F rd E M c ct w a o v M' ct' := by
    intro f args hrun hba hcf next Q hn
    obtain ⟨fn, hfn, hbo, hnm, hC⟩ := hcall F f args M ct v M' ct' hcf E c w h.rel h.glob h.big hf hba
    refine ⟨fun _ _ => trivial, ?_⟩
    rw [Oper.semAt_eq _ _ _ hnd, hrun]
    have hcfn : (callFunc f (concs E args).toArray).run P w = .ok (.enter f (concs E args).toArray) w := by
     have h1 : ¬ fn.name = "runtime.NumGoroutine" := by simpa using hnm
     have h2 : ¬ fn.body = none := fun e => by rw [e] at hbo; cases hbo
     simp [callFunc, hfn, h1, h2]
    rw [hcfn, Oper.uponIn_enter]
    refine ⟨fun hd => by simp [fence] at hd, callsIn_any (hC.mono ?_)⟩
    rintro e w' ⟨E', c', rfl, hS, hb, hG⟩
    exact hn E' c' w' hS hG hb
   cases hop : o.op with
   | call cl =>
     rw [hop] at hc
     simp only [compOp] at hc
     split at hc
     ·
       rename_i b' hcal
       exfalso
       have hq : ∀ x, compBuiltin P b' cl.args.toList cl.argTypes.toList = some (.e x) → x.plain = true := fun x hx => builtin_plain hx
       rw [hq eo hc] at hp; cases hp
     · rename_i f hcal
       split at hc
       · rename_i fn hf0
         split at hc
         · exfalso
           unfold compExtern at hc
           split at hc
           · cases hc
           · split at hc
             · split at hc
               · split at hc <;> cases hc
               · split at hc
                 · split at hc <;> cases hc
                 · split at hc
                   · split at hc <;> cases hc
                   · split at hc
                     · split at hc <;> cases hc
                     · cases hc
             · split at hc
               · obtain ⟨z, _, e⟩ := Option.bind_eq_some_iff.1 hc; cases e
               · split at hc
                 · split at hc
                   · split at hc
                     · split at hc <;> cases hc
                     · cases hc
                   · cases hc
                 · split at hc
                   · obtain ⟨z, _, e⟩ := Option.map_eq_some_iff.1 hc
                     obtain rfl : EO.mcl z = eo := by simpa using e
                     cases hp
                   · cases hc
             · cases hc
         · obtain ⟨xs, hxs, e⟩ := Option.map_eq_some_iff.1 hc
           obtain rfl : EO.call f xs = eo := by simpa using e
           have ev := h.evs hxs
           have hm : cl.args.map a.eval = (concs E (evs xs t)).toArray := by
            rw [← ev.1]; apply Array.ext'; simp
           refine fin f (evs xs t) ?_ ev.2 he
           simp only [execOp, hop, resolve, hcal, hm, Act.eval, Deferred.ofValue, Sem.run_bind, Sem.run_pure, Result.andThen_ok, invoke, Array.empty_append, Array.append_empty]
       · cases hc
     · rename_i y hny hcal
       split at hc
       · rename_i x xs hx hxs
         obtain rfl : EO.cv x xs = eo := by simpa using hc
         have ev := h.evs hxs
         have e1 := h.ev hx
         have hm : cl.args.map a.eval = (concs E (evs xs t)).toArray := by
          rw [← ev.1]; apply Array.ext'; simp
         have he' : callV (knF k F) (x.ev t) (evs xs t) M ct = .k v M' ct' := he
         cases hv : x.ev t with
         | f f first caps =>
           rw [hv] at he' e1
           have he2 : callF (knF k F) f (first ++ (evs xs t ++ caps)) M ct = .k v M' ct' := he'
           refine fin f _ ?_ (bds_append e1.2.1 (bds_append ev.2 e1.2.2)) he2
           simp only [execOp, hop, resolve, hcal, hm, e1.1, conc, Deferred.ofValue, Sem.run_bind, Sem.run_pure, Result.andThen_ok, invoke]
           congr 2
           rw [concs_append, concs_append]; simp
         | y l =>
           rw [hv] at he' e1
           have he2 : callY (knF k F) l (evs xs t) M ct (loopOf (M.get l)) = .k v M' ct' := he'
           intro next Q hn
           obtain ⟨fn, tmps, asg, body, hyr, hR⟩ := hy F l (evs xs t) M ct v M' ct' he2 E c w rd h.rel h.glob h.big hf ev.2
           refine ⟨fun _ _ => trivial, ?_⟩
           rw [Oper.semAt_eq _ _ _ hnd]
           have hrun : (execOp a.eval o).run P w = .ok (.round (E.ρ l) fn tmps asg body) w := by
            simp only [execOp, hop, resolve, hcal, hm, e1.1, conc, Deferred.ofValue, Sem.run_bind, Sem.run_pure, Result.andThen_ok, invoke, Array.empty_append, hyr]
           rw [hrun, Oper.uponIn_round]
           refine ⟨fun hd => by simp [fence] at hd, hR.mono ?_⟩
           rintro e w' ⟨E', c', rfl, hS, hb, hG⟩
           exact hn E' c' w' hS hG hb
         | _ => rw [hv] at he'; cases (show RC.f = .k v M' ct' from he')
       · cases hc
     · rename_i y name hcal
       split at hc
       · rename_i x xs hx hxs
         obtain rfl : EO.inv (invTbl P name) x xs = eo := by simpa using hc
         have ev := h.evs hxs
         have e1 := h.ev hx
         have hm : cl.args.map a.eval = (concs E (evs xs t)).toArray := by
          rw [← ev.1]; apply Array.ext'; simp
         have he' : callN (invTbl P name) (knF k F) (x.ev t) (evs xs t) M ct = .k v M' ct' := he
         cases hv : x.ev t with
         | a ty u =>
           rw [hv] at he' e1
           have he2 : invF (knF k F) u (evs xs t) M ct (tblF (invTbl P name) ty) = .k v M' ct' := he'
           cases hf0 : tblF (invTbl P name) ty with
           | none => rw [hf0] at he2; cases (show RC.f = .k v M' ct' from he2)
           | some f =>
             rw [hf0] at he2
             have he3 : callF (knF k F) f (u :: evs xs t) M ct = .k v M' ct' := he2
             refine fin f (u :: evs xs t) ?_ ⟨e1.2, ev.2⟩ he3
             have hmr := method_run (w := w) hf0 (conc E u)
             have harr : #[conc E u] ++ (concs E (evs xs t)).toArray = (concs E (u :: evs xs t)).toArray := by simp [concs]
             have hext : (#[Value.iface ty (conc E u)] ++ (concs E (evs xs t)).toArray).extract 1 (#[Value.iface ty (conc E u)] ++ (concs E (evs xs t)).toArray).size = (concs E (evs xs t)).toArray := by
              apply Array.ext'; simp
             simp only [execOp, hop, resolve, hcal, hm, e1.1, conc, Sem.run_bind, Sem.run_pure, Result.andThen_ok, invoke, callMethod]
             have hget : (#[Value.iface ty (conc E u)] ++ (concs E (evs xs t)).toArray)[0]? = some (.iface ty (conc E u)) := by simp
             have hext1 : (#[Value.iface ty (conc E u)] ++ (concs E (evs xs t)).toArray).extract 1 = (concs E (evs xs t)).toArray := hext
             rw [hget]
             dsimp only
             simp only [Sem.run_bind, run_program, Result.andThen_ok, hmr, hext1, harr]
         | _ => rw [hv] at he'; cases (show RC.f = .k v M' ct' from he')
       · cases hc
   | _ =>
     exfalso
     have := notcall_plain (by rw [hop]; intro cl; simp) hc
     rw [this] at hp; cases hp
end
section
variable {P : Program} {Bd : List Deferred} {E E' : Env} {F : RO} {M M' : Mem} {c c' : Nat → Prop} {ct ct' nt : Nat} {w w' : World} {t t' : T} {d d' : List Nat} {a : Act} {rd : Option Nat}
theorem Res.trans {E₁ : Env} {c₁ : Nat → Prop} {w₁ : World} {M₁ : Mem} {ct₁ : Nat} (hS : Stp P F E M c w E₁ M₁ c₁ w₁) (hG : Grow c ct c₁ ct₁) {a' : Act} (h : Res P Bd F rd nt E₁ c₁ w₁ M₁ ct₁ t' d' M' ct' a' w') : Res P Bd F rd nt E c w M ct t' d' M' ct' a' w' := by
 obtain ⟨E', c', hS', hG', hR⟩ := h
 exact ⟨E', c', hS.trans hS', hG.trans hG', hR⟩
theorem putS_eq (dst : Option Pos) (d : List Nat) (M : Mem) (ct : Nat) (t : T) (v : V) : putS dst d M ct t v = some (.mk (setT t dst v) d M ct) := by
 unfold putS; rw [Tr.force_eq]
theorem seqOp_eq (dst : Option Pos) (op : OK) (g : Option (Pos × Bool)) (k : Kn) (t : T) (d : List Nat) (M : Mem) (ct : Nat) :
  seqOp (.mk dst op g) k (.mk t d M ct) = if wanted t g then sop op k dst t d M ct else some (.mk (setT t dst undef) d M ct) := by
 cases g with
 | none => rfl
 | some g =>
   show (Bool.rec (motive := fun _ => Option St) (putS dst d M ct t undef) (sop op k dst t d M ct) (wanted t (some g))) = _
   rw [bb, putS_eq]
theorem seqOps_cons (o : CO) (r : List CO) (k : Kn) (s : St) : seqOps (o :: r) k s = (seqOp o k s).bind fun s => seqOps r k s := by
 show Option.rec (motive := fun _ => Option St) none (fun s => seqOps r k s) (seqOp o k s) = _
 cases seqOp o k s <;> rfl
theorem sop_ok {k : Kn} (hcall : CallOk P k) (hy : YieldOk P k) (h : SR P Bd F rd nt E c w a t d M ct) {o : Oper} (hd : dstOk nt o.dst = true) {op : OK} (hc : compOp P o.op = some op) {s' : St} (hs : sop op (knF k F) (o.dst.map posOf) t d M ct = some s') :
  ∃ v M' ct', s' = .mk (setT t (o.dst.map posOf) v) d M' ct' ∧ OpOk P F rd E M c ct w a o v M' ct' := by
 cases op with
 | q q =>
   have hs' : s_q1 (o.dst.map posOf) t d M ct (qop q (knF k F).F M t) = some s' := hs
   rw [knF_F] at hs'
   cases hq : qop q F M t with
   | f => rw [hq] at hs'; cases (show (none : Option St) = some s' from hs')
   | v x =>
     rw [hq] at hs'
     have hs2 : putS (o.dst.map posOf) d M ct t x = some s' := hs'
     rw [putS_eq] at hs2
     exact ⟨x, M, ct, (Option.some.inj hs2).symm, q_op h.cx hc (by rw [hq]; rfl)⟩
   | r x b =>
     rw [hq] at hs'
     have hs2 : putS (o.dst.map posOf) d M ct t x = some s' := hs'
     rw [putS_eq] at hs2
     exact ⟨x, M, ct, (Option.some.inj hs2).symm, q_op h.cx hc (by rw [hq]; rfl)⟩
 | a ao =>
   have hs' : s_a1 (o.dst.map posOf) t d M ct (aop ao ct t) = some s' := hs
   cases ha : aop ao ct t with
   | none => rw [ha] at hs'; cases (show (none : Option St) = some s' from hs')
   | some p =>
     obtain ⟨v, blk⟩ := p
     rw [ha] at hs'
     have hs2 : s_a2 (o.dst.map posOf) t d M ct v blk = some s' := hs'
     unfold s_a2 at hs2
     rw [Tr.force_eq, fN_eq, putS_eq] at hs2
     exact ⟨v, M.set ct blk, ct + 1, (Option.some.inj hs2).symm, a_op h.cx h.fr hc ha⟩
 | e eo =>
   have hs' : s_e1 (o.dst.map posOf) t d (doE eo (knF k F) M ct t) = some s' := hs
   cases he : doE eo (knF k F) M ct t with
   | f => rw [he] at hs'; cases (show (none : Option St) = some s' from hs')
   | k v M' ct' =>
     rw [he] at hs'
     have hs2 : putS (o.dst.map posOf) d M' ct' t v = some s' := hs'
     rw [putS_eq] at hs2
     exact ⟨v, M', ct', (Option.some.inj hs2).symm, e_op hcall hy h.cx h.fr hc he⟩
theorem compO_some {ops : Array Oper} {o : Oper} {co : CO} (h : compO P nt ops o = some co) : dstOk nt o.dst = true ∧ ∃ g op, co = .mk (o.dst.map posOf) op g ∧
  (match o.guard with
  | none => some none
  | some (j, want) => match (ops[j]?).bind (·.dst) with
    | some d => some (some (posOf d, want))
    | none => none) = some g ∧ (compOp P o.op = some op ∨ op = .q .bad) := by
 unfold compO at h
 split at h
 · cases h
 · rename_i hd
   have hd' : dstOk nt o.dst = true := by simpa using hd
   split at h
   · cases h
   · rename_i g hg
     split at h
     · rename_i op hop
       obtain rfl := Option.some.inj h
       exact ⟨hd', g, op, rfl, hg, .inl hop⟩
     · obtain rfl := Option.some.inj h
       exact ⟨hd', g, _, rfl, hg, .inr rfl⟩
theorem seq_ok {k : Kn} (hcall : CallOk P k) (hy : YieldOk P k) {ops : Array Oper} {Q : Exit → Act → World → Prop} : ∀ (l : List Oper) (cos : List CO) (i : Nat) (E : Env) (c : Nat → Prop) (w : World) (a : Act) (t : T) (M : Mem) (ct : Nat), ops.toList.drop i = l → compOs P nt ops l = some cos →
  seqOps cos (knF k F) (.mk t d M ct) = some (.mk t' d' M' ct') → SR P Bd F rd nt E c w a t d M ct → (∀ a' w', Res P Bd F rd nt E c w M ct t' d' M' ct' a' w' → Q .normal a' w') → wpOpsIn (fence E rd) 0 P ops Q (List.range' i l.length) a w
 | [], cos, i, E, c, w, a, t, M, ct, hl, hc, hs, h, hQ => by
   obtain rfl := Option.some.inj hc
   have hs' : some (St.mk t d M ct) = some (.mk t' d' M' ct') := hs
   injection hs' with hs'
   injection hs' with e1 e2 e3 e4
   subst e1 e2 e3 e4
   exact hQ a w h.res
 | o :: l, cos, i, E, c, w, a, t, M, ct, hl, hc, hs, h, hQ => by
   rw [compOs] at hc
   split at hc
   · rename_i co cr h1 h2
     obtain rfl := Option.some.inj hc
     have hi : ops[i]? = some o := by
      have : (ops.toList.drop i)[0]? = some o := by rw [hl]; rfl
      simpa using this
     have hl' : ops.toList.drop (i + 1) = l := by
      rw [← List.drop_drop, hl]; rfl
     obtain ⟨hd, g, op, rfl, hg, hop⟩ := compO_some h1
     rw [seqOps_cons, seqOp_eq] at hs
     rw [List.length_cons, List.range'_succ]
     simp only [wpOpsIn, hi]
     rw [guard_ok h.cx.tr hg]
     by_cases hw : wanted t g = true
     · rw [if_pos hw] at hs
       rw [if_pos hw]
       obtain ⟨s1, hs1, hs2⟩ := Option.bind_eq_some_iff.1 hs
       rcases hop with hop | rfl
       · obtain ⟨v, M1, ct1, rfl, hO⟩ := sop_ok hcall hy h hd hop hs1
         refine hO _ _ fun E1 c1 w1 hS hG hb => ?_
         have h1 := (h.stp hS hG).put hd rfl hb
         rw [← fence_ext hS.ext h.rd]
         exact seq_ok hcall hy l cr (i + 1) E1 c1 w1 _ _ M1 ct1 hl' h2 hs2 h1 fun a' w' hr => hQ a' w' (hr.trans hS hG)
       · cases (show (none : Option St) = some s1 from hs1)
     · rw [if_neg hw] at hs
       rw [if_neg hw]
       refine ⟨fun _ _ => trivial, ?_⟩
       have h1 := h.put hd (v := undef) (val := Go.undef) rfl trivial
       exact seq_ok hcall hy l cr (i + 1) E c w _ _ M ct hl' h2 hs h1 hQ
   · cases hc
end
def exOf : Ex → Exit
 | .nrm => .normal
 | .ret => .ret
 | .ext id => .exit id
 | .gto l => .goto l
def ExOk (P : Program) (ex : ExF) : Prop := ∀ (rd : Option Nat) (fn : Nat) (F : RO) (cc : CC) (t : T) (d : List Nat) (M : Mem) (ct : Nat) (e : Ex) (t' : T) (d' : List Nat) (M' : Mem) (ct' : Nat),
 ex rd fn F cc (.mk t d M ct) = .k e (.mk t' d' M' ct') → ∀ (nt : Nat) (code : Code), Sim P nt code cc → ∀ {Bd : List Deferred} (E : Env) (c : Nat → Prop) (w : World) (a : Act), SR P Bd F rd nt E c w a t d M ct →
  ∀ Q : Exit → Act → World → Prop, (∀ a' w', Res P Bd F rd nt E c w M ct t' d' M' ct' a' w' → Q (exOf e) a' w') → code.wpIn (fence E rd) 0 P Q a w
def LpOk (P : Program) (ex : ExF) (m : Nat) : Prop := ∀ (rd : Option Nat) (fn : Nat) (F : RO) (b : CC) (t : T) (d : List Nat) (M : Mem) (ct : Nat) (e : Ex) (t' : T) (d' : List Nat) (M' : Mem) (ct' : Nat),
 ex rd fn F (.loop b) (.mk t d M ct) = .k e (.mk t' d' M' ct') → ∀ (nt : Nat) (code : Code), Sim P nt code b → ∀ {Bd : List Deferred} (E : Env) (c : Nat → Prop) (w : World) (a : Act), SR P Bd F rd nt E c w a t d M ct →
  ∀ Q : Exit → Act → World → Prop, (∀ a' w', Res P Bd F rd nt E c w M ct t' d' M' ct' a' w' → Q (exOf e) a' w') → Code.roundsIn (fence E rd) 0 P code Q m a w
def TblOk (P : Program) (nt : Nat) (body : Code) (tbl : CC) : Prop := ∀ l cl, findL l tbl = some cl → ∃ rest, findLabel body l = some rest ∧ Sim P nt rest cl
def OrcOk (P : Program) (f : Nat) (g : RO → List V → Mem → Nat → RC) : Prop := ∀ (F : RO) (args : List V) (M : Mem) (ct : Nat) (v : V) (M' : Mem) (ct' : Nat), g F args M ct = .k v M' ct' →
 ∀ (E : Env) (c : Nat → Prop) (w : World), Rel P E F M c w → (∀ g, g < 1000 → E.ρ g = g ∧ E.β g = 0) → (∀ g, g < 1000 → c g) → Fresh c ct → bds c args →
  ∃ fn, P.funcs[f]? = some fn ∧ fn.body.isNone = false ∧ (fn.name == "runtime.NumGoroutine") = false ∧
  Calls P f (concs E args).toArray w fun e w' => ∃ E' c', e = .returned (conc E' v) ∧ Stp P F E M c w E' M' c' w' ∧ bd c' v ∧ Grow c ct c' ct'
def CfOk (P : Program) (f : Nat) (cf : CF) : Prop :=
 match cf with
 | .mk n res body => ∃ fn, P.funcs[f]? = some fn ∧ comp P fn = some (.mk n res body)
 | .orc g => OrcOk P f g
def PhiOk (P : Program) (Φ : Nat → Option CF) : Prop := ∀ f cf, Φ f = some cf → CfOk P f cf
section
variable {P : Program} {Bd : List Deferred} {E E' : Env} {F : RO} {M M' : Mem} {c c' : Nat → Prop} {ct ct' nt : Nat} {w w' : World} {t t' : T} {d d' : List Nat} {a : Act} {rd : Option Nat}
theorem skel_get {n : Nat} : ∀ k, (skel n).get k = none := by
 induction n with
 | zero => intro k; rfl
 | succ n ih =>
   intro k
   show (Tr.n (skel n) none (skel n)).get k = none
   rw [Tr.get_n]
   split
   · rfl
   · split
     · exact ih _
     · exact ih _
theorem argTr_rel (E : Env) (args : List V) (m n : Nat) : TRel E (argTr m args) ((concs E args).toArray ++ Array.replicate n Go.undef) := by
 intro k
 have hg : (argTr m args).getP (posOf k) = args[k]? := by
  rw [getP_posOf]
  show (listTr args 0 (skel m)).get k = _
  rw [listTr_get]
  by_cases h : k < args.length
  · rw [if_pos (by omega)]; rfl
  · rw [if_neg (by omega), List.getElem?_eq_none (by omega)]; exact skel_get k
 rw [Array.getD_eq_getD_getElem?]
 by_cases h : k < args.length
 · have hv : args[k]? = some args[k] := List.getElem?_eq_getElem h
   rw [getT_of (hg.trans hv)]
   rw [Array.getElem?_append_left (by simpa [concs_map] using h)]
   simp [concs_map, h]
 · have hv : args[k]? = none := List.getElem?_eq_none (by omega)
   rw [getT_none (hg.trans hv)]
   rw [Array.getElem?_append_right (by simp [concs_map]; omega)]
   by_cases h2 : k - (concs E args).toArray.size < n
   · rw [Array.getElem?_replicate, if_pos h2]; rfl
   · rw [Array.getElem?_replicate, if_neg h2]; rfl
theorem pos_eq {p q : Pos} (h : ∀ t : Tr Unit, t.getP p = t.getP q) : p = q := by
 by_cases e : q = p
 · exact e.symm
 · have := h (Tr.e.setP p ())
   rw [Tr.getP_setP_same, Tr.getP_setP_ne p () q _ e, Tr.getP_e] at this
   cases this
theorem posOf_odd (k : Nat) : posOf (2 * k + 1) = .l (posOf k) := pos_eq fun t => by
 rw [getP_posOf]
 cases t with
 | e => rw [Tr.getP_e]; rfl
 | n l v r => rw [Tr.getP_l, getP_posOf, Tr.get_n, if_neg (by omega), if_neg (by omega), show (2 * k + 1) / 2 = k by omega]
theorem posOf_even (k : Nat) : posOf (2 * k + 2) = .r (posOf k) := pos_eq fun t => by
 rw [getP_posOf]
 cases t with
 | e => rw [Tr.getP_e]; rfl
 | n l v r => rw [Tr.getP_r, getP_posOf, Tr.get_n, if_neg (by omega), if_pos (by omega), show (2 * k + 2) / 2 - 1 = k by omega]
theorem posOf_surj : ∀ p : Pos, ∃ k, posOf k = p
 | .h => ⟨0, rfl⟩
 | .l p => let ⟨k, hk⟩ := posOf_surj p; ⟨2 * k + 1, by rw [posOf_odd, hk]⟩
 | .r p => let ⟨k, hk⟩ := posOf_surj p; ⟨2 * k + 2, by rw [posOf_even, hk]⟩
theorem argTr_bd {m : Nat} {args : List V} (h : bds c args) : bdT c (argTr m args) := by
 intro p
 have key : ∀ (vs : List V) (k : Nat) (t : T), bds c vs → bdT c t → bdT c (listTr vs k t) := by
  intro vs
  induction vs with
  | nil => intro k t _ ht; exact ht
  | cons v vs ih =>
    intro k t hv ht
    rw [listTr_cons]
    refine ih (k + 1) _ hv.2 ?_
    intro q
    obtain ⟨j, rfl⟩ := posOf_surj q
    have hg : (t.set k v).getP (posOf j) = if j = k then some v else t.getP (posOf j) := by
     rw [getP_posOf, getP_posOf, Tr.get_set]
    by_cases e : j = k
    · rw [if_pos e] at hg; rw [getT_of hg]; exact hv.1
    · rw [if_neg e] at hg
      have := ht (posOf j)
      unfold getT at this ⊢
      rw [hg]; exact this
 refine key args 0 (skel m) h ?_ p
 intro q
 obtain ⟨j, rfl⟩ := posOf_surj q
 rw [getT_none (by rw [getP_posOf]; exact skel_get j)]; trivial
end
section
variable {P : Program} {E E' : Env} {F : RO} {M M' : Mem} {c c' : Nat → Prop} {ct ct' nt : Nat} {w w' : World} {t t' : T} {d d' : List Nat} {a : Act} {rd : Option Nat}
theorem resV_cons (r : RV) (l : List RV) : resV F M t (r :: l) = (resV1 F M t r).bind fun v => (resV F M t l).map (v :: ·) := by
 show Option.rec (motive := fun _ => Option (List V)) none (fun v => resC v (resV F M t l)) (resV1 F M t r) = _
 cases resV1 F M t r with
 | none => rfl
 | some v =>
   show resC v (resV F M t l) = (resV F M t l).map (v :: ·)
   unfold resC
   cases resV F M t l <;> rfl
def resS (tmps : Array Value) : ResultVar → Sem Value
 | .tmp n => pure (tmps.getD n Go.undef)
 | .cell ad ty => do loadVar ty (← asAddr (tmps.getD ad Go.undef))
theorem resV1_ok (h : Cx P E F M c w t a) {x : ResultVar} {r : RV} (hc : compR P x = some r) {v : V} (hv : resV1 F M t r = some v) :
  (resS a.tmps x).run P w = .ok (conc E v) w ∧ bd c v := by
 unfold resS
 cases x with
 | tmp n =>
   obtain rfl := Option.some.inj hc
   obtain rfl : getT t (posOf n) = v := Option.some.inj hv
   exact ⟨by simp [h.tr n], h.bt _⟩
 | cell ad ty =>
   have hn := h.tr ad
   have hc' : (match isAg P ty, szOf P ty with
    | some true, some n => some (RV.cn (posOf ad) n)
    | some false, some _ => some (RV.c1 (posOf ad))
    | _, _ => none) = some r := hc
   replace hc := hc'
   clear hc'
   · split at hc
     · rename_i n h1 h2
       obtain rfl := Option.some.inj hc
       have hv' : (onP (getT t (posOf ad)) none fun b o => Option.rec (motive := fun _ => Option V) none (fun l => some (.g l)) (loadN F M b o n)) = some v := hv
       cases hg : getT t (posOf ad) with
       | p b o =>
         rw [hg] at hv' hn
         have hv2 : Option.rec (motive := fun _ => Option V) none (fun l => some (.g l)) (loadN F M b o n) = some v := hv'
         cases hl : loadN F M b o n with
         | none => rw [hl] at hv2; cases hv2
         | some l =>
           rw [hl] at hv2
           obtain rfl : V.g l = v := Option.some.inj hv2
           have hL := h.loadN hl
           refine ⟨?_, hL.2.1⟩
           simp only [hn, conc, asAddr, loadVar, Sem.run_bind, Sem.run_pure, Result.andThen_ok, isAg_run h1, Sem.run_ite, if_true, run_sz h2, hL.1]
       | _ => rw [hg] at hv'; cases (show (none : Option V) = some v from hv')
     · rename_i n h1 h2
       obtain rfl := Option.some.inj hc
       have hv' : (onP (getT t (posOf ad)) none fun b o => load1 F M b o) = some v := hv
       cases hg : getT t (posOf ad) with
       | p b o =>
         rw [hg] at hv' hn
         have hL := h.load1 (show Ev.load1 F M b o = some v from hv')
         refine ⟨?_, hL.2⟩
         simp only [hn, conc, asAddr, loadVar, Sem.run_bind, Sem.run_pure, Result.andThen_ok, isAg_run h1, Sem.run_ite, Bool.false_eq_true, if_false, run_load, hL.1]
       | _ => rw [hg] at hv'; cases (show (none : Option V) = some v from hv')
     · cases hc
theorem resV_ok (h : Cx P E F M c w t a) : ∀ {xs : List ResultVar} {rs : List RV} {vs : List V}, compRs P xs = some rs → resV F M t rs = some vs →
  (xs.mapM (resS a.tmps)).run P w = .ok (concs E vs) w ∧ bds c vs
 | [], rs, vs, hc, hv => by
   obtain rfl := Option.some.inj hc
   obtain rfl : [] = vs := Option.some.inj hv
   exact ⟨rfl, trivial⟩
 | x :: xs, rs, vs, hc, hv => by
   rw [compRs] at hc
   split at hc
   · rename_i r rr h1 h2
     obtain rfl := Option.some.inj hc
     rw [resV_cons] at hv
     obtain ⟨v, hv1, hv2⟩ := Option.bind_eq_some_iff.1 hv
     obtain ⟨vs', hv3, rfl⟩ := Option.map_eq_some_iff.1 hv2
     have e1 := resV1_ok h h1 hv1
     have e2 := resV_ok h h2 hv3
     refine ⟨?_, e1.2, e2.2⟩
     simp only [List.mapM_cons, Sem.run_bind, e1.1, e2.1, Result.andThen_ok, Sem.run_pure, concs]
   · cases hc
theorem results_ok (h : Cx P E F M c w t a) {fn : Func} {rs : List RV} {vs : List V} (hc : compRs P fn.results.toList = some rs) (hv : resV F M t rs = some vs) :
  (results fn a.tmps).run P w = .ok (conc E (oneV vs)) w ∧ bd c (oneV vs) := by
 have e := resV_ok h hc hv
 have hm : (fn.results.mapM (resS a.tmps)).run P w = .ok (concs E vs).toArray w := by
  rw [← Array.toArray_toList (xs := fn.results), List.mapM_toArray]
  simp [e.1]
 show (bind (fn.results.mapM (resS a.tmps)) _).run P w = _ ∧ _
 rw [Sem.run_bind, hm]
 match vs, e.2 with
 | [], _ => exact ⟨rfl, trivial⟩
 | [v], hb => exact ⟨rfl, hb.1⟩
 | v :: v' :: l, hb =>
   refine ⟨?_, hb⟩
   show Result.ok _ w = _
   congr 1
end
section
variable {P : Program} {Bd : List Deferred} {E E' : Env} {F : RO} {M M' : Mem} {c c' : Nat → Prop} {ct ct' nt : Nat} {w w' : World} {t t' : T} {d d' : List Nat} {a : Act} {rd : Option Nat}
theorem takeDefs_cons (b : Nat) (ds : List Nat) (M : Mem) : takeDefs (b :: ds) M = match M.get b with
  | some (.defs false) => takeDefs ds (M.set b (.defs true))
  | _ => none := by
 show Option.rec (motive := fun _ => Option Mem) none (fun blk => takeD1 (takeDefs ds) M b blk) (M.get b) = _
 cases M.get b with
 | none => rfl
 | some blk =>
   cases blk with
   | defs x =>
     cases x with
     | true => rfl
     | false => exact Tr.force_eq _ _
   | _ => rfl
theorem leaves_okB {fn : Func} {R : Ending → World → Prop} {t : T} {tmps : Array Value} {M₂ : Mem} : ∀ (ds : List Nat) (M : Mem) (w : World), takeDefs ds M = some M₂ → Rel P E F M c w →
  (∀ w', Stp P F E M c w E M₂ c w' → LeavesInM Fence.wide 0 P fn tmps R Bd .returning w') →
  LeavesInM Fence.wide 0 P fn tmps R ((ds.map fun b => { target := .collected (E.ρ b), args := #[] }) ++ Bd) .returning w
 | [], M, w, hm, h, hR => by
   obtain rfl : M = M₂ := Option.some.inj hm
   exact hR w (.refl h)
 | b :: ds, M, w, hm, h, hR => by
   rw [takeDefs_cons] at hm
   split at hm
   · rename_i hM
     obtain ⟨_, _, o, ho, hrel⟩ := h.has _ _ (look_some_M hM)
     have hrel' : o = .deferred (some []) := hrel
     subst hrel'
     have hS := h.write b _ (.defs true) hM (.deferred none) trivial (w.putObj (E.ρ b) (.deferred none)) rfl rfl rfl rfl rfl
     refine ⟨by simp, .inl ⟨E.ρ b, w.putObj (E.ρ b) (.deferred none), rfl, run_takeDeferred ho, ?_⟩⟩
     exact leaves_okB (t := t) ds _ _ hm hS.rel fun w' hS' => hR w' (hS.trans hS')
   · cases hm
theorem leaves_ok {fn : Func} {R : Ending → World → Prop} {t : T} {tmps : Array Value} {M₂ : Mem} (ds : List Nat) (M : Mem) (w : World) (hm : takeDefs ds M = some M₂) (h : Rel P E F M c w)
  (hR : ∀ w', Stp P F E M c w E M₂ c w' → ∃ v, (results fn tmps).run P w' = .ok v w' ∧ R (.returned v) w') :
  LeavesInM Fence.wide 0 P fn tmps R ((ds.map fun b => { target := .collected (E.ρ b), args := #[] }) ++ []) .returning w :=
 leaves_okB (t := t) (Bd := []) ds M w hm h fun w' hS => hR w' hS
theorem callC_some {ex : ExF} {f : Nat} {args : List V} {o : Option CF} {v : V} (h : callC ex F f args M ct o = .k v M' ct') : (∃ n res body e t1 d1 M1 vs, o = some (.mk n res body) ∧ ex none f F body (.mk (argTr n args) [] M ct) = .k e (.mk t1 d1 M1 ct') ∧ (e = .nrm ∨ e = .ret) ∧ takeDefs d1 M1 = some M' ∧ resV F M' t1 res = some vs ∧ v = oneV vs) ∨ ∃ g, o = some (.orc g) ∧ g F args M ct = .k v M' ct' := by
 cases o with
 | none => cases (show RC.f = .k v M' ct' from h)
 | some cf =>
   cases cf with
   | orc g => exact .inr ⟨g, rfl, h⟩
   | mk n res body =>
   left
   have h' : finish res F (ex none f F body (.mk (argTr n args) [] M ct)) = .k v M' ct' := h
   cases hx : ex none f F body (.mk (argTr n args) [] M ct) with
   | f => rw [hx] at h'; cases (show RC.f = .k v M' ct' from h')
   | k e s =>
     obtain ⟨t1, d1, M1, c1⟩ := s
     rw [hx] at h'
     have h2 : Bool.rec (motive := fun _ => RC) .f (finish1 res F t1 c1 (takeDefs d1 M1)) (isEnd e) = .k v M' ct' := h'
     rw [bb] at h2
     split at h2
     · rename_i he
       cases hm : takeDefs d1 M1 with
       | none => rw [hm] at h2; cases (show RC.f = .k v M' ct' from h2)
       | some M2 =>
         rw [hm] at h2
         have h3 : finish2 c1 M2 (resV F M2 t1 res) = .k v M' ct' := h2
         cases hr : resV F M2 t1 res with
         | none => rw [hr] at h3; cases (show RC.f = .k v M' ct' from h3)
         | some vs =>
           rw [hr] at h3
           have h4 : RC.k (oneV vs) M2 c1 = .k v M' ct' := h3
           injection h4 with e1 e2 e3
           subst e1 e2 e3
           refine ⟨n, res, body, e, t1, d1, M1, vs, rfl, hx, ?_, hm, hr, rfl⟩
           cases e with
           | nrm => exact .inl rfl
           | ret => exact .inr rfl
           | ext id => cases (show false = true from he)
           | gto l => cases (show false = true from he)
     · cases h2
theorem comp_some {fn : Func} {n : Nat} {res : List RV} {body : CC} (h : comp P fn = some (.mk n res body)) : (fn.name == "runtime.NumGoroutine") = false ∧ ∃ b, fn.body = some b ∧ Sim P fn.ntmps b body ∧ compRs P fn.results.toList = some res := by
 unfold comp at h
 split at h
 · cases h
 · rename_i hn
   refine ⟨by simpa using hn, ?_⟩
   split at h
   · cases h
   · rename_i b hb
     split at h
     · rename_i body' res' h1 h2
       injection h with h
       injection h with e0 e1 e2
       subst e0 e1 e2
       exact ⟨b, hb, ⟨_, h1⟩, h2⟩
     · cases h
theorem callOk_of {Φ : Nat → Option CF} {ex : ExF} (hΦ : PhiOk P Φ) (hex : ExOk P ex) (rd : Option Nat) (fn : Nat) (F₀ : RO) : CallOk P (.mk Φ ex rd fn F₀) := by
 intro F f args M ct v M' ct' h E c w hrel hglob hbig hfr hargs
 have h' : callC ex F f args M ct (Φ f) = .k v M' ct' := h
 rcases callC_some h' with ⟨n, res, body, e, t1, d1, M1, vs, ho, hx, he, hm, hr, rfl⟩ | ⟨g, ho, hg⟩
 case inr =>
  have hok : OrcOk P f g := hΦ f _ ho
  exact hok F args M ct v M' ct' hg E c w hrel hglob hbig hfr hargs
 obtain ⟨fn', hfn, hcomp⟩ : ∃ fn, P.funcs[f]? = some fn ∧ comp P fn = some (.mk n res body) := hΦ f _ ho
 obtain ⟨hnm, b, hb, hsim, hres⟩ := comp_some hcomp
 refine ⟨fn', hfn, by rw [hb]; rfl, hnm, ?_⟩
 refine (callsIn_wide (n := 0)).1 (callsIn_of_wp_marks hfn hb trivial ?_)
 have hSR : SR P [] F none fn'.ntmps E c w { tmps := (concs E args).toArray ++ Array.replicate (fn'.ntmps - (concs E args).toArray.size) Go.undef, defers := [] } (argTr n args) [] M ct :=
  ⟨⟨hrel, hglob, hbig, argTr_rel E args _ _, argTr_bd hargs⟩, hfr, rfl, fun b hb => by simp at hb, by simp; omega, fun l hl => by cases hl⟩
 refine hex none f F body _ [] M ct e t1 d1 M1 ct' hx fn'.ntmps b hsim E c w _ hSR _ ?_
 rintro a' w' ⟨E', c', hS, hG, hR⟩
 have key : LeavesInM Fence.wide 0 P fn' a'.tmps (fun e w' => ∃ E' c', e = .returned (conc E' (oneV vs)) ∧ Stp P F E M c w E' M' c' w' ∧ bd c' (oneV vs) ∧ Grow c ct c' ct') a'.defers .returning w' := by
  rw [hR.df]
  refine leaves_ok (t := t1) d1 M1 w' hm hR.cx.rel fun w2 hS2 => ?_
  have hcx : Cx P E' F M' c' w2 t1 a' := ⟨hS2.rel, hR.cx.glob, hR.cx.big, hR.cx.tr, hR.cx.bt⟩
  have hres' := results_ok hcx hres hr
  exact ⟨_, hres'.1, E', c', rfl, hS.trans hS2, hres'.2, hG⟩
 rcases he with rfl | rfl
 · exact key
 · exact key
end
section
variable {P : Program} {E E' : Env} {F : RO} {M M' : Mem} {c c' : Nat → Prop} {ct ct' nt : Nat} {w w' : World} {t t' : T} {d d' : List Nat} {a : Act} {rd : Option Nat}
theorem loopOf_some {o : Option Blk} {s : LS} {pe : Pend} {fn : Nat} {tm : T} {ps : List Pos} {asg body : CC} {dn : Nat} (h : loopOf o = .k s pe fn tm ps asg body dn) : o = some (.loop s pe fn tm ps asg body dn) := by
 unfold loopOf at h
 split at h
 · injection h with e1 e2 e3 e4 e5 e6 e7 e8
   subst e1 e2 e3 e4 e5 e6 e7 e8
   rfl
 · cases h
theorem setParams_ok {E : Env} : ∀ (ps : List Nat) (vs : List V) (t t' : T) (tmps : Array Value), setParams (ps.map posOf) vs t = some t' → TRel E t tmps → (∀ p ∈ ps, p < tmps.size) →
  ps.length = vs.length ∧ TRel E t' ((ps.zip (concs E vs)).foldl (fun tm (p : Nat × Value) => tm.setIfInBounds p.1 p.2) tmps)
 | [], [], t, t', tmps, h, ht, _ => by
   obtain rfl : t = t' := Option.some.inj h
   exact ⟨rfl, ht⟩
 | p :: ps, v :: vs, t, t', tmps, h, ht, hp => by
   have h' : setParams (ps.map posOf) vs (t.setP (posOf p) v) = some t' := by
    have : (t.setP (posOf p) v).force (fun t => setParams (ps.map posOf) vs t) = some t' := h
    rwa [Tr.force_eq] at this
   have h1 : TRel E (t.setP (posOf p) v) (tmps.setIfInBounds p (conc E v)) :=
    TRel_put (a := ⟨tmps, []⟩) (dst := some p) ht (fun k hk => by cases hk; exact hp p (by simp)) rfl
   have ih := setParams_ok ps vs _ t' _ h' h1 (fun q hq => by simpa using hp q (by simp [hq]))
   exact ⟨by simp [ih.1], by simpa [concs] using ih.2⟩
 | [], _ :: _, t, t', tmps, h, _, _ => by cases h
 | _ :: _, [], t, t', tmps, h, _, _ => by cases h
theorem setParams_bd : ∀ (ps : List Pos) (vs : List V) (t t' : T), setParams ps vs t = some t' → bds c vs → bdT c t → bdT c t'
 | [], [], t, t', h, _, ht => by obtain rfl : t = t' := Option.some.inj h; exact ht
 | p :: ps, v :: vs, t, t', h, hv, ht => by
   have h' : setParams ps vs (t.setP p v) = some t' := by
    have : (t.setP p v).force (fun t => setParams ps vs t) = some t' := h
    rwa [Tr.force_eq] at this
   exact setParams_bd ps vs _ t' h' hv.2 (bdT_put (dst := some p) ht hv.1)
 | [], _ :: _, t, t', h, _, _ => by cases h
 | _ :: _, [], t, t', h, _, _ => by cases h
theorem foldl_size (ps : List (Nat × Value)) : ∀ tmps : Array Value, (ps.foldl (fun tm (p : Nat × Value) => tm.setIfInBounds p.1 p.2) tmps).size = tmps.size := by
 induction ps with
 | nil => intro tmps; rfl
 | cons p ps ih => intro tmps; rw [List.foldl_cons, ih]; simp
end
section
variable {P : Program} {E E' : Env} {F : RO} {M M' : Mem} {c c' : Nat → Prop} {ct ct' nt : Nat} {w w' : World} {t t' : T} {d d' : List Nat} {a : Act} {rd : Option Nat}
theorem callY_some {Φ : Nat → Option CF} {ex : ExF} {rd₀ : Option Nat} {fn₀ : Nat} {l : Nat} {args : List V} {o : Option Blk} {v : V} (h : callY (.mk Φ ex rd₀ fn₀ F) l args M ct (loopOf o) = .k v M' ct') :
  ∃ pe fn tm ps asg body dn tp t1 M1 ct1 pe1 fn1 tm1 ps1 a1 b1 dn1 e t2 M3 s3 pe3 fn3 tm3 ps3 a3 b3 dn3 s4 pe4 r, o = some (.loop .ready pe fn tm ps asg body dn) ∧ setParams ps args tm = some tp ∧
   ex (some l) fn F asg (.mk tp [] M ct) = .k .nrm (.mk t1 [] M1 ct1) ∧ M1.get l = some (.loop .ready pe1 fn1 tm1 ps1 a1 b1 dn1) ∧
   ex (some l) fn F body (.mk t1 [] (M1.set l (.loop .busy pe1 fn1 tm1 ps1 a1 b1 dn1)) ct1) = .k e (.mk t2 [] M3 ct') ∧ M3.get l = some (.loop s3 pe3 fn3 tm3 ps3 a3 b3 dn3) ∧
   ((e = .nrm ∧ s4 = .ready ∧ pe4 = .none ∧ r = true) ∨ (e = .ret ∧ s4 = .done ∧ pe4 = .ret ∧ r = false) ∨ (∃ id, e = .ext id ∧ s4 = .done ∧ pe4 = .ext id ∧ r = false)) ∧
   v = .b r ∧ M' = M3.set l (.loop s4 pe4 fn3 tm3 ps3 a3 b3 dn3) := by
 cases hl : loopOf o with
 | f => rw [hl] at h; cases h
 | k s pe fn tm ps asg body dn =>
   rw [hl] at h
   cases s with
   | ready =>
     have ho := loopOf_some hl
     cases hp : setParams ps args tm with
     | none =>
       have h1 : y_go (.mk Φ ex rd₀ fn₀ F) l fn asg body M ct (setParams ps args tm) = .k v M' ct' := h
       rw [hp] at h1; cases h1
     | some tp =>
       have h1 : y_go (.mk Φ ex rd₀ fn₀ F) l fn asg body M ct (setParams ps args tm) = .k v M' ct' := h
       rw [hp] at h1
       have h2 : y_asg (.mk Φ ex rd₀ fn₀ F) l fn body (ex (some l) fn F asg (.mk tp [] M ct)) = .k v M' ct' := h1
       unfold y_asg at h2
       split at h2
       · rename_i t1 M1 ct1 hx1
         unfold y_body at h2
         split at h2
         · rename_i pe1 fn1 tm1 ps1 a1 b1 dn1 hl1
           rw [Tr.force_eq] at h2
           have h3 : y_done l (ex (some l) fn F body (.mk t1 [] (M1.set l (.loop .busy pe1 fn1 tm1 ps1 a1 b1 dn1)) ct1)) = .k v M' ct' := h2
           unfold y_done at h3
           split at h3
           · cases h3
           · rename_i e t2 d2 M3 ct2 hx2
             split at h3
             · have key : ∀ (s4 : LS) (pe4 : Pend) (r : Bool), y_end M3 l ct2 s4 pe4 r (loopOf (M3.get l)) = .k v M' ct' → ∃ s3 pe3 fn3 tm3 ps3 a3 b3 dn3, M3.get l = some (.loop s3 pe3 fn3 tm3 ps3 a3 b3 dn3) ∧ v = .b r ∧ M' = M3.set l (.loop s4 pe4 fn3 tm3 ps3 a3 b3 dn3) ∧ ct' = ct2 := by
                intro s4 pe4 r hy
                unfold y_end at hy
                split at hy
                · rename_i s3 pe3 fn3 tm3 ps3 a3 b3 dn3 hl3
                  rw [setM_eq] at hy
                  injection hy with g1 g2 g3
                  exact ⟨_, _, _, _, _, _, _, _, loopOf_some hl3, g1.symm, g2.symm, g3.symm⟩
                · cases hy
               split at h3
               · obtain ⟨s3, pe3, fn3, tm3, ps3, a3, b3, dn3, hM3, hv, hM', hct⟩ := key _ _ _ h3
                 subst hct
                 exact ⟨pe, fn, tm, ps, asg, body, dn, tp, t1, M1, ct1, pe1, fn1, tm1, ps1, a1, b1, dn1, _, t2, M3, s3, pe3, fn3, tm3, ps3, a3, b3, dn3, .ready, .none, true, ho, hp, hx1, loopOf_some hl1, hx2, hM3, .inl ⟨rfl, rfl, rfl, rfl⟩, hv, hM'⟩
               · obtain ⟨s3, pe3, fn3, tm3, ps3, a3, b3, dn3, hM3, hv, hM', hct⟩ := key _ _ _ h3
                 subst hct
                 exact ⟨pe, fn, tm, ps, asg, body, dn, tp, t1, M1, ct1, pe1, fn1, tm1, ps1, a1, b1, dn1, _, t2, M3, s3, pe3, fn3, tm3, ps3, a3, b3, dn3, .done, .ret, false, ho, hp, hx1, loopOf_some hl1, hx2, hM3, .inr (.inl ⟨rfl, rfl, rfl, rfl⟩), hv, hM'⟩
               · rename_i id
                 obtain ⟨s3, pe3, fn3, tm3, ps3, a3, b3, dn3, hM3, hv, hM', hct⟩ := key _ _ _ h3
                 subst hct
                 exact ⟨pe, fn, tm, ps, asg, body, dn, tp, t1, M1, ct1, pe1, fn1, tm1, ps1, a1, b1, dn1, _, t2, M3, s3, pe3, fn3, tm3, ps3, a3, b3, dn3, .done, .ext id, false, ho, hp, hx1, loopOf_some hl1, hx2, hM3, .inr (.inr ⟨id, rfl, rfl, rfl, rfl⟩), hv, hM'⟩
               · cases h3
             · cases h3
         · cases h2
       · cases h2
   | _ => cases h
end
section
variable {P : Program} {Bd : List Deferred} {E E' : Env} {F : RO} {M M' : Mem} {c c' : Nat → Prop} {ct ct' nt : Nat} {w w' : World} {t t' : T} {d d' : List Nat} {a : Act} {rd : Option Nat}
theorem yieldOk_of {Φ : Nat → Option CF} {ex : ExF} (hex : ExOk P ex) (rd₀ : Option Nat) (fn₀ : Nat) (F₀ : RO) : YieldOk P (.mk Φ ex rd₀ fn₀ F₀) := by
 intro F l args M ct v M' ct' h E c w rd hrel hglob hbig hfr hargs
 obtain ⟨pe, fn, tm, ps, asg, body, dn, tp, t1, M1, ct1, pe1, fn1, tm1, ps1, a1, b1, dn1, e, t2, M3, s3, pe3, fn3, tm3, ps3, a3, b3, dn3, s4, pe4, r, ho, hp, hx1, hM1, hx2, hM3, hcase, rfl, rfl⟩ := callY_some (rd₀ := rd₀) (fn₀ := fn₀) h
 obtain ⟨hcl, hbd, ob, hob, fn', tmps, params, ca, cb, rfl, htr, hps, nt, hnt, hpar, hsa, hsb⟩ := hrel.has _ _ (look_some_M ho)
 subst hps
 obtain ⟨hlen, htr'⟩ := setParams_ok params.toList args tm tp tmps hp htr (fun p hp' => Nat.lt_of_lt_of_le (hpar p hp') hnt)
 have hy := run_yield (P := P) (args := (concs E args).toArray) hob (by simp [concs_map]; rw [← hlen]; simp)
 have hfold : (params.zip (concs E args).toArray).foldl (fun tmps (t, a) => tmps.setIfInBounds t a) tmps = (params.toList.zip (concs E args)).foldl (fun tm (p : Nat × Value) => tm.setIfInBounds p.1 p.2) tmps := by
  rw [← Array.foldl_toList]
  simp
 simp only [hfold] at hy
 refine ⟨fn', _, ca, cb, hy, roundIn_of_wpIn trivial ?_⟩
 have hSR : SR P [] F (some l) nt E c w { tmps := (params.toList.zip (concs E args)).foldl (fun tm (p : Nat × Value) => tm.setIfInBounds p.1 p.2) tmps, defers := [] } tp [] M ct :=
  ⟨⟨hrel, hglob, hbig, htr', setParams_bd _ _ _ _ hp hargs hbd.1⟩, hfr, rfl, fun b hb => by simp at hb, by rw [foldl_size]; exact hnt, fun l' hl' => by cases hl'; exact hcl⟩
 refine hex (some l) fn F asg tp [] M ct .nrm t1 [] M1 ct1 hx1 nt ca hsa E c w _ hSR _ ?_
 rintro a1' w1 ⟨E1, c1, hS1, hG1, hR1⟩
 obtain ⟨hcl1, hbd1, ob1, hob1, fn1', tmps1, params1, ca1, cb1, rfl, htr1, hps1, hnt1⟩ := hR1.cx.rel.has _ _ (look_some_M hM1)
 have hρ1 : E1.ρ l = E.ρ l := hS1.ext.ρ l hcl
 have hbr := run_beginRound (P := P) (l := E.ρ l) (by rw [← hρ1]; exact hob1) rfl
 refine ⟨_, hbr, ?_⟩
 have hS2 := hR1.cx.rel.write l _ (.loop .busy pe1 fn1 tm1 ps1 a1 b1 dn1) hM1 (.loop { state := .busy, pending := peOf pe1, fn := fn1', tmps := tmps1, params := params1, assign := ca1, body := cb1, defers := E1.ρ dn1 }) hbd1
  (w1.putObj (E.ρ l) (.loop { state := .busy, pending := peOf pe1, fn := fn1', tmps := tmps1, params := params1, assign := ca1, body := cb1, defers := E1.ρ dn1 })) (by rw [hρ1]; rfl) rfl rfl rfl
  ⟨fn1', tmps1, params1, ca1, cb1, rfl, htr1, hps1, hnt1⟩
 have hSR2 := hR1.stp hS2 (.refl _ _)
 have hfe : fence E1 (some l) = (fence E rd).inRound (E.ρ l) := by unfold fence Fence.inRound; simp [hρ1]
 rw [← hfe]
 refine hex (some l) fn F body t1 [] _ ct1 e t2 [] M3 ct' hx2 nt cb hsb E1 c1 _ _ hSR2 _ ?_
 rintro a2 w3 ⟨E3, c3, hS3, hG3, hR3⟩
 obtain ⟨hcl3, hbd3, ob3, hob3, fn3', tmps3, params3, ca3, cb3, rfl, htr3, hps3, hnt3⟩ := hR3.cx.rel.has _ _ (look_some_M hM3)
 have hρ3 : E3.ρ l = E.ρ l := (hS3.ext.ρ l hcl1).trans hρ1
 have fin : ∀ (jump : Option Code), lsOf s4 = (if jump.isNone then .ready else .done) → peOf pe4 = jump → r = jump.isNone →
   ∃ v' w', (Instr.endRound (E.ρ l) jump).run P w3 = .ok v' w' ∧ ∃ E' c', Ending.returned v' = .returned (conc E' (.b r)) ∧ Stp P F E M c w E' (M3.set l (.loop s4 pe4 fn3 tm3 ps3 a3 b3 dn3)) c' w' ∧ bd c' (.b r) ∧ Grow c ct c' ct' := by
  intro jump h1 h2 h3
  have her := run_endRound (P := P) (l := E.ρ l) jump (by rw [← hρ3]; exact hob3)
  refine ⟨_, _, her, E3, c3, by rw [h3]; rfl, ?_, trivial, hG1.trans hG3⟩
  refine ((hS1.trans hS2).trans hS3).trans (hR3.cx.rel.write l _ (.loop s4 pe4 fn3 tm3 ps3 a3 b3 dn3) hM3 (.loop { state := if jump.isNone then .ready else .done, pending := jump, fn := fn3', tmps := tmps3, params := params3, assign := ca3, body := cb3, defers := E3.ρ dn3 }) hbd3 _ (by rw [hρ3]; rfl) rfl rfl rfl ?_)
  exact ⟨fn3', tmps3, params3, ca3, cb3, by rw [h1, h2], htr3, hps3, hnt3⟩
 rcases hcase with ⟨rfl, rfl, rfl, rfl⟩ | ⟨rfl, rfl, rfl, rfl⟩ | ⟨id, rfl, rfl, rfl, rfl⟩
 · exact fin none rfl rfl rfl
 · exact fin (some .ret) rfl rfl rfl
 · exact fin (some (.exit id)) rfl rfl rfl
end
section
variable {Fn : Fence} {n : Nat} {P : Program} {b : Frame} {a : Act} {k : List Item} {cs : List Frame} {w : World} {Q : Exit → Act → World → Prop}
theorem stepR_scope {c : Code} : step P (lone (b.atR a (.code (.scope c) :: k)) cs w) = .next (lone (b.atR a (.code c :: .inScope c :: k)) cs w) :=
 step_lone_go (by simp [stepG, stepG.exec, Frame.atR])
theorem stepR_inScope {c : Code} : step P (lone (b.atR a (.inScope c :: k)) cs w) = .next (lone (b.atR a k) cs w) :=
 step_lone_go (by simp [stepG, stepG.exec, Frame.atR])
def inScopePost (body : Code) (J : Code → Act → World → Prop) (Q : Exit → Act → World → Prop) : Exit → Act → World → Prop
 | .goto l, a, w => match findLabel body l with
   | some rest => J rest a w
   | none => Q (.goto l) a w
 | e, a, w => Q e a w
def ScopeIn (Fn : Fence) (n : Nat) (P : Program) (body : Code) (Q : Exit → Act → World → Prop) : Nat → Code → Act → World → Prop
 | 0, _, _, _ => False
 | m + 1, c, a, w => c.wpIn Fn n P (inScopePost body (ScopeIn Fn n P body Q m) Q) a w
theorem wpIn_scope {body : Code} (m : Nat) (h : ScopeIn Fn n P body Q m body a w) : (Code.scope body).wpIn Fn n P Q a w := by
 intro b k cs hro hb hr
 have hx : ∀ id, exitTo id (.inScope body :: k) = exitTo id k := fun id => by simp [exitTo]
 have key : ∀ m c a w, ScopeIn Fn n P body Q m c a w →
   ∃ e a' w', Q e a' w' ∧ ArrivesIn (Machine.fenced P Fn) P (lone (b.atR a (.code c :: .inScope body :: k)) cs w) b k cs e a' w' := by
  intro m
  induction m with
  | zero => intro c a w h; exact h.elim
  | succ m ih =>
    intro c a w h
    obtain ⟨e, a₁, w₁, hq, harr⟩ := h b (.inScope body :: k) cs hro hb hr
    cases e with
    | normal => exact ⟨.normal, a₁, w₁, hq, StepsIn.trans harr (.one (fenced_calm hb hr rfl) stepR_inScope)⟩
    | exit id =>
      exact ⟨.exit id, a₁, w₁, hq, fun k' hk => harr.1 k' (by rw [hx]; exact hk),
       fun hr' hk => harr.2 hr' (by rw [hx]; exact hk)⟩
    | goto l =>
      cases hf : findLabel body l with
      | none =>
        have hq' : Q (.goto l) a₁ w₁ := by
         have : inScopePost body (ScopeIn Fn n P body Q m) Q (.goto l) a₁ w₁ := hq
         unfold inScopePost at this
         dsimp only at this
         rw [hf] at this; exact this
        have hg : gotoIn l (.inScope body :: k) = gotoIn l k := by simp [gotoIn, hf]
        exact ⟨.goto l, a₁, w₁, hq', fun k' hk => harr.1 k' (by rw [hg]; exact hk), fun hr' hk => harr.2 hr' (by rw [hg]; exact hk)⟩
      | some rest =>
        have hq' : ScopeIn Fn n P body Q m rest a₁ w₁ := by
         have : inScopePost body (ScopeIn Fn n P body Q m) Q (.goto l) a₁ w₁ := hq
         unfold inScopePost at this
         dsimp only at this
         rw [hf] at this; exact this
        obtain ⟨e₂, a₂, w₂, hq₂, harr₂⟩ := ih rest a₁ w₁ hq'
        have hg : gotoIn l (.inScope body :: k) = some (.code rest :: .inScope body :: k) := by simp [gotoIn, hf]
        exact ⟨e₂, a₂, w₂, hq₂, .of_steps (harr.1 _ hg) harr₂⟩
    | ret => exact ⟨_, a₁, w₁, hq, harr⟩
    | panic ch => exact ⟨_, a₁, w₁, hq, harr⟩
    | outgrown => exact ⟨_, a₁, w₁, hq, harr⟩
 obtain ⟨e, a', w', hq, harr⟩ := key m body a w h
 exact ⟨e, a', w', hq, .of_steps (.one (fenced_calm hb hr rfl) stepR_scope) harr⟩
end
section
variable {P : Program} {Bd : List Deferred} {E E' : Env} {F : RO} {M M' : Mem} {c c' : Nat → Prop} {ct ct' nt : Nat} {w w' : World} {t t' : T} {d d' : List Nat} {a : Act} {rd : Option Nat}
def DrOk (P : Program) (k : Kn) : Prop := ∀ (F : RO) (rd : Option Nat) (nt id : Nat) (ops : Array Oper) (cos : List CO), compOs P nt ops ops.toList = some cos → ∀ (n : Nat) (l : List (Nat × Nat × CO)), dregC ops cos = .dreg n l →
 ∀ (t : T) (d : List Nat) (M : Mem) (ct : Nat) (e : Ex) (t' : T) (d' : List Nat) (M' : Mem) (ct' : Nat), c_dreg n l (knF k F) (.mk t d M ct) = .k e (.mk t' d' M' ct') →
 ∀ {Bd : List Deferred} (E : Env) (c : Nat → Prop) (w : World) (a : Act), SR P Bd F rd nt E c w a t d M ct → ∀ Q : Exit → Act → World → Prop, (∀ a' w', Res P Bd F rd nt E c w M ct t' d' M' ct' a' w' → Q (exOf e) a' w') → (Code.region id ops true).wpIn (fence E rd) 0 P Q a w
theorem peOf_code {pe : Pend} {n : Nat} {Fn : Fence} {Q : Exit → Act → World → Prop} {e : Ex} {s : St} {s' : St} (h : rfPend s pe = .k e s') (hq : Q (exOf e) a w) :
  (match peOf pe with
   | none => Q .normal a w
   | some c => c.wpIn Fn n P Q a w) := by
 cases pe with
 | none =>
   have h' : Rs.k .nrm s = .k e s' := h
   injection h' with h1 h2
   subst h1
   exact hq
 | ret =>
   have h' : Rs.k .ret s = .k e s' := h
   injection h' with h1 h2
   subst h1
   exact wpIn_ret hq
 | ext id =>
   have h' : Rs.k (.ext id) s = .k e s' := h
   injection h' with h1 h2
   subst h1
   exact wpIn_exit hq
theorem rfPend_st {pe : Pend} {e : Ex} {s s' : St} (h : rfPend s pe = .k e s') : s' = s := by
 cases pe with
 | none => have h' : Rs.k .nrm s = .k e s' := h; injection h' with h1 h2; exact h2.symm
 | ret => have h' : Rs.k .ret s = .k e s' := h; injection h' with h1 h2; exact h2.symm
 | ext id => have h' : Rs.k (.ext id) s = .k e s' := h; injection h' with h1 h2; exact h2.symm
theorem rfDone_some {l : Nat} {r : RC} {e : Ex} {s' : St} (h : rfDone t d l r = .k e s') : ∃ v M1 c1 s pe fn tm ps a b dn, r = .k v M1 c1 ∧ M1.get l = some (.loop s pe fn tm ps a b dn) ∧ s ≠ .busy ∧
  rfPend (.mk t d (M1.set l (.loop .exhausted pe fn tm ps a b dn)) c1) pe = .k e s' := by
 cases r with
 | f => cases (show Rs.f = .k e s' from h)
 | k v M1 c1 =>
   have h1 : rfEnd t d M1 c1 l (loopOf (M1.get l)) = .k e s' := h
   cases hl : loopOf (M1.get l) with
   | f => rw [hl] at h1; cases (show Rs.f = .k e s' from h1)
   | k s pe fn tm ps a b dn =>
     rw [hl] at h1
     refine ⟨v, M1, c1, s, pe, fn, tm, ps, a, b, dn, rfl, loopOf_some hl, ?_, ?_⟩
     · rintro rfl; cases (show Rs.f = .k e s' from h1)
     · unfold rfEnd at h1
       split at h1
       · cases h1
       · rename_i heq
         injection heq with e1 e2 e3 e4 e5 e6 e7 e8
         subst e1 e2 e3 e4 e5 e6 e7 e8
         split at h1
         · cases h1
         · rw [Tr.force_eq] at h1; exact h1
theorem callI_some {k : Kn} {v : V} {args : List V} {x : V} (h : callI k v args M ct = .k x M' ct') : ∃ f first caps, v = .f f first caps ∧ callF k f (first ++ (args ++ caps)) M ct = .k x M' ct' := by
 cases v with
 | f f first caps => exact ⟨f, first, caps, rfl, h⟩
 | _ => cases (show RC.f = .k x M' ct' from h)
theorem rfGo_ok {Φ : Nat → Option CF} {ex : ExF} (hΦ : PhiOk P Φ) (hex : ExOk P ex) {fn₀ : Nat} {g : Operand} {ps : Array Tmp} {ca cb : Code} {x : X} {asg body : CC} (hx : compX g = some x)
  (hsa : Sim P nt ca asg) (hsb : Sim P nt cb body) (hps : ∀ p ∈ ps.toList, p < nt) {dn : Nat} {e : Ex} {s' : St}
  (h : rfGo x (ps.toList.map posOf) asg body (.mk Φ ex rd fn₀ F) t d M ct dn = .k e s') (hdn : c dn)
  (hSR : SR P Bd F rd nt E c w a t d M ct) {Q : Exit → Act → World → Prop} {fn : Nat} {mark : List Deferred} {w₁ : World}
  {w₀ : World} {a₀ : Act} (he : (Instr.enterLoop fn a₀.tmps ps ca cb (rd.map E.ρ)).run P w₀ = .ok (w.heap.size, mark) w₁)
  (hw₁ : w₁ = w.alloc (.loop { state := .ready, pending := none, fn, tmps := a₀.tmps, params := ps, assign := ca, body := cb, defers := E.ρ dn }))
  (ha : a = { a₀ with defers := mark ++ a₀.defers })
  (hQ : ∀ t' d' M' ct', s' = .mk t' d' M' ct' → ∀ a' w', Res P Bd F rd nt E c w M ct t' d' M' ct' a' w' → Q (exOf e) a' w') :
  ∃ (l : Nat) (mark : List Deferred) (w₁ : World) (d : Deferred) (w₁' : World) (f : FuncId) (args : Array Value) (w₂ : World),
   (Instr.enterLoop fn a₀.tmps ps ca cb (fence E rd).round).run P w₀ = .ok (l, mark) w₁ ∧
   (resolve a₀.eval (rangeCall g l) 0).run P w₁ = .ok d w₁' ∧
   (∀ f', Target.leads P w₁' d.target d.args = some f' → (fence E rd).fn f') ∧
   (invoke d.target d.args).run P w₁' = .ok (.enter f args) w₂ ∧
   ((fence E rd).depth.isSome = true → 1 ≤ 0) ∧
   CallsIn (fence E rd) (0 - 1) P f args w₂ (rangePost (fence E rd) 0 P l Q { a₀ with defers := mark ++ a₀.defers }) := by
 have h1 : rfDone t d ct (callI (.mk Φ ex rd fn₀ F) (x.ev t) [.y ct] (M.set ct (.loop .ready .none fn₀ t (ps.toList.map posOf) asg body dn)) (ct + 1)) = .k e s' := by
  unfold rfGo at h
  dsimp only at h
  rw [Tr.force_eq, fN_eq] at h
  exact h
 obtain ⟨v, M1, c1, s, pe, fn1, tm1, ps1, a1, b1, dn1, hr, hM1, hbusy, hpend⟩ := rfDone_some h1
 obtain ⟨f, first, caps, hv, hcf⟩ := callI_some hr
 have htm : a₀.tmps = a.tmps := by rw [ha]
 obtain ⟨E1, hS1, hE1, hρ1, hβ1, _⟩ := hSR.cx.rel.alloc (.loop .ready .none fn₀ t (ps.toList.map posOf) asg body dn) (.loop { state := .ready, pending := none, fn, tmps := a₀.tmps, params := ps, assign := ca, body := cb, defers := E.ρ dn }) ct 0 (fun b => c b ∨ b = ct) (hSR.fr ct (Nat.le_refl _)) (.inr rfl) (fun _ h => .inl h)
  ⟨fun p => bd_mono (fun _ h => .inl h) _ (hSR.cx.bt p), .inl hdn⟩ w₁ (by rw [hw₁]; rfl) (by rw [hw₁]; rfl) (by rw [hw₁]; rfl) (by rw [hw₁]; rfl)
  (fun E2 hE2 _ _ _ => ⟨fn, a₀.tmps, ps, ca, cb, by rw [hE2.ρ dn hdn]; rfl, by rw [htm]; exact hSR.cx.tr.ext hE2 hSR.cx.bt, rfl, nt, by rw [htm]; exact hSR.sz, hps, hsa, hsb⟩)
 have hG1 : Grow c ct (fun b => c b ∨ b = ct) (ct + 1) := grow_one c ct
 have hSR1 := hSR.stp hS1 hG1
 have ev := hSR1.cx.ev hx
 rw [hv] at ev
 have hcall := callOk_of hΦ hex rd fn₀ F
 have hcf' : callF (knF (.mk Φ ex rd fn₀ F) F) f (first ++ ([.y ct] ++ caps)) (M.set ct (.loop .ready .none fn₀ t (ps.toList.map posOf) asg body dn)) (ct + 1) = .k v M1 c1 := hcf
 obtain ⟨fn', hfn, hbo, hnm, hC⟩ := hcall F f _ _ _ _ _ _ hcf' E1 _ w₁ hSR1.cx.rel hSR1.cx.glob hSR1.cx.big hSR1.fr (bds_append ev.2.1 (bds_append (⟨.inr rfl, trivial⟩) ev.2.2))
 have hcfn : (callFunc f (concs E1 (first ++ ([.y ct] ++ caps))).toArray).run P w₁ = .ok (.enter f (concs E1 (first ++ ([.y ct] ++ caps))).toArray) w₁ := by
  have h1 : ¬ fn'.name = "runtime.NumGoroutine" := by simpa using hnm
  have h2 : ¬ fn'.body = none := fun e => by rw [e] at hbo; cases hbo
  simp [callFunc, hfn, h1, h2]
 have hge : a₀.eval g = .func (.func f) (concs E1 first).toArray (concs E1 caps).toArray := by
  have : a.eval g = a₀.eval g := by rw [ha]; rfl
  rw [← this, ev.1]; rfl
 refine ⟨w.heap.size, mark, w₁, ⟨.fn (.func f) (concs E1 caps).toArray, (concs E1 first).toArray ++ #[.func (.yield w.heap.size) #[] #[]]⟩, w₁, f, (concs E1 (first ++ ([.y ct] ++ caps))).toArray, w₁, he, ?_, fun _ _ => trivial, ?_, fun hd => by simp [fence] at hd, ?_⟩
 · have hm : (rangeCall g w.heap.size).args.map a₀.eval = #[.func (.yield w.heap.size) #[] #[]] := by simp [Act.eval]
   show (Deferred.ofValue (a₀.eval g) ((rangeCall g w.heap.size).args.map a₀.eval)).run P w₁ = _
   rw [hm, hge]; rfl
 · have : (concs E1 first).toArray ++ #[.func (.yield w.heap.size) #[] #[]] ++ (concs E1 caps).toArray = (concs E1 (first ++ ([.y ct] ++ caps))).toArray := by
    rw [concs_append, concs_append]
    simp [concs, conc, hρ1]
   simp only [invoke, this]
   exact hcfn
 · rw [← fence_ext hS1.ext hSR.rd]
   refine callsIn_any (hC.mono ?_)
   rintro e2 w2 ⟨E2, c2, rfl, hS2, hb2, hG2⟩
   obtain ⟨hcl, hbd, ob, hob, fn3, tmps3, params3, ca3, cb3, rfl, htr3, hps3, hnt3⟩ := hS2.rel.has _ _ (look_some_M hM1)
   have hρ2 : E2.ρ ct = w.heap.size := (hS2.ext.ρ ct (.inr rfl)).trans hρ1
   have hen := run_endLoop (P := P) (l := w.heap.size) (by rw [← hρ2]; exact hob) (by cases s <;> first | exact absurd rfl hbusy | (intro h; cases h))
   refine ⟨_, _, hen, ?_⟩
   have hS3 := hS2.rel.write ct _ (.loop .exhausted pe fn1 tm1 ps1 a1 b1 dn1) hM1 (.loop { state := .exhausted, pending := peOf pe, fn := fn3, tmps := tmps3, params := params3, assign := ca3, body := cb3, defers := E2.ρ dn1 }) hbd
    (w2.putObj w.heap.size (.loop { state := .exhausted, pending := peOf pe, fn := fn3, tmps := tmps3, params := params3, assign := ca3, body := cb3, defers := E2.ρ dn1 })) (by rw [hρ2]; rfl) rfl rfl rfl
    ⟨fn3, tmps3, params3, ca3, cb3, rfl, htr3, hps3, hnt3⟩
   have hst := rfPend_st hpend
   refine peOf_code hpend ?_
   have hR := (hSR1.stp hS2 hG2).stp hS3 (.refl _ _)
   rw [← ha]
   refine hQ _ _ _ _ hst a _ ⟨E2, c2, (hS1.trans hS2).trans hS3, hG1.trans hG2, hR⟩
end
end
end Go.Proofs.YtpokoiicogheaaaGreatDoor.Ev
