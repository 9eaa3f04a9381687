/- What is proved here: pieces of the evaluator's soundness: if the evaluator comes to a value, the model's run comes to it, for every world and tape; no conditions beyond the hypotheses of each theorem. -/
import Derived.Test.YtpokoiicogheaaaGreatDoorEv0
import Derived.Laws.BytesArg
import Derived.Laws.IdiomStrings
import Derived.Laws.StructEq
import Derived.Laws.Externs
import Derived.KernelRfl
import Derived.Lib.Bytealg
import Derived.Lib.BytesEntry
import GoSem.Extern.BytealgCompare
set_option linter.unusedSimpArgs false
set_option linter.unusedVariables false
set_option linter.defProp false
namespace Go.Proofs.YtpokoiicogheaaaGreatDoor.Ev
open Go
noncomputable section
theorem ofNat_mod (c : Nat) : UInt8.ofNat (c % 256) = UInt8.ofNat c := by
 apply UInt8.toNat_inj.1; simp [UInt8.toNat_ofNat']
theorem bytesV_spec : ∀ (vs : List V) (n s : Nat), bytesV vs = some (n, s) → ∃ ns : List Nat, vs = ns.map (fun c => V.i .u8 (.ofNat c)) ∧ n = ns.length ∧ bl n s = ns.map (fun c => UInt8.ofNat c)
 | [], n, s, h => by
   simp only [bytesV, Option.some.injEq, Prod.mk.injEq] at h
   obtain ⟨rfl, rfl⟩ := h
   exact ⟨[], rfl, rfl, rfl⟩
 | v :: l, n, s, h => by
   rw [bytesV.eq_def] at h
   split at h
   · rename_i e; cases e
   · rename_i c l' e
     obtain ⟨rfl, rfl⟩ := List.cons.inj e
     split at h
     · rename_i m x hm
       simp only [Option.some.injEq, Prod.mk.injEq] at h
       obtain ⟨rfl, rfl⟩ := h
       obtain ⟨ns, rfl, rfl, hb⟩ := bytesV_spec l m x hm
       refine ⟨c :: ns, rfl, rfl, ?_⟩
       show bl (ns.length + 1) (c % 256 + 256 * x) = _
       rw [bl]
       have h1 : (c % 256 + 256 * x) % 256 = c % 256 := by omega
       have h2 : (c % 256 + 256 * x) / 256 = x := by omega
       rw [h1, h2, hb, ofNat_mod]; rfl
     · cases h
   · cases h
theorem byteCells_succ (n x : Nat) : byteCells (n + 1) x = .i .u8 (.ofNat (x % 256)) :: byteCells n (x / 256) := by
 rw [byteCells, fN_eq]; rfl
theorem byteCells_conc (E : Env) (n : Nat) : ∀ x, concs E (byteCells n x) = (bl n x).map fun b => Value.int .u8 (b.toNat : Int) := by
 induction n with
 | zero => intro x; rfl
 | succ n ih =>
   intro x
   rw [byteCells_succ, concs, ih, bl, List.map_cons]
   congr 1
   simp only [conc, UInt8.toNat_ofNat']
   congr 1
   show ((x % 256 : Nat) : Int) = _
   simp
section
variable {P : Program} {E : Env} {F : RO} {M : Mem} {c : Nat → Prop} {w : World} {t : T} {a : Act}
theorem byteCells_bd (n : Nat) : ∀ x, bds c (byteCells n x) := by
 induction n with
 | zero => intro x; trivial
 | succ n ih => intro x; rw [byteCells_succ]; exact ⟨trivial, ih _⟩
theorem byteCells_length (n : Nat) : ∀ x, (byteCells n x).length = n := by
 induction n with
 | zero => intro x; rfl
 | succ n ih => intro x; rw [byteCells_succ, List.length_cons, ih]
theorem Cx.readB (h : Cx P E F M c w t a) {sz n b o : Nat} {vs : List V} {r : Option Nat} (hr : readB F M sz n b o = some (vs, r)) :
  (loadCells ⟨E.ρ b, E.β b + o, none⟩ (n * sz)).run P w = .ok (concs E vs).toArray w ∧ bds c vs ∧ vs.length = n * sz := by
 unfold Ev.readB at hr
 rw [beqN] at hr
 by_cases hn : n = 0
 · subst hn
   simp at hr
   obtain ⟨rfl, rfl⟩ := hr
   exact ⟨by simp [loadCells, loadCellsFrom, concs], trivial, by simp⟩
 · rw [decide_eq_false hn, cond_false] at hr
   split at hr
   · rename_i l hl
     simp only [Option.some.injEq, Prod.mk.injEq] at hr
     obtain ⟨rfl, rfl⟩ := hr
     exact h.loadN hl
   · cases hr
theorem lenV_slice {v : V} {n : Nat} (h : lenV v = some n) : (∃ ad cap, conc E v = .slice ad n cap) ∨ ∃ x, v = .s n x := by
 cases v <;> first
  | (simp only [lenV, Option.some.injEq] at h; subst h; exact .inl ⟨_, _, rfl⟩)
  | (simp only [lenV, Option.some.injEq] at h; subst h; exact .inr ⟨_, rfl⟩)
  | (simp [lenV] at h)
theorem Cx.readL (h : Cx P E F M c w t a) {sz n : Nat} {v : V} {vs : List V} {r : Option Nat} (hr : readL F M sz n v = some (vs, r)) :
  (∃ ad len cap, conc E v = .slice ad len cap ∧ (match ad with
   | some ad => (loadCells ad (n * sz)).run P w = .ok (concs E vs).toArray w
   | none => vs = [])) ∧ bds c vs ∧ vs.length = n * sz := by
 cases v with
 | l b o len cap =>
   have := h.readB (show Ev.readB F M sz n b o = some (vs, r) from hr)
   exact ⟨⟨_, _, _, rfl, this.1⟩, this.2⟩
 | u b o len el kn =>
   have := h.readB (show Ev.readB F M sz n b o = some (vs, r) from hr)
   exact ⟨⟨_, _, _, rfl, this.1⟩, this.2⟩
 | ue b o0 o =>
   have hr' : (bif Nat.beq n 0 then some (([] : List V), (none : Option Nat)) else none) = some (vs, r) := hr
   rw [beqN] at hr'
   by_cases hn : n = 0
   · subst hn
     simp at hr'
     obtain ⟨rfl, rfl⟩ := hr'
     exact ⟨⟨_, _, _, rfl, by simp [loadCells, loadCellsFrom, concs]⟩, trivial, by simp⟩
   · rw [decide_eq_false hn] at hr'; cases hr'
 | l0 =>
   have hr' : (bif Nat.beq n 0 then some (([] : List V), (none : Option Nat)) else none) = some (vs, r) := hr
   rw [beqN] at hr'
   by_cases hn : n = 0
   · subst hn
     simp at hr'
     obtain ⟨rfl, rfl⟩ := hr'
     exact ⟨⟨_, _, _, rfl, rfl⟩, trivial, by simp⟩
   · rw [decide_eq_false hn] at hr'; cases hr'
 | _ => cases (show (none : Option (List V × Option Nat)) = some (vs, r) from hr)
theorem bytes_run {vs : List V} {n s len cap : Nat} {ad : Option Addr} (hs : bytesV vs = some (n, s)) (hl : match ad with
   | some ad => (loadCells ad len).run P w = .ok (concs E vs).toArray w
   | none => vs = []) : (Conv.bytesToString (.slice ad len cap)).run P w = .ok (.string (ba n s)) w := by
 obtain ⟨ns, rfl, rfl, hb⟩ := bytesV_spec _ _ _ hs
 cases ad with
 | none =>
   cases ns with
   | nil => simp [Conv.bytesToString, ba, bl]; rfl
   | cons x l => simp at hl
 | some ad =>
   have hl' : (loadCells ad len).run P w = .ok ((ns.map Int.ofNat).map (Value.int .u8)).toArray w := by
    rw [hl, concs_map]; congr 2; simp [List.map_map, conc, Function.comp_def]
   rw [run_bytesToString w ad len cap _ hl', foldl_push_bytes]
   congr 2
   apply ba_ext
   rw [hb]
   simp [List.map_map, Function.comp_def]
theorem CellsRel.le {b ty n fz : Nat} {ex str : Bool} {d : List V} {cs : T} {arr : Array Value} {fr : Nat × Nat} (h : CellsRel P E b ty n ex fz str d cs arr fr) : E.β b + n ≤ arr.size := by
 have := h.size
 cases ex with
 | true => simp at this; omega
 | false => simp at this; omega
theorem slS_val {n s : Nat} {lo hi : Option Nat} {x : V} (h : (q_slS1 n s lo hi).val = some x) : ∃ l k, lo = some l ∧ hi = some k ∧ l ≤ k ∧ k ≤ n ∧ x = .s (k - l) (s / 256 ^ l % 256 ^ (k - l)) := by
 cases lo with
 | none => cases (show (none : Option V) = some x from h)
 | some l => cases hi with
   | none => cases (show (none : Option V) = some x from h)
   | some k =>
     have h' : (Bool.rec (motive := fun _ => QR) .f (Bool.rec (motive := fun _ => QR) .f (vS (Nat.sub k l) (Nat.mod (Nat.div s (p256 l)) (p256 (Nat.sub k l)))) (Nat.ble k n)) (Nat.ble l k)).val = some x := h
     rw [bb, bb, bleN, bleN, vS_eq] at h'
     by_cases h1 : l ≤ k
     · rw [if_pos (by simpa using h1)] at h'
       by_cases h2 : k ≤ n
       · rw [if_pos (by simpa using h2)] at h'
         exact ⟨l, k, rfl, rfl, h1, h2, (Option.some.inj h').symm⟩
       · rw [if_neg (by simpa using h2)] at h'
         cases (show (none : Option V) = some x from h')
     · rw [if_neg (by simpa using h1)] at h'
       cases (show (none : Option V) = some x from h')
theorem cellsOf_sz {ty n : Nat} (h : szOf P ty = some n) : P.cellsOf ty = n := by
 unfold szOf at h; unfold Program.cellsOf; rw [h]; rfl
theorem row_self {ty s k : Nat} (fits : TypeId → Bool) (hf : fits ty = true) (h : szOf P ty = some (s + 1)) : rowAt P fits (k + 1) ty 1 0 1 = true := by
 rw [rowAt.eq_def]
 simp [cellsOf_sz h, hf]
theorem lies_self' {ty s k : Nat} (h : szOf P ty = some (s + 1)) (hr : rowAt P (sameLayout P P.depth · ty) P.depth ty 1 0 1 = true) : liesAt P (k + 1) ty 1 0 ty 1 = true := by
 rw [liesAt.eq_def]
 simp only [hr, Bool.true_or]
theorem same_self {ty k : Nat} : sameLayout P (k + 1) ty ty = true := by
 rw [sameLayout.eq_def]; simp
theorem lies_self {ty s : Nat} (h : szOf P ty = some (s + 1)) : liesAt P P.depth ty 1 0 ty 1 = true :=
 lies_self' (k := 2 * (P.types.size + Made.depth) + 1) h (row_self (k := 2 * (P.types.size + Made.depth) + 1) _ (same_self (k := 2 * (P.types.size + Made.depth) + 1)) h)
theorem q_convert (h : Cx P E F M c w t a) {o : Oper} {s d : TypeId} {y : Operand} (hop : o.op = .convert s d y) {q : QO} (hc : compOp P o.op = some (.q q)) {x : V} (hx : (qop q F M t).val = some x) : QOk P E c w a o x := by
 rw [hop] at hc
 simp only [compOp] at hc
 split at hc
 ·
   rename_i ks k z h1 h2 hz
   obtain rfl : QO.ci k z = q := by simpa [Ev.q] using hc
   obtain ⟨k', n, hv, hg⟩ := onI_val (show (onI (z.ev t) .f fun _ n => vI k (wr k n)).val = some x from hx)
   rw [vI_eq] at hg
   obtain rfl := Option.some.inj hg
   have e := h.ev hz
   rw [hv] at e
   refine ⟨?_, trivial⟩
   simp only [execOp, hop]
   refine val_run ?_
   rw [e.1, wr_eq]
   exact ci_run h1 h2 k' n
 ·
   rename_i z h1 h2 hz
   obtain rfl : QO.slS z none none = q := by simpa [Ev.q] using hc
   obtain ⟨n, s', hv, hg⟩ := onS_val (show (onS (z.ev t) .f fun n s => q_slS1 n s (some 0) (some n)).val = some x from hx)
   obtain ⟨l, k, h3, h4, _, _, rfl⟩ := slS_val hg
   obtain rfl := Option.some.inj h3
   obtain rfl := Option.some.inj h4
   have e := h.ev hz
   rw [hv] at e
   refine ⟨?_, trivial⟩
   simp only [execOp, hop]
   refine val_run ?_
   rw [e.1]
   simp only [convert, Sem.run_bind, run_und h1, run_und h2, Result.andThen_ok, conc, Sem.run_pure]
   congr 2
   apply ba_ext
   rw [ba_toList, Nat.sub_zero, bl_mod, Nat.pow_zero, Nat.div_one]
 ·
   rename_i el z h1 h2 hz
   split at hc
   · rename_i hu8
     obtain rfl : QO.bs z = q := by simpa [Ev.q] using hc
     have e := h.ev hz
     have hel : P.underlying el = some (.int .u8) := by
      unfold isU8 at hu8
      split at hu8
      · assumption
      · cases hu8
     have hx' : (q_bs z F M t).val = some x := hx
     unfold q_bs at hx'
     split at hx'
     · cases hx'
     · rename_i v hv
       unfold q_bs1 at hx'
       split at hx'
       · rename_i n hn
         split at hx'
         · rename_i vs b hr
           unfold q_bs2 at hx'
           split at hx'
           · rename_i m sx hb
             rw [fN_eq, fN_eq] at hx'
             have hxx : x = .s m sx := by
              split at hx'
              · exact (Option.some.inj hx').symm
              · exact (Option.some.inj hx').symm
             subst hxx
             obtain ⟨⟨ad, len, cap, hcv, hld⟩, _, _⟩ := h.readL hr
             rcases lenV_slice (E := E) hn with ⟨ad', cap', e'⟩ | ⟨y', e'⟩
             · rw [hcv] at e'
               simp only [Value.slice.injEq] at e'
               obtain ⟨_, rfl, _⟩ := e'
               refine ⟨?_, trivial⟩
               simp only [execOp, hop]
               refine val_run ?_
               rw [e.1, hcv, run_convert_bytes_string w s d el ad len cap h1 hel h2]
               exact bytes_run hb (by simpa using hld)
             · exact absurd e' (hv n y')
           · cases hx'
         · cases hx'
       · cases hx'
   · cases hc
 · split at hc <;> cases hc
 · split at hc <;> cases hc
 ·
   rename_i el z h1 h2 hz
   split at hc
   · cases hc
   · rename_i hsz
     obtain rfl : QO.up z = q := by simpa [Ev.q] using hc
     have e := h.ev hz
     have hx' : (q_up z F M t).val = some x := hx
     unfold q_up at hx'
     split at hx'
     · rename_i hv
       obtain rfl := Option.some.inj hx'
       rw [hv] at e
       refine ⟨?_, trivial⟩
       simp only [execOp, hop]
       refine val_run ?_
       rw [e.1]
       simp only [convert, Conv.unsafePointer, Sem.run_bind, run_und h1, run_und h2, Result.andThen_ok, conc, Sem.run_pure]
     · rename_i b off hv
       cases hl : look F M b with
       | none => rw [hl] at hx'; cases (show (none : Option V) = some x from hx')
       | some blk =>
         cases blk with
         | cells ty n ex fz str dd cs =>
           rw [hl] at hx'
           have hx2 : (bif Nat.blt off n then QR.r (.p b off) b else .f).val = some x := hx'
           rw [bltN] at hx2
           by_cases hlt : off < n
           · rw [decide_eq_true hlt] at hx2
             obtain rfl := Option.some.inj hx2
             rw [hv] at e
             refine ⟨?_, e.2⟩
             obtain ⟨arr, fr, ho, hr⟩ := h.cells hl
             have hle := hr.le
             have hshape : w.shape? (E.ρ b) = some (ty, arr.size) := by simp [World.shape?, ho]
             obtain ⟨s1, hs1⟩ : ∃ s1, szOf P el = some (s1 + 1) := by
              cases hz' : szOf P el with
              | none => rw [hz'] at hsz; simp at hsz
              | some k => cases k with
                | zero => rw [hz'] at hsz; simp at hsz
                | succ k => exact ⟨k, rfl⟩
             have hnot : ¬ (arr.size ≤ E.β b + off) := by omega
             simp only [execOp, hop]
             refine val_run ?_
             rw [e.1]
             simp [convert, Conv.unsafePointer, Sem.run_bind, run_und h1, run_und h2, conc, Conv.seenAt, viewAt, hshape, cellsIn, run_sz hs1, hnot]
           · rw [decide_eq_false hlt] at hx2
             cases (show (none : Option V) = some x from hx2)
         | _ => rw [hl] at hx'; cases (show (none : Option V) = some x from hx')
     · cases hx'
 ·
   rename_i el z h1 h2 hz
   split at hc
   · rename_i s1 hs1
     obtain rfl : QO.dn el (s1 + 1) z = q := by simpa [Ev.q] using hc
     have e := h.ev hz
     have hx' : (q_dn el (s1 + 1) z F M t).val = some x := hx
     unfold q_dn at hx'
     split at hx'
     · rename_i hv
       obtain rfl := Option.some.inj hx'
       rw [hv] at e
       refine ⟨?_, trivial⟩
       simp only [execOp, hop]
       refine val_run ?_
       rw [e.1]
       simp only [convert, Conv.unsafePointer, Sem.run_bind, run_und h1, run_und h2, Result.andThen_ok, conc, Sem.run_pure]
     · rename_i b hv
       unfold dnIn at hx'
       split at hx'
       · rename_i ty n fz str dd cs hl
         rw [beqN, beqN] at hx'
         by_cases hh : ty = el ∧ n = s1 + 1
         · obtain ⟨rfl, rfl⟩ := hh
           have hx2 : some (V.p b 0) = some x := by simpa [QR.val] using hx'
           obtain rfl := Option.some.inj hx2
           rw [hv] at e
           refine ⟨?_, e.2⟩
           obtain ⟨arr, fr, ho, hr⟩ := h.cells hl
           have hsz := hr.size
           simp only [if_true] at hsz
           have hshape : w.shape? (E.ρ b) = some (ty, s1 + 1) := by simp [World.shape?, ho, hsz.2]
           simp only [execOp, hop]
           refine val_run ?_
           rw [e.1]
           have hdiv : (s1 + 1) / (s1 + 1) = 1 := Nat.div_self (by omega)
           simp [convert, Conv.unsafePointer, Sem.run_bind, run_und h1, run_und h2, conc, Conv.seenAt, viewAt, hshape, run_sz hs1, variablesAt, cellsOf_sz hs1, hsz.1, hdiv, lies_self hs1]
         · exfalso
           have : (decide (ty = el) && decide (n = s1 + 1)) = false := by
            rw [Bool.and_eq_false_iff]; simp only [decide_eq_false_iff_not]; omega
           rw [this] at hx'
           cases (show (none : Option V) = some x from hx')
       · cases hx'
     · cases hx'
   · cases hc
 · cases hc
end
section
variable {P : Program} {E : Env} {F : RO} {M : Mem} {c : Nat → Prop} {w : World} {t : T} {a : Act}
def OptI (o : Option Value) (r : Option Nat) : Prop := ∃ k, o = r.map fun n => Value.int k (n : Int)
theorem Cx.optNN (h : Cx P E F M c w t a) {o : Option Operand} {x : Option X} (hx : optX o = some x) {r : Option Nat} (hr : Ev.optNN t x = some r) : OptI (o.map a.eval) r := by
 cases o with
 | none =>
   obtain rfl := Option.some.inj hx
   obtain rfl := Option.some.inj hr
   exact ⟨.i64, rfl⟩
 | some y =>
   obtain ⟨z, hz, rfl⟩ := Option.map_eq_some_iff.1 hx
   have hr' : (match asN (z.ev t) with | some n => some (some n) | none => none) = some r := hr
   split at hr'
   · rename_i n hn
     obtain rfl := Option.some.inj hr'
     obtain ⟨k, hk⟩ := asN_some hn
     refine ⟨k, ?_⟩
     rw [Option.map_some, (h.ev hz).1, hk]; rfl
   · cases hr'
theorem Cx.optN (h : Cx P E F M c w t a) {o : Option Operand} {x : Option X} (hx : optX o = some x) {d n : Nat} (hr : Ev.optN t d x = some n) :
  ∃ r, OptI (o.map a.eval) r ∧ r.getD d = n ∧ (r.isSome ↔ x.isSome) := by
 cases o with
 | none =>
   obtain rfl := Option.some.inj hx
   obtain rfl : d = n := Option.some.inj hr
   exact ⟨none, ⟨.i64, rfl⟩, rfl, by simp⟩
 | some y =>
   obtain ⟨z, hz, rfl⟩ := Option.map_eq_some_iff.1 hx
   have hn : asN (z.ev t) = some n := hr
   obtain ⟨k, hk⟩ := asN_some hn
   refine ⟨some n, ⟨k, ?_⟩, rfl, by simp⟩
   rw [Option.map_some, (h.ev hz).1, hk]; rfl
theorem bounds_run {isS : Bool} {len cap : Nat} {lo hi mx : Option Value} {l h m : Option Nat} (hl : OptI lo l) (hh : OptI hi h) (hm : OptI mx m)
  (h1 : m.getD cap ≤ cap) (h2 : h.getD len ≤ m.getD cap) (h3 : l.getD 0 ≤ h.getD len) (h4 : m = none ∨ h.isSome) :
  (Instr.sliceBounds isS len cap lo hi mx).run P w = .ok (l.getD 0, h.getD len, m.getD cap) w := by
 obtain ⟨k1, rfl⟩ := hl
 obtain ⟨k2, rfl⟩ := hh
 obtain ⟨k3, rfl⟩ := hm
 cases l <;> cases h <;> cases m <;>
  simp_all [Instr.sliceBounds, Instr.sliceBound, asIntOf]
theorem mkL_val {b o n k : Nat} {x : V} (h : (mkL b o n k).val = some x) : x = .l b o n k := by
 unfold mkL at h; rw [fN_eq, fN_eq, fN_eq] at h; exact (Option.some.inj h).symm
theorem mkU_val {b o n el kn : Nat} {x : V} (h : (mkU b o n el kn).val = some x) : x = .u b o n el kn := by
 unfold mkU at h; rw [fN_eq, fN_eq, fN_eq] at h; exact (Option.some.inj h).symm
theorem and3 {p q r : Bool} {x y : QR} {v : V} (h : (bif p && q && r then x else .f).val = some v) : p = true ∧ q = true ∧ r = true ∧ x.val = some v := by
 cases p <;> cases q <;> cases r <;> first | exact ⟨rfl, rfl, rfl, h⟩ | cases (show (none : Option V) = some v from h)
theorem and2 {p q : Bool} {x : QR} {v : V} (h : (bif p && q then x else .f).val = some v) : p = true ∧ q = true ∧ x.val = some v := by
 cases p <;> cases q <;> first | exact ⟨rfl, rfl, h⟩ | cases (show (none : Option V) = some v from h)
theorem slc_l_val {sz b o cap l h m : Nat} {x : V} (hx : (slc_l sz b o cap l h m).val = some x) : m ≤ cap ∧ h ≤ m ∧ l ≤ h ∧ x = .l b (if m = l then o else o + l * sz) (h - l) (m - l) := by
 unfold slc_l at hx
 rw [bleN, bleN, bleN, beqN] at hx
 obtain ⟨h1, h2, h3, h4⟩ := and3 (y := .f) hx
 refine ⟨of_decide_eq_true h1, of_decide_eq_true h2, of_decide_eq_true h3, ?_⟩
 rw [mkL_val h4]
 by_cases e : m = l <;> simp [e]
theorem addr_if {r o k : Nat} {p : Prop} [Decidable p] : (if p then (⟨r, o, none⟩ : Addr) else ⟨r, o + k, none⟩) = ⟨r, if p then o else o + k, none⟩ := by split <;> rfl
theorem q_slice (h : Cx P E F M c w t a) {o : Oper} {ty : TypeId} {y : Operand} {lo hi mx : Option Operand} (hop : o.op = .slice ty y lo hi mx) {q : QO} (hc : compOp P o.op = some (.q q)) {x : V} (hx : (qop q F M t).val = some x) : QOk P E c w a o x := by
 rw [hop] at hc
 simp only [compOp] at hc
 split at hc
 · rename_i xa xl xh xm h1 h2 h3 h4
   have e := h.ev h1
   have arr : ∀ n s el, szOf P el = some s → (∀ ad : Addr, ∀ lo' hi' mx' : Option Value, ∀ l k m : Nat, (Instr.sliceBounds false n n lo' hi' mx').run P w = .ok (l, k, m) w →
      (Instr.sliceAt ty (.pointer (some ad)) lo' hi' mx').run P w = .ok (.slice (some (if m = l then ad else ad.add (l * s))) (k - l) (m - l)) w) →
      QO.slA n s xa xl xh xm = q → QOk P E c w a o x := by
    intro n s el hs hrun hq
    subst hq
    have hx' : (q_slA n s xa xl xh xm F M t).val = some x := hx
    unfold q_slA at hx'
    by_cases hg : (xm.isNone || xh.isSome) = true
    · rw [hg, cond_true] at hx'
      obtain ⟨b, off, hv, hg2⟩ := onP_val hx'
      unfold q_slA1 at hg2
      split at hg2
      · rename_i l k m hl hk hm
        obtain ⟨d1, d2, d3, rfl⟩ := slc_l_val hg2
        obtain ⟨rl, ol, el', _⟩ := h.optN h2 hl
        obtain ⟨rh, oh, eh, ih⟩ := h.optN h3 hk
        obtain ⟨rm, om, em, im⟩ := h.optN h4 hm
        subst el' eh em
        rw [hv] at e
        refine ⟨?_, e.2⟩
        simp only [execOp, hop]
        refine val_run ?_
        rw [e.1]
        simp only [conc]
        rw [hrun _ _ _ _ _ _ _ (bounds_run ol oh om d1 d2 d3 (by
         cases hxm : xm with
         | none => left; rw [hxm] at im; simpa using im
         | some z => right; rw [hxm] at hg; rw [ih]; simpa using hg))]
        simp only [Addr.add_eq, addr_if]
        congr 5
        split <;> omega
      · cases hg2
    · rw [Bool.not_eq_true] at hg
      rw [hg] at hx'
      cases (show (none : Option V) = some x from hx')
   split at hc
   ·
     rename_i hu
     split at hc
     · cases hc
     · rename_i hmx
       obtain rfl : QO.slS xa xl xh = q := by simpa [Ev.q] using hc
       obtain ⟨n, s, hv, hg⟩ := onS_val (show (onS (xa.ev t) .f fun n s => q_slS1 n s (optN t 0 xl) (optN t n xh)).val = some x from hx)
       obtain ⟨l, k, hl, hk, d1, d2, rfl⟩ := slS_val hg
       obtain ⟨rl, ol, el', _⟩ := h.optN h2 hl
       obtain ⟨rh, oh, eh, ih⟩ := h.optN h3 hk
       subst el' eh
       have hmn : xm = none := by cases xm with
        | none => rfl
        | some z => simp at hmx
       have hmx0 : mx = none := by
        rw [hmn] at h4
        cases mx with
        | none => rfl
        | some z => rw [optX] at h4; cases hz : compX z <;> rw [hz] at h4 <;> simp at h4
       rw [hv] at e
       refine ⟨?_, trivial⟩
       simp only [execOp, hop]
       refine val_run ?_
       rw [e.1, hmx0]
       have hb := bounds_run (P := P) (w := w) (isS := false) (len := n) (cap := n) (mx := none) (m := none) ol oh ⟨.i64, rfl⟩ (by simp) (by simpa using d2) (by simpa using d1) (.inl rfl)
       simp only [Instr.sliceAt, Instr.slice, Sem.run_bind, run_und hu, Result.andThen_ok, conc, Option.map_none, Option.isSome_none, Bool.false_eq_true, if_false, Sem.run_ite, Sem.run_pure, ba_size, hb]
       congr 2
       exact ba_extract _ _ _ _ d1 d2
   ·
     rename_i el hu
     obtain ⟨s, hs, hc'⟩ := Option.bind_eq_some_iff.1 hc
     split at hc'
     · cases hc'
     · obtain rfl : QO.slL s xa xl xh xm = q := by simpa [Ev.q] using hc'
       have hx' : (q_slL1 s (xa.ev t) (optNN t xl) (optNN t xh) (optNN t xm)).val = some x := hx
       unfold q_slL1 at hx'
       split at hx'
       · rename_i rl rh rm hl hk hm
         have ol := h.optNN h2 hl
         have oh := h.optNN h3 hk
         have om := h.optNN h4 hm
         unfold slcV at hx'
         by_cases hg : (rm.isNone || rh.isSome) = true
         · rw [hg, cond_true] at hx'
           have h4' : rm = none ∨ rh.isSome := by
            cases rm with
            | none => exact .inl rfl
            | some z => right; simpa using hg
           have fin : ∀ (ad : Option Addr) (len cap : Nat), conc E (xa.ev t) = .slice ad len cap → rm.getD cap ≤ cap → rh.getD len ≤ rm.getD cap → rl.getD 0 ≤ rh.getD len →
             (Instr.sliceAt ty (conc E (xa.ev t)) (lo.map a.eval) (hi.map a.eval) (mx.map a.eval)).run P w =
              .ok (.slice (if rm.getD cap = rl.getD 0 then ad else ad.map (·.add (rl.getD 0 * s))) (rh.getD len - rl.getD 0) (rm.getD cap - rl.getD 0)) w := by
            intro ad len cap hcv d1 d2 d3
            rw [hcv]
            have hb := bounds_run (P := P) (w := w) (isS := true) ol oh om d1 d2 d3 h4'
            simp only [Instr.sliceAt, Instr.slice, Sem.run_bind, run_und hu, Result.andThen_ok, hb, run_sz hs, Sem.run_pure]
           split at hx'
           · rename_i b off len cap hv
             obtain ⟨d1, d2, d3, rfl⟩ := slc_l_val hx'
             rw [hv] at e
             refine ⟨?_, e.2⟩
             simp only [execOp, hop]
             refine val_run ?_
             rw [(h.ev h1).1, fin _ len cap (by rw [hv]; rfl) d1 d2 d3]
             simp only [conc, Option.map_some, Addr.add_eq]
             congr 2
             split
             · rename_i e0; simp [e0]
             · rename_i e0; simp [e0, Nat.add_assoc]
           · rename_i hv
             rw [beqN, beqN, beqN] at hx'
             obtain ⟨g1, g2, g3, g4⟩ := and3 (y := .f) hx'
             obtain rfl := Option.some.inj g4
             have g1 := of_decide_eq_true g1
             have g2 := of_decide_eq_true g2
             have g3 := of_decide_eq_true g3
             refine ⟨?_, trivial⟩
             simp only [execOp, hop]
             refine val_run ?_
             rw [e.1, fin none 0 0 (by rw [hv]; rfl) (by omega) (by omega) (by omega), g1, g2, g3]
             rfl
           · rename_i b off len el' kn hv
             rw [hv] at e
             split at hx'
             · unfold slc_u at hx'
               rw [bleN, bleN, beqN, bltN] at hx'
               obtain ⟨g1, g2, g3⟩ := and2 hx'
               have g1 : el' + rh.getD len ≤ kn := of_decide_eq_true g1
               have g2 : rl.getD 0 ≤ rh.getD len := of_decide_eq_true g2
               have hr := fin _ len _ (by rw [hv]; rfl) (by simp) (show rh.getD len ≤ kn - el' + E.κ b by omega) g2
               simp only [Option.getD_none] at hr
               by_cases hl0 : rl.getD 0 = 0
               · rw [decide_eq_true (p := rl.getD 0 = 0) hl0, cond_true] at g3
                 obtain rfl := mkU_val g3
                 refine ⟨?_, e.2⟩
                 simp only [execOp, hop]
                 refine val_run ?_
                 rw [(h.ev h1).1, hr, hl0]
                 simp [conc, Addr.add_eq]
               · rw [decide_eq_false (p := rl.getD 0 = 0) hl0, cond_false] at g3
                 by_cases hlt : el' + rl.getD 0 < kn
                 · rw [show Nat.add el' (rl.getD 0) = el' + rl.getD 0 from rfl, decide_eq_true hlt, cond_true] at g3
                   obtain rfl := mkU_val g3
                   refine ⟨?_, e.2⟩
                   simp only [execOp, hop]
                   refine val_run ?_
                   rw [(h.ev h1).1, hr]
                   have hne : ¬ (kn - el' + E.κ b = rl.getD 0) := by omega
                   simp only [conc, hne, if_false, Option.map_some, Addr.add_eq]
                   congr 2
                   · rw [Nat.add_assoc]; rfl
                   · show _ = kn - (el' + rl.getD 0) + E.κ b
                     omega
                 · rw [show Nat.add el' (rl.getD 0) = el' + rl.getD 0 from rfl, decide_eq_false hlt, cond_false, fN_eq] at g3
                   obtain rfl := Option.some.inj g3
                   refine ⟨?_, e.2⟩
                   simp only [execOp, hop]
                   refine val_run ?_
                   rw [(h.ev h1).1, hr]
                   have e1 : rh.getD len - rl.getD 0 = 0 := by omega
                   have e2 : kn - el' + E.κ b - rl.getD 0 = E.κ b := by omega
                   rw [e1, e2]
                   simp only [conc, Option.map_some, Addr.add_eq]
                   congr 2
                   by_cases hk0 : E.κ b = 0
                   · rw [if_pos (by omega), if_pos hk0, if_neg (show ¬ (Nat.add off (Nat.mul (rl.getD 0) s) < off) from Nat.not_lt.2 (Nat.le_add_right _ _))]
                   · rw [if_neg (by omega), if_neg hk0, Nat.add_assoc]; rfl
             · rename_i m
               unfold slc_um at hx'
               rw [bleN, bleN, bleN, beqN] at hx'
               obtain ⟨g1, g2, g3, g4⟩ := and3 (y := .f) hx'
               have g1 : el' + m ≤ kn := of_decide_eq_true g1
               have g2 : rh.getD len ≤ m := of_decide_eq_true g2
               have g3 : rl.getD 0 ≤ rh.getD len := of_decide_eq_true g3
               obtain rfl := mkL_val g4
               refine ⟨?_, e.2⟩
               simp only [execOp, hop]
               refine val_run ?_
               rw [(h.ev h1).1, fin _ len _ (by rw [hv]; rfl) (by simp; omega) (by simpa using g2) g3]
               simp only [conc, Option.getD_some, Option.map_some, Addr.add_eq]
               congr 2
               by_cases e0 : m = rl.getD 0
               · simp [e0]
               · simp [e0, Nat.add_assoc]
           · rename_i b o0 off hv
             rw [hv] at e
             rw [beqN, beqN] at hx'
             obtain ⟨g1, g2, g3, g4⟩ := and3 (y := .f) hx'
             obtain rfl := Option.some.inj g4
             have g2 := of_decide_eq_true g2
             have g3 := of_decide_eq_true g3
             have hrm : rm = none := by simpa using g1
             subst hrm
             refine ⟨?_, e.2⟩
             simp only [execOp, hop]
             refine val_run ?_
             rw [(h.ev h1).1, fin _ 0 _ (by rw [hv]; rfl) (by simp) (by rw [g2]; omega) (by rw [g3]; omega), g2, g3]
             simp [conc, Addr.add, hv]
           · cases hx'
         · rw [Bool.not_eq_true] at hg
           rw [hg] at hx'
           cases (show (none : Option V) = some x from hx')
       · cases hx'
   ·
     rename_i n el hu
     obtain ⟨s, hs, hc'⟩ := Option.bind_eq_some_iff.1 hc
     split at hc'
     · cases hc'
     · refine arr n s el hs ?_ (by simpa [Ev.q] using hc')
       intro ad lo' hi' mx' l k m hb
       simp only [Instr.sliceAt, Sem.run_bind, run_und hu, Result.andThen_ok, Instr.sureAddr, Sem.run_pure, hb, run_sz hs]
   ·
     rename_i ar hu
     split at hc
     · rename_i n el hua
       obtain ⟨s, hs, hc'⟩ := Option.bind_eq_some_iff.1 hc
       split at hc'
       · cases hc'
       · refine arr n s el hs ?_ (by simpa [Ev.q] using hc')
         intro ad lo' hi' mx' l k m hb
         simp only [Instr.sliceAt, Instr.slice, Sem.run_bind, run_und hu, run_und hua, Result.andThen_ok, asAddr, Sem.run_pure, hb, run_sz hs]
     · cases hc
   · cases hc
 · cases hc
end
theorem asMap_val {o : Option Blk} {g : List (V × V × Nat) → Nat → QR} {x : V} (h : (asMap o .f g).val = some x) : ∃ es k, o = some (.map es k) ∧ (g es k).val = some x := by
 cases o with
 | none => cases (show (none : Option V) = some x from h)
 | some b => cases b with
   | map es k => exact ⟨es, k, rfl, h⟩
   | _ => cases (show (none : Option V) = some x from h)
theorem ba_beq (n x m y : Nat) : (ba n x == ba m y) = decide (bl n x = bl m y) := by
 show ((ba n x).data == (ba m y).data) = _
 rw [Bool.eq_iff_iff, beq_iff_eq, decide_eq_true_iff]
 constructor
 · intro e
   have := congrArg Array.toList e
   simpa [ba_toList] using this
 · intro e; simp only [ba, e]
inductive KeyKind (P : Program) : TypeId → Sh → TypeDesc → Prop
 | bool (ty : TypeId) : KeyKind P ty .bool .bool
 | int (ty : TypeId) (k : IntKind) : KeyKind P ty .int (.int k)
 | str (ty : TypeId) : KeyKind P ty .str .string
 | ints (ty : TypeId) (fs : Array Field) (ks : List (Nat × Sh)) (hp : P.stoodInHeld ty = false) (h : intFs P fs.toList 0 = true) (hl : ks.length = fs.toList.length) : KeyKind P ty (.agg ks) (.struct fs)
section
variable {P : Program} {E : Env} {F : RO} {M : Mem} {c : Nat → Prop} {w : World} {t : T} {a : Act}
theorem keySh_kind {ty : TypeId} {sh : Sh} (h : keySh P ty = some sh) : ∃ d, P.underlying ty = some d ∧ KeyKind P ty sh d := by
 unfold keySh at h
 split at h
 · rename_i hu; obtain rfl := Option.some.inj h; exact ⟨_, hu, .bool _⟩
 · rename_i hu; obtain rfl := Option.some.inj h; exact ⟨_, hu, .int _ _⟩
 · rename_i hu; obtain rfl := Option.some.inj h; exact ⟨_, hu, .str _⟩
 · rename_i fs hu
   split at h
   · cases h
   · rename_i hc
     obtain rfl := Option.some.inj h
     simp only [Bool.or_eq_true, not_or, Bool.not_eq_true, Bool.not_eq_false'] at hc
     exact ⟨_, hu, .ints _ fs _ hc.1 hc.2 (by simp)⟩
 · cases h
theorem part_int {t : TypeId} {k : IntKind} (hu : P.underlying t = some (.int k)) {xs : List V} {o : Nat} {x : V} (hx : xs[o]? = some x) : (part t (concs E xs).toArray o).run P w = .ok (conc E x) w := by
 have : (concs E xs).toArray[o]? = some (conc E x) := by rw [concs_map]; simp [hx]
 simp [part, isAgg, run_und hu, this]
theorem intFs_cons {f : Field} {fs : List Field} {i : Nat} (h : intFs P (f :: fs) i = true) : (∃ k, P.underlying f.type = some (.int k)) ∧ f.offset = i ∧ f.name ≠ "_" ∧ intFs P fs (i + 1) = true := by
 rw [intFs, Bool.and_eq_true] at h
 obtain ⟨h1, h2⟩ := h
 split at h1
 · rename_i k hu
   simp only [Bool.and_eq_true, beq_iff_eq, bne_iff_ne] at h1
   exact ⟨⟨k, hu⟩, h1.2.1, h1.2.2, h2⟩
 · cases h1
theorem intsOk_at : ∀ {l : List V}, intsOk l = true → ∀ i, i < l.length → ∃ k n, l[i]? = some (.i k n)
 | [], _, i, hi => by simp at hi
 | .i k n :: r, h, 0, _ => ⟨k, n, rfl⟩
 | .i k n :: r, h, i + 1, hi => by
   have := intsOk_at (l := r) h i (by simpa using hi)
   simpa using this
 | .b _ :: _, h, _, _ | .s _ _ :: _, h, _, _ | .p _ _ :: _, h, _, _ | .p0 :: _, h, _, _ | .l _ _ _ _ :: _, h, _, _ | .u _ _ _ _ _ :: _, h, _, _ | .ue _ _ _ :: _, h, _, _ | .l0 :: _, h, _, _ | .m _ :: _, h, _, _ | .m0 :: _, h, _, _ | .f _ _ _ :: _, h, _, _ | .y _ :: _, h, _, _ | .f0 :: _, h, _, _ | .a _ _ :: _, h, _, _ | .a0 :: _, h, _, _ | .g _ :: _, h, _, _ | .t _ :: _, h, _, _ => by cases h
theorem intFs_mem : ∀ {fs : List Field} {i : Nat}, intFs P fs i = true → ∀ f ∈ fs, (∃ k, P.underlying f.type = some (.int k)) ∧ f.name ≠ "_" ∧ f.offset < i + fs.length
 | f :: fs, i, h, g, hg => by
   obtain ⟨h1, h2, h3, h4⟩ := intFs_cons h
   rcases List.mem_cons.1 hg with rfl | hg
   · exact ⟨h1, h3, by simp; omega⟩
   · obtain ⟨k1, k2, k3⟩ := intFs_mem h4 g hg
     exact ⟨k1, k2, by simp; omega⟩
theorem forIn_ok {α : Type} {g : α → PUnit → Sem (ForInStep PUnit)} : ∀ (fs : List α), (∀ f ∈ fs, (g f PUnit.unit).run P w = .ok (.yield PUnit.unit) w) → (forIn fs PUnit.unit g).run P w = .ok PUnit.unit w
 | [], _ => by simp
 | f :: fs, h => by
   rw [List.forIn_cons]
   simp only [Sem.run_bind, h f (by simp), Result.andThen_ok]
   exact forIn_ok fs fun g hg => h g (by simp [hg])
theorem keyOk_agg {ks : List (Nat × Sh)} {v : V} (h : keyOk (.agg ks) v = true) : ∃ l, v = .g l ∧ l.length = ks.length ∧ intsOk l = true := by
 unfold keyOk at h
 dsimp only at h
 split at h
 · rename_i l
   rw [Bool.and_eq_true, beqN] at h
   exact ⟨l, rfl, of_decide_eq_true h.1, h.2⟩
 · cases h
theorem checkKey_plain {ty : TypeId} {d : TypeDesc} (e : Bool) (n : Nat) (hu : P.underlying ty = some d) (h1 : ∀ x, d ≠ .interface x) (h2 : ∀ x y, d ≠ .array x y) (h3 : ∀ x, d ≠ .struct x) (v : Value) : (Instr.checkKey e (n + 1) ty v).run P w = .ok () w := by
 cases d <;> first | exact absurd rfl (h1 _) | exact absurd rfl (h2 _ _) | exact absurd rfl (h3 _) | (simp only [Instr.checkKey, Sem.run_bind, run_und hu, Result.andThen_ok]; rfl)
theorem checkKey_run {ty : TypeId} {sh : Sh} {d : TypeDesc} (hu : P.underlying ty = some d) (hk : KeyKind P ty sh d) {v : V} (hok : keyOk sh v = true) (e : Bool) (n : Nat) : (Instr.checkKey e (n + 2) ty (conc E v)).run P w = .ok () w := by
 cases hk with
 | ints fs ks hp h hl =>
   obtain ⟨l, rfl, h1, h2⟩ := keyOk_agg hok
   simp only [Instr.checkKey, Sem.run_bind, run_und hu, Result.andThen_ok, conc]
   rw [← Array.forIn_toList, forIn_ok]
   · rfl
   · intro f hf
     obtain ⟨⟨k, hfu⟩, hn, hof⟩ := intFs_mem h f hf
     obtain ⟨k', m, hx⟩ := intsOk_at h2 f.offset (by omega)
     have hpt := part_int (P := P) (w := w) (E := E) hfu hx
     simp only [hn, ne_eq, not_false_eq_true, if_true, Sem.run_bind, hpt, Result.andThen_ok, run_und hfu, Sem.run_pure]
 | bool => exact checkKey_plain e (n + 1) hu (by simp) (by simp) (by simp) _
 | int => exact checkKey_plain e (n + 1) hu (by simp) (by simp) (by simp) _
 | str => exact checkKey_plain e (n + 1) hu (by simp) (by simp) (by simp) _
theorem keyEq_now {ty : TypeId} {sh : Sh} {d : TypeDesc} (hk : KeyKind P ty sh d) (hd : ∀ fs, d ≠ .struct fs) {x y : V} {r : Bool} (h : keyEq sh x y = some r) : Instr.sameNow d (conc E x) (conc E y) = some r := by
 cases hk with
 | ints fs => exact absurd rfl (hd fs)
 | bool =>
   cases x <;> cases y <;> first | (simp [keyEq] at h; done) | skip
   rename_i x y
   simp only [keyEq] at h
   simp only [conc, Instr.sameNow, h]
 | int k =>
   cases x <;> cases y <;> first | (simp [keyEq] at h; done) | skip
   rename_i k1 m k2 n
   simp only [keyEq, sameK_iff] at h
   by_cases hk : k1 = k2
   · rw [decide_eq_true hk, cond_true, eqI_iff] at h
     simp only [conc, Instr.sameNow, hk, if_true]
     rw [← h]
     congr 1
   · rw [decide_eq_false hk] at h; cases h
 | str =>
   cases x <;> cases y <;> first | (simp [keyEq] at h; done) | skip
   rename_i n x m y
   simp only [keyEq, strEq_iff] at h
   simp only [conc, Instr.sameNow]
   rw [← h, ba_beq]
theorem findK_cons {sh : Sh} {k k' v : V} {b : Nat} {es : List (V × V × Nat)} {i : Nat} {r : Option (Nat × V)} (h : findK sh k ((k', v, b) :: es) i = some r) : (keyEq sh k k' = some true ∧ r = some (i, v)) ∨ (keyEq sh k k' = some false ∧ findK sh k es (i + 1) = some r) := by
 rw [findK] at h
 split at h
 · rename_i hk'; exact .inl ⟨hk', (Option.some.inj h).symm⟩
 · rename_i hk'; exact .inr ⟨hk', h⟩
 · cases h
theorem findK_nil {sh : Sh} {k : V} {i : Nat} {r : Option (Nat × V)} (h : findK sh k [] i = some r) : keyOk sh k = true ∧ r = none := by
 have h' : (bif keyOk sh k then some none else none) = some r := h
 cases hk : keyOk sh k with
 | false => rw [hk] at h'; cases h'
 | true => rw [hk] at h'; exact ⟨rfl, (Option.some.inj h').symm⟩
theorem intsEq_ok : ∀ {a b : List V} {r : Bool}, intsEq a b = some r → intsOk a = true
 | [], _, _, _ => rfl
 | x :: l, [], r, h => by cases x <;> cases h
 | x :: l, y :: l', r, h => by
   cases x with
   | i k m =>
     cases y with
     | i k' n =>
       have h' : (bif sameK k k' then (match intsEq l l' with
        | some e => some (eqI m n && e)
        | none => none) else none) = some r := h
       cases hk : sameK k k' with
       | false => rw [hk] at h'; cases h'
       | true =>
         rw [hk, cond_true] at h'
         cases hq : intsEq l l' with
         | none => rw [hq] at h'; cases h'
         | some q => exact intsEq_ok (a := l) hq
     | _ => cases h
   | _ => cases h
theorem keyEq_ok {sh : Sh} {k k' : V} {r : Bool} (h : keyEq sh k k' = some r) : keyOk sh k = true := by
 cases sh with
 | agg ks =>
   cases k with
   | g l =>
     cases k' with
     | g l' =>
       have h' : (bif Nat.beq l.length ks.length then intsEq l l' else none) = some r := h
       cases hl : Nat.beq l.length ks.length with
       | false => rw [hl] at h'; cases h'
       | true =>
         rw [hl, cond_true] at h'
         show (Nat.beq l.length ks.length && intsOk l) = true
         rw [hl, intsEq_ok h']; rfl
     | _ => cases h
   | _ => cases k' <;> cases h
 | _ => rfl
theorem findK_ok {sh : Sh} {k : V} : ∀ {es : List (V × V × Nat)} {i : Nat} {r : Option (Nat × V)}, findK sh k es i = some r → keyOk sh k = true
 | [], i, r, h => (findK_nil h).1
 | (k', v, b) :: es, i, r, h => by
   rcases findK_cons h with ⟨h1, _⟩ | ⟨h1, _⟩
   · exact keyEq_ok h1
   · exact keyEq_ok h1
theorem findK_at {sh : Sh} {k : V} : ∀ (es : List (V × V × Nat)) (i : Nat) (r : Option (Nat × V)), findK sh k es i = some r →
  (∀ p, r = some p → i ≤ p.1 ∧ ∃ k' b, es[p.1 - i]? = some (k', p.2, b) ∧ keyEq sh k k' = some true)
 | [], i, r, h => by
   obtain ⟨_, rfl⟩ := findK_nil h
   exact fun p hp => by cases hp
 | (k', v, b) :: es, i, r, h => by
   rcases findK_cons h with ⟨hk', rfl⟩ | ⟨hk', h⟩
   · intro p hp
     obtain rfl := Option.some.inj hp
     exact ⟨Nat.le_refl _, k', b, by simp, hk'⟩
   · intro p hp
     obtain ⟨h1, k2, b2, h2, h3⟩ := findK_at es (i + 1) r h p hp
     refine ⟨by omega, k2, b2, ?_, h3⟩
     rw [show p.1 - i = (p.1 - (i + 1)) + 1 by omega, List.getElem?_cons_succ]; exact h2
theorem findK_now {ty : TypeId} {sh : Sh} {d : TypeDesc} (hk : KeyKind P ty sh d) (hd : ∀ fs, d ≠ .struct fs) {k : V} : ∀ (es : List (V × V × Nat)) (i : Nat) (r : Option (Nat × V)), findK sh k es i = some r →
  Instr.findNow d (conc E k) (es.map (entry E)) i = some (r.map fun p => (p.1, conc E p.2))
 | [], i, r, h => by
   obtain ⟨_, rfl⟩ := findK_nil h
   rfl
 | (k', v, b) :: es, i, r, h => by
   rcases findK_cons h with ⟨hk', rfl⟩ | ⟨hk', h⟩
   · simp only [List.map_cons, Instr.findNow, entry, keyEq_now hk hd hk', Option.map_some]
   · simp only [List.map_cons, Instr.findNow, entry, keyEq_now hk hd hk']
     exact findK_now hk hd es (i + 1) r h
theorem intsEq_cons {k : IntKind} {x : Int} {l b : List V} {r : Bool} (h : intsEq (.i k x :: l) b = some r) : ∃ y l' q, b = .i k y :: l' ∧ intsEq l l' = some q ∧ r = (eqI x y && q) := by
 cases b with
 | nil => cases h
 | cons y l' =>
   cases y with
   | i k' n =>
     have h' : (bif sameK k k' then (match intsEq l l' with
      | some e => some (eqI x n && e)
      | none => none) else none) = some r := h
     cases hk : sameK k k' with
     | false => rw [hk] at h'; cases h'
     | true =>
       rw [hk, cond_true] at h'
       rw [sameK_iff] at hk
       obtain rfl := of_decide_eq_true hk
       cases hq : intsEq l l' with
       | none => rw [hq] at h'; cases h'
       | some q => rw [hq] at h'; exact ⟨n, l', q, rfl, hq, (Option.some.inj h').symm⟩
   | _ => cases h
theorem eqInts_run {xs ys : List V} : ∀ (fs : List Field) (i : Nat) (r : Bool), intFs P fs i = true → intsEq (xs.drop i) (ys.drop i) = some r → xs.length = i + fs.length → ∀ d, (Op.eqFields (d + 1) (concs E xs).toArray (concs E ys).toArray fs).run P w = .ok r w
 | [], i, r, _, h, hl, d => by
   have : xs.drop i = [] := List.drop_eq_nil_of_le (by simp at hl; omega)
   rw [this] at h
   cases hy : ys.drop i with
   | nil =>
     rw [hy] at h
     obtain rfl := Option.some.inj h
     rfl
   | cons y l => rw [hy] at h; cases h
 | f :: fs, i, r, hf, h, hl, d => by
   obtain ⟨⟨k, hu⟩, ho, hn, hr⟩ := intFs_cons hf
   have hi : i < xs.length := by simp at hl; omega
   obtain ⟨k1, m, hx⟩ := intsOk_at (intsEq_ok h) 0 (by simp; omega)
   have hx' : xs[i]? = some (.i k1 m) := by simpa using hx
   have hdx : xs.drop i = .i k1 m :: xs.drop (i + 1) := by
    rw [List.drop_eq_getElem_cons hi]
    congr 1
    rw [List.getElem?_eq_getElem hi] at hx'
    exact Option.some.inj hx'
   rw [hdx] at h
   obtain ⟨n, l', q, hy, hq, rfl⟩ := intsEq_cons h
   have hy' : ys[i]? = some (.i k1 n) := by
    have : (ys.drop i)[0]? = some (.i k1 n) := by rw [hy]; rfl
    simpa using this
   have hdy : ys.drop (i + 1) = l' := by
    rw [← List.drop_drop, hy]; rfl
   rw [← hdy] at hq
   have p1 := part_int (P := P) (w := w) (E := E) hu hx'
   have p2 := part_int (P := P) (w := w) (E := E) hu hy'
   have e1 : (Op.equalIn (d + 1) f.type (conc E (.i k1 m)) (conc E (.i k1 n))).run P w = .ok (eqI m n) w := by
    simp [Op.equalIn, run_und hu, conc, eqI_iff]
    rfl
   simp only [Op.eqFields, hn, ne_eq, not_false_eq_true, if_true, Sem.run_bind, ho, p1, p2, Result.andThen_ok, e1, Sem.run_ite]
   cases he : eqI m n with
   | true =>
     simp only [Bool.not_true, Bool.false_eq_true, if_false, Bool.true_and]
     exact eqInts_run fs (i + 1) q hr hq (by simp at hl ⊢; omega) d
   | false => simp only [Bool.not_false, if_true, Sem.run_pure, Bool.false_and]
theorem findAsk_run {ty : TypeId} {fs : Array Field} {ks : List (Nat × Sh)} (hu : P.underlying ty = some (.struct fs)) (hp : P.stoodInHeld ty = false) (hf : intFs P fs.toList 0 = true) (hl : ks.length = fs.toList.length) {k : V} : ∀ (es : List (V × V × Nat)) (i : Nat) (r : Option (Nat × V)), findK (.agg ks) k es i = some r →
  (Instr.findAsking ty (conc E k) (es.map (entry E)) i).run P w = .ok (r.map fun p => (p.1, conc E p.2)) w
 | [], i, r, h => by
   obtain ⟨_, rfl⟩ := findK_nil h
   rfl
 | (k', v, b) :: es, i, r, h => by
   have hfo : P.fieldsOf ty = fs := by simp [Program.fieldsOf, hu]
   have heq : ∀ q, keyEq (.agg ks) k k' = some q → (Op.equal ty (conc E k) (conc E k')).run P w = .ok q w := by
    intro q hq
    cases k with
    | g l =>
      cases k' with
      | g l' =>
        have h' : (bif Nat.beq l.length ks.length then intsEq l l' else none) = some q := hq
        cases hll : Nat.beq l.length ks.length with
        | false => rw [hll] at h'; cases h'
        | true =>
          rw [hll, cond_true] at h'
          have hlen : l.length = ks.length := Nat.eq_of_beq_eq_true hll
          show (Op.equalIn (9999 + 1) ty (.agg (concs E l).toArray) (.agg (concs E l').toArray)).run P w = _
          rw [run_equalIn_struct (P := P) w 9999 ty _ _ (by rw [hfo]; exact hu) hp, hfo]
          exact eqInts_run fs.toList 0 q hf (by simpa using h') (by omega) 9998
      | _ => cases hq
    | _ => cases k' <;> cases hq
   rcases findK_cons h with ⟨hk', rfl⟩ | ⟨hk', h⟩
   · simp only [List.map_cons, Instr.findAsking, entry, Sem.run_bind, heq _ hk', Result.andThen_ok, if_true, Sem.run_pure, Option.map_some]
   · simp only [List.map_cons, Instr.findAsking, entry, Sem.run_bind, heq _ hk', Result.andThen_ok, Bool.false_eq_true, if_false]
     exact findAsk_run hu hp hf hl es (i + 1) r h
theorem findKey_run {ty : TypeId} {sh : Sh} {d : TypeDesc} (hu : P.underlying ty = some d) (hk : KeyKind P ty sh d) {k : V} {es : List (V × V × Nat)} {r : Option (Nat × V)} (h : findK sh k es 0 = some r) :
  (Instr.findKey ty (conc E k) (es.map (entry E))).run P w = .ok (r.map fun p => (p.1, conc E p.2)) w := by
 by_cases hd : ∃ fs, d = .struct fs
 · obtain ⟨fs, rfl⟩ := hd
   cases hk with
   | ints _ ks hp hf hl =>
     cases es with
     | nil =>
       obtain ⟨_, rfl⟩ := findK_nil h
       simp only [Instr.findKey, Sem.run_bind, run_und hu, Result.andThen_ok, List.map_nil, Instr.findNow, Sem.run_pure, Option.map_none]
     | cons e es =>
       have hn : Instr.findNow (.struct fs) (conc E k) ((e :: es).map (entry E)) 0 = none := by
        simp only [List.map_cons, Instr.findNow, Instr.sameNow]
       simp only [Instr.findKey, Sem.run_bind, run_und hu, Result.andThen_ok, hn]
       exact findAsk_run hu hp hf hl (e :: es) 0 r h
 · have hd' : ∀ fs, d ≠ .struct fs := fun fs e => hd ⟨fs, e⟩
   simp only [Instr.findKey, Sem.run_bind, run_und hu, Result.andThen_ok, (findK_now hk hd' es 0 r h), Sem.run_pure]
theorem zeroV_run {ty : TypeId} {z : V} (h : zeroV P ty = some z) : (zeroValue ty).run P w = .ok (conc E z) w ∧ bd c z := by
 unfold zeroV at h
 obtain ⟨v, hv, hz⟩ := Option.bind_eq_some_iff.1 h
 obtain ⟨i, hi, hv'⟩ := Option.bind_eq_some_iff.1 hv
 have := toV_conc E c _ v z hz
 refine ⟨?_, this.2⟩
 simp [zeroValue, typeInfo, hi, hv', this.1]
def MapS (es : List (V × V × Nat)) (k : Nat) (es' : List (V × V × Nat)) (k' : Nat) : Prop := (ordd k = true ∧ es' = es ∧ k' = k) ∨ (ordd k = false ∧ KeysI es ∧ (kvE es').Perm (kvE es))
theorem Cx.map (h : Cx P E F M c w t a) {b : Nat} {es : List (V × V × Nat)} {k : Nat} (hb : look F M b = some (.map es k)) : ∃ es' k', w.heap[E.ρ b]? = some (.map (es'.map (entry E)).toArray k') ∧ (∀ e ∈ es, bd c e.1 ∧ bd c e.2.1) ∧ MapS es k es' k' := by
 obtain ⟨_, hv, o, ho, hR⟩ := h.rel.has _ _ hb
 rcases hR with ⟨h1, rfl⟩ | ⟨h1, h2, es', k', rfl, h4⟩
 · exact ⟨es, k, ho, hv, .inl ⟨h1, rfl, rfl⟩⟩
 · exact ⟨es', k', ho, hv, .inr ⟨h1, h2, h4⟩⟩
theorem Cx.mapO (h : Cx P E F M c w t a) {b : Nat} {es : List (V × V × Nat)} {k : Nat} (hb : look F M b = some (.map es k)) (hk : ordd k = true) : w.heap[E.ρ b]? = some (.map (es.map (entry E)).toArray k) ∧ ∀ e ∈ es, bd c e.1 ∧ bd c e.2.1 := by
 obtain ⟨es', k', h1, h2, ⟨_, rfl, rfl⟩ | ⟨h3, _⟩⟩ := h.map hb
 · exact ⟨h1, h2⟩
 · rw [hk] at h3; cases h3
theorem MapS.len {es es' : List (V × V × Nat)} {k k' : Nat} (h : MapS es k es' k') : es'.length = es.length := by
 rcases h with ⟨_, rfl, _⟩ | ⟨_, _, h⟩
 · rfl
 · have := h.length_eq
   unfold kvE at this
   rwa [List.length_map, List.length_map] at this
theorem keyEq_int {sh : Sh} {k : V} {κ : IntKind} {n : Int} {r : Bool} (h : keyEq sh k (.i κ n) = some r) : ∃ m, sh = .int ∧ k = .i κ m ∧ r = decide (m = n) := by
 unfold keyEq at h
 split at h
 · rename_i e; cases e
 · rename_i k0 m0 k1 n1 e
   injection e with e1 e2
   subst e1 e2
   rw [sameK_iff] at h
   by_cases hk : k0 = κ
   · rw [decide_eq_true hk, cond_true, eqI_iff] at h
     exact ⟨m0, rfl, by rw [hk], (Option.some.inj h).symm⟩
   · rw [decide_eq_false hk] at h; cases h
 · rename_i e; cases e
 · rename_i e; cases e
 · cases h
theorem keyEq_int' (κ : IntKind) (m n : Int) : keyEq .int (.i κ m) (.i κ n) = some (decide (m = n)) := by
 show (bif sameK κ κ then some (eqI m n) else none) = _
 rw [sameK_iff, decide_eq_true rfl, cond_true, eqI_iff]
theorem findK_int (κ : IntKind) (m : Int) : ∀ (es : List (V × V × Nat)) (i : Nat), (∀ e ∈ es, ∃ n, e.1 = .i κ n) →
  (findK .int (.i κ m) es i = some none ∧ ∀ v b, (.i κ m, v, b) ∉ es) ∨ ∃ j v, findK .int (.i κ m) es i = some (some (j, v))
 | [], i, _ => .inl ⟨rfl, fun _ _ h => by cases h⟩
 | (k', v, b) :: es, i, h => by
   obtain ⟨n, hn⟩ := h _ (List.mem_cons_self ..)
   have hn : k' = .i κ n := hn
   subst hn
   by_cases hmn : m = n
   · refine .inr ⟨i, v, ?_⟩
     rw [findK, keyEq_int', decide_eq_true hmn]
   · rw [findK, keyEq_int', decide_eq_false hmn]
     rcases findK_int κ m es (i + 1) (fun e he => h e (List.mem_cons_of_mem _ he)) with ⟨h1, h2⟩ | h1
     · refine .inl ⟨h1, fun v' b' hm => ?_⟩
       rcases List.mem_cons.1 hm with e | e
       · injection e with e1 _
         injection e1 with _ e2
         exact hmn e2
       · exact h2 v' b' e
     · exact .inr h1
theorem keys_kv (es : List (V × V × Nat)) : (kvE es).map (·.1) = es.map (·.1) := by
 unfold kvE; rw [List.map_map]; rfl
theorem KeysI.perm {es es' : List (V × V × Nat)} (h : KeysI es) (hp : (kvE es').Perm (kvE es)) : KeysI es' := by
 obtain ⟨⟨κ, h1⟩, h2⟩ := h
 refine ⟨⟨κ, perm_sub hp (Q := fun a _ => ∃ n, a = .i κ n) h1⟩, ?_⟩
 rw [← keys_kv] at h2 ⊢
 exact ((hp.map (·.1)).nodup_iff).2 h2
theorem KeysI.uniq {es : List (V × V × Nat)} (h : KeysI es) {k v v' : V} {b b' : Nat} (h1 : (k, v, b) ∈ es) (h2 : (k, v', b') ∈ es) : v = v' := by
 have hn := h.2
 clear h
 induction es with
 | nil => cases h1
 | cons e es ih =>
   rw [List.map_cons, List.nodup_cons] at hn
   rcases List.mem_cons.1 h1 with e1 | e1
   · rcases List.mem_cons.1 h2 with e2 | e2
     · rw [← e1] at e2; injection e2 with _ e3; injection e3 with e4 _; exact e4.symm
     · exact absurd (List.mem_map.2 ⟨_, e2, by rw [← e1]⟩) hn.1
   · rcases List.mem_cons.1 h2 with e2 | e2
     · exact absurd (List.mem_map.2 ⟨_, e1, by rw [← e2]⟩) hn.1
     · exact ih e1 e2 hn.2
theorem MapS.find {es es' : List (V × V × Nat)} {k k' : Nat} (h : MapS es k es' k') {sh : Sh} {x : V} {r : Option (Nat × V)} (hf : findK sh x es 0 = some r) : ∃ r', findK sh x es' 0 = some r' ∧ r'.map (·.2) = r.map (·.2) := by
 rcases h with ⟨_, rfl, _⟩ | ⟨_, hK, hp⟩
 · exact ⟨r, hf, rfl⟩
 · cases es with
   | nil =>
     have : es' = [] := by
      have := hp.length_eq
      unfold kvE at this
      rw [List.length_map, List.length_map] at this
      exact List.length_eq_zero_iff.1 this
     subst this
     exact ⟨r, hf, rfl⟩
   | cons e0 es =>
     obtain ⟨k0, v0, b0⟩ := e0
     have hK' := hK.perm hp
     obtain ⟨⟨κ, hκ⟩, _⟩ := id hK
     obtain ⟨n0, hn0⟩ := hκ _ (List.mem_cons_self ..)
     have hn0 : k0 = .i κ n0 := hn0
     obtain ⟨m, rfl, rfl⟩ : ∃ m, sh = .int ∧ x = .i κ m := by
      rw [hn0] at hf
      rcases findK_cons hf with ⟨h1, _⟩ | ⟨h1, _⟩
      · obtain ⟨m, e1, e2, _⟩ := keyEq_int h1; exact ⟨m, e1, e2⟩
      · obtain ⟨m, e1, e2, _⟩ := keyEq_int h1; exact ⟨m, e1, e2⟩
     have hκ' := perm_sub hp (Q := fun a _ => ∃ n, a = .i κ n) hκ
     have at' : ∀ {l : List (V × V × Nat)} {j : Nat} {v : V}, (∀ e ∈ l, ∃ n, e.1 = .i κ n) → findK .int (.i κ m) l 0 = some (some (j, v)) → ∃ b, (.i κ m, v, b) ∈ l := by
      intro l j v hl h
      obtain ⟨_, k1, b1, h2, h3⟩ := findK_at l 0 _ h (j, v) rfl
      have hm := List.mem_of_getElem? h2
      obtain ⟨n, hn⟩ := hl _ hm
      have hn : k1 = .i κ n := hn
      subst hn
      obtain ⟨m', _, e2, e3⟩ := keyEq_int h3
      injection e2 with _ e4
      have e5 : m' = n := of_decide_eq_true e3.symm
      exact ⟨b1, by rw [e4, e5]; exact hm⟩
     rcases findK_int κ m es' 0 hκ' with ⟨h1, h2⟩ | ⟨j, v, h1⟩
     · cases r with
       | none => exact ⟨none, h1, rfl⟩
       | some p =>
         obtain ⟨b, hb⟩ := at' hκ hf
         obtain ⟨b', hb'⟩ := kv_mem.1 (hp.mem_iff.2 (kv_mem.2 ⟨b, hb⟩))
         exact absurd hb' (h2 _ _)
     · obtain ⟨b', hb'⟩ := at' hκ' h1
       obtain ⟨b, hb⟩ := kv_mem.1 (hp.mem_iff.1 (kv_mem.2 ⟨b', hb'⟩))
       cases r with
       | none =>
         rcases findK_int κ m _ 0 hκ with ⟨_, h3⟩ | ⟨j', v', h3⟩
         · exact absurd hb (h3 _ _)
         · rw [h3] at hf; cases hf
       | some p =>
         obtain ⟨b2, hb2⟩ := at' (j := p.1) (v := p.2) hκ hf
         exact ⟨some (j, v), h1, by rw [Option.map_some, Option.map_some, hK.uniq hb hb2]⟩
theorem run_getObj_map {r : Nat} {es : Array MapEntry} {k : Nat} (h : w.heap[r]? = some (.map es k)) : (getObj r).run P w = .ok (.map es k) w := by
 simp [getObj, Sem.run, h]
theorem q_lookup (h : Cx P E F M c w t a) {o : Oper} {ty : TypeId} {y i : Operand} {ok : Bool} (hop : o.op = .lookup ty y i ok) {q : QO} (hc : compOp P o.op = some (.q q)) {x : V} (hx : (qop q F M t).val = some x) : QOk P E c w a o x := by
 rw [hop] at hc
 simp only [compOp] at hc
 split at hc
 · rename_i kt et xa xi hu h1 h2
   split at hc
   · rename_i sh z hks hz
     obtain rfl : QO.lk sh z ok xa xi = q := by simpa [Ev.q] using hc
     obtain ⟨d, hd, hkk⟩ := keySh_kind hks
     have e1 := h.ev h1
     have e2 := h.ev h2
     have hz' := zeroV_run (E := E) (c := c) (w := w) hz
     have hx' : (q_lk sh z ok xa xi F M t).val = some x := hx
     unfold q_lk at hx'
     split at hx'
     · rename_i hv
       cases hko : keyOk sh (xi.ev t) with
       | false => rw [hko] at hx'; cases hx'
       | true =>
       rw [hko, cond_true] at hx'
       have hck : ∀ b, (Instr.checkKey b 10000 kt (conc E (xi.ev t))).run P w = .ok () w := fun b => checkKey_run hd hkk hko b 9998
       obtain rfl := Option.some.inj hx'
       rw [hv] at e1
       refine ⟨?_, by cases ok <;> simp [bd, bds, hz'.2]⟩
       simp only [execOp, hop]
       refine val_run ?_
       rw [e1.1, e2.1]
       simp only [Instr.lookup, conc, Sem.run_bind, run_und hu, Result.andThen_ok, Sem.run_pure, hck, Instr.findKey, run_und hd, Instr.findNow, hz'.1]
       cases ok <;> simp [Instr.findNow, hz'.1, conc, concs]
     · rename_i b hv
       obtain ⟨es, k, hl, hg⟩ := asMap_val hx'
       obtain ⟨es', k', ho, hbd, hms⟩ := h.map hl
       rw [hv] at e1
       unfold q_lkr at hg
       split at hg
       · rename_i j v hf
         obtain rfl := Option.some.inj hg
         obtain ⟨r', hf', hr'⟩ := hms.find hf
         obtain ⟨j', rfl⟩ : ∃ j', r' = some (j', v) := by
          cases r' with
          | none => cases hr'
          | some p => exact ⟨p.1, congrArg some (Prod.ext rfl (Option.some.inj hr'))⟩
         have hfk := findKey_run (P := P) (w := w) (E := E) hd hkk hf'
         have hck : ∀ b, (Instr.checkKey b 10000 kt (conc E (xi.ev t))).run P w = .ok () w := fun b => checkKey_run hd hkk (findK_ok hf) b 9998
         obtain ⟨_, k', b', hm, _⟩ := findK_at es 0 _ hf (j, v) rfl
         have hbv : bd c v := (hbd _ (List.mem_of_getElem? hm)).2
         refine ⟨?_, by cases ok <;> simp [bd, bds, hbv]⟩
         simp only [execOp, hop]
         refine val_run ?_
         rw [e1.1, e2.1]
         simp only [Instr.lookup, conc, Sem.run_bind, run_und hu, Result.andThen_ok, run_getObj_map ho, Sem.run_pure, hck, List.toList_toArray, hfk, Option.map_some]
         cases ok <;> simp [conc, concs]
       · rename_i hf
         obtain rfl := Option.some.inj hg
         obtain ⟨r', hf', hr'⟩ := hms.find hf
         obtain rfl : r' = none := by cases r' with
          | none => rfl
          | some p => cases hr'
         have hfk := findKey_run (P := P) (w := w) (E := E) hd hkk hf'
         have hck : ∀ b, (Instr.checkKey b 10000 kt (conc E (xi.ev t))).run P w = .ok () w := fun b => checkKey_run hd hkk (findK_ok hf) b 9998
         refine ⟨?_, by cases ok <;> simp [bd, bds, hz'.2]⟩
         simp only [execOp, hop]
         refine val_run ?_
         rw [e1.1, e2.1]
         simp only [Instr.lookup, conc, Sem.run_bind, run_und hu, Result.andThen_ok, run_getObj_map ho, Sem.run_pure, hck, List.toList_toArray, hfk, Option.map_none, hz'.1]
         cases ok <;> simp [conc, concs]
       · cases hg
     · cases hx'
   · cases hc
 · cases hc
theorem q_extract (h : Cx P E F M c w t a) {o : Oper} {y : Operand} {i : Nat} (hop : o.op = .extract y i) {q : QO} (hc : compOp P o.op = some (.q q)) {x : V} (hx : (qop q F M t).val = some x) : QOk P E c w a o x := by
 rw [hop] at hc
 obtain ⟨z, hz, rfl⟩ := compX_bind (f := fun x => .ex i x) hc
 have e := h.ev hz
 have hx' : (q_ex i z F M t).val = some x := hx
 unfold q_ex at hx'
 cases hv : z.ev t with
 | t vs =>
   rw [hv] at hx' e
   have hr := qr_val hx'
   rw [nth_eq] at hr
   refine ⟨?_, bds_get (l := vs) e.2 hr⟩
   simp only [execOp, hop]
   refine val_run ?_
   rw [e.1]
   simp [Instr.extract, conc, concs_get hr]
 | _ => rw [hv] at hx'; cases (show (none : Option V) = some x from hx')
theorem q_typeAssert (h : Cx P E F M c w t a) {o : Oper} {y : Operand} {xt ty : TypeId} {ok : Bool} (hop : o.op = .typeAssert y xt ty ok) {q : QO} (hc : compOp P o.op = some (.q q)) {x : V} (hx : (qop q F M t).val = some x) : QOk P E c w a o x := by
 rw [hop] at hc
 simp only [compOp] at hc
 split at hc
 · cases hc
 · rename_i d z zv hd hu hz hzv
   obtain rfl : QO.ta ty zv ok z = q := by simpa [Ev.q] using hc
   have e := h.ev hz
   have hz' := zeroV_run (E := E) (c := c) (w := w) hzv
   have hw := run_und (w := w) hu
   have hx' : (q_ta ty zv ok z F M t).val = some x := hx
   unfold q_ta at hx'
   split at hx'
   · rename_i ty' v hv
     rw [hv] at e
     rw [beqN] at hx'
     by_cases hty : ty' = ty
     · rw [decide_eq_true hty, cond_true] at hx'
       obtain rfl := Option.some.inj hx'
       have hbv : bd c v := e.2
       refine ⟨?_, by cases ok <;> simp [bd, bds, hbv]⟩
       simp only [execOp, hop]
       refine val_run ?_
       rw [e.1]
       cases d <;> first
        | exact (hd _ rfl).elim
        | (cases ok <;> simp [Instr.typeAssert, hw, conc, concs, hty])
     · rw [decide_eq_false hty, cond_false] at hx'
       cases ok with
       | false => cases (show (none : Option V) = some x from hx')
       | true =>
         obtain rfl := Option.some.inj hx'
         refine ⟨?_, by simp [bd, bds, hz'.2]⟩
         simp only [execOp, hop]
         refine val_run ?_
         rw [e.1]
         cases d <;> first
          | exact (hd _ rfl).elim
          | simp [Instr.typeAssert, hw, conc, concs, hty, hz'.1]
   · rename_i hv
     rw [hv] at e
     cases ok with
     | false => cases (show (none : Option V) = some x from hx')
     | true =>
       obtain rfl := Option.some.inj hx'
       refine ⟨?_, by simp [bd, bds, hz'.2]⟩
       simp only [execOp, hop]
       refine val_run ?_
       rw [e.1]
       cases d <;> first
        | exact (hd _ rfl).elim
        | simp [Instr.typeAssert, hw, conc, concs, hz'.1]
   · cases hx'
 · cases hc
end
theorem flatten_cells (E : Env) (v : V) : (conc E v).cells = (concs E (flatten v)).toArray := by
 cases v <;> rfl
theorem flatten_bd {c : Nat → Prop} {v : V} (h : bd c v) : bds c (flatten v) := by
 cases v <;> first | exact ⟨h, trivial⟩ | exact h
theorem replL_spec {α : Type} : ∀ (l : List α) (o : Nat) (vs r : List α), replL l o vs = some r → o + vs.length ≤ l.length ∧ r.length = l.length ∧ ∀ j, r[j]? = if o ≤ j ∧ j < o + vs.length then vs[j - o]? else l[j]?
 | l, 0, [], r, h => by
   have : r = l := by rw [replL.eq_def] at h; exact (Option.some.inj h).symm
   subst this
   refine ⟨by simp, rfl, fun j => by rw [if_neg (by simp)]⟩
 | [], 0, v :: vs, r, h => by rw [replL.eq_def] at h; cases h
 | x :: l, 0, v :: vs, r, h => by
   rw [replL.eq_def] at h
   dsimp only at h
   split at h
   · rename_i t' ht
     obtain rfl := Option.some.inj h
     obtain ⟨h1, h2, h3⟩ := replL_spec l 0 vs t' ht
     refine ⟨by simp at h1 ⊢; omega, by simp [h2], fun j => ?_⟩
     cases j with
     | zero => simp
     | succ j =>
       rw [List.getElem?_cons_succ, h3 j]
       simp only [Nat.zero_le, true_and, Nat.sub_zero, List.length_cons, List.getElem?_cons_succ, Nat.zero_add]
       by_cases hj : j < vs.length
       · rw [if_pos hj, if_pos (by omega)]
       · rw [if_neg hj, if_neg (by omega)]
   · cases h
 | [], o + 1, vs, r, h => by rw [replL.eq_def] at h; cases vs <;> cases h
 | x :: l, o + 1, vs, r, h => by
   have h' : (match replL l o vs with | some t => some (x :: t) | none => none) = some r := by
    rw [replL.eq_def] at h; cases vs <;> exact h
   split at h'
   · rename_i t' ht
     obtain rfl := Option.some.inj h'
     obtain ⟨h1, h2, h3⟩ := replL_spec l o vs t' ht
     refine ⟨by simp; omega, by simp [h2], fun j => ?_⟩
     cases j with
     | zero => rw [if_neg (by omega)]; rfl
     | succ j =>
       rw [List.getElem?_cons_succ, List.getElem?_cons_succ, h3 j, show j + 1 - (o + 1) = j - o by omega]
       by_cases hj : o ≤ j ∧ j < o + vs.length
       · rw [if_pos hj, if_pos (by omega)]
       · rw [if_neg hj, if_neg (by omega)]
   · cases h'
theorem foldSet (off : Nat) : ∀ (vs : List Value) (k : Nat) (cs : Array Value),
  ((vs.zipIdx k).foldl (fun cs (p : Value × Nat) => cs.setIfInBounds (off + p.2) p.1) cs).size = cs.size ∧
  ∀ j, j < cs.size → ((vs.zipIdx k).foldl (fun cs (p : Value × Nat) => cs.setIfInBounds (off + p.2) p.1) cs)[j]? = if off + k ≤ j ∧ j < off + k + vs.length then vs[j - (off + k)]? else cs[j]?
 | [], k, cs => ⟨rfl, fun j _ => by simp only [List.zipIdx_nil, List.foldl_nil]; rw [if_neg (by simp)]⟩
 | v :: vs, k, cs => by
   simp only [List.zipIdx_cons, List.foldl_cons]
   have ih := foldSet off vs (k + 1) (cs.setIfInBounds (off + k) v)
   refine ⟨by rw [ih.1]; simp, fun j hj => ?_⟩
   rw [ih.2 j (by simpa using hj)]
   by_cases h1 : off + (k + 1) ≤ j ∧ j < off + (k + 1) + vs.length
   · rw [if_pos h1, if_pos (by simp; omega), show j - (off + k) = (j - (off + (k + 1))) + 1 by omega, List.getElem?_cons_succ]
   · rw [if_neg h1]
     by_cases h2 : j = off + k
     · subst h2
       rw [if_pos (by simp), Nat.sub_self, List.getElem?_cons_zero]
       simp [hj]
     · rw [if_neg (by simp; omega), Array.getElem?_setIfInBounds_ne (by omega)]
section
variable {P : Program} {E : Env} {F : RO} {M : Mem} {c : Nat → Prop} {w : World} {t : T} {a : Act}
theorem fill_step {cs r : List V} {o : Nat} {vs : List V} (h : replL cs o vs = some r) :
  (((concs E vs).toArray).zipIdx.foldl (fun cs (p : Value × Nat) => cs.setIfInBounds (o + p.2) p.1) (concs E cs).toArray) = (concs E r).toArray := by
 obtain ⟨h1, h2, h3⟩ := replL_spec _ _ _ _ h
 have hz : ((concs E vs).toArray).zipIdx.foldl (fun cs (p : Value × Nat) => cs.setIfInBounds (o + p.2) p.1) (concs E cs).toArray =
   ((concs E vs).zipIdx 0).foldl (fun cs (p : Value × Nat) => cs.setIfInBounds (o + p.2) p.1) (concs E cs).toArray := by
  simp
 rw [hz]
 have hf := foldSet o (concs E vs) 0 (concs E cs).toArray
 apply Array.ext_getElem?
 intro j
 by_cases hj : j < cs.length
 · rw [hf.2 j (by simp [concs_map, hj])]
   simp only [List.getElem?_toArray, concs_map, List.getElem?_map, List.length_map, Nat.add_zero]
   rw [h3 j]
   by_cases hc : o ≤ j ∧ j < o + vs.length
   · rw [if_pos hc, if_pos hc]
   · rw [if_neg hc, if_neg hc]
 · rw [Array.getElem?_eq_none (by rw [hf.1]; simp [concs_map]; omega), Array.getElem?_eq_none (by simp [concs_map]; omega)]
theorem fill_run (h : Cx P E F M c w t a) {place : Nat → Option (Nat × Nat)} : ∀ {ps : List (Nat × Operand)} {qs : List (Nat × Nat × X)} {cs r : List V}, compParts place ps = some qs → fillParts t cs qs = some r → bds c cs →
  Instr.fill place (concs E cs).toArray (ps.map fun p => (p.1, a.eval p.2)) = some (concs E r).toArray ∧ bds c r
 | [], qs, cs, r, hc, hf, hb => by
   obtain rfl := Option.some.inj hc
   obtain rfl := Option.some.inj hf
   exact ⟨rfl, hb⟩
 | (i, y) :: ps, qs, cs, r, hc, hf, hb => by
   rw [compParts] at hc
   split at hc
   · rename_i o s x l h1 h2 h3
     obtain rfl := Option.some.inj hc
     rw [fillParts, beqN] at hf
     have e := h.ev h2
     by_cases hs : (flatten (x.ev t)).length = s
     · rw [decide_eq_true hs, cond_true] at hf
       split at hf
       · rename_i cs' hr
         obtain ⟨g1, g2, g3⟩ := replL_spec _ _ _ _ hr
         have hb' : bds c cs' := by
          refine (bds_iff c cs').2 fun v hv => ?_
          obtain ⟨j, hj⟩ := List.mem_iff_getElem?.1 hv
          rw [g3 j] at hj
          split at hj
          · exact bds_get (flatten_bd e.2) hj
          · exact bds_get hb hj
         have ih := fill_run h h3 hf hb'
         refine ⟨?_, ih.2⟩
         have hcells : (a.eval y).cells = (concs E (flatten (x.ev t))).toArray := by rw [e.1, flatten_cells]
         simp only [List.map_cons, Instr.fill, h1, hcells]
         have c1 : (concs E (flatten (x.ev t))).toArray.size = s := by simp [concs_map, hs]
         have c2 : ¬ (o + s > (concs E cs).toArray.size) := by simp [concs_map]; omega
         rw [c1]
         simp only [ne_eq, not_true_eq_false, decide_false, Bool.false_or, decide_eq_true_eq, c2, if_false]
         rw [fill_step hr]
         exact ih.1
       · cases hf
     · rw [decide_eq_false hs] at hf; cases hf
   · cases hc
theorem fieldSizes_run : ∀ {fs : List Field} {ps : List (Nat × Nat)}, fieldSizes P fs = some ps → (fs.mapM fun f => do pure (f.offset, ← Go.sizeOf f.type) : Sem (List (Nat × Nat))).run P w = .ok ps w
 | [], ps, h => by obtain rfl := Option.some.inj h; simp
 | f :: fs, ps, h => by
   rw [fieldSizes] at h
   split at h
   · rename_i s l h1 h2
     obtain rfl := Option.some.inj h
     simp only [List.mapM_cons, Sem.run_bind, run_sz h1, Result.andThen_ok, Sem.run_pure, fieldSizes_run h2]
   · cases h
theorem cellsOfV_eq (v : V) : cellsOfV v = flatten v := by cases v <;> rfl
theorem q_build (h : Cx P E F M c w t a) {o : Oper} {ty : TypeId} {parts : Array (Nat × Operand)} (hop : o.op = .build ty parts) {q : QO} (hc : compOp P o.op = some (.q q)) {x : V} (hx : (qop q F M t).val = some x) : QOk P E c w a o x := by
 rw [hop] at hc
 simp only [compOp] at hc
 have hparts : (parts.map fun (p : Nat × Operand) => (p.1, a.eval p.2)).toList = parts.toList.map fun p => (p.1, a.eval p.2) := by simp
 split at hc
 · rename_i z fs hz hu
   split at hc
   · rename_i ps hps
     obtain ⟨qs, hqs, e⟩ := Option.bind_eq_some_iff.1 hc
     obtain rfl : QO.bld (cellsOfV z) qs = q := by simpa [Ev.q] using e
     obtain ⟨r, hr, rfl⟩ := qg_val (show (qg (fillParts t (cellsOfV z) qs)).val = some x from hx)
     have hz' := zeroV_run (E := E) (c := c) (w := w) hz
     have hf := fill_run h hqs hr (by rw [cellsOfV_eq]; exact flatten_bd hz'.2)
     refine ⟨?_, hf.2⟩
     simp only [execOp, hop]
     refine val_run ?_
     have hm : (fs.mapM fun f => do pure (f.offset, ← Go.sizeOf f.type) : Sem (Array (Nat × Nat))).run P w = .ok ps.toArray w := by
      rw [Array.mapM_eq_mapM_toList]
      simp only [Sem.run_map, fieldSizes_run hps, Result.andThen_ok]
     have hcz : (conc E z).cells = (concs E (cellsOfV z)).toArray := by rw [flatten_cells, cellsOfV_eq]
     have hpl : (fun (i : Nat) => ps.toArray[i]?) = fun (i : Nat) => ps[i]? := by funext i; simp
     simp only [Instr.build, Sem.run_bind, hz'.1, Result.andThen_ok, run_und hu, hm, hparts, hcz, hpl, hf.1, Sem.run_pure, conc]
   · cases hc
 · rename_i z n el hz hu
   split at hc
   · rename_i s hs
     obtain ⟨qs, hqs, e⟩ := Option.bind_eq_some_iff.1 hc
     obtain rfl : QO.bld (cellsOfV z) qs = q := by simpa [Ev.q] using e
     obtain ⟨r, hr, rfl⟩ := qg_val (show (qg (fillParts t (cellsOfV z) qs)).val = some x from hx)
     have hz' := zeroV_run (E := E) (c := c) (w := w) hz
     have hf := fill_run h hqs hr (by rw [cellsOfV_eq]; exact flatten_bd hz'.2)
     refine ⟨?_, hf.2⟩
     simp only [execOp, hop]
     refine val_run ?_
     have hcz : (conc E z).cells = (concs E (cellsOfV z)).toArray := by rw [flatten_cells, cellsOfV_eq]
     simp only [Instr.build, Sem.run_bind, hz'.1, Result.andThen_ok, run_und hu, run_sz hs, hparts, hcz, hf.1, Sem.run_pure, conc]
   · cases hc
 · cases hc
end
section
variable {P : Program} {E : Env} {F : RO} {M : Mem} {c : Nat → Prop} {w : World} {t : T} {a : Act}
theorem shape_of (h : Cx P E F M c w t a) {b : Nat} (hp : plainBlk F M b = true) : ∃ ty n, w.shape? (E.ρ b) = some (ty, n) ∧ E.β b ≤ n ∧ (∀ o, E.β b ≤ o → w.frozen? ⟨E.ρ b, o, none⟩ = false) ∧ (look F M b).isSome := by
 unfold plainBlk at hp
 split at hp
 · rename_i ty n ex fz str d cs hl
   obtain ⟨arr, fr, ho, hr⟩ := h.cells hl
   rw [beqN] at hp
   simp only [Bool.and_eq_true, decide_eq_true_eq, Bool.not_eq_true'] at hp
   obtain ⟨⟨rfl, rfl⟩, _⟩ := hp
   have hle := hr.le
   refine ⟨ty, arr.size, by simp [World.shape?, ho], by omega, fun o hob => ?_, by rw [hl]; rfl⟩
   simp only [World.frozen?, ho]
   rw [Bool.and_eq_false_iff]
   simp only [decide_eq_false_iff_not]
   rcases hr.plain rfl with e | ⟨hz, e⟩ <;> omega
 · cases hp
theorem ptrEq_run (h : Cx P E F M c w t a) {b o b' o' : Nat} {r : Bool} (hr : ptrEq F M b o b' o' = some r) :
  (sameAddr ⟨E.ρ b, E.β b + o, none⟩ ⟨E.ρ b', E.β b' + o', none⟩).run P w = .ok r w := by
 unfold ptrEq at hr
 rw [beqN] at hr
 by_cases hb : b = b'
 · subst hb
   rw [decide_eq_true rfl, cond_true] at hr
   obtain rfl := Option.some.inj hr
   rw [beqN]
   by_cases ho : o = o'
   · subst ho; simp [sameAddr]
   · have : ¬ (E.β b + o = E.β b + o') := by omega
     simp [sameAddr, ho, this]
 · rw [decide_eq_false hb, cond_false] at hr
   by_cases hp : (plainBlk F M b && plainBlk F M b') = true
   · rw [hp, cond_true] at hr
     obtain rfl := Option.some.inj hr
     rw [Bool.and_eq_true] at hp
     obtain ⟨ty, n, hs, hn, hf, hl⟩ := shape_of h hp.1
     obtain ⟨ty', n', hs', hn', hf', hl'⟩ := shape_of h hp.2
     have hne : ¬ (E.ρ b = E.ρ b') := fun e => hb (h.rel.inj b b' hl hl' e)
     have f1 := hf (E.β b + o) (by omega)
     have f2 := hf' (E.β b' + o') (by omega)
     have f3 := hf n hn
     have f4 := hf' n' hn'
     simp [sameAddr, hne, f1, f2, noView, viewAt, hs, hs', mayBeOne, stringish, f3, f4]
   · rw [Bool.not_eq_true] at hp
     rw [hp] at hr; cases hr
inductive ShRel (P : Program) (ty : TypeId) : Sh → Prop
 | bool : P.underlying ty = some .bool → ShRel P ty .bool
 | int (k : IntKind) : P.underlying ty = some (.int k) → ShRel P ty .int
 | str : P.underlying ty = some .string → ShRel P ty .str
 | ptr (e s : Nat) : P.underlying ty = some (.pointer e) → szOf P e = some (s + 1) → ShRel P ty .ptr
 | slice (e : Nat) : P.underlying ty = some (.slice e) → ShRel P ty .slice
 | map (k e : Nat) : P.underlying ty = some (.map k e) → ShRel P ty .map
 | func (p r : Array TypeId) (v : Bool) : P.underlying ty = some (.func p r v) → ShRel P ty .func
 | iface (ms : Array (String × TypeId)) : P.underlying ty = some (.interface ms) → ShRel P ty .iface
theorem shOf1_rel {ty : TypeId} {sh : Sh} (h : shOf1 P ty = some sh) : ShRel P ty sh := by
 unfold shOf1 at h
 split at h
 · rename_i hu; obtain rfl := Option.some.inj h; exact .bool hu
 · rename_i hu; obtain rfl := Option.some.inj h; exact .int _ hu
 · rename_i hu; obtain rfl := Option.some.inj h; exact .str hu
 · rename_i e hu
   split at h
   · cases h
   · rename_i hs
     obtain rfl := Option.some.inj h
     cases hz : szOf P e with
     | none => rw [hz] at hs; simp at hs
     | some k => cases k with
       | zero => rw [hz] at hs; simp at hs
       | succ k => exact .ptr e k hu hz
 · rename_i hu; obtain rfl := Option.some.inj h; exact .slice _ hu
 · rename_i hu; obtain rfl := Option.some.inj h; exact .map _ _ hu
 · rename_i hu; obtain rfl := Option.some.inj h; exact .func _ _ _ hu
 · rename_i hu; obtain rfl := Option.some.inj h; exact .iface _ hu
 · cases h
theorem nilL_conc {v : V} {b : Bool} (h : nilL v = some b) : if b then conc E v = .slice none 0 0 else ∃ ad n k, conc E v = .slice (some ad) n k := by
 cases v <;> first | cases (show (none : Option Bool) = some b from h) | (obtain rfl := Option.some.inj h; first | rfl | exact ⟨_, _, _, rfl⟩)
theorem nilM_conc {v : V} {b : Bool} (h : nilM v = some b) : if b then conc E v = .map none else ∃ r, conc E v = .map (some r) := by
 cases v <;> first | cases (show (none : Option Bool) = some b from h) | (obtain rfl := Option.some.inj h; first | rfl | exact ⟨_, rfl⟩)
theorem nilF_conc {v : V} {b : Bool} (h : nilF v = some b) : if b then conc E v = .nilFunc else ∃ f l k, conc E v = .func f l k := by
 cases v <;> first | cases (show (none : Option Bool) = some b from h) | (obtain rfl := Option.some.inj h; first | rfl | exact ⟨_, _, _, rfl⟩)
theorem nilA_conc {v : V} {b : Bool} (h : nilA v = some b) : if b then v = .a0 else ∃ ty z, v = .a ty z := by
 cases v <;> first | cases (show (none : Option Bool) = some b from h) | (obtain rfl := Option.some.inj h; first | rfl | exact ⟨_, _, rfl⟩)
theorem nilEq_cases {lit : Bool} {p q : Option Bool} {r : Bool} (h : nilEq lit p q = some r) :
  (p = some true ∧ q = some true ∧ lit = true ∧ r = true) ∨ (p = some true ∧ q = some false ∧ r = false) ∨ (p = some false ∧ q = some true ∧ r = false) := by
 unfold nilEq at h
 split at h
 · cases lit with
   | false => cases h
   | true => exact .inl ⟨rfl, rfl, rfl, (Option.some.inj h).symm⟩
 · exact .inr (.inl ⟨rfl, rfl, (Option.some.inj h).symm⟩)
 · exact .inr (.inr ⟨rfl, rfl, (Option.some.inj h).symm⟩)
 · cases h
theorem eq1_run (h : Cx P E F M c w t a) {ty : TypeId} {sh : Sh} (hs : ShRel P ty sh) {lit : Bool} {x y : V} {r : Bool} (hr : eq1 F M sh lit x y = some r) (d : Nat) :
  (Op.equalIn (d + 1) ty (conc E x) (conc E y)).run P w = .ok r w := by
 cases hs with
 | bool hu =>
   have hr' : eqB x y = some r := hr
   unfold eqB at hr'
   split at hr'
   · obtain rfl := Option.some.inj hr'
     simp [Op.equalIn, run_und hu, conc]
   · cases hr'
 | int k hu =>
   have hr' : eqN x y = some r := hr
   unfold eqN at hr'
   split at hr'
   · rename_i k1 m k2 n
     rw [sameK_iff] at hr'
     by_cases hk : k1 = k2
     · rw [decide_eq_true hk, cond_true, eqI_iff] at hr'
       obtain rfl := Option.some.inj hr'
       simp [Op.equalIn, run_und hu, conc, hk]
       rw [Bool.eq_iff_iff]; simp
     · rw [decide_eq_false hk] at hr'; cases hr'
   · cases hr'
 | str hu =>
   have hr' : eqS x y = some r := hr
   unfold eqS at hr'
   split at hr'
   · obtain rfl := Option.some.inj hr'
     simp [Op.equalIn, run_und hu, conc, ba_beq, strEq_iff]
   · cases hr'
 | ptr e s hu hz =>
   have hr' : eqP F M x y = some r := hr
   unfold eqP at hr'
   split at hr'
   · obtain rfl := Option.some.inj hr'
     simp [Op.equalIn, run_und hu, conc]
   · obtain rfl := Option.some.inj hr'
     simp [Op.equalIn, run_und hu, conc]
   · obtain rfl := Option.some.inj hr'
     simp [Op.equalIn, run_und hu, conc]
   · have hp := ptrEq_run h hr'
     simp [Op.equalIn, run_und hu, conc, run_sz hz, hp]
   · cases hr'
 | slice e hu =>
   rcases nilEq_cases (show nilEq true (nilL x) (nilL y) = some r from hr) with ⟨h1, h2, _, rfl⟩ | ⟨h1, h2, rfl⟩ | ⟨h1, h2, rfl⟩
   · have e1 := nilL_conc (E := E) h1
     have e2 := nilL_conc (E := E) h2
     simp only [if_true] at e1 e2
     rw [e1, e2]; simp [Op.equalIn, run_und hu]
   · have e1 := nilL_conc (E := E) h1
     have e2 := nilL_conc (E := E) h2
     simp only [if_true, Bool.false_eq_true, if_false] at e1 e2
     obtain ⟨_, _, _, e2⟩ := e2
     rw [e1, e2]; simp [Op.equalIn, run_und hu]
   · have e1 := nilL_conc (E := E) h1
     have e2 := nilL_conc (E := E) h2
     simp only [if_true, Bool.false_eq_true, if_false] at e1 e2
     obtain ⟨_, _, _, e1⟩ := e1
     rw [e1, e2]; simp [Op.equalIn, run_und hu]
 | map k e hu =>
   rcases nilEq_cases (show nilEq true (nilM x) (nilM y) = some r from hr) with ⟨h1, h2, _, rfl⟩ | ⟨h1, h2, rfl⟩ | ⟨h1, h2, rfl⟩
   · have e1 := nilM_conc (E := E) h1
     have e2 := nilM_conc (E := E) h2
     simp only [if_true] at e1 e2
     rw [e1, e2]; simp [Op.equalIn, run_und hu]
   · have e1 := nilM_conc (E := E) h1
     have e2 := nilM_conc (E := E) h2
     simp only [if_true, Bool.false_eq_true, if_false] at e1 e2
     obtain ⟨_, e2⟩ := e2
     rw [e1, e2]; simp [Op.equalIn, run_und hu]
   · have e1 := nilM_conc (E := E) h1
     have e2 := nilM_conc (E := E) h2
     simp only [if_true, Bool.false_eq_true, if_false] at e1 e2
     obtain ⟨_, e1⟩ := e1
     rw [e1, e2]; simp [Op.equalIn, run_und hu]
 | func p r' v hu =>
   rcases nilEq_cases (show nilEq true (nilF x) (nilF y) = some r from hr) with ⟨h1, h2, _, rfl⟩ | ⟨h1, h2, rfl⟩ | ⟨h1, h2, rfl⟩
   · have e1 := nilF_conc (E := E) h1
     have e2 := nilF_conc (E := E) h2
     simp only [if_true] at e1 e2
     rw [e1, e2]; simp [Op.equalIn, run_und hu]
   · have e1 := nilF_conc (E := E) h1
     have e2 := nilF_conc (E := E) h2
     simp only [if_true, Bool.false_eq_true, if_false] at e1 e2
     obtain ⟨_, _, _, e2⟩ := e2
     rw [e1, e2]; simp [Op.equalIn, run_und hu]
   · have e1 := nilF_conc (E := E) h1
     have e2 := nilF_conc (E := E) h2
     simp only [if_true, Bool.false_eq_true, if_false] at e1 e2
     obtain ⟨_, _, _, e1⟩ := e1
     rw [e1, e2]; simp [Op.equalIn, run_und hu]
 | iface ms hu =>
   rcases nilEq_cases (show nilEq lit (nilA x) (nilA y) = some r from hr) with ⟨h1, h2, _, rfl⟩ | ⟨h1, h2, rfl⟩ | ⟨h1, h2, rfl⟩
   · have e1 := nilA_conc h1
     have e2 := nilA_conc h2
     simp only [if_true] at e1 e2
     rw [e1, e2]; simp [Op.equalIn, run_und hu, conc]
   · have e1 := nilA_conc h1
     have e2 := nilA_conc h2
     simp only [if_true, Bool.false_eq_true, if_false] at e1 e2
     obtain ⟨_, _, e2⟩ := e2
     rw [e1, e2]; simp [Op.equalIn, run_und hu, conc]
   · have e1 := nilA_conc h1
     have e2 := nilA_conc h2
     simp only [if_true, Bool.false_eq_true, if_false] at e1 e2
     obtain ⟨_, _, e1⟩ := e1
     rw [e1, e2]; simp [Op.equalIn, run_und hu, conc]
end
section
variable {P : Program} {E : Env} {F : RO} {M : Mem} {c : Nat → Prop} {w : World} {t : T} {a : Act}
theorem ShRel.noAgg {ty : TypeId} {sh : Sh} (h : ShRel P ty sh) : isAg P ty = some false := by
 cases h with
 | ptr e s hu _ => simp only [isAg, hu]
 | _ => rename_i hu; simp only [isAg, hu]
theorem eqAll_run (h : Cx P E F M c w t a) {xs ys : List V} : ∀ {fs : List Field} {ks : List (Nat × Sh)} {r : Bool}, shFields P fs = some ks → eqAll F M xs ys ks = some r → ∀ d, (Op.eqFields (d + 1) (concs E xs).toArray (concs E ys).toArray fs).run P w = .ok r w
 | [], ks, r, hs, hr, d => by
   obtain rfl := Option.some.inj hs
   obtain rfl := Option.some.inj hr
   rfl
 | f :: fs, ks, r, hs, hr, d => by
   rw [shFields] at hs
   split at hs
   · rename_i sh l h1 h2
     split at hs
     · rename_i hn
       obtain rfl := Option.some.inj hs
       have hsh := shOf1_rel h1
       rw [eqAll] at hr
       split at hr
       · rename_i x y hx hy
         rw [nth_eq] at hx hy
         have hag := hsh.noAgg
         have p1 := part_one (P := P) (w := w) (E := E) hag hx
         have p2 := part_one (P := P) (w := w) (E := E) hag hy
         split at hr
         · rename_i he
           have e1 := eq1_run h hsh he d
           simp only [Op.eqFields, hn, ne_eq, not_false_eq_true, if_true, Sem.run_bind, p1, p2, Result.andThen_ok, e1, Sem.run_ite, Bool.not_true, Bool.false_eq_true, if_false]
           exact eqAll_run h h2 hr d
         · rename_i hne
           have e1 := eq1_run h hsh hr d
           cases r with
           | true => exact absurd hr hne
           | false => simp only [Op.eqFields, hn, ne_eq, not_false_eq_true, if_true, Sem.run_bind, p1, p2, Result.andThen_ok, e1, Sem.run_ite, Bool.not_false, if_true, Sem.run_pure]
       · cases hr
     · cases hs
   · cases hs
theorem binOp_eql {ty : TypeId} {x y : Value} (h1 : ∀ k m k' n, ¬ (x = .int k m ∧ y = .int k' n)) (h2 : ∀ m n, ¬ (x = .string m ∧ y = .string n)) (h3 : ∀ k m, x ≠ .float k m) (h4 : ∀ k m n, x ≠ .complex k m n) :
  (binOp .eql ty x y) = (do pure (.bool (← Op.equal ty x y))) ∧ (binOp .neq ty x y) = (do pure (.bool (!(← Op.equal ty x y)))) := by
 cases x <;> first
  | exact absurd rfl (h3 _ _)
  | exact absurd rfl (h4 _ _ _)
  | exact ⟨rfl, rfl⟩
  | (cases y <;> first
    | exact (h1 _ _ _ _ ⟨rfl, rfl⟩).elim
    | exact (h2 _ _ ⟨rfl, rfl⟩).elim
    | exact ⟨rfl, rfl⟩)
def Odd : Value → Prop
 | .int _ _ | .string _ | .float _ _ | .complex _ _ _ => False
 | _ => True
theorem eq_run {ty : TypeId} {A B : Operand} {x y : Value} {r : Bool} (hodd : Odd x) (hg : ∀ op, (eqGuard op ty A B x y).run P w = .ok () w) (he : (Op.equalIn 10000 ty x y).run P w = .ok r w) (neg : Bool) :
  (eqGuard (if neg then .neq else .eql) ty A B x y >>= fun _ => binOp (if neg then .neq else .eql) ty x y).run P w = .ok (.bool (if neg then !r else r)) w := by
 have hb := binOp_eql (ty := ty) (x := x) (y := y) (fun k m k' n e => by rw [e.1] at hodd; exact hodd) (fun m n e => by rw [e.1] at hodd; exact hodd) (fun k m e => by rw [e] at hodd; exact hodd) (fun k m n e => by rw [e] at hodd; exact hodd)
 have he' : (Op.equal ty x y).run P w = .ok r w := he
 simp only [Sem.run_bind, hg, Result.andThen_ok]
 cases neg with
 | true => simp [hb.2, he']
 | false => simp [hb.1, he']
theorem eqGuard_other {op : BinOp} {ty : TypeId} {A B : Operand} {x y : Value} (h1 : ¬ (x = .nilIface ∧ y = .nilIface)) (h2 : ∀ l m, ¬ (x = .agg l ∧ y = .agg m)) : (eqGuard op ty A B x y).run P w = .ok () w := by
 unfold eqGuard
 split
 all_goals simp only [Bool.not_true, Bool.false_eq_true, if_false, Bool.not_false, if_true]
 all_goals try rfl
 all_goals
  split
  · exact absurd ⟨rfl, rfl⟩ h1
  · exact absurd ⟨rfl, rfl⟩ (h2 _ _)
  · rfl
theorem eqGuard_nil {op : BinOp} {ty : TypeId} {A B : Operand} (h : (isConstO A || isConstO B) = true) : (eqGuard op ty A B .nilIface .nilIface).run P w = .ok () w := by
 cases A <;> cases B <;> first | (simp [isConstO] at h; done) | (cases op <;> simp [eqGuard])
theorem memN_eq (k : Nat) : ∀ l : List Nat, memN k l = l.contains k
 | [] => rfl
 | h :: r => by
   have : memN k (h :: r) = (bif Nat.beq h k then true else memN k r) := rfl
   rw [this, beqN, memN_eq k r, List.contains_cons]
   by_cases e : h = k
   · subst e; simp
   · rw [decide_eq_false e, cond_false, show (k == h) = false by simp; exact fun e' => e e'.symm]; rfl
theorem intTy_of {L : List Nat} (hL : L = intTys P) {t : Nat} (h : memN t L = true) : ∃ i k, P.info? t = some i ∧ i.comparable = true ∧ P.underlying t = some (.int k) := by
 rw [memN_eq, List.contains_iff_mem, hL] at h
 unfold intTys at h
 rw [List.mem_filter] at h
 have h2 := h.2
 unfold intTy at h2
 split at h2
 · rename_i i k h3 h4
   exact ⟨i, k, h3, h2, h4⟩
 · cases h2
theorem eqIf_run {ty : TypeId} {ms : Array (String × TypeId)} (hu : P.underlying ty = some (.interface ms)) {x y : V} {r : Bool} (hr : eqIf (intTys P) x y = some r) (d : Nat) :
  (Op.equalIn (d + 2) ty (conc E x) (conc E y)).run P w = .ok r w := by
 unfold eqIf at hr
 split at hr
 · rename_i t1 v1 t2 v2
   rw [beqN] at hr
   by_cases ht : t1 = t2
   · subst ht
     rw [decide_eq_true rfl, cond_true] at hr
     by_cases hm : memN t1 (intTys P) = true
     · rw [hm, cond_true] at hr
       obtain ⟨i, k, h1, h2, h3⟩ := intTy_of rfl hm
       unfold eqN at hr
       split at hr
       · rename_i k1 m k2 n
         rw [sameK_iff] at hr
         by_cases hk : k1 = k2
         · rw [decide_eq_true hk, cond_true, eqI_iff] at hr
           obtain rfl := Option.some.inj hr
           subst hk
           have inner : (Op.equalIn (d + 1) t1 (.int k1 m) (.int k1 n)).run P w = .ok (m == n) w := by
            simp [Op.equalIn, run_und h3]
           have hti : (typeInfo t1).run P w = .ok i w := by simp [typeInfo, h1]
           have hmn : decide (m = n) = (m == n) := by rw [Bool.eq_iff_iff]; simp
           rw [hmn]
           simp only [conc]
           rw [Op.equalIn.eq_2]
           simp only [Sem.run_bind, run_und hu, Result.andThen_ok, ne_eq, not_true_eq_false, if_false, hti, h2, Bool.not_true, Bool.false_eq_true, inner]
         · rw [decide_eq_false hk] at hr; cases hr
       · cases hr
     · rw [Bool.not_eq_true] at hm
       rw [hm] at hr; cases hr
   · rw [decide_eq_false ht, cond_false] at hr
     obtain rfl := Option.some.inj hr
     simp [Op.equalIn, run_und hu, conc, ht]
 · rcases nilEq_cases hr with ⟨_, _, h3, _⟩ | ⟨h1, h2, rfl⟩ | ⟨h1, h2, rfl⟩
   · cases h3
   · have e1 := nilA_conc h1
     have e2 := nilA_conc h2
     simp only [if_true, Bool.false_eq_true, if_false] at e1 e2
     obtain ⟨_, _, e2⟩ := e2
     rw [e1, e2]; simp [Op.equalIn, run_und hu, conc]
   · have e1 := nilA_conc h1
     have e2 := nilA_conc h2
     simp only [if_true, Bool.false_eq_true, if_false] at e1 e2
     obtain ⟨_, _, e1⟩ := e1
     rw [e1, e2]; simp [Op.equalIn, run_und hu, conc]
theorem eqIf_kind {L : List Nat} {x y : V} {r : Bool} (hr : eqIf L x y = some r) : (x = .a0 ∨ ∃ t v, x = .a t v) ∧ ¬ (x = .a0 ∧ y = .a0) := by
 unfold eqIf at hr
 split at hr
 · exact ⟨.inr ⟨_, _, rfl⟩, fun h => by cases h.1⟩
 · rcases nilEq_cases hr with ⟨_, _, h3, _⟩ | ⟨h1, h2, rfl⟩ | ⟨h1, h2, rfl⟩
   · cases h3
   · have e1 := nilA_conc h1
     have e2 := nilA_conc h2
     simp only [if_true, Bool.false_eq_true, if_false] at e1 e2
     obtain ⟨_, _, e2⟩ := e2
     exact ⟨.inl e1, fun h => by rw [e2] at h; cases h.2⟩
   · have e1 := nilA_conc h1
     simp only [Bool.false_eq_true, if_false] at e1
     obtain ⟨_, _, e1⟩ := e1
     exact ⟨.inr ⟨_, _, e1⟩, fun h => by rw [e1] at h; cases h.1⟩
theorem eqIf_kind2 {L : List Nat} {x y : V} {r : Bool} (hr : eqIf L x y = some r) : y = .a0 ∨ ∃ t v, y = .a t v := by
 unfold eqIf at hr
 split at hr
 · exact .inr ⟨_, _, rfl⟩
 · rcases nilEq_cases hr with ⟨_, _, h3, _⟩ | ⟨h1, h2, rfl⟩ | ⟨h1, h2, rfl⟩
   · cases h3
   · have e2 := nilA_conc h2
     simp only [Bool.false_eq_true, if_false] at e2
     exact .inr e2
   · have e2 := nilA_conc h2
     simp only [if_true] at e2
     exact .inl e2
theorem ifSh_cases (P : Program) (lit : Bool) (sh : Sh) : ifSh P lit sh = sh ∨ (sh = .iface ∧ lit = false ∧ ifSh P lit sh = .ifs (intTys P)) := by
 unfold ifSh
 split
 · exact .inr ⟨rfl, rfl, rfl⟩
 · exact .inl rfl
theorem q_eq_ok (h : Cx P E F M c w t a) {o : Oper} {op : BinOp} {ty ty' : TypeId} {y z : Operand} (neg : Bool) (hop : o.op = .binOp (if neg then .neq else .eql) ty y z ty') {sh : Sh} (hsh : shOf P ty = some sh) {d : TypeDesc} (hu : P.underlying ty = some d) (hd1 : ∀ k, d ≠ .int k) (hd2 : d ≠ .string)
  {xa xb : X} (h1 : compX y = some xa) (h2 : compX z = some xb) {x : V} (hx : (qop (.eq neg (ifSh P (isConstO y || isConstO z) sh) (isConstO y || isConstO z) xa xb) F M t).val = some x) : QOk P E c w a o x := by
 have e1 := h.ev h1
 have e2 := h.ev h2
 have hx' : (q_eqr neg (eqV F M (ifSh P (isConstO y || isConstO z) sh) (isConstO y || isConstO z) (xa.ev t) (xb.ev t))).val = some x := hx
 unfold q_eqr at hx'
 split at hx'
 · rename_i r hr
   obtain rfl := cmpB hx'
   refine ⟨?_, trivial⟩
   have fin : ∀ (hodd : Odd (conc E (xa.ev t))), (∀ op, (eqGuard op ty y z (conc E (xa.ev t)) (conc E (xb.ev t))).run P w = .ok () w) → (Op.equalIn 10000 ty (conc E (xa.ev t)) (conc E (xb.ev t))).run P w = .ok r w →
     (execOp a.eval o).run P w = .ok (.value (conc E (.b (bif neg then !r else r)))) w := by
    intro hodd hg he
    simp only [execOp, hop]
    refine val_run ?_
    rw [e1.1, e2.1, eq_run hodd hg he neg]
    cases neg <;> rfl
   rcases ifSh_cases P (isConstO y || isConstO z) sh with hif | ⟨rfl, hlit, hif⟩
   rotate_left
   · rw [hif] at hr
     have hr' : eqIf (intTys P) (xa.ev t) (xb.ev t) = some r := hr
     have hui : ∃ ms, P.underlying ty = some (.interface ms) := by
      unfold shOf at hsh
      split at hsh
      · split at hsh
        · cases hsh
        · obtain ⟨_, _, hh⟩ := Option.map_eq_some_iff.1 hsh; cases hh
      · have := shOf1_rel hsh
        cases this with
        | iface ms hu' => exact ⟨ms, hu'⟩
     obtain ⟨ms, hui⟩ := hui
     obtain ⟨k1, k2⟩ := eqIf_kind hr'
     refine fin ?_ (fun op => ?_) (eqIf_run hui hr' 9998)
     · rcases k1 with e | ⟨_, _, e⟩ <;> (rw [e]; trivial)
     · refine eqGuard_other ?_ ?_
       · rintro ⟨g1, g2⟩
         refine k2 ⟨?_, ?_⟩
         · rcases k1 with e | ⟨_, _, e⟩
           · exact e
           · rw [e] at g1; cases g1
         · rcases eqIf_kind2 hr' with e | ⟨_, _, e⟩
           · exact e
           · rw [e] at g2; cases g2
       · rintro l m ⟨g1, g2⟩
         rcases k1 with e | ⟨_, _, e⟩ <;> (rw [e] at g1; cases g1)
   rw [hif] at hr
   unfold shOf at hsh
   split at hsh
   · rename_i fs hus
     split at hsh
     · cases hsh
     · rename_i hcond
       simp only [Bool.or_eq_true, not_or, Bool.not_eq_true] at hcond
       obtain ⟨ks, hks, rfl⟩ := Option.map_eq_some_iff.1 hsh
       have hr' : eqAgg F M ks (xa.ev t) (xb.ev t) = some r := hr
       unfold eqAgg at hr'
       split at hr'
       · rename_i xs ys hvx hvy
         have hf : P.fieldsOf ty = fs := by simp [Program.fieldsOf, hus]
         refine fin (by rw [hvx]; trivial) (fun op => ?_) ?_
         · rw [hvx, hvy]; exact run_eqGuard_agg w op ty y z _ _ hcond.2
         · rw [hvx, hvy]
           simp only [conc]
           rw [run_equalIn_struct (P := P) w 9999 ty _ _ (by rw [hf]; exact hus) hcond.1, hf]
           exact eqAll_run h hks hr' 9998
       · cases hr'
   · rename_i hns
     have hrel := shOf1_rel hsh
     have hr' : eq1 F M sh (isConstO y || isConstO z) (xa.ev t) (xb.ev t) = some r := by
      cases hrel <;> exact hr
     have he := eq1_run h hrel hr' 9999
     cases hrel with
     | int k hu' => rw [hu] at hu'; exact absurd (Option.some.inj hu') (hd1 k)
     | str hu' => rw [hu] at hu'; exact absurd (Option.some.inj hu') hd2
     | bool hu' =>
       have hq : eqB (xa.ev t) (xb.ev t) = some r := hr'
       unfold eqB at hq
       split at hq
       · rename_i p q hvx hvy
         refine fin (by rw [hvx]; trivial) (fun op => ?_) he
         rw [hvx, hvy]; exact eqGuard_other (by simp [conc]) (by simp [conc])
       · cases hq
     | ptr el s hu' hz =>
       have hq : eqP F M (xa.ev t) (xb.ev t) = some r := hr'
       unfold eqP at hq
       split at hq
       · rename_i hvx hvy
         refine fin (by rw [hvx]; trivial) (fun op => ?_) he
         rw [hvx, hvy]; exact eqGuard_other (by simp [conc]) (by simp [conc])
       · rename_i hvx hvy
         refine fin (by rw [hvx]; trivial) (fun op => ?_) he
         rw [hvx, hvy]; exact eqGuard_other (by simp [conc]) (by simp [conc])
       · rename_i hvx hvy
         refine fin (by rw [hvx]; trivial) (fun op => ?_) he
         rw [hvx, hvy]; exact eqGuard_other (by simp [conc]) (by simp [conc])
       · rename_i hvx hvy
         refine fin (by rw [hvx]; trivial) (fun op => ?_) he
         rw [hvx, hvy]; exact eqGuard_other (by simp [conc]) (by simp [conc])
       · cases hq
     | slice el hu' =>
       have key : ∀ b, nilL (xa.ev t) = some b → ∃ ad n k, conc E (xa.ev t) = .slice ad n k := by
        intro b hb
        have := nilL_conc (E := E) hb
        cases b with
        | true => simp only [if_true] at this; exact ⟨_, _, _, this⟩
        | false => simp only [Bool.false_eq_true, if_false] at this; obtain ⟨ad, n, k, e⟩ := this; exact ⟨_, _, _, e⟩
       obtain ⟨ad, n, k, e⟩ : ∃ ad n k, conc E (xa.ev t) = .slice ad n k := by
        rcases nilEq_cases (show nilEq true (nilL (xa.ev t)) (nilL (xb.ev t)) = some r from hr') with ⟨g, _⟩ | ⟨g, _⟩ | ⟨g, _⟩ <;> exact key _ g
       refine fin (by rw [e]; trivial) (fun op => ?_) he
       rw [e]; exact eqGuard_other (by simp) (by simp)
     | map kk el hu' =>
       have key : ∀ b, nilM (xa.ev t) = some b → ∃ r, conc E (xa.ev t) = .map r := by
        intro b hb
        have := nilM_conc (E := E) hb
        cases b with
        | true => simp only [if_true] at this; exact ⟨_, this⟩
        | false => simp only [Bool.false_eq_true, if_false] at this; obtain ⟨r, e⟩ := this; exact ⟨_, e⟩
       obtain ⟨r', e⟩ : ∃ r, conc E (xa.ev t) = .map r := by
        rcases nilEq_cases (show nilEq true (nilM (xa.ev t)) (nilM (xb.ev t)) = some r from hr') with ⟨g, _⟩ | ⟨g, _⟩ | ⟨g, _⟩ <;> exact key _ g
       refine fin (by rw [e]; trivial) (fun op => ?_) he
       rw [e]; exact eqGuard_other (by simp) (by simp)
     | func p rr v hu' =>
       have key : ∀ b, nilF (xa.ev t) = some b → conc E (xa.ev t) = .nilFunc ∨ ∃ f l k, conc E (xa.ev t) = .func f l k := by
        intro b hb
        have := nilF_conc (E := E) hb
        cases b with
        | true => simp only [if_true] at this; exact .inl this
        | false => simp only [Bool.false_eq_true, if_false] at this; exact .inr this
       have e : conc E (xa.ev t) = .nilFunc ∨ ∃ f l k, conc E (xa.ev t) = .func f l k := by
        rcases nilEq_cases (show nilEq true (nilF (xa.ev t)) (nilF (xb.ev t)) = some r from hr') with ⟨g, _⟩ | ⟨g, _⟩ | ⟨g, _⟩ <;> exact key _ g
       rcases e with e | ⟨f, l, k, e⟩
       · refine fin (by rw [e]; trivial) (fun op => ?_) he
         rw [e]; exact eqGuard_other (by simp) (by simp)
       · refine fin (by rw [e]; trivial) (fun op => ?_) he
         rw [e]; exact eqGuard_other (by simp) (by simp)
     | iface ms hu' =>
       rcases nilEq_cases (show nilEq (isConstO y || isConstO z) (nilA (xa.ev t)) (nilA (xb.ev t)) = some r from hr') with ⟨g1, g2, hlit, _⟩ | ⟨g1, g2, _⟩ | ⟨g1, g2, _⟩
       · have a1 := nilA_conc g1
         have a2 := nilA_conc g2
         simp only [if_true] at a1 a2
         refine fin (by rw [a1]; trivial) (fun op => ?_) he
         rw [a1, a2]; exact eqGuard_nil hlit
       · have a1 := nilA_conc g1
         have a2 := nilA_conc g2
         simp only [if_true, Bool.false_eq_true, if_false] at a1 a2
         obtain ⟨_, _, a2⟩ := a2
         refine fin (by rw [a1]; trivial) (fun op => ?_) he
         rw [a1, a2]; exact eqGuard_other (by simp [conc]) (by simp [conc])
       · have a1 := nilA_conc g1
         have a2 := nilA_conc g2
         simp only [if_true, Bool.false_eq_true, if_false] at a1 a2
         obtain ⟨_, _, a1⟩ := a1
         refine fin (by rw [a1]; trivial) (fun op => ?_) he
         rw [a1, a2]; exact eqGuard_other (by simp [conc]) (by simp [conc])
 · cases hx'
theorem q_binOp (h : Cx P E F M c w t a) {o : Oper} {op : BinOp} {ty ty' : TypeId} {y z : Operand} (hop : o.op = .binOp op ty y z ty') {q : QO} (hc : compOp P o.op = some (.q q)) {x : V} (hx : (qop q F M t).val = some x) : QOk P E c w a o x := by
 rw [hop] at hc
 simp only [compOp] at hc
 have num : ∀ xa xb, compX y = some xa → compX z = some xb → QO.bi op xa xb = q → QOk P E c w a o x := by
  intro xa xb h1 h2 hq
  subst hq
  have e1 := h.ev h1
  have e2 := h.ev h2
  have hb := bi_run (P := P) (E := E) (c := c) (w := w) op ty (xv := xa.ev t) (yv := xb.ev t) (v := x) hx y z
  refine ⟨?_, hb.2⟩
  simp only [execOp, hop]
  refine val_run ?_
  rw [e1.1, e2.1]
  exact hb.1
 split at hc
 · rename_i k xa xb hu h1 h2
   exact num xa xb h1 h2 (by simpa [Ev.q] using hc)
 · rename_i xa xb hu h1 h2
   exact num xa xb h1 h2 (by simpa [Ev.q] using hc)
 · rename_i d xa xb hn1 hn2 hu h1 h2
   split at hc
   · obtain ⟨sh, hsh, e⟩ := Option.bind_eq_some_iff.1 hc
     obtain rfl : QO.eq false (ifSh P (isConstO y || isConstO z) sh) (isConstO y || isConstO z) xa xb = q := by simpa [Ev.q] using e
     exact q_eq_ok h (op := .eql) false hop hsh hu (fun k e => hn1 k e) (fun e => hn2 e) h1 h2 hx
   · obtain ⟨sh, hsh, e⟩ := Option.bind_eq_some_iff.1 hc
     obtain rfl : QO.eq true (ifSh P (isConstO y || isConstO z) sh) (isConstO y || isConstO z) xa xb = q := by simpa [Ev.q] using e
     exact q_eq_ok h (op := .neq) true hop hsh hu (fun k e => hn1 k e) (fun e => hn2 e) h1 h2 hx
   · cases hc
 · cases hc
end
theorem arr_of_list {α : Type} {x : Array α} {l : List α} (h : x.toList = l) : x = l.toArray := by
 rw [← h]
section
variable {P : Program} {E : Env} {F : RO} {M : Mem} {c : Nat → Prop} {w : World} {t : T} {a : Act}
theorem exec_builtin {o : Oper} {cl : Call} {b : Builtin} (hop : o.op = .call cl) (hb : cl.callee = .builtin b) {l : List Operand} (hl : cl.args.toList = l) {r : Result Next}
  (h : (builtin b cl.argTypes o.type (cl.args.map fun | .const _ => true | _ => false) (l.map a.eval).toArray).run P w = r) : (execOp a.eval o).run P w = r := by
 have hm : cl.args.map a.eval = (l.map a.eval).toArray := by rw [arr_of_list hl]; simp
 simp only [execOp, hop, resolve, hb, hm, Sem.run_bind, Sem.run_pure, Result.andThen_ok, invoke]
 exact h
theorem lenL_conc {v : V} {n : Nat} (h : lenL v = some n) : ∃ ad k, conc E v = .slice ad n k := by
 cases v <;> first | cases (show (none : Option Nat) = some n from h) | (obtain rfl := Option.some.inj h; exact ⟨_, _, rfl⟩)
theorem minAll_run {mx : Bool} (h : Cx P E F M c w t a) : ∀ {os : List Operand} {xs : List X} {v x : V}, compXs os = some xs → minAll mx t v xs = some x → bd c v →
  ((os.map a.eval).foldlM (if mx then Builtin.max2 else Builtin.min2) (conc E v)).run P w = .ok (conc E x) w ∧ bd c x
 | [], xs, v, x, hc, hm, hb => by
   obtain rfl := Option.some.inj hc
   obtain rfl := Option.some.inj hm
   exact ⟨rfl, hb⟩
 | o :: os, xs, v, x, hc, hm, hb => by
   rw [compXs] at hc
   split at hc
   · rename_i z l h1 h2
     obtain rfl := Option.some.inj hc
     rw [minAll] at hm
     split at hm
     · rename_i v' hv'
       have e := h.ev h1
       unfold minV at hv'
       split at hv'
       · rename_i k m k' n hy
         rw [fI_eq] at hv'
         obtain rfl := Option.some.inj hv'
         have ih := minAll_run h h2 hm trivial
         refine ⟨?_, ih.2⟩
         rw [hy] at e
         rw [List.map_cons, List.foldlM_cons, Sem.run_bind, e.1]
         have hstep : ((if mx then Builtin.max2 else Builtin.min2) (conc E (.i k m)) (conc E (.i k' n))).run P w = .ok (conc E (.i k (bif ltI (bif mx then m else n) (bif mx then n else m) then n else m))) w := by
          cases mx with
          | true =>
            simp only [if_true, conc, Builtin.max2, Sem.run_pure, cond_true, ltI_iff, cond_eq_ite, decide_eq_true_eq]
          | false =>
            simp only [Bool.false_eq_true, if_false, conc, Builtin.min2, Sem.run_pure, cond_false, ltI_iff, cond_eq_ite, decide_eq_true_eq]
         rw [hstep]
         exact ih.1
       · cases hv'
     · cases hm
   · cases hc
theorem sd_none {ats : Array TypeId} {ty n k : Nat} : (Builtin.unsafeSliceData_ ats ty #[.slice none n k]).run P w = .ok (.pointer none) w := rfl
theorem sd_some {ats : Array TypeId} {ty n k : Nat} {ad : Addr} (hk : k ≠ 0) : (Builtin.unsafeSliceData_ ats ty #[.slice (some ad) n k]).run P w = .ok (.pointer (some ad)) w := by
 change (if k ≠ 0 then (pure (.pointer (some ad)) : Sem Value) else _).run P w = _
 rw [if_pos hk]; rfl
theorem q_builtin (h : Cx P E F M c w t a) {o : Oper} {cl : Call} {b : Builtin} (hop : o.op = .call cl) (hb : cl.callee = .builtin b) {q : QO} (hc : compBuiltin P b cl.args.toList cl.argTypes.toList = some (.q q)) {x : V} (hx : (qop q F M t).val = some x) : QOk P E c w a o x := by
 unfold compBuiltin at hc
 split at hc
 ·
   rename_i y ty hargs htys
   have hat : cl.argTypes[0]? = some ty := by rw [arr_of_list htys]; rfl
   split at hc
   · rename_i z hu hz
     obtain rfl : QO.ln .str z = q := by simpa [Ev.q] using hc
     obtain ⟨n, s, hv, hg⟩ := onS_val (show (onS (z.ev t) QR.f fun n _ => QR.v (.i .i64 (.ofNat n))).val = some x from hx)
     obtain rfl := Option.some.inj hg
     have e := h.ev hz
     rw [hv] at e
     refine ⟨exec_builtin hop hb hargs ?_, trivial⟩
     simp only [builtin]
     refine val_run ?_
     simp [Builtin.len_, hat, e.1, run_und hu, conc, ba_size, goInt]
   · rename_i el z hu hz
     obtain rfl : QO.ln .slice z = q := by simpa [Ev.q] using hc
     have hx' : (q_ln1 (lenL (z.ev t))).val = some x := hx
     cases hl : lenL (z.ev t) with
     | none => rw [hl] at hx'; cases (show (none : Option V) = some x from hx')
     | some n =>
       rw [hl] at hx'
       obtain rfl := Option.some.inj hx'
       obtain ⟨ad, k, hcv⟩ := lenL_conc (E := E) hl
       have e := h.ev hz
       rw [hcv] at e
       refine ⟨exec_builtin hop hb hargs ?_, trivial⟩
       simp only [builtin]
       refine val_run ?_
       simp [Builtin.len_, hat, e.1, run_und hu, conc, goInt]
   · rename_i kt el z hu hz
     obtain rfl : QO.ln .map z = q := by simpa [Ev.q] using hc
     have e := h.ev hz
     have hx' : (ln_m F M (z.ev t)).val = some x := hx
     unfold ln_m at hx'
     split at hx'
     · rename_i hv
       obtain rfl := Option.some.inj hx'
       rw [hv] at e
       refine ⟨exec_builtin hop hb hargs ?_, trivial⟩
       simp only [builtin]
       refine val_run ?_
       simp [Builtin.len_, hat, e.1, run_und hu, conc, goInt]
     · rename_i b' hv
       obtain ⟨es, k, hl, hg⟩ := asMap_val hx'
       rw [fN_eq] at hg
       obtain rfl := Option.some.inj hg
       obtain ⟨es', k', ho, _, hms⟩ := h.map hl
       rw [hv] at e
       refine ⟨exec_builtin hop hb hargs ?_, trivial⟩
       simp only [builtin]
       refine val_run ?_
       simp [Builtin.len_, hat, e.1, run_und hu, conc, goInt, run_getObj_map ho, hms.len]
     · cases hx'
   · rename_i n el z hu hz
     obtain rfl : QO.lnc n = q := by simpa [Ev.q] using hc
     obtain rfl := Option.some.inj hx
     refine ⟨exec_builtin hop hb hargs ?_, trivial⟩
     simp only [builtin]
     refine val_run ?_
     simp [Builtin.len_, hat, run_und hu, conc, goInt]
   · rename_i ar z hu hz
     split at hc
     · rename_i n el hua
       obtain rfl : QO.lnc n = q := by simpa [Ev.q] using hc
       obtain rfl := Option.some.inj hx
       refine ⟨exec_builtin hop hb hargs ?_, trivial⟩
       simp only [builtin]
       refine val_run ?_
       simp [Builtin.len_, hat, run_und hu, run_und hua, conc, goInt]
     · cases hc
   · cases hc
 ·
   rename_i y ty hargs htys
   have hat : cl.argTypes[0]? = some ty := by rw [arr_of_list htys]; rfl
   split at hc
   · rename_i el z hu hz
     obtain rfl : QO.cp z = q := by simpa [Ev.q] using hc
     have e := h.ev hz
     have hx' : (q_cp z F M t).val = some x := hx
     unfold q_cp at hx'
     split at hx'
     · rename_i hv
       obtain rfl := Option.some.inj hx'
       rw [hv] at e
       refine ⟨exec_builtin hop hb hargs ?_, trivial⟩
       simp only [builtin]
       refine val_run ?_
       simp [Builtin.cap_, hat, e.1, run_und hu, conc, goInt]
     · rename_i b' off n k hv
       obtain rfl := Option.some.inj hx'
       rw [hv] at e
       refine ⟨exec_builtin hop hb hargs ?_, trivial⟩
       simp only [builtin]
       refine val_run ?_
       simp [Builtin.cap_, hat, e.1, run_und hu, conc, goInt]
     · cases hx'
   · cases hc
 ·
   split at hc
   · split at hc
     · split at hc
       · split at hc
         · split at hc <;> cases hc
         · cases hc
       · split at hc <;> cases hc
     · cases hc
   · cases hc
 · split at hc
   · split at hc
     · split at hc <;> cases hc
     · cases hc
   · cases hc
 ·
   split at hc
   · split at hc
     · split at hc <;> cases hc
     · cases hc
   · cases hc
 ·
   rename_i _ y ys hargs
   split at hc
   · rename_i z zs hz hzs
     obtain rfl : QO.mn false z zs = q := by simpa [Ev.q] using hc
     have hm := qr_val (show (qr (minAll false t (z.ev t) zs)).val = some x from hx)
     have e := h.ev hz
     have hr := minAll_run h hzs hm e.2
     refine ⟨exec_builtin hop hb hargs ?_, hr.2⟩
     simp only [builtin]
     refine val_run ?_
     simp only [Builtin.min_, List.map_cons, List.toList_toArray, e.1]
     simpa using hr.1
   · cases hc
 ·
   rename_i _ y ys hargs
   split at hc
   · rename_i z zs hz hzs
     obtain rfl : QO.mn true z zs = q := by simpa [Ev.q] using hc
     have hm := qr_val (show (qr (minAll true t (z.ev t) zs)).val = some x from hx)
     have e := h.ev hz
     have hr := minAll_run h hzs hm e.2
     refine ⟨exec_builtin hop hb hargs ?_, hr.2⟩
     simp only [builtin]
     refine val_run ?_
     simp only [Builtin.max_, List.map_cons, List.toList_toArray, e.1]
     simpa using hr.1
   · cases hc
 ·
   split at hc
   · obtain ⟨sh, _, e⟩ := Option.map_eq_some_iff.1 hc
     cases e
   · cases hc
 ·
   split at hc
   · split at hc <;> cases hc
   · cases hc
 ·
   rename_i _ y hargs
   obtain ⟨z, hz, rfl⟩ := compX_bind (f := fun x => .sd x) hc
   have e := h.ev hz
   have hx' : (q_sd z F M t).val = some x := hx
   unfold q_sd at hx'
   split at hx'
   · rename_i hv
     obtain rfl := Option.some.inj hx'
     rw [hv] at e
     refine ⟨exec_builtin hop hb hargs ?_, trivial⟩
     simp only [builtin]
     refine val_run ?_
     simp only [List.map_cons, List.map_nil, e.1, conc]
     exact sd_none
   · rename_i b' off n k hv
     rw [beqN] at hx'
     by_cases hk : k = 0
     · rw [decide_eq_true hk] at hx'; cases (show (none : Option V) = some x from hx')
     · rw [decide_eq_false hk] at hx'
       obtain rfl := Option.some.inj hx'
       rw [hv] at e
       refine ⟨exec_builtin hop hb hargs ?_, e.2⟩
       simp only [builtin]
       refine val_run ?_
       simp only [List.map_cons, List.map_nil, e.1, conc]
       exact sd_some hk
   · rename_i b' off n el kn hv
     rw [bltN] at hx'
     by_cases hk : el < kn
     · rw [decide_eq_true hk] at hx'
       obtain rfl := Option.some.inj hx'
       rw [hv] at e
       refine ⟨exec_builtin hop hb hargs ?_, e.2⟩
       have hne : ¬ (kn - el + E.κ b' = 0) := by omega
       simp only [builtin]
       refine val_run ?_
       simp only [List.map_cons, List.map_nil, e.1, conc]
       exact sd_some hne
     · rw [decide_eq_false hk] at hx'; cases (show (none : Option V) = some x from hx')
   · cases hx'
 · split at hc
   · obtain ⟨z, _, e⟩ := Option.map_eq_some_iff.1 hc; cases e
   · cases hc
 · cases hc
end
theorem next_none {fn : Func} {n : String} (hn : fn.name = n) (ho : fn.origin = "") (h1 : Extern.allNextRows.lookup n = none) (h2 : Extern.allNextRows.lookup "" = none) : Extern.findNext fn = none := by
 unfold Extern.findNext
 dsimp only
 rw [hn, ho, h1, h2]; rfl
theorem find_plain {fn : Func} {n : String} {e : Array Value → Sem Value} (hn : fn.name = n) (h0 : Extern.allGenericRows.lookup n = none) (h1 : Extern.allTypedRows.lookup n = none) (h2 : Extern.allRows.lookup n = some e) : Extern.find fn = some e := by
 unfold Extern.find
 dsimp only
 rw [hn, h0, h1, h2]; rfl
theorem find_typed {fn : Func} {n : String} {e : Extern.Typed} (hn : fn.name = n) (h0 : Extern.allGenericRows.lookup n = none) (h1 : Extern.allTypedRows.lookup n = some e) : Extern.find fn = some (e fn.params fn.resultTypes) := by
 unfold Extern.find
 dsimp only
 rw [hn, h0, h1]; rfl
theorem nx_empty : Extern.allNextRows.lookup "" = none := by kernel_rfl
theorem nx_ib : Extern.allNextRows.lookup "internal/bytealg.IndexByteString" = none := by kernel_rfl
theorem nx_xb : Extern.allNextRows.lookup "internal/bytealg.IndexByte" = none := by kernel_rfl
theorem nx_cn : Extern.allNextRows.lookup "internal/bytealg.CountString" = none := by kernel_rfl
theorem nx_ne : Extern.allNextRows.lookup "internal/abi.NoEscape" = none := by kernel_rfl
theorem nx_nz : Extern.allNextRows.lookup "internal/bytealg.MakeNoZero" = none := by kernel_rfl
theorem ge_ib : Extern.allGenericRows.lookup "internal/bytealg.IndexByteString" = none := by kernel_rfl
theorem ge_xb : Extern.allGenericRows.lookup "internal/bytealg.IndexByte" = none := by kernel_rfl
theorem ge_cn : Extern.allGenericRows.lookup "internal/bytealg.CountString" = none := by kernel_rfl
theorem ge_ne : Extern.allGenericRows.lookup "internal/abi.NoEscape" = none := by kernel_rfl
theorem ge_nz : Extern.allGenericRows.lookup "internal/bytealg.MakeNoZero" = none := by kernel_rfl
theorem ty_ib : Extern.allTypedRows.lookup "internal/bytealg.IndexByteString" = none := by kernel_rfl
theorem ty_xb : Extern.allTypedRows.lookup "internal/bytealg.IndexByte" = none := by kernel_rfl
theorem ty_cn : Extern.allTypedRows.lookup "internal/bytealg.CountString" = none := by kernel_rfl
theorem ty_ne : Extern.allTypedRows.lookup "internal/abi.NoEscape" = none := by kernel_rfl
theorem ty_nz : Extern.allTypedRows.lookup "internal/bytealg.MakeNoZero" = some Extern.BytealgMakeNoZero.makeNoZero := by kernel_rfl
theorem al_ib : Extern.allRows.lookup "internal/bytealg.IndexByteString" = some Extern.BytealgIndexByte.indexByte := by kernel_rfl
theorem al_xb : Extern.allRows.lookup "internal/bytealg.IndexByte" = some Extern.BytealgIndexByte.indexByte := by kernel_rfl
theorem al_cn : Extern.allRows.lookup "internal/bytealg.CountString" = some Extern.BytealgCount.count := by kernel_rfl
theorem al_ne : Extern.allRows.lookup "internal/abi.NoEscape" = some Extern.AbiNoEscape.same := by kernel_rfl
theorem strCmp_ss (n x m y : Nat) : strCmp (n + 1) x (m + 1) y = if x % 256 = y % 256 then strCmp n (x / 256) m (y / 256) else if x % 256 < y % 256 then -1 else 1 := by
 show (bif Nat.beq (Nat.mod x 256) (Nat.mod y 256) then strCmp n (Nat.div x 256) m (Nat.div y 256) else bif Nat.blt (Nat.mod x 256) (Nat.mod y 256) then Int.negSucc 0 else 1) = _
 rw [beqN, bltN]
 by_cases h : x % 256 = y % 256
 · rw [decide_eq_true (show Nat.mod x 256 = Nat.mod y 256 from h), if_pos h]; rfl
 · rw [decide_eq_false (show ¬ Nat.mod x 256 = Nat.mod y 256 from h), if_neg h]
   by_cases h2 : x % 256 < y % 256
   · rw [decide_eq_true (show Nat.mod x 256 < Nat.mod y 256 from h2), if_pos h2]; rfl
   · rw [decide_eq_false (show ¬ Nat.mod x 256 < Nat.mod y 256 from h2), if_neg h2]; rfl
def cmpL : List UInt8 → List UInt8 → Int
 | [], [] => 0
 | [], _ :: _ => -1
 | _ :: _, [] => 1
 | c :: l, d :: r => if c = d then cmpL l r else if c < d then -1 else 1
theorem ofNat_lt {a b : Nat} (ha : a < 256) (hb : b < 256) : UInt8.ofNat a < UInt8.ofNat b ↔ a < b := by
 rw [UInt8.lt_iff_toNat_lt]
 simp [UInt8.toNat_ofNat', Nat.mod_eq_of_lt ha, Nat.mod_eq_of_lt hb]
theorem ofNat_inj {a b : Nat} (ha : a < 256) (hb : b < 256) : UInt8.ofNat a = UInt8.ofNat b ↔ a = b := by
 constructor
 · intro h
   have := congrArg UInt8.toNat h
   simpa [UInt8.toNat_ofNat', Nat.mod_eq_of_lt ha, Nat.mod_eq_of_lt hb] using this
 · exact fun h => by rw [h]
theorem strCmp_eq : ∀ (n x m y : Nat), strCmp n x m y = cmpL (bl n x) (bl m y)
 | 0, x, 0, y => rfl
 | 0, x, m + 1, y => rfl
 | n + 1, x, 0, y => rfl
 | n + 1, x, m + 1, y => by
   have h1 : x % 256 < 256 := Nat.mod_lt _ (by decide)
   have h2 : y % 256 < 256 := Nat.mod_lt _ (by decide)
   rw [strCmp_ss, bl, bl, cmpL, strCmp_eq n (x / 256) m (y / 256)]
   simp only [ofNat_inj h1 h2, ofNat_lt h1 h2]
theorem cmp_find : ∀ (l r : List UInt8), (match (List.range (min l.length r.length)).find? (fun i => l[i]! != r[i]!) with
  | some i => if l[i]! < r[i]! then (-1 : Int) else 1
  | none => if l.length < r.length then -1 else if l.length > r.length then 1 else 0) = cmpL l r
 | [], [] => rfl
 | [], _ :: r => by simp [cmpL]
 | _ :: l, [] => by simp [cmpL]
 | c :: l, d :: r => by
   have ih := cmp_find l r
   rw [cmpL]
   rw [show min (c :: l).length (d :: r).length = min l.length r.length + 1 by simp only [List.length_cons]; omega, List.range_succ_eq_map, List.find?_cons]
   by_cases h : c = d
   · subst h
     simp only [List.getElem!_cons_zero, bne_self_eq_false, if_true]
     rw [← ih, List.find?_map]
     simp only [Function.comp_def, Nat.succ_eq_add_one, List.getElem!_cons_succ, List.length_cons]
     cases hf : (List.range (min l.length r.length)).find? (fun i => l[i]! != r[i]!) with
     | none => simp only [Option.map_none, Nat.add_lt_add_iff_right, gt_iff_lt]
     | some i => simp only [Option.map_some, List.getElem!_cons_succ]
   · have hb : ((c :: l)[0]! != (d :: r)[0]!) = true := by simpa using h
     rw [hb]
     simp [h]
theorem cmp_eq (n x m y : Nat) : Extern.BytealgCompare.cmp (ba n x) (ba m y) = strCmp n x m y := by
 rw [strCmp_eq, ← cmp_find]
 have hg : ∀ (k z i : Nat), (ba k z)[i]! = (bl k z)[i]! := by
  intro k z i
  by_cases h : i < k
  · rw [getElem!_pos (ba k z) i (by rw [ba_size]; exact h), getElem!_pos (bl k z) i (by rw [bl_length]; exact h)]
    show (bl k z).toArray[i]'(by simpa [bl_length] using h) = _
    simp
  · rw [getElem!_neg (ba k z) i (by rw [ba_size]; exact h), getElem!_neg (bl k z) i (by rw [bl_length]; exact h)]
 unfold Extern.BytealgCompare.cmp
 simp only [hg, ba_size, bl_length]
 cases List.find? (fun i => (bl n x)[i]! != (bl m y)[i]!) (List.range (min n m)) <;> rfl
theorem nx_cm : Extern.allNextRows.lookup "internal/bytealg.abigen_runtime_cmpstring" = none := by kernel_rfl
theorem ge_cm : Extern.allGenericRows.lookup "internal/bytealg.abigen_runtime_cmpstring" = none := by kernel_rfl
theorem ty_cm : Extern.allTypedRows.lookup "internal/bytealg.abigen_runtime_cmpstring" = none := by kernel_rfl
theorem al_cm : Extern.allRows.lookup "internal/bytealg.abigen_runtime_cmpstring" = some Extern.BytealgCompare.compare := by kernel_rfl
theorem findB_index (c : Nat) : ∀ (n x i : Nat), (match findB (c % 256) n x i with | some j => (j : Int) | none => -1) = if Lib.indexByte (bl n x) (UInt8.ofNat c) = -1 then -1 else Lib.indexByte (bl n x) (UInt8.ofNat c) + i
 | 0, x, i => by simp [findB, bl, Lib.indexByte]
 | n + 1, x, i => by
   have ih := findB_index c n (x / 256) (i + 1)
   rw [findB, beqN, bl, Lib.indexByte]
   have hg := Lib.indexByte_ge (bl n (x / 256)) (UInt8.ofNat c)
   by_cases hc : x % 256 = c % 256
   · have hb : (UInt8.ofNat (x % 256) == UInt8.ofNat c) = true := by rw [hc, ofNat_mod]; simp
     rw [show Nat.mod x 256 = x % 256 from rfl, decide_eq_true hc, cond_true, hb]
     simp
   · have hb : (UInt8.ofNat (x % 256) == UInt8.ofNat c) = false := by
      rw [beq_eq_false_iff_ne]; intro e; apply hc
      have := congrArg UInt8.toNat e; simpa [UInt8.toNat_ofNat'] using this
     rw [show Nat.mod x 256 = x % 256 from rfl, decide_eq_false hc, cond_false, hb]
     show (match findB (c % 256) n (x / 256) (i + 1) with | some j => (j : Int) | none => -1) = _
     rw [ih]
     simp only [Bool.false_eq_true, if_false]
     by_cases h1 : Lib.indexByte (bl n (x / 256)) (UInt8.ofNat c) = -1
     · rw [if_pos h1, h1]; simp
     · rw [if_neg h1]
       have h2 : (Lib.indexByte (bl n (x / 256)) (UInt8.ofNat c) == -1) = false := by rw [beq_eq_false_iff_ne]; exact h1
       simp only [h2, Bool.false_eq_true, if_false]
       rw [if_neg (by omega)]
       omega
theorem countB_count (c : Nat) : ∀ (n x r : Nat), countB (c % 256) n x r = r + Lib.countByte (bl n x) (UInt8.ofNat c)
 | 0, x, r => by simp [countB, bl, Lib.countByte]
 | n + 1, x, r => by
   rw [countB, countB_count c n, beqN, bl, Lib.countByte, Lib.countByte, List.count_cons]
   by_cases hc : x % 256 = c % 256
   · have hb : (UInt8.ofNat (x % 256) == UInt8.ofNat c) = true := by rw [hc, ofNat_mod]; simp
     rw [show Nat.mod x 256 = x % 256 from rfl, decide_eq_true hc, hb]
     show r + 1 + _ = r + (_ + 1)
     show r + 1 + List.count (UInt8.ofNat c) (bl n (x / 256)) = r + (List.count (UInt8.ofNat c) (bl n (x / 256)) + 1)
     omega
   · have hb : (UInt8.ofNat (x % 256) == UInt8.ofNat c) = false := by
      rw [beq_eq_false_iff_ne]; intro e; apply hc
      have := congrArg UInt8.toNat e; simpa [UInt8.toNat_ofNat'] using this
     rw [show Nat.mod x 256 = x % 256 from rfl, decide_eq_false hc, hb]
     rfl
section
variable {P : Program} {E : Env} {F : RO} {M : Mem} {c : Nat → Prop} {w : World} {t : T} {a : Act}
theorem exec_extern {o : Oper} {cl : Call} {f : FuncId} {fn : Func} {e : Array Value → Sem Value} (hop : o.op = .call cl) (hcal : cl.callee = .value (.func f)) (hf : P.funcs[f]? = some fn) (hb : fn.body.isNone = true) (hne : fn.name ≠ "runtime.NumGoroutine")
  (hn : Extern.findNext fn = none) (he : Extern.find fn = some e) {l : List Operand} (hl : cl.args.toList = l) {v : Value} {w' : World} (h : (e (l.map a.eval).toArray).run P w = .ok v w') : (execOp a.eval o).run P w = .ok (.value v) w' := by
 have hm : cl.args.map a.eval = (l.map a.eval).toArray := by rw [arr_of_list hl]; simp
 have hr := run_callFunc_extern (P := P) hf (by simpa using hne) hb hn he (l.map a.eval).toArray w
 simp only [execOp, hop, resolve, hcal, Sem.run_bind, hm, Act.eval, Deferred.ofValue, Sem.run_pure, Result.andThen_ok, invoke, Array.empty_append, Array.append_empty, hr, h]
theorem asByte_some {v : V} {n : Nat} (h : asByte v = some n) : v = .i .u8 (n : Int) := by
 unfold asByte at h
 split at h
 · obtain rfl := Option.some.inj h; rfl
 · cases h
theorem Cx.loadN_cells (h : Cx P E F M c w t a) {b o n : Nat} {l : List V} (hl : Ev.loadN F M b o n = some l) :
  ∀ j v, (concs E l)[j]? = some v → w.cell? ⟨E.ρ b, E.β b + o + j, none⟩ = some v := by
 obtain ⟨ty, m, ex, fz, str, d, cs, hb, hg⟩ := asCells_some (f := none) hl (by simp)
 obtain ⟨arr, fr, ho, hr⟩ := h.cells hb
 have hc := cellsAt_get n o l hg
 intro j v hj
 rw [concs_map, List.getElem?_map, Option.map_eq_some_iff] at hj
 obtain ⟨x, hx, rfl⟩ := hj
 simp only [World.cell?, ho, Option.isSome_none, Bool.false_eq_true, if_false]
 rw [Nat.add_assoc]
 exact hr.cell _ _ (hc.2 j x hx)
theorem Cx.readB_cells (h : Cx P E F M c w t a) {n b o : Nat} {vs : List V} {r : Option Nat} (hr : Ev.readB F M 1 n b o = some (vs, r)) :
  vs.length = n ∧ ∀ j v, (concs E vs)[j]? = some v → w.cell? ⟨E.ρ b, E.β b + o + j, none⟩ = some v := by
 refine ⟨by have := (h.readB hr).2.2; omega, ?_⟩
 unfold Ev.readB at hr
 rw [beqN] at hr
 by_cases hn : n = 0
 · rw [decide_eq_true hn, cond_true] at hr
   obtain ⟨rfl, _⟩ := Prod.mk.inj (Option.some.inj hr)
   intro j v hj; simp [concs] at hj
 · rw [decide_eq_false hn, cond_false] at hr
   split at hr
   · rename_i us hl
     obtain ⟨rfl, _⟩ := Prod.mk.inj (Option.some.inj hr)
     exact h.loadN_cells hl
   · cases hr
theorem bytesOf_cells {r o n s cap : Nat} {vs : List V} (hs : bytesV vs = some (n, s)) (hc : ∀ j v, (concs E vs)[j]? = some v → w.cell? ⟨r, o + j, none⟩ = some v) : (Extern.Bytes.bytesOf (.slice (some ⟨r, o, none⟩) vs.length cap)).run P w = .ok (ba n s) w := by
 obtain ⟨ns, rfl, rfl, hb⟩ := bytesV_spec _ _ _ hs
 have := Lib.run_loadBytesX (P := P) w (ns.map Int.ofNat) ⟨r, o, none⟩ .empty fun j x hj => by
  rw [Addr.add_eq]
  refine hc j (.int .u8 x) ?_
  rw [List.getElem?_map, Option.map_eq_some_iff] at hj
  obtain ⟨k, hk, rfl⟩ := hj
  rw [concs_map, List.getElem?_map, List.getElem?_map, hk]
  rfl
 rw [List.length_map] at this
 rw [List.length_map]
 show (Extern.Bytes.loadBytes ⟨r, o, none⟩ _ .empty).run P w = _
 rw [this]
 congr 1
 apply ba_ext
 rw [hb]
 simp [Lib.bytesOf, List.map_map, Function.comp_def]
theorem bytesOf_none {l cap : Nat} : (Extern.Bytes.bytesOf (.slice none l cap)).run P w = .ok (ba 0 0) w := by
 show Result.ok ByteArray.empty w = _
 congr 1
theorem Cx.bytesOf (h : Cx P E F M c w t a) {v : V} {n m s : Nat} {vs : List V} {r : Option Nat} (hv : ∀ a b, v ≠ .s a b) (hn : lenV v = some n) (hr : Ev.readL F M 1 n v = some (vs, r)) (hs : bytesV vs = some (m, s)) : (Extern.Bytes.bytesOf (conc E v)).run P w = .ok (ba m s) w := by
 have nil : ∀ {us : List V} {q : Option Nat}, (bif Nat.beq 0 0 then some (([] : List V), (none : Option Nat)) else none) = some (us, q) → us = [] := fun he => by
  obtain ⟨rfl, _⟩ := Prod.mk.inj (Option.some.inj he); rfl
 have z : ∀ {us : List V}, us = [] → bytesV us = some (m, s) → m = 0 ∧ s = 0 := fun e hb => by
  subst e
  obtain ⟨rfl, rfl⟩ := Prod.mk.inj (Option.some.inj hb); exact ⟨rfl, rfl⟩
 cases v with
 | l b o len cap =>
   obtain rfl := Option.some.inj hn
   obtain ⟨e, hc⟩ := h.readB_cells (show Ev.readB F M 1 len b o = some (vs, r) from hr)
   subst e
   exact bytesOf_cells hs hc
 | u b o len el kn =>
   obtain rfl := Option.some.inj hn
   obtain ⟨e, hc⟩ := h.readB_cells (show Ev.readB F M 1 len b o = some (vs, r) from hr)
   subst e
   exact bytesOf_cells hs hc
 | ue b o0 o =>
   obtain rfl := Option.some.inj hn
   obtain rfl := nil (show _ = some (vs, r) from hr)
   obtain ⟨rfl, rfl⟩ := z rfl hs
   show Result.ok ByteArray.empty w = _
   congr 1
 | l0 =>
   obtain rfl := Option.some.inj hn
   obtain rfl := nil (show _ = some (vs, r) from hr)
   obtain ⟨rfl, rfl⟩ := z rfl hs
   exact bytesOf_none
 | s a b => exact absurd rfl (hv a b)
 | _ => cases hn
def ixB (cv : Value) (b : ByteArray) : Sem Value := do
 let c ← Extern.Bytes.asByte cv
 match (List.range b.size).find? fun i => b[i]! == c with
 | some i => pure (goInt i)
 | none => pure (goInt (-1))
theorem ixB_eq (v cv : Value) : Extern.BytealgIndexByte.indexByte #[v, cv] = Extern.Bytes.bytesOf v >>= ixB cv := rfl
theorem indexByte_of {v cv : Value} {s : ByteArray} (h : (Extern.Bytes.bytesOf v).run P w = .ok s w) : (Extern.BytealgIndexByte.indexByte #[v, cv]).run P w = (Extern.BytealgIndexByte.indexByte #[.string s, cv]).run P w := by
 have h2 : (Extern.Bytes.bytesOf (.string s)).run P w = .ok s w := rfl
 rw [ixB_eq, ixB_eq]
 simp only [Sem.run_bind, h, h2]
theorem tagB_val {b : Option Nat} {r : QR} {x : V} (h : (tagB b r).val = some x) : r.val = some x := by
 cases r with
 | v y => cases b with
   | none => exact h
   | some b => exact h
 | f => cases h
 | r y b' => cases h
theorem xib1_ok {n s : Nat} {o : Option Nat} {x : V} (hg : (xib1 n s o).val = some x) : ∃ k, o = some k ∧ conc E x = .int .i64 (Lib.indexByte (bl n s) (UInt8.ofNat k)) ∧ bd c x := by
 unfold xib1 at hg
 split at hg
 · rename_i k
   refine ⟨k, rfl, ?_⟩
   have hfi := findB_index k n s 0
   have hge := Lib.indexByte_ge (bl n s) (UInt8.ofNat k)
   unfold q_xib1 at hg
   split at hg
   · rename_i i hi
     obtain rfl := Option.some.inj hg
     refine ⟨?_, trivial⟩
     rw [show findB (k % 256) n s 0 = some i from hi] at hfi
     simp only at hfi
     simp only [conc]
     congr 1
     show (i : Int) = _
     split at hfi <;> omega
   · rename_i hi
     obtain rfl := Option.some.inj hg
     refine ⟨?_, trivial⟩
     rw [show findB (k % 256) n s 0 = none from hi] at hfi
     simp only at hfi
     simp only [conc]
     congr 1
     show (-1 : Int) = _
     split at hfi <;> omega
 · cases hg
theorem q_extern (h : Cx P E F M c w t a) {o : Oper} {cl : Call} {f : FuncId} {fn : Func} (hop : o.op = .call cl) (hcal : cl.callee = .value (.func f)) (hf : P.funcs[f]? = some fn) (hb : fn.body.isNone = true) {q : QO} (hc : compExtern P fn cl.args.toList = some (.q q)) {x : V} (hx : (qop q F M t).val = some x) : QOk P E c w a o x := by
 unfold compExtern at hc
 split at hc
 · cases hc
 · rename_i hor
   have hor : fn.origin = "" := by simpa using hor
   split at hc
   · rename_i y z hargs
     split at hc
     · rename_i hnm
       have hnm : fn.name = "internal/bytealg.IndexByteString" := by simpa using hnm
       split at hc
       · rename_i xa xb h1 h2
         obtain rfl : QO.xib xa xb = q := by simpa [Ev.q] using hc
         have e1 := h.ev h1
         have e2 := h.ev h2
         obtain ⟨n, s, hv, hg⟩ := onS_val (show (onS (xa.ev t) QR.f fun n s => xib1 n s (asByte (xb.ev t))).val = some x from hx)
         unfold xib1 at hg
         split at hg
         · rename_i k hk
           rw [hv] at e1
           rw [asByte_some hk] at e2
           have hfi := findB_index k n s 0
           have hge := Lib.indexByte_ge (bl n s) (UInt8.ofNat k)
           have hxx : conc E x = .int .i64 (Lib.indexByte (bl n s) (UInt8.ofNat k)) ∧ bd c x := by
            unfold q_xib1 at hg
            split at hg
            · rename_i i hi
              obtain rfl := Option.some.inj hg
              refine ⟨?_, trivial⟩
              rw [show findB (k % 256) n s 0 = some i from hi] at hfi
              simp only at hfi
              simp only [conc]
              congr 1
              show (i : Int) = _
              split at hfi <;> omega
            · rename_i hi
              obtain rfl := Option.some.inj hg
              refine ⟨?_, trivial⟩
              rw [show findB (k % 256) n s 0 = none from hi] at hfi
              simp only at hfi
              simp only [conc]
              congr 1
              show (-1 : Int) = _
              split at hfi <;> omega
           refine ⟨?_, hxx.2⟩
           refine exec_extern hop hcal hf hb (by rw [hnm]; decide) (next_none hnm hor nx_ib nx_empty) (find_plain hnm ge_ib ty_ib al_ib) hargs ?_
           simp only [List.map_cons, List.map_nil, e1.1, e2.1, conc]
           rw [Lib.run_indexByteString, ba_toList, hxx.1]
           rfl
         · cases (show (none : Option V) = some x from hg)
       · cases hc
     · split at hc
       · rename_i hnm
         have hnm : fn.name = "internal/bytealg.CountString" := by simpa using hnm
         split at hc
         · rename_i xa xb h1 h2
           obtain rfl : QO.xcn xa xb = q := by simpa [Ev.q] using hc
           have e1 := h.ev h1
           have e2 := h.ev h2
           obtain ⟨n, s, hv, hg⟩ := onS_val (show (onS (xa.ev t) QR.f fun n s => xcn1 n s (asByte (xb.ev t))).val = some x from hx)
           unfold xcn1 at hg
           split at hg
           · rename_i k hk
             rw [hv] at e1
             rw [asByte_some hk] at e2
             rw [fN_eq] at hg
             obtain rfl := Option.some.inj hg
             refine ⟨?_, trivial⟩
             refine exec_extern hop hcal hf hb (by rw [hnm]; decide) (next_none hnm hor nx_cn nx_empty) (find_plain hnm ge_cn ty_cn al_cn) hargs ?_
             simp only [List.map_cons, List.map_nil, e1.1, e2.1, conc]
             rw [Lib.run_countString, ba_toList, show countB (Nat.mod k 256) n s 0 = countB (k % 256) n s 0 from rfl, countB_count, Nat.zero_add]
             rfl
           · cases (show (none : Option V) = some x from hg)
         · cases hc
       · split at hc
         · rename_i hnm
           have hnm : fn.name = "internal/bytealg.abigen_runtime_cmpstring" := by simpa using hnm
           split at hc
           · rename_i xa xb h1 h2
             obtain rfl : QO.xcmp xa xb = q := by simpa [Ev.q] using hc
             have e1 := h.ev h1
             have e2 := h.ev h2
             obtain ⟨n, s, hv, hg⟩ := onS_val (show (onS (xa.ev t) QR.f fun n a => onS (xb.ev t) .f fun m b => vI .i64 (strCmp n a m b)).val = some x from hx)
             obtain ⟨m, s2, hv2, hg⟩ := onS_val hg
             rw [hv] at e1
             rw [hv2] at e2
             rw [vI_eq] at hg
             obtain rfl := Option.some.inj hg
             refine ⟨?_, trivial⟩
             refine exec_extern hop hcal hf hb (by rw [hnm]; decide) (next_none hnm hor nx_cm nx_empty) (find_plain hnm ge_cm ty_cm al_cm) hargs ?_
             simp only [List.map_cons, List.map_nil, e1.1, e2.1, conc]
             show ((pure (ba n s) : Sem ByteArray) >>= fun a => (pure (ba m s2) : Sem ByteArray) >>= fun b => (pure (goInt (Extern.BytealgCompare.cmp a b)) : Sem Value)).run P w = _
             rw [pure_bind, pure_bind, cmp_eq]
             rfl
           · cases hc
         · split at hc
           · rename_i hnm
             have hnm : fn.name = "internal/bytealg.IndexByte" := by simpa using hnm
             split at hc
             · rename_i xa xb h1 h2
               obtain rfl : QO.xibB xa xb = q := by simpa [Ev.q] using hc
               have e1 := h.ev h1
               have e2 := h.ev h2
               have hx' : (q_xibB xa xb F M t).val = some x := hx
               unfold q_xibB at hx'
               split at hx'
               · cases hx'
               · rename_i v hv
                 unfold xibB1 at hx'
                 split at hx'
                 · rename_i n hn
                   split at hx'
                   · rename_i vs b hr
                     unfold xibB2 at hx'
                     split at hx'
                     · rename_i m sx hb'
                       rw [fN_eq, fN_eq] at hx'
                       obtain ⟨k, hk, hxx⟩ := xib1_ok (E := E) (c := c) (tagB_val hx')
                       rw [asByte_some hk] at e2
                       refine ⟨?_, hxx.2⟩
                       refine exec_extern hop hcal hf hb (by rw [hnm]; decide) (next_none hnm hor nx_xb nx_empty) (find_plain hnm ge_xb ty_xb al_xb) hargs ?_
                       simp only [List.map_cons, List.map_nil, e1.1, e2.1]
                       rw [indexByte_of (h.bytesOf hv hn hr hb')]
                       simp only [conc]
                       rw [Lib.run_indexByteString, ba_toList, hxx.1]
                       rfl
                     · cases hx'
                   · cases hx'
                 · cases hx'
             · cases hc
           · cases hc
   · rename_i y hargs
     split at hc
     · rename_i hnm
       have hnm : fn.name = "internal/abi.NoEscape" := by simpa using hnm
       obtain ⟨z, hz, rfl⟩ := compX_bind (f := fun x => .mv x) hc
       obtain rfl : z.ev t = x := Option.some.inj hx
       have e := h.ev hz
       refine ⟨?_, e.2⟩
       refine exec_extern hop hcal hf hb (by rw [hnm]; decide) (next_none hnm hor nx_ne nx_empty) (find_plain hnm ge_ne ty_ne al_ne) hargs ?_
       simp only [List.map_cons, List.map_nil, e.1]
       rfl
     · split at hc
       · split at hc
         · split at hc
           · split at hc <;> cases hc
           · cases hc
         · cases hc
       · split at hc
         · obtain ⟨z, _, e⟩ := Option.map_eq_some_iff.1 hc; cases e
         · cases hc
   · cases hc
theorem q_arrayPtr (h : Cx P E F M c w t a) {o : Oper} {d : TypeId} {y : Operand} (hop : o.op = .sliceToArrayPointer d y) {q : QO} (hc : compOp P o.op = some (.q q)) {x : V} (hx : (qop q F M t).val = some x) : QOk P E c w a o x := by
 rw [hop] at hc
 simp only [compOp] at hc
 split at hc
 · rename_i n el z hu hz
   obtain rfl : QO.sap n z = q := by simpa [Ev.q] using hc
   have hx' : (q_sap n z F M t).val = some x := hx
   have e := h.ev hz
   unfold q_sap at hx'
   split at hx'
   · rename_i b off len cp hv
     rw [hv] at e
     rw [bleN] at hx'
     by_cases hl : n ≤ len
     · rw [decide_eq_true hl, cond_true] at hx'
       obtain rfl := Option.some.inj hx'
       refine ⟨?_, e.2⟩
       simp only [execOp, hop]
       refine val_run ?_
       rw [e.1]
       simp [Instr.arrayAt, run_und hu, conc, Nat.not_lt.2 hl]
     · rw [decide_eq_false hl] at hx'; cases hx'
   · rename_i b off len el' kn hv
     rw [hv] at e
     rw [bleN] at hx'
     by_cases hl : n ≤ len
     · rw [decide_eq_true hl, cond_true] at hx'
       obtain rfl := Option.some.inj hx'
       refine ⟨?_, e.2⟩
       simp only [execOp, hop]
       refine val_run ?_
       rw [e.1]
       simp [Instr.arrayAt, run_und hu, conc, Nat.not_lt.2 hl]
     · rw [decide_eq_false hl] at hx'; cases hx'
   · cases hx'
 · cases hc
theorem q_all (h : Cx P E F M c w t a) {o : Oper} {q : QO} (hc : compOp P o.op = some (.q q)) {x : V} (hx : (qop q F M t).val = some x) : QOk P E c w a o x := by
 cases hop : o.op with
 | move y => exact q_move h (.inl hop) hc hx
 | assign y => exact q_move h (.inr hop) hc hx
 | pick p y z => exact q_pick h hop hc hx
 | alloc ty => rw [hop] at hc; obtain ⟨z, _, e⟩ := Option.map_eq_some_iff.1 hc; cases e
 | box ty y =>
   rw [hop] at hc; simp only [compOp] at hc
   split at hc <;> cases hc
 | build ty ps => exact q_build h hop hc hx
 | buildSlice ty n ps =>
   rw [hop] at hc; simp only [compOp] at hc
   split at hc
   · split at hc
     · split at hc
       · cases hc
       · obtain ⟨z, _, e⟩ := Option.map_eq_some_iff.1 hc; cases e
     · cases hc
   · cases hc
 | insert ty m k v =>
   rw [hop] at hc; simp only [compOp] at hc
   split at hc
   · obtain ⟨z, _, e⟩ := Option.map_eq_some_iff.1 hc; cases e
   · cases hc
 | load ty y => exact q_load h hop hc hx
 | store ty y z =>
   rw [hop] at hc; simp only [compOp] at hc
   split at hc <;> cases hc
 | ready g => rw [hop] at hc; cases hc
 | waits g => rw [hop] at hc; cases hc
 | nilCheck y => exact q_nilCheck h hop hc hx
 | binOp op ty y z ty' => exact q_binOp h hop hc hx
 | unOp op ty y => exact q_un_ok h hop hc hx
 | convert s d y => exact q_convert h hop hc hx
 | sliceToArrayPointer d y => exact q_arrayPtr h hop hc hx
 | makeInterface ty y => exact q_makeInterface h hop hc hx
 | makeFunc fn l1 l2 =>
   cases fn with
   | func f => exact q_makeFunc h hop hc hx
   | _ => rw [hop] at hc; cases hc
 | makeMap ty r =>
   cases r with
   | none => rw [hop] at hc; cases hc
   | some z => rw [hop] at hc; cases hc
 | makeChan ty y => rw [hop] at hc; cases hc
 | makeSlice ty l k =>
   rw [hop] at hc; simp only [compOp] at hc
   split at hc
   · split at hc
     · split at hc <;> cases hc
     · cases hc
   · cases hc
 | slice ty y lo hi mx => exact q_slice h hop hc hx
 | fieldAddr ty y f => exact q_fieldAddr h hop hc hx
 | field ty y f => exact q_field h hop hc hx
 | indexAddr ty y i => exact q_indexAddr h hop hc hx
 | index ty y i => exact q_index h hop hc hx
 | lookup ty y i ok => exact q_lookup h hop hc hx
 | mapUpdate ty m k v =>
   rw [hop] at hc; simp only [compOp] at hc
   split at hc
   · obtain ⟨z, _, e⟩ := Option.map_eq_some_iff.1 hc; cases e
   · cases hc
 | mapEntry ty m k => rw [hop] at hc; cases hc
 | entryStore ty m s v => rw [hop] at hc; cases hc
 | range ty y =>
   rw [hop] at hc; simp only [compOp] at hc
   split at hc <;> cases hc
 | next y b =>
   rw [hop] at hc
   cases b <;> (obtain ⟨z, _, e⟩ := Option.map_eq_some_iff.1 hc; cases e)
 | entry y => rw [hop] at hc; obtain ⟨z, _, e⟩ := Option.map_eq_some_iff.1 hc; cases e
 | typeAssert y ty ty' ok => exact q_typeAssert h hop hc hx
 | extract y i => exact q_extract h hop hc hx
 | call cl =>
   rw [hop] at hc
   simp only [compOp] at hc
   split at hc
   · rename_i b hcal
     exact q_builtin h hop hcal hc hx
   · rename_i f hcal
     split at hc
     · rename_i fn hf
       split at hc
       · rename_i hb
         exact q_extern h hop hcal hf hb hc hx
       · obtain ⟨z, _, e⟩ := Option.map_eq_some_iff.1 hc; cases e
     · cases hc
   · split at hc <;> cases hc
   · split at hc <;> cases hc
 | go cl => rw [hop] at hc; cases hc
 | defer cl => rw [hop] at hc; cases hc
 | panic y => rw [hop] at hc; cases hc
 | send y z => rw [hop] at hc; cases hc
 | recv ty y b => rw [hop] at hc; cases hc
 | select cs b => rw [hop] at hc; cases hc
end
theorem cell_eq (n : Nat) (d : List V) (cs : T) (k : Nat) : cell n d cs k = if k < n then (match cs.get k with | some v => some v | none => d[k % d.length]?) else none := by
 show (Bool.rec (motive := fun _ => Option V) none (Option.rec (motive := fun _ => Option V) (nth d (Nat.mod k d.length)) (fun v => some v) (cs.get k)) (Nat.blt k n)) = _
 rw [bb, bltN]
 simp only [decide_eq_true_eq]
 by_cases h : k < n
 · rw [if_pos h, if_pos h]
   cases cs.get k with
   | none => exact nth_eq d _
   | some v => rfl
 · rw [if_neg h, if_neg h]
theorem cell_list {l : List V} {k : Nat} {v : V} (h : cell l.length [] (listTr l 0 .e) k = some v) : l[k]? = some v := by
 rw [cell_eq, listTr_get] at h
 by_cases hk : k < l.length
 · rw [if_pos hk, if_pos (by omega)] at h
   simp only [Nat.sub_zero] at h
   rw [List.getElem?_eq_getElem hk] at h ⊢
   exact h
 · rw [if_neg hk] at h; cases h
section
variable {P : Program} {E : Env} {F : RO} {M : Mem} {c : Nat → Prop} {w : World} {t : T} {a : Act}
theorem list_rel {E' : Env} {l : List V} {b ty : Nat} (he : Ext c E E') (hl : bds c l) (hβ : E'.β b = 0) {arr : Array Value} (ha : arr = (concs E l).toArray) :
  BlkRel P E' b (.cells ty l.length true 0 false [] (listTr l 0 .e)) (.cells arr ty) := by
 refine ⟨arr, (0, 0), rfl, ⟨fun k v hk => ?_, ?_, ?_, ?_⟩⟩
 · have hk := cell_list hk
   rw [hβ, Nat.zero_add, ha, conc_ext he v (bds_get hl hk)]
   simp [concs_get hk]
 · simp [hβ, ha, concs_map]
 · intro o _ _ h; omega
 · intro _; exact .inl rfl
theorem list_bd {l : List V} {ty : Nat} {c' : Nat → Prop} {ex str : Bool} {fz : Nat} (hl : bds c l) (hc : ∀ b, c b → c' b) : bdBlk c' (.cells ty l.length ex fz str [] (listTr l 0 .e)) :=
 fun k v hk => bd_mono hc v (bds_get hl (cell_list hk))
abbrev AOk (P : Program) (F : RO) (E : Env) (M : Mem) (c : Nat → Prop) (w : World) (a : Act) (o : Oper) (b : Nat) (c' : Nat → Prop) (v : V) (blk : Blk) : Prop :=
 ∃ E' w', (execOp a.eval o).run P w = .ok (.value (conc E' v)) w' ∧ Stp P F E M c w E' (M.set b blk) c' w' ∧ Ext (· ≠ b) E E' ∧ bd c' v
theorem a_alloc (h : Cx P E F M c w t a) {o : Oper} {ty : TypeId} (hop : o.op = .alloc ty) {ao : AO} (hc : compOp P o.op = some (.a ao)) {b : Nat} {c' : Nat → Prop} (hb : ¬ c b) (hbc : c' b) (hcc : ∀ b, c b → c' b) {v : V} {blk : Blk} (ha : aop ao b t = some (v, blk)) : AOk P F E M c w a o b c' v blk := by
 rw [hop] at hc
 obtain ⟨z, hz, e⟩ := Option.map_eq_some_iff.1 hc
 obtain rfl : AO.al ty (cellsOfV z) = ao := by simpa using e
 have ha' : a_al ty (cellsOfV z) b t = some (v, blk) := ha
 unfold a_al at ha'
 by_cases h1 : allOne (cellsOfV z) = true
 · rw [h1, cond_true] at ha'
   simp only [Option.some.injEq, Prod.mk.injEq] at ha'
   obtain ⟨rfl, rfl⟩ := ha'
   have hz' := zeroV_run (E := E) (c := c) (w := w) hz
   have hcell : (conc E z).cells = (concs E (cellsOfV z)).toArray := by rw [flatten_cells, cellsOfV_eq]
   have hbd : bds c (cellsOfV z) := by rw [cellsOfV_eq]; exact flatten_bd hz'.2
   obtain ⟨E', hS, hE, hρ, hβ, _⟩ := h.rel.alloc (.cells ty (cellsOfV z).length true 0 false [] (listTr (cellsOfV z) 0 .e)) (.cells (conc E z).cells ty) b 0 c' hb hbc hcc (list_bd hbd hcc) { w with heap := w.heap.push (.cells (conc E z).cells ty) } rfl rfl rfl rfl
    (fun E' he _ hβ _ => list_rel he hbd hβ hcell)
   refine ⟨E', _, ?_, hS, hE, hbc⟩
   simp only [execOp, hop]
   refine val_run ?_
   simp only [Instr.alloc, Sem.run_bind, hz'.1, Result.andThen_ok, newVar, newRow, run_newObj, Sem.run_pure, conc, hρ, hβ, Nat.add_zero]
 · rw [Bool.not_eq_true] at h1
   rw [h1] at ha'; cases ha'
theorem a_box (h : Cx P E F M c w t a) {o : Oper} {ty : TypeId} {y : Operand} (hop : o.op = .box ty y) {ao : AO} (hc : compOp P o.op = some (.a ao)) {b : Nat} {c' : Nat → Prop} (hb : ¬ c b) (hbc : c' b) (hcc : ∀ b, c b → c' b) {v : V} {blk : Blk} (ha : aop ao b t = some (v, blk)) : AOk P F E M c w a o b c' v blk := by
 rw [hop] at hc
 simp only [compOp] at hc
 split at hc
 · rename_i s x hs hx
   obtain rfl : AO.bx ty s x = ao := by simpa using hc
   have ha' : a_bx ty s x b t = some (v, blk) := ha
   unfold a_bx at ha'
   rw [beqN] at ha'
   by_cases h1 : (flatten (x.ev t)).length = s
   · by_cases h2 : allOne (flatten (x.ev t)) = true
     · rw [decide_eq_true h1, h2] at ha'
       simp only [Bool.and_self, cond_true, Option.some.injEq, Prod.mk.injEq] at ha'
       obtain ⟨rfl, rfl⟩ := ha'
       subst h1
       have e := h.ev hx
       have hbd := flatten_bd e.2
       obtain ⟨E', hS, hE, hρ, hβ, _⟩ := h.rel.alloc (.cells ty (flatten (x.ev t)).length true 0 false [] (listTr (flatten (x.ev t)) 0 .e)) (.cells (conc E (x.ev t)).cells ty) b 0 c' hb hbc hcc (list_bd hbd hcc) { w with heap := w.heap.push (.cells (conc E (x.ev t)).cells ty) } rfl rfl rfl rfl
        (fun E' he _ hβ _ => list_rel he hbd hβ (flatten_cells E _))
       refine ⟨E', _, ?_, hS, hE, hbc⟩
       simp only [execOp, hop]
       refine val_run ?_
       rw [e.1]
       simp only [Instr.box, Sem.run_bind, Result.andThen_ok, newVar, newRow, run_newObj, Sem.run_pure, conc, hρ, hβ, Nat.add_zero]
     · rw [Bool.not_eq_true] at h2
       rw [h2, Bool.and_false] at ha'; cases ha'
   · rw [decide_eq_false h1] at ha'; cases ha'
 · cases hc
theorem a_makeMap (h : Cx P E F M c w t a) {o : Oper} {ty : TypeId} (hop : o.op = .makeMap ty none) {ao : AO} (hc : compOp P o.op = some (.a ao)) {b : Nat} {c' : Nat → Prop} (hb : ¬ c b) (hbc : c' b) (hcc : ∀ b, c b → c' b) {v : V} {blk : Blk} (ha : aop ao b t = some (v, blk)) : AOk P F E M c w a o b c' v blk := by
 rw [hop] at hc
 obtain rfl : AO.mkm = ao := by simpa [compOp] using hc
 have ha' : a_mkm b t = some (v, blk) := ha
 simp only [a_mkm, Option.some.injEq, Prod.mk.injEq] at ha'
 obtain ⟨rfl, rfl⟩ := ha'
 obtain ⟨E', hS, hE, hρ, hβ, _⟩ := h.rel.alloc (.map [] 0) (.map #[] 0) b 0 c' hb hbc hcc (fun e he => by cases he) { w with heap := w.heap.push (.map #[] 0) } rfl rfl rfl rfl (fun E' _ _ _ _ => .inl ⟨rfl, rfl⟩)
 refine ⟨E', _, ?_, hS, hE, hbc⟩
 simp only [execOp, hop]
 refine val_run ?_
 simp [Instr.makeMap, conc, hρ]
theorem a_rangeS (h : Cx P E F M c w t a) {o : Oper} {ty : TypeId} {y : Operand} (hop : o.op = .range ty y) {ao : AO} (hc : compOp P o.op = some (.a ao)) {b : Nat} {c' : Nat → Prop} (hb : ¬ c b) (hbc : c' b) (hcc : ∀ b, c b → c' b) {v : V} {blk : Blk} (ha : aop ao b t = some (v, blk)) : AOk P F E M c w a o b c' v blk := by
 rw [hop] at hc
 simp only [compOp] at hc
 split at hc
 · rename_i x hu hx
   obtain rfl : AO.rgs x = ao := by simpa using hc
   have e := h.ev hx
   cases hv : x.ev t with
   | s n s =>
     have ha' : (onS (x.ev t) none fun n s => some (V.p b 0, Blk.siter n s 0)) = some (v, blk) := ha
     rw [hv] at ha' e
     have ha2 : some (V.p b 0, Blk.siter n s 0) = some (v, blk) := ha'
     simp only [Option.some.injEq, Prod.mk.injEq] at ha2
     obtain ⟨rfl, rfl⟩ := ha2
     obtain ⟨E', hS, hE, hρ, hβ, _⟩ := h.rel.alloc (.siter n s 0) (.stringIter (ba n s) 0) b 0 c' hb hbc hcc trivial { w with heap := w.heap.push (.stringIter (ba n s) 0) } rfl rfl rfl rfl (fun E' _ _ hβ _ => ⟨hβ, rfl⟩)
     refine ⟨E', _, ?_, hS, hE, hbc⟩
     simp only [execOp, hop]
     refine val_run ?_
     rw [e.1]
     simp [Instr.range, run_und hu, conc, hρ, hβ]
   | _ =>
     have ha' : (onS (x.ev t) none fun n s => some (V.p b 0, Blk.siter n s 0)) = some (v, blk) := ha
     rw [hv] at ha'
     cases (show (none : Option (V × Blk)) = some (v, blk) from ha')
 · cases hc
 · cases hc
theorem byteCells_one (n : Nat) : ∀ (x j : Nat) (v : V), (byteCells n x)[j]? = some v → bd c v := fun x j v hj => bds_get (byteCells_bd n x) hj
theorem a_convert (h : Cx P E F M c w t a) {o : Oper} {s d : TypeId} {y : Operand} (hop : o.op = .convert s d y) {ao : AO} (hc : compOp P o.op = some (.a ao)) {b : Nat} {c' : Nat → Prop} (hb : ¬ c b) (hbc : c' b) (hcc : ∀ b, c b → c' b) {v : V} {blk : Blk} (ha : aop ao b t = some (v, blk)) : AOk P F E M c w a o b c' v blk := by
 rw [hop] at hc
 simp only [compOp] at hc
 split at hc
 · cases hc
 · cases hc
 · split at hc <;> cases hc
 · rename_i el x hs hd hx
   split at hc
   · rename_i hu8
     obtain rfl : AO.sb el x = ao := by simpa using hc
     rw [Bool.and_eq_true] at hu8
     have hel : P.underlying el = some (.int .u8) := by
      have := hu8.1
      unfold isU8 at this
      split at this
      · assumption
      · cases this
     have hsz : P.cellsOf el = 1 := cellsOf_sz (by simpa using hu8.2)
     have e := h.ev hx
     have ha' : (onS (x.ev t) none fun n s => some (V.u b 0 n 0 n, Blk.cells el n false 0 true [] (listTr (byteCells n s) 0 .e))) = some (v, blk) := ha
     cases hv : x.ev t with
     | s n sx =>
       rw [hv] at ha' e
       have ha2 : some (V.u b 0 n 0 n, Blk.cells el n false 0 true [] (listTr (byteCells n sx) 0 .e)) = some (v, blk) := ha'
       simp only [Option.some.injEq, Prod.mk.injEq] at ha2
       obtain ⟨rfl, rfl⟩ := ha2
       have hrun := run_bytes_of_string (P := P) w s d el (ba n sx) hs hd hel
       have hgc : n ≤ grownCap w n 0 el := by simp [grownCap, Question.cut]
       have hrow : bytesRow (ba n sx) (grownCap w n 0 el) = (concs E (byteCells n sx)).toArray ++ Array.replicate (grownCap w n 0 el - n) (.int .u8 0) := by
        rw [bytesRow, byteCells_conc, ba_size]
        congr 1
        simp [ba]
       have hrs : (bytesRow (ba n sx) (grownCap w n 0 el)).size = grownCap w n 0 el := by
        rw [hrow]; simp [concs_map, byteCells_length]; omega
       rw [ba_size] at hrun
       obtain ⟨E', hS, hE, hρ, hβ, hκ⟩ := h.rel.alloc (.cells el n false 0 true [] (listTr (byteCells n sx) 0 .e)) (.cells (bytesRow (ba n sx) (grownCap w n 0 el)) el ((bytesRow (ba n sx) (grownCap w n 0 el)).size, (bytesRow (ba n sx) (grownCap w n 0 el)).size + 1)) b (grownCap w n 0 el - n) c' hb hbc hcc
        (fun k v hk => bd_mono hcc v (by
         have hk' := cell_list (l := byteCells n sx) (by rw [byteCells_length]; exact hk)
         exact byteCells_one n sx _ v hk'))
        (w.drew.alloc (.cells (bytesRow (ba n sx) (grownCap w n 0 el)) el ((bytesRow (ba n sx) (grownCap w n 0 el)).size, (bytesRow (ba n sx) (grownCap w n 0 el)).size + 1))) rfl rfl rfl rfl
        (fun E' he _ hβ hκ => by
         refine ⟨_, _, rfl, ⟨fun k v hk => ?_, ?_, ?_, ?_⟩⟩
         · have hk' := cell_list (l := byteCells n sx) (by rw [byteCells_length]; exact hk)
           have hlt : k < (byteCells n sx).length := (List.getElem?_eq_some_iff.1 hk').1
           rw [hβ, Nat.zero_add, hrow, conc_ext he v (byteCells_one n sx _ v hk'), Array.getElem?_append_left (by simpa [concs_map] using hlt)]
           simp [concs_get hk']
         · simp only [Bool.false_eq_true, if_false]
           rw [hrs, hβ, hκ, hsz]; omega
         · intro o _ ho hf
           have := hf.1
           simp only at this
           omega
         · intro hf; cases hf)
       refine ⟨E', _, ?_, hS, hE, hbc⟩
       simp only [execOp, hop]
       refine val_run ?_
       rw [e.1]
       simp only [conc]
       rw [hrun, hρ, hβ, hκ]
       have e0 : grownCap w n 0 el = n - 0 + (grownCap w n 0 el - n) := by omega
       rw [← e0]
     | _ =>
       rw [hv] at ha'
       cases (show (none : Option (V × Blk)) = some (v, blk) from ha')
   · cases hc
 · split at hc <;> cases hc
 · split at hc <;> cases hc
 · split at hc <;> cases hc
 · cases hc
theorem zeroRow_get (zero : Array Value) (n j : Nat) (hj : j < n) (hz : 0 < zero.size) : ((Array.range n).map (zero[· % zero.size]!))[j]? = zero[j % zero.size]? := by
 have hm : j % zero.size < zero.size := Nat.mod_lt _ hz
 simp [hj, hm]
structure RowOk (E : Env) (m : Nat) (zero : List V) (tr : T) (arr : Array Value) : Prop where
 size : arr.size = m
 get : ∀ k v, cell m zero tr k = some v → arr[k]? = some (conc E v)
 bd : ∀ k v, cell m zero tr k = some v → Ev.bd c v
theorem fillP_run (h : Cx P E F M c w t a) {sz m : Nat} {zero : List V} : ∀ {ps : List (Nat × Operand)} {qs : List (Nat × X)} {tr r : T} {arr : Array Value}, compParts2 sz ps = some qs → fillP sz m t qs tr = some r → RowOk (c := c) E m zero tr arr →
  ∃ arr', Instr.fill (fun i => some (i * sz, sz)) arr (ps.map fun p => (p.1, a.eval p.2)) = some arr' ∧ RowOk (c := c) E m zero r arr'
 | [], qs, tr, r, arr, hc, hf, hR => by
   obtain rfl := Option.some.inj hc
   obtain rfl := Option.some.inj hf
   exact ⟨arr, rfl, hR⟩
 | (i, y) :: ps, qs, tr, r, arr, hc, hf, hR => by
   rw [compParts2] at hc
   split at hc
   · rename_i x l h1 h2
     obtain rfl := Option.some.inj hc
     rw [fillP, beqN, bleN, Tr.force_eq] at hf
     have e := h.ev h1
     by_cases g1 : (flatten (x.ev t)).length = sz
     · by_cases g2 : i * sz + sz ≤ m
       · by_cases g3 : allOne (flatten (x.ev t)) = true
         · rw [decide_eq_true g1, show Nat.add (i * sz) sz = i * sz + sz from rfl, decide_eq_true g2, g3] at hf
           simp only [Bool.and_self, cond_true] at hf
           have hcells : (a.eval y).cells = (concs E (flatten (x.ev t))).toArray := by rw [e.1, flatten_cells]
           have hlen : (concs E (flatten (x.ev t))).length = sz := by simp [concs_map, g1]
           have hfold := foldSet (i * sz) (concs E (flatten (x.ev t))) 0 arr
           have hR' : RowOk (c := c) E m zero (listTr (flatten (x.ev t)) (i * sz) tr) (((concs E (flatten (x.ev t))).zipIdx 0).foldl (fun cs (p : Value × Nat) => cs.setIfInBounds (i * sz + p.2) p.1) arr) := by
            refine ⟨by rw [hfold.1, hR.size], fun k v hk => ?_, fun k v hk => ?_⟩
            · rw [cell_eq, listTr_get] at hk
              by_cases hkm : k < m
              · rw [if_pos hkm] at hk
                rw [hfold.2 k (by rw [hR.size]; exact hkm), hlen, Nat.add_zero]
                rw [g1] at hk
                by_cases hin : i * sz ≤ k ∧ k < i * sz + sz
                · rw [if_pos hin] at hk ⊢
                  have hlt : k - i * sz < (flatten (x.ev t)).length := by omega
                  rw [List.getElem?_eq_getElem hlt] at hk
                  obtain rfl := Option.some.inj hk
                  exact concs_get (List.getElem?_eq_getElem hlt)
                · rw [if_neg hin] at hk ⊢
                  exact hR.get k v (by rw [cell_eq, if_pos hkm]; exact hk)
              · rw [if_neg hkm] at hk; cases hk
            · rw [cell_eq, listTr_get] at hk
              by_cases hkm : k < m
              · rw [if_pos hkm] at hk
                by_cases hin : i * sz ≤ k ∧ k < i * sz + (flatten (x.ev t)).length
                · rw [if_pos hin] at hk
                  have hlt : k - i * sz < (flatten (x.ev t)).length := by omega
                  rw [List.getElem?_eq_getElem hlt] at hk
                  obtain rfl := Option.some.inj hk
                  exact bds_get (flatten_bd e.2) (List.getElem?_eq_getElem hlt)
                · rw [if_neg hin] at hk
                  exact hR.bd k v (by rw [cell_eq, if_pos hkm]; exact hk)
              · rw [if_neg hkm] at hk; cases hk
           obtain ⟨arr', ha, hR''⟩ := fillP_run h h2 hf hR'
           refine ⟨arr', ?_, hR''⟩
           simp only [List.map_cons, Instr.fill, hcells]
           have c1 : (concs E (flatten (x.ev t))).toArray.size = sz := by simp [concs_map, g1]
           rw [c1, hR.size]
           have c2 : ¬ (i * sz + sz > m) := by omega
           simp only [ne_eq, not_true_eq_false, decide_false, Bool.false_or, decide_eq_true_eq, c2, if_false]
           rw [← ha]
           congr 1
           simp
         · rw [Bool.not_eq_true] at g3
           rw [g3, Bool.and_false] at hf; cases hf
       · rw [show Nat.add (i * sz) sz = i * sz + sz from rfl, decide_eq_false g2] at hf
         simp at hf
     · rw [decide_eq_false g1] at hf; simp at hf
   · cases hc
theorem zero_row {zero : List V} {m : Nat} (hz : bds c zero) (hpos : 0 < zero.length) : RowOk (c := c) E m zero .e ((Array.range m).map ((concs E zero).toArray[· % (concs E zero).toArray.size]!)) := by
 have hsz : (concs E zero).toArray.size = zero.length := by simp [concs_map]
 refine ⟨by simp, fun k v hk => ?_, fun k v hk => ?_⟩
 · rw [cell_eq] at hk
   by_cases hkm : k < m
   · rw [if_pos hkm] at hk
     rw [zeroRow_get _ _ _ hkm (by rw [hsz]; exact hpos), hsz]
     simp only [Tr.get_e] at hk
     simp [concs_get hk]
   · rw [if_neg hkm] at hk; cases hk
 · rw [cell_eq] at hk
   by_cases hkm : k < m
   · rw [if_pos hkm] at hk
     simp only [Tr.get_e] at hk
     exact bds_get hz hk
   · rw [if_neg hkm] at hk; cases hk
theorem row_rel {E' : Env} {m b ty : Nat} {zero : List V} {tr : T} {arr : Array Value} (he : Ext c E E') (hR : RowOk (c := c) E m zero tr arr) (hβ : E'.β b = 0) : BlkRel P E' b (.cells ty m true 0 false zero tr) (.cells arr ty) := by
 refine ⟨arr, (0, 0), rfl, ⟨fun k v hk => ?_, ?_, ?_, ?_⟩⟩
 · rw [hβ, Nat.zero_add, hR.get k v hk, conc_ext he v (hR.bd k v hk)]
 · simp [hβ, hR.size]
 · intro o _ _ h; omega
 · intro _; exact .inl rfl
theorem empty_row {m : Nat} (hm : m = 0) (zero : List V) : RowOk (c := c) E m zero .e ((Array.range m).map ((#[] : Array Value)[· % (#[] : Array Value).size]!)) := by
 subst hm
 refine ⟨by simp, fun k v hk => ?_, fun k v hk => ?_⟩ <;> (rw [cell_eq, if_neg (by omega)] at hk; cases hk)
theorem a_buildSlice (h : Cx P E F M c w t a) {o : Oper} {ty : TypeId} {n : Nat} {parts : Array (Nat × Operand)} (hop : o.op = .buildSlice ty n parts) {ao : AO} (hc : compOp P o.op = some (.a ao)) {b : Nat} {c' : Nat → Prop} (hb : ¬ c b) (hbc : c' b) (hcc : ∀ b, c b → c' b) {v : V} {blk : Blk} (ha : aop ao b t = some (v, blk)) : AOk P F E M c w a o b c' v blk := by
 rw [hop] at hc
 simp only [compOp] at hc
 have hparts : (parts.map fun (p : Nat × Operand) => (p.1, a.eval p.2)).toList = parts.toList.map fun p => (p.1, a.eval p.2) := by simp
 split at hc
 · rename_i el hu
   split at hc
   · rename_i s z hs hz
     split at hc
     · cases hc
     · rename_i hcond
       simp only [Bool.or_eq_true, decide_eq_true_eq, not_or] at hcond
       obtain ⟨qs, hqs, e⟩ := Option.map_eq_some_iff.1 hc
       obtain rfl : AO.bsl el n s (cellsOfV z) qs = ao := by simpa using e
       have ha' : a_bsl el n s (cellsOfV z) qs b t = some (v, blk) := ha
       unfold a_bsl at ha'
       split at ha'
       · rename_i tr htr
         rw [fN_eq] at ha'
         simp only [Option.some.injEq, Prod.mk.injEq] at ha'
         obtain ⟨rfl, rfl⟩ := ha'
         have hz' := zeroV_run (E := E) (c := c) (w := w) hz
         have hcell : (conc E z).cells = (concs E (cellsOfV z)).toArray := by rw [flatten_cells, cellsOfV_eq]
         have hbd : bds c (cellsOfV z) := by rw [cellsOfV_eq]; exact flatten_bd hz'.2
         by_cases hpos : 0 < (cellsOfV z).length
         · by_cases hns : n * s = 0
           · obtain ⟨arr, hfill, hR⟩ := fillP_run h hqs (m := n * s) htr (empty_row (E := E) hns (cellsOfV z))
             obtain ⟨E', hS, hE, hρ, hβ, _⟩ := h.rel.alloc (.cells el (n * s) true 0 false (cellsOfV z) tr) (.cells arr el) b 0 c' hb hbc hcc (fun k v hk => bd_mono hcc v (hR.bd k v hk)) { w with heap := w.heap.push (.cells arr el) } rfl rfl rfl rfl
              (fun E' he _ hβ _ => row_rel he hR hβ)
             refine ⟨E', _, ?_, hS, hE, hbc⟩
             simp only [execOp, hop]
             refine val_run ?_
             have hns' : ¬ (n * s > 2 ^ 24) := by omega
             simp only [Instr.buildSlice, Sem.run_bind, run_und hu, Result.andThen_ok, run_sz hs, hns', if_false, Sem.run_ite, hns, if_true, Sem.run_pure, hparts]
             rw [hns] at hfill
             simp only [hfill, newRow, Sem.run_bind, run_newObj, Sem.run_pure, Result.andThen_ok, conc, hρ, hβ, Nat.add_zero]
             rw [if_neg (by decide)]
           · obtain ⟨arr, hfill, hR⟩ := fillP_run h hqs (m := n * s) htr (zero_row (E := E) hbd hpos)
             obtain ⟨E', hS, hE, hρ, hβ, _⟩ := h.rel.alloc (.cells el (n * s) true 0 false (cellsOfV z) tr) (.cells arr el) b 0 c' hb hbc hcc (fun k v hk => bd_mono hcc v (hR.bd k v hk)) { w with heap := w.heap.push (.cells arr el) } rfl rfl rfl rfl
              (fun E' he _ hβ _ => row_rel he hR hβ)
             refine ⟨E', _, ?_, hS, hE, hbc⟩
             simp only [execOp, hop]
             refine val_run ?_
             have hns' : ¬ (n * s > 2 ^ 24) := hcond.1.2
             simp only [Instr.buildSlice, Sem.run_bind, run_und hu, Result.andThen_ok, run_sz hs, hns', if_false, Sem.run_ite, hns, hz'.1, Sem.run_pure, hparts, hcell]
             simp only [hfill, newRow, Sem.run_bind, run_newObj, Sem.run_pure, Result.andThen_ok, conc, hρ, hβ, Nat.add_zero]
         · exfalso
           have := hcond.2
           cases hcz : cellsOfV z with
           | nil => rw [hcz] at this; simp at this
           | cons x l => rw [hcz] at hpos; simp at hpos
       · cases ha'
   · cases hc
 · cases hc
theorem a_makeSlice (h : Cx P E F M c w t a) {o : Oper} {ty : TypeId} {l k : Operand} (hop : o.op = .makeSlice ty l k) {ao : AO} (hc : compOp P o.op = some (.a ao)) {b : Nat} {c' : Nat → Prop} (hb : ¬ c b) (hbc : c' b) (hcc : ∀ b, c b → c' b) {v : V} {blk : Blk} (ha : aop ao b t = some (v, blk)) : AOk P F E M c w a o b c' v blk := by
 rw [hop] at hc
 simp only [compOp] at hc
 split at hc
 · rename_i el xl xk hu h1 h2
   split at hc
   · rename_i s by_ z hs hby hz
     split at hc
     · cases hc
     · rename_i hcond
       simp only [Bool.or_eq_true, decide_eq_true_eq, not_or] at hcond
       obtain rfl : AO.mks el s by_ (cellsOfV z) xl xk = ao := by simpa using hc
       have ha' : a_mks1 el s by_ (cellsOfV z) b (asN (xl.ev t)) (asN (xk.ev t)) = some (v, blk) := ha
       unfold a_mks1 at ha'
       split at ha'
       · rename_i ln cp hl hk
         rw [bleN, bleN] at ha'
         by_cases g1 : ln ≤ cp
         · by_cases g2 : cp * (by_ + 1) ≤ 281474976710656
           · rw [decide_eq_true g1, show Nat.mul cp (Nat.succ by_) = cp * (by_ + 1) from rfl, decide_eq_true g2, fN_eq] at ha'
             simp only [Bool.and_self, cond_true, Option.some.injEq, Prod.mk.injEq] at ha'
             obtain ⟨rfl, rfl⟩ := ha'
             obtain ⟨k1, e1⟩ := asN_some hl
             obtain ⟨k2, e2⟩ := asN_some hk
             have v1 := h.ev h1
             have v2 := h.ev h2
             rw [e1] at v1
             rw [e2] at v2
             have hz' := zeroV_run (E := E) (c := c) (w := w) hz
             have hcell : (conc E z).cells = (concs E (cellsOfV z)).toArray := by rw [flatten_cells, cellsOfV_eq]
             have hbd : bds c (cellsOfV z) := by rw [cellsOfV_eq]; exact flatten_bd hz'.2
             have hpos : 0 < (cellsOfV z).length := by
              cases hcz : cellsOfV z with
              | nil => exact absurd (by rw [hcz]; rfl) hcond.2
              | cons x l => exact Nat.succ_pos _
             have hcp : cp ≤ 281474976710656 := by
              have : cp * 1 ≤ cp * (by_ + 1) := Nat.mul_le_mul_left cp (by omega)
              omega
             have hbc2 : by_ * cp ≤ 281474976710656 := by
              have : cp * by_ ≤ cp * (by_ + 1) := Nat.mul_le_mul_left cp (by omega)
              rw [Nat.mul_comm]; omega
             have w1 : IntKind.i64.wrap (ln : Int) = ln := by
              rw [wrap_s .i64 _ 18446744073709551616 9223372036854775808 rfl (by decide) (by decide), if_neg (by omega)]; omega
             have w2 : IntKind.i64.wrap (cp : Int) = cp := by
              rw [wrap_s .i64 _ 18446744073709551616 9223372036854775808 rfl (by decide) (by decide), if_neg (by omega)]; omega
             obtain ⟨i, hi, hib⟩ : ∃ i, P.info? el = some i ∧ i.bytes = by_ := by
              obtain ⟨i, hi, e⟩ := Option.map_eq_some_iff.1 hby
              exact ⟨i, hi, e⟩
             have hti : (typeInfo el).run P w = .ok i w := by simp [typeInfo, hi]
             have hbig : ¬ ((by_ : Int) * (cp : Int) > 2 ^ 48) := by
              have : ((by_ * cp : Nat) : Int) ≤ ((281474976710656 : Nat) : Int) := Int.ofNat_le.2 hbc2
              rw [Int.natCast_mul] at this
              have h48 : (2 : Int) ^ 48 = 281474976710656 := by decide
              rw [h48]; omega
             have htest : (decide ((cp : Int) < 0) || decide ((by_ : Int) * (cp : Int) > 2 ^ 48) || decide ((ln : Int) < 0) || decide ((ln : Int) > (cp : Int))) = false := by
              simp only [Bool.or_eq_false_iff, decide_eq_false_iff_not]
              exact ⟨⟨⟨by omega, hbig⟩, by omega⟩, by omega⟩
             by_cases hns : cp * s = 0
             · have hR := empty_row (E := E) (c := c) hns (cellsOfV z)
               obtain ⟨E', hS, hE, hρ, hβ, _⟩ := h.rel.alloc (.cells el (cp * s) true 0 false (cellsOfV z) .e) (.cells _ el) b 0 c' hb hbc hcc (fun k v hk => bd_mono hcc v (hR.bd k v hk)) { w with heap := w.heap.push (.cells _ el) } rfl rfl rfl rfl
                (fun E' he _ hβ _ => row_rel he hR hβ)
               refine ⟨E', _, ?_, hS, hE, hbc⟩
               simp only [execOp, hop]
               refine val_run ?_
               rw [v1.1, v2.1]
               simp only [Instr.makeSlice, Sem.run_bind, run_und hu, Result.andThen_ok, conc, asInt, asIntOf, Sem.run_pure, hti, hib, w1, w2, htest, Bool.false_eq_true, if_false, Sem.run_ite, run_askRoom, Int.toNat_natCast, run_sz hs, hns, if_true, newRow, run_newObj, hρ, hβ, Nat.add_zero]
             · have hR := zero_row (E := E) (c := c) (m := cp * s) hbd hpos
               obtain ⟨E', hS, hE, hρ, hβ, _⟩ := h.rel.alloc (.cells el (cp * s) true 0 false (cellsOfV z) .e) (.cells _ el) b 0 c' hb hbc hcc (fun k v hk => bd_mono hcc v (hR.bd k v hk)) { w with heap := w.heap.push (.cells _ el) } rfl rfl rfl rfl
                (fun E' he _ hβ _ => row_rel he hR hβ)
               refine ⟨E', _, ?_, hS, hE, hbc⟩
               simp only [execOp, hop]
               refine val_run ?_
               rw [v1.1, v2.1]
               simp only [Instr.makeSlice, Sem.run_bind, run_und hu, Result.andThen_ok, conc, asInt, asIntOf, Sem.run_pure, hti, hib, w1, w2, htest, Bool.false_eq_true, if_false, Sem.run_ite, run_askRoom, Int.toNat_natCast, run_sz hs, hns, hz'.1, hcell, newRow, run_newObj, hρ, hβ, Nat.add_zero]
           · rw [show Nat.mul cp (Nat.succ by_) = cp * (by_ + 1) from rfl, decide_eq_false g2, Bool.and_false] at ha'; cases ha'
         · rw [decide_eq_false g1] at ha'; cases ha'
       · cases ha'
   · cases hc
 · cases hc
theorem digits_size (n : Nat) : ∀ (x : Nat) (acc : Array Value), (Extern.BytealgMakeNoZero.digits n x acc).size = acc.size + n := by
 induction n with
 | zero => intro x acc; rfl
 | succ n ih => intro x acc; rw [Extern.BytealgMakeNoZero.digits, ih]; simp; omega
theorem asI64_some {v : V} {n : Nat} (h : asI64 v = some n) : v = .i .i64 (n : Int) := by
 unfold asI64 at h
 split at h
 · obtain rfl := Option.some.inj h; rfl
 · cases h
theorem noZero_run {ps rs : Array TypeId} {ty el n : Nat} (hr : rs[0]? = some ty) (hu : P.underlying ty = some (.slice el)) (hn : n ≤ 1099511627776) :
  ∃ bytes, (Extern.BytealgMakeNoZero.makeNoZero ps rs #[.int .i64 (n : Int)]).run P w = .ok (.slice (some ⟨w.heap.size, 0, none⟩) n (grownCap w n 0 el))
   { w with heap := w.heap.push (.cells (Extern.BytealgMakeNoZero.digits (grownCap w n 0 el) bytes #[]) el), drawn := w.drawn + 1 + 1 } := by
 have h1 : ¬ ((n : Int) < 0) := by omega
 have h2 : ¬ ((n : Int) > 2 ^ 48) := by
  have h48 : (2 : Int) ^ 48 = 281474976710656 := by decide
  rw [h48]; omega
 refine ⟨?_, ?_⟩
 rotate_left
 · conv => lhs; arg 2; whnf
   simp only [hr, Sem.run_bind, run_und hu, Result.andThen_ok, h1, h2, decide_false, Bool.or_self, Bool.false_eq_true, if_false, Sem.run_ite, Int.toNat_natCast, run_choose, Question.forced, run_askRoom, newRow, run_newObj, Sem.run_pure, Question.cut]
   rfl
theorem a_extern (h : Cx P E F M c w t a) {o : Oper} {cl : Call} {f : FuncId} {fn : Func} (hop : o.op = .call cl) (hcal : cl.callee = .value (.func f)) (hf : P.funcs[f]? = some fn) (hb0 : fn.body.isNone = true) {ao : AO} (hc : compExtern P fn cl.args.toList = some (.a ao)) {b : Nat} {c' : Nat → Prop} (hb : ¬ c b) (hbc : c' b) (hcc : ∀ b, c b → c' b) {v : V} {blk : Blk} (ha : aop ao b t = some (v, blk)) : AOk P F E M c w a o b c' v blk := by
 unfold compExtern at hc
 split at hc
 · cases hc
 · rename_i hor
   have hor : fn.origin = "" := by simpa using hor
   split at hc
   · split at hc
     · split at hc <;> cases hc
     · split at hc
       · split at hc <;> cases hc
       · split at hc
         · split at hc <;> cases hc
         · split at hc
           · split at hc <;> cases hc
           · cases hc
   · rename_i y hargs
     split at hc
     · obtain ⟨z, hz, e⟩ := Option.bind_eq_some_iff.1 hc; cases e
     · split at hc
       · rename_i hnm
         have hnm : fn.name = "internal/bytealg.MakeNoZero" := by simpa using hnm
         split at hc
         · rename_i x ty hx hres
           split at hc
           · rename_i el hu
             split at hc
             · rename_i hu8
               rw [Bool.and_eq_true] at hu8
               have hsz : P.cellsOf el = 1 := cellsOf_sz (by simpa using hu8.2)
               obtain rfl : AO.nz el x = ao := by simpa using hc
               have ha' : a_nz el x b t = some (v, blk) := ha
               unfold a_nz at ha'
               split at ha'
               · rename_i n hn
                 rw [bleN] at ha'
                 by_cases g1 : n ≤ 1099511627776
                 · rw [decide_eq_true g1] at ha'
                   simp only [cond_true, Option.some.injEq, Prod.mk.injEq] at ha'
                   obtain ⟨rfl, rfl⟩ := ha'
                   have e1 := asI64_some hn
                   have v1 := h.ev hx
                   rw [e1] at v1
                   have hres0 : fn.resultTypes[0]? = some ty := by rw [arr_of_list hres]; rfl
                   have hgc : n ≤ grownCap w n 0 el := by simp [grownCap, Question.cut]
                   obtain ⟨bytes, w', hrun, hheap, hos, hout, htape⟩ : ∃ bytes w', (Extern.BytealgMakeNoZero.makeNoZero fn.params fn.resultTypes #[.int .i64 (n : Int)]).run P w = .ok (.slice (some ⟨w.heap.size, 0, none⟩) n (grownCap w n 0 el)) w' ∧
                     w'.heap = w.heap.push (.cells (Extern.BytealgMakeNoZero.digits (grownCap w n 0 el) bytes #[]) el) ∧ w'.os = w.os ∧ w'.output = w.output ∧ w'.tape = w.tape := by
                    obtain ⟨bytes, hb2⟩ := noZero_run (P := P) (w := w) (ps := fn.params) hres0 hu g1
                    exact ⟨bytes, _, hb2, rfl, rfl, rfl, rfl⟩
                   obtain ⟨E', hS, hE, hρ, hβ, hκ⟩ := h.rel.alloc (.cells el n false 0 false [] .e) (.cells (Extern.BytealgMakeNoZero.digits (grownCap w n 0 el) bytes #[]) el) b (grownCap w n 0 el - n) c' hb hbc hcc
                    (fun k v hk => by
                     rw [cell_eq] at hk
                     simp only [Tr.get_e, List.getElem?_nil] at hk
                     split at hk <;> cases hk) w' hheap hos hout htape
                    (fun E' he _ hβ hκ => by
                     refine ⟨_, _, rfl, ⟨fun k v hk => ?_, ?_, ?_, ?_⟩⟩
                     · rw [cell_eq] at hk
                       simp only [Tr.get_e, List.getElem?_nil] at hk
                       split at hk <;> cases hk
                     · simp only [Bool.false_eq_true, if_false]
                       rw [digits_size, hβ, hκ, hsz]; simp; omega
                     · intro o _ _ h; omega
                     · intro _; exact .inl rfl)
                   refine ⟨E', w', ?_, hS, hE, hbc⟩
                   refine exec_extern hop hcal hf hb0 (by rw [hnm]; decide) (next_none hnm hor nx_nz nx_empty) (find_typed hnm ge_nz ty_nz) hargs ?_
                   simp only [List.map_cons, List.map_nil, v1.1, conc]
                   rw [hrun, hρ, hβ, hκ]
                   have e0 : grownCap w n 0 el = n - 0 + (grownCap w n 0 el - n) := by omega
                   rw [← e0]
                 · rw [decide_eq_false g1] at ha'; cases ha'
               · cases ha'
             · cases hc
           · cases hc
         · cases hc
       · split at hc
         · obtain ⟨z, _, e⟩ := Option.map_eq_some_iff.1 hc; cases e
         · cases hc
   · cases hc
theorem a_all (h : Cx P E F M c w t a) {o : Oper} {ao : AO} (hc : compOp P o.op = some (.a ao)) {b : Nat} {c' : Nat → Prop} (hb : ¬ c b) (hbc : c' b) (hcc : ∀ b, c b → c' b) {v : V} {blk : Blk} (ha : aop ao b t = some (v, blk)) : AOk P F E M c w a o b c' v blk := by
 cases hop : o.op with
 | alloc ty => exact a_alloc h hop hc hb hbc hcc ha
 | box ty y => exact a_box h hop hc hb hbc hcc ha
 | buildSlice ty n ps => exact a_buildSlice h hop hc hb hbc hcc ha
 | convert s d y => exact a_convert h hop hc hb hbc hcc ha
 | makeMap ty r =>
   cases r with
   | none => exact a_makeMap h hop hc hb hbc hcc ha
   | some z => rw [hop] at hc; cases hc
 | makeSlice ty l k => exact a_makeSlice h hop hc hb hbc hcc ha
 | range ty y => exact a_rangeS h hop hc hb hbc hcc ha
 | call cl =>
   rw [hop] at hc
   simp only [compOp] at hc
   split at hc
   · rename_i b' hcal
     exfalso
     unfold compBuiltin at hc
     split at hc
     · split at hc <;> first | cases hc | (split at hc <;> cases hc)
     · split at hc <;> cases hc
     · split at hc
       · split at hc
         · split at hc
           · split at hc
             · split at hc <;> cases hc
             · cases hc
           · split at hc <;> cases hc
         · cases hc
       · cases hc
     · split at hc
       · split at hc
         · split at hc <;> cases hc
         · cases hc
       · cases hc
     · split at hc
       · split at hc
         · split at hc <;> cases hc
         · cases hc
       · cases hc
     · split at hc <;> cases hc
     · split at hc <;> cases hc
     · split at hc
       · obtain ⟨z, _, e⟩ := Option.map_eq_some_iff.1 hc; cases e
       · cases hc
     · split at hc
       · split at hc <;> cases hc
       · cases hc
     · obtain ⟨z, _, e⟩ := Option.bind_eq_some_iff.1 hc; cases e
     · split at hc
       · obtain ⟨z, _, e⟩ := Option.map_eq_some_iff.1 hc; cases e
       · cases hc
     · cases hc
   · rename_i f hcal
     split at hc
     · rename_i fn hf
       split at hc
       · rename_i hb0
         exact a_extern h hop hcal hf hb0 hc hb hbc hcc ha
       · obtain ⟨z, _, e⟩ := Option.map_eq_some_iff.1 hc; cases e
     · cases hc
   · split at hc <;> cases hc
   · split at hc <;> cases hc
 | move y => rw [hop] at hc; obtain ⟨z, _, e⟩ := Option.bind_eq_some_iff.1 hc; cases e
 | assign y => rw [hop] at hc; obtain ⟨z, _, e⟩ := Option.bind_eq_some_iff.1 hc; cases e
 | pick p y z => rw [hop] at hc; simp only [compOp] at hc; split at hc <;> cases hc
 | build ty ps =>
   rw [hop] at hc; simp only [compOp] at hc
   split at hc
   · split at hc
     · obtain ⟨z, _, e⟩ := Option.bind_eq_some_iff.1 hc; cases e
     · cases hc
   · split at hc
     · obtain ⟨z, _, e⟩ := Option.bind_eq_some_iff.1 hc; cases e
     · cases hc
   · cases hc
 | insert ty m k v =>
   rw [hop] at hc; simp only [compOp] at hc
   split at hc
   · obtain ⟨z, _, e⟩ := Option.map_eq_some_iff.1 hc; cases e
   · cases hc
 | load ty y => rw [hop] at hc; simp only [compOp] at hc; split at hc <;> cases hc
 | store ty y z => rw [hop] at hc; simp only [compOp] at hc; split at hc <;> cases hc
 | nilCheck y => rw [hop] at hc; obtain ⟨z, _, e⟩ := Option.bind_eq_some_iff.1 hc; cases e
 | binOp op ty y z ty' =>
   rw [hop] at hc; simp only [compOp] at hc
   split at hc
   · cases hc
   · cases hc
   · split at hc
     · obtain ⟨z, _, e⟩ := Option.bind_eq_some_iff.1 hc; cases e
     · obtain ⟨z, _, e⟩ := Option.bind_eq_some_iff.1 hc; cases e
     · cases hc
   · cases hc
 | unOp op ty y => rw [hop] at hc; obtain ⟨z, _, e⟩ := Option.bind_eq_some_iff.1 hc; cases e
 | makeInterface ty y => rw [hop] at hc; simp only [compOp] at hc; split at hc <;> cases hc
 | makeFunc fn l1 l2 =>
   cases fn with
   | func f => rw [hop] at hc; simp only [compOp] at hc; split at hc <;> cases hc
   | _ => rw [hop] at hc; cases hc
 | slice ty y lo hi mx =>
   rw [hop] at hc; simp only [compOp] at hc
   split at hc
   · split at hc
     · split at hc <;> cases hc
     · obtain ⟨z, _, e⟩ := Option.bind_eq_some_iff.1 hc; split at e <;> cases e
     · obtain ⟨z, _, e⟩ := Option.bind_eq_some_iff.1 hc; split at e <;> cases e
     · split at hc
       · obtain ⟨z, _, e⟩ := Option.bind_eq_some_iff.1 hc; split at e <;> cases e
       · cases hc
     · cases hc
   · cases hc
 | fieldAddr ty y f =>
   rw [hop] at hc; simp only [compOp] at hc
   split at hc
   · split at hc
     · split at hc <;> cases hc
     · cases hc
   · cases hc
 | field ty y f =>
   rw [hop] at hc; simp only [compOp] at hc
   split at hc
   · split at hc
     · split at hc <;> cases hc
     · cases hc
   · cases hc
 | indexAddr ty y i =>
   rw [hop] at hc; simp only [compOp] at hc
   split at hc
   · obtain ⟨z, _, e⟩ := Option.bind_eq_some_iff.1 hc; cases e
   · obtain ⟨z, _, e⟩ := Option.bind_eq_some_iff.1 hc; cases e
   · cases hc
 | index ty y i =>
   rw [hop] at hc; simp only [compOp] at hc
   split at hc
   · split at hc <;> cases hc
   · cases hc
   · cases hc
 | lookup ty y i ok =>
   rw [hop] at hc; simp only [compOp] at hc
   split at hc
   · split at hc <;> cases hc
   · cases hc
 | mapUpdate ty m k v =>
   rw [hop] at hc; simp only [compOp] at hc
   split at hc
   · obtain ⟨z, _, e⟩ := Option.map_eq_some_iff.1 hc; cases e
   · cases hc
 | entry y => rw [hop] at hc; obtain ⟨z, _, e⟩ := Option.map_eq_some_iff.1 hc; cases e
 | next y b =>
   rw [hop] at hc
   cases b <;> (obtain ⟨z, _, e⟩ := Option.map_eq_some_iff.1 hc; cases e)
 | typeAssert y ty ty' ok => rw [hop] at hc; simp only [compOp] at hc; split at hc <;> cases hc
 | extract y i => rw [hop] at hc; obtain ⟨z, _, e⟩ := Option.bind_eq_some_iff.1 hc; cases e
 | sliceToArrayPointer d y => rw [hop] at hc; simp only [compOp] at hc; split at hc <;> cases hc
 | _ => rw [hop] at hc; cases hc
end
def NV (nx : Next) (v : Value) : Prop := nx = .value v ∨ (nx = .skip ∧ v = Go.undef)
theorem modify_eq {h : Array Obj} {r : Nat} {x : Obj} (f : Obj → Obj) (hx : h[r]? = some x) : h.modify r f = h.setIfInBounds r (f x) := by
 apply Array.ext_getElem?
 intro j
 rw [Array.getElem?_modify]
 by_cases e : r = j
 · subst e
   obtain ⟨hlt, hx'⟩ := Array.getElem?_eq_some_iff.1 hx
   simp [hlt, hx']
 · rw [if_neg e, Array.getElem?_setIfInBounds_ne e]
theorem setCell_eq {w : World} {r o : Nat} {arr : Array Value} {ty : TypeId} {fr : Nat × Nat} (h : w.heap[r]? = some (.cells arr ty fr)) (v : Value) :
  w.setCell ⟨r, o, none⟩ v = { w with heap := w.heap.setIfInBounds r (.cells (arr.setIfInBounds o v) ty fr) } := by
 unfold World.setCell
 rw [modify_eq _ h]
 simp
def splice (arr : Array Value) (off : Nat) (vs : List Value) (k : Nat) : Array Value := (vs.zipIdx k).foldl (fun cs (p : Value × Nat) => cs.setIfInBounds (off + p.2) p.1) arr
theorem storeCells_run {P : Program} (r off : Nat) (ty : TypeId) (fr : Nat × Nat) : ∀ (vs : List Value) (k : Nat) (arr : Array Value) (w : World), w.heap[r]? = some (.cells arr ty fr) →
  Unfrozen fr (off + k) arr.size → off + k + vs.length ≤ arr.size → (∀ v ∈ vs, v.oneCell' = true) →
  (storeCells ⟨r, off, none⟩ vs k).run P w = .ok () { w with heap := w.heap.setIfInBounds r (.cells (splice arr off vs k) ty fr) }
 | [], k, arr, w, h, _, _, _ => by
   have hlt := (Array.getElem?_eq_some_iff.1 h)
   simp only [storeCells, Sem.run_pure, splice, List.zipIdx_nil, List.foldl_nil]
   congr 1
   have : w.heap.setIfInBounds r (.cells arr ty fr) = w.heap := by
    apply Array.ext_getElem?
    intro j
    by_cases e : r = j
    · subst e
      rw [h]
      simp [hlt.1]
    · rw [Array.getElem?_setIfInBounds_ne e]
   rw [this]
 | v :: vs, k, arr, w, h, hf, hs, h1 => by
   simp only [List.length_cons] at hs
   have hc : w.cell? ⟨r, off + k, none⟩ = some (arr[off + k]'(by omega)) := by
    simp only [World.cell?, h, Option.isSome_none, Bool.false_eq_true, if_false]
    exact Array.getElem?_eq_getElem (by omega)
   have hz : w.frozen? ⟨r, off + k, none⟩ = false := by
    simp only [World.frozen?, h]
    have := hf (off + k) (Nat.le_refl _) (by omega)
    rw [Bool.and_eq_false_iff]
    simp only [decide_eq_false_iff_not]
    omega
   have hlt := (Array.getElem?_eq_some_iff.1 h).1
   rw [storeCells, Sem.run_bind, Addr.add_eq, run_store P w _ v _ (h1 v (by simp)), hc]
   simp only [hz, Bool.false_eq_true, if_false, Result.andThen_ok]
   rw [setCell_eq h]
   have h' : ({ w with heap := w.heap.setIfInBounds r (.cells (arr.setIfInBounds (off + k) v) ty fr) } : World).heap[r]? = some (.cells (arr.setIfInBounds (off + k) v) ty fr) := by
    simp [hlt]
   have ih := storeCells_run (P := P) r off ty fr vs (k + 1) (arr.setIfInBounds (off + k) v) _ h' (fun o ho ho' => hf o (by omega) (by simpa using ho')) (by simp; omega) (fun x hx => h1 x (by simp [hx]))
   rw [ih]
   simp only [splice, List.zipIdx_cons, List.foldl_cons]
   congr 2
   apply Array.ext_getElem?
   intro j
   by_cases e : r = j
   · subst e; simp [hlt]
   · rw [Array.getElem?_setIfInBounds_ne e, Array.getElem?_setIfInBounds_ne e, Array.getElem?_setIfInBounds_ne e]
section
variable {P : Program} {E : Env} {F : RO} {M : Mem} {c : Nat → Prop} {w : World} {t : T} {a : Act}
theorem isOne_conc {v : V} (h : isOne v = true) : (conc E v).oneCell' = true := by
 cases v <;> first | rfl | cases (show false = true from h)
theorem allOne_mem : ∀ {l : List V}, allOne l = true → ∀ v ∈ l, isOne v = true
 | [], _, v, hv => by cases hv
 | x :: l, h, v, hv => by
   have h' : (Bool.rec (motive := fun _ => Bool) false (allOne l) (isOne x)) = true := h
   rw [bb] at h'
   by_cases hx : isOne x = true
   · rw [if_pos hx] at h'
     cases hv with
     | head => exact hx
     | tail _ hm => exact allOne_mem h' v hm
   · rw [if_neg hx] at h'; cases h'
theorem storeN_some {b o : Nat} {vs : List V} {M' : Mem} (h : storeN M b o vs = some M') : ∃ ty n ex fz str d cs, M.get b = some (.cells ty n ex fz str d cs) ∧ o + vs.length ≤ n ∧ fz ≤ o ∧ allOne vs = true ∧
  M' = M.set b (.cells ty n ex fz str d (listTr vs o cs)) := by
 have h' : Option.rec (motive := fun _ => Option Mem) none (fun blk => storeIn M b o vs blk) (M.get b) = some M' := h
 cases hb : M.get b with
 | none => rw [hb] at h'; cases (show (none : Option Mem) = some M' from h')
 | some blk =>
   rw [hb] at h'
   cases blk with
   | cells ty n ex fz str d cs =>
     have h2 : (Bool.rec (motive := fun _ => Option Mem) none (Bool.rec (motive := fun _ => Option Mem) none (Bool.rec (motive := fun _ => Option Mem) none (storeIn2 M b o vs ty n ex fz str d cs) (allOne vs)) (Nat.ble fz o)) (Nat.ble (Nat.add o vs.length) n)) = some M' := h'
     rw [bb, bb, bb, bleN, bleN] at h2
     split at h2
     · rename_i g1
       split at h2
       · rename_i g2
         split at h2
         · rename_i g3
           refine ⟨ty, n, ex, fz, str, d, cs, rfl, of_decide_eq_true g1, of_decide_eq_true g2, g3, ?_⟩
           unfold storeIn2 at h2
           rw [Tr.force_eq, Tr.force_eq] at h2
           exact (Option.some.inj h2).symm
         · cases h2
       · cases h2
     · cases h2
   | _ => cases (show (none : Option Mem) = some M' from h')
theorem Cx.store (h : Cx P E F M c w t a) {b o : Nat} {vs : List V} {M' : Mem} (hs : storeN M b o vs = some M') (hb : bds c vs) :
  ∃ w', (storeCells ⟨E.ρ b, E.β b + o, none⟩ (concs E vs)).run P w = .ok () w' ∧ Stp P F E M c w E M' c w' := by
 obtain ⟨ty, n, ex, fz, str, d, cs, hM, h1, h2, h3, rfl⟩ := storeN_some hs
 obtain ⟨arr, fr, ho, hr⟩ := h.cells (look_some_M hM)
 have hle := hr.le
 have hlen : (concs E vs).length = vs.length := by simp [concs_map]
 have hone : ∀ v ∈ concs E vs, v.oneCell' = true := by
  intro v hv
  rw [concs_map, List.mem_map] at hv
  obtain ⟨x, hx, rfl⟩ := hv
  exact isOne_conc (allOne_mem h3 x hx)
 have hrun := storeCells_run (P := P) (E.ρ b) (E.β b + o) ty fr (concs E vs) 0 arr w ho (fun k hk hk' => hr.free k (by omega) hk') (by rw [hlen]; omega) hone
 refine ⟨_, hrun, h.rel.write b _ _ hM _ ?_ _ rfl rfl rfl rfl ?_⟩
 · intro k v hk
   rw [cell_eq, listTr_get] at hk
   have hold := (h.rel.has _ _ (look_some_M hM)).2.1
   split at hk
   · rename_i hkn
     by_cases hin : o ≤ k ∧ k < o + vs.length
     · rw [if_pos hin] at hk
       have hlt : k - o < vs.length := by omega
       rw [List.getElem?_eq_getElem hlt] at hk
       obtain rfl := Option.some.inj hk
       exact bds_get hb (List.getElem?_eq_getElem hlt)
     · rw [if_neg hin] at hk
       exact hold k v (by rw [cell_eq, if_pos hkn]; exact hk)
   · cases hk
 · have hsp := foldSet (E.β b + o) (concs E vs) 0 arr
   refine ⟨_, _, rfl, ⟨fun k v hk => ?_, ?_, ?_, hr.plain⟩⟩
   · rw [cell_eq, listTr_get] at hk
     split at hk
     · rename_i hkn
       show (splice arr (E.β b + o) (concs E vs) 0)[E.β b + k]? = _
       unfold splice
       rw [hsp.2 (E.β b + k) (by omega), hlen, Nat.add_zero]
       by_cases hin : o ≤ k ∧ k < o + vs.length
       · rw [if_pos hin] at hk
         rw [if_pos (by omega), show E.β b + k - (E.β b + o) = k - o by omega]
         have hlt : k - o < vs.length := by omega
         rw [List.getElem?_eq_getElem hlt] at hk
         obtain rfl := Option.some.inj hk
         exact concs_get (List.getElem?_eq_getElem hlt)
       · rw [if_neg hin] at hk
         rw [if_neg (by omega)]
         exact hr.cell k v (by rw [cell_eq, if_pos hkn]; exact hk)
     · cases hk
   · show if ex then E.β b = 0 ∧ (splice arr (E.β b + o) (concs E vs) 0).size = n else (splice arr (E.β b + o) (concs E vs) 0).size = E.β b + n + E.κ b * P.cellsOf ty
     unfold splice
     rw [hsp.1]; exact hr.size
   · show Unfrozen fr (E.β b + fz) (splice arr (E.β b + o) (concs E vs) 0).size
     unfold splice
     rw [hsp.1]; exact hr.free
structure Grow (c : Nat → Prop) (ct : Nat) (c' : Nat → Prop) (ct' : Nat) : Prop where
 le : ct ≤ ct'
 new : ∀ b, c' b → c b ∨ (ct ≤ b ∧ b < ct')
theorem Grow.refl (c : Nat → Prop) (ct : Nat) : Grow c ct c ct := ⟨Nat.le_refl _, fun _ h => .inl h⟩
theorem Grow.trans {c c₁ c₂ : Nat → Prop} {n n₁ n₂ : Nat} (h : Grow c n c₁ n₁) (h' : Grow c₁ n₁ c₂ n₂) : Grow c n c₂ n₂ :=
 ⟨Nat.le_trans h.le h'.le, fun b hb => by
  have l1 := h.le
  have l2 := h'.le
  rcases h'.new b hb with hb | hb
  · rcases h.new b hb with hb | hb
    · exact .inl hb
    · exact .inr (by omega)
  · exact .inr (by omega)⟩
def Fresh (c : Nat → Prop) (ct : Nat) : Prop := ∀ b, ct ≤ b → ¬ c b
theorem Fresh.grow {c c' : Nat → Prop} {n n' : Nat} (h : Fresh c n) (g : Grow c n c' n') : Fresh c' n' := fun b hb hc => by
 have := g.le
 rcases g.new b hc with h1 | h1
 · exact h b (by omega) h1
 · omega
abbrev EOk (P : Program) (F : RO) (E : Env) (M : Mem) (c : Nat → Prop) (ct : Nat) (w : World) (a : Act) (o : Oper) (v : V) (M' : Mem) (ct' : Nat) : Prop :=
 ∃ E' w' nx c', (execOp a.eval o).run P w = .ok nx w' ∧ NV nx (conc E' v) ∧ Stp P F E M c w E' M' c' w' ∧ bd c' v ∧ Grow c ct c' ct'
theorem onP_rc {v : V} {g : Nat → Nat → RC} {x : V} {M' : Mem} {c' : Nat} (h : onP v .f g = .k x M' c') : ∃ b o, v = .p b o ∧ g b o = .k x M' c' := by
 cases v with
 | p b o => exact ⟨b, o, rfl, h⟩
 | _ => cases (show RC.f = .k x M' c' from h)
theorem e_store (h : Cx P E F M c w t a) {o : Oper} {ty : TypeId} {y z : Operand} (hop : o.op = .store ty y z) {eo : EO} (hc : compOp P o.op = some (.e eo)) {k : Kn} (hk : k.F = F) {v : V} {M' : Mem} {ct ct' : Nat} (he : doE eo k M ct t = .k v M' ct') : EOk P F E M c ct w a o v M' ct' := by
 rw [hop] at hc
 simp only [compOp] at hc
 split at hc
 · rename_i n xa xv hs h1 h2
   obtain rfl : EO.st n xa xv = eo := by simpa using hc
   have e1 := h.ev h1
   have e2 := h.ev h2
   obtain ⟨b, off, hv, hg⟩ := onP_rc (show onP (xa.ev t) .f (fun b o => e_st1 n b o (flatten (xv.ev t)) M ct) = .k v M' ct' from he)
   unfold e_st1 at hg
   rw [bb, beqN] at hg
   split at hg
   · rename_i hn
     have hn : (flatten (xv.ev t)).length = n := of_decide_eq_true hn
     unfold er at hg
     cases hst : storeN M b off (flatten (xv.ev t)) with
     | none => rw [hst] at hg; cases (show RC.f = .k v M' ct' from hg)
     | some M'' =>
       rw [hst] at hg
       have hg' : RC.k undef M'' ct = .k v M' ct' := hg
       injection hg' with g1 g2 g3
       subst g1 g2 g3
       obtain ⟨w', hrun, hS⟩ := h.store hst (flatten_bd e2.2)
       rw [hv] at e1
       refine ⟨E, w', .skip, c, ?_, .inr ⟨rfl, rfl⟩, hS, trivial, .refl _ _⟩
       have hcs : (a.eval z).cells.size = n := by rw [e2.1, flatten_cells]; simp [concs_map, hn]
       have hcl : (a.eval z).cells.toList = concs E (flatten (xv.ev t)) := by rw [e2.1, flatten_cells]
       simp only [execOp, hop, e1.1, conc, Instr.storeAt, Instr.sureAddr, storeVar, Sem.run_bind, Sem.run_pure, Result.andThen_ok, hcs, run_sz hs, ne_eq, not_true_eq_false, if_false, Sem.run_ite, hcl, hrun]
   · cases hg
 · cases hc
end
end
end Go.Proofs.YtpokoiicogheaaaGreatDoor.Ev
