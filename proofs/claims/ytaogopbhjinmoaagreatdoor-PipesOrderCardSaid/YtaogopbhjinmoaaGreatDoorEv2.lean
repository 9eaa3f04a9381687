/- What is proved here: pieces of the evaluator's soundness: if the evaluator comes to a value, the model's run comes to it, for every world and tape; no conditions beyond the hypotheses of each theorem. -/
import Derived.Test.YtaogopbhjinmoaaGreatDoorEv1
import Derived.Laws.Strings
import Derived.Laws.BytesArg
import Derived.Laws.IdiomStrings
import Derived.Laws.StructEq
import Derived.Laws.Externs
import Derived.KernelRfl
set_option linter.unusedSimpArgs false
set_option linter.unusedVariables false
set_option linter.defProp false
namespace Go.Proofs.YtaogopbhjinmoaaGreatDoor.Ev
open Go
theorem onP_val {v : V} {g : Nat → Nat → QR} {x : V} (h : (onP v .f g).val = some x) : ∃ b o, v = .p b o ∧ (g b o).val = some x := by
  cases v with
  | p b o => exact ⟨b, o, rfl, h⟩
  | _ => cases (show (none : Option V) = some x from h)
theorem onB_val {v : V} {g : Bool → QR} {x : V} (h : (onB v .f g).val = some x) : ∃ b, v = .b b ∧ (g b).val = some x := by
  cases v with
  | b y => exact ⟨y, rfl, h⟩
  | _ => cases (show (none : Option V) = some x from h)
theorem onI_val {v : V} {g : IntKind → Int → QR} {x : V} (h : (onI v .f g).val = some x) : ∃ k n, v = .i k n ∧ (g k n).val = some x := by
  cases v with
  | i k n => exact ⟨k, n, rfl, h⟩
  | _ => cases (show (none : Option V) = some x from h)
theorem onS_val {v : V} {g : Nat → Nat → QR} {x : V} (h : (onS v .f g).val = some x) : ∃ n y, v = .s n y ∧ (g n y).val = some x := by
  cases v with
  | s n y => exact ⟨n, y, rfl, h⟩
  | _ => cases (show (none : Option V) = some x from h)
theorem onG_val {v : V} {g : List V → QR} {x : V} (h : (onG v .f g).val = some x) : ∃ l, v = .g l ∧ (g l).val = some x := by
  cases v with
  | g l => exact ⟨l, rfl, h⟩
  | _ => cases (show (none : Option V) = some x from h)
theorem qr_val {o : Option V} {x : V} (h : (qr o).val = some x) : o = some x := by
  cases o with
  | none => cases (show (none : Option V) = some x from h)
  | some y => exact h
theorem qrb_val {b : Nat} {o : Option V} {x : V} (h : (qrb b o).val = some x) : o = some x := by
  cases o with
  | none => cases (show (none : Option V) = some x from h)
  | some y => exact h
theorem qg_val {o : Option (List V)} {x : V} (h : (qg o).val = some x) : ∃ l, o = some l ∧ x = .g l := by
  cases o with
  | none => cases (show (none : Option V) = some x from h)
  | some y => exact ⟨y, rfl, (Option.some.inj h).symm⟩
theorem qgb_val {b : Nat} {o : Option (List V)} {x : V} (h : (qgb b o).val = some x) : ∃ l, o = some l ∧ x = .g l := by
  cases o with
  | none => cases (show (none : Option V) = some x from h)
  | some y => exact ⟨y, rfl, (Option.some.inj h).symm⟩
theorem asN_some {v : V} {n : Nat} (h : asN v = some n) : ∃ k, v = .i k (n : Int) := by
  cases v with
  | i k m => cases m with
    | ofNat m => obtain rfl : m = n := Option.some.inj h; exact ⟨k, rfl⟩
    | negSucc m => cases (show (none : Option Nat) = some n from h)
  | _ => cases (show (none : Option Nat) = some n from h)
section
variable {P : Program} {E : Env} {F : RO} {M : Mem} {c : Nat → Prop} {w : World} {t : T} {a : Act}
theorem val_run {s : Sem Value} {v : Value} {w' : World} (hs : s.run P w = .ok v w') : (s >>= fun v => pure (Next.value v)).run P w = .ok (.value v) w' := by simp [hs]
abbrev QOk (P : Program) (E : Env) (c : Nat → Prop) (w : World) (a : Act) (o : Oper) (x : V) : Prop := (execOp a.eval o).run P w = .ok (.value (conc E x)) w ∧ bd c x
theorem q_move (h : Cx P E F M c w t a) {o : Oper} {y : Operand} (hop : o.op = .move y ∨ o.op = .assign y) {q : QO} (hc : compOp P o.op = some (.q q)) {x : V} (hx : (qop q F M t).val = some x) : QOk P E c w a o x := by
  have hc' : (compX y).bind (fun x => some (OK.q (.mv x))) = some (.q q) := by rcases hop with hop | hop <;> (rw [hop] at hc; exact hc)
  obtain ⟨z, hz, e⟩ := Option.bind_eq_some_iff.1 hc'
  obtain rfl : QO.mv z = q := by simpa using e
  obtain rfl : z.ev t = x := Option.some.inj hx
  have := h.ev hz
  refine ⟨?_, this.2⟩
  rcases hop with hop | hop <;> simp only [execOp, hop, this.1] <;> rfl
theorem q_pick (h : Cx P E F M c w t a) {o : Oper} {c' p r : Operand} (hop : o.op = .pick c' p r) {q : QO} (hc : compOp P o.op = some (.q q)) {x : V} (hx : (qop q F M t).val = some x) : QOk P E c w a o x := by
  rw [hop] at hc
  simp only [compOp] at hc
  split at hc
  · rename_i xc xa xb h1 h2 h3
    obtain rfl : QO.pk xc xa xb = q := by simpa [Ev.q] using hc
    obtain ⟨b, hb, hg⟩ := onB_val (show (onB (xc.ev t) .f fun x => Bool.rec (motive := fun _ => QR) (.v (xb.ev t)) (.v (xa.ev t)) x).val = some x from hx)
    have e1 := h.ev h1
    have e2 := h.ev h2
    have e3 := h.ev h3
    rw [hb] at e1
    cases b with
    | true =>
      obtain rfl : xa.ev t = x := Option.some.inj hg
      exact ⟨by simp [execOp, hop, e1.1, e2.1, conc, asBool], e2.2⟩
    | false =>
      obtain rfl : xb.ev t = x := Option.some.inj hg
      exact ⟨by simp [execOp, hop, e1.1, e3.1, conc, asBool], e3.2⟩
  · cases hc
theorem q_load (h : Cx P E F M c w t a) {o : Oper} {ty : TypeId} {ad : Operand} (hop : o.op = .load ty ad) {q : QO} (hc : compOp P o.op = some (.q q)) {x : V} (hx : (qop q F M t).val = some x) : QOk P E c w a o x := by
  rw [hop] at hc
  simp only [compOp] at hc
  split at hc
  · rename_i n xa h1 h2 h3
    obtain rfl : QO.ldn n xa = q := by simpa [Ev.q] using hc
    obtain ⟨b, off, hb, hg⟩ := onP_val (show (onP (xa.ev t) .f fun b o => qgb b (loadN F M b o n)).val = some x from hx)
    obtain ⟨l, hl, rfl⟩ := qgb_val hg
    have e := h.ev h3
    rw [hb] at e
    have hL := h.loadN hl
    refine ⟨?_, hL.2.1⟩
    simp only [execOp, hop]
    refine val_run ?_
    rw [e.1]
    simp only [Instr.loadAt, conc, Instr.sureAddr, loadVar, Sem.run_bind, Sem.run_pure, Result.andThen_ok, isAg_run h1, Sem.run_ite, if_true, run_sz h2, hL.1]
  · rename_i n xa h1 h2 h3
    obtain rfl : QO.ld1 xa = q := by simpa [Ev.q] using hc
    obtain ⟨b, off, hb, hg⟩ := onP_val (show (onP (xa.ev t) .f fun b o => qrb b (load1 F M b o)).val = some x from hx)
    have hl := qrb_val hg
    have e := h.ev h3
    rw [hb] at e
    have hL := h.load1 hl
    refine ⟨?_, hL.2⟩
    simp only [execOp, hop]
    refine val_run ?_
    rw [e.1]
    simp only [Instr.loadAt, conc, Instr.sureAddr, loadVar, Sem.run_bind, Sem.run_pure, Result.andThen_ok, isAg_run h1, Sem.run_ite, Bool.false_eq_true, if_false, run_load, hL.1]
  · cases hc
theorem q_nilCheck (h : Cx P E F M c w t a) {o : Oper} {y : Operand} (hop : o.op = .nilCheck y) {q : QO} (hc : compOp P o.op = some (.q q)) {x : V} (hx : (qop q F M t).val = some x) : QOk P E c w a o x := by
  rw [hop] at hc
  obtain ⟨z, hz, e⟩ := Option.bind_eq_some_iff.1 hc
  obtain rfl : QO.nck z = q := by simpa [Ev.q] using e
  have e := h.ev hz
  have hx' : (q_nck z F M t).val = some x := hx
  unfold q_nck at hx'
  split at hx'
  · rename_i b off hv
    obtain rfl := Option.some.inj hx'
    rw [hv] at e
    exact ⟨by simp only [execOp, hop, e.1, conc]; rfl, e.2⟩
  · rename_i g l1 l2 hv
    obtain rfl := Option.some.inj hx'
    rw [hv] at e
    exact ⟨by simp only [execOp, hop, e.1, conc]; rfl, e.2⟩
  · rename_i l hv
    obtain rfl := Option.some.inj hx'
    rw [hv] at e
    exact ⟨by simp only [execOp, hop, e.1, conc]; rfl, e.2⟩
  · rename_i ty v hv
    obtain rfl := Option.some.inj hx'
    rw [hv] at e
    exact ⟨by simp only [execOp, hop, e.1, conc]; rfl, e.2⟩
  · cases hx'
theorem eqGuard_int (op : BinOp) (ty : TypeId) (x y : Operand) (k k' : IntKind) (m n : Int) : (eqGuard op ty x y (.int k m) (.int k' n)).run P w = .ok () w := by
  unfold eqGuard; split <;> rfl
theorem eqGuard_str (op : BinOp) (ty : TypeId) (x y : Operand) (m n : ByteArray) : (eqGuard op ty x y (.string m) (.string n)).run P w = .ok () w := by
  unfold eqGuard; split <;> rfl
theorem cmpB {b : Bool} {x : V} (hx : (vB b).val = some x) : x = .b b := by
  rw [vB_eq] at hx; exact (Option.some.inj hx).symm
theorem binI_run (op : BinOp) (k : IntKind) (m n : Int) (h1 : op ≠ .shl) (h2 : op ≠ .shr) (ty : TypeId) {x : V} (hx : (binI op k m n).val = some x) :
    (binOp op ty (.int k m) (.int k n)).run P w = .ok (conc E x) w ∧ bd c x := by
  cases op <;> first | exact absurd rfl h1 | exact absurd rfl h2 | skip
  case add =>
    obtain rfl : V.i k (wr k (addI m n)) = x := by
      have : (vI k (wr k (addI m n))).val = some x := hx
      rw [vI_eq] at this; exact Option.some.inj this
    exact ⟨by rw [wr_eq, addI_eq]; simp [binOp, Op.intArith, conc], trivial⟩
  case sub =>
    obtain rfl : V.i k (wr k (Int.sub m n)) = x := by
      have : (vI k (wr k (Int.sub m n))).val = some x := hx
      rw [vI_eq] at this; exact Option.some.inj this
    exact ⟨by rw [wr_eq]; simp [binOp, Op.intArith, conc]; rfl, trivial⟩
  case mul =>
    obtain rfl : V.i k (wr k (Int.mul m n)) = x := by
      have : (vI k (wr k (Int.mul m n))).val = some x := hx
      rw [vI_eq] at this; exact Option.some.inj this
    exact ⟨by rw [wr_eq]; simp [binOp, Op.intArith, conc], trivial⟩
  case quo =>
    have hx' : (b_quo k m n).val = some x := hx
    unfold b_quo at hx'
    rw [eqI_iff] at hx'
    by_cases h0 : n = 0
    · rw [decide_eq_true h0] at hx'; cases (show (none : Option V) = some x from hx')
    · rw [decide_eq_false h0] at hx'
      obtain rfl : V.i k (wr k (Int.tdiv m n)) = x := by
        have : (vI k (wr k (Int.tdiv m n))).val = some x := hx'
        rw [vI_eq] at this; exact Option.some.inj this
      exact ⟨by rw [wr_eq]; simp [binOp, Op.intDiv, conc, h0], trivial⟩
  case rem =>
    have hx' : (b_rem k m n).val = some x := hx
    unfold b_rem at hx'
    rw [eqI_iff] at hx'
    by_cases h0 : n = 0
    · rw [decide_eq_true h0] at hx'; cases (show (none : Option V) = some x from hx')
    · rw [decide_eq_false h0] at hx'
      obtain rfl : V.i k (Int.tmod m n) = x := by
        have : (vI k (Int.tmod m n)).val = some x := hx'
        rw [vI_eq] at this; exact Option.some.inj this
      exact ⟨by simp [binOp, Op.intDiv, conc, h0], trivial⟩
  case and =>
    obtain rfl : V.i k (k.wrap (Nat.land (toU k m) (toU k n) : Nat)) = x := by
      have : (b_bit k (Nat.land (toU k m) (toU k n))).val = some x := hx
      rw [b_bit_eq] at this; exact Option.some.inj this
    refine ⟨?_, trivial⟩
    rw [toU_eq, toU_eq]
    simp [binOp, Op.intBits, conc, BitVec.toNat_and]
  case or =>
    obtain rfl : V.i k (k.wrap (Nat.lor (toU k m) (toU k n) : Nat)) = x := by
      have : (b_bit k (Nat.lor (toU k m) (toU k n))).val = some x := hx
      rw [b_bit_eq] at this; exact Option.some.inj this
    refine ⟨?_, trivial⟩
    rw [toU_eq, toU_eq]
    simp [binOp, Op.intBits, conc, BitVec.toNat_or]
  case xor =>
    obtain rfl : V.i k (k.wrap (Nat.xor (toU k m) (toU k n) : Nat)) = x := by
      have : (b_bit k (Nat.xor (toU k m) (toU k n))).val = some x := hx
      rw [b_bit_eq] at this; exact Option.some.inj this
    refine ⟨?_, trivial⟩
    rw [toU_eq, toU_eq]
    simp [binOp, Op.intBits, conc, BitVec.toNat_xor]
  case andNot =>
    obtain rfl : V.i k (k.wrap (Nat.land (toU k m) (Nat.xor (Nat.sub (Nat.pow 2 (kbits k)) 1) (toU k n)) : Nat)) = x := by
      have : (b_bit k (Nat.land (toU k m) (Nat.xor (Nat.sub (Nat.pow 2 (kbits k)) 1) (toU k n)))).val = some x := hx
      rw [b_bit_eq] at this; exact Option.some.inj this
    refine ⟨?_, trivial⟩
    rw [toU_eq, toU_eq, mask_eq]
    have hn : ∀ b : BitVec k.bits, (~~~b) = BitVec.allOnes k.bits ^^^ b := fun b => BitVec.not_def
    simp only [binOp, Op.intBits, ne_eq, not_true_eq_false, if_false, conc, hn, BitVec.toNat_and, BitVec.toNat_xor]
    rfl
  case eql =>
    obtain rfl := cmpB (b := eqI m n) hx
    refine ⟨?_, trivial⟩
    simp only [binOp, Op.intCmp, ne_eq, not_true_eq_false, if_false, conc, eqI_iff, ltI_iff, notB_eq, Sem.run_pure]
    all_goals (congr 2; try (rw [Bool.eq_iff_iff]; simp))
  case neq =>
    obtain rfl := cmpB (b := notB (eqI m n)) hx
    refine ⟨?_, trivial⟩
    simp only [binOp, Op.intCmp, ne_eq, not_true_eq_false, if_false, conc, eqI_iff, ltI_iff, notB_eq, Sem.run_pure]
    all_goals (congr 2; try (rw [Bool.eq_iff_iff]; simp))
  case lss =>
    obtain rfl := cmpB (b := ltI m n) hx
    refine ⟨?_, trivial⟩
    simp only [binOp, Op.intCmp, ne_eq, not_true_eq_false, if_false, conc, eqI_iff, ltI_iff, notB_eq, Sem.run_pure]
    all_goals (congr 2; try (rw [Bool.eq_iff_iff]; simp))
  case leq =>
    obtain rfl := cmpB (b := notB (ltI n m)) hx
    refine ⟨?_, trivial⟩
    simp only [binOp, Op.intCmp, ne_eq, not_true_eq_false, if_false, conc, eqI_iff, ltI_iff, notB_eq, Sem.run_pure]
    all_goals (congr 2; try (rw [Bool.eq_iff_iff]; simp))
  case gtr =>
    obtain rfl := cmpB (b := ltI n m) hx
    refine ⟨?_, trivial⟩
    simp only [binOp, Op.intCmp, ne_eq, not_true_eq_false, if_false, conc, eqI_iff, ltI_iff, notB_eq, Sem.run_pure]
    all_goals (congr 2; try (rw [Bool.eq_iff_iff]; simp))
  case geq =>
    obtain rfl := cmpB (b := notB (ltI m n)) hx
    refine ⟨?_, trivial⟩
    simp only [binOp, Op.intCmp, ne_eq, not_true_eq_false, if_false, conc, eqI_iff, ltI_iff, notB_eq, Sem.run_pure]
    all_goals (congr 2; try (rw [Bool.eq_iff_iff]; simp))
end
end Go.Proofs.YtaogopbhjinmoaaGreatDoor.Ev
namespace Go.Proofs.YtaogopbhjinmoaaGreatDoor.Ev
open Go
theorem ba_toList (n x : Nat) : (ba n x).data.toList = bl n x := by simp [ba]
theorem ba_toList' (n x : Nat) : (ba n x).toList = bl n x := by rw [ByteArray.toList_eq, ba_toList]
theorem ba_ext {s : ByteArray} {n x : Nat} (h : s.data.toList = bl n x) : s = ba n x := by
  have h2 : s.data = (ba n x).data := by rw [ba, ← h]
  cases s; cases h2; rfl
theorem ba_append (n x m y : Nat) : ba n x ++ ba m y = ba (n + m) (x % 256 ^ n + 256 ^ n * y) := by
  apply ba_ext
  rw [bl_append]
  simp [ba]
theorem ba_extract (n x l h : Nat) (h1 : l ≤ h) (h2 : h ≤ n) : (ba n x).extract l h = ba (h - l) (x / 256 ^ l % 256 ^ (h - l)) := by
  apply ba_ext
  rw [bl_mod]
  have : ((ba n x).extract l h).data.toList = ((bl n x).drop l).take (h - l) := by
    simp [ba, ByteArray.data_extract, List.extract_eq_take_drop]
  rw [this, bl_drop _ _ _ (by omega), bl_take _ _ _ (by omega)]
theorem strLt_eq (f : Nat) : ∀ n x m y, n < f → strLt f n x m y = Op.bytesLess (bl n x) (bl m y) := by
  induction f with
  | zero => intro n x m y h; omega
  | succ f ih =>
    intro n x m y h
    cases m with
    | zero => cases n <;> simp [strLt, bl, Op.bytesLess]
    | succ m => cases n with
      | zero => simp [strLt, bl, Op.bytesLess]
      | succ n =>
        simp only [strLt, bl, Op.bytesLess]
        rw [ih n _ m _ (by omega), bltN, beqN]
        have e1 : decide (UInt8.ofNat (x % 256) < UInt8.ofNat (y % 256)) = decide (x % 256 < y % 256) := by
          congr 1; rw [UInt8.lt_iff_toNat_lt]; simp [UInt8.toNat_ofNat']
        have e2 : (UInt8.ofNat (x % 256) == UInt8.ofNat (y % 256)) = decide (x % 256 = y % 256) := by
          rw [Bool.eq_iff_iff, beq_iff_eq, decide_eq_true_iff]
          constructor
          · intro e; have := congrArg UInt8.toNat e; simpa [UInt8.toNat_ofNat'] using this
          · intro e; rw [e]
        rw [e1, e2]
        rfl
section
variable {P : Program} {E : Env} {F : RO} {M : Mem} {c : Nat → Prop} {w : World} {t : T} {a : Act}
theorem binS_run (op : BinOp) (n x m y : Nat) (ty : TypeId) {v : V} (hx : (binS op n x m y).val = some v) :
    (binOp op ty (.string (ba n x)) (.string (ba m y))).run P w = .ok (conc E v) w ∧ bd c v := by
  cases op
  case add =>
    have hx' : (strCat n x m y).val = some v := hx
    unfold strCat at hx'
    rw [bleN] at hx'
    by_cases hs : n + m ≤ 1099511627776
    · rw [show Nat.add n m = n + m from rfl, decide_eq_true hs, cond_true, vS_eq] at hx'
      obtain rfl := Option.some.inj hx'
      refine ⟨?_, trivial⟩
      have hlt : ¬ (((ba n x).size + (ba m y).size : Nat) : Int) > IntKind.i64.max := by
        rw [ba_size, ba_size, show IntKind.i64.max = 9223372036854775807 by decide]; omega
      simp only [binOp, Op.stringOp, hlt, if_false, Sem.run_ite, Sem.run_pure, conc, ba_append]
      rfl
    · rw [show Nat.add n m = n + m from rfl, decide_eq_false hs] at hx'
      cases (show (none : Option V) = some v from hx')
  case eql =>
    obtain rfl := cmpB (b := strEq n x m y) hx
    refine ⟨?_, trivial⟩
    simp only [binOp, Op.stringOp, ba_toList', Sem.run_pure, conc, strEq_iff]
    congr 2
    rw [Bool.eq_iff_iff]; simp
  case neq =>
    obtain rfl := cmpB (b := !strEq n x m y) hx
    refine ⟨?_, trivial⟩
    simp only [binOp, Op.stringOp, ba_toList', Sem.run_pure, conc, strEq_iff]
    congr 2
    rw [Bool.eq_iff_iff]; simp
  case lss =>
    obtain rfl := cmpB (b := strLt (Nat.succ (Nat.add n m)) n x m y) hx
    refine ⟨?_, trivial⟩
    rw [strLt_eq (Nat.succ (Nat.add n m)) _ _ _ _ (show n < n + m + 1 by omega)]
    simp only [binOp, Op.stringOp, ba_toList', Sem.run_pure, conc]
  case geq =>
    obtain rfl := cmpB (b := !strLt (Nat.succ (Nat.add n m)) n x m y) hx
    refine ⟨?_, trivial⟩
    rw [strLt_eq (Nat.succ (Nat.add n m)) _ _ _ _ (show n < n + m + 1 by omega)]
    simp only [binOp, Op.stringOp, ba_toList', Sem.run_pure, conc]
  all_goals cases (show (none : Option V) = some v from hx)
theorem shift_run (op : BinOp) (hop : op = .shl ∨ op = .shr) (k k' : IntKind) (m n : Int) (ty : TypeId) {v : V} (hx : (q_bii op k m k' n).val = some v) :
    (binOp op ty (.int k m) (.int k' n)).run P w = .ok (conc E v) w ∧ bd c v := by
  have hcnt : ∀ j : Nat, shCount k j = min j k.bits := by
    intro j; unfold shCount; rw [bleN, kbits_eq]
    by_cases hj : j ≤ k.bits
    · rw [decide_eq_true hj]; show j = _; omega
    · rw [decide_eq_false hj]; show k.bits = _; omega
  cases n with
  | negSucc j => rcases hop with rfl | rfl <;> cases (show (none : Option V) = some v from hx)
  | ofNat j =>
    rcases hop with rfl | rfl
    · have hx' : (vI k (wr k (Int.mul m (.ofNat (Nat.pow 2 (shCount k j)))))).val = some v := hx
      rw [vI_eq] at hx'
      obtain rfl := Option.some.inj hx'
      refine ⟨?_, trivial⟩
      rw [wr_eq, hcnt]
      have hnn : ¬ (Int.ofNat j < 0) := by simp
      simp only [binOp, Op.shift, hnn, if_false, Sem.run_ite, Sem.run_pure, conc, Int.ofNat_eq_natCast, Int.toNat_natCast]
      all_goals (congr 3)
    · have hx' : (vI k (Int.fdiv m (.ofNat (Nat.pow 2 (shCount k j))))).val = some v := hx
      rw [vI_eq] at hx'
      obtain rfl := Option.some.inj hx'
      refine ⟨?_, trivial⟩
      rw [hcnt]
      have hnn : ¬ (Int.ofNat j < 0) := by simp
      simp only [binOp, Op.shift, hnn, if_false, Sem.run_ite, Sem.run_pure, conc, Int.ofNat_eq_natCast, Int.toNat_natCast]
      all_goals (congr 2)
theorem q_bii_other {op : BinOp} {k k' : IntKind} {m n : Int} (h1 : op ≠ .shl) (h2 : op ≠ .shr) : q_bii op k m k' n = if k = k' then binI op k m n else .f := by
  have e : q_bii op k m k' n = Bool.rec (motive := fun _ => QR) .f (binI op k m n) (sameK k k') := by
    cases op <;> first | rfl | exact absurd rfl h1 | exact absurd rfl h2
  rw [e, bb, sameK_iff]
  by_cases hk : k = k' <;> simp [hk]
theorem bi_run (op : BinOp) (ty : TypeId) {xv yv v : V} (hx : (V.casesOn (motive_1 := fun _ => QR) xv (fun _ => .f) (fun k a => q_bi1 op k a yv) (fun n a => q_bi2 op n a yv) (fun _ _ => .f) .f (fun _ _ _ _ => .f) (fun _ _ _ _ _ => .f) (fun _ _ _ => .f) .f (fun _ => .f) .f (fun _ _ _ => .f) (fun _ => .f) .f (fun _ _ => .f) .f (fun _ => .f) (fun _ => .f)).val = some v)
    (x y : Operand) : (eqGuard op ty x y (conc E xv) (conc E yv) >>= fun _ => binOp op ty (conc E xv) (conc E yv)).run P w = .ok (conc E v) w ∧ bd c v := by
  cases xv with
  | i k m =>
    obtain ⟨k', n, rfl, hg⟩ := onI_val (show (onI yv .f fun k' b => q_bii op k m k' b).val = some v from hx)
    simp only [Sem.run_bind, conc, eqGuard_int, Result.andThen_ok]
    by_cases hs : op = .shl ∨ op = .shr
    · exact shift_run op hs k k' m n ty hg
    · rw [q_bii_other (fun e => hs (.inl e)) (fun e => hs (.inr e))] at hg
      split at hg
      · rename_i hk; subst hk
        exact binI_run op k m n (fun e => hs (.inl e)) (fun e => hs (.inr e)) ty hg
      · cases (show (none : Option V) = some v from hg)
  | s n y' =>
    obtain ⟨m, z, rfl, hg⟩ := onS_val (show (onS yv .f fun m b => binS op n y' m b).val = some v from hx)
    simp only [Sem.run_bind, conc, eqGuard_str, Result.andThen_ok]
    exact binS_run op n y' m z ty hg
  | _ => cases (show (none : Option V) = some v from hx)
end
end Go.Proofs.YtaogopbhjinmoaaGreatDoor.Ev
namespace Go.Proofs.YtaogopbhjinmoaaGreatDoor.Ev
open Go
section
variable {P : Program} {E : Env} {F : RO} {M : Mem} {c : Nat → Prop} {w : World} {t : T} {a : Act}
theorem mkP_val {b o : Nat} {x : V} (h : (mkP b o).val = some x) : x = .p b o := by
  unfold mkP at h; rw [fN_eq] at h; exact (Option.some.inj h).symm
theorem ptr_eq {r x y : Nat} (h : x = y) : (Result.ok (Value.pointer (some ⟨r, x, none⟩)) w : Result Value) = .ok (.pointer (some ⟨r, y, none⟩)) w := by rw [h]
theorem compX_bind {y : Operand} {f : X → QO} {q : QO} (h : (compX y).bind (fun x => Ev.q (f x)) = some (.q q)) : ∃ z, compX y = some z ∧ f z = q := by
  obtain ⟨z, hz, e⟩ := Option.bind_eq_some_iff.1 h
  exact ⟨z, hz, by simpa [Ev.q] using e⟩
theorem q_un_ok (h : Cx P E F M c w t a) {o : Oper} {op : UnOp} {ty : TypeId} {y : Operand} (hop : o.op = .unOp op ty y) {q : QO} (hc : compOp P o.op = some (.q q)) {x : V} (hx : (qop q F M t).val = some x) : QOk P E c w a o x := by
  rw [hop] at hc
  obtain ⟨z, hz, rfl⟩ := compX_bind (f := fun x => .un op x) hc
  have e := h.ev hz
  cases op with
  | neg =>
    obtain ⟨k, n, hv, hg⟩ := onI_val (show (onI (z.ev t) .f fun k n => vI k (wr k (Int.sub 0 n))).val = some x from hx)
    rw [vI_eq] at hg
    obtain rfl := Option.some.inj hg
    rw [hv] at e
    refine ⟨?_, trivial⟩
    simp only [execOp, hop]
    refine val_run ?_
    rw [e.1, wr_eq]; rfl
  | xor =>
    obtain ⟨k, n, hv, hg⟩ := onI_val (show (onI (z.ev t) .f fun k n => b_bit k (Nat.xor (Nat.sub (Nat.pow 2 (kbits k)) 1) (toU k n))).val = some x from hx)
    rw [b_bit_eq] at hg
    obtain rfl := Option.some.inj hg
    rw [hv] at e
    refine ⟨?_, trivial⟩
    simp only [execOp, hop]
    refine val_run ?_
    rw [e.1, mask_eq, toU_eq]
    simp only [Op.unary, conc, Op.intBits]
    have ho : BitVec.ofInt k.bits (if k.signed = true then -1 else k.max) = BitVec.allOnes k.bits := by
      cases k <;> decide
    rw [ho, BitVec.toNat_xor]
    rfl
  | not =>
    obtain ⟨b, hv, hg⟩ := onB_val (show (onB (z.ev t) .f fun b => vB (notB b)).val = some x from hx)
    obtain rfl := cmpB hg
    rw [hv] at e
    refine ⟨?_, trivial⟩
    simp only [execOp, hop]
    refine val_run ?_
    rw [e.1, notB_eq]; rfl
  | plus => cases (show (none : Option V) = some x from hx)
theorem ci_run {k : IntKind} {s d : TypeId} {ks : IntKind} (h1 : P.underlying s = some (.int ks)) (h2 : P.underlying d = some (.int k)) (k' : IntKind) (n : Int) :
    (convert s d (.int k' n)).run P w = .ok (.int k (k.wrap n)) w := by
  simp only [convert, Sem.run_bind, run_und h1, run_und h2, Result.andThen_ok, Conv.intToInt, Sem.run_pure]
theorem q_makeInterface (h : Cx P E F M c w t a) {o : Oper} {ty : TypeId} {y : Operand} (hop : o.op = .makeInterface ty y) {q : QO} (hc : compOp P o.op = some (.q q)) {x : V} (hx : (qop q F M t).val = some x) : QOk P E c w a o x := by
  rw [hop] at hc
  simp only [compOp] at hc
  split at hc
  · cases hc
  · rename_i d z hd hu hz
    obtain rfl : QO.mki ty z = q := by simpa [Ev.q] using hc
    obtain rfl : V.a ty (z.ev t) = x := Option.some.inj hx
    have e := h.ev hz
    refine ⟨?_, e.2⟩
    simp only [execOp, hop]
    refine val_run ?_
    rw [e.1]
    have hw := run_und (w := w) hu
    cases d <;> first
      | exact (hd _ rfl).elim
      | simp [Instr.makeInterface, hw, conc]
  · cases hc
theorem q_makeFunc (h : Cx P E F M c w t a) {o : Oper} {f : FuncId} {l1 l2 : Array Operand} (hop : o.op = .makeFunc (.func f) l1 l2) {q : QO} (hc : compOp P o.op = some (.q q)) {x : V} (hx : (qop q F M t).val = some x) : QOk P E c w a o x := by
  rw [hop] at hc
  simp only [compOp] at hc
  split at hc
  · rename_i x1 x2 h1 h2
    obtain rfl : QO.mkf f x1 x2 = q := by simpa [Ev.q] using hc
    obtain rfl : V.f f (evs x1 t) (evs x2 t) = x := Option.some.inj hx
    have e1 := h.evs h1
    have e2 := h.evs h2
    refine ⟨?_, e1.2, e2.2⟩
    simp only [execOp, hop]
    refine val_run ?_
    have m1 : l1.map a.eval = (concs E (evs x1 t)).toArray := by apply Array.ext'; rw [Array.toList_map, e1.1]
    have m2 : l2.map a.eval = (concs E (evs x2 t)).toArray := by apply Array.ext'; rw [Array.toList_map, e2.1]
    simp only [Instr.makeFunc, m1, m2, conc]; rfl
  · cases hc
theorem q_fieldAddr (h : Cx P E F M c w t a) {o : Oper} {ty : TypeId} {y : Operand} {f : Nat} (hop : o.op = .fieldAddr ty y f) {q : QO} (hc : compOp P o.op = some (.q q)) {x : V} (hx : (qop q F M t).val = some x) : QOk P E c w a o x := by
  rw [hop] at hc
  simp only [compOp] at hc
  split at hc
  · rename_i fs z hu hz
    split at hc
    · rename_i fd hfd
      split at hc
      · rename_i s hs
        obtain rfl : QO.fa fd.offset z = q := by simpa [Ev.q] using hc
        obtain ⟨b, off, hv, hg⟩ := onP_val (show (onP (z.ev t) .f fun b o => mkP b (Nat.add o fd.offset)).val = some x from hx)
        obtain rfl := mkP_val hg
        have e := h.ev hz
        rw [hv] at e
        refine ⟨?_, e.2⟩
        simp only [execOp, hop]
        refine val_run ?_
        rw [e.1]
        have hfd' : fs[f]? = some fd := by simpa using hfd
        simp only [Instr.fieldAt, Sem.run_bind, run_und hu, Result.andThen_ok, hfd', Instr.sureAddr, conc, Sem.run_pure, fieldPlace, run_sz hs, Sem.run_ite, Nat.add_one_ne_zero, if_false, Addr.add_eq]
        exact ptr_eq (Nat.add_assoc _ _ _)
      · cases hc
    · cases hc
  · cases hc
theorem concs_get {l : List V} {i : Nat} {v : V} (h : l[i]? = some v) : (concs E l)[i]? = some (conc E v) := by
  rw [concs_map, List.getElem?_map, h]; rfl
theorem bds_get {l : List V} {i : Nat} {v : V} (hb : bds c l) (h : l[i]? = some v) : bd c v :=
  (bds_iff c l).1 hb v (List.mem_of_getElem? h)
theorem takeL_eq {α : Type} : ∀ (n : Nat) (l r : List α), takeL n l = some r → r = l.take n ∧ n ≤ l.length
  | 0, l, r, h => by obtain rfl := Option.some.inj h; simp
  | n + 1, [], r, h => by cases h
  | n + 1, x :: l, r, h => by
    rw [takeL] at h
    split at h
    · rename_i r' hr'
      obtain rfl := Option.some.inj h
      have := takeL_eq n l r' hr'
      exact ⟨by rw [this.1]; rfl, by simp; exact this.2⟩
    · cases h
theorem dropL_eq {α : Type} : ∀ (n : Nat) (l : List α), dropL n l = l.drop n
  | 0, l => by simp [dropL]
  | n + 1, [] => by simp [dropL]
  | n + 1, x :: l => by rw [dropL, dropL_eq n l]; rfl
theorem part_one {ty : TypeId} {l : List V} {i : Nat} {v : V} (hag : isAg P ty = some false) (h : l[i]? = some v) : (part ty (concs E l).toArray i).run P w = .ok (conc E v) w := by
  simp [part, isAg_run hag, concs_get h]
theorem part_agg {ty : TypeId} {l r : List V} {i n : Nat} (hag : isAg P ty = some true) (hs : szOf P ty = some n) (h : takeL n (dropL i l) = some r) : (part ty (concs E l).toArray i).run P w = .ok (conc E (.g r)) w := by
  obtain ⟨rfl, hn⟩ := takeL_eq _ _ _ h
  rw [dropL_eq] at hn ⊢
  simp only [part, Sem.run_bind, isAg_run hag, Result.andThen_ok, Sem.run_ite, if_true, run_sz hs, Sem.run_pure, conc]
  congr 2
  simp [concs_map, List.extract_eq_take_drop, List.map_take, List.map_drop]
theorem bds_sub {l : List V} (hb : bds c l) {r : List V} (h : ∀ v ∈ r, v ∈ l) : bds c r := (bds_iff c r).2 fun v hv => (bds_iff c l).1 hb v (h v hv)
theorem q_field (h : Cx P E F M c w t a) {o : Oper} {ty : TypeId} {y : Operand} {f : Nat} (hop : o.op = .field ty y f) {q : QO} (hc : compOp P o.op = some (.q q)) {x : V} (hx : (qop q F M t).val = some x) : QOk P E c w a o x := by
  rw [hop] at hc
  simp only [compOp] at hc
  split at hc
  · rename_i fs z hu hz
    split at hc
    · rename_i fd hfd
      have hfd' : fs[f]? = some fd := by simpa using hfd
      have e := h.ev hz
      split at hc
      · rename_i n hag hs
        obtain rfl : QO.fln fd.offset n z = q := by simpa [Ev.q] using hc
        obtain ⟨l, hv, hg⟩ := onG_val (show (onG (z.ev t) .f fun cs => qg (takeL n (dropL fd.offset cs))).val = some x from hx)
        obtain ⟨r, hr, rfl⟩ := qg_val hg
        rw [hv] at e
        refine ⟨?_, bds_sub (l := l) e.2 (fun v hv => by obtain ⟨rfl, _⟩ := takeL_eq _ _ _ hr; rw [dropL_eq] at hv; exact List.mem_of_mem_drop (List.mem_of_mem_take hv))⟩
        simp only [execOp, hop]
        refine val_run ?_
        rw [e.1]
        simp only [Instr.field, Sem.run_bind, run_und hu, Result.andThen_ok, hfd', conc, asAgg, Sem.run_pure]
        exact part_agg hag hs hr
      · rename_i _ hag
        obtain rfl : QO.fl1 fd.offset z = q := by simpa [Ev.q] using hc
        obtain ⟨l, hv, hg⟩ := onG_val (show (onG (z.ev t) .f fun cs => qr (nth cs fd.offset)).val = some x from hx)
        have hr := qr_val hg
        rw [nth_eq] at hr
        rw [hv] at e
        refine ⟨?_, bds_get (l := l) e.2 hr⟩
        simp only [execOp, hop]
        refine val_run ?_
        rw [e.1]
        simp only [Instr.field, Sem.run_bind, run_und hu, Result.andThen_ok, hfd', conc, asAgg, Sem.run_pure]
        exact part_one hag hr
      · cases hc
    · cases hc
  · cases hc
theorem q_ia_val {sz b o len : Nat} {i : Int} {x : V} (h : (q_ia sz b o len i).val = some x) : ∃ j : Nat, i = j ∧ j < len ∧ x = .p b (o + j * sz) := by
  cases i with
  | negSucc j => cases (show (none : Option V) = some x from h)
  | ofNat j =>
    have h' : (Bool.rec (motive := fun _ => QR) .f (mkP b (Nat.add o (Nat.mul j sz))) (Nat.blt j len)).val = some x := h
    rw [bb, bltN] at h'
    by_cases hj : j < len
    · rw [if_pos (by simpa using hj)] at h'
      exact ⟨j, rfl, hj, mkP_val h'⟩
    · rw [if_neg (by simpa using hj)] at h'
      cases (show (none : Option V) = some x from h')
theorem idx_ok {len j : Nat} (h : j < len) : (0 ≤ (j : Int) ∧ (j : Int) < (len : Int)) := by omega
theorem q_indexAddr (h : Cx P E F M c w t a) {o : Oper} {ty : TypeId} {y i : Operand} (hop : o.op = .indexAddr ty y i) {q : QO} (hc : compOp P o.op = some (.q q)) {x : V} (hx : (qop q F M t).val = some x) : QOk P E c w a o x := by
  rw [hop] at hc
  simp only [compOp] at hc
  split at hc
  · rename_i n el xa xi hu h1 h2
    obtain ⟨s, hs, e⟩ := Option.bind_eq_some_iff.1 hc
    obtain rfl : QO.iaA n s xa xi = q := by simpa [Ev.q] using e
    obtain ⟨b, off, hv, hg⟩ := onP_val (show (onP (xa.ev t) .f fun b o => onI (xi.ev t) .f fun _ i => q_ia s b o n i).val = some x from hx)
    obtain ⟨k, m, hm, hg⟩ := onI_val hg
    obtain ⟨j, rfl, hj, rfl⟩ := q_ia_val hg
    have e1 := h.ev h1
    have e2 := h.ev h2
    rw [hv] at e1
    rw [hm] at e2
    refine ⟨?_, e1.2⟩
    simp only [execOp, hop]
    refine val_run ?_
    rw [e1.1, e2.1]
    simp only [Instr.indexAt, conc, asIntOf, Sem.run_bind, Sem.run_pure, Result.andThen_ok, run_und hu, Instr.sureAddr, Sem.run_ite, idx_ok hj, and_self, if_true, run_sz hs, Addr.add_eq, Int.toNat_natCast]
    exact ptr_eq (Nat.add_assoc _ _ _)
  · rename_i el xa xi hu h1 h2
    obtain ⟨s, hs, e⟩ := Option.bind_eq_some_iff.1 hc
    obtain rfl : QO.iaS s xa xi = q := by simpa [Ev.q] using e
    have e1 := h.ev h1
    have e2 := h.ev h2
    have key : ∀ b off len cap, conc E (xa.ev t) = .slice (some ⟨E.ρ b, E.β b + off, none⟩) len cap → bd c (.p b 0) → (q_iaS1 s b off len (xi.ev t)).val = some x → QOk P E c w a o x := by
      intro b off len cap hv hbd hg
      obtain ⟨k, m, hm, hg⟩ := onI_val (show (onI (xi.ev t) .f fun _ i => q_ia s b off len i).val = some x from hg)
      obtain ⟨j, rfl, hj, rfl⟩ := q_ia_val hg
      rw [hm] at e2
      refine ⟨?_, hbd⟩
      simp only [execOp, hop]
      refine val_run ?_
      rw [e1.1, hv, e2.1]
      simp only [Instr.indexAt, conc, asIntOf, Sem.run_bind, Sem.run_pure, Result.andThen_ok, run_und hu, Sem.run_ite, idx_ok hj, and_self, if_true, run_sz hs, Addr.add_eq, Int.toNat_natCast]
      exact ptr_eq (Nat.add_assoc _ _ _)
    have hx' : (q_iaS s xa xi F M t).val = some x := hx
    unfold q_iaS at hx'
    cases hv : xa.ev t with
    | l b off len cap =>
      rw [hv] at hx' e1
      exact key b off len cap (by rw [hv]; rfl) e1.2 hx'
    | u b off len el kn =>
      rw [hv] at hx' e1
      exact key b off len _ (by rw [hv]; rfl) e1.2 hx'
    | _ => rw [hv] at hx'; cases (show (none : Option V) = some x from hx')
  · cases hc
theorem q_index (h : Cx P E F M c w t a) {o : Oper} {ty : TypeId} {y i : Operand} (hop : o.op = .index ty y i) {q : QO} (hc : compOp P o.op = some (.q q)) {x : V} (hx : (qop q F M t).val = some x) : QOk P E c w a o x := by
  rw [hop] at hc
  simp only [compOp] at hc
  split at hc
  · rename_i n el xa xi hu h1 h2
    have e1 := h.ev h1
    have e2 := h.ev h2
    split at hc
    · rename_i s hag hs
      obtain rfl : QO.ixAn n s xa xi = q := by simpa [Ev.q] using hc
      obtain ⟨l, hv, hg⟩ := onG_val (show (onG (xa.ev t) .f fun cs => ixAgg n s cs (asN (xi.ev t))).val = some x from hx)
      unfold ixAgg at hg
      split at hg
      · rename_i j hj
        obtain ⟨k, hk⟩ := asN_some hj
        rw [bltN] at hg
        by_cases hjn : j < n
        · rw [decide_eq_true hjn, cond_true] at hg
          obtain ⟨r, hr, rfl⟩ := qg_val hg
          rw [hv] at e1
          rw [hk] at e2
          refine ⟨?_, bds_sub (l := l) e1.2 (fun v hv => by obtain ⟨rfl, _⟩ := takeL_eq _ _ _ hr; rw [dropL_eq] at hv; exact List.mem_of_mem_drop (List.mem_of_mem_take hv))⟩
          simp only [execOp, hop]
          refine val_run ?_
          rw [e1.1, e2.1]
          simp only [Instr.index, conc, asIntOf, Sem.run_bind, Sem.run_pure, Result.andThen_ok, run_und hu, Sem.run_ite, idx_ok hjn, and_self, if_true, run_sz hs, Int.toNat_natCast]
          exact part_agg hag hs hr
        · rw [decide_eq_false hjn] at hg
          cases (show (none : Option V) = some x from hg)
      · cases (show (none : Option V) = some x from hg)
    · rename_i s hag hs
      obtain rfl : QO.ixA1 n s xa xi = q := by simpa [Ev.q] using hc
      obtain ⟨l, hv, hg⟩ := onG_val (show (onG (xa.ev t) .f fun cs => ixOne n s cs (asN (xi.ev t))).val = some x from hx)
      unfold ixOne at hg
      split at hg
      · rename_i j hj
        obtain ⟨k, hk⟩ := asN_some hj
        rw [bltN] at hg
        by_cases hjn : j < n
        · rw [decide_eq_true hjn, cond_true] at hg
          have hr := qr_val hg
          rw [nth_eq] at hr
          rw [hv] at e1
          rw [hk] at e2
          refine ⟨?_, bds_get (l := l) e1.2 hr⟩
          simp only [execOp, hop]
          refine val_run ?_
          rw [e1.1, e2.1]
          simp only [Instr.index, conc, asIntOf, Sem.run_bind, Sem.run_pure, Result.andThen_ok, run_und hu, Sem.run_ite, idx_ok hjn, and_self, if_true, run_sz hs, Int.toNat_natCast]
          exact part_one hag hr
        · rw [decide_eq_false hjn] at hg
          cases (show (none : Option V) = some x from hg)
      · cases (show (none : Option V) = some x from hg)
    · cases hc
  · rename_i xa xi hu h1 h2
    have e1 := h.ev h1
    have e2 := h.ev h2
    obtain rfl : QO.ixS xa xi = q := by simpa [Ev.q] using hc
    obtain ⟨n, s, hv, hg⟩ := onS_val (show (onS (xa.ev t) .f fun n s => Option.rec (motive := fun _ => QR) .f (fun i => q_ixS1 n s i) (asN (xi.ev t))).val = some x from hx)
    cases hj : asN (xi.ev t) with
    | none => rw [hj] at hg; cases (show (none : Option V) = some x from hg)
    | some j =>
      rw [hj] at hg
      obtain ⟨k, hk⟩ := asN_some hj
      have hg' : (Bool.rec (motive := fun _ => QR) .f (fN (Nat.mod (Nat.div s (p256 j)) 256) fun c => .v (.i .u8 (.ofNat c))) (Nat.blt j n)).val = some x := hg
      rw [bb, bltN, fN_eq] at hg'
      by_cases hjn : j < n
      · rw [if_pos (by simpa using hjn)] at hg'
        obtain rfl := Option.some.inj hg'
        rw [hv] at e1
        rw [hk] at e2
        refine ⟨?_, trivial⟩
        simp only [execOp, hop]
        refine val_run ?_
        rw [e1.1, e2.1]
        have hget : (ba n s)[j]? = some (UInt8.ofNat (s / 256 ^ j % 256)) := by
          have := bl_get n s j hjn
          have hsz : j < (ba n s).size := by rw [ba_size]; exact hjn
          rw [getElem?_pos (ba n s) j hsz]
          have : (bl n s)[j]? = some ((ba n s)[j]) := by
            rw [List.getElem?_eq_getElem (by rw [bl_length]; exact hjn)]
            rfl
          rw [← this, bl_get n s j hjn]
        simp only [Instr.index, conc, asIntOf, Sem.run_bind, Sem.run_pure, Result.andThen_ok, run_und hu, Int.natCast_nonneg, if_true, Int.toNat_natCast, hget]
        congr 2
        rw [UInt8.toNat_ofNat']
        simp [p256]
        rfl
      · rw [if_neg (by simpa using hjn)] at hg'
        cases (show (none : Option V) = some x from hg')
  · cases hc
end
end Go.Proofs.YtaogopbhjinmoaaGreatDoor.Ev
namespace Go.Proofs.YtaogopbhjinmoaaGreatDoor.Ev
open Go
theorem ofNat_mod (c : Nat) : UInt8.ofNat (c % 256) = UInt8.ofNat c := by
  apply UInt8.toNat_inj.1; simp [UInt8.toNat_ofNat']
theorem bytesV_spec : ∀ (vs : List V) (n s : Nat), bytesV vs = some (n, s) → ∃ ns : List Nat, vs = ns.map (fun c => V.i .u8 (.ofNat c)) ∧ n = ns.length ∧ bl n s = ns.map (fun c => UInt8.ofNat c)
  | [], n, s, h => by
    simp only [bytesV, Option.some.injEq, Prod.mk.injEq] at h
    obtain ⟨rfl, rfl⟩ := h
    exact ⟨[], rfl, rfl, rfl⟩
  | v :: l, n, s, h => by
    rw [bytesV.eq_def] at h
    split at h
    · rename_i e; cases e
    · rename_i c l' e
      obtain ⟨rfl, rfl⟩ := List.cons.inj e
      split at h
      · rename_i m x hm
        simp only [Option.some.injEq, Prod.mk.injEq] at h
        obtain ⟨rfl, rfl⟩ := h
        obtain ⟨ns, rfl, rfl, hb⟩ := bytesV_spec l m x hm
        refine ⟨c :: ns, rfl, rfl, ?_⟩
        show bl (ns.length + 1) (c % 256 + 256 * x) = _
        rw [bl]
        have h1 : (c % 256 + 256 * x) % 256 = c % 256 := by omega
        have h2 : (c % 256 + 256 * x) / 256 = x := by omega
        rw [h1, h2, hb, ofNat_mod]; rfl
      · cases h
    · cases h
theorem byteCells_succ (n x : Nat) : byteCells (n + 1) x = .i .u8 (.ofNat (x % 256)) :: byteCells n (x / 256) := by
  rw [byteCells, fN_eq]; rfl
theorem byteCells_conc (E : Env) (n : Nat) : ∀ x, concs E (byteCells n x) = (bl n x).map fun b => Value.int .u8 (b.toNat : Int) := by
  induction n with
  | zero => intro x; rfl
  | succ n ih =>
    intro x
    rw [byteCells_succ, concs, ih, bl, List.map_cons]
    congr 1
    simp only [conc, UInt8.toNat_ofNat']
    congr 1
    show ((x % 256 : Nat) : Int) = _
    simp
section
variable {P : Program} {E : Env} {F : RO} {M : Mem} {c : Nat → Prop} {w : World} {t : T} {a : Act}
theorem byteCells_bd (n : Nat) : ∀ x, bds c (byteCells n x) := by
  induction n with
  | zero => intro x; trivial
  | succ n ih => intro x; rw [byteCells_succ]; exact ⟨trivial, ih _⟩
theorem byteCells_length (n : Nat) : ∀ x, (byteCells n x).length = n := by
  induction n with
  | zero => intro x; rfl
  | succ n ih => intro x; rw [byteCells_succ, List.length_cons, ih]
theorem Cx.readB (h : Cx P E F M c w t a) {sz n b o : Nat} {vs : List V} {r : Option Nat} (hr : readB F M sz n b o = some (vs, r)) :
    (loadCells ⟨E.ρ b, E.β b + o, none⟩ (n * sz)).run P w = .ok (concs E vs).toArray w ∧ bds c vs ∧ vs.length = n * sz := by
  unfold Ev.readB at hr
  rw [beqN] at hr
  by_cases hn : n = 0
  · subst hn
    simp at hr
    obtain ⟨rfl, rfl⟩ := hr
    exact ⟨by simp [loadCells, loadCellsFrom, concs], trivial, by simp⟩
  · rw [decide_eq_false hn, cond_false] at hr
    split at hr
    · rename_i l hl
      simp only [Option.some.injEq, Prod.mk.injEq] at hr
      obtain ⟨rfl, rfl⟩ := hr
      exact h.loadN hl
    · cases hr
theorem lenV_slice {v : V} {n : Nat} (h : lenV v = some n) : (∃ ad cap, conc E v = .slice ad n cap) ∨ ∃ x, v = .s n x := by
  cases v <;> first
    | (simp only [lenV, Option.some.injEq] at h; subst h; exact .inl ⟨_, _, rfl⟩)
    | (simp only [lenV, Option.some.injEq] at h; subst h; exact .inr ⟨_, rfl⟩)
    | (simp [lenV] at h)
theorem Cx.readL (h : Cx P E F M c w t a) {sz n : Nat} {v : V} {vs : List V} {r : Option Nat} (hr : readL F M sz n v = some (vs, r)) :
    (∃ ad len cap, conc E v = .slice ad len cap ∧ (match ad with
      | some ad => (loadCells ad (n * sz)).run P w = .ok (concs E vs).toArray w
      | none => vs = [])) ∧ bds c vs ∧ vs.length = n * sz := by
  cases v with
  | l b o len cap =>
    have := h.readB (show Ev.readB F M sz n b o = some (vs, r) from hr)
    exact ⟨⟨_, _, _, rfl, this.1⟩, this.2⟩
  | u b o len el kn =>
    have := h.readB (show Ev.readB F M sz n b o = some (vs, r) from hr)
    exact ⟨⟨_, _, _, rfl, this.1⟩, this.2⟩
  | ue b o0 o =>
    have hr' : (bif Nat.beq n 0 then some (([] : List V), (none : Option Nat)) else none) = some (vs, r) := hr
    rw [beqN] at hr'
    by_cases hn : n = 0
    · subst hn
      simp at hr'
      obtain ⟨rfl, rfl⟩ := hr'
      exact ⟨⟨_, _, _, rfl, by simp [loadCells, loadCellsFrom, concs]⟩, trivial, by simp⟩
    · rw [decide_eq_false hn] at hr'; cases hr'
  | l0 =>
    have hr' : (bif Nat.beq n 0 then some (([] : List V), (none : Option Nat)) else none) = some (vs, r) := hr
    rw [beqN] at hr'
    by_cases hn : n = 0
    · subst hn
      simp at hr'
      obtain ⟨rfl, rfl⟩ := hr'
      exact ⟨⟨_, _, _, rfl, rfl⟩, trivial, by simp⟩
    · rw [decide_eq_false hn] at hr'; cases hr'
  | _ => cases (show (none : Option (List V × Option Nat)) = some (vs, r) from hr)
theorem bytes_run {vs : List V} {n s len cap : Nat} {ad : Option Addr} (hs : bytesV vs = some (n, s)) (hl : match ad with
      | some ad => (loadCells ad len).run P w = .ok (concs E vs).toArray w
      | none => vs = []) : (Conv.bytesToString (.slice ad len cap)).run P w = .ok (.string (ba n s)) w := by
  obtain ⟨ns, rfl, rfl, hb⟩ := bytesV_spec _ _ _ hs
  cases ad with
  | none =>
    cases ns with
    | nil => simp [Conv.bytesToString, ba, bl]; rfl
    | cons x l => simp at hl
  | some ad =>
    have hl' : (loadCells ad len).run P w = .ok ((ns.map Int.ofNat).map (Value.int .u8)).toArray w := by
      rw [hl, concs_map]; congr 2; simp [List.map_map, conc, Function.comp_def]
    rw [run_bytesToString w ad len cap _ hl', foldl_push_bytes]
    congr 2
    apply ba_ext
    rw [hb]
    simp [List.map_map, Function.comp_def]
theorem CellsRel.le {b ty n fz : Nat} {ex str : Bool} {d : List V} {cs : T} {arr : Array Value} {fr : Nat × Nat} (h : CellsRel P E b ty n ex fz str d cs arr fr) : E.β b + n ≤ arr.size := by
  have := h.size
  cases ex with
  | true => simp at this; omega
  | false => simp at this; omega
theorem slS_val {n s : Nat} {lo hi : Option Nat} {x : V} (h : (q_slS1 n s lo hi).val = some x) : ∃ l k, lo = some l ∧ hi = some k ∧ l ≤ k ∧ k ≤ n ∧ x = .s (k - l) (s / 256 ^ l % 256 ^ (k - l)) := by
  cases lo with
  | none => cases (show (none : Option V) = some x from h)
  | some l => cases hi with
    | none => cases (show (none : Option V) = some x from h)
    | some k =>
      have h' : (Bool.rec (motive := fun _ => QR) .f (Bool.rec (motive := fun _ => QR) .f (vS (Nat.sub k l) (Nat.mod (Nat.div s (p256 l)) (p256 (Nat.sub k l)))) (Nat.ble k n)) (Nat.ble l k)).val = some x := h
      rw [bb, bb, bleN, bleN, vS_eq] at h'
      by_cases h1 : l ≤ k
      · rw [if_pos (by simpa using h1)] at h'
        by_cases h2 : k ≤ n
        · rw [if_pos (by simpa using h2)] at h'
          exact ⟨l, k, rfl, rfl, h1, h2, (Option.some.inj h').symm⟩
        · rw [if_neg (by simpa using h2)] at h'
          cases (show (none : Option V) = some x from h')
      · rw [if_neg (by simpa using h1)] at h'
        cases (show (none : Option V) = some x from h')
theorem cellsOf_sz {ty n : Nat} (h : szOf P ty = some n) : P.cellsOf ty = n := by
  unfold szOf at h; unfold Program.cellsOf; rw [h]; rfl
theorem row_self {ty s k : Nat} (fits : TypeId → Bool) (hf : fits ty = true) (h : szOf P ty = some (s + 1)) : rowAt P fits (k + 1) ty 1 0 1 = true := by
  rw [rowAt.eq_def]
  simp [cellsOf_sz h, hf]
theorem lies_self' {ty s k : Nat} (h : szOf P ty = some (s + 1)) (hr : rowAt P (sameLayout P P.depth · ty) P.depth ty 1 0 1 = true) : liesAt P (k + 1) ty 1 0 ty 1 = true := by
  rw [liesAt.eq_def]
  simp only [hr, Bool.true_or]
theorem same_self {ty k : Nat} : sameLayout P (k + 1) ty ty = true := by
  rw [sameLayout.eq_def]; simp
theorem lies_self {ty s : Nat} (h : szOf P ty = some (s + 1)) : liesAt P P.depth ty 1 0 ty 1 = true :=
  lies_self' (k := 2 * (P.types.size + Made.depth) + 1) h (row_self (k := 2 * (P.types.size + Made.depth) + 1) _ (same_self (k := 2 * (P.types.size + Made.depth) + 1)) h)
theorem q_convert (h : Cx P E F M c w t a) {o : Oper} {s d : TypeId} {y : Operand} (hop : o.op = .convert s d y) {q : QO} (hc : compOp P o.op = some (.q q)) {x : V} (hx : (qop q F M t).val = some x) : QOk P E c w a o x := by
  rw [hop] at hc
  simp only [compOp] at hc
  split at hc
  ·
    rename_i ks k z h1 h2 hz
    obtain rfl : QO.ci k z = q := by simpa [Ev.q] using hc
    obtain ⟨k', n, hv, hg⟩ := onI_val (show (onI (z.ev t) .f fun _ n => vI k (wr k n)).val = some x from hx)
    rw [vI_eq] at hg
    obtain rfl := Option.some.inj hg
    have e := h.ev hz
    rw [hv] at e
    refine ⟨?_, trivial⟩
    simp only [execOp, hop]
    refine val_run ?_
    rw [e.1, wr_eq]
    exact ci_run h1 h2 k' n
  ·
    rename_i z h1 h2 hz
    obtain rfl : QO.slS z none none = q := by simpa [Ev.q] using hc
    obtain ⟨n, s', hv, hg⟩ := onS_val (show (onS (z.ev t) .f fun n s => q_slS1 n s (some 0) (some n)).val = some x from hx)
    obtain ⟨l, k, h3, h4, _, _, rfl⟩ := slS_val hg
    obtain rfl := Option.some.inj h3
    obtain rfl := Option.some.inj h4
    have e := h.ev hz
    rw [hv] at e
    refine ⟨?_, trivial⟩
    simp only [execOp, hop]
    refine val_run ?_
    rw [e.1]
    simp only [convert, Sem.run_bind, run_und h1, run_und h2, Result.andThen_ok, conc, Sem.run_pure]
    congr 2
    apply ba_ext
    rw [ba_toList, Nat.sub_zero, bl_mod, Nat.pow_zero, Nat.div_one]
  ·
    rename_i el z h1 h2 hz
    split at hc
    · rename_i hu8
      obtain rfl : QO.bs z = q := by simpa [Ev.q] using hc
      have e := h.ev hz
      have hel : P.underlying el = some (.int .u8) := by
        unfold isU8 at hu8
        split at hu8
        · assumption
        · cases hu8
      have hx' : (q_bs z F M t).val = some x := hx
      unfold q_bs at hx'
      split at hx'
      · cases hx'
      · rename_i v hv
        unfold q_bs1 at hx'
        split at hx'
        · rename_i n hn
          split at hx'
          · rename_i vs b hr
            unfold q_bs2 at hx'
            split at hx'
            · rename_i m sx hb
              rw [fN_eq, fN_eq] at hx'
              have hxx : x = .s m sx := by
                split at hx'
                · exact (Option.some.inj hx').symm
                · exact (Option.some.inj hx').symm
              subst hxx
              obtain ⟨⟨ad, len, cap, hcv, hld⟩, _, _⟩ := h.readL hr
              rcases lenV_slice (E := E) hn with ⟨ad', cap', e'⟩ | ⟨y', e'⟩
              · rw [hcv] at e'
                simp only [Value.slice.injEq] at e'
                obtain ⟨_, rfl, _⟩ := e'
                refine ⟨?_, trivial⟩
                simp only [execOp, hop]
                refine val_run ?_
                rw [e.1, hcv, run_convert_bytes_string w s d el ad len cap h1 hel h2]
                exact bytes_run hb (by simpa using hld)
              · exact absurd e' (hv n y')
            · cases hx'
          · cases hx'
        · cases hx'
    · cases hc
  · split at hc <;> cases hc
  · split at hc <;> cases hc
  ·
    rename_i el z h1 h2 hz
    split at hc
    · cases hc
    · rename_i hsz
      obtain rfl : QO.up z = q := by simpa [Ev.q] using hc
      have e := h.ev hz
      have hx' : (q_up z F M t).val = some x := hx
      unfold q_up at hx'
      split at hx'
      · rename_i hv
        obtain rfl := Option.some.inj hx'
        rw [hv] at e
        refine ⟨?_, trivial⟩
        simp only [execOp, hop]
        refine val_run ?_
        rw [e.1]
        simp only [convert, Conv.unsafePointer, Sem.run_bind, run_und h1, run_und h2, Result.andThen_ok, conc, Sem.run_pure]
      · rename_i b off hv
        cases hl : look F M b with
        | none => rw [hl] at hx'; cases (show (none : Option V) = some x from hx')
        | some blk =>
          cases blk with
          | cells ty n ex fz str dd cs =>
            rw [hl] at hx'
            have hx2 : (bif Nat.blt off n then QR.r (.p b off) b else .f).val = some x := hx'
            rw [bltN] at hx2
            by_cases hlt : off < n
            · rw [decide_eq_true hlt] at hx2
              obtain rfl := Option.some.inj hx2
              rw [hv] at e
              refine ⟨?_, e.2⟩
              obtain ⟨arr, fr, ho, hr⟩ := h.cells hl
              have hle := hr.le
              have hshape : w.shape? (E.ρ b) = some (ty, arr.size) := by simp [World.shape?, ho]
              obtain ⟨s1, hs1⟩ : ∃ s1, szOf P el = some (s1 + 1) := by
                cases hz' : szOf P el with
                | none => rw [hz'] at hsz; simp at hsz
                | some k => cases k with
                  | zero => rw [hz'] at hsz; simp at hsz
                  | succ k => exact ⟨k, rfl⟩
              have hnot : ¬ (arr.size ≤ E.β b + off) := by omega
              simp only [execOp, hop]
              refine val_run ?_
              rw [e.1]
              simp [convert, Conv.unsafePointer, Sem.run_bind, run_und h1, run_und h2, conc, Conv.seenAt, viewAt, hshape, cellsIn, run_sz hs1, hnot]
            · rw [decide_eq_false hlt] at hx2
              cases (show (none : Option V) = some x from hx2)
          | _ => rw [hl] at hx'; cases (show (none : Option V) = some x from hx')
      · cases hx'
  ·
    rename_i el z h1 h2 hz
    split at hc
    · rename_i s1 hs1
      obtain rfl : QO.dn el (s1 + 1) z = q := by simpa [Ev.q] using hc
      have e := h.ev hz
      have hx' : (q_dn el (s1 + 1) z F M t).val = some x := hx
      unfold q_dn at hx'
      split at hx'
      · rename_i hv
        obtain rfl := Option.some.inj hx'
        rw [hv] at e
        refine ⟨?_, trivial⟩
        simp only [execOp, hop]
        refine val_run ?_
        rw [e.1]
        simp only [convert, Conv.unsafePointer, Sem.run_bind, run_und h1, run_und h2, Result.andThen_ok, conc, Sem.run_pure]
      · rename_i b hv
        unfold dnIn at hx'
        split at hx'
        · rename_i ty n fz str dd cs hl
          rw [beqN, beqN] at hx'
          by_cases hh : ty = el ∧ n = s1 + 1
          · obtain ⟨rfl, rfl⟩ := hh
            have hx2 : some (V.p b 0) = some x := by simpa [QR.val] using hx'
            obtain rfl := Option.some.inj hx2
            rw [hv] at e
            refine ⟨?_, e.2⟩
            obtain ⟨arr, fr, ho, hr⟩ := h.cells hl
            have hsz := hr.size
            simp only [if_true] at hsz
            have hshape : w.shape? (E.ρ b) = some (ty, s1 + 1) := by simp [World.shape?, ho, hsz.2]
            simp only [execOp, hop]
            refine val_run ?_
            rw [e.1]
            have hdiv : (s1 + 1) / (s1 + 1) = 1 := Nat.div_self (by omega)
            simp [convert, Conv.unsafePointer, Sem.run_bind, run_und h1, run_und h2, conc, Conv.seenAt, viewAt, hshape, run_sz hs1, variablesAt, cellsOf_sz hs1, hsz.1, hdiv, lies_self hs1]
          · exfalso
            have : (decide (ty = el) && decide (n = s1 + 1)) = false := by
              rw [Bool.and_eq_false_iff]; simp only [decide_eq_false_iff_not]; omega
            rw [this] at hx'
            cases (show (none : Option V) = some x from hx')
        · cases hx'
      · cases hx'
    · cases hc
  · cases hc
end
end Go.Proofs.YtaogopbhjinmoaaGreatDoor.Ev
namespace Go.Proofs.YtaogopbhjinmoaaGreatDoor.Ev
open Go
section
variable {P : Program} {E : Env} {F : RO} {M : Mem} {c : Nat → Prop} {w : World} {t : T} {a : Act}
def OptI (o : Option Value) (r : Option Nat) : Prop := ∃ k, o = r.map fun n => Value.int k (n : Int)
theorem Cx.optNN (h : Cx P E F M c w t a) {o : Option Operand} {x : Option X} (hx : optX o = some x) {r : Option Nat} (hr : Ev.optNN t x = some r) : OptI (o.map a.eval) r := by
  cases o with
  | none =>
    obtain rfl := Option.some.inj hx
    obtain rfl := Option.some.inj hr
    exact ⟨.i64, rfl⟩
  | some y =>
    obtain ⟨z, hz, rfl⟩ := Option.map_eq_some_iff.1 hx
    have hr' : (match asN (z.ev t) with | some n => some (some n) | none => none) = some r := hr
    split at hr'
    · rename_i n hn
      obtain rfl := Option.some.inj hr'
      obtain ⟨k, hk⟩ := asN_some hn
      refine ⟨k, ?_⟩
      rw [Option.map_some, (h.ev hz).1, hk]; rfl
    · cases hr'
theorem Cx.optN (h : Cx P E F M c w t a) {o : Option Operand} {x : Option X} (hx : optX o = some x) {d n : Nat} (hr : Ev.optN t d x = some n) :
    ∃ r, OptI (o.map a.eval) r ∧ r.getD d = n ∧ (r.isSome ↔ x.isSome) := by
  cases o with
  | none =>
    obtain rfl := Option.some.inj hx
    obtain rfl : d = n := Option.some.inj hr
    exact ⟨none, ⟨.i64, rfl⟩, rfl, by simp⟩
  | some y =>
    obtain ⟨z, hz, rfl⟩ := Option.map_eq_some_iff.1 hx
    have hn : asN (z.ev t) = some n := hr
    obtain ⟨k, hk⟩ := asN_some hn
    refine ⟨some n, ⟨k, ?_⟩, rfl, by simp⟩
    rw [Option.map_some, (h.ev hz).1, hk]; rfl
theorem bounds_run {isS : Bool} {len cap : Nat} {lo hi mx : Option Value} {l h m : Option Nat} (hl : OptI lo l) (hh : OptI hi h) (hm : OptI mx m)
    (h1 : m.getD cap ≤ cap) (h2 : h.getD len ≤ m.getD cap) (h3 : l.getD 0 ≤ h.getD len) (h4 : m = none ∨ h.isSome) :
    (Instr.sliceBounds isS len cap lo hi mx).run P w = .ok (l.getD 0, h.getD len, m.getD cap) w := by
  obtain ⟨k1, rfl⟩ := hl
  obtain ⟨k2, rfl⟩ := hh
  obtain ⟨k3, rfl⟩ := hm
  cases l <;> cases h <;> cases m <;>
    simp_all [Instr.sliceBounds, Instr.sliceBound, asIntOf]
theorem mkL_val {b o n k : Nat} {x : V} (h : (mkL b o n k).val = some x) : x = .l b o n k := by
  unfold mkL at h; rw [fN_eq, fN_eq, fN_eq] at h; exact (Option.some.inj h).symm
theorem mkU_val {b o n el kn : Nat} {x : V} (h : (mkU b o n el kn).val = some x) : x = .u b o n el kn := by
  unfold mkU at h; rw [fN_eq, fN_eq, fN_eq] at h; exact (Option.some.inj h).symm
theorem and3 {p q r : Bool} {x y : QR} {v : V} (h : (bif p && q && r then x else .f).val = some v) : p = true ∧ q = true ∧ r = true ∧ x.val = some v := by
  cases p <;> cases q <;> cases r <;> first | exact ⟨rfl, rfl, rfl, h⟩ | cases (show (none : Option V) = some v from h)
theorem and2 {p q : Bool} {x : QR} {v : V} (h : (bif p && q then x else .f).val = some v) : p = true ∧ q = true ∧ x.val = some v := by
  cases p <;> cases q <;> first | exact ⟨rfl, rfl, h⟩ | cases (show (none : Option V) = some v from h)
theorem slc_l_val {sz b o cap l h m : Nat} {x : V} (hx : (slc_l sz b o cap l h m).val = some x) : m ≤ cap ∧ h ≤ m ∧ l ≤ h ∧ x = .l b (if m = l then o else o + l * sz) (h - l) (m - l) := by
  unfold slc_l at hx
  rw [bleN, bleN, bleN, beqN] at hx
  obtain ⟨h1, h2, h3, h4⟩ := and3 (y := .f) hx
  refine ⟨of_decide_eq_true h1, of_decide_eq_true h2, of_decide_eq_true h3, ?_⟩
  rw [mkL_val h4]
  by_cases e : m = l <;> simp [e]
theorem addr_if {r o k : Nat} {p : Prop} [Decidable p] : (if p then (⟨r, o, none⟩ : Addr) else ⟨r, o + k, none⟩) = ⟨r, if p then o else o + k, none⟩ := by split <;> rfl
theorem q_slice (h : Cx P E F M c w t a) {o : Oper} {ty : TypeId} {y : Operand} {lo hi mx : Option Operand} (hop : o.op = .slice ty y lo hi mx) {q : QO} (hc : compOp P o.op = some (.q q)) {x : V} (hx : (qop q F M t).val = some x) : QOk P E c w a o x := by
  rw [hop] at hc
  simp only [compOp] at hc
  split at hc
  · rename_i xa xl xh xm h1 h2 h3 h4
    have e := h.ev h1
    have arr : ∀ n s el, szOf P el = some s → (∀ ad : Addr, ∀ lo' hi' mx' : Option Value, ∀ l k m : Nat, (Instr.sliceBounds false n n lo' hi' mx').run P w = .ok (l, k, m) w →
          (Instr.sliceAt ty (.pointer (some ad)) lo' hi' mx').run P w = .ok (.slice (some (if m = l then ad else ad.add (l * s))) (k - l) (m - l)) w) →
          QO.slA n s xa xl xh xm = q → QOk P E c w a o x := by
      intro n s el hs hrun hq
      subst hq
      have hx' : (q_slA n s xa xl xh xm F M t).val = some x := hx
      unfold q_slA at hx'
      by_cases hg : (xm.isNone || xh.isSome) = true
      · rw [hg, cond_true] at hx'
        obtain ⟨b, off, hv, hg2⟩ := onP_val hx'
        unfold q_slA1 at hg2
        split at hg2
        · rename_i l k m hl hk hm
          obtain ⟨d1, d2, d3, rfl⟩ := slc_l_val hg2
          obtain ⟨rl, ol, el', _⟩ := h.optN h2 hl
          obtain ⟨rh, oh, eh, ih⟩ := h.optN h3 hk
          obtain ⟨rm, om, em, im⟩ := h.optN h4 hm
          subst el' eh em
          rw [hv] at e
          refine ⟨?_, e.2⟩
          simp only [execOp, hop]
          refine val_run ?_
          rw [e.1]
          simp only [conc]
          rw [hrun _ _ _ _ _ _ _ (bounds_run ol oh om d1 d2 d3 (by
            cases hxm : xm with
            | none => left; rw [hxm] at im; simpa using im
            | some z => right; rw [hxm] at hg; rw [ih]; simpa using hg))]
          simp only [Addr.add_eq, addr_if]
          congr 5
          split <;> omega
        · cases hg2
      · rw [Bool.not_eq_true] at hg
        rw [hg] at hx'
        cases (show (none : Option V) = some x from hx')
    split at hc
    ·
      rename_i hu
      split at hc
      · cases hc
      · rename_i hmx
        obtain rfl : QO.slS xa xl xh = q := by simpa [Ev.q] using hc
        obtain ⟨n, s, hv, hg⟩ := onS_val (show (onS (xa.ev t) .f fun n s => q_slS1 n s (optN t 0 xl) (optN t n xh)).val = some x from hx)
        obtain ⟨l, k, hl, hk, d1, d2, rfl⟩ := slS_val hg
        obtain ⟨rl, ol, el', _⟩ := h.optN h2 hl
        obtain ⟨rh, oh, eh, ih⟩ := h.optN h3 hk
        subst el' eh
        have hmn : xm = none := by cases xm with
          | none => rfl
          | some z => simp at hmx
        have hmx0 : mx = none := by
          rw [hmn] at h4
          cases mx with
          | none => rfl
          | some z => rw [optX] at h4; cases hz : compX z <;> rw [hz] at h4 <;> simp at h4
        rw [hv] at e
        refine ⟨?_, trivial⟩
        simp only [execOp, hop]
        refine val_run ?_
        rw [e.1, hmx0]
        have hb := bounds_run (P := P) (w := w) (isS := false) (len := n) (cap := n) (mx := none) (m := none) ol oh ⟨.i64, rfl⟩ (by simp) (by simpa using d2) (by simpa using d1) (.inl rfl)
        simp only [Instr.sliceAt, Instr.slice, Sem.run_bind, run_und hu, Result.andThen_ok, conc, Option.map_none, Option.isSome_none, Bool.false_eq_true, if_false, Sem.run_ite, Sem.run_pure, ba_size, hb]
        congr 2
        exact ba_extract _ _ _ _ d1 d2
    ·
      rename_i el hu
      obtain ⟨s, hs, hc'⟩ := Option.bind_eq_some_iff.1 hc
      split at hc'
      · cases hc'
      · obtain rfl : QO.slL s xa xl xh xm = q := by simpa [Ev.q] using hc'
        have hx' : (q_slL1 s (xa.ev t) (optNN t xl) (optNN t xh) (optNN t xm)).val = some x := hx
        unfold q_slL1 at hx'
        split at hx'
        · rename_i rl rh rm hl hk hm
          have ol := h.optNN h2 hl
          have oh := h.optNN h3 hk
          have om := h.optNN h4 hm
          unfold slcV at hx'
          by_cases hg : (rm.isNone || rh.isSome) = true
          · rw [hg, cond_true] at hx'
            have h4' : rm = none ∨ rh.isSome := by
              cases rm with
              | none => exact .inl rfl
              | some z => right; simpa using hg
            have fin : ∀ (ad : Option Addr) (len cap : Nat), conc E (xa.ev t) = .slice ad len cap → rm.getD cap ≤ cap → rh.getD len ≤ rm.getD cap → rl.getD 0 ≤ rh.getD len →
                (Instr.sliceAt ty (conc E (xa.ev t)) (lo.map a.eval) (hi.map a.eval) (mx.map a.eval)).run P w =
                  .ok (.slice (if rm.getD cap = rl.getD 0 then ad else ad.map (·.add (rl.getD 0 * s))) (rh.getD len - rl.getD 0) (rm.getD cap - rl.getD 0)) w := by
              intro ad len cap hcv d1 d2 d3
              rw [hcv]
              have hb := bounds_run (P := P) (w := w) (isS := true) ol oh om d1 d2 d3 h4'
              simp only [Instr.sliceAt, Instr.slice, Sem.run_bind, run_und hu, Result.andThen_ok, hb, run_sz hs, Sem.run_pure]
            split at hx'
            · rename_i b off len cap hv
              obtain ⟨d1, d2, d3, rfl⟩ := slc_l_val hx'
              rw [hv] at e
              refine ⟨?_, e.2⟩
              simp only [execOp, hop]
              refine val_run ?_
              rw [(h.ev h1).1, fin _ len cap (by rw [hv]; rfl) d1 d2 d3]
              simp only [conc, Option.map_some, Addr.add_eq]
              congr 2
              split
              · rename_i e0; simp [e0]
              · rename_i e0; simp [e0, Nat.add_assoc]
            · rename_i hv
              rw [beqN, beqN, beqN] at hx'
              obtain ⟨g1, g2, g3, g4⟩ := and3 (y := .f) hx'
              obtain rfl := Option.some.inj g4
              have g1 := of_decide_eq_true g1
              have g2 := of_decide_eq_true g2
              have g3 := of_decide_eq_true g3
              refine ⟨?_, trivial⟩
              simp only [execOp, hop]
              refine val_run ?_
              rw [e.1, fin none 0 0 (by rw [hv]; rfl) (by omega) (by omega) (by omega), g1, g2, g3]
              rfl
            · rename_i b off len el' kn hv
              rw [hv] at e
              split at hx'
              · unfold slc_u at hx'
                rw [bleN, bleN, beqN, bltN] at hx'
                obtain ⟨g1, g2, g3⟩ := and2 hx'
                have g1 : el' + rh.getD len ≤ kn := of_decide_eq_true g1
                have g2 : rl.getD 0 ≤ rh.getD len := of_decide_eq_true g2
                have hr := fin _ len _ (by rw [hv]; rfl) (by simp) (show rh.getD len ≤ kn - el' + E.κ b by omega) g2
                simp only [Option.getD_none] at hr
                by_cases hl0 : rl.getD 0 = 0
                · rw [decide_eq_true (p := rl.getD 0 = 0) hl0, cond_true] at g3
                  obtain rfl := mkU_val g3
                  refine ⟨?_, e.2⟩
                  simp only [execOp, hop]
                  refine val_run ?_
                  rw [(h.ev h1).1, hr, hl0]
                  simp [conc, Addr.add_eq]
                · rw [decide_eq_false (p := rl.getD 0 = 0) hl0, cond_false] at g3
                  by_cases hlt : el' + rl.getD 0 < kn
                  · rw [show Nat.add el' (rl.getD 0) = el' + rl.getD 0 from rfl, decide_eq_true hlt, cond_true] at g3
                    obtain rfl := mkU_val g3
                    refine ⟨?_, e.2⟩
                    simp only [execOp, hop]
                    refine val_run ?_
                    rw [(h.ev h1).1, hr]
                    have hne : ¬ (kn - el' + E.κ b = rl.getD 0) := by omega
                    simp only [conc, hne, if_false, Option.map_some, Addr.add_eq]
                    congr 2
                    · rw [Nat.add_assoc]; rfl
                    · show _ = kn - (el' + rl.getD 0) + E.κ b
                      omega
                  · rw [show Nat.add el' (rl.getD 0) = el' + rl.getD 0 from rfl, decide_eq_false hlt, cond_false, fN_eq] at g3
                    obtain rfl := Option.some.inj g3
                    refine ⟨?_, e.2⟩
                    simp only [execOp, hop]
                    refine val_run ?_
                    rw [(h.ev h1).1, hr]
                    have e1 : rh.getD len - rl.getD 0 = 0 := by omega
                    have e2 : kn - el' + E.κ b - rl.getD 0 = E.κ b := by omega
                    rw [e1, e2]
                    simp only [conc, Option.map_some, Addr.add_eq]
                    congr 2
                    by_cases hk0 : E.κ b = 0
                    · rw [if_pos (by omega), if_pos hk0, if_neg (show ¬ (Nat.add off (Nat.mul (rl.getD 0) s) < off) from Nat.not_lt.2 (Nat.le_add_right _ _))]
                    · rw [if_neg (by omega), if_neg hk0, Nat.add_assoc]; rfl
              · rename_i m
                unfold slc_um at hx'
                rw [bleN, bleN, bleN, beqN] at hx'
                obtain ⟨g1, g2, g3, g4⟩ := and3 (y := .f) hx'
                have g1 : el' + m ≤ kn := of_decide_eq_true g1
                have g2 : rh.getD len ≤ m := of_decide_eq_true g2
                have g3 : rl.getD 0 ≤ rh.getD len := of_decide_eq_true g3
                obtain rfl := mkL_val g4
                refine ⟨?_, e.2⟩
                simp only [execOp, hop]
                refine val_run ?_
                rw [(h.ev h1).1, fin _ len _ (by rw [hv]; rfl) (by simp; omega) (by simpa using g2) g3]
                simp only [conc, Option.getD_some, Option.map_some, Addr.add_eq]
                congr 2
                by_cases e0 : m = rl.getD 0
                · simp [e0]
                · simp [e0, Nat.add_assoc]
            · rename_i b o0 off hv
              rw [hv] at e
              rw [beqN, beqN] at hx'
              obtain ⟨g1, g2, g3, g4⟩ := and3 (y := .f) hx'
              obtain rfl := Option.some.inj g4
              have g2 := of_decide_eq_true g2
              have g3 := of_decide_eq_true g3
              have hrm : rm = none := by simpa using g1
              subst hrm
              refine ⟨?_, e.2⟩
              simp only [execOp, hop]
              refine val_run ?_
              rw [(h.ev h1).1, fin _ 0 _ (by rw [hv]; rfl) (by simp) (by rw [g2]; omega) (by rw [g3]; omega), g2, g3]
              simp [conc, Addr.add, hv]
            · cases hx'
          · rw [Bool.not_eq_true] at hg
            rw [hg] at hx'
            cases (show (none : Option V) = some x from hx')
        · cases hx'
    ·
      rename_i n el hu
      obtain ⟨s, hs, hc'⟩ := Option.bind_eq_some_iff.1 hc
      split at hc'
      · cases hc'
      · refine arr n s el hs ?_ (by simpa [Ev.q] using hc')
        intro ad lo' hi' mx' l k m hb
        simp only [Instr.sliceAt, Sem.run_bind, run_und hu, Result.andThen_ok, Instr.sureAddr, Sem.run_pure, hb, run_sz hs]
    ·
      rename_i ar hu
      split at hc
      · rename_i n el hua
        obtain ⟨s, hs, hc'⟩ := Option.bind_eq_some_iff.1 hc
        split at hc'
        · cases hc'
        · refine arr n s el hs ?_ (by simpa [Ev.q] using hc')
          intro ad lo' hi' mx' l k m hb
          simp only [Instr.sliceAt, Instr.slice, Sem.run_bind, run_und hu, run_und hua, Result.andThen_ok, asAddr, Sem.run_pure, hb, run_sz hs]
      · cases hc
    · cases hc
  · cases hc
end
end Go.Proofs.YtaogopbhjinmoaaGreatDoor.Ev
namespace Go.Proofs.YtaogopbhjinmoaaGreatDoor.Ev
open Go
theorem asMap_val {o : Option Blk} {g : List (V × V × Nat) → Nat → QR} {x : V} (h : (asMap o .f g).val = some x) : ∃ es k, o = some (.map es k) ∧ (g es k).val = some x := by
  cases o with
  | none => cases (show (none : Option V) = some x from h)
  | some b => cases b with
    | map es k => exact ⟨es, k, rfl, h⟩
    | _ => cases (show (none : Option V) = some x from h)
theorem ba_beq (n x m y : Nat) : (ba n x == ba m y) = decide (bl n x = bl m y) := by
  show ((ba n x).data == (ba m y).data) = _
  rw [Bool.eq_iff_iff, beq_iff_eq, decide_eq_true_iff]
  constructor
  · intro e
    have := congrArg Array.toList e
    simpa [ba_toList] using this
  · intro e; simp only [ba, e]
inductive KeyKind (P : Program) : TypeId → Sh → TypeDesc → Prop
  | bool (ty : TypeId) : KeyKind P ty .bool .bool
  | int (ty : TypeId) (k : IntKind) : KeyKind P ty .int (.int k)
  | str (ty : TypeId) : KeyKind P ty .str .string
  | ints (ty : TypeId) (fs : Array Field) (ks : List (Nat × Sh)) (hp : P.stoodInHeld ty = false) (h : intFs P fs.toList 0 = true) (hl : ks.length = fs.toList.length) : KeyKind P ty (.agg ks) (.struct fs)
section
variable {P : Program} {E : Env} {F : RO} {M : Mem} {c : Nat → Prop} {w : World} {t : T} {a : Act}
theorem keySh_kind {ty : TypeId} {sh : Sh} (h : keySh P ty = some sh) : ∃ d, P.underlying ty = some d ∧ KeyKind P ty sh d := by
  unfold keySh at h
  split at h
  · rename_i hu; obtain rfl := Option.some.inj h; exact ⟨_, hu, .bool _⟩
  · rename_i hu; obtain rfl := Option.some.inj h; exact ⟨_, hu, .int _ _⟩
  · rename_i hu; obtain rfl := Option.some.inj h; exact ⟨_, hu, .str _⟩
  · rename_i fs hu
    split at h
    · cases h
    · rename_i hc
      obtain rfl := Option.some.inj h
      simp only [Bool.or_eq_true, not_or, Bool.not_eq_true, Bool.not_eq_false'] at hc
      exact ⟨_, hu, .ints _ fs _ hc.1 hc.2 (by simp)⟩
  · cases h
theorem part_int {t : TypeId} {k : IntKind} (hu : P.underlying t = some (.int k)) {xs : List V} {o : Nat} {x : V} (hx : xs[o]? = some x) : (part t (concs E xs).toArray o).run P w = .ok (conc E x) w := by
  have : (concs E xs).toArray[o]? = some (conc E x) := by rw [concs_map]; simp [hx]
  simp [part, isAgg, run_und hu, this]
theorem intFs_cons {f : Field} {fs : List Field} {i : Nat} (h : intFs P (f :: fs) i = true) : (∃ k, P.underlying f.type = some (.int k)) ∧ f.offset = i ∧ f.name ≠ "_" ∧ intFs P fs (i + 1) = true := by
  rw [intFs, Bool.and_eq_true] at h
  obtain ⟨h1, h2⟩ := h
  split at h1
  · rename_i k hu
    simp only [Bool.and_eq_true, beq_iff_eq, bne_iff_ne] at h1
    exact ⟨⟨k, hu⟩, h1.2.1, h1.2.2, h2⟩
  · cases h1
theorem intsOk_at : ∀ {l : List V}, intsOk l = true → ∀ i, i < l.length → ∃ k n, l[i]? = some (.i k n)
  | [], _, i, hi => by simp at hi
  | .i k n :: r, h, 0, _ => ⟨k, n, rfl⟩
  | .i k n :: r, h, i + 1, hi => by
    have := intsOk_at (l := r) h i (by simpa using hi)
    simpa using this
  | .b _ :: _, h, _, _ | .s _ _ :: _, h, _, _ | .p _ _ :: _, h, _, _ | .p0 :: _, h, _, _ | .l _ _ _ _ :: _, h, _, _ | .u _ _ _ _ _ :: _, h, _, _ | .ue _ _ _ :: _, h, _, _ | .l0 :: _, h, _, _ | .m _ :: _, h, _, _ | .m0 :: _, h, _, _ | .f _ _ _ :: _, h, _, _ | .y _ :: _, h, _, _ | .f0 :: _, h, _, _ | .a _ _ :: _, h, _, _ | .a0 :: _, h, _, _ | .g _ :: _, h, _, _ | .t _ :: _, h, _, _ => by cases h
theorem intFs_mem : ∀ {fs : List Field} {i : Nat}, intFs P fs i = true → ∀ f ∈ fs, (∃ k, P.underlying f.type = some (.int k)) ∧ f.name ≠ "_" ∧ f.offset < i + fs.length
  | f :: fs, i, h, g, hg => by
    obtain ⟨h1, h2, h3, h4⟩ := intFs_cons h
    rcases List.mem_cons.1 hg with rfl | hg
    · exact ⟨h1, h3, by simp; omega⟩
    · obtain ⟨k1, k2, k3⟩ := intFs_mem h4 g hg
      exact ⟨k1, k2, by simp; omega⟩
theorem forIn_ok {α : Type} {g : α → PUnit → Sem (ForInStep PUnit)} : ∀ (fs : List α), (∀ f ∈ fs, (g f PUnit.unit).run P w = .ok (.yield PUnit.unit) w) → (forIn fs PUnit.unit g).run P w = .ok PUnit.unit w
  | [], _ => by simp
  | f :: fs, h => by
    rw [List.forIn_cons]
    simp only [Sem.run_bind, h f (by simp), Result.andThen_ok]
    exact forIn_ok fs fun g hg => h g (by simp [hg])
theorem keyOk_agg {ks : List (Nat × Sh)} {v : V} (h : keyOk (.agg ks) v = true) : ∃ l, v = .g l ∧ l.length = ks.length ∧ intsOk l = true := by
  unfold keyOk at h
  dsimp only at h
  split at h
  · rename_i l
    rw [Bool.and_eq_true, beqN] at h
    exact ⟨l, rfl, of_decide_eq_true h.1, h.2⟩
  · cases h
theorem checkKey_plain {ty : TypeId} {d : TypeDesc} (e : Bool) (n : Nat) (hu : P.underlying ty = some d) (h1 : ∀ x, d ≠ .interface x) (h2 : ∀ x y, d ≠ .array x y) (h3 : ∀ x, d ≠ .struct x) (v : Value) : (Instr.checkKey e (n + 1) ty v).run P w = .ok () w := by
  cases d <;> first | exact absurd rfl (h1 _) | exact absurd rfl (h2 _ _) | exact absurd rfl (h3 _) | (simp only [Instr.checkKey, Sem.run_bind, run_und hu, Result.andThen_ok]; rfl)
theorem checkKey_run {ty : TypeId} {sh : Sh} {d : TypeDesc} (hu : P.underlying ty = some d) (hk : KeyKind P ty sh d) {v : V} (hok : keyOk sh v = true) (e : Bool) (n : Nat) : (Instr.checkKey e (n + 2) ty (conc E v)).run P w = .ok () w := by
  cases hk with
  | ints fs ks hp h hl =>
    obtain ⟨l, rfl, h1, h2⟩ := keyOk_agg hok
    simp only [Instr.checkKey, Sem.run_bind, run_und hu, Result.andThen_ok, conc]
    rw [← Array.forIn_toList, forIn_ok]
    · rfl
    · intro f hf
      obtain ⟨⟨k, hfu⟩, hn, hof⟩ := intFs_mem h f hf
      obtain ⟨k', m, hx⟩ := intsOk_at h2 f.offset (by omega)
      have hpt := part_int (P := P) (w := w) (E := E) hfu hx
      simp only [hn, ne_eq, not_false_eq_true, if_true, Sem.run_bind, hpt, Result.andThen_ok, run_und hfu, Sem.run_pure]
  | bool => exact checkKey_plain e (n + 1) hu (by simp) (by simp) (by simp) _
  | int => exact checkKey_plain e (n + 1) hu (by simp) (by simp) (by simp) _
  | str => exact checkKey_plain e (n + 1) hu (by simp) (by simp) (by simp) _
theorem keyEq_now {ty : TypeId} {sh : Sh} {d : TypeDesc} (hk : KeyKind P ty sh d) (hd : ∀ fs, d ≠ .struct fs) {x y : V} {r : Bool} (h : keyEq sh x y = some r) : Instr.sameNow d (conc E x) (conc E y) = some r := by
  cases hk with
  | ints fs => exact absurd rfl (hd fs)
  | bool =>
    cases x <;> cases y <;> first | (simp [keyEq] at h; done) | skip
    rename_i x y
    simp only [keyEq] at h
    simp only [conc, Instr.sameNow, h]
  | int k =>
    cases x <;> cases y <;> first | (simp [keyEq] at h; done) | skip
    rename_i k1 m k2 n
    simp only [keyEq, sameK_iff] at h
    by_cases hk : k1 = k2
    · rw [decide_eq_true hk, cond_true, eqI_iff] at h
      simp only [conc, Instr.sameNow, hk, if_true]
      rw [← h]
      congr 1
    · rw [decide_eq_false hk] at h; cases h
  | str =>
    cases x <;> cases y <;> first | (simp [keyEq] at h; done) | skip
    rename_i n x m y
    simp only [keyEq, strEq_iff] at h
    simp only [conc, Instr.sameNow]
    rw [← h, ba_beq]
theorem findK_cons {sh : Sh} {k k' v : V} {b : Nat} {es : List (V × V × Nat)} {i : Nat} {r : Option (Nat × V)} (h : findK sh k ((k', v, b) :: es) i = some r) : (keyEq sh k k' = some true ∧ r = some (i, v)) ∨ (keyEq sh k k' = some false ∧ findK sh k es (i + 1) = some r) := by
  rw [findK] at h
  split at h
  · rename_i hk'; exact .inl ⟨hk', (Option.some.inj h).symm⟩
  · rename_i hk'; exact .inr ⟨hk', h⟩
  · cases h
theorem findK_nil {sh : Sh} {k : V} {i : Nat} {r : Option (Nat × V)} (h : findK sh k [] i = some r) : keyOk sh k = true ∧ r = none := by
  have h' : (bif keyOk sh k then some none else none) = some r := h
  cases hk : keyOk sh k with
  | false => rw [hk] at h'; cases h'
  | true => rw [hk] at h'; exact ⟨rfl, (Option.some.inj h').symm⟩
theorem intsEq_ok : ∀ {a b : List V} {r : Bool}, intsEq a b = some r → intsOk a = true
  | [], _, _, _ => rfl
  | x :: l, [], r, h => by cases x <;> cases h
  | x :: l, y :: l', r, h => by
    cases x with
    | i k m =>
      cases y with
      | i k' n =>
        have h' : (bif sameK k k' then (match intsEq l l' with
          | some e => some (eqI m n && e)
          | none => none) else none) = some r := h
        cases hk : sameK k k' with
        | false => rw [hk] at h'; cases h'
        | true =>
          rw [hk, cond_true] at h'
          cases hq : intsEq l l' with
          | none => rw [hq] at h'; cases h'
          | some q => exact intsEq_ok (a := l) hq
      | _ => cases h
    | _ => cases h
theorem keyEq_ok {sh : Sh} {k k' : V} {r : Bool} (h : keyEq sh k k' = some r) : keyOk sh k = true := by
  cases sh with
  | agg ks =>
    cases k with
    | g l =>
      cases k' with
      | g l' =>
        have h' : (bif Nat.beq l.length ks.length then intsEq l l' else none) = some r := h
        cases hl : Nat.beq l.length ks.length with
        | false => rw [hl] at h'; cases h'
        | true =>
          rw [hl, cond_true] at h'
          show (Nat.beq l.length ks.length && intsOk l) = true
          rw [hl, intsEq_ok h']; rfl
      | _ => cases h
    | _ => cases k' <;> cases h
  | _ => rfl
theorem findK_ok {sh : Sh} {k : V} : ∀ {es : List (V × V × Nat)} {i : Nat} {r : Option (Nat × V)}, findK sh k es i = some r → keyOk sh k = true
  | [], i, r, h => (findK_nil h).1
  | (k', v, b) :: es, i, r, h => by
    rcases findK_cons h with ⟨h1, _⟩ | ⟨h1, _⟩
    · exact keyEq_ok h1
    · exact keyEq_ok h1
theorem findK_at {sh : Sh} {k : V} : ∀ (es : List (V × V × Nat)) (i : Nat) (r : Option (Nat × V)), findK sh k es i = some r →
    (∀ p, r = some p → i ≤ p.1 ∧ ∃ k' b, es[p.1 - i]? = some (k', p.2, b) ∧ keyEq sh k k' = some true)
  | [], i, r, h => by
    obtain ⟨_, rfl⟩ := findK_nil h
    exact fun p hp => by cases hp
  | (k', v, b) :: es, i, r, h => by
    rcases findK_cons h with ⟨hk', rfl⟩ | ⟨hk', h⟩
    · intro p hp
      obtain rfl := Option.some.inj hp
      exact ⟨Nat.le_refl _, k', b, by simp, hk'⟩
    · intro p hp
      obtain ⟨h1, k2, b2, h2, h3⟩ := findK_at es (i + 1) r h p hp
      refine ⟨by omega, k2, b2, ?_, h3⟩
      rw [show p.1 - i = (p.1 - (i + 1)) + 1 by omega, List.getElem?_cons_succ]; exact h2
theorem findK_now {ty : TypeId} {sh : Sh} {d : TypeDesc} (hk : KeyKind P ty sh d) (hd : ∀ fs, d ≠ .struct fs) {k : V} : ∀ (es : List (V × V × Nat)) (i : Nat) (r : Option (Nat × V)), findK sh k es i = some r →
    Instr.findNow d (conc E k) (es.map (entry E)) i = some (r.map fun p => (p.1, conc E p.2))
  | [], i, r, h => by
    obtain ⟨_, rfl⟩ := findK_nil h
    rfl
  | (k', v, b) :: es, i, r, h => by
    rcases findK_cons h with ⟨hk', rfl⟩ | ⟨hk', h⟩
    · simp only [List.map_cons, Instr.findNow, entry, keyEq_now hk hd hk', Option.map_some]
    · simp only [List.map_cons, Instr.findNow, entry, keyEq_now hk hd hk']
      exact findK_now hk hd es (i + 1) r h
theorem intsEq_cons {k : IntKind} {x : Int} {l b : List V} {r : Bool} (h : intsEq (.i k x :: l) b = some r) : ∃ y l' q, b = .i k y :: l' ∧ intsEq l l' = some q ∧ r = (eqI x y && q) := by
  cases b with
  | nil => cases h
  | cons y l' =>
    cases y with
    | i k' n =>
      have h' : (bif sameK k k' then (match intsEq l l' with
        | some e => some (eqI x n && e)
        | none => none) else none) = some r := h
      cases hk : sameK k k' with
      | false => rw [hk] at h'; cases h'
      | true =>
        rw [hk, cond_true] at h'
        rw [sameK_iff] at hk
        obtain rfl := of_decide_eq_true hk
        cases hq : intsEq l l' with
        | none => rw [hq] at h'; cases h'
        | some q => rw [hq] at h'; exact ⟨n, l', q, rfl, hq, (Option.some.inj h').symm⟩
    | _ => cases h
theorem eqInts_run {xs ys : List V} : ∀ (fs : List Field) (i : Nat) (r : Bool), intFs P fs i = true → intsEq (xs.drop i) (ys.drop i) = some r → xs.length = i + fs.length → ∀ d, (Op.eqFields (d + 1) (concs E xs).toArray (concs E ys).toArray fs).run P w = .ok r w
  | [], i, r, _, h, hl, d => by
    have : xs.drop i = [] := List.drop_eq_nil_of_le (by simp at hl; omega)
    rw [this] at h
    cases hy : ys.drop i with
    | nil =>
      rw [hy] at h
      obtain rfl := Option.some.inj h
      rfl
    | cons y l => rw [hy] at h; cases h
  | f :: fs, i, r, hf, h, hl, d => by
    obtain ⟨⟨k, hu⟩, ho, hn, hr⟩ := intFs_cons hf
    have hi : i < xs.length := by simp at hl; omega
    obtain ⟨k1, m, hx⟩ := intsOk_at (intsEq_ok h) 0 (by simp; omega)
    have hx' : xs[i]? = some (.i k1 m) := by simpa using hx
    have hdx : xs.drop i = .i k1 m :: xs.drop (i + 1) := by
      rw [List.drop_eq_getElem_cons hi]
      congr 1
      rw [List.getElem?_eq_getElem hi] at hx'
      exact Option.some.inj hx'
    rw [hdx] at h
    obtain ⟨n, l', q, hy, hq, rfl⟩ := intsEq_cons h
    have hy' : ys[i]? = some (.i k1 n) := by
      have : (ys.drop i)[0]? = some (.i k1 n) := by rw [hy]; rfl
      simpa using this
    have hdy : ys.drop (i + 1) = l' := by
      rw [← List.drop_drop, hy]; rfl
    rw [← hdy] at hq
    have p1 := part_int (P := P) (w := w) (E := E) hu hx'
    have p2 := part_int (P := P) (w := w) (E := E) hu hy'
    have e1 : (Op.equalIn (d + 1) f.type (conc E (.i k1 m)) (conc E (.i k1 n))).run P w = .ok (eqI m n) w := by
      simp [Op.equalIn, run_und hu, conc, eqI_iff]
      rfl
    simp only [Op.eqFields, hn, ne_eq, not_false_eq_true, if_true, Sem.run_bind, ho, p1, p2, Result.andThen_ok, e1, Sem.run_ite]
    cases he : eqI m n with
    | true =>
      simp only [Bool.not_true, Bool.false_eq_true, if_false, Bool.true_and]
      exact eqInts_run fs (i + 1) q hr hq (by simp at hl ⊢; omega) d
    | false => simp only [Bool.not_false, if_true, Sem.run_pure, Bool.false_and]
theorem findAsk_run {ty : TypeId} {fs : Array Field} {ks : List (Nat × Sh)} (hu : P.underlying ty = some (.struct fs)) (hp : P.stoodInHeld ty = false) (hf : intFs P fs.toList 0 = true) (hl : ks.length = fs.toList.length) {k : V} : ∀ (es : List (V × V × Nat)) (i : Nat) (r : Option (Nat × V)), findK (.agg ks) k es i = some r →
    (Instr.findAsking ty (conc E k) (es.map (entry E)) i).run P w = .ok (r.map fun p => (p.1, conc E p.2)) w
  | [], i, r, h => by
    obtain ⟨_, rfl⟩ := findK_nil h
    rfl
  | (k', v, b) :: es, i, r, h => by
    have hfo : P.fieldsOf ty = fs := by simp [Program.fieldsOf, hu]
    have heq : ∀ q, keyEq (.agg ks) k k' = some q → (Op.equal ty (conc E k) (conc E k')).run P w = .ok q w := by
      intro q hq
      cases k with
      | g l =>
        cases k' with
        | g l' =>
          have h' : (bif Nat.beq l.length ks.length then intsEq l l' else none) = some q := hq
          cases hll : Nat.beq l.length ks.length with
          | false => rw [hll] at h'; cases h'
          | true =>
            rw [hll, cond_true] at h'
            have hlen : l.length = ks.length := Nat.eq_of_beq_eq_true hll
            show (Op.equalIn (9999 + 1) ty (.agg (concs E l).toArray) (.agg (concs E l').toArray)).run P w = _
            rw [run_equalIn_struct (P := P) w 9999 ty _ _ (by rw [hfo]; exact hu) hp, hfo]
            exact eqInts_run fs.toList 0 q hf (by simpa using h') (by omega) 9998
        | _ => cases hq
      | _ => cases k' <;> cases hq
    rcases findK_cons h with ⟨hk', rfl⟩ | ⟨hk', h⟩
    · simp only [List.map_cons, Instr.findAsking, entry, Sem.run_bind, heq _ hk', Result.andThen_ok, if_true, Sem.run_pure, Option.map_some]
    · simp only [List.map_cons, Instr.findAsking, entry, Sem.run_bind, heq _ hk', Result.andThen_ok, Bool.false_eq_true, if_false]
      exact findAsk_run hu hp hf hl es (i + 1) r h
theorem findKey_run {ty : TypeId} {sh : Sh} {d : TypeDesc} (hu : P.underlying ty = some d) (hk : KeyKind P ty sh d) {k : V} {es : List (V × V × Nat)} {r : Option (Nat × V)} (h : findK sh k es 0 = some r) :
    (Instr.findKey ty (conc E k) (es.map (entry E))).run P w = .ok (r.map fun p => (p.1, conc E p.2)) w := by
  by_cases hd : ∃ fs, d = .struct fs
  · obtain ⟨fs, rfl⟩ := hd
    cases hk with
    | ints _ ks hp hf hl =>
      cases es with
      | nil =>
        obtain ⟨_, rfl⟩ := findK_nil h
        simp only [Instr.findKey, Sem.run_bind, run_und hu, Result.andThen_ok, List.map_nil, Instr.findNow, Sem.run_pure, Option.map_none]
      | cons e es =>
        have hn : Instr.findNow (.struct fs) (conc E k) ((e :: es).map (entry E)) 0 = none := by
          simp only [List.map_cons, Instr.findNow, Instr.sameNow]
        simp only [Instr.findKey, Sem.run_bind, run_und hu, Result.andThen_ok, hn]
        exact findAsk_run hu hp hf hl (e :: es) 0 r h
  · have hd' : ∀ fs, d ≠ .struct fs := fun fs e => hd ⟨fs, e⟩
    simp only [Instr.findKey, Sem.run_bind, run_und hu, Result.andThen_ok, (findK_now hk hd' es 0 r h), Sem.run_pure]
theorem zeroV_run {ty : TypeId} {z : V} (h : zeroV P ty = some z) : (zeroValue ty).run P w = .ok (conc E z) w ∧ bd c z := by
  unfold zeroV at h
  obtain ⟨v, hv, hz⟩ := Option.bind_eq_some_iff.1 h
  obtain ⟨i, hi, hv'⟩ := Option.bind_eq_some_iff.1 hv
  have := toV_conc E c _ v z hz
  refine ⟨?_, this.2⟩
  simp [zeroValue, typeInfo, hi, hv', this.1]
theorem Cx.map (h : Cx P E F M c w t a) {b : Nat} {es : List (V × V × Nat)} {k : Nat} (hb : look F M b = some (.map es k)) : w.heap[E.ρ b]? = some (.map (es.map (entry E)).toArray k) ∧ ∀ e ∈ es, bd c e.1 ∧ bd c e.2.1 := by
  obtain ⟨_, hv, o, ho, rfl⟩ := h.rel.has _ _ hb
  exact ⟨ho, hv⟩
theorem run_getObj_map {r : Nat} {es : Array MapEntry} {k : Nat} (h : w.heap[r]? = some (.map es k)) : (getObj r).run P w = .ok (.map es k) w := by
  simp [getObj, Sem.run, h]
theorem q_lookup (h : Cx P E F M c w t a) {o : Oper} {ty : TypeId} {y i : Operand} {ok : Bool} (hop : o.op = .lookup ty y i ok) {q : QO} (hc : compOp P o.op = some (.q q)) {x : V} (hx : (qop q F M t).val = some x) : QOk P E c w a o x := by
  rw [hop] at hc
  simp only [compOp] at hc
  split at hc
  · rename_i kt et xa xi hu h1 h2
    split at hc
    · rename_i sh z hks hz
      obtain rfl : QO.lk sh z ok xa xi = q := by simpa [Ev.q] using hc
      obtain ⟨d, hd, hkk⟩ := keySh_kind hks
      have e1 := h.ev h1
      have e2 := h.ev h2
      have hz' := zeroV_run (E := E) (c := c) (w := w) hz
      have hx' : (q_lk sh z ok xa xi F M t).val = some x := hx
      unfold q_lk at hx'
      split at hx'
      · rename_i hv
        cases hko : keyOk sh (xi.ev t) with
        | false => rw [hko] at hx'; cases hx'
        | true =>
        rw [hko, cond_true] at hx'
        have hck : ∀ b, (Instr.checkKey b 10000 kt (conc E (xi.ev t))).run P w = .ok () w := fun b => checkKey_run hd hkk hko b 9998
        obtain rfl := Option.some.inj hx'
        rw [hv] at e1
        refine ⟨?_, by cases ok <;> simp [bd, bds, hz'.2]⟩
        simp only [execOp, hop]
        refine val_run ?_
        rw [e1.1, e2.1]
        simp only [Instr.lookup, conc, Sem.run_bind, run_und hu, Result.andThen_ok, Sem.run_pure, hck, Instr.findKey, run_und hd, Instr.findNow, hz'.1]
        cases ok <;> simp [Instr.findNow, hz'.1, conc, concs]
      · rename_i b hv
        obtain ⟨es, k, hl, hg⟩ := asMap_val hx'
        obtain ⟨ho, hbd⟩ := h.map hl
        rw [hv] at e1
        unfold q_lkr at hg
        split at hg
        · rename_i j v hf
          obtain rfl := Option.some.inj hg
          have hfk := findKey_run (P := P) (w := w) (E := E) hd hkk hf
          have hck : ∀ b, (Instr.checkKey b 10000 kt (conc E (xi.ev t))).run P w = .ok () w := fun b => checkKey_run hd hkk (findK_ok hf) b 9998
          obtain ⟨_, k', b', hm, _⟩ := findK_at es 0 _ hf (j, v) rfl
          have hbv : bd c v := (hbd _ (List.mem_of_getElem? hm)).2
          refine ⟨?_, by cases ok <;> simp [bd, bds, hbv]⟩
          simp only [execOp, hop]
          refine val_run ?_
          rw [e1.1, e2.1]
          simp only [Instr.lookup, conc, Sem.run_bind, run_und hu, Result.andThen_ok, run_getObj_map ho, Sem.run_pure, hck, List.toList_toArray, hfk, Option.map_some]
          cases ok <;> simp [conc, concs]
        · rename_i hf
          obtain rfl := Option.some.inj hg
          have hfk := findKey_run (P := P) (w := w) (E := E) hd hkk hf
          have hck : ∀ b, (Instr.checkKey b 10000 kt (conc E (xi.ev t))).run P w = .ok () w := fun b => checkKey_run hd hkk (findK_ok hf) b 9998
          refine ⟨?_, by cases ok <;> simp [bd, bds, hz'.2]⟩
          simp only [execOp, hop]
          refine val_run ?_
          rw [e1.1, e2.1]
          simp only [Instr.lookup, conc, Sem.run_bind, run_und hu, Result.andThen_ok, run_getObj_map ho, Sem.run_pure, hck, List.toList_toArray, hfk, Option.map_none, hz'.1]
          cases ok <;> simp [conc, concs]
        · cases hg
      · cases hx'
    · cases hc
  · cases hc
theorem q_extract (h : Cx P E F M c w t a) {o : Oper} {y : Operand} {i : Nat} (hop : o.op = .extract y i) {q : QO} (hc : compOp P o.op = some (.q q)) {x : V} (hx : (qop q F M t).val = some x) : QOk P E c w a o x := by
  rw [hop] at hc
  obtain ⟨z, hz, rfl⟩ := compX_bind (f := fun x => .ex i x) hc
  have e := h.ev hz
  have hx' : (q_ex i z F M t).val = some x := hx
  unfold q_ex at hx'
  cases hv : z.ev t with
  | t vs =>
    rw [hv] at hx' e
    have hr := qr_val hx'
    rw [nth_eq] at hr
    refine ⟨?_, bds_get (l := vs) e.2 hr⟩
    simp only [execOp, hop]
    refine val_run ?_
    rw [e.1]
    simp [Instr.extract, conc, concs_get hr]
  | _ => rw [hv] at hx'; cases (show (none : Option V) = some x from hx')
theorem q_typeAssert (h : Cx P E F M c w t a) {o : Oper} {y : Operand} {xt ty : TypeId} {ok : Bool} (hop : o.op = .typeAssert y xt ty ok) {q : QO} (hc : compOp P o.op = some (.q q)) {x : V} (hx : (qop q F M t).val = some x) : QOk P E c w a o x := by
  rw [hop] at hc
  simp only [compOp] at hc
  split at hc
  · cases hc
  · rename_i d z zv hd hu hz hzv
    obtain rfl : QO.ta ty zv ok z = q := by simpa [Ev.q] using hc
    have e := h.ev hz
    have hz' := zeroV_run (E := E) (c := c) (w := w) hzv
    have hw := run_und (w := w) hu
    have hx' : (q_ta ty zv ok z F M t).val = some x := hx
    unfold q_ta at hx'
    split at hx'
    · rename_i ty' v hv
      rw [hv] at e
      rw [beqN] at hx'
      by_cases hty : ty' = ty
      · rw [decide_eq_true hty, cond_true] at hx'
        obtain rfl := Option.some.inj hx'
        have hbv : bd c v := e.2
        refine ⟨?_, by cases ok <;> simp [bd, bds, hbv]⟩
        simp only [execOp, hop]
        refine val_run ?_
        rw [e.1]
        cases d <;> first
          | exact (hd _ rfl).elim
          | (cases ok <;> simp [Instr.typeAssert, hw, conc, concs, hty])
      · rw [decide_eq_false hty, cond_false] at hx'
        cases ok with
        | false => cases (show (none : Option V) = some x from hx')
        | true =>
          obtain rfl := Option.some.inj hx'
          refine ⟨?_, by simp [bd, bds, hz'.2]⟩
          simp only [execOp, hop]
          refine val_run ?_
          rw [e.1]
          cases d <;> first
            | exact (hd _ rfl).elim
            | simp [Instr.typeAssert, hw, conc, concs, hty, hz'.1]
    · rename_i hv
      rw [hv] at e
      cases ok with
      | false => cases (show (none : Option V) = some x from hx')
      | true =>
        obtain rfl := Option.some.inj hx'
        refine ⟨?_, by simp [bd, bds, hz'.2]⟩
        simp only [execOp, hop]
        refine val_run ?_
        rw [e.1]
        cases d <;> first
          | exact (hd _ rfl).elim
          | simp [Instr.typeAssert, hw, conc, concs, hz'.1]
    · cases hx'
  · cases hc
end
end Go.Proofs.YtaogopbhjinmoaaGreatDoor.Ev
