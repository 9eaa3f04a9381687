/- What is proved here: pieces of the evaluator's soundness: if the evaluator comes to a value, the model's run comes to it, for every world and tape; no conditions beyond the hypotheses of each theorem. -/
import Derived.Test.YtaigcmdogapjgaaGreatDoorEv1
import Derived.Lib.UnsafeStr
import Derived.RangeFuncRecord
import Derived.LoopNIn
import Derived.RangeFuncNested
import Derived.OrdersIn
set_option linter.unusedSimpArgs false
set_option linter.unusedVariables false
set_option linter.defProp false
namespace Go.Proofs.YtaigcmdogapjgaaGreatDoor.Ev
open Go
section
variable {P : Program} {E : Env} {F : RO} {M : Mem} {c : Nat → Prop} {w : World} {t : T} {a : Act}
theorem EVal.op {o : Oper} {cl : Call} {b : Builtin} (hop : o.op = .call cl) (hb : cl.callee = .builtin b) {l : List Operand} (hl : cl.args.toList = l) {s : Sem Value} {v : V} {M' : Mem} {ct ct' : Nat}
    (he : ∀ fs, builtin b cl.argTypes o.type fs (l.map a.eval).toArray = (s >>= fun v => pure (Next.value v))) (h : EVal P F E M c ct w s v M' ct') : EOk P F E M c ct w a o v M' ct' := by
  obtain ⟨E', w', c', hr, hS, hb', hG⟩ := h
  exact ⟨E', w', .value (conc E' v), c', exec_builtin hop hb hl (by rw [he]; exact val_run hr), .inl rfl, hS, hb', hG⟩
theorem e_append (h : Cx P E F M c w t a) {ct : Nat} (hf : Fresh c ct) {o : Oper} {cl : Call} (hop : o.op = .call cl) (hb : cl.callee = .builtin .append) {y z : Operand} (hargs : cl.args.toList = [y, z]) {ty e : TypeId} (hat : cl.argTypes[0]? = some ty) (hzs : ZerosOk P cl.argTypes)
    (hu : P.underlying ty = some (.slice e)) {sz by_ : Nat} (hsz : szOf P e = some sz) (hby : byOf P e = some by_) (hpos : sz ≠ 0) (hzo : zOk P e sz = true) {xx xy : X} (h1 : compX y = some xx) (h2 : compX z = some xy)
    {k : Kn} (hk : k.F = F) {v : V} {M' : Mem} {ct' : Nat} (he : doE (.app e sz by_ xx xy) k M ct t = .k v M' ct') : EOk P F E M c ct w a o v M' ct' := by
  have he' : e_app1 k.F M ct e sz by_ (xx.ev t) (splitSrc k.F M sz (xy.ev t)) = .k v M' ct' := he
  rw [hk] at he'
  obtain ⟨i, hi, rfl⟩ := szOf_info hsz
  have hby' : i.bytes = by_ := by
    unfold byOf at hby; rw [hi] at hby; simpa using hby
  subst hby'
  have e1 := h.ev h1
  have e2 := h.ev h2
  cases hs : splitSrc F M i.size (xy.ev t) with
  | none => rw [hs] at he'; cases (show RC.f = .k v M' ct' from he')
  | some r =>
    obtain ⟨n, new⟩ := r
    rw [hs] at he'
    have he2 : (bif allOne new && Nat.beq new.length (Nat.mul n i.size) then app F M ct e i.size i.bytes (xx.ev t) n new else .f) = .k v M' ct' := he'
    rw [beqN] at he2
    by_cases hc1 : allOne new = true
    · by_cases hc2 : new.length = n * i.size
      · rw [hc1, decide_eq_true (show new.length = Nat.mul n i.size from hc2)] at he2
        have he3 : app F M ct e i.size i.bytes (xx.ev t) n new = .k v M' ct' := he2
        have := app_run (rty := o.type) h hf hat hu hzs hi hpos hzo hs e1.2 hc1 hc2 he3
        refine EVal.op hop hb hargs (s := Builtin.append_ cl.argTypes o.type #[conc E (xx.ev t), conc E (xy.ev t)]) (fun fs => ?_) this
        simp only [builtin, List.map_cons, List.map_nil, e1.1, e2.1]
      · rw [hc1, decide_eq_false (show ¬ new.length = Nat.mul n i.size from hc2)] at he2; cases he2
    · rw [Bool.not_eq_true] at hc1
      rw [hc1] at he2; cases he2
theorem cpySrc_run (h : Cx P E F M c w t a) {sz n m : Nat} {y : V} {vs : List V} (hl : lenV y = some m) (hn : n ≤ m) (hs : cpySrc F M sz n y = some vs) :
    (Builtin.lenOf (conc E y)).run P w = .ok m w ∧ (Builtin.firstCells sz n (conc E y)).run P w = .ok (concs E vs).toArray w ∧ bds c vs := by
  unfold cpySrc at hs
  split at hs
  · rename_i m' x
    obtain rfl : m' = m := Option.some.inj hl
    rw [beqN] at hs
    by_cases h1 : sz = 1
    · rw [decide_eq_true h1, cond_true] at hs
      obtain rfl := Option.some.inj hs
      refine ⟨by simp [conc, Builtin.lenOf, ba_size], ?_, byteCells_bd _ _⟩
      simp only [conc, Builtin.firstCells, Sem.run_pure, byteCells_conc]
      congr 1
      apply Array.ext'
      simp only [ba, Array.toList_map, ByteArray.data_extract, Array.toList_extract, List.extract_eq_take_drop, Nat.sub_zero, List.drop_zero]
      congr 1
      have e := bl_mod m' x
      rw [← bl_take n m' _ hn]
      show List.take n (bl m' x) = List.take n (bl m' (x % 256 ^ m'))
      rw [e]
    · rw [decide_eq_false h1] at hs; cases hs
  · rename_i y' hne
    obtain ⟨⟨vs', r⟩, hr, rfl⟩ := Option.map_eq_some_iff.1 hs
    obtain ⟨⟨ad, len, cap, hcv, hld⟩, hb, _⟩ := h.readL hr
    rcases lenV_slice (E := E) hl with ⟨ad', cap', hcv'⟩ | ⟨x, hx⟩
    · rw [hcv] at hcv'
      injection hcv' with e1 e2 e3
      subst e1 e2 e3
      rw [hcv]
      refine ⟨by simp [Builtin.lenOf], ?_, hb⟩
      cases ad with
      | none => simp only at hld; subst hld; simp [Builtin.firstCells, concs]
      | some ad => simp only [Builtin.firstCells]; exact hld
    · exact absurd hx (hne _ _)
theorem lenOf_run (w : World) {y : V} {m : Nat} (hl : lenV y = some m) : (Builtin.lenOf (conc E y)).run P w = .ok m w := by
  rcases lenV_slice (E := E) hl with ⟨ad, cap, h⟩ | ⟨x, rfl⟩
  · rw [h]; simp [Builtin.lenOf]
  · simp [conc, Builtin.lenOf, ba_size]
theorem e_copy (h : Cx P E F M c w t a) {o : Oper} {cl : Call} (hop : o.op = .call cl) (hb : cl.callee = .builtin .copy) {y z : Operand} (hargs : cl.args.toList = [y, z]) {ty e : TypeId} (hat : cl.argTypes[0]? = some ty)
    (hu : P.underlying ty = some (.slice e)) {sz : Nat} (hsz : szOf P e = some sz) {xx xy : X} (h1 : compX y = some xx) (h2 : compX z = some xy)
    {k : Kn} (hk : k.F = F) {v : V} {M' : Mem} {ct ct' : Nat} (he : doE (.cpy sz xx xy) k M ct t = .k v M' ct') : EOk P F E M c ct w a o v M' ct' := by
  have he' : e_cpy sz xx xy k.F M ct t = .k v M' ct' := he
  rw [hk] at he'
  have e1 := h.ev h1
  have e2 := h.ev h2
  unfold e_cpy at he'
  split at he'
  · cases he'
  · rename_i x hne
    unfold e_cpy1 at he'
    split at he'
    · rename_i dn sn hd hs
      rw [fN_eq, bleN] at he'
      have hmin : (bif decide (sn ≤ dn) then sn else dn) = Nat.min sn dn := by
        by_cases hh : sn ≤ dn
        · rw [decide_eq_true hh, cond_true]; exact (Nat.min_eq_left hh).symm
        · rw [decide_eq_false hh, cond_false]; exact (Nat.min_eq_right (by omega)).symm
      rw [hmin, beqN] at he'
      rcases lenV_slice (E := E) hd with ⟨ad, cap, hcx⟩ | ⟨x, hx⟩
      case inr => exact absurd hx (hne _ _)
      refine EVal.op hop hb hargs (s := Builtin.copy_ cl.argTypes o.type #[conc E (xx.ev t), conc E (xy.ev t)]) (fun fs => by simp only [builtin, List.map_cons, List.map_nil, e1.1, e2.1]) ?_
      have hlo := lenOf_run (P := P) (E := E) w hs
      by_cases h0 : Nat.min sn dn = 0
      · rw [decide_eq_true h0, cond_true] at he'
        injection he' with g1 g2 g3
        subst g1 g2 g3
        refine ⟨E, w, c, ?_, .refl h.rel, trivial, .refl _ _⟩
        have hfc : (Builtin.firstCells sz 0 (conc E (xy.ev t))).run P w = .ok #[] w := by
          rcases lenV_slice (E := E) hs with ⟨ad', cap', hcy⟩ | ⟨x, hx⟩
          · rw [hcy]; cases ad' <;> simp [Builtin.firstCells, loadCells, loadCellsFrom]
          · rw [hx]; simp [conc, Builtin.firstCells]
        rw [hcx]
        cases ad <;> simp [Builtin.copy_, hat, run_und hu, hlo, h0, run_sz hsz, hfc, storeCells, conc, goInt]
      · rw [decide_eq_false h0, cond_false] at he'
        cases hsrc : cpySrc F M sz (Nat.min sn dn) (xy.ev t) with
        | none => rw [hsrc] at he'; cases (show RC.f = .k v M' ct' from he')
        | some vs =>
          rw [hsrc] at he'
          obtain ⟨_, hfc, hbv⟩ := cpySrc_run h hs (Nat.min_le_left _ _) hsrc
          have fin : ∀ b off, conc E (xx.ev t) = .slice (some ⟨E.ρ b, E.β b + off, none⟩) dn cap → (match storeN M b off vs with
              | some M => RC.k (.i .i64 (.ofNat (Nat.min sn dn))) M ct
              | none => .f) = .k v M' ct' → EVal P F E M c ct w (Builtin.copy_ cl.argTypes o.type #[conc E (xx.ev t), conc E (xy.ev t)]) v M' ct' := by
            intro b off hcx' hg
            split at hg
            · rename_i M'' hst
              injection hg with g1 g2 g3
              subst g1 g2 g3
              obtain ⟨w', hrun, hS⟩ := h.store hst hbv
              refine ⟨E, w', c, ?_, hS, trivial, .refl _ _⟩
              rw [hcx']
              simp [Builtin.copy_, hat, run_und hu, hlo, run_sz hsz, hfc, hrun, conc, goInt]
            · cases hg
          cases hv : xx.ev t with
          | l b off len cp =>
            rw [hv] at he' hcx fin
            have hcx' : Value.slice (some ⟨E.ρ b, E.β b + off, none⟩) len cp = .slice ad dn cap := hcx
            injection hcx' with q1 q2 q3
            subst q1 q2 q3
            exact fin b off rfl he'
          | u b off len el kn =>
            rw [hv] at he' hcx fin
            have hcx' : Value.slice (some ⟨E.ρ b, E.β b + off, none⟩) len (kn - el + E.κ b) = .slice ad dn cap := hcx
            injection hcx' with q1 q2 q3
            subst q1 q2 q3
            exact fin b off rfl he'
          | _ => rw [hv] at he'; cases (show RC.f = .k v M' ct' from he')
    · cases he'
theorem zeroCells_rep (E : Env) (z : Array Value) (zs : List V) (hz : z = (concs E zs).toArray) (n : Nat) : (Builtin.zeroCells z n).toList = concs E (repV zs n) := by
  subst hz
  have hsz : (concs E zs).length = zs.length := by simp [concs_map]
  by_cases h0 : zs.length = 0
  · have hz0 : zs = [] := List.eq_nil_of_length_eq_zero h0
    subst hz0
    have : ∀ n, repV [] n = [] := by intro n; induction n with | zero => rfl | succ n ih => simp [repV, ih]
    rw [this]
    simp [Builtin.zeroCells, concs]
  · induction n with
    | zero => simp [Builtin.zeroCells, repV, concs]
    | succ n ih =>
      rw [repV, concs_map E (zs ++ repV zs n), List.map_append, ← concs_map, ← concs_map, ← ih]
      apply List.ext_getElem?
      intro i
      simp only [Builtin.zeroCells, Array.toList_map, Array.toList_range, List.getElem?_map, List.size_toArray, hsz]
      by_cases hi : i < zs.length
      · rw [List.getElem?_append_left (by omega), List.getElem?_range (by rw [Nat.succ_mul]; omega)]
        simp only [Option.map_some, Nat.mod_eq_of_lt hi]
        rw [List.getElem?_eq_getElem (by omega)]
        simp [hsz, hi]
      · rw [List.getElem?_append_right (by omega), hsz, List.getElem?_map]
        by_cases h2 : i < (n + 1) * zs.length
        · rw [List.getElem?_range h2, List.getElem?_range (by rw [Nat.succ_mul] at h2; omega)]
          simp only [Option.map_some]
          have : (i - zs.length) % zs.length = i % zs.length := (Nat.mod_eq_sub_mod (by omega)).symm
          rw [this]
        · rw [List.getElem?_eq_none (by simp; omega), List.getElem?_eq_none (by rw [Nat.succ_mul] at h2; simp; omega)]
theorem repV_bd {zs : List V} (h : bds c zs) (n : Nat) : bds c (repV zs n) := by
  induction n with
  | zero => exact trivial
  | succ n ih =>
    rw [bds_iff] at *
    intro v hv
    rw [repV, List.mem_append] at hv
    rcases hv with hv | hv
    · exact h v hv
    · exact ih v hv
theorem e_clear (h : Cx P E F M c w t a) {o : Oper} {cl : Call} (hop : o.op = .call cl) (hb : cl.callee = .builtin .clear) {y : Operand} (hargs : cl.args.toList = [y]) {ty e : TypeId} (hat : cl.argTypes[0]? = some ty)
    (hu : P.underlying ty = some (.slice e)) {z : V} (hz : zeroV P e = some z) {xx : X} (h1 : compX y = some xx)
    {k : Kn} {v : V} {M' : Mem} {ct ct' : Nat} (he : doE (.clr (cellsOfV z) xx) k M ct t = .k v M' ct') : EOk P F E M c ct w a o v M' ct' := by
  have he' : e_clr (cellsOfV z) xx k.F M ct t = .k v M' ct' := he
  have e1 := h.ev h1
  have hz' := zeroV_run (P := P) (E := E) (c := c) (w := w) hz
  have hcell : (conc E z).cells = (concs E (cellsOfV z)).toArray := by rw [flatten_cells, cellsOfV_eq]
  have hbd : bds c (cellsOfV z) := by rw [cellsOfV_eq]; exact flatten_bd hz'.2
  refine EVal.op hop hb hargs (s := Builtin.clear_ cl.argTypes o.type #[conc E (xx.ev t)]) (fun fs => by simp only [builtin, List.map_cons, List.map_nil, e1.1]) ?_
  have nothing : ∀ {ad : Option Addr} {cap : Nat}, conc E (xx.ev t) = .slice ad 0 cap → RC.k undef M ct = .k v M' ct' → EVal P F E M c ct w (Builtin.clear_ cl.argTypes o.type #[conc E (xx.ev t)]) v M' ct' := by
    intro ad cap hcx hg
    injection hg with g1 g2 g3
    subst g1 g2 g3
    refine ⟨E, w, c, ?_, .refl h.rel, trivial, .refl _ _⟩
    rw [hcx]
    cases ad <;> simp [Builtin.clear_, hat, run_und hu, conc, undef, concs]
  have fin : ∀ b off n cap, conc E (xx.ev t) = .slice (some ⟨E.ρ b, E.β b + off, none⟩) n cap → clrW M ct b off n (cellsOfV z) = .k v M' ct' → EVal P F E M c ct w (Builtin.clear_ cl.argTypes o.type #[conc E (xx.ev t)]) v M' ct' := by
    intro b off n cap hcx hg
    unfold clrW at hg
    rw [beqN] at hg
    by_cases h0 : n = 0
    · subst h0
      rw [decide_eq_true rfl, cond_true] at hg
      exact nothing hcx hg
    · rw [decide_eq_false h0, cond_false] at hg
      cases hst : storeN M b off (repV (cellsOfV z) n) with
      | none => rw [hst] at hg; cases (show RC.f = .k v M' ct' from hg)
      | some M2 =>
        rw [hst] at hg
        have hg' : RC.k undef M2 ct = .k v M' ct' := hg
        injection hg' with g1 g2 g3
        subst g1 g2 g3
        obtain ⟨w', hrun, hS⟩ := h.store hst (repV_bd hbd n)
        refine ⟨E, w', c, ?_, hS, trivial, .refl _ _⟩
        rw [hcx]
        have hzc := zeroCells_rep E _ _ hcell n
        obtain ⟨m, rfl⟩ : ∃ m, n = m + 1 := ⟨n - 1, by omega⟩
        simp [Builtin.clear_, hat, run_und hu, hz'.1, hzc, hrun, conc, undef, concs]
  unfold e_clr at he'
  split at he'
  · rename_i hv
    exact nothing (ad := none) (cap := 0) (by rw [hv]; rfl) he'
  · rename_i b o0 off hv
    exact nothing (by rw [hv]; rfl) he'
  · rename_i b off n cp hv
    exact fin b off n cp (by rw [hv]; rfl) he'
  · rename_i b off n el kn hv
    exact fin b off n _ (by rw [hv]; rfl) he'
  · cases he'
theorem lies_bytes {e : TypeId} (hc : P.cellsOf e = 1) (count off n : Nat) (hn : off + n ≤ count) : liesAt P P.depth e count off e n = true := by
  have hd : P.depth = (2 * (P.types.size + Made.depth) + 1) + 1 := rfl
  rw [hd]
  simp only [liesAt, Bool.or_eq_true]
  left
  rw [hd]
  simp [rowAt, hc, hn, sameLayout, Nat.mod_one]
theorem freezeM_some {b o n : Nat} {M' : Mem} (h : freezeM M b o n = some M') : ∃ ty m ex fz d cs, M.get b = some (.cells ty m ex fz false d cs) ∧ M' = M.set b (.cells ty m ex (if fz ≤ o + n then o + n else fz) false d cs) := by
  unfold freezeM at h
  split at h
  · rename_i ty m ex fz str d cs hM
    cases str with
    | true => cases h
    | false =>
      rw [cond_false, fN_eq, bleN] at h
      obtain rfl := Option.some.inj h
      refine ⟨_, _, _, _, _, _, hM, ?_⟩
      congr 2
      by_cases hh : fz ≤ o + n
      · rw [decide_eq_true (show fz ≤ Nat.add o n from hh), if_pos hh]; rfl
      · rw [decide_eq_false (show ¬ fz ≤ Nat.add o n from hh), if_neg hh]; rfl
  · cases h
theorem loadBytes_run (r : Nat) : ∀ (ns : List Nat) (off : Nat) (acc : ByteArray), (∀ j (hj : j < ns.length), w.cell? ⟨r, off + j, none⟩ = some (.int .u8 (ns[j] : Int))) →
    (loadBytes ⟨r, off, none⟩ acc ns.length).run P w = .ok ⟨acc.data ++ (ns.map fun c => UInt8.ofNat c).toArray⟩ w
  | [], off, acc, _ => by simp [loadBytes]
  | x :: l, off, acc, h => by
    have h0 : w.cell? ⟨r, off, none⟩ = some (.int .u8 (x : Int)) := h 0 (by simp)
    have ih := loadBytes_run r l (off + 1) (acc.push x.toUInt8) (fun j hj => by
      have := h (j + 1) (by simpa using hj)
      rw [show off + 1 + j = off + (j + 1) by omega]
      simpa using this)
    simp only [List.length_cons, loadBytes, Sem.run_bind, run_load, h0, Result.andThen, Int.toNat_natCast, Addr.add_eq]
    rw [ih]
    congr 1
    apply ByteArray.ext
    simp [ByteArray.push]
theorem us_nil {ats : Array TypeId} {rty pt : TypeId} (hat : ats[0]? = some pt) (p : Option Addr) (k : IntKind) : (Builtin.unsafeString_ ats rty #[.pointer p, .int k 0]).run P w = .ok (.string .empty) w := by
  have hmax : IntKind.i64.max = 9223372036854775807 := rfl
  conv => lhs; arg 2; whnf
  cases p <;> simp [asInt, asIntOf, hmax, hat]
theorem us_some {ats : Array TypeId} {rty pt e : TypeId} (hat : ats[0]? = some pt) (hu : P.underlying pt = some (.pointer e)) (ad : Addr) (k : IntKind) {n : Nat} (h0 : n ≠ 0) (hn : n ≤ 1099511627776) (hv : (variablesAt ad e n).run P w = .ok true w) {s : ByteArray} (hl : (loadBytes ad .empty n).run P w = .ok s w) :
    (Builtin.unsafeString_ ats rty #[.pointer (some ad), .int k n]).run P w = .ok (.string s) (w.freeze ad n) := by
  have hmax : IntKind.i64.max = 9223372036854775807 := rfl
  have h1 : ¬ ((n : Int) < 0) := by omega
  have h2 : ¬ ((9223372036854775807 : Int) < (n : Int)) := by omega
  have h3 : ¬ ((n : Int) = 0) := by omega
  conv => lhs; arg 2; whnf
  simp [asInt, asIntOf, hmax, hat, h1, h2, h3, h0, elemOf, run_und hu, hv, hl, run_freeze]
theorem e_unsafeString (h : Cx P E F M c w t a) {o : Oper} {cl : Call} (hop : o.op = .call cl) (hb : cl.callee = .builtin .unsafeString) {y z : Operand} (hargs : cl.args.toList = [y, z]) {pt e : TypeId} (hat : cl.argTypes[0]? = some pt)
    (hu : P.underlying pt = some (.pointer e)) (hsz : szOf P e = some 1) {xx xy : X} (h1 : compX y = some xx) (h2 : compX z = some xy)
    {k : Kn} (hk : k.F = F) {v : V} {M' : Mem} {ct ct' : Nat} (he : doE (.us e xx xy) k M ct t = .k v M' ct') : EOk P F E M c ct w a o v M' ct' := by
  have he' : e_us e xx xy k.F M ct t = .k v M' ct' := he
  rw [hk] at he'
  have e1 := h.ev h1
  have e2 := h.ev h2
  have hmax : IntKind.i64.max = 9223372036854775807 := rfl
  unfold e_us at he'
  split at he'
  · rename_i n hn
    obtain ⟨ik, hy⟩ := asN_some hn
    rw [hy] at e2
    refine EVal.op hop hb hargs (s := Builtin.unsafeString_ cl.argTypes o.type #[conc E (xx.ev t), .int ik n]) (fun fs => by simp only [builtin, List.map_cons, List.map_nil, e1.1, e2.1, conc]) ?_
    have hz : (conc E (.s 0 0)) = .string .empty := by simp only [conc]; rfl
    split at he'
    · rename_i hv
      rw [beqN] at he'
      by_cases h0 : n = 0
      · subst h0
        rw [decide_eq_true rfl, cond_true] at he'
        injection he' with g1 g2 g3
        subst g1 g2 g3
        refine ⟨E, w, c, ?_, .refl h.rel, trivial, .refl _ _⟩
        rw [hv, hz]; exact us_nil hat none ik
      · rw [decide_eq_false h0] at he'; cases he'
    · rename_i b off hv
      unfold e_us1 at he'
      rw [beqN] at he'
      by_cases h0 : n = 0
      · subst h0
        rw [decide_eq_true rfl, cond_true] at he'
        injection he' with g1 g2 g3
        subst g1 g2 g3
        refine ⟨E, w, c, ?_, .refl h.rel, trivial, .refl _ _⟩
        rw [hv, hz]; exact us_nil hat _ ik
      · rw [decide_eq_false h0, cond_false, bleN] at he'
        cases hty : tyIs M b e with
        | false => rw [hty] at he'; cases he'
        | true =>
          by_cases hnb : n ≤ 1099511627776
          · rw [hty, decide_eq_true hnb] at he'
            simp only [Bool.and_self, cond_true] at he'
            split at he'
            · rename_i vs hld
              unfold e_us2 at he'
              split at he'
              · rename_i n' s hbv
                split at he'
                · rename_i M'' hfz
                  rw [fN_eq, fN_eq] at he'
                  injection he' with g1 g2 g3
                  subst g1 g2 g3
                  obtain ⟨ty, m, ex, fz, d, cs, hM, rfl⟩ := freezeM_some hfz
                  obtain ⟨arr, fr, ho, hr⟩ := h.cells (look_some_M hM)
                  have hte : ty = e := by
                    unfold tyIs at hty; rw [hM] at hty; simp only [beqN] at hty; exact of_decide_eq_true hty
                  subst hte
                  have hl := h.loadN hld
                  obtain ⟨ns, rfl, rfl, hbb⟩ := bytesV_spec _ _ _ hbv
                  have hnl : ns.length = n := by simpa using hl.2.2
                  have hcells : ∀ j (hj : j < ns.length), w.cell? ⟨E.ρ b, E.β b + off + j, none⟩ = some (.int .u8 (ns[j] : Int)) := by
                    intro j hjn
                    obtain ⟨ty', m', ex', fz', str', d', cs', hb', hg⟩ := asCells_some (f := none) hld (by simp)
                    rw [look_some_M hM] at hb'
                    injection hb' with hb'
                    injection hb' with q1 q2 q3 q4 q5 q6 q7
                    subst q2 q6 q7
                    have hcell := (cellsAt_get _ _ _ hg).2 j (.i .u8 (.ofNat ns[j])) (by simp [hjn])
                    have := hr.cell _ _ hcell
                    simp only [World.cell?, ho, Option.isSome_none, Bool.false_eq_true, if_false]
                    rw [Nat.add_assoc, this]
                    rfl
                  have hsize : E.β b + off + n ≤ arr.size := by
                    have := hcells (n - 1) (by omega)
                    simp only [World.cell?, ho, Option.isSome_none, Bool.false_eq_true, if_false] at this
                    have := (Array.getElem?_eq_some_iff.1 this).1
                    omega
                  have hlb := loadBytes_run (P := P) (w := w) (E.ρ b) ns (E.β b + off) .empty hcells
                  have hba : (⟨ByteArray.empty.data ++ (ns.map fun c => UInt8.ofNat c).toArray⟩ : ByteArray) = ba ns.length s := by
                    unfold ba; rw [hbb]; apply ByteArray.ext; simp
                  rw [hba] at hlb
                  have hco := cellsOf_sz hsz
                  have hva : (variablesAt ⟨E.ρ b, E.β b + off, none⟩ ty n).run P w = .ok true w := by
                    have hsh : w.shape? (E.ρ b) = some (ty, arr.size) := by simp [World.shape?, ho]
                    simp [variablesAt, run_shape, hsh, hco, lies_bytes hco arr.size (E.β b + off) n hsize]
                  subst hnl
                  have hrun := us_some (w := w) (rty := o.type) hat hu ⟨E.ρ b, E.β b + off, none⟩ ik h0 hnb hva hlb
                  have hfw : w.freeze ⟨E.ρ b, E.β b + off, none⟩ ns.length = { w with heap := w.heap.setIfInBounds (E.ρ b) (.cells arr ty (if fr.1 == fr.2 then (E.β b + off, E.β b + off + ns.length) else (min fr.1 (E.β b + off), max fr.2 (E.β b + off + ns.length)))) } := by
                    unfold World.freeze
                    rw [if_neg h0, modify_eq _ ho]
                  rw [hfw] at hrun
                  generalize hnf : (if fr.1 == fr.2 then (E.β b + off, E.β b + off + ns.length) else (min fr.1 (E.β b + off), max fr.2 (E.β b + off + ns.length))) = nf at hrun
                  refine ⟨E, { w with heap := w.heap.setIfInBounds (E.ρ b) (.cells arr ty nf) }, c, ?_, h.rel.write b _ _ hM (.cells arr ty nf) ?_ { w with heap := w.heap.setIfInBounds (E.ρ b) (.cells arr ty nf) } rfl rfl rfl rfl ?_, trivial, .refl _ _⟩
                  · rw [hv]; exact hrun
                  · exact (h.rel.has _ _ (look_some_M hM)).2.1
                  · subst hnf
                    have hhi : (if fr.1 == fr.2 then (E.β b + off, E.β b + off + ns.length) else (min fr.1 (E.β b + off), max fr.2 (E.β b + off + ns.length))).2 ≤ E.β b + (if fz ≤ off + ns.length then off + ns.length else fz) := by
                      by_cases hfe : fr.1 = fr.2
                      · rw [if_pos (by simpa using hfe)]
                        simp only
                        split <;> omega
                      · rw [if_neg (by simpa using hfe)]
                        simp only
                        rcases hr.plain rfl with hp | ⟨hp, hp'⟩
                        · exact absurd hp hfe
                        · split <;> omega
                    refine ⟨arr, _, rfl, ⟨hr.cell, hr.size, fun k hk hk' hf => ?_, fun _ => .inr ⟨?_, hhi⟩⟩⟩
                    · have := hf.2
                      omega
                    · split <;> omega
                · cases he'
              · cases he'
            · cases he'
          · rw [decide_eq_false hnb, Bool.and_false] at he'; cases he'
    · cases he'
  · cases he'
end
end Go.Proofs.YtaigcmdogapjgaaGreatDoor.Ev
namespace Go.Proofs.YtaigcmdogapjgaaGreatDoor.Ev
open Go
section
variable {P : Program} {E : Env} {F : RO} {M : Mem} {c : Nat → Prop} {w : World} {t : T} {a : Act}
theorem run_getObj_other {r : Nat} {o : Obj} (h : w.heap[r]? = some o) (hn : ∀ x y z, o ≠ .cells x y z) : (getObj r).run P w = .ok o w := by
  simp only [getObj, Sem.run, h]
theorem ba_get {n s i : Nat} (h : i < n) : ((ba n s).get! i).toNat = s / 256 ^ i % 256 := by
  have hb := bl_get n s i h
  have : (ba n s).get! i = UInt8.ofNat (s / 256 ^ i % 256) := by
    show (bl n s).toArray[i]! = _
    simp [hb]
  rw [this]
  simp [UInt8.toNat_ofNat']
theorem e_nextS (h : Cx P E F M c w t a) {o : Oper} {y : Operand} (hop : o.op = .next y true) {x : X} (hx : compX y = some x) {k : Kn} {v : V} {M' : Mem} {ct ct' : Nat} (he : doE (.nxs x) k M ct t = .k v M' ct') : EOk P F E M c ct w a o v M' ct' := by
  have he' : e_nxs x k.F M ct t = .k v M' ct' := he
  have e := h.ev hx
  unfold e_nxs at he'
  split at he'
  · rename_i b hv
    rw [hv] at e
    unfold nxsIn at he'
    split at he'
    · rename_i n s pos hM
      obtain ⟨_, _, ob, hob, hβ, rfl⟩ := h.rel.has _ _ (look_some_M hM)
      have hgo := run_getObj_other (P := P) hob (by intros; simp)
      have hpt : a.eval y = .pointer (some ⟨E.ρ b, 0, none⟩) := by rw [e.1]; simp [conc, hβ]
      rw [bltN] at he'
      by_cases hp : pos < n
      · rw [decide_eq_true hp, cond_true, fN_eq, bltN] at he'
        by_cases hch : s / 256 ^ pos % 256 < 128
        · rw [decide_eq_true (show Nat.mod (Nat.div s (p256 pos)) 256 < 128 from hch), cond_true, fN_eq, setM_eq] at he'
          injection he' with g1 g2 g3
          subst g1 g2 g3
          have hdec : Utf8.decode (ba n s) pos = (s / 256 ^ pos % 256, 1) := by
            have := ba_get (s := s) hp
            simp only [Utf8.decode, Nat.add_zero, this, if_pos hch]
          have hso := run_setObj (P := P) (o' := .stringIter (ba n s) (pos + 1)) hob (by intros; simp)
          refine ⟨E, _, .value (.tuple #[.bool true, goInt pos, .int .i32 (s / 256 ^ pos % 256 : Nat)]), c, ?_, .inl rfl, h.rel.write b _ (.siter n s (pos + 1)) hM (.stringIter (ba n s) (pos + 1)) trivial { w with heap := w.heap.setIfInBounds (E.ρ b) (.stringIter (ba n s) (pos + 1)) } rfl rfl rfl rfl ⟨hβ, rfl⟩, ⟨trivial, trivial, trivial, trivial⟩, .refl _ _⟩
          simp only [execOp, hop]
          refine val_run ?_
          rw [hpt]
          simp only [Instr.next, Sem.run_bind, hgo, Result.andThen_ok, ba_size, hp, if_true, hdec, hso, Sem.run_pure, Sem.run_ite]
        · rw [decide_eq_false (show ¬ Nat.mod (Nat.div s (p256 pos)) 256 < 128 from hch), cond_false] at he'
          unfold nxsU at he'
          rw [fN_eq, fN_eq, setM_eq] at he'
          injection he' with g1 g2 g3
          subst g1 g2 g3
          have hso := run_setObj (P := P) (o' := .stringIter (ba n s) (pos + (Utf8.decode (ba n s) pos).2)) hob (by intros; simp)
          refine ⟨E, _, .value (.tuple #[.bool true, goInt pos, .int .i32 ((Utf8.decode (ba n s) pos).1 : Nat)]), c, ?_, .inl rfl, h.rel.write b _ (.siter n s (pos + (Utf8.decode (ba n s) pos).2)) hM (.stringIter (ba n s) (pos + (Utf8.decode (ba n s) pos).2)) trivial { w with heap := w.heap.setIfInBounds (E.ρ b) (.stringIter (ba n s) (pos + (Utf8.decode (ba n s) pos).2)) } rfl rfl rfl rfl ⟨hβ, rfl⟩, ⟨trivial, trivial, trivial, trivial⟩, .refl _ _⟩
          simp only [execOp, hop]
          refine val_run ?_
          rw [hpt]
          simp only [Instr.next, Sem.run_bind, hgo, Result.andThen_ok, ba_size, hp, if_true, hso, Sem.run_pure, Sem.run_ite]
      · rw [decide_eq_false hp, cond_false] at he'
        injection he' with g1 g2 g3
        subst g1 g2 g3
        refine ⟨E, w, .value (.tuple #[.bool false]), c, ?_, .inl rfl, .refl h.rel, ⟨trivial, trivial⟩, .refl _ _⟩
        simp only [execOp, hop]
        refine val_run ?_
        rw [hpt]
        simp only [Instr.next, Sem.run_bind, hgo, Result.andThen_ok, ba_size, hp, if_false, Sem.run_pure, Sem.run_ite]
    · cases he'
  · cases he'
theorem e_rangeM (h : Cx P E F M c w t a) {ct : Nat} (hf : Fresh c ct) {o : Oper} {ty kt et : TypeId} {y : Operand} (hop : o.op = .range ty y) (hu : P.underlying ty = some (.map kt et)) {x : X} (hx : compX y = some x) {k : Kn} (hk : k.F = F) {v : V} {M' : Mem} {ct' : Nat} (he : doE (.rgm x) k M ct t = .k v M' ct') : EOk P F E M c ct w a o v M' ct' := by
  have he' : e_rgm x k.F M ct t = .k v M' ct' := he
  rw [hk] at he'
  have e := h.ev hx
  unfold e_rgm at he'
  split at he'
  · rename_i hv
    rw [fN_eq, setM_eq] at he'
    injection he' with g1 g2 g3
    subst g1 g2 g3
    rw [hv] at e
    obtain ⟨E', hS, hE, hρ, hβ, _⟩ := h.rel.alloc (.miter none 0 [] 0) (.mapIter none 0 #[] 0) ct 0 (fun b => c b ∨ b = ct) (hf ct (Nat.le_refl _)) (.inr rfl) (fun _ h => .inl h) (fun b hb => by cases hb) { w with heap := w.heap.push (.mapIter none 0 #[] 0) } rfl rfl rfl rfl (fun E' _ _ hβ _ => ⟨hβ, rfl⟩)
    refine ⟨E', _, .value (conc E' (.p ct 0)), _, ?_, .inl rfl, hS, .inr rfl, grow_one c ct⟩
    simp only [execOp, hop]
    refine val_run ?_
    rw [e.1]
    simp [Instr.range, run_und hu, conc, hρ, hβ]
  · rename_i b hv
    obtain ⟨es, clock, hM, hg⟩ := asMap_rc he'
    rw [fN_eq, setM_eq] at hg
    injection hg with g1 g2 g3
    subst g1 g2 g3
    rw [hv] at e
    obtain ⟨ho, hbd⟩ := h.map hM
    obtain ⟨E', hS, hE, hρ, hβ, _⟩ := h.rel.alloc (.miter (some b) clock [] clock) (.mapIter (some (E.ρ b)) clock #[] clock) ct 0 (fun b => c b ∨ b = ct) (hf ct (Nat.le_refl _)) (.inr rfl) (fun _ h => .inl h) (fun b' hb' => by cases hb'; exact .inl e.2) { w with heap := w.heap.push (.mapIter (some (E.ρ b)) clock #[] clock) } rfl rfl rfl rfl (fun E' he _ hβ _ => ⟨hβ, by simp [he.ρ b e.2]⟩)
    refine ⟨E', _, .value (conc E' (.p ct 0)), _, ?_, .inl rfl, hS, .inr rfl, grow_one c ct⟩
    simp only [execOp, hop]
    refine val_run ?_
    rw [e.1]
    simp [Instr.range, run_und hu, conc, hρ, hβ, run_getObj_map ho]
  · cases he'
theorem leftE_eq (seen : List Nat) : ∀ es, leftE seen es = es.filter fun e => !seen.contains e.2.2
  | [] => rfl
  | h :: r => by
    have : leftE seen (h :: r) = (bif memN h.2.2 seen then leftE seen r else h :: leftE seen r) := rfl
    rw [this, memN_eq, leftE_eq seen r, List.filter_cons]
    cases seen.contains h.2.2 <;> rfl
theorem allOld_iff (since : Nat) : ∀ es : List (V × V × Nat), allOld since es = true → ∀ e ∈ es, e.2.2 < since
  | [], _, e, he => by cases he
  | h :: r, ha, e, he => by
    have h' : (Nat.blt h.2.2 since && allOld since r) = true := by rw [← ha]; rfl
    rw [bltN, Bool.and_eq_true] at h'
    cases he with
    | head => exact of_decide_eq_true h'.1
    | tail _ hm => exact allOld_iff since r h'.2 e hm
theorem nextM_run {ty r m : Nat} {esr left : List MapEntry} {clock since st : Nat} {seen : List Nat} (hr : w.heap[r]? = some (.mapIter (some m) since seen.toArray st)) (hm : w.heap[m]? = some (.map esr.toArray clock))
    (hold : ∀ e ∈ esr, e.born < since) (hst : since ≤ st) (hl : esr.filter (fun e => !seen.contains e.born) = left) :
    (left = [] → (Instr.next (.pointer (some ⟨r, 0, none⟩)) false ty).run P w = .ok (.tuple #[.bool false]) w) ∧
    (∀ e, left = [e] → (Instr.next (.pointer (some ⟨r, 0, none⟩)) false ty).run P w = .ok (.tuple #[.bool true, e.key, e.val]) { w with heap := w.heap.setIfInBounds r (.mapIter (some m) since (seen.toArray.push e.born) clock) }) := by
  have hgo := run_getObj_other (P := P) hr (by intros; simp)
  have hgm := run_getObj_map (P := P) hm
  have hc : (!seen.toArray.isEmpty && !esr.toArray.isEmpty && esr.toArray.all (fun e => decide (e.born ≥ st))) = false := by
    cases esr with
    | nil => simp
    | cons h0 r0 =>
      have := hold h0 (by simp)
      simp
      intro _ h1; omega
  have hleft : esr.toArray.filter (fun e => !seen.toArray.contains e.born) = left.toArray := by
    rw [List.filter_toArray', ← hl]
    · simp
    · simp
  have hlold : ∀ e ∈ left, e.born < since := by
    intro e he
    rw [← hl] at he
    exact hold e (List.mem_filter.1 he).1
  have h1 : left.toArray.filter (fun e => decide (e.born < since)) = left.toArray := by
    rw [List.filter_toArray' (by simp)]
    congr 1
    exact List.filter_eq_self.2 fun e he => by simpa using hlold e he
  have h2 : left.toArray.filter (fun e => decide (e.born ≥ since)) = #[] := by
    rw [List.filter_toArray' (by simp)]
    rw [List.filter_eq_nil_iff.2]
    intro e he; have := hlold e he; simp; omega
  constructor
  · intro e0
    subst e0
    simp only [Instr.next, Sem.run_bind, hgo, hgm, Result.andThen_ok, hc, Bool.false_eq_true, if_false, Sem.run_ite, Sem.run_pure, hleft, h1, h2]
    simp [Question.forced]
  · intro e e0
    subst e0
    have hso := run_setObj (P := P) (o' := .mapIter (some m) since (seen.toArray.push e.born) clock) hr (by intros; simp)
    simp only [Instr.next, Sem.run_bind, hgo, hgm, Result.andThen_ok, hc, Bool.false_eq_true, if_false, Sem.run_ite, Sem.run_pure, hleft, h1, h2]
    simp only [List.push_toArray] at hso ⊢
    simp [Question.forced, hso]
theorem e_nextM (h : Cx P E F M c w t a) {o : Oper} {y : Operand} (hop : o.op = .next y false) {x : X} (hx : compX y = some x) {k : Kn} (hk : k.F = F) {v : V} {M' : Mem} {ct ct' : Nat} (he : doE (.nxm x) k M ct t = .k v M' ct') : EOk P F E M c ct w a o v M' ct' := by
  have he' : e_nxm x k.F M ct t = .k v M' ct' := he
  rw [hk] at he'
  have e := h.ev hx
  unfold e_nxm at he'
  split at he'
  · rename_i b hv
    rw [hv] at e
    unfold nxmIn at he'
    split at he'
    · rename_i i1 i2 i3 hM
      injection he' with g1 g2 g3
      subst g1 g2 g3
      obtain ⟨_, _, ob, hob, hβ, rfl⟩ := h.rel.has _ _ (look_some_M hM)
      have hgo := run_getObj_other (P := P) hob (by intros; simp)
      have hpt : a.eval y = .pointer (some ⟨E.ρ b, 0, none⟩) := by rw [e.1]; simp [conc, hβ]
      refine ⟨E, w, .value (.tuple #[.bool false]), c, ?_, .inl rfl, .refl h.rel, ⟨trivial, trivial⟩, .refl _ _⟩
      simp only [execOp, hop]
      refine val_run ?_
      rw [hpt]
      simp [Instr.next, hgo]
    · rename_i m since seen st hM
      obtain ⟨_, hbb, ob, hob, hβ, rfl⟩ := h.rel.has _ _ (look_some_M hM)
      have hgo := run_getObj_other (P := P) hob (by intros; simp)
      have hpt : a.eval y = .pointer (some ⟨E.ρ b, 0, none⟩) := by rw [e.1]; simp [conc, hβ]
      obtain ⟨es, clock, hm, hg⟩ := asMap_rc he'
      obtain ⟨ho, hbd⟩ := h.map hm
      have hgm := run_getObj_map (P := P) ho
      by_cases hal : allOld since es = true
      · by_cases hst : since ≤ st
        · rw [hal, bleN, decide_eq_true hst] at hg
          simp only [Bool.and_self, cond_true] at hg
          have hold := allOld_iff since es hal
          have hold' : ∀ e ∈ es.map (entry E), e.born < since := by
            intro e' he'
            obtain ⟨e0, h0, rfl⟩ := List.mem_map.1 he'
            exact hold e0 h0
          have hl : (es.map (entry E)).filter (fun e => !seen.contains e.born) = (leftE seen es).map (entry E) := by
            rw [leftE_eq, List.filter_map]; rfl
          have key := nextM_run (P := P) (ty := o.type) (r := E.ρ b) (m := E.ρ m) hob ho hold' hst hl
          split at hg
          · rename_i hle
            injection hg with g1 g2 g3
            subst g1 g2 g3
            refine ⟨E, w, .value (.tuple #[.bool false]), c, ?_, .inl rfl, .refl h.rel, ⟨trivial, trivial⟩, .refl _ _⟩
            simp only [execOp, hop]
            refine val_run ?_
            rw [hpt]
            exact key.1 (by rw [hle]; rfl)
          · rename_i k0 v0 born hle
            rw [setM_eq] at hg
            injection hg with g1 g2 g3
            subst g1 g2 g3
            have hin : (k0, v0, born) ∈ es := by
              have : (k0, v0, born) ∈ leftE seen es := by rw [hle]; simp
              rw [leftE_eq] at this
              exact (List.mem_filter.1 this).1
            refine ⟨E, _, .value (.tuple #[.bool true, conc E k0, conc E v0]), c, ?_, .inl rfl, h.rel.write b _ (.miter (some m) since (seen ++ [born]) clock) hM (.mapIter (some (E.ρ m)) since (seen.toArray.push born) clock) hbb { w with heap := w.heap.setIfInBounds (E.ρ b) (.mapIter (some (E.ρ m)) since (seen.toArray.push born) clock) } rfl rfl rfl rfl ⟨hβ, by simp⟩, ⟨trivial, (hbd _ hin).1, (hbd _ hin).2, trivial⟩, .refl _ _⟩
            simp only [execOp, hop]
            refine val_run ?_
            rw [hpt]
            exact key.2 (entry E (k0, v0, born)) (by rw [hle]; rfl)
          · cases hg
        · rw [hal, bleN, decide_eq_false hst] at hg; cases hg
      · rw [Bool.not_eq_true] at hal
        rw [hal] at hg; cases hg
    · cases he'
  · cases he'
end
end Go.Proofs.YtaigcmdogapjgaaGreatDoor.Ev
namespace Go.Proofs.YtaigcmdogapjgaaGreatDoor.Ev
open Go
section
variable {P : Program} {E : Env} {F : RO} {M : Mem} {c : Nat → Prop} {w : World} {t : T} {a : Act}
def EO.plain : EO → Bool
  | .call _ _ | .cv _ _ => false
  | _ => true
theorem at0 {α : Type} {x : Array α} {y : α} {l : List α} (h : x.toList = y :: l) : x[0]? = some y := by rw [arr_of_list h]; rfl
theorem at1 {α : Type} {x : Array α} {y z : α} {l : List α} (h : x.toList = y :: z :: l) : x[1]? = some z := by rw [arr_of_list h]; rfl
theorem at1n {α : Type} {x : Array α} {y : α} (h : x.toList = [y]) : x[1]? = none := by rw [arr_of_list h]; rfl
theorem e_all (h : Cx P E F M c w t a) {ct : Nat} (hf : Fresh c ct) {o : Oper} {eo : EO} (hc : compOp P o.op = some (.e eo)) (hp : eo.plain = true) {k : Kn} (hk : k.F = F) {v : V} {M' : Mem} {ct' : Nat} (he : doE eo k M ct t = .k v M' ct') : EOk P F E M c ct w a o v M' ct' := by
  cases hop : o.op with
  | store ty y z => exact e_store h hop hc hk he
  | mapUpdate ty m y z => exact e_mapUpdate h (.inl hop) hc hk he
  | insert ty m y z => exact e_mapUpdate h (.inr hop) hc hk he
  | next y b =>
    rw [hop] at hc
    cases b with
    | true =>
      obtain ⟨x, hx, e⟩ := Option.map_eq_some_iff.1 hc
      obtain rfl : EO.nxs x = eo := by simpa using e
      exact e_nextS h hop hx he
    | false =>
      obtain ⟨x, hx, e⟩ := Option.map_eq_some_iff.1 hc
      obtain rfl : EO.nxm x = eo := by simpa using e
      exact e_nextM h hop hx hk he
  | range ty y =>
    rw [hop] at hc
    simp only [compOp] at hc
    split at hc
    · cases hc
    · rename_i kt et x hu hx
      obtain rfl : EO.rgm x = eo := by simpa using hc
      exact e_rangeM h hf hop hu hx hk he
    · cases hc
  | convert s d y =>
    rw [hop] at hc
    simp only [compOp] at hc
    split at hc
    · cases hc
    · cases hc
    · split at hc <;> cases hc
    · split at hc <;> cases hc
    · rename_i e0 el x h1 h2 hx
      split at hc
      · rename_i hcond
        obtain rfl : EO.ms x = eo := by simpa using hc
        rw [Bool.and_eq_true] at hcond
        have hsd : s = d := by simpa using hcond.1
        subst hsd
        have hel : P.underlying el = some (.int .u8) := by
          have := hcond.2
          unfold isU8 at this
          split at this
          · assumption
          · cases this
        exact e_mark h hop h2 hel hx he
      · cases hc
    · split at hc <;> cases hc
    · split at hc <;> cases hc
    · cases hc
  | call cl =>
    rw [hop] at hc
    simp only [compOp] at hc
    split at hc
    · rename_i b' hcal
      unfold compBuiltin at hc
      split at hc
      · split at hc <;> first | cases hc | (split at hc <;> cases hc)
      · split at hc <;> cases hc
      · rename_i y z ty t2 ts hargs htys
        split at hc
        · rename_i el x1 x2 hu h1 h2
          split at hc
          · rename_i sz by_ d hsz hby hd
            split at hc
            · cases hc
            · rename_i hnd
              split at hc
              · cases hc
              · rename_i hcond
                obtain rfl : EO.app el sz by_ x1 x2 = eo := by simpa using hc
                rw [Bool.not_eq_true, Bool.or_eq_false_iff] at hcond
                have hpos : sz ≠ 0 := by simpa using hcond.1
                have hzo : zOk P el sz = true := by simpa using hcond.2
                exact e_append h hf hop hcal hargs (at0 htys) (.inl ⟨t2, d, at1 htys, hd, fun k e => hnd k e⟩) hu hsz hby hpos hzo h1 h2 hk he
          · cases hc
        · cases hc
      · rename_i y z ty hargs htys
        split at hc
        · rename_i el x1 x2 hu h1 h2
          split at hc
          · rename_i sz by_ hsz hby
            split at hc
            · cases hc
            · rename_i hcond
              obtain rfl : EO.app el sz by_ x1 x2 = eo := by simpa using hc
              rw [Bool.not_eq_true, Bool.or_eq_false_iff] at hcond
              have hpos : sz ≠ 0 := by simpa using hcond.1
              have hzo : zOk P el sz = true := by simpa using hcond.2
              exact e_append h hf hop hcal hargs (at0 htys) (.inr (at1n htys)) hu hsz hby hpos hzo h1 h2 hk he
          · cases hc
        · cases hc
      · rename_i y z ty ts hargs htys
        split at hc
        · rename_i el x1 x2 hu h1 h2
          split at hc
          · rename_i sz hsz
            split at hc
            · cases hc
            · obtain rfl : EO.cpy sz x1 x2 = eo := by simpa using hc
              exact e_copy h hop hcal hargs (at0 htys) hu hsz h1 h2 hk he
          · cases hc
        · cases hc
      · split at hc <;> cases hc
      · split at hc <;> cases hc
      · rename_i m y ty ts hargs htys
        split at hc
        · rename_i kt et xm xk hu h1 h2
          obtain ⟨sh, hks, e⟩ := Option.map_eq_some_iff.1 hc
          obtain rfl : EO.del sh xm xk = eo := by simpa using e
          exact e_delete h hop hcal hargs htys hu hks h1 h2 he
        · cases hc
      · rename_i y z ty ts hargs htys
        split at hc
        · rename_i el x1 x2 hu h1 h2
          split at hc
          · rename_i hcond
            obtain rfl : EO.us el x1 x2 = eo := by simpa using hc
            rw [Bool.and_eq_true] at hcond
            exact e_unsafeString h hop hcal hargs (at0 htys) hu (by simpa using hcond.2) h1 h2 hk he
          · cases hc
        · cases hc
      · obtain ⟨z, _, e⟩ := Option.bind_eq_some_iff.1 hc; cases e
      · rename_i y ty ts hargs htys
        split at hc
        · rename_i el x1 hu h1
          obtain ⟨z, hz, e⟩ := Option.map_eq_some_iff.1 hc
          obtain rfl : EO.clr (cellsOfV z) x1 = eo := by simpa using e
          exact e_clear h hop hcal hargs (at0 htys) hu hz h1 he
        · cases hc
      · cases hc
    · rename_i f hcal
      split at hc
      · rename_i fn hf0
        split at hc
        · unfold compExtern at hc
          split at hc
          · cases hc
          · split at hc
            · split at hc
              · split at hc <;> cases hc
              · split at hc
                · split at hc <;> cases hc
                · split at hc
                  · split at hc <;> cases hc
                  · cases hc
            · split at hc
              · obtain ⟨z, _, e⟩ := Option.bind_eq_some_iff.1 hc; cases e
              · split at hc
                · split at hc
                  · split at hc
                    · split at hc <;> cases hc
                    · cases hc
                  · cases hc
                · cases hc
            · cases hc
        · obtain ⟨z, _, e⟩ := Option.map_eq_some_iff.1 hc
          obtain rfl : EO.call f z = eo := by simpa using e
          cases hp
      · cases hc
    · split at hc
      · rename_i x xs h1 h2
        obtain rfl : EO.cv x xs = eo := by simpa using hc
        cases hp
      · cases hc
    · cases hc
  | alloc ty => rw [hop] at hc; obtain ⟨z, _, e⟩ := Option.map_eq_some_iff.1 hc; cases e
  | box ty y => rw [hop] at hc; simp only [compOp] at hc; split at hc <;> cases hc
  | buildSlice ty n ps =>
    rw [hop] at hc; simp only [compOp] at hc
    split at hc
    · split at hc
      · split at hc
        · cases hc
        · obtain ⟨z, _, e⟩ := Option.map_eq_some_iff.1 hc; cases e
      · cases hc
    · cases hc
  | makeMap ty r =>
    cases r with
    | none => rw [hop] at hc; cases hc
    | some z => rw [hop] at hc; cases hc
  | makeSlice ty l k' =>
    rw [hop] at hc; simp only [compOp] at hc
    split at hc
    · split at hc
      · split at hc <;> cases hc
      · cases hc
    · cases hc
  | move y => rw [hop] at hc; obtain ⟨z, _, e⟩ := Option.bind_eq_some_iff.1 hc; cases e
  | assign y => rw [hop] at hc; obtain ⟨z, _, e⟩ := Option.bind_eq_some_iff.1 hc; cases e
  | pick p y z => rw [hop] at hc; simp only [compOp] at hc; split at hc <;> cases hc
  | build ty ps =>
    rw [hop] at hc; simp only [compOp] at hc
    split at hc
    · split at hc
      · obtain ⟨z, _, e⟩ := Option.bind_eq_some_iff.1 hc; cases e
      · cases hc
    · split at hc
      · obtain ⟨z, _, e⟩ := Option.bind_eq_some_iff.1 hc; cases e
      · cases hc
    · cases hc
  | load ty y => rw [hop] at hc; simp only [compOp] at hc; split at hc <;> cases hc
  | nilCheck y => rw [hop] at hc; obtain ⟨z, _, e⟩ := Option.bind_eq_some_iff.1 hc; cases e
  | binOp op ty y z ty' =>
    rw [hop] at hc; simp only [compOp] at hc
    split at hc
    · cases hc
    · cases hc
    · split at hc
      · obtain ⟨z, _, e⟩ := Option.bind_eq_some_iff.1 hc; cases e
      · obtain ⟨z, _, e⟩ := Option.bind_eq_some_iff.1 hc; cases e
      · cases hc
    · cases hc
  | unOp op ty y => rw [hop] at hc; obtain ⟨z, _, e⟩ := Option.bind_eq_some_iff.1 hc; cases e
  | makeInterface ty y => rw [hop] at hc; simp only [compOp] at hc; split at hc <;> cases hc
  | makeFunc fn l1 l2 =>
    cases fn with
    | func f => rw [hop] at hc; simp only [compOp] at hc; split at hc <;> cases hc
    | _ => rw [hop] at hc; cases hc
  | slice ty y lo hi mx =>
    rw [hop] at hc; simp only [compOp] at hc
    split at hc
    · split at hc
      · split at hc <;> cases hc
      · obtain ⟨z, _, e⟩ := Option.bind_eq_some_iff.1 hc; split at e <;> cases e
      · obtain ⟨z, _, e⟩ := Option.bind_eq_some_iff.1 hc; split at e <;> cases e
      · split at hc
        · obtain ⟨z, _, e⟩ := Option.bind_eq_some_iff.1 hc; split at e <;> cases e
        · cases hc
      · cases hc
    · cases hc
  | fieldAddr ty y f =>
    rw [hop] at hc; simp only [compOp] at hc
    split at hc
    · split at hc
      · split at hc <;> cases hc
      · cases hc
    · cases hc
  | field ty y f =>
    rw [hop] at hc; simp only [compOp] at hc
    split at hc
    · split at hc
      · split at hc <;> cases hc
      · cases hc
    · cases hc
  | indexAddr ty y i =>
    rw [hop] at hc; simp only [compOp] at hc
    split at hc
    · obtain ⟨z, _, e⟩ := Option.bind_eq_some_iff.1 hc; cases e
    · obtain ⟨z, _, e⟩ := Option.bind_eq_some_iff.1 hc; cases e
    · cases hc
  | index ty y i =>
    rw [hop] at hc; simp only [compOp] at hc
    split at hc
    · split at hc <;> cases hc
    · cases hc
    · cases hc
  | lookup ty y i ok =>
    rw [hop] at hc; simp only [compOp] at hc
    split at hc
    · split at hc <;> cases hc
    · cases hc
  | typeAssert y ty ty' ok => rw [hop] at hc; simp only [compOp] at hc; split at hc <;> cases hc
  | extract y i => rw [hop] at hc; obtain ⟨z, _, e⟩ := Option.bind_eq_some_iff.1 hc; cases e
  | sliceToArrayPointer d y => rw [hop] at hc; simp only [compOp] at hc; split at hc <;> cases hc
  | _ => rw [hop] at hc; cases hc
end
end Go.Proofs.YtaigcmdogapjgaaGreatDoor.Ev
namespace Go.Proofs.YtaigcmdogapjgaaGreatDoor.Ev
open Go
def fence (E : Env) (rd : Option Nat) : Fence := { fn := fun _ => True, depth := none, alive := false, round := rd.map E.ρ }
structure SR (P : Program) (F : RO) (rd : Option Nat) (nt : Nat) (E : Env) (c : Nat → Prop) (w : World) (a : Act) (t : T) (d : List Nat) (M : Mem) (ct : Nat) : Prop where
  cx : Cx P E F M c w t a
  fr : Fresh c ct
  df : a.defers = d.map fun b => { target := .collected (E.ρ b), args := #[] }
  dc : ∀ b ∈ d, c b
  sz : nt ≤ a.tmps.size
  rd : ∀ l, rd = some l → c l
def Res (P : Program) (F : RO) (rd : Option Nat) (nt : Nat) (E : Env) (c : Nat → Prop) (w : World) (M : Mem) (ct : Nat) (t' : T) (d' : List Nat) (M' : Mem) (ct' : Nat) (a' : Act) (w' : World) : Prop :=
  ∃ E' c', Stp P F E M c w E' M' c' w' ∧ Grow c ct c' ct' ∧ SR P F rd nt E' c' w' a' t' d' M' ct'
section
variable {P : Program} {E E' : Env} {F : RO} {M M' : Mem} {c c' : Nat → Prop} {ct ct' nt : Nat} {w w' : World} {t : T} {d : List Nat} {a : Act} {rd : Option Nat}
theorem setT_none (t : T) (v : V) : setT t none v = t := rfl
theorem setT_some (t : T) (p : Pos) (v : V) : setT t (some p) v = t.setP p v := rfl
theorem getT_of {p : Pos} {v : V} (h : t.getP p = some v) : getT t p = v := by unfold getT; rw [h]
theorem getT_none {p : Pos} (h : t.getP p = none) : getT t p = undef := by unfold getT; rw [h]
theorem getT_setP (t : T) (k j : Nat) (v : V) : getT (t.setP (posOf k) v) (posOf j) = if j = k then v else getT t (posOf j) := by
  have := getP_setP_posOf t k j v
  by_cases h : j = k
  · rw [if_pos h] at this ⊢; exact getT_of this
  · rw [if_neg h] at this ⊢; unfold getT; rw [this]
theorem getT_setP' (t : T) (p q : Pos) (v : V) : getT (t.setP p v) q = v ∨ getT (t.setP p v) q = getT t q := by
  by_cases h : q = p
  · subst h; exact .inl (getT_of (Tr.getP_setP_same q v t))
  · right; unfold getT; rw [Tr.getP_setP_ne p v q t h]
theorem bdT_put {dst : Option Pos} {v : V} (h : bdT c t) (hv : bd c v) : bdT c (setT t dst v) := by
  cases dst with
  | none => exact h
  | some p =>
    intro q
    rw [setT_some]
    rcases getT_setP' t p q v with e | e
    · rw [e]; exact hv
    · rw [e]; exact h q
theorem TRel_put {dst : Option Nat} {v : V} {val : Value} (h : TRel E t a.tmps) (hd : ∀ k, dst = some k → k < a.tmps.size) (hv : val = conc E v) : TRel E (setT t (dst.map posOf) v) (a.put dst val).tmps := by
  cases dst with
  | none => exact h
  | some k =>
    intro n
    have hk := hd k rfl
    rw [Option.map_some, setT_some, getT_setP]
    show (a.tmps.setIfInBounds k val).getD n Go.undef = _
    by_cases e : n = k
    · subst e
      rw [if_pos rfl, hv]
      simp [Array.getD_eq_getD_getElem?, hk]
    · rw [if_neg e, ← h n]
      simp [Array.getD_eq_getD_getElem?, Array.getElem?_setIfInBounds_ne (Ne.symm e)]
theorem Act.put_defers (a : Act) (dst : Option Tmp) (v : Value) : (a.put dst v).defers = a.defers := by cases dst <;> rfl
theorem Act.put_size (a : Act) (dst : Option Tmp) (v : Value) : (a.put dst v).tmps.size = a.tmps.size := by cases dst <;> simp [Act.put]
theorem SR.put (h : SR P F rd nt E c w a t d M ct) {dst : Option Nat} (hd : dstOk nt dst = true) {v : V} {val : Value} (hv : val = conc E v) (hb : bd c v) : SR P F rd nt E c w (a.put dst val) (setT t (dst.map posOf) v) d M ct := by
  refine ⟨⟨h.cx.rel, h.cx.glob, h.cx.big, TRel_put h.cx.tr (fun k hk => ?_) hv, bdT_put h.cx.bt hb⟩, h.fr, by rw [Act.put_defers]; exact h.df, h.dc, by rw [Act.put_size]; exact h.sz, h.rd⟩
  subst hk
  have : k < nt := by simpa [dstOk] using hd
  exact Nat.lt_of_lt_of_le this h.sz
theorem SR.stp (h : SR P F rd nt E c w a t d M ct) (hS : Stp P F E M c w E' M' c' w') (hG : Grow c ct c' ct') : SR P F rd nt E' c' w' a t d M' ct' := by
  refine ⟨⟨hS.rel, fun g hg => ?_, fun g hg => hS.le g (h.cx.big g hg), h.cx.tr.ext hS.ext h.cx.bt, fun p => bd_mono hS.le _ (h.cx.bt p)⟩, h.fr.grow hG, ?_, fun b hb => hS.le b (h.dc b hb), h.sz, fun l hl => hS.le l (h.rd l hl)⟩
  · rw [hS.ext.ρ g (h.cx.big g hg), hS.ext.β g (h.cx.big g hg)]; exact h.cx.glob g hg
  · rw [h.df]
    apply List.map_congr_left
    intro b hb
    rw [hS.ext.ρ b (h.dc b hb)]
theorem SR.res (h : SR P F rd nt E c w a t d M ct) : Res P F rd nt E c w M ct t d M ct a w := ⟨E, c, .refl h.cx.rel, .refl _ _, h⟩
theorem fence_ext (h : Ext c E E') (hr : ∀ l, rd = some l → c l) : fence E' rd = fence E rd := by
  cases rd with
  | none => rfl
  | some l => unfold fence; simp only [Option.map_some]; rw [h.ρ l (hr l rfl)]
theorem guard_ok (h : TRel E t a.tmps) {ops : Array Oper} {o : Oper} {g : Option (Pos × Bool)} (hg : (match o.guard with
    | none => some none
    | some (j, want) => match (ops[j]?).bind (·.dst) with
      | some d => some (some (posOf d, want))
      | none => none) = some g) : Region.wanted o (yielded ops a.tmps) = wanted t g := by
  unfold Region.wanted
  cases ho : o.guard with
  | none => rw [ho] at hg; obtain rfl := Option.some.inj hg; rfl
  | some jw =>
    obtain ⟨j, want⟩ := jw
    rw [ho] at hg
    simp only at hg
    cases hd : (ops[j]?).bind (·.dst) with
    | none => rw [hd] at hg; cases hg
    | some dn =>
      rw [hd] at hg
      obtain rfl := Option.some.inj hg
      simp only [yielded, hd, Option.bind_some]
      show _ = wanted1 want (getT t (posOf dn))
      have hn := h dn
      rw [Array.getD_eq_getD_getElem?] at hn
      cases hv : a.tmps[dn]? with
      | none =>
        rw [hv] at hn
        have hn' : conc E (getT t (posOf dn)) = .tuple #[] := hn.symm
        cases hx : getT t (posOf dn) <;> rw [hx] at hn' <;> first | rfl | (simp [conc] at hn')
      | some val =>
        rw [hv] at hn
        have hn' : val = conc E (getT t (posOf dn)) := hn
        cases hx : getT t (posOf dn) with
        | b x =>
          rw [hx] at hn'
          rw [hn']
          show (some x == some want) = Bool.rec (motive := fun _ => Bool) (notB want) want x
          cases x <;> cases want <;> rfl
        | _ => rw [hx] at hn'; rw [hn']; rfl
def CallOk (P : Program) (k : Kn) : Prop := ∀ (F : RO) (f : Nat) (args : List V) (M : Mem) (ct : Nat) (v : V) (M' : Mem) (ct' : Nat), callF (knF k F) f args M ct = .k v M' ct' →
  ∀ (E : Env) (c : Nat → Prop) (w : World), Rel P E F M c w → (∀ g, g < 1000 → E.ρ g = g ∧ E.β g = 0) → (∀ g, g < 1000 → c g) → Fresh c ct → bds c args →
    ∃ fn, P.funcs[f]? = some fn ∧ fn.body.isNone = false ∧ (fn.name == "runtime.NumGoroutine") = false ∧
    Calls P f (concs E args).toArray w fun e w' => ∃ E' c', e = .returned (conc E' v) ∧ Stp P F E M c w E' M' c' w' ∧ bd c' v ∧ Grow c ct c' ct'
def YieldOk (P : Program) (k : Kn) : Prop := ∀ (F : RO) (l : Nat) (args : List V) (M : Mem) (ct : Nat) (v : V) (M' : Mem) (ct' : Nat), callY (knF k F) l args M ct (loopOf (M.get l)) = .k v M' ct' →
  ∀ (E : Env) (c : Nat → Prop) (w : World) (rd : Option Nat), Rel P E F M c w → (∀ g, g < 1000 → E.ρ g = g ∧ E.β g = 0) → (∀ g, g < 1000 → c g) → Fresh c ct → bds c args →
    ∃ fn tmps asg body, (Instr.yield (E.ρ l) (concs E args).toArray).run P w = .ok (.round (E.ρ l) fn tmps asg body) w ∧
    RoundIn (fence E rd) 0 P (E.ρ l) fn tmps asg body w fun e w' => ∃ E' c', e = .returned (conc E' v) ∧ Stp P F E M c w E' M' c' w' ∧ bd c' v ∧ Grow c ct c' ct'
theorem callsIn_any {n : Nat} {f : FuncId} {args : Array Value} {R : Ending → World → Prop} (h : Calls P f args w R) : CallsIn (fence E rd) n P f args w R := callsIn_wide.2 h
theorem compOp_noDefer {o : Op} {op : OK} (h : compOp P o = some op) : ∀ cl, o ≠ .defer cl := by
  intro cl e; subst e; cases h
theorem builtin_plain {b : Builtin} {as : List Operand} {ats : List TypeId} {x : EO} (hc : compBuiltin P b as ats = some (.e x)) : x.plain = true := by
  unfold compBuiltin at hc
  split at hc
  · split at hc <;> first | cases hc | (split at hc <;> cases hc)
  · split at hc <;> cases hc
  · split at hc
    · split at hc
      · split at hc
        · cases hc
        · split at hc
          · cases hc
          · obtain rfl := OK.e.inj (Option.some.inj hc); rfl
      · cases hc
    · cases hc
  · split at hc
    · split at hc
      · split at hc
        · cases hc
        · obtain rfl := OK.e.inj (Option.some.inj hc); rfl
      · cases hc
    · cases hc
  · split at hc
    · split at hc
      · split at hc
        · cases hc
        · obtain rfl := OK.e.inj (Option.some.inj hc); rfl
      · cases hc
    · cases hc
  · split at hc <;> cases hc
  · split at hc <;> cases hc
  · split at hc
    · obtain ⟨z, _, e⟩ := Option.map_eq_some_iff.1 hc
      obtain rfl := OK.e.inj e; rfl
    · cases hc
  · split at hc
    · split at hc
      · obtain rfl := OK.e.inj (Option.some.inj hc); rfl
      · cases hc
    · cases hc
  · obtain ⟨z, _, e⟩ := Option.bind_eq_some_iff.1 hc; cases e
  · split at hc
    · obtain ⟨z, _, e⟩ := Option.map_eq_some_iff.1 hc
      obtain rfl := OK.e.inj e; rfl
    · cases hc
  · cases hc
theorem notcall_plain {o : Op} (hn : ∀ cl, o ≠ .call cl) {x : EO} (hc : compOp P o = some (.e x)) : x.plain = true := by
  cases hx : x.plain with
  | true => rfl
  | false =>
    exfalso
    unfold compOp at hc
    split at hc
    all_goals first
      | exact absurd rfl (hn _)
      | (cases hc; done)
      | (obtain ⟨z, _, e⟩ := Option.bind_eq_some_iff.1 hc; cases e; done)
      | (obtain ⟨z, _, e⟩ := Option.map_eq_some_iff.1 hc; cases e; done)
      | (obtain ⟨z, _, e⟩ := Option.map_eq_some_iff.1 hc; obtain rfl := OK.e.inj e; cases hx; done)
      | skip
    all_goals (repeat' (first | (cases hc; done) | (obtain ⟨z, _, e⟩ := Option.bind_eq_some_iff.1 hc; cases e; done) | (obtain ⟨z, _, e⟩ := Option.bind_eq_some_iff.1 hc; split at e <;> cases e; done) | (obtain ⟨z, _, e⟩ := Option.map_eq_some_iff.1 hc; cases e; done) | (obtain ⟨z, _, e⟩ := Option.map_eq_some_iff.1 hc; obtain rfl := OK.e.inj e; cases hx; done) | (obtain rfl := OK.e.inj (Option.some.inj hc); cases hx; done) | split at hc))
def OpOk (P : Program) (F : RO) (rd : Option Nat) (E : Env) (M : Mem) (c : Nat → Prop) (ct : Nat) (w : World) (a : Act) (o : Oper) (v : V) (M' : Mem) (ct' : Nat) : Prop :=
  ∀ (next : Act → World → Prop) (Q : Exit → Act → World → Prop), (∀ E' c' w', Stp P F E M c w E' M' c' w' → Grow c ct c' ct' → bd c' v → next (a.put o.dst (conc E' v)) w') → o.wpIn (fence E rd) 0 P a w next Q
theorem EOk.op {o : Oper} (hd : ∀ cl, o.op ≠ .defer cl) {v : V} (h : EOk P F E M c ct w a o v M' ct') : OpOk P F rd E M c ct w a o v M' ct' := by
  intro next Q hn
  obtain ⟨E', w', nx, c', hr, hnv, hS, hb, hG⟩ := h
  refine ⟨fun _ _ => trivial, ?_⟩
  rw [Oper.semAt_eq _ _ _ hd, hr]
  rcases hnv with rfl | ⟨rfl, hv⟩
  · exact hn E' c' w' hS hG hb
  · have := hn E' c' w' hS hG hb
    rw [hv] at this
    exact this
theorem q_op (h : Cx P E F M c w t a) {o : Oper} {q : QO} (hc : compOp P o.op = some (.q q)) {x : V} (hx : (qop q F M t).val = some x) : OpOk P F rd E M c ct w a o x M ct := by
  intro next Q hn
  obtain ⟨hr, hb⟩ := q_all h hc hx
  refine ⟨fun _ _ => trivial, ?_⟩
  rw [Oper.semAt_eq _ _ _ (compOp_noDefer hc), hr]
  exact hn E c w (.refl h.rel) (.refl _ _) hb
theorem a_op (h : Cx P E F M c w t a) (hf : Fresh c ct) {o : Oper} {ao : AO} (hc : compOp P o.op = some (.a ao)) {v : V} {blk : Blk} (ha : aop ao ct t = some (v, blk)) : OpOk P F rd E M c ct w a o v (M.set ct blk) (ct + 1) := by
  intro next Q hn
  obtain ⟨E', w', hr, hS, _, hb⟩ := a_all h hc (hf ct (Nat.le_refl _)) (c' := fun b => c b ∨ b = ct) (.inr rfl) (fun _ h => .inl h) ha
  refine ⟨fun _ _ => trivial, ?_⟩
  rw [Oper.semAt_eq _ _ _ (compOp_noDefer hc), hr]
  exact hn E' _ w' hS (grow_one c ct) hb
theorem knF_F (k : Kn) (F : RO) : (knF k F).F = F := by cases k; rfl
theorem e_op {k : Kn} (hcall : CallOk P k) (hy : YieldOk P k) (h : Cx P E F M c w t a) (hf : Fresh c ct) {o : Oper} {eo : EO} (hc : compOp P o.op = some (.e eo)) {v : V} (he : doE eo (knF k F) M ct t = .k v M' ct') : OpOk P F rd E M c ct w a o v M' ct' := by
  cases hp : eo.plain with
  | true => exact EOk.op (compOp_noDefer hc) (e_all h hf hc hp (knF_F k F) he)
  | false =>
    have hnd := compOp_noDefer hc
    have fin : ∀ (f : Nat) (args : List V), (execOp a.eval o).run P w = (callFunc f (concs E args).toArray).run P w → bds c args → callF (knF k F) f args M ct = .k v M' ct' → OpOk P F rd E M c ct w a o v M' ct' := by
      intro f args hrun hba hcf next Q hn
      obtain ⟨fn, hfn, hbo, hnm, hC⟩ := hcall F f args M ct v M' ct' hcf E c w h.rel h.glob h.big hf hba
      refine ⟨fun _ _ => trivial, ?_⟩
      rw [Oper.semAt_eq _ _ _ hnd, hrun]
      have hcfn : (callFunc f (concs E args).toArray).run P w = .ok (.enter f (concs E args).toArray) w := by
        have h1 : ¬ fn.name = "runtime.NumGoroutine" := by simpa using hnm
        have h2 : ¬ fn.body = none := fun e => by rw [e] at hbo; cases hbo
        simp [callFunc, hfn, h1, h2]
      rw [hcfn, Oper.uponIn_enter]
      refine ⟨fun hd => by simp [fence] at hd, callsIn_any (hC.mono ?_)⟩
      rintro e w' ⟨E', c', rfl, hS, hb, hG⟩
      exact hn E' c' w' hS hG hb
    cases hop : o.op with
    | call cl =>
      rw [hop] at hc
      simp only [compOp] at hc
      split at hc
      ·
        rename_i b' hcal
        exfalso
        have hq : ∀ x, compBuiltin P b' cl.args.toList cl.argTypes.toList = some (.e x) → x.plain = true := fun x hx => builtin_plain hx
        rw [hq eo hc] at hp; cases hp
      · rename_i f hcal
        split at hc
        · rename_i fn hf0
          split at hc
          · exfalso
            unfold compExtern at hc
            split at hc
            · cases hc
            · split at hc
              · split at hc
                · split at hc <;> cases hc
                · split at hc
                  · split at hc <;> cases hc
                  · split at hc
                    · split at hc <;> cases hc
                    · cases hc
              · split at hc
                · obtain ⟨z, _, e⟩ := Option.bind_eq_some_iff.1 hc; cases e
                · split at hc
                  · split at hc
                    · split at hc
                      · split at hc <;> cases hc
                      · cases hc
                    · cases hc
                  · cases hc
              · cases hc
          · obtain ⟨xs, hxs, e⟩ := Option.map_eq_some_iff.1 hc
            obtain rfl : EO.call f xs = eo := by simpa using e
            have ev := h.evs hxs
            have hm : cl.args.map a.eval = (concs E (evs xs t)).toArray := by
              rw [← ev.1]; apply Array.ext'; simp
            refine fin f (evs xs t) ?_ ev.2 he
            simp only [execOp, hop, resolve, hcal, hm, Act.eval, Deferred.ofValue, Sem.run_bind, Sem.run_pure, Result.andThen_ok, invoke, Array.empty_append, Array.append_empty]
        · cases hc
      · rename_i y hny hcal
        split at hc
        · rename_i x xs hx hxs
          obtain rfl : EO.cv x xs = eo := by simpa using hc
          have ev := h.evs hxs
          have e1 := h.ev hx
          have hm : cl.args.map a.eval = (concs E (evs xs t)).toArray := by
            rw [← ev.1]; apply Array.ext'; simp
          have he' : callV (knF k F) (x.ev t) (evs xs t) M ct = .k v M' ct' := he
          cases hv : x.ev t with
          | f f first caps =>
            rw [hv] at he' e1
            have he2 : callF (knF k F) f (first ++ (evs xs t ++ caps)) M ct = .k v M' ct' := he'
            refine fin f _ ?_ (bds_append e1.2.1 (bds_append ev.2 e1.2.2)) he2
            simp only [execOp, hop, resolve, hcal, hm, e1.1, conc, Deferred.ofValue, Sem.run_bind, Sem.run_pure, Result.andThen_ok, invoke]
            congr 2
            rw [concs_append, concs_append]; simp
          | y l =>
            rw [hv] at he' e1
            have he2 : callY (knF k F) l (evs xs t) M ct (loopOf (M.get l)) = .k v M' ct' := he'
            intro next Q hn
            obtain ⟨fn, tmps, asg, body, hyr, hR⟩ := hy F l (evs xs t) M ct v M' ct' he2 E c w rd h.rel h.glob h.big hf ev.2
            refine ⟨fun _ _ => trivial, ?_⟩
            rw [Oper.semAt_eq _ _ _ hnd]
            have hrun : (execOp a.eval o).run P w = .ok (.round (E.ρ l) fn tmps asg body) w := by
              simp only [execOp, hop, resolve, hcal, hm, e1.1, conc, Deferred.ofValue, Sem.run_bind, Sem.run_pure, Result.andThen_ok, invoke, Array.empty_append, hyr]
            rw [hrun, Oper.uponIn_round]
            refine ⟨fun hd => by simp [fence] at hd, hR.mono ?_⟩
            rintro e w' ⟨E', c', rfl, hS, hb, hG⟩
            exact hn E' c' w' hS hG hb
          | _ => rw [hv] at he'; cases (show RC.f = .k v M' ct' from he')
        · cases hc
      · cases hc
    | _ =>
      exfalso
      have := notcall_plain (by rw [hop]; intro cl; simp) hc
      rw [this] at hp; cases hp
end
end Go.Proofs.YtaigcmdogapjgaaGreatDoor.Ev
namespace Go.Proofs.YtaigcmdogapjgaaGreatDoor.Ev
open Go
section
variable {P : Program} {E E' : Env} {F : RO} {M M' : Mem} {c c' : Nat → Prop} {ct ct' nt : Nat} {w w' : World} {t t' : T} {d d' : List Nat} {a : Act} {rd : Option Nat}
theorem Res.trans {E₁ : Env} {c₁ : Nat → Prop} {w₁ : World} {M₁ : Mem} {ct₁ : Nat} (hS : Stp P F E M c w E₁ M₁ c₁ w₁) (hG : Grow c ct c₁ ct₁) {a' : Act} (h : Res P F rd nt E₁ c₁ w₁ M₁ ct₁ t' d' M' ct' a' w') : Res P F rd nt E c w M ct t' d' M' ct' a' w' := by
  obtain ⟨E', c', hS', hG', hR⟩ := h
  exact ⟨E', c', hS.trans hS', hG.trans hG', hR⟩
theorem putS_eq (dst : Option Pos) (d : List Nat) (M : Mem) (ct : Nat) (t : T) (v : V) : putS dst d M ct t v = some (.mk (setT t dst v) d M ct) := by
  unfold putS; rw [Tr.force_eq]
theorem seqOp_eq (dst : Option Pos) (op : OK) (g : Option (Pos × Bool)) (k : Kn) (t : T) (d : List Nat) (M : Mem) (ct : Nat) :
    seqOp (.mk dst op g) k (.mk t d M ct) = if wanted t g then sop op k dst t d M ct else some (.mk (setT t dst undef) d M ct) := by
  cases g with
  | none => rfl
  | some g =>
    show (Bool.rec (motive := fun _ => Option St) (putS dst d M ct t undef) (sop op k dst t d M ct) (wanted t (some g))) = _
    rw [bb, putS_eq]
theorem seqOps_cons (o : CO) (r : List CO) (k : Kn) (s : St) : seqOps (o :: r) k s = (seqOp o k s).bind fun s => seqOps r k s := by
  show Option.rec (motive := fun _ => Option St) none (fun s => seqOps r k s) (seqOp o k s) = _
  cases seqOp o k s <;> rfl
theorem sop_ok {k : Kn} (hcall : CallOk P k) (hy : YieldOk P k) (h : SR P F rd nt E c w a t d M ct) {o : Oper} (hd : dstOk nt o.dst = true) {op : OK} (hc : compOp P o.op = some op) {s' : St} (hs : sop op (knF k F) (o.dst.map posOf) t d M ct = some s') :
    ∃ v M' ct', s' = .mk (setT t (o.dst.map posOf) v) d M' ct' ∧ OpOk P F rd E M c ct w a o v M' ct' := by
  cases op with
  | q q =>
    have hs' : s_q1 (o.dst.map posOf) t d M ct (qop q (knF k F).F M t) = some s' := hs
    rw [knF_F] at hs'
    cases hq : qop q F M t with
    | f => rw [hq] at hs'; cases (show (none : Option St) = some s' from hs')
    | v x =>
      rw [hq] at hs'
      have hs2 : putS (o.dst.map posOf) d M ct t x = some s' := hs'
      rw [putS_eq] at hs2
      exact ⟨x, M, ct, (Option.some.inj hs2).symm, q_op h.cx hc (by rw [hq]; rfl)⟩
    | r x b =>
      rw [hq] at hs'
      have hs2 : putS (o.dst.map posOf) d M ct t x = some s' := hs'
      rw [putS_eq] at hs2
      exact ⟨x, M, ct, (Option.some.inj hs2).symm, q_op h.cx hc (by rw [hq]; rfl)⟩
  | a ao =>
    have hs' : s_a1 (o.dst.map posOf) t d M ct (aop ao ct t) = some s' := hs
    cases ha : aop ao ct t with
    | none => rw [ha] at hs'; cases (show (none : Option St) = some s' from hs')
    | some p =>
      obtain ⟨v, blk⟩ := p
      rw [ha] at hs'
      have hs2 : s_a2 (o.dst.map posOf) t d M ct v blk = some s' := hs'
      unfold s_a2 at hs2
      rw [Tr.force_eq, fN_eq, putS_eq] at hs2
      exact ⟨v, M.set ct blk, ct + 1, (Option.some.inj hs2).symm, a_op h.cx h.fr hc ha⟩
  | e eo =>
    have hs' : s_e1 (o.dst.map posOf) t d (doE eo (knF k F) M ct t) = some s' := hs
    cases he : doE eo (knF k F) M ct t with
    | f => rw [he] at hs'; cases (show (none : Option St) = some s' from hs')
    | k v M' ct' =>
      rw [he] at hs'
      have hs2 : putS (o.dst.map posOf) d M' ct' t v = some s' := hs'
      rw [putS_eq] at hs2
      exact ⟨v, M', ct', (Option.some.inj hs2).symm, e_op hcall hy h.cx h.fr hc he⟩
theorem compO_some {ops : Array Oper} {o : Oper} {co : CO} (h : compO P nt ops o = some co) : dstOk nt o.dst = true ∧ ∃ g op, co = .mk (o.dst.map posOf) op g ∧
    (match o.guard with
    | none => some none
    | some (j, want) => match (ops[j]?).bind (·.dst) with
      | some d => some (some (posOf d, want))
      | none => none) = some g ∧ (compOp P o.op = some op ∨ op = .q .bad) := by
  unfold compO at h
  split at h
  · cases h
  · rename_i hd
    have hd' : dstOk nt o.dst = true := by simpa using hd
    split at h
    · cases h
    · rename_i g hg
      split at h
      · rename_i op hop
        obtain rfl := Option.some.inj h
        exact ⟨hd', g, op, rfl, hg, .inl hop⟩
      · obtain rfl := Option.some.inj h
        exact ⟨hd', g, _, rfl, hg, .inr rfl⟩
theorem seq_ok {k : Kn} (hcall : CallOk P k) (hy : YieldOk P k) {ops : Array Oper} {Q : Exit → Act → World → Prop} : ∀ (l : List Oper) (cos : List CO) (i : Nat) (E : Env) (c : Nat → Prop) (w : World) (a : Act) (t : T) (M : Mem) (ct : Nat), ops.toList.drop i = l → compOs P nt ops l = some cos →
    seqOps cos (knF k F) (.mk t d M ct) = some (.mk t' d' M' ct') → SR P F rd nt E c w a t d M ct → (∀ a' w', Res P F rd nt E c w M ct t' d' M' ct' a' w' → Q .normal a' w') → wpOpsIn (fence E rd) 0 P ops Q (List.range' i l.length) a w
  | [], cos, i, E, c, w, a, t, M, ct, hl, hc, hs, h, hQ => by
    obtain rfl := Option.some.inj hc
    have hs' : some (St.mk t d M ct) = some (.mk t' d' M' ct') := hs
    injection hs' with hs'
    injection hs' with e1 e2 e3 e4
    subst e1 e2 e3 e4
    exact hQ a w h.res
  | o :: l, cos, i, E, c, w, a, t, M, ct, hl, hc, hs, h, hQ => by
    rw [compOs] at hc
    split at hc
    · rename_i co cr h1 h2
      obtain rfl := Option.some.inj hc
      have hi : ops[i]? = some o := by
        have : (ops.toList.drop i)[0]? = some o := by rw [hl]; rfl
        simpa using this
      have hl' : ops.toList.drop (i + 1) = l := by
        rw [← List.drop_drop, hl]; rfl
      obtain ⟨hd, g, op, rfl, hg, hop⟩ := compO_some h1
      rw [seqOps_cons, seqOp_eq] at hs
      rw [List.length_cons, List.range'_succ]
      simp only [wpOpsIn, hi]
      rw [guard_ok h.cx.tr hg]
      by_cases hw : wanted t g = true
      · rw [if_pos hw] at hs
        rw [if_pos hw]
        obtain ⟨s1, hs1, hs2⟩ := Option.bind_eq_some_iff.1 hs
        rcases hop with hop | rfl
        · obtain ⟨v, M1, ct1, rfl, hO⟩ := sop_ok hcall hy h hd hop hs1
          refine hO _ _ fun E1 c1 w1 hS hG hb => ?_
          have h1 := (h.stp hS hG).put hd rfl hb
          rw [← fence_ext hS.ext h.rd]
          exact seq_ok hcall hy l cr (i + 1) E1 c1 w1 _ _ M1 ct1 hl' h2 hs2 h1 fun a' w' hr => hQ a' w' (hr.trans hS hG)
        · cases (show (none : Option St) = some s1 from hs1)
      · rw [if_neg hw] at hs
        rw [if_neg hw]
        refine ⟨fun _ _ => trivial, ?_⟩
        have h1 := h.put hd (v := undef) (val := Go.undef) rfl trivial
        exact seq_ok hcall hy l cr (i + 1) E c w _ _ M ct hl' h2 hs h1 hQ
    · cases hc
end
end Go.Proofs.YtaigcmdogapjgaaGreatDoor.Ev
namespace Go.Proofs.YtaigcmdogapjgaaGreatDoor.Ev
open Go
def exOf : Ex → Exit
  | .nrm => .normal
  | .ret => .ret
  | .ext id => .exit id
  | .gto l => .goto l
def ExOk (P : Program) (ex : ExF) : Prop := ∀ (rd : Option Nat) (fn : Nat) (F : RO) (cc : CC) (t : T) (d : List Nat) (M : Mem) (ct : Nat) (e : Ex) (t' : T) (d' : List Nat) (M' : Mem) (ct' : Nat),
  ex rd fn F cc (.mk t d M ct) = .k e (.mk t' d' M' ct') → ∀ (nt : Nat) (code : Code), Sim P nt code cc → ∀ (E : Env) (c : Nat → Prop) (w : World) (a : Act), SR P F rd nt E c w a t d M ct →
    ∀ Q : Exit → Act → World → Prop, (∀ a' w', Res P F rd nt E c w M ct t' d' M' ct' a' w' → Q (exOf e) a' w') → code.wpIn (fence E rd) 0 P Q a w
def LpOk (P : Program) (ex : ExF) (m : Nat) : Prop := ∀ (rd : Option Nat) (fn : Nat) (F : RO) (b : CC) (t : T) (d : List Nat) (M : Mem) (ct : Nat) (e : Ex) (t' : T) (d' : List Nat) (M' : Mem) (ct' : Nat),
  ex rd fn F (.loop b) (.mk t d M ct) = .k e (.mk t' d' M' ct') → ∀ (nt : Nat) (code : Code), Sim P nt code b → ∀ (E : Env) (c : Nat → Prop) (w : World) (a : Act), SR P F rd nt E c w a t d M ct →
    ∀ Q : Exit → Act → World → Prop, (∀ a' w', Res P F rd nt E c w M ct t' d' M' ct' a' w' → Q (exOf e) a' w') → Code.roundsIn (fence E rd) 0 P code Q m a w
def TblOk (P : Program) (nt : Nat) (body : Code) (tbl : CC) : Prop := ∀ l cl, findL l tbl = some cl → ∃ rest, findLabel body l = some rest ∧ Sim P nt rest cl
def OrcOk (P : Program) (f : Nat) (g : RO → List V → Mem → Nat → RC) : Prop := ∀ (F : RO) (args : List V) (M : Mem) (ct : Nat) (v : V) (M' : Mem) (ct' : Nat), g F args M ct = .k v M' ct' →
  ∀ (E : Env) (c : Nat → Prop) (w : World), Rel P E F M c w → (∀ g, g < 1000 → E.ρ g = g ∧ E.β g = 0) → (∀ g, g < 1000 → c g) → Fresh c ct → bds c args →
    ∃ fn, P.funcs[f]? = some fn ∧ fn.body.isNone = false ∧ (fn.name == "runtime.NumGoroutine") = false ∧
    Calls P f (concs E args).toArray w fun e w' => ∃ E' c', e = .returned (conc E' v) ∧ Stp P F E M c w E' M' c' w' ∧ bd c' v ∧ Grow c ct c' ct'
def CfOk (P : Program) (f : Nat) (cf : CF) : Prop :=
  match cf with
  | .mk n res body => ∃ fn, P.funcs[f]? = some fn ∧ comp P fn = some (.mk n res body)
  | .orc g => OrcOk P f g
def PhiOk (P : Program) (Φ : Nat → Option CF) : Prop := ∀ f cf, Φ f = some cf → CfOk P f cf
section
variable {P : Program} {E E' : Env} {F : RO} {M M' : Mem} {c c' : Nat → Prop} {ct ct' nt : Nat} {w w' : World} {t t' : T} {d d' : List Nat} {a : Act} {rd : Option Nat}
theorem skel_get {n : Nat} : ∀ k, (skel n).get k = none := by
  induction n with
  | zero => intro k; rfl
  | succ n ih =>
    intro k
    show (Tr.n (skel n) none (skel n)).get k = none
    rw [Tr.get_n]
    split
    · rfl
    · split
      · exact ih _
      · exact ih _
theorem argTr_rel (E : Env) (args : List V) (m n : Nat) : TRel E (argTr m args) ((concs E args).toArray ++ Array.replicate n Go.undef) := by
  intro k
  have hg : (argTr m args).getP (posOf k) = args[k]? := by
    rw [getP_posOf]
    show (listTr args 0 (skel m)).get k = _
    rw [listTr_get]
    by_cases h : k < args.length
    · rw [if_pos (by omega)]; rfl
    · rw [if_neg (by omega), List.getElem?_eq_none (by omega)]; exact skel_get k
  rw [Array.getD_eq_getD_getElem?]
  by_cases h : k < args.length
  · have hv : args[k]? = some args[k] := List.getElem?_eq_getElem h
    rw [getT_of (hg.trans hv)]
    rw [Array.getElem?_append_left (by simpa [concs_map] using h)]
    simp [concs_map, h]
  · have hv : args[k]? = none := List.getElem?_eq_none (by omega)
    rw [getT_none (hg.trans hv)]
    rw [Array.getElem?_append_right (by simp [concs_map]; omega)]
    by_cases h2 : k - (concs E args).toArray.size < n
    · rw [Array.getElem?_replicate, if_pos h2]; rfl
    · rw [Array.getElem?_replicate, if_neg h2]; rfl
theorem pos_eq {p q : Pos} (h : ∀ t : Tr Unit, t.getP p = t.getP q) : p = q := by
  by_cases e : q = p
  · exact e.symm
  · have := h (Tr.e.setP p ())
    rw [Tr.getP_setP_same, Tr.getP_setP_ne p () q _ e, Tr.getP_e] at this
    cases this
theorem posOf_odd (k : Nat) : posOf (2 * k + 1) = .l (posOf k) := pos_eq fun t => by
  rw [getP_posOf]
  cases t with
  | e => rw [Tr.getP_e]; rfl
  | n l v r => rw [Tr.getP_l, getP_posOf, Tr.get_n, if_neg (by omega), if_neg (by omega), show (2 * k + 1) / 2 = k by omega]
theorem posOf_even (k : Nat) : posOf (2 * k + 2) = .r (posOf k) := pos_eq fun t => by
  rw [getP_posOf]
  cases t with
  | e => rw [Tr.getP_e]; rfl
  | n l v r => rw [Tr.getP_r, getP_posOf, Tr.get_n, if_neg (by omega), if_pos (by omega), show (2 * k + 2) / 2 - 1 = k by omega]
theorem posOf_surj : ∀ p : Pos, ∃ k, posOf k = p
  | .h => ⟨0, rfl⟩
  | .l p => let ⟨k, hk⟩ := posOf_surj p; ⟨2 * k + 1, by rw [posOf_odd, hk]⟩
  | .r p => let ⟨k, hk⟩ := posOf_surj p; ⟨2 * k + 2, by rw [posOf_even, hk]⟩
theorem argTr_bd {m : Nat} {args : List V} (h : bds c args) : bdT c (argTr m args) := by
  intro p
  have key : ∀ (vs : List V) (k : Nat) (t : T), bds c vs → bdT c t → bdT c (listTr vs k t) := by
    intro vs
    induction vs with
    | nil => intro k t _ ht; exact ht
    | cons v vs ih =>
      intro k t hv ht
      rw [listTr_cons]
      refine ih (k + 1) _ hv.2 ?_
      intro q
      obtain ⟨j, rfl⟩ := posOf_surj q
      have hg : (t.set k v).getP (posOf j) = if j = k then some v else t.getP (posOf j) := by
        rw [getP_posOf, getP_posOf, Tr.get_set]
      by_cases e : j = k
      · rw [if_pos e] at hg; rw [getT_of hg]; exact hv.1
      · rw [if_neg e] at hg
        have := ht (posOf j)
        unfold getT at this ⊢
        rw [hg]; exact this
  refine key args 0 (skel m) h ?_ p
  intro q
  obtain ⟨j, rfl⟩ := posOf_surj q
  rw [getT_none (by rw [getP_posOf]; exact skel_get j)]; trivial
end
end Go.Proofs.YtaigcmdogapjgaaGreatDoor.Ev
namespace Go.Proofs.YtaigcmdogapjgaaGreatDoor.Ev
open Go
section
variable {P : Program} {E E' : Env} {F : RO} {M M' : Mem} {c c' : Nat → Prop} {ct ct' nt : Nat} {w w' : World} {t t' : T} {d d' : List Nat} {a : Act} {rd : Option Nat}
theorem resV_cons (r : RV) (l : List RV) : resV F M t (r :: l) = (resV1 F M t r).bind fun v => (resV F M t l).map (v :: ·) := by
  show Option.rec (motive := fun _ => Option (List V)) none (fun v => resC v (resV F M t l)) (resV1 F M t r) = _
  cases resV1 F M t r with
  | none => rfl
  | some v =>
    show resC v (resV F M t l) = (resV F M t l).map (v :: ·)
    unfold resC
    cases resV F M t l <;> rfl
def resS (tmps : Array Value) : ResultVar → Sem Value
  | .tmp n => pure (tmps.getD n Go.undef)
  | .cell ad ty => do loadVar ty (← asAddr (tmps.getD ad Go.undef))
theorem resV1_ok (h : Cx P E F M c w t a) {x : ResultVar} {r : RV} (hc : compR P x = some r) {v : V} (hv : resV1 F M t r = some v) :
    (resS a.tmps x).run P w = .ok (conc E v) w ∧ bd c v := by
  unfold resS
  cases x with
  | tmp n =>
    obtain rfl := Option.some.inj hc
    obtain rfl : getT t (posOf n) = v := Option.some.inj hv
    exact ⟨by simp [h.tr n], h.bt _⟩
  | cell ad ty =>
    have hn := h.tr ad
    have hc' : (match isAg P ty, szOf P ty with
      | some true, some n => some (RV.cn (posOf ad) n)
      | some false, some _ => some (RV.c1 (posOf ad))
      | _, _ => none) = some r := hc
    replace hc := hc'
    clear hc'
    · split at hc
      · rename_i n h1 h2
        obtain rfl := Option.some.inj hc
        have hv' : (onP (getT t (posOf ad)) none fun b o => Option.rec (motive := fun _ => Option V) none (fun l => some (.g l)) (loadN F M b o n)) = some v := hv
        cases hg : getT t (posOf ad) with
        | p b o =>
          rw [hg] at hv' hn
          have hv2 : Option.rec (motive := fun _ => Option V) none (fun l => some (.g l)) (loadN F M b o n) = some v := hv'
          cases hl : loadN F M b o n with
          | none => rw [hl] at hv2; cases hv2
          | some l =>
            rw [hl] at hv2
            obtain rfl : V.g l = v := Option.some.inj hv2
            have hL := h.loadN hl
            refine ⟨?_, hL.2.1⟩
            simp only [hn, conc, asAddr, loadVar, Sem.run_bind, Sem.run_pure, Result.andThen_ok, isAg_run h1, Sem.run_ite, if_true, run_sz h2, hL.1]
        | _ => rw [hg] at hv'; cases (show (none : Option V) = some v from hv')
      · rename_i n h1 h2
        obtain rfl := Option.some.inj hc
        have hv' : (onP (getT t (posOf ad)) none fun b o => load1 F M b o) = some v := hv
        cases hg : getT t (posOf ad) with
        | p b o =>
          rw [hg] at hv' hn
          have hL := h.load1 (show Ev.load1 F M b o = some v from hv')
          refine ⟨?_, hL.2⟩
          simp only [hn, conc, asAddr, loadVar, Sem.run_bind, Sem.run_pure, Result.andThen_ok, isAg_run h1, Sem.run_ite, Bool.false_eq_true, if_false, run_load, hL.1]
        | _ => rw [hg] at hv'; cases (show (none : Option V) = some v from hv')
      · cases hc
theorem resV_ok (h : Cx P E F M c w t a) : ∀ {xs : List ResultVar} {rs : List RV} {vs : List V}, compRs P xs = some rs → resV F M t rs = some vs →
    (xs.mapM (resS a.tmps)).run P w = .ok (concs E vs) w ∧ bds c vs
  | [], rs, vs, hc, hv => by
    obtain rfl := Option.some.inj hc
    obtain rfl : [] = vs := Option.some.inj hv
    exact ⟨rfl, trivial⟩
  | x :: xs, rs, vs, hc, hv => by
    rw [compRs] at hc
    split at hc
    · rename_i r rr h1 h2
      obtain rfl := Option.some.inj hc
      rw [resV_cons] at hv
      obtain ⟨v, hv1, hv2⟩ := Option.bind_eq_some_iff.1 hv
      obtain ⟨vs', hv3, rfl⟩ := Option.map_eq_some_iff.1 hv2
      have e1 := resV1_ok h h1 hv1
      have e2 := resV_ok h h2 hv3
      refine ⟨?_, e1.2, e2.2⟩
      simp only [List.mapM_cons, Sem.run_bind, e1.1, e2.1, Result.andThen_ok, Sem.run_pure, concs]
    · cases hc
theorem results_ok (h : Cx P E F M c w t a) {fn : Func} {rs : List RV} {vs : List V} (hc : compRs P fn.results.toList = some rs) (hv : resV F M t rs = some vs) :
    (results fn a.tmps).run P w = .ok (conc E (oneV vs)) w ∧ bd c (oneV vs) := by
  have e := resV_ok h hc hv
  have hm : (fn.results.mapM (resS a.tmps)).run P w = .ok (concs E vs).toArray w := by
    rw [← Array.toArray_toList (xs := fn.results), List.mapM_toArray]
    simp [e.1]
  show (bind (fn.results.mapM (resS a.tmps)) _).run P w = _ ∧ _
  rw [Sem.run_bind, hm]
  match vs, e.2 with
  | [], _ => exact ⟨rfl, trivial⟩
  | [v], hb => exact ⟨rfl, hb.1⟩
  | v :: v' :: l, hb =>
    refine ⟨?_, hb⟩
    show Result.ok _ w = _
    congr 1
end
end Go.Proofs.YtaigcmdogapjgaaGreatDoor.Ev
namespace Go.Proofs.YtaigcmdogapjgaaGreatDoor.Ev
open Go
section
variable {P : Program} {E E' : Env} {F : RO} {M M' : Mem} {c c' : Nat → Prop} {ct ct' nt : Nat} {w w' : World} {t t' : T} {d d' : List Nat} {a : Act} {rd : Option Nat}
theorem takeDefs_cons (b : Nat) (ds : List Nat) (M : Mem) : takeDefs (b :: ds) M = match M.get b with
    | some (.defs false) => takeDefs ds (M.set b (.defs true))
    | _ => none := by
  show Option.rec (motive := fun _ => Option Mem) none (fun blk => takeD1 (takeDefs ds) M b blk) (M.get b) = _
  cases M.get b with
  | none => rfl
  | some blk =>
    cases blk with
    | defs x =>
      cases x with
      | true => rfl
      | false => exact Tr.force_eq _ _
    | _ => rfl
theorem leaves_ok {fn : Func} {R : Ending → World → Prop} {t : T} {tmps : Array Value} {M₂ : Mem} : ∀ (ds : List Nat) (M : Mem) (w : World), takeDefs ds M = some M₂ → Rel P E F M c w →
    (∀ w', Stp P F E M c w E M₂ c w' → ∃ v, (results fn tmps).run P w' = .ok v w' ∧ R (.returned v) w') →
    LeavesInM Fence.wide 0 P fn tmps R (ds.map fun b => { target := .collected (E.ρ b), args := #[] }) .returning w
  | [], M, w, hm, h, hR => by
    obtain rfl : M = M₂ := Option.some.inj hm
    exact hR w (.refl h)
  | b :: ds, M, w, hm, h, hR => by
    rw [takeDefs_cons] at hm
    split at hm
    · rename_i hM
      obtain ⟨_, _, o, ho, hrel⟩ := h.has _ _ (look_some_M hM)
      have hrel' : o = .deferred (some []) := hrel
      subst hrel'
      have hS := h.write b _ (.defs true) hM (.deferred none) trivial (w.putObj (E.ρ b) (.deferred none)) rfl rfl rfl rfl rfl
      refine ⟨by simp, .inl ⟨E.ρ b, w.putObj (E.ρ b) (.deferred none), rfl, run_takeDeferred ho, ?_⟩⟩
      exact leaves_ok (t := t) ds _ _ hm hS.rel fun w' hS' => hR w' (hS.trans hS')
    · cases hm
theorem callC_some {ex : ExF} {f : Nat} {args : List V} {o : Option CF} {v : V} (h : callC ex F f args M ct o = .k v M' ct') : (∃ n res body e t1 d1 M1 vs, o = some (.mk n res body) ∧ ex none f F body (.mk (argTr n args) [] M ct) = .k e (.mk t1 d1 M1 ct') ∧ (e = .nrm ∨ e = .ret) ∧ takeDefs d1 M1 = some M' ∧ resV F M' t1 res = some vs ∧ v = oneV vs) ∨ ∃ g, o = some (.orc g) ∧ g F args M ct = .k v M' ct' := by
  cases o with
  | none => cases (show RC.f = .k v M' ct' from h)
  | some cf =>
    cases cf with
    | orc g => exact .inr ⟨g, rfl, h⟩
    | mk n res body =>
    left
    have h' : finish res F (ex none f F body (.mk (argTr n args) [] M ct)) = .k v M' ct' := h
    cases hx : ex none f F body (.mk (argTr n args) [] M ct) with
    | f => rw [hx] at h'; cases (show RC.f = .k v M' ct' from h')
    | k e s =>
      obtain ⟨t1, d1, M1, c1⟩ := s
      rw [hx] at h'
      have h2 : Bool.rec (motive := fun _ => RC) .f (finish1 res F t1 c1 (takeDefs d1 M1)) (isEnd e) = .k v M' ct' := h'
      rw [bb] at h2
      split at h2
      · rename_i he
        cases hm : takeDefs d1 M1 with
        | none => rw [hm] at h2; cases (show RC.f = .k v M' ct' from h2)
        | some M2 =>
          rw [hm] at h2
          have h3 : finish2 c1 M2 (resV F M2 t1 res) = .k v M' ct' := h2
          cases hr : resV F M2 t1 res with
          | none => rw [hr] at h3; cases (show RC.f = .k v M' ct' from h3)
          | some vs =>
            rw [hr] at h3
            have h4 : RC.k (oneV vs) M2 c1 = .k v M' ct' := h3
            injection h4 with e1 e2 e3
            subst e1 e2 e3
            refine ⟨n, res, body, e, t1, d1, M1, vs, rfl, hx, ?_, hm, hr, rfl⟩
            cases e with
            | nrm => exact .inl rfl
            | ret => exact .inr rfl
            | ext id => cases (show false = true from he)
            | gto l => cases (show false = true from he)
      · cases h2
theorem comp_some {fn : Func} {n : Nat} {res : List RV} {body : CC} (h : comp P fn = some (.mk n res body)) : (fn.name == "runtime.NumGoroutine") = false ∧ ∃ b, fn.body = some b ∧ Sim P fn.ntmps b body ∧ compRs P fn.results.toList = some res := by
  unfold comp at h
  split at h
  · cases h
  · rename_i hn
    refine ⟨by simpa using hn, ?_⟩
    split at h
    · cases h
    · rename_i b hb
      split at h
      · rename_i body' res' h1 h2
        injection h with h
        injection h with e0 e1 e2
        subst e0 e1 e2
        exact ⟨b, hb, ⟨_, h1⟩, h2⟩
      · cases h
theorem callOk_of {Φ : Nat → Option CF} {ex : ExF} (hΦ : PhiOk P Φ) (hex : ExOk P ex) (rd : Option Nat) (fn : Nat) (F₀ : RO) : CallOk P (.mk Φ ex rd fn F₀) := by
  intro F f args M ct v M' ct' h E c w hrel hglob hbig hfr hargs
  have h' : callC ex F f args M ct (Φ f) = .k v M' ct' := h
  rcases callC_some h' with ⟨n, res, body, e, t1, d1, M1, vs, ho, hx, he, hm, hr, rfl⟩ | ⟨g, ho, hg⟩
  case inr =>
    have hok : OrcOk P f g := hΦ f _ ho
    exact hok F args M ct v M' ct' hg E c w hrel hglob hbig hfr hargs
  obtain ⟨fn', hfn, hcomp⟩ : ∃ fn, P.funcs[f]? = some fn ∧ comp P fn = some (.mk n res body) := hΦ f _ ho
  obtain ⟨hnm, b, hb, hsim, hres⟩ := comp_some hcomp
  refine ⟨fn', hfn, by rw [hb]; rfl, hnm, ?_⟩
  refine (callsIn_wide (n := 0)).1 (callsIn_of_wp_marks hfn hb trivial ?_)
  have hSR : SR P F none fn'.ntmps E c w { tmps := (concs E args).toArray ++ Array.replicate (fn'.ntmps - (concs E args).toArray.size) Go.undef, defers := [] } (argTr n args) [] M ct :=
    ⟨⟨hrel, hglob, hbig, argTr_rel E args _ _, argTr_bd hargs⟩, hfr, rfl, fun b hb => by simp at hb, by simp; omega, fun l hl => by cases hl⟩
  refine hex none f F body _ [] M ct e t1 d1 M1 ct' hx fn'.ntmps b hsim E c w _ hSR _ ?_
  rintro a' w' ⟨E', c', hS, hG, hR⟩
  have key : LeavesInM Fence.wide 0 P fn' a'.tmps (fun e w' => ∃ E' c', e = .returned (conc E' (oneV vs)) ∧ Stp P F E M c w E' M' c' w' ∧ bd c' (oneV vs) ∧ Grow c ct c' ct') a'.defers .returning w' := by
    rw [hR.df]
    refine leaves_ok (t := t1) d1 M1 w' hm hR.cx.rel fun w2 hS2 => ?_
    have hcx : Cx P E' F M' c' w2 t1 a' := ⟨hS2.rel, hR.cx.glob, hR.cx.big, hR.cx.tr, hR.cx.bt⟩
    have hres' := results_ok hcx hres hr
    exact ⟨_, hres'.1, E', c', rfl, hS.trans hS2, hres'.2, hG⟩
  rcases he with rfl | rfl
  · exact key
  · exact key
end
end Go.Proofs.YtaigcmdogapjgaaGreatDoor.Ev
namespace Go.Proofs.YtaigcmdogapjgaaGreatDoor.Ev
open Go
section
variable {P : Program} {E E' : Env} {F : RO} {M M' : Mem} {c c' : Nat → Prop} {ct ct' nt : Nat} {w w' : World} {t t' : T} {d d' : List Nat} {a : Act} {rd : Option Nat}
theorem loopOf_some {o : Option Blk} {s : LS} {pe : Pend} {fn : Nat} {tm : T} {ps : List Pos} {asg body : CC} {dn : Nat} (h : loopOf o = .k s pe fn tm ps asg body dn) : o = some (.loop s pe fn tm ps asg body dn) := by
  unfold loopOf at h
  split at h
  · injection h with e1 e2 e3 e4 e5 e6 e7 e8
    subst e1 e2 e3 e4 e5 e6 e7 e8
    rfl
  · cases h
theorem setParams_ok {E : Env} : ∀ (ps : List Nat) (vs : List V) (t t' : T) (tmps : Array Value), setParams (ps.map posOf) vs t = some t' → TRel E t tmps → (∀ p ∈ ps, p < tmps.size) →
    ps.length = vs.length ∧ TRel E t' ((ps.zip (concs E vs)).foldl (fun tm (p : Nat × Value) => tm.setIfInBounds p.1 p.2) tmps)
  | [], [], t, t', tmps, h, ht, _ => by
    obtain rfl : t = t' := Option.some.inj h
    exact ⟨rfl, ht⟩
  | p :: ps, v :: vs, t, t', tmps, h, ht, hp => by
    have h' : setParams (ps.map posOf) vs (t.setP (posOf p) v) = some t' := by
      have : (t.setP (posOf p) v).force (fun t => setParams (ps.map posOf) vs t) = some t' := h
      rwa [Tr.force_eq] at this
    have h1 : TRel E (t.setP (posOf p) v) (tmps.setIfInBounds p (conc E v)) :=
      TRel_put (a := ⟨tmps, []⟩) (dst := some p) ht (fun k hk => by cases hk; exact hp p (by simp)) rfl
    have ih := setParams_ok ps vs _ t' _ h' h1 (fun q hq => by simpa using hp q (by simp [hq]))
    exact ⟨by simp [ih.1], by simpa [concs] using ih.2⟩
  | [], _ :: _, t, t', tmps, h, _, _ => by cases h
  | _ :: _, [], t, t', tmps, h, _, _ => by cases h
theorem setParams_bd : ∀ (ps : List Pos) (vs : List V) (t t' : T), setParams ps vs t = some t' → bds c vs → bdT c t → bdT c t'
  | [], [], t, t', h, _, ht => by obtain rfl : t = t' := Option.some.inj h; exact ht
  | p :: ps, v :: vs, t, t', h, hv, ht => by
    have h' : setParams ps vs (t.setP p v) = some t' := by
      have : (t.setP p v).force (fun t => setParams ps vs t) = some t' := h
      rwa [Tr.force_eq] at this
    exact setParams_bd ps vs _ t' h' hv.2 (bdT_put (dst := some p) ht hv.1)
  | [], _ :: _, t, t', h, _, _ => by cases h
  | _ :: _, [], t, t', h, _, _ => by cases h
theorem foldl_size (ps : List (Nat × Value)) : ∀ tmps : Array Value, (ps.foldl (fun tm (p : Nat × Value) => tm.setIfInBounds p.1 p.2) tmps).size = tmps.size := by
  induction ps with
  | nil => intro tmps; rfl
  | cons p ps ih => intro tmps; rw [List.foldl_cons, ih]; simp
end
end Go.Proofs.YtaigcmdogapjgaaGreatDoor.Ev
namespace Go.Proofs.YtaigcmdogapjgaaGreatDoor.Ev
open Go
section
variable {P : Program} {E E' : Env} {F : RO} {M M' : Mem} {c c' : Nat → Prop} {ct ct' nt : Nat} {w w' : World} {t t' : T} {d d' : List Nat} {a : Act} {rd : Option Nat}
theorem callY_some {Φ : Nat → Option CF} {ex : ExF} {rd₀ : Option Nat} {fn₀ : Nat} {l : Nat} {args : List V} {o : Option Blk} {v : V} (h : callY (.mk Φ ex rd₀ fn₀ F) l args M ct (loopOf o) = .k v M' ct') :
    ∃ pe fn tm ps asg body dn tp t1 M1 ct1 pe1 fn1 tm1 ps1 a1 b1 dn1 e t2 M3 s3 pe3 fn3 tm3 ps3 a3 b3 dn3 s4 pe4 r, o = some (.loop .ready pe fn tm ps asg body dn) ∧ setParams ps args tm = some tp ∧
      ex (some l) fn F asg (.mk tp [] M ct) = .k .nrm (.mk t1 [] M1 ct1) ∧ M1.get l = some (.loop .ready pe1 fn1 tm1 ps1 a1 b1 dn1) ∧
      ex (some l) fn F body (.mk t1 [] (M1.set l (.loop .busy pe1 fn1 tm1 ps1 a1 b1 dn1)) ct1) = .k e (.mk t2 [] M3 ct') ∧ M3.get l = some (.loop s3 pe3 fn3 tm3 ps3 a3 b3 dn3) ∧
      ((e = .nrm ∧ s4 = .ready ∧ pe4 = .none ∧ r = true) ∨ (e = .ret ∧ s4 = .done ∧ pe4 = .ret ∧ r = false) ∨ (∃ id, e = .ext id ∧ s4 = .done ∧ pe4 = .ext id ∧ r = false)) ∧
      v = .b r ∧ M' = M3.set l (.loop s4 pe4 fn3 tm3 ps3 a3 b3 dn3) := by
  cases hl : loopOf o with
  | f => rw [hl] at h; cases h
  | k s pe fn tm ps asg body dn =>
    rw [hl] at h
    cases s with
    | ready =>
      have ho := loopOf_some hl
      cases hp : setParams ps args tm with
      | none =>
        have h1 : y_go (.mk Φ ex rd₀ fn₀ F) l fn asg body M ct (setParams ps args tm) = .k v M' ct' := h
        rw [hp] at h1; cases h1
      | some tp =>
        have h1 : y_go (.mk Φ ex rd₀ fn₀ F) l fn asg body M ct (setParams ps args tm) = .k v M' ct' := h
        rw [hp] at h1
        have h2 : y_asg (.mk Φ ex rd₀ fn₀ F) l fn body (ex (some l) fn F asg (.mk tp [] M ct)) = .k v M' ct' := h1
        unfold y_asg at h2
        split at h2
        · rename_i t1 M1 ct1 hx1
          unfold y_body at h2
          split at h2
          · rename_i pe1 fn1 tm1 ps1 a1 b1 dn1 hl1
            rw [Tr.force_eq] at h2
            have h3 : y_done l (ex (some l) fn F body (.mk t1 [] (M1.set l (.loop .busy pe1 fn1 tm1 ps1 a1 b1 dn1)) ct1)) = .k v M' ct' := h2
            unfold y_done at h3
            split at h3
            · cases h3
            · rename_i e t2 d2 M3 ct2 hx2
              split at h3
              · have key : ∀ (s4 : LS) (pe4 : Pend) (r : Bool), y_end M3 l ct2 s4 pe4 r (loopOf (M3.get l)) = .k v M' ct' → ∃ s3 pe3 fn3 tm3 ps3 a3 b3 dn3, M3.get l = some (.loop s3 pe3 fn3 tm3 ps3 a3 b3 dn3) ∧ v = .b r ∧ M' = M3.set l (.loop s4 pe4 fn3 tm3 ps3 a3 b3 dn3) ∧ ct' = ct2 := by
                  intro s4 pe4 r hy
                  unfold y_end at hy
                  split at hy
                  · rename_i s3 pe3 fn3 tm3 ps3 a3 b3 dn3 hl3
                    rw [setM_eq] at hy
                    injection hy with g1 g2 g3
                    exact ⟨_, _, _, _, _, _, _, _, loopOf_some hl3, g1.symm, g2.symm, g3.symm⟩
                  · cases hy
                split at h3
                · obtain ⟨s3, pe3, fn3, tm3, ps3, a3, b3, dn3, hM3, hv, hM', hct⟩ := key _ _ _ h3
                  subst hct
                  exact ⟨pe, fn, tm, ps, asg, body, dn, tp, t1, M1, ct1, pe1, fn1, tm1, ps1, a1, b1, dn1, _, t2, M3, s3, pe3, fn3, tm3, ps3, a3, b3, dn3, .ready, .none, true, ho, hp, hx1, loopOf_some hl1, hx2, hM3, .inl ⟨rfl, rfl, rfl, rfl⟩, hv, hM'⟩
                · obtain ⟨s3, pe3, fn3, tm3, ps3, a3, b3, dn3, hM3, hv, hM', hct⟩ := key _ _ _ h3
                  subst hct
                  exact ⟨pe, fn, tm, ps, asg, body, dn, tp, t1, M1, ct1, pe1, fn1, tm1, ps1, a1, b1, dn1, _, t2, M3, s3, pe3, fn3, tm3, ps3, a3, b3, dn3, .done, .ret, false, ho, hp, hx1, loopOf_some hl1, hx2, hM3, .inr (.inl ⟨rfl, rfl, rfl, rfl⟩), hv, hM'⟩
                · rename_i id
                  obtain ⟨s3, pe3, fn3, tm3, ps3, a3, b3, dn3, hM3, hv, hM', hct⟩ := key _ _ _ h3
                  subst hct
                  exact ⟨pe, fn, tm, ps, asg, body, dn, tp, t1, M1, ct1, pe1, fn1, tm1, ps1, a1, b1, dn1, _, t2, M3, s3, pe3, fn3, tm3, ps3, a3, b3, dn3, .done, .ext id, false, ho, hp, hx1, loopOf_some hl1, hx2, hM3, .inr (.inr ⟨id, rfl, rfl, rfl, rfl⟩), hv, hM'⟩
                · cases h3
              · cases h3
          · cases h2
        · cases h2
    | _ => cases h
end
end Go.Proofs.YtaigcmdogapjgaaGreatDoor.Ev
namespace Go.Proofs.YtaigcmdogapjgaaGreatDoor.Ev
open Go
section
variable {P : Program} {E E' : Env} {F : RO} {M M' : Mem} {c c' : Nat → Prop} {ct ct' nt : Nat} {w w' : World} {t t' : T} {d d' : List Nat} {a : Act} {rd : Option Nat}
theorem yieldOk_of {Φ : Nat → Option CF} {ex : ExF} (hex : ExOk P ex) (rd₀ : Option Nat) (fn₀ : Nat) (F₀ : RO) : YieldOk P (.mk Φ ex rd₀ fn₀ F₀) := by
  intro F l args M ct v M' ct' h E c w rd hrel hglob hbig hfr hargs
  obtain ⟨pe, fn, tm, ps, asg, body, dn, tp, t1, M1, ct1, pe1, fn1, tm1, ps1, a1, b1, dn1, e, t2, M3, s3, pe3, fn3, tm3, ps3, a3, b3, dn3, s4, pe4, r, ho, hp, hx1, hM1, hx2, hM3, hcase, rfl, rfl⟩ := callY_some (rd₀ := rd₀) (fn₀ := fn₀) h
  obtain ⟨hcl, hbd, ob, hob, fn', tmps, params, ca, cb, rfl, htr, hps, nt, hnt, hpar, hsa, hsb⟩ := hrel.has _ _ (look_some_M ho)
  subst hps
  obtain ⟨hlen, htr'⟩ := setParams_ok params.toList args tm tp tmps hp htr (fun p hp' => Nat.lt_of_lt_of_le (hpar p hp') hnt)
  have hy := run_yield (P := P) (args := (concs E args).toArray) hob (by simp [concs_map]; rw [← hlen]; simp)
  have hfold : (params.zip (concs E args).toArray).foldl (fun tmps (t, a) => tmps.setIfInBounds t a) tmps = (params.toList.zip (concs E args)).foldl (fun tm (p : Nat × Value) => tm.setIfInBounds p.1 p.2) tmps := by
    rw [← Array.foldl_toList]
    simp
  simp only [hfold] at hy
  refine ⟨fn', _, ca, cb, hy, roundIn_of_wpIn trivial ?_⟩
  have hSR : SR P F (some l) nt E c w { tmps := (params.toList.zip (concs E args)).foldl (fun tm (p : Nat × Value) => tm.setIfInBounds p.1 p.2) tmps, defers := [] } tp [] M ct :=
    ⟨⟨hrel, hglob, hbig, htr', setParams_bd _ _ _ _ hp hargs hbd.1⟩, hfr, rfl, fun b hb => by simp at hb, by rw [foldl_size]; exact hnt, fun l' hl' => by cases hl'; exact hcl⟩
  refine hex (some l) fn F asg tp [] M ct .nrm t1 [] M1 ct1 hx1 nt ca hsa E c w _ hSR _ ?_
  rintro a1' w1 ⟨E1, c1, hS1, hG1, hR1⟩
  obtain ⟨hcl1, hbd1, ob1, hob1, fn1', tmps1, params1, ca1, cb1, rfl, htr1, hps1, hnt1⟩ := hR1.cx.rel.has _ _ (look_some_M hM1)
  have hρ1 : E1.ρ l = E.ρ l := hS1.ext.ρ l hcl
  have hbr := run_beginRound (P := P) (l := E.ρ l) (by rw [← hρ1]; exact hob1) rfl
  refine ⟨_, hbr, ?_⟩
  have hS2 := hR1.cx.rel.write l _ (.loop .busy pe1 fn1 tm1 ps1 a1 b1 dn1) hM1 (.loop { state := .busy, pending := peOf pe1, fn := fn1', tmps := tmps1, params := params1, assign := ca1, body := cb1, defers := E1.ρ dn1 }) hbd1
    (w1.putObj (E.ρ l) (.loop { state := .busy, pending := peOf pe1, fn := fn1', tmps := tmps1, params := params1, assign := ca1, body := cb1, defers := E1.ρ dn1 })) (by rw [hρ1]; rfl) rfl rfl rfl
    ⟨fn1', tmps1, params1, ca1, cb1, rfl, htr1, hps1, hnt1⟩
  have hSR2 := hR1.stp hS2 (.refl _ _)
  have hfe : fence E1 (some l) = (fence E rd).inRound (E.ρ l) := by unfold fence Fence.inRound; simp [hρ1]
  rw [← hfe]
  refine hex (some l) fn F body t1 [] _ ct1 e t2 [] M3 ct' hx2 nt cb hsb E1 c1 _ _ hSR2 _ ?_
  rintro a2 w3 ⟨E3, c3, hS3, hG3, hR3⟩
  obtain ⟨hcl3, hbd3, ob3, hob3, fn3', tmps3, params3, ca3, cb3, rfl, htr3, hps3, hnt3⟩ := hR3.cx.rel.has _ _ (look_some_M hM3)
  have hρ3 : E3.ρ l = E.ρ l := (hS3.ext.ρ l hcl1).trans hρ1
  have fin : ∀ (jump : Option Code), lsOf s4 = (if jump.isNone then .ready else .done) → peOf pe4 = jump → r = jump.isNone →
      ∃ v' w', (Instr.endRound (E.ρ l) jump).run P w3 = .ok v' w' ∧ ∃ E' c', Ending.returned v' = .returned (conc E' (.b r)) ∧ Stp P F E M c w E' (M3.set l (.loop s4 pe4 fn3 tm3 ps3 a3 b3 dn3)) c' w' ∧ bd c' (.b r) ∧ Grow c ct c' ct' := by
    intro jump h1 h2 h3
    have her := run_endRound (P := P) (l := E.ρ l) jump (by rw [← hρ3]; exact hob3)
    refine ⟨_, _, her, E3, c3, by rw [h3]; rfl, ?_, trivial, hG1.trans hG3⟩
    refine ((hS1.trans hS2).trans hS3).trans (hR3.cx.rel.write l _ (.loop s4 pe4 fn3 tm3 ps3 a3 b3 dn3) hM3 (.loop { state := if jump.isNone then .ready else .done, pending := jump, fn := fn3', tmps := tmps3, params := params3, assign := ca3, body := cb3, defers := E3.ρ dn3 }) hbd3 _ (by rw [hρ3]; rfl) rfl rfl rfl ?_)
    exact ⟨fn3', tmps3, params3, ca3, cb3, by rw [h1, h2], htr3, hps3, hnt3⟩
  rcases hcase with ⟨rfl, rfl, rfl, rfl⟩ | ⟨rfl, rfl, rfl, rfl⟩ | ⟨id, rfl, rfl, rfl, rfl⟩
  · exact fin none rfl rfl rfl
  · exact fin (some .ret) rfl rfl rfl
  · exact fin (some (.exit id)) rfl rfl rfl
end
end Go.Proofs.YtaigcmdogapjgaaGreatDoor.Ev
namespace Go.Proofs.YtaigcmdogapjgaaGreatDoor.Ev
open Go
section
variable {Fn : Fence} {n : Nat} {P : Program} {b : Frame} {a : Act} {k : List Item} {cs : List Frame} {w : World} {Q : Exit → Act → World → Prop}
theorem stepR_scope {c : Code} : step P (lone (b.atR a (.code (.scope c) :: k)) cs w) = .next (lone (b.atR a (.code c :: .inScope c :: k)) cs w) :=
  step_lone_go (by simp [stepG, stepG.exec, Frame.atR])
theorem stepR_inScope {c : Code} : step P (lone (b.atR a (.inScope c :: k)) cs w) = .next (lone (b.atR a k) cs w) :=
  step_lone_go (by simp [stepG, stepG.exec, Frame.atR])
def inScopePost (body : Code) (J : Code → Act → World → Prop) (Q : Exit → Act → World → Prop) : Exit → Act → World → Prop
  | .goto l, a, w => match findLabel body l with
    | some rest => J rest a w
    | none => Q (.goto l) a w
  | e, a, w => Q e a w
def ScopeIn (Fn : Fence) (n : Nat) (P : Program) (body : Code) (Q : Exit → Act → World → Prop) : Nat → Code → Act → World → Prop
  | 0, _, _, _ => False
  | m + 1, c, a, w => c.wpIn Fn n P (inScopePost body (ScopeIn Fn n P body Q m) Q) a w
theorem wpIn_scope {body : Code} (m : Nat) (h : ScopeIn Fn n P body Q m body a w) : (Code.scope body).wpIn Fn n P Q a w := by
  intro b k cs hro hb hr
  have hx : ∀ id, exitTo id (.inScope body :: k) = exitTo id k := fun id => by simp [exitTo]
  have key : ∀ m c a w, ScopeIn Fn n P body Q m c a w →
      ∃ e a' w', Q e a' w' ∧ ArrivesIn (Machine.fenced P Fn) P (lone (b.atR a (.code c :: .inScope body :: k)) cs w) b k cs e a' w' := by
    intro m
    induction m with
    | zero => intro c a w h; exact h.elim
    | succ m ih =>
      intro c a w h
      obtain ⟨e, a₁, w₁, hq, harr⟩ := h b (.inScope body :: k) cs hro hb hr
      cases e with
      | normal => exact ⟨.normal, a₁, w₁, hq, StepsIn.trans harr (.one (fenced_calm hb hr rfl) stepR_inScope)⟩
      | exit id =>
        exact ⟨.exit id, a₁, w₁, hq, fun k' hk => harr.1 k' (by rw [hx]; exact hk),
          fun hr' hk => harr.2 hr' (by rw [hx]; exact hk)⟩
      | goto l =>
        cases hf : findLabel body l with
        | none =>
          have hq' : Q (.goto l) a₁ w₁ := by
            have : inScopePost body (ScopeIn Fn n P body Q m) Q (.goto l) a₁ w₁ := hq
            unfold inScopePost at this
            dsimp only at this
            rw [hf] at this; exact this
          have hg : gotoIn l (.inScope body :: k) = gotoIn l k := by simp [gotoIn, hf]
          exact ⟨.goto l, a₁, w₁, hq', fun k' hk => harr.1 k' (by rw [hg]; exact hk), fun hr' hk => harr.2 hr' (by rw [hg]; exact hk)⟩
        | some rest =>
          have hq' : ScopeIn Fn n P body Q m rest a₁ w₁ := by
            have : inScopePost body (ScopeIn Fn n P body Q m) Q (.goto l) a₁ w₁ := hq
            unfold inScopePost at this
            dsimp only at this
            rw [hf] at this; exact this
          obtain ⟨e₂, a₂, w₂, hq₂, harr₂⟩ := ih rest a₁ w₁ hq'
          have hg : gotoIn l (.inScope body :: k) = some (.code rest :: .inScope body :: k) := by simp [gotoIn, hf]
          exact ⟨e₂, a₂, w₂, hq₂, .of_steps (harr.1 _ hg) harr₂⟩
      | ret => exact ⟨_, a₁, w₁, hq, harr⟩
      | panic ch => exact ⟨_, a₁, w₁, hq, harr⟩
      | outgrown => exact ⟨_, a₁, w₁, hq, harr⟩
  obtain ⟨e, a', w', hq, harr⟩ := key m body a w h
  exact ⟨e, a', w', hq, .of_steps (.one (fenced_calm hb hr rfl) stepR_scope) harr⟩
end
end Go.Proofs.YtaigcmdogapjgaaGreatDoor.Ev
namespace Go.Proofs.YtaigcmdogapjgaaGreatDoor.Ev
open Go
section
variable {P : Program} {E E' : Env} {F : RO} {M M' : Mem} {c c' : Nat → Prop} {ct ct' nt : Nat} {w w' : World} {t t' : T} {d d' : List Nat} {a : Act} {rd : Option Nat}
def DrOk (P : Program) (k : Kn) : Prop := ∀ (F : RO) (rd : Option Nat) (nt id : Nat) (ops : Array Oper) (cos : List CO), compOs P nt ops ops.toList = some cos → ∀ (n : Nat) (l : List (Nat × Nat × CO)), dregC ops cos = .dreg n l →
  ∀ (t : T) (d : List Nat) (M : Mem) (ct : Nat) (e : Ex) (t' : T) (d' : List Nat) (M' : Mem) (ct' : Nat), c_dreg n l (knF k F) (.mk t d M ct) = .k e (.mk t' d' M' ct') →
  ∀ (E : Env) (c : Nat → Prop) (w : World) (a : Act), SR P F rd nt E c w a t d M ct → ∀ Q : Exit → Act → World → Prop, (∀ a' w', Res P F rd nt E c w M ct t' d' M' ct' a' w' → Q (exOf e) a' w') → (Code.region id ops true).wpIn (fence E rd) 0 P Q a w
theorem peOf_code {pe : Pend} {n : Nat} {Fn : Fence} {Q : Exit → Act → World → Prop} {e : Ex} {s : St} {s' : St} (h : rfPend s pe = .k e s') (hq : Q (exOf e) a w) :
    (match peOf pe with
     | none => Q .normal a w
     | some c => c.wpIn Fn n P Q a w) := by
  cases pe with
  | none =>
    have h' : Rs.k .nrm s = .k e s' := h
    injection h' with h1 h2
    subst h1
    exact hq
  | ret =>
    have h' : Rs.k .ret s = .k e s' := h
    injection h' with h1 h2
    subst h1
    exact wpIn_ret hq
  | ext id =>
    have h' : Rs.k (.ext id) s = .k e s' := h
    injection h' with h1 h2
    subst h1
    exact wpIn_exit hq
theorem rfPend_st {pe : Pend} {e : Ex} {s s' : St} (h : rfPend s pe = .k e s') : s' = s := by
  cases pe with
  | none => have h' : Rs.k .nrm s = .k e s' := h; injection h' with h1 h2; exact h2.symm
  | ret => have h' : Rs.k .ret s = .k e s' := h; injection h' with h1 h2; exact h2.symm
  | ext id => have h' : Rs.k (.ext id) s = .k e s' := h; injection h' with h1 h2; exact h2.symm
theorem rfDone_some {l : Nat} {r : RC} {e : Ex} {s' : St} (h : rfDone t d l r = .k e s') : ∃ v M1 c1 s pe fn tm ps a b dn, r = .k v M1 c1 ∧ M1.get l = some (.loop s pe fn tm ps a b dn) ∧ s ≠ .busy ∧
    rfPend (.mk t d (M1.set l (.loop .exhausted pe fn tm ps a b dn)) c1) pe = .k e s' := by
  cases r with
  | f => cases (show Rs.f = .k e s' from h)
  | k v M1 c1 =>
    have h1 : rfEnd t d M1 c1 l (loopOf (M1.get l)) = .k e s' := h
    cases hl : loopOf (M1.get l) with
    | f => rw [hl] at h1; cases (show Rs.f = .k e s' from h1)
    | k s pe fn tm ps a b dn =>
      rw [hl] at h1
      refine ⟨v, M1, c1, s, pe, fn, tm, ps, a, b, dn, rfl, loopOf_some hl, ?_, ?_⟩
      · rintro rfl; cases (show Rs.f = .k e s' from h1)
      · unfold rfEnd at h1
        split at h1
        · cases h1
        · rename_i heq
          injection heq with e1 e2 e3 e4 e5 e6 e7 e8
          subst e1 e2 e3 e4 e5 e6 e7 e8
          split at h1
          · cases h1
          · rw [Tr.force_eq] at h1; exact h1
theorem callI_some {k : Kn} {v : V} {args : List V} {x : V} (h : callI k v args M ct = .k x M' ct') : ∃ f first caps, v = .f f first caps ∧ callF k f (first ++ (args ++ caps)) M ct = .k x M' ct' := by
  cases v with
  | f f first caps => exact ⟨f, first, caps, rfl, h⟩
  | _ => cases (show RC.f = .k x M' ct' from h)
theorem rfGo_ok {Φ : Nat → Option CF} {ex : ExF} (hΦ : PhiOk P Φ) (hex : ExOk P ex) {fn₀ : Nat} {g : Operand} {ps : Array Tmp} {ca cb : Code} {x : X} {asg body : CC} (hx : compX g = some x)
    (hsa : Sim P nt ca asg) (hsb : Sim P nt cb body) (hps : ∀ p ∈ ps.toList, p < nt) {dn : Nat} {e : Ex} {s' : St}
    (h : rfGo x (ps.toList.map posOf) asg body (.mk Φ ex rd fn₀ F) t d M ct dn = .k e s') (hdn : c dn)
    (hSR : SR P F rd nt E c w a t d M ct) {Q : Exit → Act → World → Prop} {fn : Nat} {mark : List Deferred} {w₁ : World}
    {w₀ : World} {a₀ : Act} (he : (Instr.enterLoop fn a₀.tmps ps ca cb (rd.map E.ρ)).run P w₀ = .ok (w.heap.size, mark) w₁)
    (hw₁ : w₁ = w.alloc (.loop { state := .ready, pending := none, fn, tmps := a₀.tmps, params := ps, assign := ca, body := cb, defers := E.ρ dn }))
    (ha : a = { a₀ with defers := mark ++ a₀.defers })
    (hQ : ∀ t' d' M' ct', s' = .mk t' d' M' ct' → ∀ a' w', Res P F rd nt E c w M ct t' d' M' ct' a' w' → Q (exOf e) a' w') :
    ∃ (l : Nat) (mark : List Deferred) (w₁ : World) (d : Deferred) (w₁' : World) (f : FuncId) (args : Array Value) (w₂ : World),
      (Instr.enterLoop fn a₀.tmps ps ca cb (fence E rd).round).run P w₀ = .ok (l, mark) w₁ ∧
      (resolve a₀.eval (rangeCall g l) 0).run P w₁ = .ok d w₁' ∧
      (∀ f', Target.leads P w₁' d.target d.args = some f' → (fence E rd).fn f') ∧
      (invoke d.target d.args).run P w₁' = .ok (.enter f args) w₂ ∧
      ((fence E rd).depth.isSome = true → 1 ≤ 0) ∧
      CallsIn (fence E rd) (0 - 1) P f args w₂ (rangePost (fence E rd) 0 P l Q { a₀ with defers := mark ++ a₀.defers }) := by
  have h1 : rfDone t d ct (callI (.mk Φ ex rd fn₀ F) (x.ev t) [.y ct] (M.set ct (.loop .ready .none fn₀ t (ps.toList.map posOf) asg body dn)) (ct + 1)) = .k e s' := by
    unfold rfGo at h
    dsimp only at h
    rw [Tr.force_eq, fN_eq] at h
    exact h
  obtain ⟨v, M1, c1, s, pe, fn1, tm1, ps1, a1, b1, dn1, hr, hM1, hbusy, hpend⟩ := rfDone_some h1
  obtain ⟨f, first, caps, hv, hcf⟩ := callI_some hr
  have htm : a₀.tmps = a.tmps := by rw [ha]
  obtain ⟨E1, hS1, hE1, hρ1, hβ1, _⟩ := hSR.cx.rel.alloc (.loop .ready .none fn₀ t (ps.toList.map posOf) asg body dn) (.loop { state := .ready, pending := none, fn, tmps := a₀.tmps, params := ps, assign := ca, body := cb, defers := E.ρ dn }) ct 0 (fun b => c b ∨ b = ct) (hSR.fr ct (Nat.le_refl _)) (.inr rfl) (fun _ h => .inl h)
    ⟨fun p => bd_mono (fun _ h => .inl h) _ (hSR.cx.bt p), .inl hdn⟩ w₁ (by rw [hw₁]; rfl) (by rw [hw₁]; rfl) (by rw [hw₁]; rfl) (by rw [hw₁]; rfl)
    (fun E2 hE2 _ _ _ => ⟨fn, a₀.tmps, ps, ca, cb, by rw [hE2.ρ dn hdn]; rfl, by rw [htm]; exact hSR.cx.tr.ext hE2 hSR.cx.bt, rfl, nt, by rw [htm]; exact hSR.sz, hps, hsa, hsb⟩)
  have hG1 : Grow c ct (fun b => c b ∨ b = ct) (ct + 1) := grow_one c ct
  have hSR1 := hSR.stp hS1 hG1
  have ev := hSR1.cx.ev hx
  rw [hv] at ev
  have hcall := callOk_of hΦ hex rd fn₀ F
  have hcf' : callF (knF (.mk Φ ex rd fn₀ F) F) f (first ++ ([.y ct] ++ caps)) (M.set ct (.loop .ready .none fn₀ t (ps.toList.map posOf) asg body dn)) (ct + 1) = .k v M1 c1 := hcf
  obtain ⟨fn', hfn, hbo, hnm, hC⟩ := hcall F f _ _ _ _ _ _ hcf' E1 _ w₁ hSR1.cx.rel hSR1.cx.glob hSR1.cx.big hSR1.fr (bds_append ev.2.1 (bds_append (⟨.inr rfl, trivial⟩) ev.2.2))
  have hcfn : (callFunc f (concs E1 (first ++ ([.y ct] ++ caps))).toArray).run P w₁ = .ok (.enter f (concs E1 (first ++ ([.y ct] ++ caps))).toArray) w₁ := by
    have h1 : ¬ fn'.name = "runtime.NumGoroutine" := by simpa using hnm
    have h2 : ¬ fn'.body = none := fun e => by rw [e] at hbo; cases hbo
    simp [callFunc, hfn, h1, h2]
  have hge : a₀.eval g = .func (.func f) (concs E1 first).toArray (concs E1 caps).toArray := by
    have : a.eval g = a₀.eval g := by rw [ha]; rfl
    rw [← this, ev.1]; rfl
  refine ⟨w.heap.size, mark, w₁, ⟨.fn (.func f) (concs E1 caps).toArray, (concs E1 first).toArray ++ #[.func (.yield w.heap.size) #[] #[]]⟩, w₁, f, (concs E1 (first ++ ([.y ct] ++ caps))).toArray, w₁, he, ?_, fun _ _ => trivial, ?_, fun hd => by simp [fence] at hd, ?_⟩
  · have hm : (rangeCall g w.heap.size).args.map a₀.eval = #[.func (.yield w.heap.size) #[] #[]] := by simp [Act.eval]
    show (Deferred.ofValue (a₀.eval g) ((rangeCall g w.heap.size).args.map a₀.eval)).run P w₁ = _
    rw [hm, hge]; rfl
  · have : (concs E1 first).toArray ++ #[.func (.yield w.heap.size) #[] #[]] ++ (concs E1 caps).toArray = (concs E1 (first ++ ([.y ct] ++ caps))).toArray := by
      rw [concs_append, concs_append]
      simp [concs, conc, hρ1]
    simp only [invoke, this]
    exact hcfn
  · rw [← fence_ext hS1.ext hSR.rd]
    refine callsIn_any (hC.mono ?_)
    rintro e2 w2 ⟨E2, c2, rfl, hS2, hb2, hG2⟩
    obtain ⟨hcl, hbd, ob, hob, fn3, tmps3, params3, ca3, cb3, rfl, htr3, hps3, hnt3⟩ := hS2.rel.has _ _ (look_some_M hM1)
    have hρ2 : E2.ρ ct = w.heap.size := (hS2.ext.ρ ct (.inr rfl)).trans hρ1
    have hen := run_endLoop (P := P) (l := w.heap.size) (by rw [← hρ2]; exact hob) (by cases s <;> first | exact absurd rfl hbusy | (intro h; cases h))
    refine ⟨_, _, hen, ?_⟩
    have hS3 := hS2.rel.write ct _ (.loop .exhausted pe fn1 tm1 ps1 a1 b1 dn1) hM1 (.loop { state := .exhausted, pending := peOf pe, fn := fn3, tmps := tmps3, params := params3, assign := ca3, body := cb3, defers := E2.ρ dn1 }) hbd
      (w2.putObj w.heap.size (.loop { state := .exhausted, pending := peOf pe, fn := fn3, tmps := tmps3, params := params3, assign := ca3, body := cb3, defers := E2.ρ dn1 })) (by rw [hρ2]; rfl) rfl rfl rfl
      ⟨fn3, tmps3, params3, ca3, cb3, rfl, htr3, hps3, hnt3⟩
    have hst := rfPend_st hpend
    refine peOf_code hpend ?_
    have hR := (hSR1.stp hS2 hG2).stp hS3 (.refl _ _)
    rw [← ha]
    refine hQ _ _ _ _ hst a _ ⟨E2, c2, (hS1.trans hS2).trans hS3, hG1.trans hG2, hR⟩
end
end Go.Proofs.YtaigcmdogapjgaaGreatDoor.Ev
namespace Go.Proofs.YtaigcmdogapjgaaGreatDoor.Ev
open Go
section
variable {P : Program} {E E' : Env} {F : RO} {M M' : Mem} {c c' : Nat → Prop} {ct ct' nt : Nat} {w w' : World} {t t' : T} {d d' : List Nat} {a : Act} {rd : Option Nat}
theorem r_seq_some {f : Kn → St → Rs} {k : Kn} {r : Rs} {e : Ex} {s' : St} (h : r_seq f k r = .k e s') : (∃ s1, r = .k .nrm s1 ∧ f k s1 = .k e s') ∨ (e ≠ .nrm ∧ r = .k e s') := by
  cases r with
  | f => cases (show Rs.f = .k e s' from h)
  | k e1 s1 =>
    cases e1 with
    | nrm => exact .inl ⟨s1, rfl, h⟩
    | ret => have h' : Rs.k .ret s1 = .k e s' := h; injection h' with h1 h2; subst h1 h2; exact .inr ⟨(fun h => by cases h), rfl⟩
    | ext id => have h' : Rs.k (.ext id) s1 = .k e s' := h; injection h' with h1 h2; subst h1 h2; exact .inr ⟨(fun h => by cases h), rfl⟩
    | gto l => have h' : Rs.k (.gto l) s1 = .k e s' := h; injection h' with h1 h2; subst h1 h2; exact .inr ⟨(fun h => by cases h), rfl⟩
theorem r_loop_some {b : CC} {k : Kn} {r : Rs} {e : Ex} {s' : St} (h : r_loop b k r = .k e s') : (∃ s1, r = .k .nrm s1 ∧ again k (.loop b) s1 = .k e s') ∨ (e ≠ .nrm ∧ r = .k e s') := by
  cases r with
  | f => cases (show Rs.f = .k e s' from h)
  | k e1 s1 =>
    cases e1 with
    | nrm => exact .inl ⟨s1, rfl, h⟩
    | ret => have h' : Rs.k .ret s1 = .k e s' := h; injection h' with h1 h2; subst h1 h2; exact .inr ⟨(fun h => by cases h), rfl⟩
    | ext id => have h' : Rs.k (.ext id) s1 = .k e s' := h; injection h' with h1 h2; subst h1 h2; exact .inr ⟨(fun h => by cases h), rfl⟩
    | gto l => have h' : Rs.k (.gto l) s1 = .k e s' := h; injection h' with h1 h2; subst h1 h2; exact .inr ⟨(fun h => by cases h), rfl⟩
theorem then_of_ne {K : Act → World → Prop} {Q : Exit → Act → World → Prop} {e : Ex} (he : e ≠ .nrm) (h : Q (exOf e) a w) : Exit.then K Q (exOf e) a w := by
  cases e with
  | nrm => exact absurd rfl he
  | _ => exact h
theorem r_block_some {id : Nat} {r : Rs} {e : Ex} {s' : St} (h : r_block id r = .k e s') : ∃ e1, r = .k e1 s' ∧ ∀ (Q : Exit → Act → World → Prop) (a : Act) (w : World), Q (exOf e) a w → Exit.inBlock id Q (exOf e1) a w := by
  cases r with
  | f => cases (show Rs.f = .k e s' from h)
  | k e1 s1 =>
    cases e1 with
    | nrm => have h' : Rs.k .nrm s1 = .k e s' := h; injection h' with h1 h2; subst h1 h2; exact ⟨_, rfl, fun _ _ _ h => h⟩
    | ret => have h' : Rs.k .ret s1 = .k e s' := h; injection h' with h1 h2; subst h1 h2; exact ⟨_, rfl, fun _ _ _ h => h⟩
    | gto l => have h' : Rs.k (.gto l) s1 = .k e s' := h; injection h' with h1 h2; subst h1 h2; exact ⟨_, rfl, fun _ _ _ h => h⟩
    | ext id' =>
      have h' : Bool.rec (motive := fun _ => Rs) (.k (.ext id') s1) (.k .nrm s1) (Nat.beq id' id) = .k e s' := h
      rw [bb, beqN] at h'
      split at h'
      · rename_i hid
        injection h' with h1 h2; subst h1 h2
        exact ⟨_, rfl, fun Q a w h => by simp only [exOf, Exit.inBlock]; rw [if_pos (of_decide_eq_true hid)]; exact h⟩
      · rename_i hid
        injection h' with h1 h2; subst h1 h2
        exact ⟨_, rfl, fun Q a w h => by simp only [exOf, Exit.inBlock]; rw [if_neg (by simpa using hid)]; exact h⟩
def ScOk (P : Program) (ex : ExF) (m : Nat) : Prop := ∀ (rd : Option Nat) (fn : Nat) (F : RO) (cc tbl : CC) (t : T) (d : List Nat) (M : Mem) (ct : Nat) (e : Ex) (t' : T) (d' : List Nat) (M' : Mem) (ct' : Nat),
  ex rd fn F (.scope cc tbl) (.mk t d M ct) = .k e (.mk t' d' M' ct') → ∀ (nt : Nat) (body code : Code), Sim P nt code cc → TblOk P nt body tbl → ∀ (E : Env) (c : Nat → Prop) (w : World) (a : Act), SR P F rd nt E c w a t d M ct →
    ∀ Q : Exit → Act → World → Prop, (∀ a' w', Res P F rd nt E c w M ct t' d' M' ct' a' w' → Q (exOf e) a' w') → ScopeIn (fence E rd) 0 P body Q m code a w
theorem r_scope_some {tbl : CC} {k : Kn} {r : Rs} {e : Ex} {s' : St} (h : r_scope tbl k r = .k e s') : (∃ l s1 cl, r = .k (.gto l) s1 ∧ findL l tbl = some cl ∧ again k (.scope cl tbl) s1 = .k e s') ∨ ((∀ l, exOf e ≠ .goto l) ∧ r = .k e s') := by
  cases r with
  | f => cases (show Rs.f = .k e s' from h)
  | k e1 s1 =>
    cases e1 with
    | gto l =>
      have h' : s_jump tbl k s1 (findL l tbl) = .k e s' := h
      cases hf : findL l tbl with
      | none => rw [hf] at h'; cases (show Rs.f = .k e s' from h')
      | some cl => rw [hf] at h'; exact .inl ⟨l, s1, cl, rfl, hf, h'⟩
    | nrm => have h' : Rs.k .nrm s1 = .k e s' := h; injection h' with h1 h2; subst h1 h2; exact .inr ⟨(fun l h => by cases h), rfl⟩
    | ret => have h' : Rs.k .ret s1 = .k e s' := h; injection h' with h1 h2; subst h1 h2; exact .inr ⟨(fun l h => by cases h), rfl⟩
    | ext id => have h' : Rs.k (.ext id) s1 = .k e s' := h; injection h' with h1 h2; subst h1 h2; exact .inr ⟨(fun l h => by cases h), rfl⟩
theorem inScope_of {body : Code} {J : Code → Act → World → Prop} {Q : Exit → Act → World → Prop} {e : Exit} (he : ∀ l, e ≠ .goto l) (h : Q e a w) : inScopePost body J Q e a w := by
  cases e with
  | goto l => exact absurd rfl (he l)
  | _ => exact h
theorem tblOf_ok {f : Nat → Option CC} : ∀ {ls : List Nat} {tbl : CC}, tblOf f ls = some tbl → ∀ l cl, findL l tbl = some cl → f l = some cl
  | [], tbl, h, l, cl, hf => by
    obtain rfl := Option.some.inj h
    cases hf
  | l' :: ls, tbl, h, l, cl, hf => by
    rw [tblOf] at h
    split at h
    · rename_i c t h1 h2
      obtain rfl := Option.some.inj h
      have hf' : (bif Nat.beq l' l then some c else findL l t) = some cl := hf
      rw [beqN] at hf'
      by_cases e : l' = l
      · rw [decide_eq_true e, cond_true] at hf'
        obtain rfl := Option.some.inj hf'
        rw [← e]; exact h1
      · rw [decide_eq_false e, cond_false] at hf'
        exact tblOf_ok h2 l cl hf'
    · cases h
theorem execC_ok {Φ : Nat → Option CF} {ex : ExF} (hΦ : PhiOk P Φ) (hex : ExOk P ex) {m : Nat} (hlp : LpOk P ex m) (hsc : ScOk P ex m) (hdr : ∀ rd fn F, DrOk P (.mk Φ ex rd fn F)) : ∀ (j : Nat) (code : Code) (cc : CC), compC P nt j code = some cc →
    ∀ (rd : Option Nat) (fn : Nat) (F : RO) (t : T) (d : List Nat) (M : Mem) (ct : Nat) (e : Ex) (t' : T) (d' : List Nat) (M' : Mem) (ct' : Nat),
    execC cc (.mk Φ ex rd fn F) (.mk t d M ct) = .k e (.mk t' d' M' ct') → ∀ (E : Env) (c : Nat → Prop) (w : World) (a : Act), SR P F rd nt E c w a t d M ct →
    ∀ Q : Exit → Act → World → Prop, (∀ a' w', Res P F rd nt E c w M ct t' d' M' ct' a' w' → Q (exOf e) a' w') → code.wpIn (fence E rd) 0 P Q a w := by
  intro j
  induction j with
  | zero => intro code cc hc; cases hc
  | succ j ih =>
    intro code cc hc rd fn F t d M ct e t' d' M' ct' hx E c w a h Q hQ
    have hcall := callOk_of hΦ hex rd fn F
    have hy := yieldOk_of (Φ := Φ) hex rd fn F
    unfold compC at hc
    cases code with
    | skip =>
      obtain rfl := Option.some.inj hc
      have hx' : Rs.k .nrm (.mk t d M ct) = .k e (.mk t' d' M' ct') := hx
      injection hx' with h1 h2; injection h2 with e1 e2 e3 e4; subst h1 e1 e2 e3 e4
      exact wpIn_skip (hQ a w h.res)
    | label l =>
      obtain rfl := Option.some.inj hc
      have hx' : Rs.k .nrm (.mk t d M ct) = .k e (.mk t' d' M' ct') := hx
      injection hx' with h1 h2; injection h2 with e1 e2 e3 e4; subst h1 e1 e2 e3 e4
      exact wpIn_label (hQ a w h.res)
    | region id ops dr =>
      cases dr with
      | false =>
        obtain ⟨cos, hcos, rfl⟩ := Option.map_eq_some_iff.1 hc
        have hx' : r_reg (seqOps cos (.mk Φ ex rd fn F) (.mk t d M ct)) = .k e (.mk t' d' M' ct') := hx
        cases hs : seqOps cos (.mk Φ ex rd fn F) (.mk t d M ct) with
        | none => rw [hs] at hx'; cases (show Rs.f = .k e (.mk t' d' M' ct') from hx')
        | some s1 =>
          rw [hs] at hx'
          have hx2 : Rs.k .nrm s1 = .k e (.mk t' d' M' ct') := hx'
          injection hx2 with h1 h2; subst h1 h2
          refine wpIn_region ?_
          have := seq_ok (F := F) (rd := rd) (nt := nt) hcall hy (ops := ops) (Q := Q) ops.toList cos 0 E c w a t M ct rfl hcos hs h hQ
          rw [← List.range_eq_range'] at this
          simpa using this
      | true =>
        dsimp only at hc
        split at hc
        · rename_i cos hcos
          have hc' := Option.some.inj hc
          cases hd : dregC ops cos with
          | dreg n l =>
            rw [hd] at hc'
            subst hc'
            exact hdr rd fn F F rd nt id ops cos hcos n l hd t d M ct e t' d' M' ct' hx E c w a h Q hQ
          | _ =>
            exfalso
            have hd' := hd
            unfold dregC dregD at hd'
            have hb : ∀ (b : Bool) (x y : CC), (bif b then x else y) = x ∨ (bif b then x else y) = y := by intro b; cases b <;> simp
            rcases hb (regOk ops.toList (Region.before ops).toList ops.size (canon (Region.before ops).toList cos ops.size 0)) (.dreg ops.size (canon (Region.before ops).toList cos ops.size 0)) .bad with hh | hh
            · rw [hh] at hd'; cases hd'
            · rw [hh] at hd'
              rw [hd] at hc'
              rw [← hd'] at hc'
              subst hc'
              cases (show Rs.f = .k e (.mk t' d' M' ct') from hx)
        · cases hc
    | seq x y =>
      dsimp only at hc
      split at hc
      · rename_i cx cy h1 h2
        obtain rfl := Option.some.inj hc
        have hx' : r_seq (execC cy) (.mk Φ ex rd fn F) (execC cx (.mk Φ ex rd fn F) (.mk t d M ct)) = .k e (.mk t' d' M' ct') := hx
        refine wpIn_seq ?_
        rcases r_seq_some hx' with ⟨⟨t1, d1, M1, ct1⟩, hx1, hx2⟩ | ⟨hne, hx1⟩
        · refine ih x cx h1 rd fn F t d M ct .nrm t1 d1 M1 ct1 hx1 E c w a h _ ?_
          rintro a1 w1 ⟨E1, c1, hS, hG, hR⟩
          show y.wpIn (fence E rd) 0 P Q a1 w1
          rw [← fence_ext hS.ext h.rd]
          exact ih y cy h2 rd fn F t1 d1 M1 ct1 e t' d' M' ct' hx2 E1 c1 w1 a1 hR Q fun a' w' hr => hQ a' w' (hr.trans hS hG)
        · exact ih x cx h1 rd fn F t d M ct e t' d' M' ct' hx1 E c w a h _ fun a' w' hr => then_of_ne hne (hQ a' w' hr)
      · cases hc
    | cond o x y =>
      dsimp only at hc
      split at hc
      · rename_i xo cx cy h0 h1 h2
        obtain rfl := Option.some.inj hc
        have hx' : onB (xo.ev t) Rs.f (fun b => Bool.rec (motive := fun _ => Rs) (execC cy (.mk Φ ex rd fn F) (.mk t d M ct)) (execC cx (.mk Φ ex rd fn F) (.mk t d M ct)) b) = .k e (.mk t' d' M' ct') := hx
        have ev := h.cx.ev h0
        cases hv : xo.ev t with
        | b v =>
          rw [hv] at hx' ev
          have hx2 : Bool.rec (motive := fun _ => Rs) (execC cy (.mk Φ ex rd fn F) (.mk t d M ct)) (execC cx (.mk Φ ex rd fn F) (.mk t d M ct)) v = .k e (.mk t' d' M' ct') := hx'
          cases v with
          | true => exact wpIn_cond_true ev.1 (ih x cx h1 rd fn F t d M ct e t' d' M' ct' hx2 E c w a h Q hQ)
          | false => exact wpIn_cond_false ev.1 (ih y cy h2 rd fn F t d M ct e t' d' M' ct' hx2 E c w a h Q hQ)
        | _ => rw [hv] at hx'; cases (show Rs.f = .k e (.mk t' d' M' ct') from hx')
      · cases hc
    | block id x =>
      obtain ⟨cx, h1, rfl⟩ := Option.map_eq_some_iff.1 hc
      have hx' : r_block id (execC cx (.mk Φ ex rd fn F) (.mk t d M ct)) = .k e (.mk t' d' M' ct') := hx
      obtain ⟨e1, hx1, hq⟩ := r_block_some hx'
      exact wpIn_block (ih x cx h1 rd fn F t d M ct e1 t' d' M' ct' hx1 E c w a h _ fun a' w' hr => hq Q a' w' (hQ a' w' hr))
    | loop x =>
      obtain ⟨cx, h1, rfl⟩ := Option.map_eq_some_iff.1 hc
      have hx' : r_loop cx (.mk Φ ex rd fn F) (execC cx (.mk Φ ex rd fn F) (.mk t d M ct)) = .k e (.mk t' d' M' ct') := hx
      refine wpIn_loop_rounds (m + 1) ?_
      rw [roundsIn_succ]
      rcases r_loop_some hx' with ⟨⟨t1, d1, M1, ct1⟩, hx1, hx2⟩ | ⟨hne, hx1⟩
      · refine ih x cx h1 rd fn F t d M ct .nrm t1 d1 M1 ct1 hx1 E c w a h _ ?_
        rintro a1 w1 ⟨E1, c1, hS, hG, hR⟩
        show Code.roundsIn (fence E rd) 0 P x Q m a1 w1
        rw [← fence_ext hS.ext h.rd]
        have hx3 : ex rd fn F (.loop cx) (.mk t1 d1 M1 ct1) = .k e (.mk t' d' M' ct') := hx2
        exact hlp rd fn F cx t1 d1 M1 ct1 e t' d' M' ct' hx3 nt x ⟨j, h1⟩ E1 c1 w1 a1 hR Q fun a' w' hr => hQ a' w' (hr.trans hS hG)
      · exact ih x cx h1 rd fn F t d M ct e t' d' M' ct' hx1 E c w a h _ fun a' w' hr => then_of_ne hne (hQ a' w' hr)
    | rangeFunc g ps ca cb =>
      dsimp only at hc
      split at hc
      · cases hc
      · rename_i hps0
        have hps : ∀ p ∈ ps.toList, p < nt := by
          intro p hp
          have h1 : (ps.toList.all fun p => decide (p < nt)) = true := by simpa using hps0
          exact of_decide_eq_true (List.all_eq_true.1 h1 p hp)
        split at hc
        · rename_i xg asg body h0 h1 h2
          obtain rfl := Option.some.inj hc
          refine wpIn_rangeFunc fun fn' _ => ?_
          cases rd with
          | none =>
            have hx' : rfGo xg (ps.toList.map posOf) asg body (.mk Φ ex none fn F) t (ct :: d) (M.set ct (.defs false)) (ct + 1) ct = .k e (.mk t' d' M' ct') := by
              have : (M.set ct (.defs false)).force (fun M => fN (Nat.succ ct) fun c' => rfGo xg (ps.toList.map posOf) asg body (.mk Φ ex none fn F) t (ct :: d) M c' ct) = .k e (.mk t' d' M' ct') := hx
              rwa [Tr.force_eq, fN_eq] at this
            obtain ⟨E1, hS1, hE1, hρ1, hβ1, _⟩ := h.cx.rel.alloc (.defs false) (.deferred (some [])) ct 0 (fun b => c b ∨ b = ct) (h.fr ct (Nat.le_refl _)) (.inr rfl) (fun _ h => .inl h) trivial (w.alloc (.deferred (some []))) rfl rfl rfl rfl (fun _ _ _ _ _ => rfl)
            have hG1 : Grow c ct (fun b => c b ∨ b = ct) (ct + 1) := grow_one c ct
            have hR1 := h.stp hS1 hG1
            have hR2 : SR P F none nt E1 (fun b => c b ∨ b = ct) (w.alloc (.deferred (some []))) { a with defers := [{ target := .collected w.heap.size, args := #[] }] ++ a.defers } t (ct :: d) (M.set ct (.defs false)) (ct + 1) :=
              ⟨⟨hR1.cx.rel, hR1.cx.glob, hR1.cx.big, hR1.cx.tr, hR1.cx.bt⟩, hR1.fr, by rw [List.map_cons, hρ1, ← hR1.df]; rfl, fun b hb => by
                rcases List.mem_cons.1 hb with rfl | hb
                · exact .inr rfl
                · exact hR1.dc b hb, hR1.sz, hR1.rd⟩
            have hf : fence E none = fence E1 none := rfl
            rw [hf]
            have hen := run_enterLoop_outer (P := P) (w := w) fn' a.tmps ps ca cb
            have hsz : (w.alloc (.deferred (some []))).heap.size = w.heap.size + 1 := World.size_alloc _ _
            rw [← hsz] at hen
            refine rfGo_ok hΦ hex h0 ⟨j, h1⟩ ⟨j, h2⟩ hps hx' (.inr rfl) hR2 hen (by rw [hρ1]) rfl ?_
            intro t2 d2 M2 ct2 hs a' w' hr
            injection hs with e1 e2 e3 e4; subst e1 e2 e3 e4
            exact hQ a' w' (hr.trans hS1 hG1)
          | some l =>
            have hx' : rfIn xg (ps.toList.map posOf) asg body (.mk Φ ex (some l) fn F) t d M ct (loopOf (M.get l)) = .k e (.mk t' d' M' ct') := hx
            cases hl : loopOf (M.get l) with
            | f => rw [hl] at hx'; cases (show Rs.f = .k e (.mk t' d' M' ct') from hx')
            | k s pe fnl tml psl al bl dnl =>
              rw [hl] at hx'
              have hx2 : rfGo xg (ps.toList.map posOf) asg body (.mk Φ ex (some l) fn F) t d M ct dnl = .k e (.mk t' d' M' ct') := hx'
              obtain ⟨hcl, hbd, ob, hob, fn3, tmps3, params3, ca3, cb3, rfl, _⟩ := h.cx.rel.has _ _ (look_some_M (loopOf_some hl))
              have hen := run_enterLoop_inner (P := P) hob fn' a.tmps ps ca cb
              refine rfGo_ok hΦ hex h0 ⟨j, h1⟩ ⟨j, h2⟩ hps hx2 hbd.2 h hen rfl ?_ ?_
              · cases a; rfl
              · intro t2 d2 M2 ct2 hs a' w' hr
                injection hs with e1 e2 e3 e4; subst e1 e2 e3 e4
                exact hQ a' w' hr
        · cases hc
    | exit id =>
      obtain rfl := Option.some.inj hc
      have hx' : Rs.k (.ext id) (.mk t d M ct) = .k e (.mk t' d' M' ct') := hx
      injection hx' with h1 h2; injection h2 with e1 e2 e3 e4; subst h1 e1 e2 e3 e4
      exact wpIn_exit (hQ a w h.res)
    | scope x =>
      dsimp only at hc
      split at hc
      · rename_i cx tbl h1 h2
        obtain rfl := Option.some.inj hc
        have htbl : TblOk P nt x tbl := by
          intro l cl hl
          obtain ⟨rest, hr1, hr2⟩ := Option.bind_eq_some_iff.1 (tblOf_ok h2 l cl hl)
          exact ⟨rest, hr1, j, hr2⟩
        have hx' : r_scope tbl (.mk Φ ex rd fn F) (execC cx (.mk Φ ex rd fn F) (.mk t d M ct)) = .k e (.mk t' d' M' ct') := hx
        refine wpIn_scope (m + 1) ?_
        show x.wpIn (fence E rd) 0 P (inScopePost x (ScopeIn (fence E rd) 0 P x Q m) Q) a w
        rcases r_scope_some hx' with ⟨l, ⟨t1, d1, M1, ct1⟩, cl, hx1, hfl, hx2⟩ | ⟨hne, hx1⟩
        · refine ih x cx h1 rd fn F t d M ct (.gto l) t1 d1 M1 ct1 hx1 E c w a h _ ?_
          rintro a1 w1 ⟨E1, c1, hS, hG, hR⟩
          obtain ⟨rest, hr1, hr2⟩ := htbl l cl hfl
          show inScopePost x (ScopeIn (fence E rd) 0 P x Q m) Q (.goto l) a1 w1
          unfold inScopePost
          dsimp only
          rw [hr1]
          rw [← fence_ext hS.ext h.rd]
          have hx3 : ex rd fn F (.scope cl tbl) (.mk t1 d1 M1 ct1) = .k e (.mk t' d' M' ct') := hx2
          exact hsc rd fn F cl tbl t1 d1 M1 ct1 e t' d' M' ct' hx3 nt x rest hr2 htbl E1 c1 w1 a1 hR Q fun a' w' hr => hQ a' w' (hr.trans hS hG)
        · exact ih x cx h1 rd fn F t d M ct e t' d' M' ct' hx1 E c w a h _ fun a' w' hr => inScope_of hne (hQ a' w' hr)
      · cases hc
    | goto l =>
      obtain rfl := Option.some.inj hc
      have hx' : Rs.k (.gto l) (.mk t d M ct) = .k e (.mk t' d' M' ct') := hx
      injection hx' with h1 h2; injection h2 with e1 e2 e3 e4; subst h1 e1 e2 e3 e4
      exact wpIn_goto (hQ a w h.res)
    | ret =>
      obtain rfl := Option.some.inj hc
      have hx' : Rs.k .ret (.mk t d M ct) = .k e (.mk t' d' M' ct') := hx
      injection hx' with h1 h2; injection h2 with e1 e2 e3 e4; subst h1 e1 e2 e3 e4
      exact wpIn_ret (hQ a w h.res)
    | refuse s =>
      obtain rfl := Option.some.inj hc
      cases (show Rs.f = .k e (.mk t' d' M' ct') from hx)
theorem exec_ok {Φ : Nat → Option CF} (hΦ : PhiOk P Φ) (hdr : ∀ ex, ExOk P ex → ∀ rd fn F, DrOk P (.mk Φ ex rd fn F)) : ∀ n, ExOk P (exec Φ n) ∧ LpOk P (exec Φ n) n ∧ ScOk P (exec Φ n) n := by
  intro n
  induction n with
  | zero =>
    refine ⟨?_, ?_, ?_⟩
    · intro rd fn F cc t d M ct e t' d' M' ct' hx
      cases (show Rs.f = .k e (.mk t' d' M' ct') from hx)
    · intro rd fn F cc t d M ct e t' d' M' ct' hx
      cases (show Rs.f = .k e (.mk t' d' M' ct') from hx)
    · intro rd fn F cc tbl t d M ct e t' d' M' ct' hx
      cases (show Rs.f = .k e (.mk t' d' M' ct') from hx)
  | succ n ih =>
    have key := fun nt => execC_ok (nt := nt) hΦ ih.1 ih.2.1 ih.2.2 (hdr _ ih.1)
    refine ⟨?_, ?_, ?_⟩
    · intro rd fn F cc t d M ct e t' d' M' ct' hx nt code hsim
      obtain ⟨j, hj⟩ := hsim
      exact key nt j code cc hj rd fn F t d M ct e t' d' M' ct' hx
    · intro rd fn F b t d M ct e t' d' M' ct' hx nt code hsim E c w a h Q hQ
      obtain ⟨j, hj⟩ := hsim
      have hx' : r_loop b (.mk Φ (exec Φ n) rd fn F) (execC b (.mk Φ (exec Φ n) rd fn F) (.mk t d M ct)) = .k e (.mk t' d' M' ct') := hx
      rw [roundsIn_succ]
      rcases r_loop_some hx' with ⟨⟨t1, d1, M1, ct1⟩, hx1, hx2⟩ | ⟨hne, hx1⟩
      · refine key nt j code b hj rd fn F t d M ct .nrm t1 d1 M1 ct1 hx1 E c w a h _ ?_
        rintro a1 w1 ⟨E1, c1, hS, hG, hR⟩
        show Code.roundsIn (fence E rd) 0 P code Q n a1 w1
        rw [← fence_ext hS.ext h.rd]
        have hx3 : exec Φ n rd fn F (.loop b) (.mk t1 d1 M1 ct1) = .k e (.mk t' d' M' ct') := hx2
        exact ih.2.1 rd fn F b t1 d1 M1 ct1 e t' d' M' ct' hx3 nt code ⟨j, hj⟩ E1 c1 w1 a1 hR Q fun a' w' hr => hQ a' w' (hr.trans hS hG)
      · exact key nt j code b hj rd fn F t d M ct e t' d' M' ct' hx1 E c w a h _ fun a' w' hr => then_of_ne hne (hQ a' w' hr)
    · intro rd fn F cc tbl t d M ct e t' d' M' ct' hx nt body code hsim htbl E c w a h Q hQ
      obtain ⟨j, hj⟩ := hsim
      have hx' : r_scope tbl (.mk Φ (exec Φ n) rd fn F) (execC cc (.mk Φ (exec Φ n) rd fn F) (.mk t d M ct)) = .k e (.mk t' d' M' ct') := hx
      show code.wpIn (fence E rd) 0 P (inScopePost body (ScopeIn (fence E rd) 0 P body Q n) Q) a w
      rcases r_scope_some hx' with ⟨l, ⟨t1, d1, M1, ct1⟩, cl, hx1, hfl, hx2⟩ | ⟨hne, hx1⟩
      · refine key nt j code cc hj rd fn F t d M ct (.gto l) t1 d1 M1 ct1 hx1 E c w a h _ ?_
        rintro a1 w1 ⟨E1, c1, hS, hG, hR⟩
        obtain ⟨rest, hr1, hr2⟩ := htbl l cl hfl
        show inScopePost body (ScopeIn (fence E rd) 0 P body Q n) Q (.goto l) a1 w1
        unfold inScopePost
        dsimp only
        rw [hr1]
        rw [← fence_ext hS.ext h.rd]
        have hx3 : exec Φ n rd fn F (.scope cl tbl) (.mk t1 d1 M1 ct1) = .k e (.mk t' d' M' ct') := hx2
        exact ih.2.2 rd fn F cl tbl t1 d1 M1 ct1 e t' d' M' ct' hx3 nt body rest hr2 htbl E1 c1 w1 a1 hR Q fun a' w' hr => hQ a' w' (hr.trans hS hG)
      · exact key nt j code cc hj rd fn F t d M ct e t' d' M' ct' hx1 E c w a h _ fun a' w' hr => inScope_of hne (hQ a' w' hr)
end
end Go.Proofs.YtaigcmdogapjgaaGreatDoor.Ev
namespace Go.Proofs.YtaigcmdogapjgaaGreatDoor.Ev
open Go
def Agree (ps : List Pos) (t t' : T) : Prop := ∀ p ∈ ps, getT t' p = getT t p
section
variable {t t' : T}
theorem Agree.l {a b : List Pos} (h : Agree (a ++ b) t t') : Agree a t t' := fun p hp => h p (List.mem_append_left _ hp)
theorem Agree.r {a b : List Pos} (h : Agree (a ++ b) t t') : Agree b t t' := fun p hp => h p (List.mem_append_right _ hp)
theorem Agree.ev {x : X} (h : Agree x.ps t t') : x.ev t' = x.ev t := by
  cases x with
  | t p => exact h p (by simp [X.ps])
  | c v => rfl
theorem Agree.evs {xs : List X} (h : Agree (psL xs) t t') : Ev.evs xs t' = Ev.evs xs t := by
  induction xs with
  | nil => rfl
  | cons x xs ih =>
    show x.ev t' :: Ev.evs xs t' = x.ev t :: Ev.evs xs t
    rw [h.l.ev, ih h.r]
theorem Agree.optN {o : Option X} (h : Agree (psO o) t t') (d : Nat) : Ev.optN t' d o = Ev.optN t d o := by
  cases o with
  | none => rfl
  | some x =>
    show asN (x.ev t') = asN (x.ev t)
    rw [Agree.ev h]
theorem Agree.optNN {o : Option X} (h : Agree (psO o) t t') : Ev.optNN t' o = Ev.optNN t o := by
  cases o with
  | none => rfl
  | some x =>
    have h' : Agree x.ps t t' := h
    simp only [Ev.optNN]
    rw [h'.ev]
theorem Agree.minAll {xs : List X} (h : Agree (psL xs) t t') (mx : Bool) : ∀ v, Ev.minAll mx t' v xs = Ev.minAll mx t v xs := by
  induction xs with
  | nil => intro v; rfl
  | cons x xs ih =>
    intro v
    simp only [Ev.minAll]
    rw [h.l.ev]
    cases minV mx v (x.ev t) with
    | none => rfl
    | some v' => exact ih h.r v'
theorem Agree.fillParts {ps : List (Nat × Nat × X)} (h : Agree (psP ps) t t') : ∀ cs, Ev.fillParts t' cs ps = Ev.fillParts t cs ps := by
  induction ps with
  | nil => intro v; rfl
  | cons x xs ih =>
    obtain ⟨o, n, x⟩ := x
    intro cs
    simp only [Ev.fillParts]
    have h1 : Agree x.ps t t' := h.l
    have h2 : Agree (psP xs) t t' := h.r
    rw [h1.ev]
    cases Nat.beq (flatten (x.ev t)).length n with
    | false => rfl
    | true =>
      simp only [cond_true]
      cases replL cs o (flatten (x.ev t)) with
      | none => rfl
      | some cs' => exact ih h2 cs'
theorem Agree.fillP {ps : List (Nat × X)} (h : Agree (psP2 ps) t t') (sz m : Nat) : ∀ tt, Ev.fillP sz m t' ps tt = Ev.fillP sz m t ps tt := by
  induction ps with
  | nil => intro v; rfl
  | cons x xs ih =>
    obtain ⟨o, x⟩ := x
    intro tt
    simp only [Ev.fillP]
    have h1 : Agree x.ps t t' := h.l
    have h2 : Agree (psP2 xs) t t' := h.r
    rw [h1.ev]
    cases Nat.beq (flatten (x.ev t)).length sz && Nat.ble (Nat.add o sz) m && allOne (flatten (x.ev t)) with
    | false => rfl
    | true =>
      simp only [cond_true, Tr.force_eq]
      exact ih h2 _
theorem qop_congr (F : RO) (M : Mem) {o : QO} (h : Agree o.ps t t') : qop o F M t' = qop o F M t := by
  cases o with
  | mv x => have h1 : x.ev t' = x.ev t := Agree.ev h; show q_mv x F M t' = q_mv x F M t; unfold q_mv; rw [h1]
  | pk c a b =>
    have h1 := Agree.l h |>.ev; have h2 := (Agree.r h).l.ev; have h3 := (Agree.r h).r.ev
    show q_pk c a b F M t' = q_pk c a b F M t; unfold q_pk; rw [h1, h2, h3]
  | ld1 x => have h1 : x.ev t' = x.ev t := Agree.ev h; show q_ld1 x F M t' = q_ld1 x F M t; unfold q_ld1; rw [h1]
  | ldn n x => have h1 : x.ev t' = x.ev t := Agree.ev h; show q_ldn n x F M t' = q_ldn n x F M t; unfold q_ldn; rw [h1]
  | nck x => have h1 : x.ev t' = x.ev t := Agree.ev h; show q_nck x F M t' = q_nck x F M t; unfold q_nck; rw [h1]
  | bi op x y => have h1 := Agree.l h |>.ev; have h2 := Agree.r h |>.ev; show q_bi op x y F M t' = q_bi op x y F M t; unfold q_bi; rw [h1, h2]
  | eq neg sh lit x y => have h1 := Agree.l h |>.ev; have h2 := Agree.r h |>.ev; show q_eq neg sh lit x y F M t' = q_eq neg sh lit x y F M t; unfold q_eq; rw [h1, h2]
  | un op x => have h1 : x.ev t' = x.ev t := Agree.ev h; show q_un op x F M t' = q_un op x F M t; unfold q_un; rw [h1]
  | ci k x => have h1 : x.ev t' = x.ev t := Agree.ev h; show q_ci k x F M t' = q_ci k x F M t; unfold q_ci; rw [h1]
  | bs x => have h1 : x.ev t' = x.ev t := Agree.ev h; show q_bs x F M t' = q_bs x F M t; unfold q_bs; rw [h1]
  | mki k x => have h1 : x.ev t' = x.ev t := Agree.ev h; show q_mki k x F M t' = q_mki k x F M t; unfold q_mki; rw [h1]
  | mkf f a b => have h1 := (Agree.l h).evs; have h2 := (Agree.r h).evs; show q_mkf f a b F M t' = q_mkf f a b F M t; unfold q_mkf; rw [h1, h2]
  | fa k x => have h1 : x.ev t' = x.ev t := Agree.ev h; show q_fa k x F M t' = q_fa k x F M t; unfold q_fa; rw [h1]
  | fl1 k x => have h1 : x.ev t' = x.ev t := Agree.ev h; show q_fl1 k x F M t' = q_fl1 k x F M t; unfold q_fl1; rw [h1]
  | fln k n x => have h1 : x.ev t' = x.ev t := Agree.ev h; show q_fln k n x F M t' = q_fln k n x F M t; unfold q_fln; rw [h1]
  | iaA l s x y => have h1 := Agree.l h |>.ev; have h2 := Agree.r h |>.ev; show q_iaA l s x y F M t' = q_iaA l s x y F M t; unfold q_iaA; rw [h1, h2]
  | iaS s x y => have h1 := Agree.l h |>.ev; have h2 := Agree.r h |>.ev; show q_iaS s x y F M t' = q_iaS s x y F M t; unfold q_iaS; rw [h1, h2]
  | ixA1 l s x y => have h1 := Agree.l h |>.ev; have h2 := Agree.r h |>.ev; show q_ixA1 l s x y F M t' = q_ixA1 l s x y F M t; unfold q_ixA1; rw [h1, h2]
  | ixAn l s x y => have h1 := Agree.l h |>.ev; have h2 := Agree.r h |>.ev; show q_ixAn l s x y F M t' = q_ixAn l s x y F M t; unfold q_ixAn; rw [h1, h2]
  | ixS x y => have h1 := Agree.l h |>.ev; have h2 := Agree.r h |>.ev; show q_ixS x y F M t' = q_ixS x y F M t; unfold q_ixS; rw [h1, h2]
  | slS x lo hi =>
    have h1 := Agree.l h |>.ev
    show q_slS x lo hi F M t' = q_slS x lo hi F M t; unfold q_slS; rw [h1]
    simp only [(Agree.r h).l.optN, (Agree.r h).r.optN]
  | slL s x lo hi mx =>
    have h1 := Agree.l h |>.ev
    show q_slL s x lo hi mx F M t' = q_slL s x lo hi mx F M t; unfold q_slL; rw [h1, (Agree.r h).l.optNN, (Agree.r h).r.l.optNN, (Agree.r h).r.r.optNN]
  | slA n s x lo hi mx =>
    have h1 := Agree.l h |>.ev
    show q_slA n s x lo hi mx F M t' = q_slA n s x lo hi mx F M t; unfold q_slA; rw [h1]
    simp only [(Agree.r h).l.optN, (Agree.r h).r.l.optN, (Agree.r h).r.r.optN]
  | lk sh z ok x y => have h1 := Agree.l h |>.ev; have h2 := Agree.r h |>.ev; show q_lk sh z ok x y F M t' = q_lk sh z ok x y F M t; unfold q_lk; rw [h1, h2]
  | ex i x => have h1 : x.ev t' = x.ev t := Agree.ev h; show q_ex i x F M t' = q_ex i x F M t; unfold q_ex; rw [h1]
  | ln sh x => have h1 : x.ev t' = x.ev t := Agree.ev h; show q_ln sh x F M t' = q_ln sh x F M t; unfold q_ln; rw [h1]
  | lnc n => rfl
  | cp x => have h1 : x.ev t' = x.ev t := Agree.ev h; show q_cp x F M t' = q_cp x F M t; unfold q_cp; rw [h1]
  | mn mx x xs => have h1 := Agree.l h |>.ev; show q_mn mx x xs F M t' = q_mn mx x xs F M t; unfold q_mn; rw [h1, (Agree.r h).minAll]
  | bld z ps => show q_bld z ps F M t' = q_bld z ps F M t; unfold q_bld; rw [Agree.fillParts h]
  | ta w z ok x => have h1 : x.ev t' = x.ev t := Agree.ev h; show q_ta w z ok x F M t' = q_ta w z ok x F M t; unfold q_ta; rw [h1]
  | up x => have h1 : x.ev t' = x.ev t := Agree.ev h; show q_up x F M t' = q_up x F M t; unfold q_up; rw [h1]
  | dn ty s x => have h1 : x.ev t' = x.ev t := Agree.ev h; show q_dn ty s x F M t' = q_dn ty s x F M t; unfold q_dn; rw [h1]
  | sd x => have h1 : x.ev t' = x.ev t := Agree.ev h; show q_sd x F M t' = q_sd x F M t; unfold q_sd; rw [h1]
  | xib x y => have h1 := Agree.l h |>.ev; have h2 := Agree.r h |>.ev; show q_xib x y F M t' = q_xib x y F M t; unfold q_xib; rw [h1, h2]
  | xcmp x y => have h1 := Agree.l h |>.ev; have h2 := Agree.r h |>.ev; show q_xcmp x y F M t' = q_xcmp x y F M t; unfold q_xcmp; rw [h1, h2]
  | sap n x => have h1 : x.ev t' = x.ev t := Agree.ev h; show q_sap n x F M t' = q_sap n x F M t; unfold q_sap; rw [h1]
  | xcn x y => have h1 := Agree.l h |>.ev; have h2 := Agree.r h |>.ev; show q_xcn x y F M t' = q_xcn x y F M t; unfold q_xcn; rw [h1, h2]
  | bad => rfl
theorem aop_congr (b : Nat) {o : AO} (h : Agree o.ps t t') : aop o b t' = aop o b t := by
  cases o with
  | al ty cs => rfl
  | bx ty sz x => have h1 : x.ev t' = x.ev t := Agree.ev h; show a_bx ty sz x b t' = a_bx ty sz x b t; unfold a_bx; rw [h1]
  | bsl ty n sz z ps => show a_bsl ty n sz z ps b t' = a_bsl ty n sz z ps b t; unfold a_bsl; rw [Agree.fillP h]
  | mks ty sz by_ z l k => have h1 := Agree.l h |>.ev; have h2 := Agree.r h |>.ev; show a_mks ty sz by_ z l k b t' = a_mks ty sz by_ z l k b t; unfold a_mks; rw [h1, h2]
  | mkm => rfl
  | sb ty x => have h1 : x.ev t' = x.ev t := Agree.ev h; show a_sb ty x b t' = a_sb ty x b t; unfold a_sb; rw [h1]
  | nz ty x => have h1 : x.ev t' = x.ev t := Agree.ev h; show a_nz ty x b t' = a_nz ty x b t; unfold a_nz; rw [h1]
  | rgs x => have h1 : x.ev t' = x.ev t := Agree.ev h; show a_rgs x b t' = a_rgs x b t; unfold a_rgs; rw [h1]
theorem doE_congr (k : Kn) (M : Mem) (c : Nat) {o : EO} (h : Agree o.ps t t') : doE o k M c t' = doE o k M c t := by
  cases o with
  | call f as => have h1 := Agree.evs h; show x_call f as k M c t' = x_call f as k M c t; unfold x_call; rw [h1]
  | cv f as => have h1 := Agree.l h |>.ev; have h2 := (Agree.r h).evs; show x_cv f as k M c t' = x_cv f as k M c t; unfold x_cv; rw [h1, h2]
  | st n x y => have h1 := Agree.l h |>.ev; have h2 := Agree.r h |>.ev; show x_st n x y k M c t' = x_st n x y k M c t; unfold x_st e_st; rw [h1, h2]
  | app ty sz by_ x y => have h1 := Agree.l h |>.ev; have h2 := Agree.r h |>.ev; show x_app ty sz by_ x y k M c t' = x_app ty sz by_ x y k M c t; unfold x_app e_app; rw [h1, h2]
  | cpy sz x y => have h1 := Agree.l h |>.ev; have h2 := Agree.r h |>.ev; show x_cpy sz x y k M c t' = x_cpy sz x y k M c t; unfold x_cpy e_cpy; rw [h1, h2]
  | clr z x => have h1 : x.ev t' = x.ev t := Agree.ev h; show x_clr z x k M c t' = x_clr z x k M c t; unfold x_clr e_clr; rw [h1]
  | mu sh m k' v => have h1 := Agree.l h |>.ev; have h2 := (Agree.r h).l.ev; have h3 := (Agree.r h).r.ev; show x_mu sh m k' v k M c t' = x_mu sh m k' v k M c t; unfold x_mu e_mu; rw [h1, h2, h3]
  | del sh m k' => have h1 := Agree.l h |>.ev; have h2 := Agree.r h |>.ev; show x_del sh m k' k M c t' = x_del sh m k' k M c t; unfold x_del e_del; rw [h1, h2]
  | us ty x n => have h1 := Agree.l h |>.ev; have h2 := Agree.r h |>.ev; show x_us ty x n k M c t' = x_us ty x n k M c t; unfold x_us e_us; rw [h1, h2]
  | ms x => have h1 : x.ev t' = x.ev t := Agree.ev h; show x_ms x k M c t' = x_ms x k M c t; unfold x_ms e_ms; rw [h1]
  | nxs x => have h1 : x.ev t' = x.ev t := Agree.ev h; show x_nxs x k M c t' = x_nxs x k M c t; unfold x_nxs e_nxs; rw [h1]
  | rgm x => have h1 : x.ev t' = x.ev t := Agree.ev h; show x_rgm x k M c t' = x_rgm x k M c t; unfold x_rgm e_rgm; rw [h1]
  | nxm x => have h1 : x.ev t' = x.ev t := Agree.ev h; show x_nxm x k M c t' = x_nxm x k M c t; unfold x_nxm e_nxm; rw [h1]
theorem wanted_congr {g : Option (Pos × Bool)} (h : Agree (gps g) t t') : wanted t' g = wanted t g := by
  cases g with
  | none => rfl
  | some pw =>
    obtain ⟨p, want⟩ := pw
    show wanted1 want (getT t' p) = wanted1 want (getT t p)
    rw [h p (by simp [gps])]
theorem posEq_iff : ∀ p q : Pos, posEq p q = true ↔ p = q
  | .h, .h => by simp [posEq]
  | .l p, .l q => by simp [posEq, posEq_iff p q]
  | .r p, .r q => by simp [posEq, posEq_iff p q]
  | .h, .l _ => by simp [posEq]
  | .h, .r _ => by simp [posEq]
  | .l _, .h => by simp [posEq]
  | .l _, .r _ => by simp [posEq]
  | .r _, .h => by simp [posEq]
  | .r _, .l _ => by simp [posEq]
theorem posIn_iff (p : Pos) (l : List Pos) : posIn p l = true ↔ p ∈ l := by
  induction l with
  | nil => simp [posIn]
  | cons q r ih =>
    simp only [posIn, List.mem_cons]
    cases h : posEq p q with
    | true => simp [(posEq_iff p q).1 h]
    | false =>
      have : p ≠ q := fun e => by rw [(posEq_iff p q).2 e] at h; cases h
      simp [this, ih]
theorem Agree.setT {ps : List Pos} {dst : Option Pos} (h : dstIn ps dst = false) (t : T) (v : V) : Agree ps t (Ev.setT t dst v) := by
  intro p hp
  cases dst with
  | none => rfl
  | some q =>
    have hne : p ≠ q := by
      rintro rfl
      have : posIn p ps = true := (posIn_iff p ps).2 hp
      rw [show dstIn ps (some p) = posIn p ps from rfl, this] at h; cases h
    rw [setT_some]
    unfold getT; rw [Tr.getP_setP_ne q v p t hne]
theorem setT_comm {d1 d2 : Option Pos} (h : dstSame d1 d2 = false) (t : T) (v1 v2 : V) : Ev.setT (Ev.setT t d1 v1) d2 v2 = Ev.setT (Ev.setT t d2 v2) d1 v1 := by
  cases d1 with
  | none => rfl
  | some p =>
    cases d2 with
    | none => rfl
    | some q =>
      have hne : p ≠ q := fun e => by
        have := (posEq_iff p q).2 e
        rw [show dstSame (some p) (some q) = posEq p q from rfl, this] at h; cases h
      simp only [setT_some]
      exact Tr.setP_comm p v1 q v2 t (Ne.symm hne)
end
end Go.Proofs.YtaigcmdogapjgaaGreatDoor.Ev
namespace Go.Proofs.YtaigcmdogapjgaaGreatDoor.Ev
open Go
structure SS where
  t : T
  m : Nat → Option Blk
  ct : Nat
inductive LK where
  | skip
  | qv (v : V)
  | qr (v : V) (b : Nat)
  | al (v : V) (blk : Blk)
  | ef (v : V) (M1 : Mem) (F1 : RO) (M' : Mem) (ct ct' : Nat)
structure Lab where
  i : Nat
  mask : Nat
  co : CO
  k : LK
def CO.op : CO → OK
  | .mk _ op _ => op
def CO.guard : CO → Option (Pos × Bool)
  | .mk _ _ g => g
def LK.isEf : LK → Bool
  | .ef .. => true
  | _ => false
noncomputable def afterM (M1 M' : Mem) (m : Nat → Option Blk) (b : Nat) : Option Blk :=
  if M1.get b = none ∧ m b ≠ none then m b else M'.get b
def setF (m : Nat → Option Blk) (b : Nat) (blk : Blk) : Nat → Option Blk := fun x => if x = b then some blk else m x
structure EfOk (k : Kn) (F : RO) (o : EO) (v : V) (M1 : Mem) (F1 : RO) (M' : Mem) (ct ct' : Nat) (t : T) (m : Nat → Option Blk) : Prop where
  run : doE o (knF k F1) M1 ct t = .k v M' ct'
  sub : ∀ b blk, M1.get b = some blk → m b = some blk
  ro : ∀ b blk, roGet F1 b = some blk → (m b = some blk ∧ M1.get b = none) ∨ roGet F b = some blk
  new : ∀ b, (roGet F b).isSome → M'.get b = none
def Tn (k : Kn) (base : Nat) (F : RO) (l : Lab) (s s' : SS) : Prop :=
  match l.k with
  | .skip => wanted s.t l.co.guard = false ∧ s' = ⟨setT s.t l.co.dst undef, s.m, s.ct⟩
  | .qv v => wanted s.t l.co.guard = true ∧ ∃ o, l.co.op = .q o ∧ (qop o [] .e s.t).val = some v ∧ s' = ⟨setT s.t l.co.dst v, s.m, s.ct⟩
  | .qr v b => wanted s.t l.co.guard = true ∧ ∃ o blk, l.co.op = .q o ∧ (s.m b = some blk ∨ (s.m b = none ∧ roGet F b = some blk)) ∧ (qop o [(b, blk)] .e s.t).val = some v ∧ s' = ⟨setT s.t l.co.dst v, s.m, s.ct⟩
  | .al v blk => wanted s.t l.co.guard = true ∧ ∃ o, l.co.op = .a o ∧ aop o (base + l.i) s.t = some (v, blk) ∧ s' = ⟨setT s.t l.co.dst v, setF s.m (base + l.i) blk, s.ct⟩
  | .ef v M1 F1 M' ct ct' => wanted s.t l.co.guard = true ∧ s.ct = ct ∧ ∃ o, l.co.op = .e o ∧ EfOk k F o v M1 F1 M' ct ct' s.t s.m ∧ s' = ⟨setT s.t l.co.dst v, afterM M1 M' s.m, ct'⟩
structure Apart (base : Nat) (x y : Lab) : Prop where
  ne : x.i ≠ y.i
  kx : x.k.isEf = false
  d1 : dstIn y.co.ps x.co.dst = false
  d2 : dstIn x.co.ps y.co.dst = false
  d3 : dstSame x.co.dst y.co.dst = false
  rd : ∀ vx b v M1 F1 M' ct ct', x.k = .qr vx b → y.k = .ef v M1 F1 M' ct ct' → M1.get b = none
  al : ∀ vx blk v M1 F1 M' ct ct', x.k = .al vx blk → y.k = .ef v M1 F1 M' ct ct' → M1.get (base + x.i) = none ∧ roGet F1 (base + x.i) = none
  rd2 : ∀ vx blk v b, x.k = .al vx blk → y.k = .qr v b → b ≠ base + x.i
  rd3 : ∀ vx b v blk, x.k = .qr vx b → y.k = .al v blk → b ≠ base + y.i
section
variable {k : Kn} {base : Nat} {F : RO} {x y : Lab} {s s1 s2 : SS}
theorem CO.ps_eq (c : CO) : c.ps = gps c.guard ++ c.op.ps := by cases c; rfl
def Lab.val (l : Lab) : V := match l.k with
  | .skip => undef
  | .qv v | .qr v _ | .al v _ => v
  | .ef v .. => v
noncomputable def Lab.mem (base : Nat) (l : Lab) (m : Nat → Option Blk) : Nat → Option Blk := match l.k with
  | .al _ blk => setF m (base + l.i) blk
  | .ef _ M1 _ M' _ _ => afterM M1 M' m
  | _ => m
def Lab.ctr (l : Lab) (ct : Nat) : Nat := match l.k with
  | .ef _ _ _ _ _ ct' => ct'
  | _ => ct
def Can (k : Kn) (base : Nat) (F : RO) (l : Lab) (s : SS) : Prop :=
  match l.k with
  | .skip => wanted s.t l.co.guard = false
  | .qv v => wanted s.t l.co.guard = true ∧ ∃ o, l.co.op = .q o ∧ (qop o [] .e s.t).val = some v
  | .qr v b => wanted s.t l.co.guard = true ∧ ∃ o blk, l.co.op = .q o ∧ (s.m b = some blk ∨ (s.m b = none ∧ roGet F b = some blk)) ∧ (qop o [(b, blk)] .e s.t).val = some v
  | .al v blk => wanted s.t l.co.guard = true ∧ ∃ o, l.co.op = .a o ∧ aop o (base + l.i) s.t = some (v, blk)
  | .ef v M1 F1 M' ct ct' => wanted s.t l.co.guard = true ∧ s.ct = ct ∧ ∃ o, l.co.op = .e o ∧ EfOk k F o v M1 F1 M' ct ct' s.t s.m
theorem Tn_iff : Tn k base F x s s1 ↔ Can k base F x s ∧ s1 = ⟨setT s.t x.co.dst x.val, x.mem base s.m, x.ctr s.ct⟩ := by
  unfold Tn Can Lab.val Lab.mem Lab.ctr
  cases x.k with
  | skip => exact Iff.rfl
  | qv v =>
    constructor
    · rintro ⟨h1, o, h2, h3, h4⟩; exact ⟨⟨h1, o, h2, h3⟩, h4⟩
    · rintro ⟨⟨h1, o, h2, h3⟩, h4⟩; exact ⟨h1, o, h2, h3, h4⟩
  | qr v b =>
    constructor
    · rintro ⟨h1, o, blk, h2, h3, h4, h5⟩; exact ⟨⟨h1, o, blk, h2, h3, h4⟩, h5⟩
    · rintro ⟨⟨h1, o, blk, h2, h3, h4⟩, h5⟩; exact ⟨h1, o, blk, h2, h3, h4, h5⟩
  | al v blk =>
    constructor
    · rintro ⟨h1, o, h2, h3, h4⟩; exact ⟨⟨h1, o, h2, h3⟩, h4⟩
    · rintro ⟨⟨h1, o, h2, h3⟩, h4⟩; exact ⟨h1, o, h2, h3, h4⟩
  | ef v M1 F1 M' ct ct' =>
    constructor
    · rintro ⟨h1, h0, o, h2, h3, h4⟩; exact ⟨⟨h1, h0, o, h2, h3⟩, h4⟩
    · rintro ⟨⟨h1, h0, o, h2, h3⟩, h4⟩; exact ⟨h1, h0, o, h2, h3, h4⟩
def MemOk (base : Nat) (F : RO) (l : Lab) (m m' : Nat → Option Blk) : Prop := match l.k with
  | .qr _ b => m' b = m b
  | .ef _ M1 F1 _ _ _ => (∀ b, (M1.get b).isSome → m' b = m b) ∧ (∀ b, (roGet F1 b).isSome → m' b = m b)
  | _ => True
theorem Can.move {t t' : T} {m m' : Nat → Option Blk} {ct ct' : Nat} (h : Can k base F x ⟨t, m, ct⟩) (ha : Agree x.co.ps t t') (hm : MemOk base F x m m') (hc : x.k.isEf = true → ct' = ct) : Can k base F x ⟨t', m', ct'⟩ := by
  rw [CO.ps_eq] at ha
  have hw := wanted_congr ha.l
  have ho := ha.r
  unfold Can at h ⊢
  unfold MemOk at hm
  cases hk : x.k with
  | skip => rw [hk] at h; exact hw.trans h
  | qv v =>
    rw [hk] at h
    obtain ⟨h1, o, h2, h3⟩ := h
    rw [h2] at ho
    exact ⟨hw.trans h1, o, h2, by show (qop o [] .e t').val = _; rw [qop_congr _ _ ho]; exact h3⟩
  | qr v b =>
    rw [hk] at h hm
    obtain ⟨h1, o, blk, h2, h3, h4⟩ := h
    rw [h2] at ho
    have hm' : m' b = m b := hm
    exact ⟨hw.trans h1, o, blk, h2, by show m' b = _ ∨ (m' b = _ ∧ _); rw [hm']; exact h3, by show (qop o _ .e t').val = _; rw [qop_congr _ _ ho]; exact h4⟩
  | al v blk =>
    rw [hk] at h
    obtain ⟨h1, o, h2, h3⟩ := h
    rw [h2] at ho
    exact ⟨hw.trans h1, o, h2, by show aop o _ t' = _; rw [aop_congr _ ho]; exact h3⟩
  | ef v M1 F1 M' c1 c2 =>
    rw [hk] at h hm hc
    obtain ⟨h1, h0, o, h2, h3⟩ := h
    rw [h2] at ho
    have hm' : (∀ b, (M1.get b).isSome → m' b = m b) ∧ (∀ b, (roGet F1 b).isSome → m' b = m b) := hm
    refine ⟨hw.trans h1, (hc rfl).trans h0, o, h2, ⟨?_, ?_, ?_, h3.new⟩⟩
    · show doE o (knF k F1) M1 c1 t' = _
      rw [doE_congr _ _ _ ho]; exact h3.run
    · intro b blk hb
      show m' b = _
      rw [hm'.1 b (by rw [hb]; rfl)]; exact h3.sub b blk hb
    · intro b blk hb
      show (m' b = _ ∧ _) ∨ _
      rw [hm'.2 b (by rw [hb]; rfl)]; exact h3.ro b blk hb
theorem swap (ha : Apart base x y) (h1 : Tn k base F x s s1) (h2 : Tn k base F y s1 s2) : ∃ s1', Tn k base F y s s1' ∧ Tn k base F x s1' s2 := by
  obtain ⟨t, m, ct⟩ := s
  rw [Tn_iff] at h1 h2
  obtain ⟨c1, rfl⟩ := h1
  obtain ⟨c2, rfl⟩ := h2
  have hctx : x.ctr ct = ct := by
    have := ha.kx
    unfold Lab.ctr
    cases hx : x.k <;> first | rfl | (rw [hx] at this; cases this)
  refine ⟨_, Tn_iff.2 ⟨?_, rfl⟩, Tn_iff.2 ⟨?_, ?_⟩⟩
  ·
    refine Can.move (t' := t) (m' := m) (ct' := ct) c2 ?_ ?_ ?_
    · intro p hp; exact (Agree.setT ha.d1 t x.val p hp).symm
    · unfold MemOk
      cases hy : y.k with
      | qr v b =>
        show m b = x.mem base m b
        unfold Lab.mem
        cases hx : x.k with
        | al vx blk =>
          show m b = setF m (base + x.i) blk b
          unfold setF
          rw [if_neg (ha.rd2 vx blk v b hx hy)]
        | ef => have := ha.kx; rw [hx] at this; cases this
        | _ => rfl
      | ef v M1 F1 M' c3 c4 =>
        unfold Lab.mem
        cases hx : x.k with
        | al vx blk =>
          have hal := ha.al vx blk v M1 F1 M' c3 c4 hx hy
          constructor
          · intro b hb
            show m b = setF m (base + x.i) blk b
            unfold setF
            rw [if_neg]
            rintro rfl; rw [hal.1] at hb; cases hb
          · intro b hb
            show m b = setF m (base + x.i) blk b
            unfold setF
            rw [if_neg]
            rintro rfl; rw [hal.2] at hb; cases hb
        | ef => have := ha.kx; rw [hx] at this; cases this
        | _ => exact ⟨fun _ _ => rfl, fun _ _ => rfl⟩
      | _ => trivial
    · intro _; exact hctx.symm
  ·
    refine Can.move (t := t) (m := m) (ct := ct) c1 (Agree.setT ha.d2 t y.val) ?_ (fun h => by rw [ha.kx] at h; cases h)
    unfold MemOk
    cases hx : x.k with
    | qr v b =>
      show y.mem base m b = m b
      unfold Lab.mem
      cases hy : y.k with
      | al vy blk =>
        show setF m (base + y.i) blk b = m b
        unfold setF
        rw [if_neg (ha.rd3 v b vy blk hx hy)]
      | ef vy M1 F1 M' c3 c4 =>
        have hrd := ha.rd v b vy M1 F1 M' c3 c4 hx hy
        show afterM M1 M' m b = m b
        unfold afterM
        split
        · rfl
        · rename_i hn
          have hmb : m b = none := by
            cases hb : m b with
            | none => rfl
            | some _ => exact absurd ⟨hrd, by rw [hb]; exact (fun h => by cases h)⟩ hn
          have hF : (roGet F b).isSome := by
            unfold Can at c1
            rw [hx] at c1
            obtain ⟨_, o, blk, _, h3, _⟩ := c1
            rcases h3 with h3 | h3
            · have h3' : m b = some blk := h3
              rw [hmb] at h3'; cases h3'
            · rw [h3.2]; rfl
          have hE : M'.get b = none := by
            unfold Can at c2
            rw [hy] at c2
            obtain ⟨_, _, o, _, h3⟩ := c2
            exact h3.new b hF
          rw [hmb, hE]
      | _ => rfl
    | ef => have := ha.kx; rw [hx] at this; cases this
    | _ => trivial
  · have e1 : setT (setT t x.co.dst x.val) y.co.dst y.val = setT (setT t y.co.dst y.val) x.co.dst x.val := setT_comm ha.d3 t x.val y.val
    have e2 : y.mem base (x.mem base m) = x.mem base (y.mem base m) := by
      unfold Lab.mem
      cases hx : x.k with
      | al vx blk =>
        cases hy : y.k with
        | al vy blk' =>
          have hne : base + x.i ≠ base + y.i := fun e => ha.ne (by omega)
          funext b
          show setF (setF m (base + x.i) blk) (base + y.i) blk' b = setF (setF m (base + y.i) blk') (base + x.i) blk b
          unfold setF
          by_cases e : b = base + x.i
          · rw [if_pos e, if_neg (by rw [e]; exact hne), if_pos e]
          · rw [if_neg e, if_neg e]
        | ef vy M1 F1 M' c3 c4 =>
          have hal := (ha.al vx blk vy M1 F1 M' c3 c4 hx hy).1
          funext b
          show afterM M1 M' (setF m (base + x.i) blk) b = setF (afterM M1 M' m) (base + x.i) blk b
          unfold afterM setF
          by_cases e : b = base + x.i
          · rw [if_pos e, if_pos e, if_pos ⟨by rw [e]; exact hal, fun h => by cases h⟩]
          · rw [if_neg e, if_neg e]
        | _ => rfl
      | ef => have := ha.kx; rw [hx] at this; cases this
      | _ => rfl
    have e3 : y.ctr (x.ctr ct) = x.ctr (y.ctr ct) := by
      have hc : ∀ n, x.ctr n = n := by
        intro n
        have := ha.kx
        unfold Lab.ctr
        cases hx : x.k <;> first | rfl | (rw [hx] at this; cases this)
      rw [hc, hc]
    show SS.mk _ _ _ = SS.mk _ _ _
    rw [e1, e2, e3]
def Chain (k : Kn) (base : Nat) (F : RO) : List Lab → SS → SS → Prop
  | [], s, s' => s = s'
  | l :: r, s, s' => ∃ s1, Tn k base F l s s1 ∧ Chain k base F r s1 s'
theorem Chain.move {l2 : List Lab} {y : Lab} {s' : SS} : ∀ (l1 : List Lab) (s : SS), (∀ x ∈ l1, Apart base x y) → Chain k base F (l1 ++ y :: l2) s s' → ∃ s1, Tn k base F y s s1 ∧ Chain k base F (l1 ++ l2) s1 s'
  | [], s, _, h => h
  | x :: l1, s, ha, h => by
    obtain ⟨s1, h1, h2⟩ := h
    obtain ⟨s2, h3, h4⟩ := Chain.move l1 s1 (fun z hz => ha z (List.mem_cons_of_mem _ hz)) h2
    obtain ⟨s3, h5, h6⟩ := swap (ha x (List.mem_cons_self ..)) h1 h3
    exact ⟨s3, h5, s2, h6, h4⟩
end
end Go.Proofs.YtaigcmdogapjgaaGreatDoor.Ev
namespace Go.Proofs.YtaigcmdogapjgaaGreatDoor.Ev
open Go
def pget : List (Nat × Nat × Blk) → Nat → Option Blk
  | [], _ => none
  | (_, b, blk) :: r, x => if x = b then some blk else pget r x
theorem pget_some {p : List (Nat × Nat × Blk)} {b : Nat} {blk : Blk} (h : pget p b = some blk) : ∃ i, (i, b, blk) ∈ p := by
  induction p with
  | nil => cases h
  | cons q r ih =>
    obtain ⟨i, b', blk'⟩ := q
    unfold pget at h
    split at h
    · rename_i e
      subst e
      obtain rfl := Option.some.inj h
      exact ⟨i, by simp⟩
    · obtain ⟨j, hj⟩ := ih h
      exact ⟨j, List.mem_cons_of_mem _ hj⟩
theorem pget_none {p : List (Nat × Nat × Blk)} {b : Nat} (h : pget p b = none) : ∀ i blk, (i, b, blk) ∉ p := by
  induction p with
  | nil => intro i blk hm; cases hm
  | cons q r ih =>
    obtain ⟨i', b', blk'⟩ := q
    unfold pget at h
    split at h
    · cases h
    · rename_i e
      intro i blk hm
      rcases List.mem_cons.1 hm with hm | hm
      · injection hm with h1 h2; injection h2 with h2 h3; exact e h2
      · exact ih h i blk hm
def ND (p : List (Nat × Nat × Blk)) : Prop := p.Pairwise fun x y => x.2.1 ≠ y.2.1
theorem merge_spec (mask : Nat) : ∀ (p : List (Nat × Nat × Blk)) (M : Mem), ND p → ∃ Mm, merge mask p M = (Mm, p.filter fun x => !testBit mask x.1) ∧
    ∀ b, (pget (p.filter fun x => !testBit mask x.1) b).or (Mm.get b) = (pget p b).or (M.get b)
  | [], M, _ => ⟨M, rfl, fun _ => rfl⟩
  | (i, b, blk) :: r, M, h => by
    obtain ⟨h1, h2⟩ := List.pairwise_cons.1 h
    cases ht : testBit mask i with
    | true =>
      obtain ⟨Mm, hm, hg⟩ := merge_spec mask r (M.set b blk) h2
      refine ⟨Mm, ?_, ?_⟩
      · rw [merge, ht, cond_true, Tr.force_eq, hm]
        simp [ht]
      · intro x
        have e : ((i, b, blk) :: r).filter (fun x => !testBit mask x.1) = r.filter fun x => !testBit mask x.1 := by simp [ht]
        rw [e, hg x]
        simp only [pget]
        by_cases ex : x = b
        · subst ex
          rw [if_pos rfl]
          have hn : pget r x = none := by
            cases hp : pget r x with
            | none => rfl
            | some blk' => obtain ⟨j, hj⟩ := pget_some hp; exact absurd rfl (h1 (j, x, blk') hj)
          rw [hn, Tr.get_set, if_pos rfl]; rfl
        · rw [if_neg ex, Tr.get_set, if_neg ex]
    | false =>
      obtain ⟨Mm, hm, hg⟩ := merge_spec mask r M h2
      refine ⟨Mm, ?_, ?_⟩
      · rw [merge, ht, cond_false, hm]
        simp [ht]
      · intro x
        have e : ((i, b, blk) :: r).filter (fun x => !testBit mask x.1) = (i, b, blk) :: r.filter fun x => !testBit mask x.1 := by simp [ht]
        rw [e]
        simp only [pget]
        by_cases ex : x = b
        · rw [if_pos ex, if_pos ex]; rfl
        · rw [if_neg ex, if_neg ex]; exact hg x
def bnames (l : List (Nat × Blk)) (b : Nat) : Prop := ∃ blk, (b, blk) ∈ l
structure ProtOk (mask : Nat) (reads : List (Nat × Nat)) (F : RO) (M : Mem) (F1 : RO) (M1 : Mem) (news : List (Nat × Blk)) : Prop where
  ro : F1 = news ++ F
  get : ∀ b, M1.get b = none ∧ bnames news b ∨ M1.get b = M.get b ∧ ¬ bnames news b
  was : ∀ b blk, (b, blk) ∈ news → M.get b = some blk
  rd : ∀ i b, (i, b) ∈ reads → testBit mask i = false → M1.get b = none
theorem protect_spec (mask : Nat) : ∀ (reads : List (Nat × Nat)) (F : RO) (M : Mem) (s : List (Nat × Blk)), ∃ F1 M1 news, protect mask reads F M s = .mk F1 M1 (news ++ s) ∧ ProtOk mask reads F M F1 M1 news
  | [], F, M, s => ⟨F, M, [], rfl, ⟨rfl, fun b => .inr ⟨rfl, fun ⟨_, h⟩ => (by cases h)⟩, fun _ _ h => (by cases h), fun _ _ h => (by cases h)⟩⟩
  | (i, b) :: r, F, M, s => by
    cases ht : testBit mask i with
    | true =>
      obtain ⟨F1, M1, news, hp, hk⟩ := protect_spec mask r F M s
      refine ⟨F1, M1, news, by rw [protect, ht, cond_true]; exact hp, hk.ro, hk.get, hk.was, ?_⟩
      intro i' b' hm hf
      rcases List.mem_cons.1 hm with hm | hm
      · injection hm with h1 h2; rw [h1, ht] at hf; cases hf
      · exact hk.rd i' b' hm hf
    | false =>
      cases hb : M.get b with
      | none =>
        obtain ⟨F1, M1, news, hp, hk⟩ := protect_spec mask r F M s
        refine ⟨F1, M1, news, by rw [protect, ht, cond_false]; simp only [hb]; exact hp, hk.ro, hk.get, hk.was, ?_⟩
        intro i' b' hm hf
        rcases List.mem_cons.1 hm with hm | hm
        · injection hm with h1 h2
          rw [h2]
          rcases hk.get b with h | h
          · exact h.1
          · rw [h.1, hb]
        · exact hk.rd i' b' hm hf
      | some blk =>
        obtain ⟨F1, M1, news, hp, hk⟩ := protect_spec mask r ((b, blk) :: F) (M.del b) ((b, blk) :: s)
        refine ⟨F1, M1, news ++ [(b, blk)], ?_, by rw [hk.ro]; simp, ?_, ?_, ?_⟩
        · rw [protect, ht, cond_false]
          simp only [hb, Tr.force_eq]
          rw [hp]; simp
        · intro x
          by_cases ex : x = b
          · left
            refine ⟨?_, blk, by rw [ex]; simp⟩
            rcases hk.get x with h | h
            · exact h.1
            · rw [h.1, Tr.get_del, if_pos ex]
          · rcases hk.get x with h | h
            · exact .inl ⟨h.1, let ⟨y, hy⟩ := h.2; ⟨y, List.mem_append_left _ hy⟩⟩
            · right
              refine ⟨by rw [h.1, Tr.get_del, if_neg ex], ?_⟩
              rintro ⟨y, hy⟩
              rcases List.mem_append.1 hy with hy | hy
              · exact h.2 ⟨y, hy⟩
              · simp at hy; exact ex hy.1
        · intro x y hxy
          rcases List.mem_append.1 hxy with hxy | hxy
          · have := hk.was x y hxy
            rw [Tr.get_del] at this
            split at this
            · cases this
            · exact this
          · simp at hxy; rw [hxy.1, hxy.2]; exact hb
        · intro i' b' hm hf
          rcases List.mem_cons.1 hm with hm | hm
          · injection hm with h1 h2
            rw [h2]
            rcases hk.get b with h | h
            · exact h.1
            · rw [h.1, Tr.get_del, if_pos rfl]
          · exact hk.rd i' b' hm hf
theorem unprotect_spec (f : Nat → Option Blk) : ∀ (l : List (Nat × Blk)) (M : Mem), (∀ b blk, (b, blk) ∈ l → f b = some blk) → ∀ b, (bnames l b ∧ (unprotect l M).get b = f b) ∨ (¬ bnames l b ∧ (unprotect l M).get b = M.get b)
  | [], M, _, b => .inr ⟨fun ⟨_, h⟩ => (by cases h), rfl⟩
  | (x, blk) :: r, M, h, b => by
    rw [unprotect, Tr.force_eq]
    rcases unprotect_spec f r (M.set x blk) (fun b' blk' hm => h b' blk' (List.mem_cons_of_mem _ hm)) b with hh | hh
    · exact .inl ⟨let ⟨y, hy⟩ := hh.1; ⟨y, List.mem_cons_of_mem _ hy⟩, hh.2⟩
    · by_cases e : b = x
      · left
        refine ⟨⟨blk, by rw [e]; simp⟩, ?_⟩
        rw [hh.2, Tr.get_set, if_pos e, e, h x blk (by simp)]
      · right
        refine ⟨?_, by rw [hh.2, Tr.get_set, if_neg e]⟩
        rintro ⟨y, hy⟩
        rcases List.mem_cons.1 hy with hy | hy
        · injection hy with h1 h2; exact e h1
        · exact hh.1 ⟨y, hy⟩
theorem pendFree_iff {F : RO} {M : Mem} : ∀ (p : List (Nat × Nat × Blk)), pendFree F M p = true → ∀ i b blk, (i, b, blk) ∈ p → look F M b = none
  | [], _, _, _, _, h => by cases h
  | (j, b', blk') :: r, hp, i, b, blk, hm => by
    rw [pendFree] at hp
    cases hl : look F M b' with
    | none =>
      rw [hl] at hp
      simp only [Option.isNone_none, cond_true] at hp
      rcases List.mem_cons.1 hm with hm | hm
      · injection hm with h1 h2; injection h2 with h2 h3; rw [h2]; exact hl
      · exact pendFree_iff r hp i b blk hm
    | some y => rw [hl] at hp; simp at hp
theorem roFree_iff {M : Mem} : ∀ (F : RO), roFree M F = true → ∀ b blk, (b, blk) ∈ F → M.get b = none
  | [], _, _, _, h => by cases h
  | (b', blk') :: r, hp, b, blk, hm => by
    rw [roFree] at hp
    cases hl : M.get b' with
    | none =>
      rw [hl] at hp
      simp only [Option.isNone_none, cond_true] at hp
      rcases List.mem_cons.1 hm with hm | hm
      · injection hm with h1 h2; rw [h1]; exact hl
      · exact roFree_iff r hp b blk hm
    | some y => rw [hl] at hp; simp at hp
theorem readFree_iff {b : Nat} : ∀ (l : List (Nat × Nat)), readFree b l = true → ∀ i b', (i, b') ∈ l → b' ≠ b
  | [], _, _, _, h => by cases h
  | (j, x) :: r, hp, i, b', hm => by
    rw [readFree, beqN] at hp
    by_cases e : x = b
    · simp [e] at hp
    · simp [e] at hp
      rcases List.mem_cons.1 hm with hm | hm
      · injection hm with h1 h2; rw [h2]; exact e
      · exact readFree_iff r hp i b' hm
theorem roGet_cons (h : Nat × Blk) (F : RO) (k : Nat) : roGet (h :: F) k = if h.1 = k then some h.2 else roGet F k := by
  show Bool.rec (motive := fun _ => Option Blk) (roGet F k) (some h.2) (Nat.beq h.1 k) = _
  rw [bb, beqN]
  by_cases e : h.1 = k <;> simp [e]
theorem roGet_mem {F : RO} {b : Nat} {blk : Blk} (h : roGet F b = some blk) : (b, blk) ∈ F := by
  induction F with
  | nil => cases h
  | cons p r ih =>
    rw [roGet_cons] at h
    split at h
    · rename_i e
      obtain rfl := Option.some.inj h
      rw [← e]; simp
    · exact List.mem_cons_of_mem _ (ih h)
theorem roGet_append {F G : RO} {b : Nat} {blk : Blk} (h : roGet (F ++ G) b = some blk) : (b, blk) ∈ F ∨ roGet G b = some blk := by
  induction F with
  | nil => exact .inr h
  | cons p r ih =>
    rw [List.cons_append, roGet_cons] at h
    split at h
    · rename_i e
      obtain rfl := Option.some.inj h
      left; rw [← e]; simp
    · rcases ih h with h' | h'
      · exact .inl (List.mem_cons_of_mem _ h')
      · exact .inr h'
theorem roGet_append_none {F G : RO} {b : Nat} (h : roGet (F ++ G) b = none) : roGet G b = none ∧ ¬ bnames F b := by
  induction F with
  | nil => exact ⟨h, fun ⟨_, h⟩ => (by cases h)⟩
  | cons p r ih =>
    rw [List.cons_append, roGet_cons] at h
    split at h
    · cases h
    · rename_i e
      refine ⟨(ih h).1, ?_⟩
      rintro ⟨y, hy⟩
      rcases List.mem_cons.1 hy with hy | hy
      · rw [← hy] at e; exact e rfl
      · exact (ih h).2 ⟨y, hy⟩
theorem look_none {F : RO} {M : Mem} {b : Nat} (h : look F M b = none) : M.get b = none ∧ roGet F b = none := by
  cases hm : M.get b with
  | none => rw [look_none_M hm] at h; exact ⟨rfl, h⟩
  | some x => rw [look_some_M hm] at h; cases h
theorem look_none_of {F : RO} {M : Mem} {b : Nat} (h1 : M.get b = none) (h2 : roGet F b = none) : look F M b = none := by
  rw [look_none_M h1, h2]
theorem mergeAll_spec : ∀ (p : List (Nat × Nat × Blk)) (M : Mem), ND p → ∀ b, (mergeAll p M).get b = (pget p b).or (M.get b)
  | [], M, _, b => rfl
  | (i, x, blk) :: r, M, h, b => by
    obtain ⟨h1, h2⟩ := List.pairwise_cons.1 h
    rw [mergeAll, Tr.force_eq, mergeAll_spec r _ h2, pget]
    by_cases e : b = x
    · rw [if_pos e]
      have hn : pget r b = none := by
        cases hp : pget r b with
        | none => rfl
        | some blk' => obtain ⟨j, hj⟩ := pget_some hp; exact absurd e.symm (h1 (j, b, blk') hj)
      rw [hn, Tr.get_set, if_pos e]; rfl
    · rw [if_neg e, Tr.get_set, if_neg e]
theorem testBit_lor {a b x : Nat} (h : Nat.lor a b = b) (hx : testBit a x = true) : testBit b x = true := by
  have key : ∀ m i, testBit m i = Nat.testBit m i := by
    intro m i
    show Nat.beq (m / 2 ^ i % 2) 1 = Nat.testBit m i
    rw [beqN, Nat.testBit_eq_decide_div_mod_eq]
  rw [key] at hx ⊢
  have : (a ||| b) = b := h
  rw [← this, Nat.testBit_or, hx]; rfl
end Go.Proofs.YtaigcmdogapjgaaGreatDoor.Ev
namespace Go.Proofs.YtaigcmdogapjgaaGreatDoor.Ev
open Go
noncomputable def ssOf (t : T) (M : Mem) (c : Nat) (p : List (Nat × Nat × Blk)) : SS := ⟨t, fun b => (pget p b).or (M.get b), c⟩
structure DInv (base : Nat) (F : RO) (M : Mem) (p : List (Nat × Nat × Blk)) : Prop where
  nm : ∀ i b blk, (i, b, blk) ∈ p → b = base + i
  nd : ND p
  fr : ∀ i b blk, (i, b, blk) ∈ p → look F M b = none
def PairR (base : Nat) (x y : Lab) : Prop := testBit x.mask y.i = false ∧ x.i ≠ y.i ∧ (testBit y.mask x.i = true ∨ Apart base x y)
structure PastOk (base : Nat) (p : List (Nat × Nat × Blk)) (reads : List (Nat × Nat)) (y : Lab) : Prop where
  r1 : ∀ x b, (x, b) ∈ reads → testBit y.mask x = false → ∀ v M1 F1 M' ct ct', y.k = .ef v M1 F1 M' ct ct' → M1.get b = none
  r2 : ∀ x b, (x, b) ∈ reads → ∀ v blk, y.k = .al v blk → b ≠ base + y.i
  p1 : ∀ x b blk, (x, b, blk) ∈ p → testBit y.mask x = false → ∀ v M1 F1 M' ct ct', y.k = .ef v M1 F1 M' ct ct' → M1.get b = none ∧ roGet F1 b = none
  p2 : ∀ x b blk, (x, b, blk) ∈ p → testBit y.mask x = false → ∀ v b', y.k = .qr v b' → b' ≠ b
def Lab.trip (l : Lab) : Nat × Nat × CO := (l.i, l.mask, l.co)
theorem pair_facts {x y : Nat × Nat × CO} (h : pairOk x y = true) : testBit x.2.1 y.1 = false ∧ x.1 ≠ y.1 ∧
    ((testBit y.2.1 x.1 = true ∧ Nat.lor x.2.1 y.2.1 = y.2.1) ∨ (testBit y.2.1 x.1 = false ∧ indep x.2.2 y.2.2 = true)) := by
  unfold pairOk at h
  rw [beqN, beqN] at h
  simp only [Bool.and_eq_true, Bool.not_eq_true'] at h
  obtain ⟨h1, h2, h3⟩ := h
  refine ⟨h1, by simpa using h2, ?_⟩
  cases ht : testBit y.2.1 x.1 with
  | true => rw [ht] at h3; exact .inl ⟨rfl, by simpa using h3⟩
  | false => rw [ht] at h3; exact .inr ⟨rfl, by simpa using h3⟩
theorem pairsOk1_mem {x : Nat × Nat × CO} : ∀ {l : List (Nat × Nat × CO)}, pairsOk1 x l = true → ∀ y ∈ l, pairOk x y = true
  | [], _, _, h => by cases h
  | z :: r, h, y, hy => by
    simp only [pairsOk1, Bool.and_eq_true] at h
    rcases List.mem_cons.1 hy with rfl | hy
    · exact h.1
    · exact pairsOk1_mem h.2 y hy
theorem indep_facts {x y : CO} (h : indep x y = true) : isE x = false ∧ dstIn y.ps x.dst = false ∧ dstIn x.ps y.dst = false ∧ dstSame x.dst y.dst = false := by
  unfold indep at h
  simpa using h
theorem PairR.mk' {base : Nat} {x y : Lab} (h : pairOk x.trip y.trip = true) (hk : x.k.isEf = false)
    (rd : testBit y.mask x.i = false → ∀ vx b v M1 F1 M' ct ct', x.k = .qr vx b → y.k = .ef v M1 F1 M' ct ct' → M1.get b = none)
    (al : testBit y.mask x.i = false → ∀ vx blk v M1 F1 M' ct ct', x.k = .al vx blk → y.k = .ef v M1 F1 M' ct ct' → M1.get (base + x.i) = none ∧ roGet F1 (base + x.i) = none)
    (rd2 : testBit y.mask x.i = false → ∀ vx blk v b, x.k = .al vx blk → y.k = .qr v b → b ≠ base + x.i)
    (rd3 : ∀ vx b v blk, x.k = .qr vx b → y.k = .al v blk → b ≠ base + y.i) : PairR base x y := by
  obtain ⟨h1, h2, h3⟩ := pair_facts h
  refine ⟨h1, h2, ?_⟩
  rcases h3 with ⟨h3, _⟩ | ⟨h3, h4⟩
  · exact .inl h3
  · obtain ⟨_, a2, a3, a4⟩ := indep_facts h4
    exact .inr ⟨h2, hk, a2, a3, a4, rd h3, al h3, rd2 h3, rd3⟩
section
variable {k : Kn} {base : Nat} {t t1 : T} {M M1 : Mem} {c c1 : Nat} {p p1 : List (Nat × Nat × Blk)} {reads reads1 : List (Nat × Nat)} {i mask : Nat} {co : CO}
def StepOk (k : Kn) (base : Nat) (h : Nat × Nat × CO) (t : T) (M : Mem) (c : Nat) (p : List (Nat × Nat × Blk)) (reads : List (Nat × Nat)) (t1 : T) (M1 : Mem) (c1 : Nat) (p1 : List (Nat × Nat × Blk)) (reads1 : List (Nat × Nat)) : Prop :=
  ∃ l : Lab, l.trip = h ∧ Tn k base k.F l (ssOf t M c p) (ssOf t1 M1 c1 p1) ∧ DInv base k.F M1 p1 ∧ (∀ q ∈ p1, q.1 = h.1 ∨ ∃ q' ∈ p, q'.1 = q.1) ∧ PastOk base p reads l ∧
    ∀ y : Lab, pairOk h y.trip = true → PastOk base p1 reads1 y → PastOk base p reads y ∧ PairR base l y
theorem pget_free {F : RO} (hI : DInv base F M p) {b : Nat} {blk : Blk} (h : look F M b = some blk) : pget p b = none := by
  cases hp : pget p b with
  | none => rfl
  | some x =>
    obtain ⟨j, hj⟩ := pget_some hp
    rw [hI.fr _ _ _ hj] at h; cases h
theorem quiet_step (hI : DInv base k.F M p) {lk : LK} {v : V} (hv : Lab.val ⟨i, mask, co, lk⟩ = v) (hm : ∀ m, Lab.mem base ⟨i, mask, co, lk⟩ m = m) (hc : Lab.ctr ⟨i, mask, co, lk⟩ c = c)
    (hcan : Can k base k.F ⟨i, mask, co, lk⟩ (ssOf t M c p)) (hne : lk.isEf = false) (hna : ∀ v blk, lk ≠ .al v blk)
    (hrd : ∀ v b, lk = .qr v b → (i, b) ∈ reads1 ∧ ∀ blk x, (x, b, blk) ∉ p) (hsub : ∀ q ∈ reads, q ∈ reads1) :
    StepOk k base (i, mask, co) t M c p reads (setT t co.dst v) M c p reads1 := by
  refine ⟨⟨i, mask, co, lk⟩, rfl, Tn_iff.2 ⟨hcan, ?_⟩, hI, fun q hq => .inr ⟨q, hq, rfl⟩, ⟨?_, ?_, ?_, ?_⟩, ?_⟩
  · show ssOf _ _ _ _ = SS.mk _ _ _
    rw [hv, hm]
    show SS.mk _ _ _ = SS.mk _ _ (Lab.ctr _ c)
    rw [hc]; rfl
  · intro x b _ _ v M1 F1 M' ct ct' e
    have e' : lk = _ := e
    rw [e'] at hne; cases hne
  · intro x b _ v blk e; exact absurd e (hna v blk)
  · intro x b blk _ _ v M1 F1 M' ct ct' e
    have e' : lk = _ := e
    rw [e'] at hne; cases hne
  · intro x b blk hx _ v b' e
    rintro rfl
    exact (hrd v b' e).2 blk x hx
  · intro y hp hy
    refine ⟨⟨fun x b hx => hy.r1 x b (hsub _ hx), fun x b hx => hy.r2 x b (hsub _ hx), hy.p1, hy.p2⟩, ?_⟩
    refine .mk' hp hne ?_ ?_ ?_ ?_
    · intro ht vx b v M1 F1 M' ct ct' e1 e2
      exact hy.r1 i b (hrd vx b e1).1 ht v M1 F1 M' ct ct' e2
    · intro ht vx blk v M1 F1 M' ct ct' e1; exact absurd e1 (hna _ _)
    · intro ht vx blk v b e1; exact absurd e1 (hna _ _)
    · intro vx b v blk e1 e2
      exact hy.r2 i b (hrd vx b e1).1 v blk e2
theorem isNone_iff {α : Type} {o : Option α} (h : o.isNone = true) : o = none := by cases o <;> simp_all
theorem dOp_step (hI : DInv base k.F M p) (hi : ∀ q ∈ p, q.1 ≠ i) (h : dOp k base (i, mask, co) (.mk t M c p reads) = some (.mk t1 M1 c1 p1 reads1)) :
    StepOk k base (i, mask, co) t M c p reads t1 M1 c1 p1 reads1 := by
  obtain ⟨dst, op, g⟩ := co
  unfold dOp at h
  dsimp only at h
  cases hw : wanted t g with
  | false =>
    rw [hw, cond_false, Tr.force_eq] at h
    injection h with h; injection h with e1 e2 e3 e4 e5
    subst e1 e2 e3 e4 e5
    exact quiet_step (lk := .skip) hI rfl (fun _ => rfl) rfl hw rfl (fun _ _ h => by cases h) (fun _ _ h => by cases h) (fun _ h => h)
  | true =>
    rw [hw, cond_true] at h
    cases op with
    | q o =>
      have h' : d_q1 i dst t M c p reads (d_q0 o k.F M t (qop o k.F M t)) = some (.mk t1 M1 c1 p1 reads1) := h
      cases hq : qop o k.F M t with
      | f => rw [hq] at h'; cases (show (none : Option DS) = some _ from h')
      | v x0 =>
        rw [hq] at h'
        have h2 : d_q1 i dst t M c p reads (qop o [] .e t) = some (.mk t1 M1 c1 p1 reads1) := h'
        cases hq2 : qop o [] .e t with
        | f => rw [hq2] at h2; cases (show (none : Option DS) = some _ from h2)
        | v x =>
          rw [hq2, d_q1, Tr.force_eq] at h2
          injection h2 with h2; injection h2 with e1 e2 e3 e4 e5
          subst e1 e2 e3 e4 e5
          exact quiet_step (lk := .qv x) hI rfl (fun _ => rfl) rfl ⟨hw, o, rfl, by show (qop o [] .e t).val = _; rw [hq2]; rfl⟩ rfl (fun _ _ h => by cases h) (fun _ _ h => by cases h) (fun _ h => h)
        | r x b =>
          rw [hq2, d_q1, Tr.force_eq] at h2
          injection h2 with h2; injection h2 with e1 e2 e3 e4 e5
          subst e1 e2 e3 e4 e5
          exact quiet_step (lk := .qv x) hI rfl (fun _ => rfl) rfl ⟨hw, o, rfl, by show (qop o [] .e t).val = _; rw [hq2]; rfl⟩ rfl (fun _ _ h => by cases h) (fun _ _ h => by cases h) (fun _ h => List.mem_cons_of_mem _ h)
      | r x0 b =>
        rw [hq] at h'
        have h2 : d_q1 i dst t M c p reads (d_q2 o t b (look k.F M b)) = some (.mk t1 M1 c1 p1 reads1) := h'
        cases hl : look k.F M b with
        | none => rw [hl] at h2; cases (show (none : Option DS) = some _ from h2)
        | some blk =>
          rw [hl] at h2
          have h3 : d_q1 i dst t M c p reads (rOnly b (qop o [(b, blk)] .e t)) = some (.mk t1 M1 c1 p1 reads1) := h2
          have hpg := pget_free hI hl
          have hmem : ((pget p b).or (M.get b) = some blk ∨ ((pget p b).or (M.get b) = none ∧ roGet k.F b = some blk)) := by
            rw [hpg]
            cases hm : M.get b with
            | none => rw [look_none_M hm] at hl; exact .inr ⟨rfl, hl⟩
            | some y => rw [look_some_M hm] at hl; exact .inl hl
          have fin : ∀ x, (qop o [(b, blk)] .e t).val = some x → d_q1 i dst t M c p reads (.r x b) = some (.mk t1 M1 c1 p1 reads1) → StepOk k base (i, mask, .mk dst (.q o) g) t M c p reads t1 M1 c1 p1 reads1 := by
            intro x hx h4
            rw [d_q1, Tr.force_eq] at h4
            injection h4 with h4; injection h4 with e1 e2 e3 e4 e5
            subst e1 e2 e3 e4 e5
            refine quiet_step (lk := .qr x b) hI rfl (fun _ => rfl) rfl ⟨hw, o, blk, rfl, hmem, hx⟩ rfl (fun _ _ h => by cases h) ?_ (fun _ h => List.mem_cons_of_mem _ h)
            intro v b' e
            injection e with e1 e2
            subst e1 e2
            exact ⟨by simp, fun blk x => pget_none hpg x blk⟩
          cases hq2 : qop o [(b, blk)] .e t with
          | f => rw [hq2] at h3; cases (show (none : Option DS) = some _ from h3)
          | v x => rw [hq2] at h3; exact fin x (by rw [hq2]; rfl) h3
          | r x b2 => rw [hq2] at h3; exact fin x (by rw [hq2]; rfl) h3
    | a o =>
      have h' : fN (Nat.add base i) (fun b => bif (look k.F M b).isNone && readFree b reads then d_a1 i b dst t M c p reads (aop o b t) else none) = some (.mk t1 M1 c1 p1 reads1) := h
      rw [fN_eq] at h'
      cases hb : ((look k.F M (Nat.add base i)).isNone && readFree (Nat.add base i) reads) with
      | false => rw [hb] at h'; cases h'
      | true =>
        rw [hb, cond_true] at h'
        rw [Bool.and_eq_true] at hb
        have hlk := isNone_iff hb.1
        have hrf := readFree_iff _ hb.2
        cases ha : aop o (Nat.add base i) t with
        | none => rw [ha] at h'; cases h'
        | some pr =>
          obtain ⟨v, blk⟩ := pr
          rw [ha, d_a1, Tr.force_eq] at h'
          injection h' with h'; injection h' with e1 e2 e3 e4 e5
          subst e1 e2 e3 e4 e5
          refine ⟨⟨i, mask, .mk dst (.a o) g, .al v blk⟩, rfl, Tn_iff.2 ⟨⟨hw, o, rfl, ha⟩, ?_⟩, ⟨?_, ?_, ?_⟩, ?_, ⟨?_, ?_, ?_, ?_⟩, ?_⟩
          · show SS.mk _ _ _ = SS.mk _ _ _
            congr 1
            funext b
            show (pget ((i, base + i, blk) :: p) b).or (M.get b) = setF (fun b => (pget p b).or (M.get b)) (base + i) blk b
            unfold setF
            rw [pget]
            by_cases e : b = base + i
            · rw [if_pos e, if_pos e]; rfl
            · rw [if_neg e, if_neg e]
          · intro j b blk' hm
            rcases List.mem_cons.1 hm with hm | hm
            · injection hm with h1 h2; injection h2 with h2 h3; rw [h1, h2]; rfl
            · exact hI.nm j b blk' hm
          · refine List.pairwise_cons.2 ⟨?_, hI.nd⟩
            rintro ⟨j, b, blk'⟩ hm e
            have e1 := hI.nm j b blk' hm
            have e2 := hi _ hm
            have e3 : base + i = b := e
            exact e2 (by show j = i; omega)
          · intro j b blk' hm
            rcases List.mem_cons.1 hm with hm | hm
            · injection hm with h1 h2; injection h2 with h2 h3; rw [h2]; exact hlk
            · exact hI.fr j b blk' hm
          · intro q hq
            rcases List.mem_cons.1 hq with hq | hq
            · left; rw [hq]
            · exact .inr ⟨q, hq, rfl⟩
          · intro x b _ _ v M1 F1 M' ct ct' e; cases e
          · intro x b hx v blk e; exact hrf x b hx
          · intro x b blk _ _ v M1 F1 M' ct ct' e; cases e
          · intro x b blk _ _ v b' e; cases e
          · intro y hp hy
            refine ⟨⟨hy.r1, hy.r2, fun x b blk hx => hy.p1 x b blk (List.mem_cons_of_mem _ hx), fun x b blk hx => hy.p2 x b blk (List.mem_cons_of_mem _ hx)⟩, ?_⟩
            refine .mk' hp rfl (by intro _ vx b v M1 F1 M' ct ct' e1; cases e1) ?_ ?_ (by intro vx b v blk e1; cases e1)
            · intro ht vx blk' v M1 F1 M' ct ct' e1 e2
              exact hy.p1 i (base + i) blk (List.mem_cons_self ..) ht v M1 F1 M' ct ct' e2
            · intro ht vx blk' v b e1 e2
              exact hy.p2 i (base + i) blk (List.mem_cons_self ..) ht v b e2
    | e o =>
      have h' : d_e0 o k mask dst t c reads (merge mask p M) = some (.mk t1 M1 c1 p1 reads1) := h
      obtain ⟨Mm, hmg, hmget⟩ := merge_spec mask p M hI.nd
      rw [hmg] at h'
      obtain ⟨F1, Ma, news, hpr, hP⟩ := protect_spec mask reads k.F Mm []
      rw [d_e0, hpr, d_e1] at h'
      rw [List.append_nil] at h'
      cases hpf : pendFree F1 Ma (p.filter fun x => !testBit mask x.1) with
      | false => rw [hpf] at h'; cases h'
      | true =>
        rw [hpf, cond_true] at h'
        cases hE : doE o (knF k F1) Ma c t with
        | f => rw [hE] at h'; cases (show (none : Option DS) = some _ from h')
        | k v Mr cr =>
          rw [hE, d_e2] at h'
          cases hck : (roFree Mr F1 && pendFree F1 Mr (p.filter fun x => !testBit mask x.1)) with
          | false => rw [hck] at h'; cases h'
          | true =>
            rw [hck, cond_true, Tr.force_eq, Tr.force_eq] at h'
            injection h' with h'; injection h' with e1 e2 e3 e4 e5
            subst e1 e2 e3 e4 e5
            rw [Bool.and_eq_true] at hck
            have hro := roFree_iff _ hck.1
            have hpa := pendFree_iff _ hck.2
            have hpb := pendFree_iff _ hpf
            have hmem : ∀ q : Nat × Nat × Blk, q ∈ p.filter (fun x => !testBit mask x.1) ↔ q ∈ p ∧ testBit mask q.1 = false := by
              intro q; rw [List.mem_filter]; simp
            have hun := unprotect_spec (fun b => Mm.get b) news Mr hP.was
            have hnoF : ∀ b, (∀ blk x, (x, b, blk) ∉ p.filter fun x => !testBit mask x.1) → pget (p.filter fun x => !testBit mask x.1) b = none := by
              intro b hb
              cases hp : pget (p.filter fun x => !testBit mask x.1) b with
              | none => rfl
              | some blk => obtain ⟨j, hj⟩ := pget_some hp; exact absurd hj (hb blk j)
            have hnone : ∀ b, (Ma.get b ≠ none ∨ roGet F1 b ≠ none) → pget (p.filter fun x => !testBit mask x.1) b = none := by
              intro b hb
              refine hnoF b fun blk x hx => ?_
              obtain ⟨g1, g2⟩ := look_none (hpb x b blk hx)
              rcases hb with hb | hb
              · exact hb g1
              · exact hb g2
            have hm : ∀ b, (ssOf t M c p).m b = (pget (p.filter fun x => !testBit mask x.1) b).or (Mm.get b) := fun b => (hmget b).symm
            refine ⟨⟨i, mask, .mk dst (.e o) g, .ef v Ma F1 Mr c cr⟩, rfl, Tn_iff.2 ⟨⟨hw, rfl, o, rfl, ⟨hE, ?_, ?_, ?_⟩⟩, ?_⟩, ⟨?_, ?_, ?_⟩, ?_, ⟨?_, ?_, ?_, ?_⟩, ?_⟩
            · intro b blk hb
              rw [hm b, hnone b (.inl (by rw [hb]; exact (fun h => by cases h)))]
              rcases hP.get b with hg | hg
              · rw [hg.1] at hb; cases hb
              · show Mm.get b = some blk
                rw [← hg.1]; exact hb
            · intro b blk hb
              have hb' := hb
              rw [hP.ro] at hb'
              rcases roGet_append hb' with hn | hF
              · left
                refine ⟨?_, ?_⟩
                · rw [hm b, hnone b (.inr (by rw [hb]; exact (fun h => by cases h)))]
                  exact hP.was b blk hn
                · rcases hP.get b with hg | hg
                  · exact hg.1
                  · exact absurd ⟨blk, hn⟩ hg.2
              · exact .inr hF
            · intro b hb
              obtain ⟨blk, hblk⟩ := Option.isSome_iff_exists.1 hb
              refine hro b blk ?_
              rw [hP.ro]; exact List.mem_append_right _ (roGet_mem hblk)
            · show SS.mk _ _ _ = SS.mk _ _ _
              congr 1
              funext b
              show (pget (p.filter fun x => !testBit mask x.1) b).or ((unprotect news Mr).get b) = afterM Ma Mr (ssOf t M c p).m b
              unfold afterM
              rw [hm b]
              cases hpg : pget (p.filter fun x => !testBit mask x.1) b with
              | some blk =>
                obtain ⟨j, hj⟩ := pget_some hpg
                rw [if_pos ⟨(look_none (hpb j b blk hj)).1, by simp⟩]; rfl
              | none =>
                show (unprotect news Mr).get b = if Ma.get b = none ∧ Mm.get b ≠ none then Mm.get b else Mr.get b
                rcases hun b with hu | hu
                · rw [hu.2]
                  obtain ⟨blk, hn⟩ := hu.1
                  have h1 := hP.was b blk hn
                  rcases hP.get b with hg | hg
                  · rw [if_pos ⟨hg.1, by rw [h1]; exact (fun h => by cases h)⟩]
                  · exact absurd ⟨blk, hn⟩ hg.2
                · rw [hu.2, if_neg]
                  rintro ⟨g1, g2⟩
                  rcases hP.get b with hg | hg
                  · exact hu.1 hg.2
                  · rw [hg.1] at g1; exact g2 g1
            · intro j b blk hj; exact hI.nm j b blk ((hmem _).1 hj).1
            · exact hI.nd.sublist List.filter_sublist
            · intro j b blk hj
              obtain ⟨g1, g2⟩ := look_none (hpa j b blk hj)
              rw [hP.ro] at g2
              obtain ⟨g3, g4⟩ := roGet_append_none g2
              refine look_none_of ?_ g3
              rcases hun b with hu | hu
              · exact absurd hu.1 g4
              · rw [hu.2]; exact g1
            · intro q hq; exact .inr ⟨q, ((hmem _).1 hq).1, rfl⟩
            · intro x b hx ht v M1 F1' M' ct ct' e
              injection e with e1 e2 e3 e4 e5 e6
              subst e2
              exact hP.rd x b hx ht
            · intro x b hx v blk e; cases e
            · intro x b blk hx ht v M1 F1' M' ct ct' e
              injection e with e1 e2 e3 e4 e5 e6
              subst e2 e3
              exact look_none (hpb x b blk ((hmem _).2 ⟨hx, ht⟩))
            · intro x b blk hx ht v b' e; cases e
            · intro y hp hy
              obtain ⟨f1, f2, f3⟩ := pair_facts hp
              have f4 : testBit y.mask i = true ∧ Nat.lor mask y.mask = y.mask := by
                rcases f3 with f3 | f3
                · exact f3
                · have := (indep_facts f3.2).1
                  cases (show true = false from this)
              refine ⟨⟨hy.r1, hy.r2, ?_, ?_⟩, ⟨f1, f2, .inl f4.1⟩⟩
              · intro x b blk hx ht
                refine hy.p1 x b blk ((hmem _).2 ⟨hx, ?_⟩) ht
                cases htm : testBit mask x with
                | false => rfl
                | true => rw [testBit_lor f4.2 htm] at ht; cases ht
              · intro x b blk hx ht
                refine hy.p2 x b blk ((hmem _).2 ⟨hx, ?_⟩) ht
                cases htm : testBit mask x with
                | false => rfl
                | true => rw [testBit_lor f4.2 htm] at ht; cases ht
theorem dOps_chain : ∀ (C : List (Nat × Nat × CO)) (t : T) (M : Mem) (c : Nat) (p : List (Nat × Nat × Blk)) (reads : List (Nat × Nat)) (t' : T) (M' : Mem) (c' : Nat) (p' : List (Nat × Nat × Blk)) (reads' : List (Nat × Nat)),
    dOps k base C (.mk t M c p reads) = some (.mk t' M' c' p' reads') → pairsOk C = true → DInv base k.F M p → (∀ q ∈ p, ∀ h ∈ C, q.1 ≠ h.1) →
    ∃ L : List Lab, L.map Lab.trip = C ∧ Chain k base k.F L (ssOf t M c p) (ssOf t' M' c' p') ∧ L.Pairwise (PairR base) ∧ DInv base k.F M' p' ∧ ∀ y ∈ L, PastOk base p reads y
  | [], t, M, c, p, reads, t', M', c', p', reads', h, _, hI, _ => by
    have h' : some (DS.mk t M c p reads) = some (.mk t' M' c' p' reads') := h
    injection h' with h'; injection h' with e1 e2 e3 e4 e5
    subst e1 e2 e3 e4 e5
    exact ⟨[], rfl, rfl, .nil, hI, fun y hy => by cases hy⟩
  | (i, mask, co) :: C, t, M, c, p, reads, t', M', c', p', reads', h, hp, hI, hn => by
    rw [dOps] at h
    cases hs : dOp k base (i, mask, co) (.mk t M c p reads) with
    | none => rw [hs] at h; cases h
    | some s1 =>
      obtain ⟨t1, M1, c1, p1, reads1⟩ := s1
      rw [hs] at h
      simp only [pairsOk, Bool.and_eq_true] at hp
      obtain ⟨l, hl, hT, hI1, hsub, hpast, hrest⟩ := dOp_step hI (fun q hq => hn q hq _ (List.mem_cons_self ..)) hs
      have hpair := fun y hy => pairsOk1_mem hp.1 y hy
      obtain ⟨L, hL, hC, hPW, hI', hPO⟩ := dOps_chain C t1 M1 c1 p1 reads1 t' M' c' p' reads' h hp.2 hI1 (by
        intro q hq y hy
        rcases hsub q hq with e | ⟨q', hq', e⟩
        · rw [e]; exact (pair_facts (hpair y hy)).2.1
        · rw [← e]; exact hn q' hq' y (List.mem_cons_of_mem _ hy))
      have hyC : ∀ y ∈ L, y.trip ∈ C := fun y hy => by rw [← hL]; exact List.mem_map_of_mem hy
      refine ⟨l :: L, by rw [List.map_cons, hl, hL], ⟨_, hT, hC⟩, List.pairwise_cons.2 ⟨fun y hy => (hrest y (hpair _ (hyC y hy)) (hPO y hy)).2, hPW⟩, hI', ?_⟩
      intro y hy
      rcases List.mem_cons.1 hy with rfl | hy
      · exact hpast
      · exact (hrest y (hpair _ (hyC y hy)) (hPO y hy)).1
end
end Go.Proofs.YtaigcmdogapjgaaGreatDoor.Ev
