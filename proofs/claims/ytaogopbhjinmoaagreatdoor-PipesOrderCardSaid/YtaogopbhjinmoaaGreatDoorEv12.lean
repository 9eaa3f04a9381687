/- What is proved here: pieces of the evaluator's soundness: if the evaluator comes to a value, the model's run comes to it, for every world and tape; no conditions beyond the hypotheses of each theorem. -/
import Derived.Test.YtaogopbhjinmoaaGreatDoorEv11
set_option linter.unusedSimpArgs false
set_option linter.unusedVariables false
set_option linter.defProp false
namespace Go.Proofs.YtaogopbhjinmoaaGreatDoor.Ev
open Go
section
variable {Φ : Nat → Option CF} {rd : Option Nat} {fn : Nat} {F : RO}
theorem roFree_del {M : Mem} (b : Nat) : ∀ {F : RO}, roFree M F = true → roFree (M.del b) F = true
  | [], _ => rfl
  | (b', x) :: F, h => by
    rw [roFree_cons, Bool.and_eq_true] at h
    rw [roFree_cons, roFree_del b h.2, Tr.get_del]
    split
    · rfl
    · rw [h.1]; rfl
def PutDP (o : Option V) (p : Option Pos) (base : Nat) (r : List (Nat × Nat × CO)) (k : Kn) (t : T) (M : Mem) (c : Nat) (reads : List (Nat × Nat)) (R : DS → Prop) : Prop := match o with
  | some v => WpD base r k (.mk (setT t p v) M c [] reads) R
  | none => False
theorem putDP (v : V) (p : Option Pos) (base : Nat) (r : List (Nat × Nat × CO)) (k : Kn) (t : T) (M : Mem) (c : Nat) (reads : List (Nat × Nat)) (R : DS → Prop) : PutDP (some v) p base r k t M c reads R = WpD base r k (.mk (setT t p v) M c [] reads) R := Eq.trans rfl (Eq.refl _)
theorem wd_gT {base i mask : Nat} {dst : Option Pos} {o : OK} {g : Pos} {want : Bool} {r : List (Nat × Nat × CO)} {k : Kn} {t : T} {M : Mem} {c : Nat} {pend : List (Nat × Nat × Blk)} {reads : List (Nat × Nat)} {R : DS → Prop} (hg : getT t g = .b want) :
    WpD base ((i, mask, .mk dst o (some (g, want))) :: r) k (.mk t M c pend reads) R = WpD base ((i, mask, .mk dst o none) :: r) k (.mk t M c pend reads) R := by
  have hw : wanted t (some (g, want)) = true := by
    show wanted1 want (getT t g) = _
    rw [hg]; cases want <;> rfl
  have hs : dOp k base (i, mask, .mk dst o (some (g, want))) (.mk t M c pend reads) = dOp k base (i, mask, .mk dst o none) (.mk t M c pend reads) := by
    show (bif wanted t (some (g, want)) then _ else _) = _
    rw [hw]; rfl
  apply propext
  rw [wd_cons, wd_cons, hs]
theorem wd_gF {base i mask : Nat} {dst : Option Pos} {o : OK} {g : Pos} {want : Bool} {r : List (Nat × Nat × CO)} {k : Kn} {t : T} {M : Mem} {c : Nat} {pend : List (Nat × Nat × Blk)} {reads : List (Nat × Nat)} {R : DS → Prop} (hg : getT t g = .b (!want)) :
    WpD base ((i, mask, .mk dst o (some (g, want))) :: r) k (.mk t M c pend reads) R = WpD base r k (.mk (setT t dst undef) M c pend reads) R := by
  have hw : wanted t (some (g, want)) = false := by
    show wanted1 want (getT t g) = _
    rw [hg]; cases want <;> rfl
  have hs : dOp k base (i, mask, .mk dst o (some (g, want))) (.mk t M c pend reads) = some (.mk (setT t dst undef) M c pend reads) := by
    show (bif wanted t (some (g, want)) then _ else (setT t dst undef).force fun t => some (DS.mk t M c pend reads)) = _
    rw [hw]
    show (setT t dst undef).force (fun t => some (DS.mk t M c pend reads)) = _
    rw [Tr.force_eq]
  apply propext
  rw [wd_cons, hs]
  constructor
  · rintro ⟨s', h, q⟩; obtain rfl := Option.some.inj h; exact q
  · exact fun q => ⟨_, rfl, q⟩
theorem wd_gU {base i mask : Nat} {dst : Option Pos} {o : OK} {g : Pos} {want : Bool} {r : List (Nat × Nat × CO)} {k : Kn} {t : T} {M : Mem} {c : Nat} {pend : List (Nat × Nat × Blk)} {reads : List (Nat × Nat)} {R : DS → Prop} (hg : getT t g = undef) :
    WpD base ((i, mask, .mk dst o (some (g, want))) :: r) k (.mk t M c pend reads) R = WpD base r k (.mk (setT t dst undef) M c pend reads) R := by
  have hw : wanted t (some (g, want)) = false := by
    show wanted1 want (getT t g) = _
    rw [hg]; rfl
  have hs : dOp k base (i, mask, .mk dst o (some (g, want))) (.mk t M c pend reads) = some (.mk (setT t dst undef) M c pend reads) := by
    show (bif wanted t (some (g, want)) then _ else (setT t dst undef).force fun t => some (DS.mk t M c pend reads)) = _
    rw [hw]
    show (setT t dst undef).force (fun t => some (DS.mk t M c pend reads)) = _
    rw [Tr.force_eq]
  apply propext
  rw [wd_cons, hs]
  constructor
  · rintro ⟨s', h, q⟩; obtain rfl := Option.some.inj h; exact q
  · exact fun q => ⟨_, rfl, q⟩
theorem ldn_dq (n : Nat) (b o : Nat) (M : Mem) {vs : List V} (h : loadN F M b o n = some vs) (t : T) (x : X) (hx : x.ev t = .p b o) : dqR (.ldn n x) F M t = .r (.g vs) b := by
  have hblk : ∃ blk, look F M b = some blk := by
    unfold loadN at h
    cases hl : look F M b with
    | none => rw [hl] at h; cases h
    | some blk => exact ⟨blk, rfl⟩
  obtain ⟨blk, hb⟩ := hblk
  have q : ∀ F' M', loadN F' M' b o n = some vs → qop (.ldn n x) F' M' t = .r (.g vs) b := by
    intro F' M' h'
    show (onP (x.ev t) .f fun b o => qgb b (loadN F' M' b o n)) = _
    rw [hx]
    show qgb b (loadN F' M' b o n) = _
    rw [h']; rfl
  show d_q0 (.ldn n x) F M t (qop (.ldn n x) F M t) = _
  rw [q F M h]
  show d_q2 (.ldn n x) t b (look F M b) = _
  rw [hb]
  show rOnly b (qop (.ldn n x) [(b, blk)] .e t) = _
  have h' : loadN [(b, blk)] .e b o n = some vs := by
    unfold loadN at h ⊢
    rw [hb] at h
    rw [look_none_M (show (Tr.e : Mem).get b = none from rfl), roGet_cons, if_pos rfl]
    exact h
  rw [q _ _ h']; rfl
noncomputable def ldnQ (n : Nat) (X : V) (F : RO) (M : Mem) : QR := dqR (.ldn n (.c X)) F M .e
def ldnR (b : Nat) : Option (List V) → QR
  | some vs => .r (.g vs) b
  | none => .f
theorem ldnR_some (b : Nat) (vs : List V) : ldnR b (some vs) = .r (.g vs) b := Eq.trans rfl (Eq.refl _)
theorem dq_ldn0 (n : Nat) (x : X) (M : Mem) (t : T) : dqR (.ldn n x) F M t = ldnQ n (x.ev t) F M := Eq.trans rfl (Eq.refl _)
theorem ldnQ_p (n b o : Nat) (M : Mem) : ldnQ n (.p b o) F M = ldnR b (loadN F M b o n) := by
  cases h : loadN F M b o n with
  | some vs => exact ldn_dq n b o M h .e _ rfl
  | none =>
    show d_q0 (.ldn n (.c (.p b o))) F M .e (qgb b (loadN F M b o n)) = _
    rw [h]; rfl
theorem dq_pk (c a b : X) (M : Mem) (t : T) : dqR (.pk c a b) F M t = oV (pkV (c.ev t) (a.ev t) (b.ev t)) := by
  refine (dq_of ?_).trans (congrArg oV (v_pk (F := F) c a b M t))
  intro F' M'
  show (onB (c.ev t) QR.f fun x => Bool.rec (motive := fun _ => QR) (.v (b.ev t)) (.v (a.ev t)) x) = oV (onB (c.ev t) QR.f fun x => Bool.rec (motive := fun _ => QR) (.v (b.ev t)) (.v (a.ev t)) x).val
  cases c.ev t with
  | b x => cases x <;> rfl
  | _ => rfl
theorem dq_un (op : UnOp) (x : X) (M : Mem) (t : T) : dqR (.un op x) F M t = oV (unV op (x.ev t)) := by
  refine (dq_of ?_).trans (congrArg oV (v_un (F := F) op x M t))
  intro F' M'
  refine qv_oV ?_
  show (qop (.un op x) F' M' t = .f ∨ _)
  cases op with
  | neg =>
    show ((onI (x.ev t) QR.f fun k n => vI k (wr k (Int.sub 0 n))) = .f ∨ ∃ y, (onI (x.ev t) QR.f fun k n => vI k (wr k (Int.sub 0 n))) = .v y)
    cases x.ev t with
    | i k n => exact .inr ⟨_, vI_eq _ _⟩
    | _ => exact .inl rfl
  | not =>
    show ((onB (x.ev t) QR.f fun b => vB (notB b)) = .f ∨ ∃ y, (onB (x.ev t) QR.f fun b => vB (notB b)) = .v y)
    cases x.ev t with
    | b b => exact .inr ⟨_, vB_eq _⟩
    | _ => exact .inl rfl
  | xor =>
    show ((onI (x.ev t) QR.f fun k n => b_bit k (Nat.xor (Nat.sub (Nat.pow 2 (kbits k)) 1) (toU k n))) = .f ∨ ∃ y, (onI (x.ev t) QR.f fun k n => b_bit k (Nat.xor (Nat.sub (Nat.pow 2 (kbits k)) 1) (toU k n))) = .v y)
    cases x.ev t with
    | i k n => exact .inr ⟨_, vI_eq _ _⟩
    | _ => exact .inl rfl
  | plus => exact .inl rfl
def shOk1 : Sh → Bool
  | .ptr => false
  | .agg _ => false
  | _ => true
def shOks : List (Nat × Sh) → Bool
  | [] => true
  | (_, s) :: r => shOk1 s && shOks r
def shOk : Sh → Bool
  | .ptr => false
  | .agg ks => shOks ks
  | _ => true
theorem eq1_free {sh : Sh} (h : shOk1 sh = true) (F' : RO) (M M' : Mem) (lit : Bool) (x y : V) : eq1 F' M' sh lit x y = eq1 F M sh lit x y := by
  cases sh <;> first | rfl | cases h
theorem eqAll_free (F' : RO) (M M' : Mem) (xs ys : List V) : ∀ {ks : List (Nat × Sh)}, shOks ks = true → eqAll F' M' xs ys ks = eqAll F M xs ys ks
  | [], _ => rfl
  | (o, s) :: r, h => by
    have h' : (shOk1 s && shOks r) = true := h
    rw [Bool.and_eq_true] at h'
    rw [eqAll_cons, eqAll_cons, eqAll_free F' M M' xs ys h'.2]
    congr 1
    cases xs[o]? with
    | none => rfl
    | some x =>
      cases ys[o]? with
      | none => rfl
      | some y => exact eq1_free h'.1 F' M M' false x y
theorem eqV_free {sh : Sh} (h : shOk sh = true) (F' : RO) (M M' : Mem) (lit : Bool) (x y : V) : eqV F' M' sh lit x y = eqV F M sh lit x y := by
  cases sh with
  | agg ks =>
    show eqAgg F' M' ks x y = eqAgg F M ks x y
    unfold eqAgg
    cases x <;> first | rfl | skip
    cases y <;> first | rfl | skip
    exact eqAll_free F' M M' _ _ h
  | ptr => cases h
  | _ => rfl
theorem dq_eq (neg : Bool) (sh : Sh) (lit : Bool) (x y : X) (M : Mem) (t : T) (h : shOk sh = true) : dqR (.eq neg sh lit x y) F M t = oV (negO neg (eqV F M sh lit (x.ev t) (y.ev t))) := by
  refine (dq_of ?_).trans (congrArg oV (v_eq (F := F) neg sh lit x y M t))
  intro F' M'
  show q_eqr neg (eqV F' M' sh lit (x.ev t) (y.ev t)) = oV (q_eqr neg (eqV [] .e sh lit (x.ev t) (y.ev t))).val
  rw [eqV_free (F := []) h F' .e M']
  refine qv_oV ?_
  cases eqV [] .e sh lit (x.ev t) (y.ev t) with
  | none => exact .inl rfl
  | some r => exact .inr ⟨_, vB_eq _⟩
theorem shOk_agg (ks : List (Nat × Sh)) : shOk (.agg ks) = shOks ks := rfl
theorem shOks_nil : shOks [] = true := Eq.trans rfl (Eq.refl _)
theorem shOks_cons (o : Nat) (s : Sh) (r : List (Nat × Sh)) : shOks ((o, s) :: r) = (shOk1 s && shOks r) := rfl
theorem shOk1_int : shOk1 .int = true := Eq.trans rfl (Eq.refl _)
theorem shOk1_bool : shOk1 .bool = true := Eq.trans rfl (Eq.refl _)
theorem shOk1_str : shOk1 .str = true := Eq.trans rfl (Eq.refl _)
theorem shOk_int : shOk .int = true := Eq.trans rfl (Eq.refl _)
theorem shOk_bool : shOk .bool = true := Eq.trans rfl (Eq.refl _)
theorem shOk_str : shOk .str = true := Eq.trans rfl (Eq.refl _)
theorem eqV_bool (lit : Bool) (M : Mem) (a b : Bool) : eqV F M .bool lit (.b a) (.b b) = some (decide (a = b)) := eq1_bool (F := F) lit M a b
theorem dq_fa (off : Nat) (x : X) (M : Mem) (t : T) : dqR (.fa off x) F M t = oV (match x.ev t with | .p b o => some (.p b (o + off)) | _ => none) := by
  refine (dq_of ?_).trans (congrArg oV (v_fa (F := F) off x M t))
  intro F' M'
  refine qv_oV ?_
  show ((onP (x.ev t) QR.f fun b o => mkP b (Nat.add o off)) = .f ∨ ∃ y, (onP (x.ev t) QR.f fun b o => mkP b (Nat.add o off)) = .v y)
  cases x.ev t with
  | p b o => exact .inr ⟨.p b (o + off), by show mkP b (o + off) = _; unfold mkP; rw [fN_eq]⟩
  | _ => exact .inl rfl
theorem dq_lnL (x : X) (M : Mem) (t : T) : dqR (.ln .slice x) F M t = oV (lnL (x.ev t)) := by
  refine (dq_of ?_).trans (congrArg oV ((v_ln (F := F) .slice x M t).trans (lnSl (F := F) M _)))
  intro F' M'
  refine qv_oV ?_
  show (q_ln1 (lenL (x.ev t)) = .f ∨ ∃ y, q_ln1 (lenL (x.ev t)) = .v y)
  cases lenL (x.ev t) with
  | none => exact .inl rfl
  | some n => exact .inr ⟨_, rfl⟩
theorem dq_lnS (x : X) (M : Mem) (t : T) : dqR (.ln .str x) F M t = oV (lnV .str F M (x.ev t)) := by
  refine (dq_of ?_).trans (congrArg oV (v_ln (F := F) .str x M t))
  intro F' M'
  refine qv_oV ?_
  show ((onS (x.ev t) QR.f fun n _ => .v (.i .i64 (.ofNat n))) = .f ∨ ∃ y, (onS (x.ev t) QR.f fun n _ => QR.v (.i .i64 (.ofNat n))) = .v y)
  cases x.ev t with
  | s n x => exact .inr ⟨_, rfl⟩
  | _ => exact .inl rfl
theorem dq_ixS (x i : X) (M : Mem) (t : T) : dqR (.ixS x i) F M t = oV (ixSV (x.ev t) (i.ev t)) := by
  refine (dq_of ?_).trans (congrArg oV (v_ixS (F := F) x i M t))
  intro F' M'
  refine qv_oV ?_
  show ((onS (x.ev t) QR.f fun n s => Option.rec (motive := fun _ => QR) .f (fun i => q_ixS1 n s i) (asN (i.ev t))) = .f ∨ ∃ y, (onS (x.ev t) QR.f fun n s => Option.rec (motive := fun _ => QR) .f (fun i => q_ixS1 n s i) (asN (i.ev t))) = .v y)
  cases x.ev t with
  | s n x =>
    show (Option.rec (motive := fun _ => QR) .f (fun i => q_ixS1 n x i) (asN (i.ev t)) = .f ∨ ∃ y, (Option.rec (motive := fun _ => QR) .f (fun i => q_ixS1 n x i) (asN (i.ev t)) : QR) = .v y)
    cases asN (i.ev t) with
    | none => exact .inl rfl
    | some k =>
      show (Bool.rec (motive := fun _ => QR) .f (fN (Nat.mod (Nat.div x (p256 k)) 256) fun c => .v (.i .u8 (.ofNat c))) (Nat.blt k n) = .f ∨ ∃ y, (Bool.rec (motive := fun _ => QR) .f (fN (Nat.mod (Nat.div x (p256 k)) 256) fun c => .v (.i .u8 (.ofNat c))) (Nat.blt k n) : QR) = .v y)
      cases Nat.blt k n with
      | false => exact .inl rfl
      | true => exact .inr ⟨_, by show fN _ _ = _; rw [fN_eq]⟩
  | _ => exact .inl rfl
def uO (u : List (Option V)) (i : Nat) : Option V := (u[i]?).join
def roundQ (I : Nat → St → Prop) (n : Nat) (Q : Ex → St → Prop) : Ex → St → Prop
  | .nrm, s => ∃ m, m < n ∧ I m s
  | e, s => Q e s
theorem roundQ_nrm (I : Nat → St → Prop) (n : Nat) (Q : Ex → St → Prop) (s : St) : roundQ I n Q .nrm s = ∃ m, m < n ∧ I m s := Eq.trans rfl (Eq.refl _)
theorem roundQ_ret (I : Nat → St → Prop) (n : Nat) (Q : Ex → St → Prop) (s : St) : roundQ I n Q .ret s = Q .ret s := Eq.trans rfl (Eq.refl _)
theorem roundQ_ext (I : Nat → St → Prop) (n : Nat) (Q : Ex → St → Prop) (s : St) (id : Nat) : roundQ I n Q (.ext id) s = Q (.ext id) s := Eq.trans rfl (Eq.refl _)
theorem wp_while {b : CC} {Q : Ex → St → Prop} (I : Nat → St → Prop) (h : ∀ n s, I n s → Wp b (K Φ rd fn F) s (roundQ I n Q)) : ∀ n s, I n s → Wp (.loop b) (K Φ rd fn F) s Q :=
  wp_rounds I fun n s hs => (h n s hs).mono fun e s' he => by cases e <;> exact he
end
end Go.Proofs.YtaogopbhjinmoaaGreatDoor.Ev
namespace Go.Proofs.YtaogopbhjinmoaaGreatDoor.Ev
open Go
section
variable {Φ : Nat → Option CF} {rd : Option Nat} {fn : Nat} {F : RO}
theorem storeN_of {M : Mem} {b o ty n fz : Nat} {ex str : Bool} {d vs : List V} {t : T} (hM : M.get b = some (.cells ty n ex fz str d t)) (h1 : o + vs.length ≤ n) (h2 : fz ≤ o) (h3 : allOne vs = true) :
    storeN M b o vs = some (M.set b (.cells ty n ex fz str d (listTr vs o t))) := by
  show Option.rec (motive := fun _ => Option Mem) none (fun blk => storeIn M b o vs blk) (M.get b) = _
  rw [hM]
  show (Bool.rec (motive := fun _ => Option Mem) none (Bool.rec (motive := fun _ => Option Mem) none (Bool.rec (motive := fun _ => Option Mem) none (storeIn2 M b o vs ty n ex fz str d t) (allOne vs)) (Nat.ble fz o)) (Nat.ble (Nat.add o vs.length) n)) = _
  rw [bb, bb, bb, bleN, bleN, decide_eq_true (show Nat.add o vs.length ≤ n from h1), decide_eq_true h2, h3]
  simp only [if_true]
  unfold storeIn2
  rw [Tr.force_eq, Tr.force_eq]
def CapAt (M : Mem) (c0 c b ty sz cap : Nat) (v : V) (es : List (List V)) : Prop :=
  (∀ e ∈ es, e.length = sz) ∧ es.length ≤ cap ∧ c0 ≤ b ∧ b < c ∧ v = .l b 0 es.length cap ∧ ∃ d t, M.get b = some (.cells ty (cap * sz) true 0 false d t) ∧ ∀ k, k < es.flatten.length → cell (cap * sz) d t k = es.flatten[k]?
theorem CapAt.sl {M : Mem} {c0 c b ty sz cap : Nat} {v : V} {es : List (List V)} (h : CapAt M c0 c b ty sz cap v es) : SlAt F M c sz v es := by
  obtain ⟨h0, h1, h2, h3, rfl, d, t, hM, hc⟩ := h
  refine ⟨h0, .inr ⟨b, 0, .inl ⟨cap, h1, rfl⟩, h3, fun k hk => ?_⟩⟩
  rw [Nat.zero_add]
  unfold Ev.load1
  rw [look_some_M hM]
  exact hc k hk
theorem CapAt.up {M M' : Mem} {c0 c c' b ty sz cap : Nat} {v : V} {es : List (List V)} (h : CapAt M c0 c b ty sz cap v es) (hc : c ≤ c') (hb : b < c → M'.get b = M.get b) : CapAt M' c0 c' b ty sz cap v es := by
  obtain ⟨h0, h1, h2, h3, rfl, d, t, hM, hcell⟩ := h
  exact ⟨h0, h1, h2, by omega, rfl, d, t, by rw [hb h3]; exact hM, hcell⟩
theorem CapAt.gr {M M' : Mem} {c0 c c' b ty sz cap : Nat} {v : V} {es : List (List V)} (h : CapAt M c0 c b ty sz cap v es) (hg : Gr c M c' M') : CapAt M' c0 c' b ty sz cap v es := h.up hg.le fun hb => hg.old b hb
noncomputable def mksA (ty sz bytes : Nat) (zero : List V) (l c : V) (b : Nat) : Option (V × Blk) := aop (.mks ty sz bytes zero (.c l) (.c c)) b .e
theorem a_mks_w (ty sz bytes : Nat) (zero : List V) (l c : X) (b : Nat) (t : T) : aop (.mks ty sz bytes zero l c) b t = mksA ty sz bytes zero (l.ev t) (c.ev t) b := Eq.trans rfl (Eq.refl _)
def SlOwn (F : RO) (M : Mem) (lo c sz : Nat) (v : V) (es : List (List V)) : Prop := ∀ M' : Mem, (∀ b, lo ≤ b → b < c → M'.get b = M.get b) → SlAt F M' c sz v es
theorem SlOwn.sl {M : Mem} {lo c sz : Nat} {v : V} {es : List (List V)} (h : SlOwn F M lo c sz v es) : SlAt F M c sz v es := h M fun _ _ _ => rfl
theorem SlOwn.up {M M' : Mem} {lo lo' c c' sz : Nat} {v : V} {es : List (List V)} (h : SlOwn F M lo c sz v es) (hc : c ≤ c') (hl : lo' ≤ lo) (hM : ∀ b, lo ≤ b → b < c → M'.get b = M.get b) : SlOwn F M' lo' c' sz v es := by
  intro M2 h2
  have h3 := h M2 fun b h1 h4 => (h2 b (by omega) (by omega)).trans (hM b h1 h4)
  rcases h3 with ⟨a, b | ⟨b, o, hv, hb, hcs⟩⟩
  · exact ⟨a, .inl b⟩
  · exact ⟨a, .inr ⟨b, o, hv, by omega, hcs⟩⟩
theorem SlOwn.gr {M M' : Mem} {lo c c' sz : Nat} {v : V} {es : List (List V)} (h : SlOwn F M lo c sz v es) (hg : Gr c M c' M') : SlOwn F M' lo c' sz v es := h.up hg.le (Nat.le_refl _) fun b _ hb => hg.old b hb
theorem AccAt.own {M : Mem} {c0 c b ty sz : Nat} {v : V} {es : List (List V)} (h : AccAt M c0 c b ty sz v es) : SlOwn F M c0 c sz v es := by
  intro M' hM
  refine AccAt.sl (c0 := c0) (b := b) (ty := ty) (M := M') ?_
  rcases h with ⟨h0, h | ⟨h1, h2, rfl, h3⟩⟩
  · exact ⟨h0, .inl h⟩
  · exact ⟨h0, .inr ⟨h1, h2, rfl, by rw [hM b h1 h2]; exact h3⟩⟩
theorem Okm.put {M : Mem} {c b : Nat} {x y : Blk} (h : Okm F M c) (hb : b < c) (hx : M.get b = some x) : Okm F (M.set b y) c := by
  refine ⟨fun b' hb' => ?_, h.hiF, fun b' hb' => ?_, h.ge⟩
  · rw [get_ne _ _ (by omega)]; exact h.hiM b' hb'
  · have : b' ≠ b := by
      intro e; subst e
      rw [h.ap b' hb'] at hx; cases hx
    rw [get_ne _ _ this]; exact h.ap b' hb'
theorem store_row {M : Mem} {b ty : Nat} {l : List V} (h : M.get b = some (rowB ty l)) (o : Nat) (vs : List V) (h1 : o + vs.length ≤ l.length) (h2 : allOne vs = true) : storeN M b o vs = some (M.set b (rowB ty (over l o vs))) := by
  have := storeN_same M b o ty l vs h1 h2
  rwa [← set_same h] at this
theorem load_row {M : Mem} {b ty : Nat} {l : List V} (h : M.get b = some (rowB ty l)) (o : Nat) : load1 F M b o = l[o]? := by
  rw [set_same h]; exact load1_same M b o ty l
theorem wp_condTc (a b : CC) (k : Kn) (t : T) (d : List Nat) (M : Mem) (c : Nat) (Q : Ex → St → Prop) : Wp (.cond (.c (.b true)) a b) k (.mk t d M c) Q = Wp a k (.mk t d M c) Q := wp_condT rfl
theorem wp_condFc (a b : CC) (k : Kn) (t : T) (d : List Nat) (M : Mem) (c : Nat) (Q : Ex → St → Prop) : Wp (.cond (.c (.b false)) a b) k (.mk t d M c) Q = Wp b k (.mk t d M c) Q := wp_condF rfl
end
end Go.Proofs.YtaogopbhjinmoaaGreatDoor.Ev
namespace Go.Proofs.YtaogopbhjinmoaaGreatDoor.Ev
open Go
noncomputable def vOf (C : Nat) : Value → Option V
  | .bool x => some (.b x)
  | .int k n => some (.i k n)
  | .string s => some (sV s.data.toList)
  | .pointer none => some .p0
  | .slice none 0 0 => some .l0
  | .slice (some a) n c => if a.spot = none ∧ a.block < C then some (.l a.block a.off n c) else if n = 0 ∧ c = 0 ∧ adE a < C then some (.ue (adE a) 1 0) else none
  | .iface t (.pointer (some ⟨r, o, none⟩)) => if r < C then some (.a t (.p r o)) else none
  | _ => none
theorem conc_sV (E : Env) (s : ByteArray) : conc E (sV s.data.toList) = .string s := by
  show Value.string (ba s.data.toList.length (strN s.data.toList)) = _
  unfold ba
  rw [strN_bl]
theorem vOf_conc {C : Nat} {x : Value} {v : V} (h : vOf C x = some v) : conc E0 v = x ∧ bd (· < C) v := by
  unfold vOf at h
  split at h
  · obtain rfl := Option.some.inj h; exact ⟨rfl, trivial⟩
  · obtain rfl := Option.some.inj h; exact ⟨rfl, trivial⟩
  · obtain rfl := Option.some.inj h; exact ⟨conc_sV _ _, trivial⟩
  · obtain rfl := Option.some.inj h; exact ⟨rfl, trivial⟩
  · obtain rfl := Option.some.inj h; exact ⟨rfl, trivial⟩
  · rename_i a n c
    split at h
    · rename_i hr
      obtain ⟨b, o, sp⟩ := a
      obtain ⟨h1, hr⟩ := hr
      have h1 : sp = none := h1
      subst h1
      obtain rfl := Option.some.inj h
      refine ⟨?_, hr⟩
      show Value.slice (some ⟨b, 0 + o, none⟩) n c = _
      rw [Nat.zero_add]
    · split at h
      · rename_i hr
        obtain ⟨rfl, rfl, hr⟩ := hr
        obtain rfl := Option.some.inj h
        refine ⟨?_, hr⟩
        show Value.slice (some (if (0 : Nat) = 0 then (if (0 : Nat) < 1 then adD (adE a) else _) else _)) 0 0 = _
        rw [if_pos rfl, if_pos (by decide), adD_E]
      · cases h
  · rename_i t r o
    split at h
    · rename_i hr
      obtain rfl := Option.some.inj h
      refine ⟨?_, hr⟩
      show Value.iface t (.pointer (some ⟨r, 0 + o, none⟩)) = _
      rw [Nat.zero_add]
    · cases h
  · cases h
noncomputable def optTr : List (Option V) → Nat → T → T
  | [], _, t => t
  | none :: r, k, t => optTr r (k + 1) t
  | some v :: r, k, t => optTr r (k + 1) (t.set k v)
theorem optTr_get : ∀ (l : List (Option V)) (k : Nat) (t : T) (j : Nat), (optTr l k t).get j = if k ≤ j ∧ j < k + l.length then (match l[j - k]? with | some (some v) => some v | _ => t.get j) else t.get j
  | [], k, t, j => by
    rw [if_neg (by simp; try omega)]; rfl
  | none :: r, k, t, j => by
    show (optTr r (k + 1) t).get j = _
    rw [optTr_get r (k + 1) t j]
    simp only [List.length_cons]
    by_cases h0 : j = k
    · subst h0
      rw [if_neg (by omega), if_pos (by omega)]
      simp
    · by_cases h1 : k ≤ j ∧ j < k + (r.length + 1)
      · rw [if_pos (by omega), if_pos h1, show j - k = (j - (k + 1)) + 1 by omega, List.getElem?_cons_succ]
      · rw [if_neg (by omega), if_neg h1]
  | some v :: r, k, t, j => by
    show (optTr r (k + 1) (t.set k v)).get j = _
    rw [optTr_get r (k + 1) (t.set k v) j, Tr.get_set]
    simp only [List.length_cons]
    by_cases h0 : j = k
    · subst h0
      rw [if_neg (by omega), if_pos rfl, if_pos (by omega)]
      simp
    · rw [if_neg h0]
      by_cases h1 : k ≤ j ∧ j < k + (r.length + 1)
      · rw [if_pos (by omega), if_pos h1, show j - k = (j - (k + 1)) + 1 by omega, List.getElem?_cons_succ]
      · rw [if_neg (by omega), if_neg h1]
noncomputable def blkOf (C : Nat) : Obj → Option Blk
  | .cells arr ty _ => some (.cells ty arr.size false arr.size true [] (optTr (arr.toList.map (vOf C)) 0 .e))
  | _ => none
noncomputable def heapR (C : Nat) : List Obj → Nat → RO
  | [], _ => []
  | o :: r, k => match blkOf C o with
    | some x => (k, x) :: heapR C r (k + 1)
    | none => heapR C r (k + 1)
theorem heapR_get (C : Nat) : ∀ (l : List Obj) (k j : Nat), roGet (heapR C l k) j = if k ≤ j then (l[j - k]?).bind (blkOf C) else none
  | [], k, j => by
    show none = _
    split <;> simp
  | o :: r, k, j => by
    have ih := heapR_get C r (k + 1) j
    unfold heapR
    by_cases h0 : j = k
    · subst h0
      rw [if_neg (by omega)] at ih
      rw [if_pos (Nat.le_refl _), Nat.sub_self, List.getElem?_cons_zero]
      show _ = blkOf C o
      cases hb : blkOf C o with
      | none => exact ih
      | some x =>
        show roGet ((j, x) :: heapR C r (j + 1)) j = some x
        rw [roGet_cons, if_pos rfl]
    · have e : roGet (match blkOf C o with | some x => (k, x) :: heapR C r (k + 1) | none => heapR C r (k + 1)) j = roGet (heapR C r (k + 1)) j := by
        cases blkOf C o with
        | none => rfl
        | some x =>
          show roGet ((k, x) :: heapR C r (k + 1)) j = _
          rw [roGet_cons, if_neg (fun e => h0 e.symm)]
      rw [e, ih]
      by_cases h1 : k ≤ j
      · rw [if_pos (by omega), if_pos h1, show j - k = (j - (k + 1)) + 1 by omega, List.getElem?_cons_succ]
      · rw [if_neg (by omega), if_neg h1]
noncomputable def heapF (W : World) (C : Nat) : RO := heapR C W.heap.toList 0
theorem heapF_get (W : World) (C j : Nat) : roGet (heapF W C) j = (W.heap[j]?).bind (blkOf C) := by
  unfold heapF
  rw [heapR_get, if_pos (Nat.zero_le _), Nat.sub_zero, Array.getElem?_toList]
theorem heap_cell {C ty : Nat} {arr : Array Value} {k : Nat} {v : V} : cell arr.size [] (optTr (arr.toList.map (vOf C)) 0 .e) k = some v ↔ ∃ x, arr[k]? = some x ∧ vOf C x = some v := by
  rw [cell_eq]
  by_cases h : k < arr.size
  · rw [if_pos h, optTr_get, if_pos (by simpa using h)]
    simp only [Nat.sub_zero, List.getElem?_map, Array.getElem?_toList, Array.getElem?_eq_getElem h, Option.map_some]
    show (match (match some (vOf C arr[k]) with | some (some v) => some v | _ => (Tr.e : T).get k) with | some v => some v | none => ([] : List V)[k % ([] : List V).length]?) = some v ↔ _
    constructor
    · intro hv
      refine ⟨arr[k], rfl, ?_⟩
      cases hx : vOf C arr[k] with
      | none => rw [hx] at hv; simp [Tr.get_e] at hv
      | some y => rw [hx] at hv; simpa using hv
    · rintro ⟨x, hx, hv⟩
      obtain rfl := Option.some.inj hx
      rw [hv]
  · rw [if_neg h]
    constructor
    · intro hh; cases hh
    · rintro ⟨x, hx, _⟩
      rw [Array.getElem?_eq_none (by omega)] at hx; cases hx
theorem heap_rel {P : Program} {W : World} {C : Nat} (hC : W.heap.size ≤ C) : Rel P E0 (heapF W C) .e (· < C) W := by
  refine ⟨?_, fun b b' _ _ e => e, fun b _ => rfl⟩
  intro b blk hb
  rw [look_none_M (show (Tr.e : Mem).get b = none from rfl), heapF_get] at hb
  cases ho : W.heap[b]? with
  | none => rw [ho] at hb; cases hb
  | some o =>
    rw [ho] at hb
    have hb' : blkOf C o = some blk := hb
    have hlt : b < C := Nat.lt_of_lt_of_le (Array.getElem?_eq_some_iff.1 ho).1 hC
    cases o with
    | cells arr ty fr =>
      obtain rfl := Option.some.inj hb'
      refine ⟨hlt, ?_, _, ho, arr, fr, rfl, ?_, ?_, ?_, ?_⟩
      · intro k v hk
        obtain ⟨x, _, hv⟩ := (heap_cell (ty := ty)).1 hk
        exact (vOf_conc hv).2
      · intro k v hk
        obtain ⟨x, hx, hv⟩ := (heap_cell (ty := ty)).1 hk
        show arr[0 + k]? = _
        rw [Nat.zero_add, hx, (vOf_conc hv).1]
      · show arr.size = 0 + arr.size + 0 * _
        simp
      · intro o h1 h2
        have h1' : 0 + arr.size ≤ o := h1
        omega
      · intro h; cases h
    | _ => cases hb'
theorem heap_load {W : World} {C r o : Nat} {x : Value} {v : V} (h : W.cell? ⟨r, o, none⟩ = some x) (hv : vOf C x = some v) : load1 (heapF W C) .e r o = some v := by
  unfold World.cell? at h
  split at h
  · rename_i cs ty fr hh
    have h' : cs[o]? = some x := h
    unfold Ev.load1
    rw [look_none_M (show (Tr.e : Mem).get r = none from rfl), heapF_get]
    have hh' : W.heap[r]? = some (.cells cs ty fr) := hh
    rw [hh']
    exact (heap_cell (ty := ty)).2 ⟨x, h', hv⟩
  · cases h
theorem heap_tabs {W : World} {C : Nat} : ∀ {L : List Tab}, (∀ t ∈ L, t.1 < 1000 ∧ TabAt W t) → tabsIn (heapF W C) L = true
  | [], _ => rfl
  | t :: r, h => by
    show (Nat.blt t.1 1000 && (tabIn (heapF W C) t && tabsIn (heapF W C) r)) = true
    rw [heap_tabs fun t ht => h t (List.mem_cons_of_mem _ ht), bltN, decide_eq_true (h t (List.mem_cons_self ..)).1]
    obtain ⟨_, ty, fr, hh⟩ := h t (List.mem_cons_self ..)
    have hi : tabIn (heapF W C) t = true := by
      unfold tabIn
      rw [heapF_get, hh]
      show (Nat.beq (t.2.2.map fun z => Value.int t.2.1 z).toArray.size (t.2.2.map fun z => Value.int t.2.1 z).toArray.size && tabCells _ [] _ t.2.1 t.2.2 0) = true
      rw [Nat.beq_refl, Bool.true_and]
      have key : ∀ (zs : List Int) (i : Nat), i + zs.length = t.2.2.length → (∀ j, zs[j]? = t.2.2[i + j]?) →
          tabCells (t.2.2.map fun z => Value.int t.2.1 z).toArray.size [] (optTr ((t.2.2.map fun z => Value.int t.2.1 z).toArray.toList.map (vOf C)) 0 .e) t.2.1 zs i = true := by
        intro zs
        induction zs with
        | nil =>
          intro i hi _
          show Nat.beq i _ = true
          simp only [List.length_nil] at hi
          rw [beqN]
          simp; omega
        | cons z zs ih =>
          intro i hi hz
          have h0 := hz 0
          simp only [List.getElem?_cons_zero, Nat.add_zero] at h0
          have hc : cell (t.2.2.map fun z => Value.int t.2.1 z).toArray.size [] (optTr ((t.2.2.map fun z => Value.int t.2.1 z).toArray.toList.map (vOf C)) 0 .e) i = some (.i t.2.1 z) :=
            (heap_cell (ty := ty)).2 ⟨.int t.2.1 z, by simp [← h0], rfl⟩
          unfold tabCells
          rw [hc]
          show (tabEqV t.2.1 z (.i t.2.1 z) && _) = true
          rw [ih (i + 1) (by simp at hi; omega) fun j => by have := hz (j + 1); rw [List.getElem?_cons_succ] at this; rw [this]; congr 1; omega]
          show (sameK t.2.1 t.2.1 && eqI z z && true) = true
          rw [sameK_iff, eqI_iff]; simp
      exact key t.2.2 0 (by omega) (fun j => by rw [Nat.zero_add])
    rw [hi]; rfl
theorem law_of {P : Program} (hm : P.follows .mixedOrders = true) {Φ : Nat → Option CF} (hΦ : PhiOk P Φ) {f : Nat} {W : World} {C : Nat} {args : List V} (hC : W.heap.size ≤ C) (hk : 1000 ≤ C) (ha : bds (· < C) args)
    (h : Ev.Calls Φ (heapF W C) f args .e C fun v _ _ => v = .b true) : Go.Calls P f (concs E0 args).toArray W fun e W' => e = .returned (.bool true) ∧ (∀ may, W.keptBut W' may) ∧ ∀ i, i < W.heap.size → W'.heap[i]? = W.heap[i]? := by
  obtain ⟨v, M', c', hc, rfl⟩ := h
  obtain ⟨fn, h1, h2, h3, hC⟩ := callOk_of (rd := none) (fn := 0) (F₀ := []) hΦ (den_ok hm hΦ) (heapF W C) f args .e C (.b true) M' c' hc E0 (· < C) W (heap_rel hC) (fun g _ => ⟨rfl, rfl⟩) (fun g hg => Nat.lt_of_lt_of_le hg hk) (fun b hb hc => Nat.lt_irrefl _ (Nat.lt_of_lt_of_le hc hb)) ha
  refine hC.mono ?_
  rintro e W' ⟨E', c', rfl, hS, _, _⟩
  exact ⟨rfl, fun may => kept_of hS may, fun i hi => hS.frame i hi (fun b hb => by cases hb)⟩
end Go.Proofs.YtaogopbhjinmoaaGreatDoor.Ev
