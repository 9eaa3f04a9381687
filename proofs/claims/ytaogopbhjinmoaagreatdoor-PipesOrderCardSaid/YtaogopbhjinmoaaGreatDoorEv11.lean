/- What is proved here: pieces of the evaluator's soundness: if the evaluator comes to a value, the model's run comes to it, for every world and tape; no conditions beyond the hypotheses of each theorem. -/
import Derived.Test.YtaogopbhjinmoaaGreatDoorEv10
set_option linter.unusedSimpArgs false
set_option linter.unusedVariables false
set_option linter.defProp false
namespace Go.Proofs.YtaogopbhjinmoaaGreatDoor.Ev
open Go
section
variable {Φ : Nat → Option CF} {rd : Option Nat} {fn : Nat} {F : RO}
def WpD (base : Nat) (ops : List (Nat × Nat × CO)) (k : Kn) (s : DS) (R : DS → Prop) : Prop := ∃ s', dOps k base ops s = some s' ∧ R s'
def dregQ (d : List Nat) (Q : Ex → St → Prop) : DS → Prop
  | .mk t M c pend _ => Q .nrm (.mk t d (mergeAll pend M) c)
theorem wp_dreg (n : Nat) (ops : List (Nat × Nat × CO)) (k : Kn) (t : T) (d : List Nat) (M : Mem) (c : Nat) (Q : Ex → St → Prop) :
    Wp (.dreg n ops) k (.mk t d M c) Q = WpD c ops k (.mk t M (c + n) [] []) (dregQ d Q) := by
  have he : execC (.dreg n ops) k (.mk t d M c) = dEnd d (dOps k c ops (.mk t M (c + n) [] [])) := by
    show (fN (Nat.add c n) fun c' => dEnd d (dOps k c ops (.mk t M c' [] []))) = _
    rw [fN_eq]; rfl
  apply propext; constructor
  · rintro ⟨e, s', h, q⟩
    rw [he] at h
    cases hs : dOps k c ops (.mk t M (c + n) [] []) with
    | none => rw [hs] at h; cases h
    | some s1 =>
      rw [hs] at h
      obtain ⟨t1, M1, c1, p1, r1⟩ := s1
      have h2 : ((mergeAll p1 M1).force fun M => Rs.k .nrm (.mk t1 d M c1)) = .k e s' := h
      rw [Tr.force_eq] at h2
      injection h2 with a1 a2
      subst a1 a2
      exact ⟨_, hs, q⟩
  · rintro ⟨s1, hs, q⟩
    obtain ⟨t1, M1, c1, p1, r1⟩ := s1
    refine ⟨_, _, ?_, q⟩
    rw [he, hs]
    show ((mergeAll p1 M1).force fun M => Rs.k .nrm (.mk t1 d M c1)) = _
    rw [Tr.force_eq]
theorem dregQ_eq (d : List Nat) (Q : Ex → St → Prop) (t : T) (M : Mem) (c : Nat) (pend : List (Nat × Nat × Blk)) (reads : List (Nat × Nat)) : dregQ d Q (.mk t M c pend reads) = Q .nrm (.mk t d (mergeAll pend M) c) := Eq.trans rfl (Eq.refl _)
theorem mergeAll_nil (M : Mem) : mergeAll [] M = M := Eq.trans rfl (Eq.refl _)
theorem wd_nil (base : Nat) (k : Kn) (s : DS) (R : DS → Prop) : WpD base [] k s R = R s := by
  apply propext; constructor
  · rintro ⟨s', h, q⟩; cases h; exact q
  · exact fun q => ⟨_, rfl, q⟩
theorem wd_cons (base : Nat) (o : Nat × Nat × CO) (r : List (Nat × Nat × CO)) (k : Kn) (s : DS) (R : DS → Prop) : WpD base (o :: r) k s R ↔ ∃ s', dOp k base o s = some s' ∧ WpD base r k s' R := by
  constructor
  · rintro ⟨s', h, q⟩
    rw [dOps] at h
    cases hs : dOp k base o s with
    | none => rw [hs] at h; cases h
    | some s1 => rw [hs] at h; exact ⟨s1, rfl, s', h, q⟩
  · rintro ⟨s1, h1, s', h2, q⟩
    exact ⟨s', by rw [dOps, h1]; exact h2, q⟩
noncomputable def dqR (o : QO) (F : RO) (M : Mem) (t : T) : QR := d_q0 o F M t (qop o F M t)
def PutD (q : QR) (base i : Nat) (p : Pos) (r : List (Nat × Nat × CO)) (k : Kn) (t : T) (M : Mem) (c : Nat) (pend : List (Nat × Nat × Blk)) (reads : List (Nat × Nat)) (R : DS → Prop) : Prop := match q with
  | .f => False
  | .v x => WpD base r k (.mk (t.setP p x) M c pend reads) R
  | .r x b => WpD base r k (.mk (t.setP p x) M c pend ((i, b) :: reads)) R
theorem putD_v (x : V) (base i : Nat) (p : Pos) (r : List (Nat × Nat × CO)) (k : Kn) (t : T) (M : Mem) (c : Nat) (pend : List (Nat × Nat × Blk)) (reads : List (Nat × Nat)) (R : DS → Prop) :
    PutD (.v x) base i p r k t M c pend reads R = WpD base r k (.mk (t.setP p x) M c pend reads) R := Eq.trans rfl (Eq.refl _)
theorem putD_r (x : V) (b base i : Nat) (p : Pos) (r : List (Nat × Nat × CO)) (k : Kn) (t : T) (M : Mem) (c : Nat) (pend : List (Nat × Nat × Blk)) (reads : List (Nat × Nat)) (R : DS → Prop) :
    PutD (.r x b) base i p r k t M c pend reads R = WpD base r k (.mk (t.setP p x) M c pend ((i, b) :: reads)) R := Eq.trans rfl (Eq.refl _)
theorem wd_q (base i mask : Nat) (p : Pos) (o : QO) (r : List (Nat × Nat × CO)) (t : T) (M : Mem) (c : Nat) (pend : List (Nat × Nat × Blk)) (reads : List (Nat × Nat)) (R : DS → Prop) :
    WpD base ((i, mask, .mk (some p) (.q o) none) :: r) (K Φ rd fn F) (.mk t M c pend reads) R = PutD (dqR o F M t) base i p r (K Φ rd fn F) t M c pend reads R := by
  have he : dOp (K Φ rd fn F) base (i, mask, .mk (some p) (.q o) none) (.mk t M c pend reads) = d_q1 i (some p) t M c pend reads (dqR o F M t) := rfl
  apply propext
  rw [wd_cons, he]
  cases dqR o F M t with
  | f => exact ⟨fun ⟨s', h, _⟩ => (by cases h), False.elim⟩
  | v x =>
    have : d_q1 i (some p) t M c pend reads (.v x) = some (.mk (t.setP p x) M c pend reads) := by
      show ((setT t (some p) x).force fun t => some (DS.mk t M c pend reads)) = _
      rw [Tr.force_eq]; rfl
    rw [this]
    constructor
    · rintro ⟨s', h, q⟩; obtain rfl := Option.some.inj h; exact q
    · exact fun q => ⟨_, rfl, q⟩
  | r x b =>
    have : d_q1 i (some p) t M c pend reads (.r x b) = some (.mk (t.setP p x) M c pend ((i, b) :: reads)) := by
      show ((setT t (some p) x).force fun t => some (DS.mk t M c pend ((i, b) :: reads))) = _
      rw [Tr.force_eq]; rfl
    rw [this]
    constructor
    · rintro ⟨s', h, q⟩; obtain rfl := Option.some.inj h; exact q
    · exact fun q => ⟨_, rfl, q⟩
def oV : Option V → QR
  | none => .f
  | some x => .v x
theorem oV_some (x : V) : oV (some x) = .v x := Eq.trans rfl (Eq.refl _)
theorem dq_of {o : QO} {M : Mem} {t : T} (h : ∀ F' M', qop o F' M' t = oV (qop o [] .e t).val) : dqR o F M t = oV (qop o F M t).val := by
  have h1 := h F M
  have h0 := h [] .e
  unfold dqR
  rw [h1]
  cases hv : (qop o [] .e t).val with
  | none => rfl
  | some x =>
    show qop o [] .e t = .v x
    rw [h0, hv]; rfl
theorem vI_oV (k : IntKind) (n : Int) : vI k n = oV (vI k n).val := by rw [vI_eq]; rfl
theorem dq_mv (x : X) (M : Mem) (t : T) : dqR (.mv x) F M t = .v (x.ev t) := Eq.trans rfl (Eq.refl _)
theorem dq_ci (k : IntKind) (x : X) (M : Mem) (t : T) : dqR (.ci k x) F M t = oV (match x.ev t with | .i _ n => some (.i k (k.wrap n)) | _ => none) := by
  refine (dq_of ?_).trans (congrArg oV (v_ci (F := F) k x M t))
  intro F' M'
  show (onI (x.ev t) QR.f fun _ n => vI k (wr k n)) = oV (onI (x.ev t) QR.f fun _ n => vI k (wr k n)).val
  cases x.ev t with
  | i k' n => exact vI_oV _ _
  | _ => rfl
theorem qv_oV {q : QR} (h : q = .f ∨ ∃ x, q = .v x) : q = oV q.val := by
  rcases h with rfl | ⟨x, rfl⟩ <;> rfl
theorem biq_ok (op : BinOp) (k : IntKind) (a : Int) (k' : IntKind) (b : Int) : q_bii op k a k' b = .f ∨ ∃ x, q_bii op k a k' b = .v x := by
  have hb : ∀ (c : Bool) (q : QR), (q = .f ∨ ∃ x, q = .v x) → (Bool.rec (motive := fun _ => QR) .f q c = .f ∨ ∃ x, (Bool.rec (motive := fun _ => QR) .f q c : QR) = .v x) := by
    intro c q h; cases c
    · exact .inl rfl
    · exact h
  have vi : ∀ k n, vI k n = .f ∨ ∃ x, vI k n = .v x := fun k n => .inr ⟨_, vI_eq k n⟩
  have vb : ∀ b, vB b = .f ∨ ∃ x, vB b = .v x := fun b => .inr ⟨_, vB_eq b⟩
  cases op with
  | add => exact hb _ _ (vi _ _)
  | sub => exact hb _ _ (vi _ _)
  | mul => exact hb _ _ (vi _ _)
  | quo =>
    refine hb _ _ ?_
    have e : b_quo k a b = .f ∨ ∃ x, b_quo k a b = .v x := by
      unfold b_quo
      cases eqI b 0
      · exact vi _ _
      · exact .inl rfl
    exact e
  | rem =>
    refine hb _ _ ?_
    have e : b_rem k a b = .f ∨ ∃ x, b_rem k a b = .v x := by
      unfold b_rem
      cases eqI b 0
      · exact vi _ _
      · exact .inl rfl
    exact e
  | and => exact hb _ _ (vi _ _)
  | or => exact hb _ _ (vi _ _)
  | xor => exact hb _ _ (vi _ _)
  | andNot => exact hb _ _ (vi _ _)
  | eql => exact hb _ _ (vb _)
  | neq => exact hb _ _ (vb _)
  | lss => exact hb _ _ (vb _)
  | leq => exact hb _ _ (vb _)
  | gtr => exact hb _ _ (vb _)
  | geq => exact hb _ _ (vb _)
  | shl =>
    show shlI k a b = .f ∨ ∃ x, shlI k a b = .v x
    cases b with
    | ofNat n => exact vi _ _
    | negSucc n => exact .inl rfl
  | shr =>
    show shrI k a b = .f ∨ ∃ x, shrI k a b = .v x
    cases b with
    | ofNat n => exact vi _ _
    | negSucc n => exact .inl rfl
theorem dq_bi (op : BinOp) (x y : X) (M : Mem) (t : T) {k k' : IntKind} {a b : Int} (hx : x.ev t = .i k a) (hy : y.ev t = .i k' b) : dqR (.bi op x y) F M t = oV (biV op (x.ev t) (y.ev t)) := by
  rw [← v_bi (F := F) op x y M t]
  refine dq_of ?_
  intro F' M'
  have e : ∀ F' M', qop (.bi op x y) F' M' t = q_bii op k a k' b := by
    intro F' M'
    show q_bi op x y F' M' t = _
    unfold q_bi
    rw [hx]
    show (onI (y.ev t) QR.f fun k' b => q_bii op k a k' b) = _
    rw [hy]; rfl
  rw [e, e]
  exact qv_oV (biq_ok op k a k' b)
theorem dq_ex (i : Nat) (x : X) (M : Mem) (t : T) : dqR (.ex i x) F M t = oV (match x.ev t with | .t cs => cs[i]? | _ => none) := by
  refine (dq_of ?_).trans (congrArg oV (v_ex (F := F) i x M t))
  intro F' M'
  show q_ex i x F' M' t = oV (q_ex i x [] .e t).val
  unfold q_ex
  cases x.ev t with
  | t cs =>
    show qr (nth cs i) = oV (qr (nth cs i)).val
    cases nth cs i <;> rfl
  | _ => rfl
theorem dq_ld1 (x : X) (M : Mem) (t : T) {b o : Nat} {v : V} (hx : x.ev t = .p b o) (h : load1 F M b o = some v) : dqR (.ld1 x) F M t = .r v b := by
  have hq : ∀ F' M', qop (.ld1 x) F' M' t = qrb b (load1 F' M' b o) := by
    intro F' M'
    show (onP (x.ev t) QR.f fun b o => qrb b (load1 F' M' b o)) = _
    rw [hx]; rfl
  unfold dqR
  rw [hq, h]
  show d_q2 (.ld1 x) t b (look F M b) = _
  unfold load1 at h
  cases hl : look F M b with
  | none => rw [hl] at h; cases h
  | some blk =>
    rw [hl] at h
    show rOnly b (qop (.ld1 x) [(b, blk)] .e t) = _
    rw [hq]
    have h2 : load1 [(b, blk)] .e b o = some v := by
      unfold load1
      have : look [(b, blk)] (.e : Mem) b = some blk := by
        rw [look_none_M (show (Tr.e : Mem).get b = none from rfl)]
        show Bool.rec (motive := fun _ => Option Blk) _ (some blk) (Nat.beq b b) = _
        rw [bb, beqN]; simp
      rw [this]; exact h
    rw [h2]; rfl
theorem roFree_nil (M : Mem) : roFree M [] = true := Eq.trans rfl (Eq.refl _)
theorem protect_cons (mask i b : Nat) (r : List (Nat × Nat)) (h : testBit mask i = true) (F : RO) (M : Mem) (s : List (Nat × Blk)) : protect mask ((i, b) :: r) F M s = protect mask r F M s := by
  rw [protect, h]; rfl
def befB (mask : Nat) : List (Nat × Nat) → Bool
  | [] => true
  | (i, _) :: r => (mask / 2 ^ i % 2 == 1) && befB mask r
theorem befB_nil (mask : Nat) : befB mask [] = true := Eq.trans rfl (Eq.refl _)
theorem befB_cons (mask i b : Nat) (r : List (Nat × Nat)) : befB mask ((i, b) :: r) = ((mask / 2 ^ i % 2 == 1) && befB mask r) := Eq.trans rfl (Eq.refl _)
theorem befB_protect {mask : Nat} : ∀ {reads : List (Nat × Nat)}, befB mask reads = true → ∀ F M s, protect mask reads F M s = Pr.mk F M s
  | [], _, F, M, s => rfl
  | (i, b) :: r, h, F, M, s => by
    rw [befB_cons, Bool.and_eq_true] at h
    rw [protect_cons mask i b r (by show Nat.beq (Nat.mod (Nat.div mask (Nat.pow 2 i)) 2) 1 = true; rw [beqN]; exact decide_eq_true (show mask / 2 ^ i % 2 = 1 by simpa using h.1))]
    exact befB_protect h.2 F M s
def PutDE (o : RC) (F : RO) (p : Option Pos) (base : Nat) (r : List (Nat × Nat × CO)) (k : Kn) (t : T) (reads : List (Nat × Nat)) (R : DS → Prop) : Prop := match o with
  | .f => False
  | .k v M c => roFree M F = true ∧ WpD base r k (.mk (setT t p v) M c [] reads) R
theorem putDE (v : V) (M : Mem) (c : Nat) (F : RO) (p : Option Pos) (base : Nat) (r : List (Nat × Nat × CO)) (k : Kn) (t : T) (reads : List (Nat × Nat)) (R : DS → Prop) :
    PutDE (.k v M c) F p base r k t reads R = (roFree M F = true ∧ WpD base r k (.mk (setT t p v) M c [] reads) R) := Eq.trans rfl (Eq.refl _)
theorem wd_e1 (base i mask : Nat) (dst : Option Pos) (o : EO) (r : List (Nat × Nat × CO)) (t : T) (M : Mem) (c : Nat) (reads : List (Nat × Nat)) (R : DS → Prop) (hb : befB mask reads = true) :
    WpD base ((i, mask, .mk dst (.e o) none) :: r) (K Φ rd fn F) (.mk t M c [] reads) R = PutDE (doE o (K Φ rd fn F) M c t) F dst base r (K Φ rd fn F) t reads R := by
  have hp := befB_protect hb
  have he : dOp (K Φ rd fn F) base (i, mask, .mk dst (.e o) none) (.mk t M c [] reads) = d_e2 F dst t [] reads [] (doE o (K Φ rd fn F) M c t) := by
    show d_e1 o (K Φ rd fn F) dst t c [] reads (protect mask reads F M []) = _
    rw [hp]; rfl
  apply propext
  rw [wd_cons, he]
  cases hd : doE o (K Φ rd fn F) M c t with
  | f => exact ⟨fun ⟨s', h, _⟩ => (by cases h), False.elim⟩
  | k v M' c' =>
    have h2 : d_e2 F dst t [] reads [] (.k v M' c') = if roFree M' F = true then some (DS.mk (setT t dst v) M' c' [] reads) else none := by
      show (bif roFree M' F && pendFree F M' [] then (unprotect [] M').force fun M => (setT t dst v).force fun t => some (DS.mk t M c' [] reads) else none) = _
      cases roFree M' F with
      | false => rfl
      | true =>
        show ((unprotect [] M').force fun M => (setT t dst v).force fun t => some (DS.mk t M c' [] reads)) = _
        rw [Tr.force_eq, Tr.force_eq]; rfl
    rw [h2, putDE]
    constructor
    · rintro ⟨s', h, q⟩
      split at h
      · rename_i hr
        obtain rfl := Option.some.inj h
        exact ⟨hr, q⟩
      · cases h
    · rintro ⟨hr, q⟩
      exact ⟨_, if_pos hr, q⟩
theorem roFree_cons (M : Mem) (b : Nat) (x : Blk) (F : RO) : roFree M ((b, x) :: F) = ((M.get b).isNone && roFree M F) := by
  show (bif (M.get b).isNone then roFree M F else false) = _
  cases (M.get b).isNone <;> rfl
theorem get_ne (M : Mem) {b b' : Nat} (x : Blk) (h : b' ≠ b) : (M.set b x).get b' = M.get b' := by rw [Tr.get_set, if_neg h]
theorem isNone_none' : (none : Option Blk).isNone = true := Eq.trans rfl (Eq.refl _)
noncomputable def biQ (op : BinOp) (X Y : V) (F : RO) (M : Mem) : QR := dqR (.bi op (.c X) (.c Y)) F M .e
theorem dq_bi0 (op : BinOp) (x y : X) (M : Mem) (t : T) : dqR (.bi op x y) F M t = biQ op (x.ev t) (y.ev t) F M := Eq.trans rfl (Eq.refl _)
theorem biQ_i (op : BinOp) (k k' : IntKind) (a b : Int) (M : Mem) : biQ op (.i k a) (.i k' b) F M = oV (biV op (.i k a) (.i k' b)) := dq_bi op _ _ M .e rfl rfl
noncomputable def ldQ (X : V) (F : RO) (M : Mem) : QR := dqR (.ld1 (.c X)) F M .e
def ldR (b : Nat) : Option V → QR
  | some v => .r v b
  | none => .f
theorem ldR_some (b : Nat) (v : V) : ldR b (some v) = .r v b := Eq.trans rfl (Eq.refl _)
theorem dq_ld0 (x : X) (M : Mem) (t : T) : dqR (.ld1 x) F M t = ldQ (x.ev t) F M := Eq.trans rfl (Eq.refl _)
theorem ldQ_p (b o : Nat) (M : Mem) : ldQ (.p b o) F M = ldR b (load1 F M b o) := by
  cases h : load1 F M b o with
  | some v => exact dq_ld1 _ M .e rfl h
  | none =>
    show d_q0 (.ld1 (.c (.p b o))) F M .e (qrb b (load1 F M b o)) = _
    rw [h]; rfl
theorem dq_iaS (sz : Nat) (x i : X) (M : Mem) (t : T) : dqR (.iaS sz x i) F M t = oV ((qop (.iaS sz x i) F M t).val) := by
  refine dq_of fun F' M' => ?_
  show q_iaS sz x i F' M' t = oV (q_iaS sz x i [] .e t).val
  have key : ∀ (b o n : Nat) (y : V), q_iaS1 sz b o n y = oV (q_iaS1 sz b o n y).val := by
    intro b o n y
    unfold q_iaS1
    cases y with
    | i k m =>
      show q_ia sz b o n m = oV (q_ia sz b o n m).val
      cases m with
      | ofNat m =>
        show (Bool.rec (motive := fun _ => QR) .f (mkP b (Nat.add o (Nat.mul m sz))) (Nat.blt m n)) = oV (Bool.rec (motive := fun _ => QR) .f (mkP b (Nat.add o (Nat.mul m sz))) (Nat.blt m n) : QR).val
        cases Nat.blt m n with
        | true =>
          show mkP b (Nat.add o (Nat.mul m sz)) = oV (mkP b (Nat.add o (Nat.mul m sz))).val
          unfold mkP; rw [fN_eq]; rfl
        | false => rfl
      | negSucc m => rfl
    | _ => rfl
  unfold q_iaS
  cases x.ev t with
  | l b o n c => exact key b o n _
  | u b o n e k => exact key b o n _
  | _ => rfl
noncomputable def lnL (x : V) : Option V := (qop (.ln .slice (.c x)) [] .e .e).val
theorem lnSl (M : Mem) (x : V) : lnV .slice F M x = lnL x := Eq.trans rfl (Eq.refl _)
theorem lnL_l (b o n c : Nat) : lnL (.l b o n c) = some (.i .i64 (n : Int)) := Eq.trans rfl (Eq.refl _)
theorem lnL_u (b o n e k : Nat) : lnL (.u b o n e k) = some (.i .i64 (n : Int)) := Eq.trans rfl (Eq.refl _)
theorem lnL_l0 : lnL .l0 = some (.i .i64 0) := Eq.trans rfl (Eq.refl _)
theorem lnL_ue (b o n : Nat) : lnL (.ue b o n) = some (.i .i64 0) := Eq.trans rfl (Eq.refl _)
noncomputable def iaSV (sz : Nat) (x i : V) : Option V := (qop (.iaS sz (.c x) (.c i)) [] .e .e).val
theorem v_iaS (sz : Nat) (x i : X) (M : Mem) (t : T) : (qop (.iaS sz x i) F M t).val = iaSV sz (x.ev t) (i.ev t) := Eq.trans rfl (Eq.refl _)
theorem iaS_l (sz b o n c i : Nat) (k : IntKind) (h : i < n) : iaSV sz (.l b o n c) (.i k (i : Int)) = some (.p b (o + i * sz)) := by
  show (q_ia sz b o n (Int.ofNat i)).val = _
  show (Bool.rec (motive := fun _ => QR) .f (mkP b (Nat.add o (Nat.mul i sz))) (Nat.blt i n)).val = _
  rw [bb, bltN, decide_eq_true h, if_pos rfl]
  unfold mkP; rw [fN_eq]; rfl
theorem iaS_u (sz b o n e kn i : Nat) (k : IntKind) (h : i < n) : iaSV sz (.u b o n e kn) (.i k (i : Int)) = some (.p b (o + i * sz)) := by
  show (q_ia sz b o n (Int.ofNat i)).val = _
  show (Bool.rec (motive := fun _ => QR) .f (mkP b (Nat.add o (Nat.mul i sz))) (Nat.blt i n)).val = _
  rw [bb, bltN, decide_eq_true h, if_pos rfl]
  unfold mkP; rw [fN_eq]; rfl
end
end Go.Proofs.YtaogopbhjinmoaaGreatDoor.Ev
namespace Go.Proofs.YtaogopbhjinmoaaGreatDoor.Ev
open Go
section
variable {Φ : Nat → Option CF} {rd : Option Nat} {fn : Nat} {F : RO}
def sV (l : List UInt8) : V := .s l.length (strN l)
def bV (c : UInt8) : V := .i .u8 (c.toNat : Int)
theorem strN_nil : strN [] = 0 := rfl
theorem strN_cons (c : UInt8) (l : List UInt8) : strN (c :: l) = c.toNat + 256 * strN l := rfl
theorem strN_lt : ∀ l : List UInt8, strN l < 256 ^ l.length
  | [] => by decide
  | c :: l => by
    have := strN_lt l
    have hc := UInt8.toNat_lt c
    rw [strN_cons, List.length_cons, Nat.pow_succ]; omega
theorem strN_append (a b : List UInt8) : strN (a ++ b) = strN a + 256 ^ a.length * strN b := by
  induction a with
  | nil => simp [strN_nil]
  | cons c a ih =>
    rw [List.cons_append, strN_cons, strN_cons, ih, List.length_cons, Nat.pow_succ, Nat.mul_add, ← Nat.mul_assoc, Nat.mul_comm 256 (256 ^ a.length)]; omega
theorem lnSs (l : List UInt8) (M : Mem) : lnV .str F M (sV l) = some (.i .i64 (l.length : Int)) := rfl
theorem strEq_s (a b : List UInt8) : strEq a.length (strN a) b.length (strN b) = decide (a = b) := by
  rw [strEq_iff, strN_bl, strN_bl]
theorem bi_seq (a b : List UInt8) : biV .eql (sV a) (sV b) = some (.b (decide (a = b))) := by
  show (vB (strEq a.length (strN a) b.length (strN b))).val = _
  rw [strEq_s]
  cases decide (a = b) <;> rfl
theorem bi_sne (a b : List UInt8) : biV .neq (sV a) (sV b) = some (.b (!decide (a = b))) := by
  show (vB (!strEq a.length (strN a) b.length (strN b))).val = _
  rw [strEq_s]
  cases decide (a = b) <;> rfl
theorem eq1_str (lit : Bool) (M : Mem) (a b : List UInt8) : eq1 F M .str lit (sV a) (sV b) = some (decide (a = b)) := by
  show some (strEq a.length (strN a) b.length (strN b)) = _
  rw [strEq_s]
theorem eqV_str (lit : Bool) (M : Mem) (a b : List UInt8) : eqV F M .str lit (sV a) (sV b) = some (decide (a = b)) := eq1_str (F := F) lit M a b
theorem bi_scat (a b : List UInt8) (h : a.length + b.length ≤ 1099511627776) : biV .add (sV a) (sV b) = some (sV (a ++ b)) := by
  show (strCat a.length (strN a) b.length (strN b)).val = _
  have e : strCat a.length (strN a) b.length (strN b) = QR.v (sV (a ++ b)) := by
    unfold strCat
    rw [bleN, show decide (Nat.add a.length b.length ≤ 1099511627776) = true from decide_eq_true h, cond_true]
    show (fN (a.length + b.length) fun n => fN (strN a % 256 ^ a.length + 256 ^ a.length * strN b) fun x => QR.v (.s n x)) = _
    rw [fN_eq, fN_eq, Nat.mod_eq_of_lt (strN_lt a), ← strN_append, ← List.length_append]; rfl
  rw [e]; rfl
noncomputable def slSV (x : V) (lo hi : Option V) : Option V := (qop (.slS (.c x) (lo.map .c) (hi.map .c)) [] .e .e).val
theorem optN_map (tm : T) (d : Nat) (o : Option X) : optN .e d ((o.map fun x => x.ev tm).map .c) = optN tm d o := by cases o <;> rfl
theorem v_slS (x : X) (lo hi : Option X) (M : Mem) (t : T) : (qop (.slS x lo hi) F M t).val = slSV (x.ev t) (lo.map fun x => x.ev t) (hi.map fun x => x.ev t) := by
  show (q_slS x lo hi F M t).val = (q_slS (.c (x.ev t)) _ _ [] .e .e).val
  unfold q_slS
  rw [optN_map]
  show _ = (onS (x.ev t) .f fun n s => q_slS1 n s (optN t 0 lo) (optN .e n ((hi.map fun x => x.ev t).map .c))).val
  congr 2
  funext n s
  rw [optN_map]
theorem bytesV_s : ∀ l : List UInt8, bytesV (l.map bV) = some (l.length, strN l)
  | [] => rfl
  | c :: l => by
    have hc := UInt8.toNat_lt c
    rw [List.map_cons]
    show (match bytesV (l.map bV) with | some (n, x) => some (Nat.succ n, Nat.add (Nat.mod c.toNat 256) (Nat.mul 256 x)) | none => none) = _
    rw [bytesV_s l]
    show some (l.length + 1, c.toNat % 256 + 256 * strN l) = _
    rw [Nat.mod_eq_of_lt (by omega)]; rfl
theorem allOne_bytes : ∀ l : List UInt8, allOne (l.map bV) = true
  | [] => rfl
  | c :: l => by rw [List.map_cons, allOne_cons, allOne_bytes l]; rfl
end
end Go.Proofs.YtaogopbhjinmoaaGreatDoor.Ev
namespace Go.Proofs.YtaogopbhjinmoaaGreatDoor.Ev
open Go
section
variable {Φ : Nat → Option CF} {rd : Option Nat} {fn : Nat} {F : RO}
def RTo (o : RC) (P : V → Mem → Nat → Prop) : Prop := ∃ v M' c', o = .k v M' c' ∧ P v M' c'
theorem RTo.mono {o : RC} {P P' : V → Mem → Nat → Prop} (h : RTo o P) (hp : ∀ v M' c', P v M' c' → P' v M' c') : RTo o P' := by
  obtain ⟨v, M', c', e, h⟩ := h
  exact ⟨v, M', c', e, hp v M' c' h⟩
abbrev Calls (Φ : Nat → Option CF) (F : RO) (f : Nat) (args : List V) (M : Mem) (c : Nat) (P : V → Mem → Nat → Prop) : Prop := RTo (callC (den Φ) F f args M c (Φ f)) P
theorem calls_walk {f n : Nat} {res : List RV} {body : CC} {args : List V} {M : Mem} {c : Nat} {P : V → Mem → Nat → Prop} (hf : Φ f = some (.mk n res body))
    (h : Wp body (K Φ none f F) (.mk (argTr n args) [] M c) (endQ F res P)) : Calls Φ F f args M c P := call_walk hf h
theorem putE_to {o : RC} {p : Pos} {r : List CO} {k : Kn} {t : T} {d : List Nat} {R : St → Prop} (h : RTo o fun v M' c' => WpO r k (.mk (t.setP p v) d M' c') R) : PutE o p r k t d R := by
  obtain ⟨v, M', c', e, h⟩ := h
  rw [e]; exact h
theorem putDE_to {o : RC} {p : Option Pos} {base : Nat} {r : List (Nat × Nat × CO)} {k : Kn} {t : T} {reads : List (Nat × Nat)} {R : DS → Prop}
    (h : RTo o fun v M' c' => roFree M' F = true ∧ WpD base r k (.mk (setT t p v) M' c' [] reads) R) : PutDE o F p base r k t reads R := by
  obtain ⟨v, M', c', e, h⟩ := h
  rw [e]; exact h
structure Okm (F : RO) (M : Mem) (c : Nat) : Prop where
  hiM : ∀ b, c ≤ b → M.get b = none
  hiF : ∀ b, c ≤ b → roGet F b = none
  ap : ∀ b, (roGet F b).isSome → M.get b = none
  ge : 1000 ≤ c
structure Gr (c : Nat) (M : Mem) (c' : Nat) (M' : Mem) : Prop where
  le : c ≤ c'
  old : ∀ b, b < c → M'.get b = M.get b
  new : ∀ b, c' ≤ b → M'.get b = none
theorem roFree_of (M : Mem) : ∀ F : RO, (∀ b, (roGet F b).isSome → M.get b = none) → roFree M F = true
  | [], _ => rfl
  | (b, x) :: F, h => by
    rw [roFree_cons, h b (by
      show (Bool.rec (motive := fun _ => Option Blk) (roGet F b) (some x) (Nat.beq b b)).isSome = true
      rw [Nat.beq_refl]; rfl)]
    rw [roFree_of M F fun b' hb' => h b' (by
      show (Bool.rec (motive := fun _ => Option Blk) (roGet F b') (some x) (Nat.beq b b')).isSome = true
      cases Nat.beq b b' with
      | true => rfl
      | false => exact hb')]
    rfl
theorem Okm.free {M : Mem} {c : Nat} (h : Okm F M c) : roFree M F = true := roFree_of M F h.ap
theorem Okm.look {M : Mem} {c : Nat} (h : Okm F M c) {b : Nat} (hb : c ≤ b) : look F M b = none := by
  rw [look_none_M (h.hiM b hb), h.hiF b hb]
theorem Gr.refl {M : Mem} {c : Nat} (h : Okm F M c) : Gr c M c M := ⟨Nat.le_refl _, fun _ _ => rfl, h.hiM⟩
theorem Gr.trans {M M1 M2 : Mem} {c c1 c2 : Nat} (h : Gr c M c1 M1) (h2 : Gr c1 M1 c2 M2) : Gr c M c2 M2 :=
  ⟨Nat.le_trans h.le h2.le, fun b hb => (h2.old b (Nat.lt_of_lt_of_le hb h.le)).trans (h.old b hb), h2.new⟩
theorem Gr.ok {M M1 : Mem} {c c1 : Nat} (h : Gr c M c1 M1) (ho : Okm F M c) : Okm F M1 c1 := by
  refine ⟨h.new, fun b hb => ho.hiF b (Nat.le_trans h.le hb), fun b hb => ?_, Nat.le_trans ho.ge h.le⟩
  have : b < c := by
    by_cases hc : b < c
    · exact hc
    · rw [ho.hiF b (by omega)] at hb; cases hb
  rw [h.old b this]; exact ho.ap b hb
theorem Gr.set {M M1 : Mem} {c c1 c2 : Nat} (h : Gr c M c1 M1) (b : Nat) (x : Blk) (h1 : c ≤ b) (h2 : b < c2) (h3 : c1 ≤ c2) : Gr c M c2 (M1.set b x) := by
  refine ⟨Nat.le_trans h.le h3, fun b' hb' => ?_, fun b' hb' => ?_⟩
  · rw [get_ne _ _ (by omega)]; exact h.old b' hb'
  · rw [get_ne _ _ (by omega)]; exact h.new b' (by omega)
theorem Gr.del {M M1 : Mem} {c c1 : Nat} (h : Gr c M c1 M1) (b : Nat) (h1 : c ≤ b) : Gr c M c1 (M1.del b) := by
  refine ⟨h.le, fun b' hb' => ?_, fun b' hb' => ?_⟩
  · rw [Tr.get_del, if_neg (by omega)]; exact h.old b' hb'
  · rw [Tr.get_del]; split
    · rfl
    · exact h.new b' hb'
theorem Gr.up {M M1 : Mem} {c c1 c2 : Nat} (h : Gr c M c1 M1) (h3 : c1 ≤ c2) : Gr c M c2 M1 :=
  ⟨Nat.le_trans h.le h3, h.old, fun b hb => h.new b (by omega)⟩
theorem Gr.look {M M1 : Mem} {c c1 : Nat} (h : Gr c M c1 M1) {b : Nat} (hb : b < c) : look F M1 b = look F M b := look_congr (h.old b hb)
theorem Gr.load1 {M M1 : Mem} {c c1 : Nat} (h : Gr c M c1 M1) {b : Nat} (hb : b < c) (o : Nat) : load1 F M1 b o = load1 F M b o := by
  unfold Ev.load1; rw [h.look hb]
theorem Gr.loadN {M M1 : Mem} {c c1 : Nat} (h : Gr c M c1 M1) {b : Nat} (hb : b < c) (o n : Nat) : loadN F M1 b o n = loadN F M b o n := by
  unfold Ev.loadN; rw [h.look hb]
theorem put_same {α : Type} (v : α) : ∀ (t : Tr α) (k : Nat), t.get k = some v → t.put (some v) k = t
  | .e, k, h => by cases h
  | .n l x r, k, h => by
    rw [Tr.put_n]
    rw [Tr.get_n] at h
    by_cases h0 : k = 0
    · rw [if_pos h0] at h ⊢; rw [h]
    · rw [if_neg h0] at h ⊢
      by_cases h2 : k % 2 = 0
      · rw [if_pos h2] at h ⊢; rw [put_same v r _ h]
      · rw [if_neg h2] at h ⊢; rw [put_same v l _ h]
theorem set_same {M : Mem} {b : Nat} {x : Blk} (h : M.get b = some x) : M = M.set b x := (put_same x M b h).symm
def RowAt (F : RO) (M : Mem) (b : Nat) (row : List V) : Prop := ∃ ty ex fz str d c, look F M b = some (.cells ty row.length ex fz str d c) ∧ ∀ i, i < row.length → cell row.length d c i = row[i]?
theorem RowAt.load1 {M : Mem} {b : Nat} {row : List V} (h : RowAt F M b row) (o : Nat) : load1 F M b o = row[o]? := by
  obtain ⟨ty, ex, fz, str, d, c, hl, hc⟩ := h
  unfold Ev.load1
  rw [hl]
  show cell row.length d c o = _
  by_cases ho : o < row.length
  · exact hc o ho
  · rw [cell_eq, if_neg ho, List.getElem?_eq_none (by omega)]
theorem cellsAt_of {d : List V} {c : T} {row : List V} (hc : ∀ i, i < row.length → cell row.length d c i = row[i]?) : ∀ (n i : Nat), i + n ≤ row.length → cellsAt row.length d c n i = some ((row.drop i).take n)
  | 0, i, h => by rw [cellsAt_zero]; simp
  | n + 1, i, h => by
    rw [cellsAt_succ, hc i (by omega), List.getElem?_eq_getElem (by omega)]
    show (match cellsAt row.length d c n (i + 1) with | none => none | some r => some (row[i] :: r)) = _
    rw [cellsAt_of hc n (i + 1) (by omega)]
    simp only
    rw [← List.getElem_cons_drop (by omega : i < row.length), List.take_succ_cons]
theorem RowAt.loadN {M : Mem} {b : Nat} {row : List V} (h : RowAt F M b row) (o n : Nat) (hn : o + n ≤ row.length) : loadN F M b o n = some ((row.drop o).take n) := by
  obtain ⟨ty, ex, fz, str, d, c, hl, hc⟩ := h
  unfold Ev.loadN
  rw [hl]
  exact cellsAt_of hc n o hn
theorem RowAt.grow {M M' : Mem} {b c c' : Nat} {row : List V} (h : RowAt F M b row) (hg : Gr c M c' M') (hb : b < c) : RowAt F M' b row := by
  obtain ⟨ty, ex, fz, str, d, cs, hl, hc⟩ := h
  exact ⟨ty, ex, fz, str, d, cs, by rw [hg.look hb]; exact hl, hc⟩
theorem RowAt.ne {M : Mem} {b b' : Nat} {x : Blk} {row : List V} (h : RowAt F M b row) (hb : b ≠ b') : RowAt F (M.set b' x) b row := by
  obtain ⟨ty, ex, fz, str, d, cs, hl, hc⟩ := h
  exact ⟨ty, ex, fz, str, d, cs, by rw [look_set_ne M x hb]; exact hl, hc⟩
theorem rowAt_cells {M : Mem} {b ty fz : Nat} {ex str : Bool} {row : List V} (h : M.get b = some (.cells ty row.length ex fz str [] (rowT row))) : RowAt F M b row :=
  ⟨ty, ex, fz, str, [], rowT row, look_some_M h, fun i hi => cell_row row i⟩
def CellsAt (F : RO) (M : Mem) (b o : Nat) (row : List V) : Prop := ∀ k, k < row.length → load1 F M b (o + k) = row[k]?
theorem RowAt.cells {M : Mem} {b : Nat} {row : List V} (h : RowAt F M b row) : CellsAt F M b 0 row := fun k _ => by rw [Nat.zero_add]; exact h.load1 k
theorem CellsAt.grow {M M' : Mem} {b o c c' : Nat} {row : List V} (h : CellsAt F M b o row) (hg : Gr c M c' M') (hb : b < c) : CellsAt F M' b o row := fun k hk => by rw [hg.load1 hb]; exact h k hk
theorem CellsAt.sub {M : Mem} {b o : Nat} {row : List V} (h : CellsAt F M b o row) (i n : Nat) (hn : i + n ≤ row.length) : CellsAt F M b (o + i) ((row.drop i).take n) := fun k hk => by
  simp only [List.length_take, List.length_drop] at hk
  rw [Nat.add_assoc, h (i + k) (by omega), List.getElem?_take, if_pos (by omega), List.getElem?_drop]
theorem load1_some {M : Mem} {b o : Nat} {v : V} (h : Ev.load1 F M b o = some v) : ∃ ty n ex fz str d c, look F M b = some (.cells ty n ex fz str d c) ∧ cell n d c o = some v := by
  unfold Ev.load1 at h
  cases hl : look F M b with
  | none => rw [hl] at h; cases h
  | some x =>
    rw [hl] at h
    cases x with
    | cells ty n ex fz str d c => exact ⟨ty, n, ex, fz, str, d, c, rfl, h⟩
    | _ => cases h
theorem CellsAt.load {M : Mem} {b o : Nat} {row : List V} (h : CellsAt F M b o row) (hr : row ≠ []) : loadN F M b o row.length = some row := by
  cases row with
  | nil => exact absurd rfl hr
  | cons v r =>
    have h0 := h 0 (by simp)
    simp only [Nat.add_zero, List.getElem?_cons_zero] at h0
    obtain ⟨ty, n, ex, fz, str, d, c, hl, _⟩ := load1_some h0
    have key : ∀ (l : List V) (o : Nat), (∀ k, k < l.length → Ev.load1 F M b (o + k) = l[k]?) → cellsAt n d c l.length o = some l := by
      intro l
      induction l with
      | nil => intro o _; rfl
      | cons x l ih =>
        intro o hx
        have e0 := hx 0 (by simp)
        simp only [Nat.add_zero, List.getElem?_cons_zero] at e0
        unfold Ev.load1 at e0
        rw [hl] at e0
        have e0' : cell n d c o = some x := e0
        rw [List.length_cons, cellsAt_succ, e0']
        show (match cellsAt n d c l.length (o + 1) with | none => none | some r => some (x :: r)) = _
        rw [ih (o + 1) fun k hk => by
          have := hx (k + 1) (by simpa using hk)
          rw [List.getElem?_cons_succ] at this
          rw [← this]; congr 1; omega]
    unfold Ev.loadN
    rw [hl]
    exact key (v :: r) o h
theorem CellsAt.loadN {M : Mem} {b o : Nat} {row : List V} (h : CellsAt F M b o row) (i n : Nat) (hn : i + n ≤ row.length) (h0 : 0 < n) : loadN F M b (o + i) n = some ((row.drop i).take n) := by
  have hs := h.sub i n hn
  have hl : ((row.drop i).take n).length = n := by simp; omega
  have := hs.load (by intro e; rw [e] at hl; simp at hl; omega)
  rwa [hl] at this
theorem flat_len : ∀ {es : List (List V)} {sz : Nat}, (∀ e ∈ es, e.length = sz) → es.flatten.length = es.length * sz
  | [], sz, _ => by simp
  | e :: es, sz, h => by
    rw [List.flatten_cons, List.length_append, flat_len fun x hx => h x (List.mem_cons_of_mem _ hx), h e (List.mem_cons_self ..), List.length_cons, Nat.add_mul]; omega
theorem flat_get : ∀ {es : List (List V)} {sz : Nat}, (∀ e ∈ es, e.length = sz) → ∀ (i : Nat) (h : i < es.length), (es.flatten.drop (i * sz)).take sz = es[i]
  | [], sz, _, i, h => by cases h
  | e :: es, sz, h, 0, _ => by
    rw [List.flatten_cons, Nat.zero_mul, List.drop_zero, List.take_append_of_le_length (by rw [h e (List.mem_cons_self ..)]; exact Nat.le_refl _), List.getElem_cons_zero, ← h e (List.mem_cons_self ..), List.take_length]
  | e :: es, sz, h, i + 1, hi => by
    have he := h e (List.mem_cons_self ..)
    rw [List.flatten_cons, List.getElem_cons_succ, Nat.add_mul, Nat.one_mul, Nat.add_comm, List.drop_append, he, List.drop_eq_nil_of_le (by omega), List.nil_append, Nat.add_sub_cancel_left]
    exact flat_get (fun x hx => h x (List.mem_cons_of_mem _ hx)) i (by simpa using hi)
def SlAt (F : RO) (M : Mem) (c sz : Nat) (v : V) (es : List (List V)) : Prop :=
  (∀ e ∈ es, e.length = sz) ∧ ((es = [] ∧ (v = .l0 ∨ ∃ b o0 o, v = .ue b o0 o)) ∨
    ∃ b o, ((∃ cap, es.length ≤ cap ∧ v = .l b o es.length cap) ∨ (∃ el kn, el + es.length ≤ kn ∧ v = .u b o es.length el kn)) ∧ b < c ∧ CellsAt F M b o es.flatten)
theorem SlAt.len {M : Mem} {c sz : Nat} {v : V} {es : List (List V)} (h : SlAt F M c sz v es) : lnL v = some (.i .i64 (es.length : Int)) := by
  rcases h with ⟨_, ⟨rfl, h | ⟨b, o0, o, h⟩⟩ | ⟨b, o, ⟨cap, _, h⟩ | ⟨el, kn, _, h⟩, _⟩⟩
  · rw [h]; exact lnL_l0
  · rw [h]; exact lnL_ue _ _ _
  · rw [h]; exact lnL_l _ _ _ _
  · rw [h]; exact lnL_u _ _ _ _ _
theorem SlAt.grow {M M' : Mem} {c c' sz : Nat} {v : V} {es : List (List V)} (h : SlAt F M c sz v es) (hg : Gr c M c' M') : SlAt F M' c' sz v es := by
  rcases h with ⟨h0, h | ⟨b, o, hv, hb, hr⟩⟩
  · exact ⟨h0, .inl h⟩
  · exact ⟨h0, .inr ⟨b, o, hv, Nat.lt_of_lt_of_le hb hg.le, hr.grow hg hb⟩⟩
theorem SlAt.at {M : Mem} {c sz : Nat} {v : V} {es : List (List V)} (h : SlAt F M c sz v es) (i : Nat) (hi : i < es.length) :
    ∃ b o, b < c ∧ (∀ k, iaSV sz v (.i k (i : Int)) = some (.p b o)) ∧ CellsAt F M b o es[i] := by
  rcases h with ⟨h0, ⟨rfl, _⟩ | ⟨b, o, hv, hb, hr⟩⟩
  · cases hi
  · have hle : i * sz + sz ≤ es.flatten.length := by
      have : (i + 1) * sz ≤ es.length * sz := Nat.mul_le_mul_right _ hi
      rw [Nat.add_mul, Nat.one_mul] at this
      rw [flat_len h0]
      exact this
    refine ⟨b, o + i * sz, hb, fun k => ?_, ?_⟩
    · rcases hv with ⟨cap, _, rfl⟩ | ⟨el, kn, _, rfl⟩
      · exact iaS_l _ _ _ _ _ _ _ hi
      · exact iaS_u _ _ _ _ _ _ _ _ hi
    · have := hr.sub (i * sz) sz hle
      rwa [flat_get h0 i hi] at this
theorem SlAt.one {M : Mem} {c : Nat} {v : V} {es : List (List V)} (h : SlAt F M c 1 v es) (i : Nat) (hi : i < es.length) {x : V} (hx : es[i] = [x]) :
    ∃ b o, b < c ∧ (∀ k, iaSV 1 v (.i k (i : Int)) = some (.p b o)) ∧ load1 F M b o = some x := by
  obtain ⟨b, o, h1, h2, h3⟩ := h.at i hi
  refine ⟨b, o, h1, h2, ?_⟩
  have := h3 0 (by rw [hx]; simp)
  rw [Nat.add_zero, hx] at this
  exact this
theorem Okm.set {M : Mem} {c c' : Nat} (h : Okm F M c) (b : Nat) (x : Blk) (h1 : c ≤ b) (h2 : b < c') : Okm F (M.set b x) c' := by
  refine ⟨fun b' hb' => ?_, fun b' hb' => h.hiF b' (by omega), fun b' hb' => ?_, by have := h.ge; omega⟩
  · rw [get_ne _ _ (by omega)]; exact h.hiM b' (by omega)
  · have : b' ≠ b := by
      intro e; subst e
      rw [h.hiF b' h1] at hb'; cases hb'
    rw [get_ne _ _ this]; exact h.ap b' hb'
abbrev SlB (F : RO) (M : Mem) (c : Nat) (v : V) (l : List UInt8) : Prop := SlAt F M c 1 v (l.map fun x => [bV x])
theorem SlB.get {M : Mem} {c : Nat} {v : V} {l : List UInt8} (h : SlB F M c v l) (i : Nat) (hi : i < l.length) :
    ∃ b o, b < c ∧ (∀ k, iaSV 1 v (.i k (i : Int)) = some (.p b o)) ∧ load1 F M b o = some (.i .u8 (l[i].toNat : Int)) :=
  SlAt.one h i (by simpa using hi) (by simp [bV])
theorem SlB.len {M : Mem} {c : Nat} {v : V} {l : List UInt8} (h : SlB F M c v l) : lnL v = some (.i .i64 (l.length : Int)) := by
  have := SlAt.len h
  rwa [List.length_map] at this
theorem loadN_fr {M M' : Mem} {b : Nat} (h : M'.get b = M.get b) (o n : Nat) : loadN F M' b o n = loadN F M b o n := by
  unfold Ev.loadN; rw [look_congr h]
theorem load1_fr {M M' : Mem} {b : Nat} (h : M'.get b = M.get b) (o : Nat) : load1 F M' b o = load1 F M b o := by
  unfold Ev.load1; rw [look_congr h]
theorem get_same (M : Mem) (b : Nat) (x : Blk) : (M.set b x).get b = some x := by rw [Tr.get_set, if_pos rfl]
end
end Go.Proofs.YtaogopbhjinmoaaGreatDoor.Ev
namespace Go.Proofs.YtaogopbhjinmoaaGreatDoor.Ev
open Go
section
variable {Φ : Nat → Option CF} {rd : Option Nat} {fn : Nat} {F : RO}
theorem lenV_sl {M : Mem} {c sz : Nat} {v : V} {es : List (List V)} (h : SlAt F M c sz v es) : lenV v = some es.length := by
  rcases h with ⟨_, ⟨rfl, rfl | ⟨b, o0, o, rfl⟩⟩ | ⟨b, o, ⟨cap, _, rfl⟩ | ⟨el, kn, _, rfl⟩, _⟩⟩ <;> rfl
theorem readB_of {M : Mem} {sz b o : Nat} {es : List (List V)} (hsz : 0 < sz) (h0 : ∀ e ∈ es, e.length = sz) (h : CellsAt F M b o es.flatten) : ∃ r, readB F M sz es.length b o = some (es.flatten, r) := by
  unfold readB
  rw [beqN]
  cases es with
  | nil => exact ⟨none, rfl⟩
  | cons e es =>
    have hl := flat_len h0
    have hne : (e :: es).flatten ≠ [] := by
      intro h
      rw [h] at hl
      simp only [List.length_nil, List.length_cons, Nat.add_mul] at hl
      omega
    have := h.load hne
    rw [hl] at this
    rw [decide_eq_false (by simp), cond_false]
    show ∃ r, (match loadN F M b o ((e :: es).length * sz) with | some vs => some (vs, some b) | none => none) = _
    rw [this]
    exact ⟨some b, rfl⟩
theorem readL_of {M : Mem} {c sz : Nat} {v : V} {es : List (List V)} (hsz : 0 < sz) (h : SlAt F M c sz v es) : ∃ r, readL F M sz es.length v = some (es.flatten, r) := by
  rcases h with ⟨h0, ⟨rfl, rfl | ⟨b, o0, o, rfl⟩⟩ | ⟨b, o, ⟨cap, _, rfl⟩ | ⟨el, kn, _, rfl⟩, _, hc⟩⟩
  · exact ⟨none, rfl⟩
  · exact ⟨none, rfl⟩
  · exact readB_of hsz h0 hc
  · exact readB_of hsz h0 hc
theorem split_sl {M : Mem} {c sz : Nat} {v : V} {es : List (List V)} (hsz : 0 < sz) (h : SlAt F M c sz v es) : splitSrc F M sz v = some (es.length, es.flatten) := by
  have hl := lenV_sl h
  obtain ⟨r, hr⟩ := readL_of hsz h
  have hs : ∀ n x, v ≠ .s n x := by
    intro n x e
    rcases h with ⟨_, ⟨rfl, h | ⟨b, o0, o, h⟩⟩ | ⟨b, o, ⟨cap, _, h⟩ | ⟨el, kn, _, h⟩, _⟩⟩ <;> (rw [e] at h; cases h)
  have e : splitSrc F M sz v = match lenV v with | some n => snd1 n (readL F M sz n v) | none => none := by
    cases v <;> first | rfl | exact absurd rfl (hs _ _)
  rw [e, hl]
  show snd1 es.length (readL F M sz es.length v) = _
  rw [hr]; rfl
noncomputable def rowU (ty : Nat) (row : List V) : Blk := .cells ty row.length false 0 false [] (rowT row)
def AccAt (M : Mem) (c0 c b ty sz : Nat) (v : V) (es : List (List V)) : Prop :=
  (∀ e ∈ es, e.length = sz) ∧ ((es = [] ∧ v = .l0) ∨ (c0 ≤ b ∧ b < c ∧ v = .u b 0 es.length 0 es.length ∧ M.get b = some (rowU ty es.flatten)))
theorem AccAt.nil {M : Mem} {c0 c b ty sz : Nat} : AccAt M c0 c b ty sz .l0 [] := ⟨fun e he => (by cases he), .inl ⟨rfl, rfl⟩⟩
theorem rowAt_U {M : Mem} {b ty : Nat} {row : List V} (h : M.get b = some (rowU ty row)) : RowAt F M b row := rowAt_cells h
theorem AccAt.sl {M : Mem} {c0 c b ty sz : Nat} {v : V} {es : List (List V)} (h : AccAt M c0 c b ty sz v es) : SlAt F M c sz v es := by
  rcases h with ⟨h0, ⟨rfl, rfl⟩ | ⟨h1, h2, rfl, h3⟩⟩
  · exact ⟨h0, .inl ⟨rfl, .inl rfl⟩⟩
  · exact ⟨h0, .inr ⟨b, 0, .inr ⟨0, es.length, by omega, rfl⟩, h2, (rowAt_U h3).cells⟩⟩
theorem AccAt.up {M M' : Mem} {c0 c c' b ty sz : Nat} {v : V} {es : List (List V)} (h : AccAt M c0 c b ty sz v es) (hc : c ≤ c') (hb : b < c → M'.get b = M.get b) : AccAt M' c0 c' b ty sz v es := by
  rcases h with ⟨h0, h | ⟨h1, h2, rfl, h3⟩⟩
  · exact ⟨h0, .inl h⟩
  · exact ⟨h0, .inr ⟨h1, by omega, rfl, by rw [hb h2]; exact h3⟩⟩
theorem AccAt.gr {M M' : Mem} {c0 c c' b ty sz : Nat} {v : V} {es : List (List V)} (h : AccAt M c0 c b ty sz v es) (hg : Gr c M c' M') : AccAt M' c0 c' b ty sz v es := h.up hg.le fun hb => hg.old b hb
theorem room_of {n bytes : Nat} (h : (3 * n + 2000) * bytes ≤ 281474976710656) (h1 : n ≤ 1099511627776) : room n bytes = true := by
  unfold room
  rw [bleN, bleN]
  have a : decide (Nat.mul (Nat.add (Nat.mul 3 n) 2000) bytes ≤ 281474976710656) = true := decide_eq_true h
  rw [a, decide_eq_true h1]; rfl
theorem grown_eq (M : Mem) (c ty bytes len : Nat) (vs : List V) (h : room len bytes = true) : grown M c ty bytes len 0 false vs = .k (.u c 0 len 0 len) (M.set c (rowU ty vs)) (c + 1) := by
  unfold grown
  rw [h]
  show (M.set c (.cells ty vs.length false 0 false [] (listTr vs 0 .e))).force (fun M => fN (Nat.succ c) fun c' => fN len fun len => RC.k (.u c 0 len 0 len) M c') = _
  rw [Tr.force_eq, fN_eq, fN_eq]; rfl
theorem listTr_append : ∀ (a b : List V) (k : Nat) (t : T), listTr (a ++ b) k t = listTr b (k + a.length) (listTr a k t)
  | [], b, k, t => by rw [listTr_nil]; rfl
  | v :: a, b, k, t => by rw [List.cons_append, listTr_cons, listTr_cons, listTr_append a b, List.length_cons, show k + 1 + a.length = k + (a.length + 1) by omega]
theorem grownT_eq (M : Mem) (c ty bytes len : Nat) (old new : List V) (h : room len bytes = true) : grownT M c ty bytes len 0 false new old.length [] (listTr old 0 .e) = .k (.u c 0 len 0 len) (M.set c (rowU ty (old ++ new))) (c + 1) := by
  unfold grownT
  rw [h]
  show ((listTr new old.length (listTr old 0 .e)).force fun cs => fN (Nat.add old.length new.length) fun m => (M.set c (.cells ty m false 0 false [] cs)).force fun M => fN (Nat.succ c) fun c' => fN len fun len => RC.k (.u c 0 len 0 len) M c') = _
  rw [Tr.force_eq, fN_eq, Tr.force_eq, fN_eq, fN_eq]
  unfold rowU rowT
  rw [List.length_append, listTr_append, Nat.zero_add]; rfl
theorem app_nil {M : Mem} {c ty sz bytes n : Nat} {new : List V} (h : n ≠ 0) : app F M c ty sz bytes .l0 n new = grown M c ty bytes n 0 false new := by
  unfold app
  rw [beqN, decide_eq_false h, cond_false]
theorem app_un {M : Mem} {c ty sz bytes b o len el kn n : Nat} {new : List V} (h : n ≠ 0) : app F M c ty sz bytes (.u b o len el kn) n new = app_u F M c ty sz bytes b o len el kn n new := by
  unfold app
  rw [beqN, decide_eq_false h, cond_false]
theorem app_to {M0 M : Mem} {c0 c b ty sz bytes : Nat} {v : V} {es ns : List (List V)} (h : AccAt M c0 c b ty sz v es) (hg : Gr c0 M0 c M) (hsz : 0 < sz) (hn : ∀ e ∈ ns, e.length = sz) (h1 : allOne ns.flatten = true) (hr : room (es.length + ns.length) bytes = true) :
    RTo (e_app1 F M c ty sz bytes v (some (ns.length, ns.flatten))) fun v' M' c' => ∃ b', AccAt M' c0 c' b' ty sz v' (es ++ ns) ∧ Gr c0 M0 c' M' ∧ c ≤ c' ∧ (∀ x, x < c → x ≠ b → M'.get x = M.get x) ∧ (b' = b ∨ c ≤ b') := by
  have hnl := flat_len hn
  have e1 : e_app1 F M c ty sz bytes v (some (ns.length, ns.flatten)) = app F M c ty sz bytes v ns.length ns.flatten := by
    show (bif allOne ns.flatten && Nat.beq ns.flatten.length (Nat.mul ns.length sz) then _ else _) = _
    rw [h1, beqN, decide_eq_true (show ns.flatten.length = Nat.mul ns.length sz from hnl)]; rfl
  rw [e1]
  have hall : ∀ e ∈ es ++ ns, e.length = sz := by
    intro e he
    rcases List.mem_append.1 he with he | he
    · exact h.1 e he
    · exact hn e he
  by_cases hz : ns = []
  · subst hz
    have e2 : app F M c ty sz bytes v 0 [] = .k v M c := by
      show (bif Nat.beq 0 0 then (bif lenOk v then RC.k v M c else .f) else _) = _
      have : lenOk v = true := by
        rcases h with ⟨_, ⟨_, rfl⟩ | ⟨_, _, rfl, _⟩⟩
        · rfl
        · show Nat.ble es.length (Nat.sub es.length 0) = true
          rw [bleN]; exact decide_eq_true (Nat.le_refl _)
      rw [this]; rfl
    exact ⟨v, M, c, e2, b, by rw [List.append_nil]; exact h, hg, Nat.le_refl _, fun _ _ _ => rfl, .inl rfl⟩
  · have hn0 : ns.length ≠ 0 := fun e => hz (List.length_eq_zero_iff.1 e)
    rcases h with ⟨h0, ⟨rfl, rfl⟩ | ⟨ha, hb, rfl, hM⟩⟩
    · rw [List.length_nil, Nat.zero_add] at hr
      refine ⟨_, _, _, (app_nil hn0).trans (grown_eq M c ty bytes ns.length ns.flatten hr), c, ⟨hall, .inr ⟨hg.le, by omega, rfl, ?_⟩⟩, hg.set c _ hg.le (by omega) (by omega), by omega, fun x hx _ => get_ne _ _ (by omega), .inr (Nat.le_refl _)⟩
      rw [Tr.get_set, if_pos rfl]; rfl
    · have hel := flat_len h0
      obtain ⟨r, hrd⟩ := readB_of hsz h0 (rowAt_U (F := F) hM).cells
      have hmw : mayWrite M b ty (Nat.add 0 (Nat.mul es.length sz)) (Nat.add 0 (Nat.mul (Nat.sub es.length 0) sz)) = some (0, false) := by
        unfold mayWrite
        rw [hM]
        show (bif Nat.beq ty ty && Nat.beq es.flatten.length (0 + (es.length - 0) * sz) && Nat.ble 0 (0 + es.length * sz) && Nat.ble (0 + es.length * sz) (0 + (es.length - 0) * sz) then some (0, false) else none) = _
        rw [beqN, beqN, bleN, bleN, decide_eq_true (show ty = ty from rfl), decide_eq_true (show es.flatten.length = 0 + (es.length - 0) * sz by rw [hel]; simp), decide_eq_true (Nat.zero_le _), decide_eq_true (show 0 + es.length * sz ≤ 0 + (es.length - 0) * sz by simp)]; rfl
      have e3 : app_u F M c ty sz bytes b 0 es.length 0 es.length ns.length ns.flatten = .k (.u c 0 (es.length + ns.length) 0 (es.length + ns.length)) ((M.del b).set c (rowU ty (es.flatten ++ ns.flatten))) (c + 1) := by
        unfold app_u
        rw [bleN, decide_eq_false (show ¬ Nat.add (Nat.add 0 es.length) ns.length ≤ es.length by show ¬ 0 + es.length + ns.length ≤ es.length; omega), cond_false, hmw]
        show (bif Nat.beq 0 0 && Nat.beq (es.length - 0) es.length then grownB (M.del b) c ty bytes (es.length + ns.length) 0 false ns.flatten (M.get b) else _) = _
        rw [beqN, beqN, decide_eq_true rfl, decide_eq_true (Nat.sub_zero _), Bool.true_and, cond_true, hM]
        exact grownT_eq _ c ty bytes _ es.flatten ns.flatten hr
      refine ⟨_, _, _, (app_un hn0).trans e3, c, ⟨hall, .inr ⟨by omega, by omega, by rw [List.length_append], ?_⟩⟩, (hg.del b ha).set c _ (by omega) (by omega) (by omega), by omega, fun x hx hxb => ?_, .inr (Nat.le_refl _)⟩
      · rw [Tr.get_set, if_pos rfl, List.flatten_append]
      · rw [get_ne _ _ (by omega), Tr.get_del, if_neg hxb]
noncomputable def slLV (sz : Nat) (x : V) (lo hi mx : Option V) : Option V := (qop (.slL sz (.c x) (lo.map .c) (hi.map .c) (mx.map .c)) [] .e .e).val
theorem optNN_map (tm : T) (o : Option X) : optNN .e ((o.map fun x => x.ev tm).map .c) = optNN tm o := by cases o <;> rfl
theorem v_slL (sz : Nat) (x : X) (lo hi mx : Option X) (M : Mem) (t : T) : (qop (.slL sz x lo hi mx) F M t).val = slLV sz (x.ev t) (lo.map fun x => x.ev t) (hi.map fun x => x.ev t) (mx.map fun x => x.ev t) := by
  show (q_slL1 sz (x.ev t) (optNN t lo) (optNN t hi) (optNN t mx)).val = (q_slL1 sz (x.ev t) (optNN .e _) (optNN .e _) (optNN .e _)).val
  rw [optNN_map, optNN_map, optNN_map]
theorem mkL_eq (b o n c : Nat) : mkL b o n c = .v (.l b o n c) := by unfold mkL; rw [fN_eq, fN_eq, fN_eq]
theorem mkU_eq (b o n el kn : Nat) : mkU b o n el kn = .v (.u b o n el kn) := by unfold mkU; rw [fN_eq, fN_eq, fN_eq]
theorem flat_sub {es : List (List V)} {sz lo hi : Nat} (h0 : ∀ e ∈ es, e.length = sz) (h1 : lo ≤ hi) (h2 : hi ≤ es.length) : ((es.take hi).drop lo).flatten = (es.flatten.drop (lo * sz)).take ((hi - lo) * sz) := by
  have key : ∀ (es : List (List V)) (k : Nat), (∀ e ∈ es, e.length = sz) → (es.take k).flatten = es.flatten.take (k * sz) ∧ (es.drop k).flatten = es.flatten.drop (k * sz) := by
    intro es
    induction es with
    | nil => intro k _; simp
    | cons e es ih =>
      intro k h
      cases k with
      | zero => simp
      | succ k =>
        obtain ⟨a, b⟩ := ih k fun x hx => h x (List.mem_cons_of_mem _ hx)
        have he := h e (List.mem_cons_self ..)
        constructor
        · rw [List.take_succ_cons, List.flatten_cons, List.flatten_cons, a, show (k + 1) * sz = e.length + k * sz by rw [Nat.add_mul, he]; omega, List.take_length_add_append]
        · rw [List.drop_succ_cons, List.flatten_cons, b, show (k + 1) * sz = e.length + k * sz by rw [Nat.add_mul, he]; omega, List.drop_length_add_append]
  have ht : ∀ e ∈ es.take hi, e.length = sz := fun e he => h0 e (List.mem_of_mem_take he)
  rw [(key (es.take hi) lo ht).2, (key es hi h0).1, List.drop_take, Nat.sub_mul]
theorem slL_of {M : Mem} {c sz : Nat} {v : V} {es : List (List V)} {lo hi : Nat} (h : SlAt F M c sz v es) (h1 : lo ≤ hi) (h2 : hi ≤ es.length) :
    ∃ v', (slcV sz v (some lo) (some hi) none = .v v' ∧ (lo = 0 → slcV sz v none (some hi) none = .v v') ∧ (hi = es.length → slcV sz v (some lo) none none = .v v') ∧ (lo = 0 → hi = es.length → slcV sz v none none none = .v v')) ∧ SlAt F M c sz v' ((es.take hi).drop lo) := by
  have hs : ∀ e ∈ (es.take hi).drop lo, e.length = sz := fun e he => h.1 e (List.mem_of_mem_take (List.mem_of_mem_drop he))
  have hl : ((es.take hi).drop lo).length = hi - lo := by simp; omega
  rcases h with ⟨h0, ⟨rfl, rfl | ⟨b, o0, o, rfl⟩⟩ | ⟨b, o, hv, hb, hc⟩⟩
  · obtain rfl : hi = 0 := by simpa using h2
    obtain rfl : lo = 0 := by omega
    exact ⟨.l0, ⟨rfl, fun _ => rfl, fun _ => rfl, fun _ _ => rfl⟩, hs, .inl ⟨rfl, .inl rfl⟩⟩
  · obtain rfl : hi = 0 := by simpa using h2
    obtain rfl : lo = 0 := by omega
    exact ⟨.ue b o0 o, ⟨rfl, fun _ => rfl, fun _ => rfl, fun _ _ => rfl⟩, hs, .inl ⟨rfl, .inr ⟨b, o0, o, rfl⟩⟩⟩
  · have hfl := flat_len h0
    have hcs : CellsAt F M b (o + lo * sz) ((es.take hi).drop lo).flatten := by
      rw [flat_sub h0 h1 h2]
      refine hc.sub _ _ ?_
      rw [hfl, ← Nat.add_mul]
      exact Nat.mul_le_mul_right _ (by omega)
    rcases hv with ⟨cap, hcap, rfl⟩ | ⟨el, kn, hkn, rfl⟩
    · have e : slc_l sz b o cap lo hi cap = .v (.l b (if cap = lo then o else o + lo * sz) (hi - lo) (cap - lo)) := by
        unfold slc_l
        rw [bleN, bleN, bleN, beqN, decide_eq_true (Nat.le_refl cap), decide_eq_true (show hi ≤ cap by omega), decide_eq_true h1]
        show mkL b (bif decide (cap = lo) then o else o + lo * sz) (hi - lo) (cap - lo) = _
        rw [mkL_eq]
        by_cases hh : cap = lo
        · rw [decide_eq_true hh, if_pos hh]; rfl
        · rw [decide_eq_false hh, if_neg hh]; rfl
      refine ⟨_, ⟨e, fun hh => ?_, fun hh => ?_, fun hh hh2 => ?_⟩, hs, .inr ⟨b, if cap = lo then o else o + lo * sz, .inl ⟨cap - lo, by rw [hl]; omega, by rw [hl]⟩, hb, ?_⟩⟩
      · subst hh; exact e
      · subst hh; exact e
      · subst hh hh2; exact e
      · by_cases hh : cap = lo
        · rw [if_pos hh]
          have : (es.take hi).drop lo = [] := List.eq_nil_of_length_eq_zero (by omega)
          rw [this]
          intro k hk; simp at hk
        · rw [if_neg hh]; exact hcs
    · by_cases hz : lo = 0
      · subst hz
        have e : slc_u sz b o el kn 0 hi = .v (.u b o hi el kn) := by
          unfold slc_u
          rw [bleN, bleN, decide_eq_true (show Nat.add el hi ≤ kn by show el + hi ≤ kn; omega), decide_eq_true (Nat.zero_le hi)]
          exact mkU_eq _ _ _ _ _
        refine ⟨_, ⟨e, fun _ => e, fun hh => ?_, fun _ hh => ?_⟩, hs, .inr ⟨b, o, .inr ⟨el, kn, by rw [hl]; omega, by rw [hl]; rfl⟩, hb, by simpa using hcs⟩⟩
        · subst hh; exact e
        · subst hh; exact e
      · by_cases hh : el + lo < kn
        · have e : slc_u sz b o el kn lo hi = .v (.u b (o + lo * sz) (hi - lo) (el + lo) kn) := by
            unfold slc_u
            rw [bleN, bleN, beqN, bltN, decide_eq_true (show Nat.add el hi ≤ kn by show el + hi ≤ kn; omega), decide_eq_true h1, decide_eq_false hz, decide_eq_true (show Nat.add el lo < kn from hh)]
            exact mkU_eq _ _ _ _ _
          refine ⟨_, ⟨e, fun h => absurd h hz, fun hh => ?_, fun h _ => absurd h hz⟩, hs, .inr ⟨b, o + lo * sz, .inr ⟨el + lo, kn, by rw [hl]; omega, by rw [hl]⟩, hb, hcs⟩⟩
          subst hh; exact e
        · have e : slc_u sz b o el kn lo hi = .v (.ue b o (o + lo * sz)) := by
            unfold slc_u
            rw [bleN, bleN, beqN, bltN, decide_eq_true (show Nat.add el hi ≤ kn by show el + hi ≤ kn; omega), decide_eq_true h1, decide_eq_false hz, decide_eq_false (show ¬ Nat.add el lo < kn from hh)]
            show fN (o + lo * sz) (fun o' => QR.v (.ue b o o')) = _
            rw [fN_eq]
          have hnil : (es.take hi).drop lo = [] := List.eq_nil_of_length_eq_zero (by omega)
          refine ⟨_, ⟨e, fun h => absurd h hz, fun hh => ?_, fun h _ => absurd h hz⟩, hs, .inl ⟨hnil, .inr ⟨b, o, _, rfl⟩⟩⟩
          subst hh; exact e
theorem slLV_of {M : Mem} {c sz : Nat} {v : V} {es : List (List V)} {lo hi : Nat} (h : SlAt F M c sz v es) (h1 : lo ≤ hi) (h2 : hi ≤ es.length) :
    ∃ v', (∀ k k', slLV sz v (some (.i k (lo : Int))) (some (.i k' (hi : Int))) none = some v') ∧ (lo = 0 → ∀ k', slLV sz v none (some (.i k' (hi : Int))) none = some v') ∧ (hi = es.length → ∀ k, slLV sz v (some (.i k (lo : Int))) none none = some v') ∧ (lo = 0 → hi = es.length → slLV sz v none none none = some v') ∧ SlAt F M c sz v' ((es.take hi).drop lo) := by
  obtain ⟨v', ⟨e1, e2, e3, e4⟩, hs⟩ := slL_of h h1 h2
  refine ⟨v', fun k k' => ?_, fun h0 k' => ?_, fun h0 k => ?_, fun h0 h0' => ?_, hs⟩
  · show (slcV sz v (some lo) (some hi) none).val = _; rw [e1]; rfl
  · show (slcV sz v none (some hi) none).val = _; rw [e2 h0]; rfl
  · show (slcV sz v (some lo) none none).val = _; rw [e3 h0]; rfl
  · show (slcV sz v none none none).val = _; rw [e4 h0 h0']; rfl
noncomputable def appV (F : RO) (M : Mem) (c ty sz bytes : Nat) (x y : V) : RC := e_app1 F M c ty sz bytes x (splitSrc F M sz y)
theorem x_app_eq (ty sz bytes : Nat) (x y : X) (M : Mem) (c : Nat) (t : T) : doE (.app ty sz bytes x y) (K Φ rd fn F) M c t = appV F M c ty sz bytes (x.ev t) (y.ev t) := rfl
theorem appV_to {M0 M : Mem} {c0 c b ty sz bytes : Nat} {v y : V} {es ns : List (List V)} (h : AccAt M c0 c b ty sz v es) (hg : Gr c0 M0 c M) (hsz : 0 < sz) (hy : SlAt F M c sz y ns) (h1 : allOne ns.flatten = true) (hr : room (es.length + ns.length) bytes = true) :
    RTo (appV F M c ty sz bytes v y) fun v' M' c' => ∃ b', AccAt M' c0 c' b' ty sz v' (es ++ ns) ∧ Gr c0 M0 c' M' ∧ c ≤ c' ∧ (∀ x, x < c → x ≠ b → M'.get x = M.get x) ∧ (b' = b ∨ c ≤ b') := by
  unfold appV
  rw [split_sl hsz hy]
  exact app_to h hg hsz hy.1 h1 hr
theorem flat_bytes (l : List UInt8) : (l.map fun x => [bV x]).flatten = l.map bV := by
  induction l with
  | nil => rfl
  | cons a l ih => rw [List.map_cons, List.flatten_cons, ih]; rfl
theorem allOne_sl (l : List UInt8) : allOne (l.map fun x => [bV x]).flatten = true := by rw [flat_bytes]; exact allOne_bytes l
noncomputable def bsV (F : RO) (M : Mem) (x : V) : Option V := (qop (.bs (.c x)) F M .e).val
theorem v_bs (x : X) (M : Mem) (t : T) : (qop (.bs x) F M t).val = bsV F M (x.ev t) := Eq.trans rfl (Eq.refl _)
theorem bs_of {M : Mem} {c : Nat} {v : V} {l : List UInt8} (h : SlB F M c v l) : bsV F M v = some (sV l) := by
  have hl := lenV_sl h
  obtain ⟨r, hr⟩ := readL_of Nat.one_pos h
  rw [List.length_map] at hl hr
  rw [flat_bytes] at hr
  have e : qop (.bs (.c v)) F M .e = q_bs1 F M v (lenV v) := by
    show (match v with | .s _ _ => QR.f | v => q_bs1 F M v (lenV v)) = _
    rcases h with ⟨_, ⟨_, rfl | ⟨b, o0, o, rfl⟩⟩ | ⟨b, o, ⟨cap, _, rfl⟩ | ⟨el, kn, _, rfl⟩, _⟩⟩ <;> rfl
  unfold bsV
  rw [e, hl]
  show (match readL F M 1 l.length v with | some (vs, b) => q_bs2 b (bytesV vs) | none => QR.f).val = _
  rw [hr]
  show (q_bs2 r (bytesV (l.map bV))).val = _
  rw [bytesV_s]
  show (fN l.length fun n => fN (strN l) fun s => match r with | some b => QR.r (.s n s) b | none => .v (.s n s)).val = _
  rw [fN_eq, fN_eq]
  cases r <;> rfl
noncomputable def rowD (d : List V) (ty : Nat) (row : List V) : Blk := .cells ty row.length true 0 false d (rowT row)
theorem cell_rowD (d l : List V) (i : Nat) (h : i < l.length) : cell l.length d (rowT l) i = l[i]? := by
  rw [cell_eq, if_pos h]
  unfold rowT
  rw [listTr_get, if_pos (by omega)]
  simp only [Nat.sub_zero]
  rw [List.getElem?_eq_getElem h]
theorem rowAt_D {M : Mem} {b ty : Nat} {d row : List V} (h : M.get b = some (rowD d ty row)) : RowAt F M b row :=
  ⟨ty, true, 0, false, d, rowT row, look_some_M h, fun i hi => cell_rowD d row i hi⟩
theorem slD {M : Mem} {b c ty sz n : Nat} {d : List V} {es : List (List V)} (h : M.get b = some (rowD d ty es.flatten)) (hb : b < c) (h0 : ∀ e ∈ es, e.length = sz) (hn : es.length = n) : SlAt F M c sz (.l b 0 n n) es := by
  subst hn
  exact ⟨h0, .inr ⟨b, 0, .inl ⟨_, Nat.le_refl _, rfl⟩, hb, (rowAt_D h).cells⟩⟩
noncomputable def evPs (t : T) : List (Nat × X) → List (Nat × List V)
  | [] => []
  | (o, x) :: r => (o, flatten (x.ev t)) :: evPs t r
theorem evPs_nil (t : T) : evPs t [] = [] := rfl
theorem evPs_cons (t : T) (o : Nat) (x : X) (r : List (Nat × X)) : evPs t ((o, x) :: r) = (o, flatten (x.ev t)) :: evPs t r := rfl
noncomputable def partsR (sz : Nat) : Nat → List (Nat × List V) → Option (List V)
  | _, [] => some []
  | o, (k, vs) :: r => if k = o ∧ vs.length = sz ∧ allOne vs = true then (partsR sz (o + sz) r).map (vs ++ ·) else none
theorem partsR_nil (sz o : Nat) : partsR sz o [] = some [] := rfl
theorem partsR_cons (sz o k : Nat) (vs : List V) (r : List (Nat × List V)) : partsR sz o ((k, vs) :: r) = if k = o ∧ vs.length = sz ∧ allOne vs = true then (partsR sz (o + sz) r).map (vs ++ ·) else none := rfl
theorem listTr_snoc : ∀ (a b : List V) (k : Nat) (t : T), listTr b (k + a.length) (listTr a k t) = listTr (a ++ b) k t
  | [], b, k, t => rfl
  | x :: a, b, k, t => by
    rw [List.cons_append, listTr_cons, listTr_cons, List.length_cons, show k + (a.length + 1) = (k + 1) + a.length by omega, listTr_snoc a b]
theorem fillP_of {sz m : Nat} {t : T} : ∀ {parts : List (Nat × X)} {pre row : List V}, partsR sz pre.length (evPs t parts) = some row → pre.length + row.length ≤ m → fillP sz m t parts (listTr pre 0 .e) = some (listTr (pre ++ row) 0 .e)
  | [], pre, row, h, hm => by
    obtain rfl : [] = row := Option.some.inj h
    rw [List.append_nil]; rfl
  | (o, x) :: r, pre, row, h, hm => by
    rw [evPs_cons, partsR_cons] at h
    split at h
    · rename_i hc
      obtain ⟨rfl, h1, h2⟩ := hc
      rw [Option.map_eq_some_iff] at h
      obtain ⟨row', h3, rfl⟩ := h
      rw [List.length_append] at hm
      show (bif Nat.beq (flatten (x.ev t)).length sz && Nat.ble (Nat.add pre.length sz) m && allOne (flatten (x.ev t)) then (listTr (flatten (x.ev t)) pre.length (listTr pre 0 .e)).force fun t' => fillP sz m t r t' else none) = _
      rw [beqN, bleN, h2, decide_eq_true h1, decide_eq_true (show Nat.add pre.length sz ≤ m by show pre.length + sz ≤ m; omega)]
      show (listTr (flatten (x.ev t)) pre.length (listTr pre 0 .e)).force (fun t' => fillP sz m t r t') = _
      rw [Tr.force_eq]
      have hs := listTr_snoc pre (flatten (x.ev t)) 0 .e
      rw [Nat.zero_add] at hs
      rw [hs]
      have := fillP_of (m := m) (parts := r) (pre := pre ++ flatten (x.ev t)) (row := row') (by rw [List.length_append, h1]; exact h3) (by rw [List.length_append]; omega)
      rw [this, List.append_assoc]
    · cases h
theorem partsR_len {sz : Nat} : ∀ {ps : List (Nat × List V)} {o : Nat} {row : List V}, partsR sz o ps = some row → row.length = ps.length * sz ∧ allOne row = true
  | [], o, row, h => by
    obtain rfl : [] = row := Option.some.inj h
    simp; rfl
  | (k, vs) :: r, o, row, h => by
    rw [partsR_cons] at h
    split at h
    · rename_i hc
      rw [Option.map_eq_some_iff] at h
      obtain ⟨row', h3, rfl⟩ := h
      obtain ⟨h4, h5⟩ := partsR_len h3
      refine ⟨by rw [List.length_append, h4, hc.2.1, List.length_cons, Nat.add_mul]; omega, ?_⟩
      have key : ∀ (a b : List V), allOne a = true → allOne b = true → allOne (a ++ b) = true := by
        intro a
        induction a with
        | nil => intro b _ h; exact h
        | cons x a ih =>
          intro b ha hb
          rw [allOne_cons, Bool.and_eq_true] at ha
          rw [List.cons_append, allOne_cons, ha.1, ih b ha.2 hb]; rfl
      exact key _ _ hc.2.2 h5
    · cases h
noncomputable def bslO (ty n : Nat) (zero : List V) (b : Nat) : Option (List V) → Option (V × Blk)
  | some row => some (.l b 0 n n, rowD zero ty row)
  | none => none
noncomputable def bslX (ty n sz : Nat) (zero : List V) (parts : List (Nat × X)) (b : Nat) (t : T) : Option (V × Blk) := aop (.bsl ty n sz zero parts) b t
theorem evPs_len (t : T) : ∀ ps : List (Nat × X), (evPs t ps).length = ps.length
  | [] => rfl
  | (o, x) :: r => by rw [evPs_cons, List.length_cons, List.length_cons, evPs_len t r]
theorem a_bsl_eq (ty n sz : Nat) (zero : List V) (parts : List (Nat × X)) (b : Nat) (t : T) (hn : parts.length = n) {row : List V} (h : partsR sz 0 (evPs t parts) = some row) :
    aop (.bsl ty n sz zero parts) b t = some (.l b 0 n n, rowD zero ty row) := by
  subst hn
  have hl := (partsR_len h).1
  rw [evPs_len] at hl
  have := fillP_of (m := parts.length * sz) (pre := []) h (by simp [hl])
  rw [List.nil_append] at this
  show (match fillP sz (parts.length * sz) t parts .e with | some c => fN (parts.length * sz) fun m => some (V.l b 0 parts.length parts.length, Blk.cells ty m true 0 false zero c) | none => none) = _
  rw [show fillP sz (parts.length * sz) t parts .e = some (listTr row 0 .e) from this]
  show fN (parts.length * sz) (fun m => some (V.l b 0 parts.length parts.length, Blk.cells ty m true 0 false zero (listTr row 0 .e))) = _
  rw [fN_eq, ← hl]; rfl
theorem a_bsl_w (ty n sz : Nat) (zero : List V) (parts : List (Nat × X)) (b : Nat) (t : T) : aop (.bsl ty n sz zero parts) b t = if parts.length = n ∧ (partsR sz 0 (evPs t parts)).isSome = true then bslO ty n zero b (partsR sz 0 (evPs t parts)) else bslX ty n sz zero parts b t := by
  split
  · rename_i h
    obtain ⟨row, hr⟩ := Option.isSome_iff_exists.1 h.2
    rw [hr]
    exact a_bsl_eq ty n sz zero parts b t h.1 hr
  · rfl
theorem bslO_some (ty n : Nat) (zero : List V) (b : Nat) (row : List V) : bslO ty n zero b (some row) = some (.l b 0 n n, rowD zero ty row) := rfl
end
end Go.Proofs.YtaogopbhjinmoaaGreatDoor.Ev
