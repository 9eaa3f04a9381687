/- What is proved here: pieces of the evaluator's soundness: if the evaluator comes to a value, the model's run comes to it, for every world and tape; no conditions beyond the hypotheses of each theorem. -/
import Derived.Test.YtpokoiicogheaaaGreatDoorEv4
import Derived.Stop.LaidErr
import Derived.Shelf.Strings.Split
set_option linter.unusedSimpArgs false
set_option linter.unusedVariables false
set_option linter.defProp false
set_option maxRecDepth 100000
namespace Go.Proofs.YtpokoiicogheaaaGreatDoor.Ev
open Go Go.RowKit Go.ChangeShapes Go.Shelf Go.Proofs
noncomputable section
section
variable {Φ : Nat → Option CF} {rd : Option Nat} {fn : Nat} {F : RO}
theorem roFree_del {M : Mem} (b : Nat) : ∀ {F : RO}, roFree M F = true → roFree (M.del b) F = true
 | [], _ => rfl
 | (b', x) :: F, h => by
   rw [roFree_cons, Bool.and_eq_true] at h
   rw [roFree_cons, roFree_del b h.2, Tr.get_del]
   split
   · rfl
   · rw [h.1]; rfl
def PutDP (o : Option V) (p : Option Pos) (base : Nat) (r : List (Nat × Nat × CO)) (k : Kn) (t : T) (M : Mem) (c : Nat) (reads : List (Nat × Nat)) (R : DS → Prop) : Prop := match o with
 | some v => WpD base r k (.mk (setT t p v) M c [] reads) R
 | none => False
theorem putDP (v : V) (p : Option Pos) (base : Nat) (r : List (Nat × Nat × CO)) (k : Kn) (t : T) (M : Mem) (c : Nat) (reads : List (Nat × Nat)) (R : DS → Prop) : PutDP (some v) p base r k t M c reads R = WpD base r k (.mk (setT t p v) M c [] reads) R := Eq.trans rfl (Eq.refl _)
theorem wd_gT {base i mask : Nat} {dst : Option Pos} {o : OK} {g : Pos} {want : Bool} {r : List (Nat × Nat × CO)} {k : Kn} {t : T} {M : Mem} {c : Nat} {pend : List (Nat × Nat × Blk)} {reads : List (Nat × Nat)} {R : DS → Prop} (hg : getT t g = .b want) :
  WpD base ((i, mask, .mk dst o (some (g, want))) :: r) k (.mk t M c pend reads) R = WpD base ((i, mask, .mk dst o none) :: r) k (.mk t M c pend reads) R := by
 have hw : wanted t (some (g, want)) = true := by
  show wanted1 want (getT t g) = _
  rw [hg]; cases want <;> rfl
 have hs : dOp k base (i, mask, .mk dst o (some (g, want))) (.mk t M c pend reads) = dOp k base (i, mask, .mk dst o none) (.mk t M c pend reads) := by
  show (bif wanted t (some (g, want)) then _ else _) = _
  rw [hw]; rfl
 apply propext
 rw [wd_cons, wd_cons, hs]
theorem wd_gF {base i mask : Nat} {dst : Option Pos} {o : OK} {g : Pos} {want : Bool} {r : List (Nat × Nat × CO)} {k : Kn} {t : T} {M : Mem} {c : Nat} {pend : List (Nat × Nat × Blk)} {reads : List (Nat × Nat)} {R : DS → Prop} (hg : getT t g = .b (!want)) :
  WpD base ((i, mask, .mk dst o (some (g, want))) :: r) k (.mk t M c pend reads) R = WpD base r k (.mk (setT t dst undef) M c pend reads) R := by
 have hw : wanted t (some (g, want)) = false := by
  show wanted1 want (getT t g) = _
  rw [hg]; cases want <;> rfl
 have hs : dOp k base (i, mask, .mk dst o (some (g, want))) (.mk t M c pend reads) = some (.mk (setT t dst undef) M c pend reads) := by
  show (bif wanted t (some (g, want)) then _ else (setT t dst undef).force fun t => some (DS.mk t M c pend reads)) = _
  rw [hw]
  show (setT t dst undef).force (fun t => some (DS.mk t M c pend reads)) = _
  rw [Tr.force_eq]
 apply propext
 rw [wd_cons, hs]
 constructor
 · rintro ⟨s', h, q⟩; obtain rfl := Option.some.inj h; exact q
 · exact fun q => ⟨_, rfl, q⟩
theorem wd_gU {base i mask : Nat} {dst : Option Pos} {o : OK} {g : Pos} {want : Bool} {r : List (Nat × Nat × CO)} {k : Kn} {t : T} {M : Mem} {c : Nat} {pend : List (Nat × Nat × Blk)} {reads : List (Nat × Nat)} {R : DS → Prop} (hg : getT t g = undef) :
  WpD base ((i, mask, .mk dst o (some (g, want))) :: r) k (.mk t M c pend reads) R = WpD base r k (.mk (setT t dst undef) M c pend reads) R := by
 have hw : wanted t (some (g, want)) = false := by
  show wanted1 want (getT t g) = _
  rw [hg]; rfl
 have hs : dOp k base (i, mask, .mk dst o (some (g, want))) (.mk t M c pend reads) = some (.mk (setT t dst undef) M c pend reads) := by
  show (bif wanted t (some (g, want)) then _ else (setT t dst undef).force fun t => some (DS.mk t M c pend reads)) = _
  rw [hw]
  show (setT t dst undef).force (fun t => some (DS.mk t M c pend reads)) = _
  rw [Tr.force_eq]
 apply propext
 rw [wd_cons, hs]
 constructor
 · rintro ⟨s', h, q⟩; obtain rfl := Option.some.inj h; exact q
 · exact fun q => ⟨_, rfl, q⟩
theorem ldn_dq (n : Nat) (b o : Nat) (M : Mem) {vs : List V} (h : loadN F M b o n = some vs) (t : T) (x : X) (hx : x.ev t = .p b o) : dqR (.ldn n x) F M t = .r (.g vs) b := by
 have hblk : ∃ blk, look F M b = some blk := by
  unfold loadN at h
  cases hl : look F M b with
  | none => rw [hl] at h; cases h
  | some blk => exact ⟨blk, rfl⟩
 obtain ⟨blk, hb⟩ := hblk
 have q : ∀ F' M', loadN F' M' b o n = some vs → qop (.ldn n x) F' M' t = .r (.g vs) b := by
  intro F' M' h'
  show (onP (x.ev t) .f fun b o => qgb b (loadN F' M' b o n)) = _
  rw [hx]
  show qgb b (loadN F' M' b o n) = _
  rw [h']; rfl
 show d_q0 (.ldn n x) F M t (qop (.ldn n x) F M t) = _
 rw [q F M h]
 show d_q2 (.ldn n x) t b (look F M b) = _
 rw [hb]
 show rOnly b (qop (.ldn n x) [(b, blk)] .e t) = _
 have h' : loadN [(b, blk)] .e b o n = some vs := by
  unfold loadN at h ⊢
  rw [hb] at h
  rw [look_none_M (show (Tr.e : Mem).get b = none from rfl), roGet_cons, if_pos rfl]
  exact h
 rw [q _ _ h']; rfl
def ldnQ (n : Nat) (X : V) (F : RO) (M : Mem) : QR := dqR (.ldn n (.c X)) F M .e
def ldnR (b : Nat) : Option (List V) → QR
 | some vs => .r (.g vs) b
 | none => .f
theorem ldnR_some (b : Nat) (vs : List V) : ldnR b (some vs) = .r (.g vs) b := Eq.trans rfl (Eq.refl _)
theorem dq_ldn0 (n : Nat) (x : X) (M : Mem) (t : T) : dqR (.ldn n x) F M t = ldnQ n (x.ev t) F M := Eq.trans rfl (Eq.refl _)
theorem ldnQ_p (n b o : Nat) (M : Mem) : ldnQ n (.p b o) F M = ldnR b (loadN F M b o n) := by
 cases h : loadN F M b o n with
 | some vs => exact ldn_dq n b o M h .e _ rfl
 | none =>
   show d_q0 (.ldn n (.c (.p b o))) F M .e (qgb b (loadN F M b o n)) = _
   rw [h]; rfl
theorem dq_pk (c a b : X) (M : Mem) (t : T) : dqR (.pk c a b) F M t = oV (pkV (c.ev t) (a.ev t) (b.ev t)) := by
 refine (dq_of ?_).trans (congrArg oV (v_pk (F := F) c a b M t))
 intro F' M'
 show (onB (c.ev t) QR.f fun x => Bool.rec (motive := fun _ => QR) (.v (b.ev t)) (.v (a.ev t)) x) = oV (onB (c.ev t) QR.f fun x => Bool.rec (motive := fun _ => QR) (.v (b.ev t)) (.v (a.ev t)) x).val
 cases c.ev t with
 | b x => cases x <;> rfl
 | _ => rfl
theorem dq_un (op : UnOp) (x : X) (M : Mem) (t : T) : dqR (.un op x) F M t = oV (unV op (x.ev t)) := by
 refine (dq_of ?_).trans (congrArg oV (v_un (F := F) op x M t))
 intro F' M'
 refine qv_oV ?_
 show (qop (.un op x) F' M' t = .f ∨ _)
 cases op with
 | neg =>
   show ((onI (x.ev t) QR.f fun k n => vI k (wr k (Int.sub 0 n))) = .f ∨ ∃ y, (onI (x.ev t) QR.f fun k n => vI k (wr k (Int.sub 0 n))) = .v y)
   cases x.ev t with
   | i k n => exact .inr ⟨_, vI_eq _ _⟩
   | _ => exact .inl rfl
 | not =>
   show ((onB (x.ev t) QR.f fun b => vB (notB b)) = .f ∨ ∃ y, (onB (x.ev t) QR.f fun b => vB (notB b)) = .v y)
   cases x.ev t with
   | b b => exact .inr ⟨_, vB_eq _⟩
   | _ => exact .inl rfl
 | xor =>
   show ((onI (x.ev t) QR.f fun k n => b_bit k (Nat.xor (Nat.sub (Nat.pow 2 (kbits k)) 1) (toU k n))) = .f ∨ ∃ y, (onI (x.ev t) QR.f fun k n => b_bit k (Nat.xor (Nat.sub (Nat.pow 2 (kbits k)) 1) (toU k n))) = .v y)
   cases x.ev t with
   | i k n => exact .inr ⟨_, vI_eq _ _⟩
   | _ => exact .inl rfl
 | plus => exact .inl rfl
def shOk1 : Sh → Bool
 | .ptr => false
 | .agg _ => false
 | _ => true
def shOks : List (Nat × Sh) → Bool
 | [] => true
 | (_, s) :: r => shOk1 s && shOks r
def shOk : Sh → Bool
 | .ptr => false
 | .agg ks => shOks ks
 | _ => true
theorem eq1_free {sh : Sh} (h : shOk1 sh = true) (F' : RO) (M M' : Mem) (lit : Bool) (x y : V) : eq1 F' M' sh lit x y = eq1 F M sh lit x y := by
 cases sh <;> first | rfl | cases h
theorem eqAll_free (F' : RO) (M M' : Mem) (xs ys : List V) : ∀ {ks : List (Nat × Sh)}, shOks ks = true → eqAll F' M' xs ys ks = eqAll F M xs ys ks
 | [], _ => rfl
 | (o, s) :: r, h => by
   have h' : (shOk1 s && shOks r) = true := h
   rw [Bool.and_eq_true] at h'
   rw [eqAll_cons, eqAll_cons, eqAll_free F' M M' xs ys h'.2]
   congr 1
   cases xs[o]? with
   | none => rfl
   | some x =>
     cases ys[o]? with
     | none => rfl
     | some y => exact eq1_free h'.1 F' M M' false x y
theorem eqV_free {sh : Sh} (h : shOk sh = true) (F' : RO) (M M' : Mem) (lit : Bool) (x y : V) : eqV F' M' sh lit x y = eqV F M sh lit x y := by
 cases sh with
 | agg ks =>
   show eqAgg F' M' ks x y = eqAgg F M ks x y
   unfold eqAgg
   cases x <;> first | rfl | skip
   cases y <;> first | rfl | skip
   exact eqAll_free F' M M' _ _ h
 | ptr => cases h
 | _ => rfl
theorem dq_eq (neg : Bool) (sh : Sh) (lit : Bool) (x y : X) (M : Mem) (t : T) (h : shOk sh = true) : dqR (.eq neg sh lit x y) F M t = oV (negO neg (eqV F M sh lit (x.ev t) (y.ev t))) := by
 refine (dq_of ?_).trans (congrArg oV (v_eq (F := F) neg sh lit x y M t))
 intro F' M'
 show q_eqr neg (eqV F' M' sh lit (x.ev t) (y.ev t)) = oV (q_eqr neg (eqV [] .e sh lit (x.ev t) (y.ev t))).val
 rw [eqV_free (F := []) h F' .e M']
 refine qv_oV ?_
 cases eqV [] .e sh lit (x.ev t) (y.ev t) with
 | none => exact .inl rfl
 | some r => exact .inr ⟨_, vB_eq _⟩
theorem shOk_agg (ks : List (Nat × Sh)) : shOk (.agg ks) = shOks ks := rfl
theorem shOks_nil : shOks [] = true := Eq.trans rfl (Eq.refl _)
theorem shOks_cons (o : Nat) (s : Sh) (r : List (Nat × Sh)) : shOks ((o, s) :: r) = (shOk1 s && shOks r) := rfl
theorem shOk1_int : shOk1 .int = true := Eq.trans rfl (Eq.refl _)
theorem shOk1_bool : shOk1 .bool = true := Eq.trans rfl (Eq.refl _)
theorem shOk1_str : shOk1 .str = true := Eq.trans rfl (Eq.refl _)
theorem shOk_int : shOk .int = true := Eq.trans rfl (Eq.refl _)
theorem shOk_bool : shOk .bool = true := Eq.trans rfl (Eq.refl _)
theorem shOk_str : shOk .str = true := Eq.trans rfl (Eq.refl _)
theorem eqV_bool (lit : Bool) (M : Mem) (a b : Bool) : eqV F M .bool lit (.b a) (.b b) = some (decide (a = b)) := eq1_bool (F := F) lit M a b
theorem dq_fa (off : Nat) (x : X) (M : Mem) (t : T) : dqR (.fa off x) F M t = oV (match x.ev t with | .p b o => some (.p b (o + off)) | _ => none) := by
 refine (dq_of ?_).trans (congrArg oV (v_fa (F := F) off x M t))
 intro F' M'
 refine qv_oV ?_
 show ((onP (x.ev t) QR.f fun b o => mkP b (Nat.add o off)) = .f ∨ ∃ y, (onP (x.ev t) QR.f fun b o => mkP b (Nat.add o off)) = .v y)
 cases x.ev t with
 | p b o => exact .inr ⟨.p b (o + off), by show mkP b (o + off) = _; unfold mkP; rw [fN_eq]⟩
 | _ => exact .inl rfl
theorem dq_lnL (x : X) (M : Mem) (t : T) : dqR (.ln .slice x) F M t = oV (lnL (x.ev t)) := by
 refine (dq_of ?_).trans (congrArg oV ((v_ln (F := F) .slice x M t).trans (lnSl (F := F) M _)))
 intro F' M'
 refine qv_oV ?_
 show (q_ln1 (lenL (x.ev t)) = .f ∨ ∃ y, q_ln1 (lenL (x.ev t)) = .v y)
 cases lenL (x.ev t) with
 | none => exact .inl rfl
 | some n => exact .inr ⟨_, rfl⟩
theorem dq_lnS (x : X) (M : Mem) (t : T) : dqR (.ln .str x) F M t = oV (lnV .str F M (x.ev t)) := by
 refine (dq_of ?_).trans (congrArg oV (v_ln (F := F) .str x M t))
 intro F' M'
 refine qv_oV ?_
 show ((onS (x.ev t) QR.f fun n _ => .v (.i .i64 (.ofNat n))) = .f ∨ ∃ y, (onS (x.ev t) QR.f fun n _ => QR.v (.i .i64 (.ofNat n))) = .v y)
 cases x.ev t with
 | s n x => exact .inr ⟨_, rfl⟩
 | _ => exact .inl rfl
theorem dq_ixS (x i : X) (M : Mem) (t : T) : dqR (.ixS x i) F M t = oV (ixSV (x.ev t) (i.ev t)) := by
 refine (dq_of ?_).trans (congrArg oV (v_ixS (F := F) x i M t))
 intro F' M'
 refine qv_oV ?_
 show ((onS (x.ev t) QR.f fun n s => Option.rec (motive := fun _ => QR) .f (fun i => q_ixS1 n s i) (asN (i.ev t))) = .f ∨ ∃ y, (onS (x.ev t) QR.f fun n s => Option.rec (motive := fun _ => QR) .f (fun i => q_ixS1 n s i) (asN (i.ev t))) = .v y)
 cases x.ev t with
 | s n x =>
   show (Option.rec (motive := fun _ => QR) .f (fun i => q_ixS1 n x i) (asN (i.ev t)) = .f ∨ ∃ y, (Option.rec (motive := fun _ => QR) .f (fun i => q_ixS1 n x i) (asN (i.ev t)) : QR) = .v y)
   cases asN (i.ev t) with
   | none => exact .inl rfl
   | some k =>
     show (Bool.rec (motive := fun _ => QR) .f (fN (Nat.mod (Nat.div x (p256 k)) 256) fun c => .v (.i .u8 (.ofNat c))) (Nat.blt k n) = .f ∨ ∃ y, (Bool.rec (motive := fun _ => QR) .f (fN (Nat.mod (Nat.div x (p256 k)) 256) fun c => .v (.i .u8 (.ofNat c))) (Nat.blt k n) : QR) = .v y)
     cases Nat.blt k n with
     | false => exact .inl rfl
     | true => exact .inr ⟨_, by show fN _ _ = _; rw [fN_eq]⟩
 | _ => exact .inl rfl
def uO (u : List (Option V)) (i : Nat) : Option V := (u[i]?).join
def roundQ (I : Nat → St → Prop) (n : Nat) (Q : Ex → St → Prop) : Ex → St → Prop
 | .nrm, s => ∃ m, m < n ∧ I m s
 | e, s => Q e s
theorem roundQ_nrm (I : Nat → St → Prop) (n : Nat) (Q : Ex → St → Prop) (s : St) : roundQ I n Q .nrm s = ∃ m, m < n ∧ I m s := Eq.trans rfl (Eq.refl _)
theorem roundQ_ret (I : Nat → St → Prop) (n : Nat) (Q : Ex → St → Prop) (s : St) : roundQ I n Q .ret s = Q .ret s := Eq.trans rfl (Eq.refl _)
theorem roundQ_ext (I : Nat → St → Prop) (n : Nat) (Q : Ex → St → Prop) (s : St) (id : Nat) : roundQ I n Q (.ext id) s = Q (.ext id) s := Eq.trans rfl (Eq.refl _)
end
section
variable {Φ : Nat → Option CF} {rd : Option Nat} {fn : Nat} {F : RO}
def CapAt (M : Mem) (c0 c b ty sz cap : Nat) (v : V) (es : List (List V)) : Prop :=
 (∀ e ∈ es, e.length = sz) ∧ es.length ≤ cap ∧ c0 ≤ b ∧ b < c ∧ v = .l b 0 es.length cap ∧ ∃ d t, M.get b = some (.cells ty (cap * sz) true 0 false d t) ∧ ∀ k, k < es.flatten.length → cell (cap * sz) d t k = es.flatten[k]?
theorem CapAt.sl {M : Mem} {c0 c b ty sz cap : Nat} {v : V} {es : List (List V)} (h : CapAt M c0 c b ty sz cap v es) : SlAt F M c sz v es := by
 obtain ⟨h0, h1, h2, h3, rfl, d, t, hM, hc⟩ := h
 refine ⟨h0, .inr ⟨b, 0, .inl ⟨cap, h1, rfl⟩, h3, fun k hk => ?_⟩⟩
 rw [Nat.zero_add]
 unfold Ev.load1
 rw [look_some_M hM]
 exact hc k hk
theorem CapAt.up {M M' : Mem} {c0 c c' b ty sz cap : Nat} {v : V} {es : List (List V)} (h : CapAt M c0 c b ty sz cap v es) (hc : c ≤ c') (hb : b < c → M'.get b = M.get b) : CapAt M' c0 c' b ty sz cap v es := by
 obtain ⟨h0, h1, h2, h3, rfl, d, t, hM, hcell⟩ := h
 exact ⟨h0, h1, h2, by omega, rfl, d, t, by rw [hb h3]; exact hM, hcell⟩
theorem CapAt.gr {M M' : Mem} {c0 c c' b ty sz cap : Nat} {v : V} {es : List (List V)} (h : CapAt M c0 c b ty sz cap v es) (hg : Gr c M c' M') : CapAt M' c0 c' b ty sz cap v es := h.up hg.le fun hb => hg.old b hb
def mksA (ty sz bytes : Nat) (zero : List V) (l c : V) (b : Nat) : Option (V × Blk) := aop (.mks ty sz bytes zero (.c l) (.c c)) b .e
theorem a_mks_w (ty sz bytes : Nat) (zero : List V) (l c : X) (b : Nat) (t : T) : aop (.mks ty sz bytes zero l c) b t = mksA ty sz bytes zero (l.ev t) (c.ev t) b := Eq.trans rfl (Eq.refl _)
def SlOwn (F : RO) (M : Mem) (lo c sz : Nat) (v : V) (es : List (List V)) : Prop := ∀ M' : Mem, (∀ b, lo ≤ b → b < c → M'.get b = M.get b) → SlAt F M' c sz v es
theorem SlOwn.sl {M : Mem} {lo c sz : Nat} {v : V} {es : List (List V)} (h : SlOwn F M lo c sz v es) : SlAt F M c sz v es := h M fun _ _ _ => rfl
theorem SlOwn.up {M M' : Mem} {lo lo' c c' sz : Nat} {v : V} {es : List (List V)} (h : SlOwn F M lo c sz v es) (hc : c ≤ c') (hl : lo' ≤ lo) (hM : ∀ b, lo ≤ b → b < c → M'.get b = M.get b) : SlOwn F M' lo' c' sz v es := by
 intro M2 h2
 have h3 := h M2 fun b h1 h4 => (h2 b (by omega) (by omega)).trans (hM b h1 h4)
 rcases h3 with ⟨a, b | ⟨b, o, hv, hb, hcs⟩⟩
 · exact ⟨a, .inl b⟩
 · exact ⟨a, .inr ⟨b, o, hv, by omega, hcs⟩⟩
theorem SlOwn.gr {M M' : Mem} {lo c c' sz : Nat} {v : V} {es : List (List V)} (h : SlOwn F M lo c sz v es) (hg : Gr c M c' M') : SlOwn F M' lo c' sz v es := h.up hg.le (Nat.le_refl _) fun b _ hb => hg.old b hb
theorem AccAt.own {M : Mem} {c0 c b ty sz : Nat} {v : V} {es : List (List V)} (h : AccAt M c0 c b ty sz v es) : SlOwn F M c0 c sz v es := by
 intro M' hM
 refine AccAt.sl (c0 := c0) (b := b) (ty := ty) (M := M') ?_
 rcases h with ⟨h0, h | ⟨h1, h2, rfl, h3⟩⟩
 · exact ⟨h0, .inl h⟩
 · exact ⟨h0, .inr ⟨h1, h2, rfl, by rw [hM b h1 h2]; exact h3⟩⟩
theorem Okm.put {M : Mem} {c b : Nat} {x y : Blk} (h : Okm F M c) (hb : b < c) (hx : M.get b = some x) : Okm F (M.set b y) c := by
 refine ⟨fun b' hb' => ?_, h.hiF, fun b' hb' => ?_, h.ge⟩
 · rw [get_ne _ _ (by omega)]; exact h.hiM b' hb'
 · have : b' ≠ b := by
    intro e; subst e
    rw [h.ap b' hb'] at hx; cases hx
   rw [get_ne _ _ this]; exact h.ap b' hb'
theorem store_row {M : Mem} {b ty : Nat} {l : List V} (h : M.get b = some (rowB ty l)) (o : Nat) (vs : List V) (h1 : o + vs.length ≤ l.length) (h2 : allOne vs = true) : storeN M b o vs = some (M.set b (rowB ty (over l o vs))) := by
 have := storeN_same M b o ty l vs h1 h2
 rwa [← set_same h] at this
theorem load_row {M : Mem} {b ty : Nat} {l : List V} (h : M.get b = some (rowB ty l)) (o : Nat) : load1 F M b o = l[o]? := by
 rw [set_same h]; exact load1_same M b o ty l
theorem wp_condTc (a b : CC) (k : Kn) (t : T) (d : List Nat) (M : Mem) (c : Nat) (Q : Ex → St → Prop) : Wp (.cond (.c (.b true)) a b) k (.mk t d M c) Q = Wp a k (.mk t d M c) Q := wp_condT rfl
theorem wp_condFc (a b : CC) (k : Kn) (t : T) (d : List Nat) (M : Mem) (c : Nat) (Q : Ex → St → Prop) : Wp (.cond (.c (.b false)) a b) k (.mk t d M c) Q = Wp b k (.mk t d M c) Q := wp_condF rfl
end
theorem ai {a b : Prop} (x : a) (y : b) : a ∧ b := ⟨x, y⟩
def WL := ai @wp_dreg (ai @befB_nil (ai @befB_cons (ai @putDE (ai @roFree_nil (ai @roFree_cons (ai @get_ne (ai @Tr.get_e (ai @isNone_none' (ai @dregQ_eq (ai @mergeAll_nil (ai @wd_nil (ai @wd_q (ai @putD_v (ai @putD_r (ai @oV_some (ai @dq_mv (ai @dq_ci (ai @dq_bi0 (ai @biQ_i (ai @dq_ex (ai @dq_ld0 (ai @ldQ_p (ai @ldR_some (ai @dq_iaS (ai @v_iaS (ai @lnSl (ai @lnL_l (ai @lnL_u (ai @lnL_l0 (ai @lnL_ue (ai @wp_seq (ai @seqQ_nrm (ai @seqQ_ret (ai @seqQ_ext (ai @wp_reg (ai @wp_ret (ai @wp_skip (ai @wp_exit (ai @wp_block (ai @blockQ_nrm (ai @blockQ_ret (ai @blockQ_ext (ai @loopQ_nrm (ai @loopQ_ret (ai @loopQ_ext (ai @wo_nil (ai @xo_q (ai @xo_a (ai @xo_e (ai @xo_e0 (ai @wo_gT (ai @wo_gF (ai @wo_gU (ai @wp_condT (ai @wp_condF (ai @putO (ai @putA (ai @putE (ai @putE0 (ai @setT_some (ai @setT_none (ai @v_mv (ai @v_pk (ai @pkV_T (ai @pkV_F (ai @v_bi (ai @bi_sub (ai @bi_lss (ai @bi_gtr (ai @bi_leq (ai @bi_geq (ai @bi_eql (ai @bi_neq (ai @v_un (ai @un_not (ai @v_ln (ai @lnS (ai @v_ixS (ai @v_ld1 (ai @v_ldn (ai @ld1_p (ai @ldn_p (ai @load1_same (ai @v_fa (ai @e_st_eq (ai @er_some (ai @xo_call (ai @callC_orc (ai @ev_t (ai @ev_c (ai @evs_nil (ai @evs_cons (ai @Tr.setP_h (ai @Tr.setP_l (ai @Tr.setP_r (ai @getT_h (ai @getT_n (ai @getT_l (ai @getT_r (ai @endQ_nrm (ai @endQ_ret (ai @endO (ai @resV_nil' (ai @resV_t (ai @consO_some (ai @oneV_one (ai @oneV_two (ai @Bool.not_true (ai @Bool.not_false (ai @Bool.false_eq_true (ai @Bool.true_eq_false (ai @decide_true (ai @decide_false (ai @pureO_of (ai @ofO_some (ai @flatten_b (ai @flatten_i (ai @flatten_s (ai @flatten_p (ai @flatten_p0 (ai @flatten_l (ai @flatten_u (ai @flatten_l0 (ai @flatten_m (ai @flatten_m0 (ai @flatten_f (ai @flatten_f0 (ai @flatten_g (ai @allOne_nil (ai @allOne_cons (ai @isOne_b (ai @isOne_i (ai @isOne_s (ai @isOne_p (ai @isOne_p0 (ai @isOne_l (ai @isOne_u (ai @isOne_l0 (ai @isOne_m (ai @isOne_f (ai @isOne_f0 (ai @Bool.and_true (ai @Bool.true_and (ai @evP_nil (ai @evP_cons (ai @fillV_nil (ai @fillV_cons (ai @over_nil (ai @over_cons (ai @Nat.zero_add (ai @and_self (ai @and_true (ai @true_and (ai @v_bld (ai @replL_over (ai @v_fl1 (ai @v_fln (ai @v_ex (ai @v_ci (ai @andO_some (ai @eqAt_some (ai @eqAll_nil (ai @eqAll_cons (ai @negO_F (ai @negO_T (ai @v_eq (ai @eqV_agg (ai @eqV_int (ai @eq1_int (ai @eq1_bool (ai @xo_cv (ai @callV_f (ai @v_mkf (ai @resV_cn (ai @resV_c1 (ai @load1_ne (ai @loadN_ne (ai @loadN_same (ai @storeN_same (ai @storeN_ne' (ai @mapS_some (ai @a_al_eq (ai @a_bx_eq (ai @v_ixA1 (ai @ixA1_g (ai @ne_add0 (ai @ne_add1 (ai @ne_add (ai @Nat.add_assoc (ai @x_app_eq (ai @v_slL (ai @v_bs (ai @a_bsl_w (ai @evPs_nil (ai @evPs_cons (ai @partsR_nil (ai @partsR_cons (ai @bslO_some (ai @v_slS (ai @lnSs (ai @bi_seq (ai @bi_sne (ai @eq1_str (ai @eqV_str (ai @wd_gT (ai @wd_gF (ai @wd_gU (ai @dq_ldn0 (ai @ldnQ_p (ai @ldnR_some (ai @dq_pk (ai @dq_lnL (ai @dq_lnS (ai @dq_ixS (ai @dq_un (ai @dq_eq (ai @shOk_agg (ai @shOks_nil (ai @shOks_cons (ai @shOk1_int (ai @shOk1_bool (ai @shOk1_str (ai @eqV_bool (ai @shOk_int (ai @shOk_bool (ai @shOk_str (ai @dq_fa (ai @putDP (ai @a_mks_w (ai @wp_condTc (ai @wp_condFc (ai @roundQ_nrm (ai @roundQ_ret (ai @roundQ_ext (ai @decide_eq_true_eq (ai @or_self (ai @or_true (ai @or_false (ai @true_or (ai @false_or (ai @and_false (@false_and))))))))))))))))))))))))))))))))))))))))))))))))))))))))))))))))))))))))))))))))))))))))))))))))))))))))))))))))))))))))))))))))))))))))))))))))))))))))))))))))))))))))))))))))))))))))))))))))))))))))))))))))))))))))))))))))))))))))))))))))))
def WM := ai @cond_true.{1} (ai @cond_false.{1} (ai @List.getElem?_cons_zero.{0} (ai @List.getElem?_cons_succ.{0} (ai @Option.getD_some.{0} (ai @if_true.{1} (ai @if_false.{1} (ai @ite_true.{1} (ai @ite_false.{1} (ai @List.set_cons_zero.{0} (ai @List.set_cons_succ.{0} (ai @List.length_cons.{0} (ai @List.length_nil.{0} (ai @List.nil_append.{0} (ai @List.append_nil.{0} (ai @List.cons_append.{0} (ai @List.drop_zero.{0} (ai @List.take_succ_cons.{0} (ai @List.take_zero.{0} (ai @List.take_nil.{0} (ai @List.drop_succ_cons.{0} (ai @Option.map_some.{0,0} (ai @Option.isSome_some.{0} (@Option.map_none.{0,0})))))))))))))))))))))))
def WX := ai @WL @WM
abbrev a0 : Pos := .h
abbrev z0 : X := .t a0
abbrev a1 : Pos := .l a0
abbrev z1 : X := .t a1
abbrev a2 : Pos := .r a0
abbrev z2 : X := .t a2
abbrev a3 : Pos := .l a1
abbrev z3 : X := .t a3
abbrev a4 : Pos := .r a1
abbrev z4 : X := .t a4
abbrev a5 : Pos := .l a2
abbrev z5 : X := .t a5
abbrev a6 : Pos := .r a2
abbrev z6 : X := .t a6
abbrev a7 : Pos := .l a3
abbrev z7 : X := .t a7
abbrev a8 : Pos := .r a3
abbrev z8 : X := .t a8
abbrev a9 : Pos := .l a4
abbrev z9 : X := .t a9
abbrev a10 : Pos := .r a4
abbrev z10 : X := .t a10
abbrev a11 : Pos := .l a5
abbrev z11 : X := .t a11
abbrev a12 : Pos := .r a5
abbrev z12 : X := .t a12
abbrev a13 : Pos := .l a6
abbrev z13 : X := .t a13
abbrev a14 : Pos := .r a6
abbrev z14 : X := .t a14
abbrev a15 : Pos := .l a7
abbrev z15 : X := .t a15
abbrev a16 : Pos := .r a7
abbrev z16 : X := .t a16
abbrev a17 : Pos := .l a8
abbrev z17 : X := .t a17
abbrev a18 : Pos := .r a8
abbrev z18 : X := .t a18
abbrev a19 : Pos := .l a9
abbrev z19 : X := .t a19
abbrev a20 : Pos := .r a9
abbrev z20 : X := .t a20
abbrev a21 : Pos := .l a10
abbrev z21 : X := .t a21
abbrev a22 : Pos := .r a10
abbrev z22 : X := .t a22
abbrev a23 : Pos := .l a11
abbrev z23 : X := .t a23
abbrev a24 : Pos := .r a11
abbrev z24 : X := .t a24
abbrev a25 : Pos := .l a12
abbrev z25 : X := .t a25
abbrev a26 : Pos := .r a12
abbrev z26 : X := .t a26
abbrev a27 : Pos := .l a13
abbrev z27 : X := .t a27
abbrev a28 : Pos := .r a13
abbrev z28 : X := .t a28
abbrev a29 : Pos := .l a14
abbrev z29 : X := .t a29
abbrev a30 : Pos := .r a14
abbrev z30 : X := .t a30
abbrev a31 : Pos := .l a15
abbrev z31 : X := .t a31
abbrev a32 : Pos := .r a15
abbrev z32 : X := .t a32
abbrev a33 : Pos := .l a16
abbrev z33 : X := .t a33
abbrev a34 : Pos := .r a16
abbrev z34 : X := .t a34
abbrev a35 : Pos := .l a17
abbrev z35 : X := .t a35
abbrev a36 : Pos := .r a17
abbrev z36 : X := .t a36
abbrev a37 : Pos := .l a18
abbrev z37 : X := .t a37
abbrev a38 : Pos := .r a18
abbrev z38 : X := .t a38
abbrev a39 : Pos := .l a19
abbrev z39 : X := .t a39
abbrev a40 : Pos := .r a19
abbrev z40 : X := .t a40
abbrev a41 : Pos := .l a20
abbrev z41 : X := .t a41
abbrev a42 : Pos := .r a20
abbrev z42 : X := .t a42
abbrev a43 : Pos := .l a21
abbrev z43 : X := .t a43
abbrev a44 : Pos := .r a21
abbrev z44 : X := .t a44
abbrev a45 : Pos := .l a22
abbrev z45 : X := .t a45
abbrev a46 : Pos := .r a22
abbrev z46 : X := .t a46
abbrev a47 : Pos := .l a23
abbrev z47 : X := .t a47
abbrev a48 : Pos := .r a23
abbrev z48 : X := .t a48
abbrev a49 : Pos := .l a24
abbrev z49 : X := .t a49
abbrev a50 : Pos := .r a24
abbrev z50 : X := .t a50
abbrev a51 : Pos := .l a25
abbrev z51 : X := .t a51
abbrev a52 : Pos := .r a25
abbrev z52 : X := .t a52
abbrev a53 : Pos := .l a26
abbrev z53 : X := .t a53
abbrev a54 : Pos := .r a26
abbrev z54 : X := .t a54
abbrev a55 : Pos := .l a27
abbrev z55 : X := .t a55
abbrev a56 : Pos := .r a27
abbrev z56 : X := .t a56
abbrev a57 : Pos := .l a28
abbrev z57 : X := .t a57
abbrev a58 : Pos := .r a28
abbrev z58 : X := .t a58
abbrev a59 : Pos := .l a29
abbrev z59 : X := .t a59
abbrev a60 : Pos := .r a29
abbrev z60 : X := .t a60
abbrev a61 : Pos := .l a30
abbrev z61 : X := .t a61
abbrev a62 : Pos := .r a30
abbrev z62 : X := .t a62
abbrev a63 : Pos := .l a31
abbrev z63 : X := .t a63
abbrev a64 : Pos := .r a31
abbrev z64 : X := .t a64
abbrev a65 : Pos := .l a32
abbrev z65 : X := .t a65
abbrev a66 : Pos := .r a32
abbrev z66 : X := .t a66
abbrev a67 : Pos := .l a33
abbrev z67 : X := .t a67
abbrev a68 : Pos := .r a33
abbrev z68 : X := .t a68
abbrev a69 : Pos := .l a34
abbrev z69 : X := .t a69
abbrev a70 : Pos := .r a34
abbrev z70 : X := .t a70
abbrev a71 : Pos := .l a35
abbrev z71 : X := .t a71
abbrev a72 : Pos := .r a35
abbrev z72 : X := .t a72
abbrev a73 : Pos := .l a36
abbrev z73 : X := .t a73
abbrev a74 : Pos := .r a36
abbrev z74 : X := .t a74
abbrev a75 : Pos := .l a37
abbrev z75 : X := .t a75
abbrev a76 : Pos := .r a37
abbrev z76 : X := .t a76
abbrev a77 : Pos := .l a38
abbrev z77 : X := .t a77
abbrev a78 : Pos := .r a38
abbrev z78 : X := .t a78
abbrev a79 : Pos := .l a39
abbrev z79 : X := .t a79
abbrev a80 : Pos := .r a39
abbrev z80 : X := .t a80
abbrev a81 : Pos := .l a40
abbrev z81 : X := .t a81
abbrev a82 : Pos := .r a40
abbrev z82 : X := .t a82
abbrev a83 : Pos := .l a41
abbrev z83 : X := .t a83
abbrev a84 : Pos := .r a41
abbrev z84 : X := .t a84
abbrev a85 : Pos := .l a42
abbrev z85 : X := .t a85
abbrev a86 : Pos := .r a42
abbrev z86 : X := .t a86
abbrev a87 : Pos := .l a43
abbrev z87 : X := .t a87
abbrev a88 : Pos := .r a43
abbrev z88 : X := .t a88
abbrev a89 : Pos := .l a44
abbrev z89 : X := .t a89
abbrev a90 : Pos := .r a44
abbrev z90 : X := .t a90
abbrev a91 : Pos := .l a45
abbrev z91 : X := .t a91
abbrev a92 : Pos := .r a45
abbrev z92 : X := .t a92
abbrev a93 : Pos := .l a46
abbrev z93 : X := .t a93
abbrev a94 : Pos := .r a46
abbrev z94 : X := .t a94
abbrev a95 : Pos := .l a47
abbrev z95 : X := .t a95
abbrev a96 : Pos := .r a47
abbrev z96 : X := .t a96
abbrev a97 : Pos := .l a48
abbrev z97 : X := .t a97
abbrev a98 : Pos := .r a48
abbrev z98 : X := .t a98
abbrev a99 : Pos := .l a49
abbrev z99 : X := .t a99
abbrev a100 : Pos := .r a49
abbrev z100 : X := .t a100
abbrev a101 : Pos := .l a50
abbrev z101 : X := .t a101
abbrev a102 : Pos := .r a50
abbrev z102 : X := .t a102
abbrev a103 : Pos := .l a51
abbrev z103 : X := .t a103
abbrev a104 : Pos := .r a51
abbrev z104 : X := .t a104
abbrev a105 : Pos := .l a52
abbrev z105 : X := .t a105
abbrev a106 : Pos := .r a52
abbrev z106 : X := .t a106
abbrev a107 : Pos := .l a53
abbrev z107 : X := .t a107
abbrev a108 : Pos := .r a53
abbrev z108 : X := .t a108
abbrev a109 : Pos := .l a54
abbrev z109 : X := .t a109
abbrev a110 : Pos := .r a54
abbrev z110 : X := .t a110
abbrev a111 : Pos := .l a55
abbrev z111 : X := .t a111
abbrev a112 : Pos := .r a55
abbrev z112 : X := .t a112
abbrev a113 : Pos := .l a56
abbrev z113 : X := .t a113
abbrev a114 : Pos := .r a56
abbrev z114 : X := .t a114
abbrev a115 : Pos := .l a57
abbrev z115 : X := .t a115
abbrev a116 : Pos := .r a57
abbrev z116 : X := .t a116
abbrev a117 : Pos := .l a58
abbrev z117 : X := .t a117
abbrev a118 : Pos := .r a58
abbrev z118 : X := .t a118
abbrev a119 : Pos := .l a59
abbrev z119 : X := .t a119
abbrev a120 : Pos := .r a59
abbrev z120 : X := .t a120
abbrev a121 : Pos := .l a60
abbrev z121 : X := .t a121
abbrev a122 : Pos := .r a60
abbrev z122 : X := .t a122
abbrev a123 : Pos := .l a61
abbrev z123 : X := .t a123
abbrev a124 : Pos := .r a61
abbrev z124 : X := .t a124
abbrev a125 : Pos := .l a62
abbrev z125 : X := .t a125
abbrev a126 : Pos := .r a62
abbrev z126 : X := .t a126
abbrev a127 : Pos := .l a63
abbrev z127 : X := .t a127
abbrev a128 : Pos := .r a63
abbrev z128 : X := .t a128
abbrev a129 : Pos := .l a64
abbrev z129 : X := .t a129
abbrev a130 : Pos := .r a64
abbrev z130 : X := .t a130
abbrev a131 : Pos := .l a65
abbrev z131 : X := .t a131
abbrev a132 : Pos := .r a65
abbrev z132 : X := .t a132
abbrev a133 : Pos := .l a66
abbrev z133 : X := .t a133
abbrev a134 : Pos := .r a66
abbrev z134 : X := .t a134
abbrev a135 : Pos := .l a67
abbrev z135 : X := .t a135
abbrev a136 : Pos := .r a67
abbrev z136 : X := .t a136
abbrev a137 : Pos := .l a68
abbrev z137 : X := .t a137
abbrev a138 : Pos := .r a68
abbrev z138 : X := .t a138
abbrev a139 : Pos := .l a69
abbrev z139 : X := .t a139
abbrev a140 : Pos := .r a69
abbrev z140 : X := .t a140
abbrev a141 : Pos := .l a70
abbrev z141 : X := .t a141
abbrev a142 : Pos := .r a70
abbrev z142 : X := .t a142
abbrev a143 : Pos := .l a71
abbrev z143 : X := .t a143
abbrev a144 : Pos := .r a71
abbrev z144 : X := .t a144
abbrev a145 : Pos := .l a72
abbrev z145 : X := .t a145
abbrev a146 : Pos := .r a72
abbrev z146 : X := .t a146
abbrev a147 : Pos := .l a73
abbrev z147 : X := .t a147
abbrev a148 : Pos := .r a73
abbrev z148 : X := .t a148
abbrev a149 : Pos := .l a74
abbrev z149 : X := .t a149
abbrev a150 : Pos := .r a74
abbrev z150 : X := .t a150
abbrev a151 : Pos := .l a75
abbrev z151 : X := .t a151
abbrev a152 : Pos := .r a75
abbrev z152 : X := .t a152
abbrev a153 : Pos := .l a76
abbrev z153 : X := .t a153
abbrev a154 : Pos := .r a76
abbrev z154 : X := .t a154
abbrev a155 : Pos := .l a77
abbrev z155 : X := .t a155
abbrev a156 : Pos := .r a77
abbrev z156 : X := .t a156
abbrev a157 : Pos := .l a78
abbrev z157 : X := .t a157
abbrev a158 : Pos := .r a78
abbrev z158 : X := .t a158
abbrev a159 : Pos := .l a79
abbrev z159 : X := .t a159
abbrev a160 : Pos := .r a79
abbrev z160 : X := .t a160
abbrev a161 : Pos := .l a80
abbrev z161 : X := .t a161
abbrev a162 : Pos := .r a80
abbrev z162 : X := .t a162
abbrev a163 : Pos := .l a81
abbrev z163 : X := .t a163
abbrev a164 : Pos := .r a81
abbrev z164 : X := .t a164
abbrev a165 : Pos := .l a82
abbrev z165 : X := .t a165
abbrev a166 : Pos := .r a82
abbrev z166 : X := .t a166
abbrev a167 : Pos := .l a83
abbrev z167 : X := .t a167
abbrev a168 : Pos := .r a83
abbrev z168 : X := .t a168
abbrev a169 : Pos := .l a84
abbrev z169 : X := .t a169
abbrev a170 : Pos := .r a84
abbrev z170 : X := .t a170
abbrev a171 : Pos := .l a85
abbrev z171 : X := .t a171
abbrev a172 : Pos := .r a85
abbrev z172 : X := .t a172
abbrev a173 : Pos := .l a86
abbrev z173 : X := .t a173
abbrev a174 : Pos := .r a86
abbrev z174 : X := .t a174
abbrev a175 : Pos := .l a87
abbrev z175 : X := .t a175
abbrev a176 : Pos := .r a87
abbrev z176 : X := .t a176
abbrev a177 : Pos := .l a88
abbrev z177 : X := .t a177
abbrev a178 : Pos := .r a88
abbrev z178 : X := .t a178
abbrev a179 : Pos := .l a89
abbrev z179 : X := .t a179
abbrev a180 : Pos := .r a89
abbrev z180 : X := .t a180
abbrev a181 : Pos := .l a90
abbrev z181 : X := .t a181
abbrev a182 : Pos := .r a90
abbrev z182 : X := .t a182
abbrev a183 : Pos := .l a91
abbrev z183 : X := .t a183
abbrev a184 : Pos := .r a91
abbrev z184 : X := .t a184
abbrev a185 : Pos := .l a92
abbrev z185 : X := .t a185
abbrev a186 : Pos := .r a92
abbrev z186 : X := .t a186
abbrev a187 : Pos := .l a93
abbrev z187 : X := .t a187
abbrev a188 : Pos := .r a93
abbrev z188 : X := .t a188
abbrev a189 : Pos := .l a94
abbrev z189 : X := .t a189
abbrev a190 : Pos := .r a94
abbrev z190 : X := .t a190
abbrev a191 : Pos := .l a95
abbrev z191 : X := .t a191
abbrev a192 : Pos := .r a95
abbrev z192 : X := .t a192
abbrev a193 : Pos := .l a96
abbrev z193 : X := .t a193
abbrev a194 : Pos := .r a96
abbrev z194 : X := .t a194
abbrev a195 : Pos := .l a97
abbrev z195 : X := .t a195
abbrev a196 : Pos := .r a97
abbrev z196 : X := .t a196
abbrev a197 : Pos := .l a98
abbrev z197 : X := .t a197
abbrev a198 : Pos := .r a98
abbrev z198 : X := .t a198
abbrev a199 : Pos := .l a99
abbrev z199 : X := .t a199
abbrev a200 : Pos := .r a99
abbrev z200 : X := .t a200
abbrev a201 : Pos := .l a100
abbrev z201 : X := .t a201
abbrev a202 : Pos := .r a100
abbrev z202 : X := .t a202
abbrev a203 : Pos := .l a101
abbrev z203 : X := .t a203
abbrev a204 : Pos := .r a101
abbrev z204 : X := .t a204
abbrev a205 : Pos := .l a102
abbrev z205 : X := .t a205
abbrev a206 : Pos := .r a102
abbrev z206 : X := .t a206
abbrev a207 : Pos := .l a103
abbrev z207 : X := .t a207
abbrev a208 : Pos := .r a103
abbrev z208 : X := .t a208
abbrev a209 : Pos := .l a104
abbrev z209 : X := .t a209
abbrev a210 : Pos := .r a104
abbrev z210 : X := .t a210
abbrev a211 : Pos := .l a105
abbrev z211 : X := .t a211
abbrev a212 : Pos := .r a105
abbrev z212 : X := .t a212
abbrev a213 : Pos := .l a106
abbrev z213 : X := .t a213
abbrev a214 : Pos := .r a106
abbrev z214 : X := .t a214
abbrev sk1 : T := .n .e none .e
abbrev sk2 : T := .n sk1 none sk1
abbrev sk3 : T := .n sk2 none sk2
abbrev sk4 : T := .n sk3 none sk3
abbrev sk5 : T := .n sk4 none sk4
abbrev uv1 (u : List (Option V)) (a : Nat) : T := .n .e (uO u a) .e
abbrev uv3 (u : List (Option V)) (a b c : Nat) : T := .n (uv1 u a) (uO u b) (uv1 u c)
abbrev uv7 (u : List (Option V)) (a b c d e f g : Nat) : T := .n (uv3 u a b c) (uO u d) (uv3 u e f g)
abbrev qq (d : Pos) (o : QO) : CO := ⟨some d, .q o, none⟩
abbrev aa (d : Pos) (o : AO) : CO := ⟨some d, .a o, none⟩
abbrev ee (d : Pos) (o : EO) : CO := ⟨some d, .e o, none⟩
abbrev ez (o : EO) : CO := ⟨none, .e o, none⟩
abbrev x6 (n : Int) : X := .c (.i .i64 n)
abbrev xT : X := .c (.b true)
abbrev xF : X := .c (.b false)
theorem wu {b b1 : CC} (h : b = b1) (k : Kn) (s : St) (R : Ex → St → Prop) : Wp b k s R = Wp b1 k s R := congrArg (fun x => Wp x k s R) h
section
variable {Φ : Nat → Option CF} {rd : Option Nat} {fn : Nat} {F : RO}
def nckV : V → Option V
 | .p b o => some (.p b o)
 | .f g h c => some (.f g h c)
 | .y l => some (.y l)
 | .a t v => some (.a t v)
 | _ => none
theorem v_nck (x : X) (M : Mem) (t : T) : (qop (.nck x) F M t).val = nckV (x.ev t) := by
 show (q_nck x F M t).val = _
 unfold q_nck
 cases x.ev t <;> rfl
theorem nckV_p (b o : Nat) : nckV (.p b o) = some (.p b o) := Eq.trans rfl (Eq.refl _)
theorem dq_nck (x : X) (M : Mem) (t : T) : dqR (.nck x) F M t = oV (nckV (x.ev t)) := by
 refine (dq_of ?_).trans (congrArg oV (v_nck (F := F) x M t))
 intro F' M'
 refine qv_oV ?_
 show (q_nck x F' M' t = .f ∨ ∃ y, q_nck x F' M' t = .v y)
 unfold q_nck
 cases x.ev t <;> first | exact .inl rfl | exact .inr ⟨_, rfl⟩
def rowP (ty n : Nat) (row : List V) : Blk := .cells ty n false 0 false [] (rowT row)
def BufAt (M : Mem) (c0 c b : Nat) (v : V) (l : List UInt8) : Prop :=
 (l = [] ∧ v = .l0) ∨ (c0 ≤ b ∧ b < c ∧ ∃ n, (l.length ≤ n ∧ 0 < n) ∧ v = .u b 0 l.length 0 n ∧ M.get b = some (rowP 5 n (l.map bV)))
theorem BufAt.up {M M' : Mem} {c0 c c' b : Nat} {v : V} {l : List UInt8} (h : BufAt M c0 c b v l) (hc : c ≤ c') (hb : b < c → M'.get b = M.get b) : BufAt M' c0 c' b v l := by
 rcases h with h | ⟨h1, h2, n, h3, h4, h5⟩
 · exact .inl h
 · exact .inr ⟨h1, by omega, n, h3, h4, by rw [hb h2]; exact h5⟩
end
section
variable {Φ : Nat → Option CF} {rd : Option Nat} {fn : Nat} {F : RO}
end
section
variable {Φ : Nat → Option CF} {rd : Option Nat} {fn : Nat} {F : RO}
end
section
variable {Φ : Nat → Option CF} {rd : Option Nat} {fn : Nat} {F : RO}
theorem protect_lk {c : Nat} (mask : Nat) : ∀ (reads : List (Nat × Nat)) (F : RO) (M : Mem) (s : List (Nat × Blk)), roFree M F = true → (∀ x, c ≤ x → M.get x = none) →
  ∃ F' M' s2, protect mask reads F M s = Pr.mk F' M' (s2 ++ s) ∧ roFree M' F' = true ∧ (∀ b, look F' M' b = look F M b) ∧ (∀ x, c ≤ x → M'.get x = none) ∧ ∀ N : Mem, (∀ x, x < c → N.get x = M'.get x) → ∀ x, (unprotect s2 N).get x = if x < c then M.get x else N.get x
 | [], F, M, s, h2, h3 => ⟨F, M, [], rfl, h2, fun _ => rfl, h3, fun N hN x => by
   show N.get x = _
   split
   · rename_i h; exact hN x h
   · rfl⟩
 | (i, x) :: r, F, M, s, h2, h3 => by
   rw [protect]
   cases ht : testBit mask i with
   | true => exact protect_lk mask r F M s h2 h3
   | false =>
     show ∃ F' M' s2, (match M.get x with | none => protect mask r F M s | some blk => (M.del x).force fun M => protect mask r ((x, blk) :: F) M ((x, blk) :: s)) = _ ∧ _
     cases hb : M.get x with
     | none => exact protect_lk mask r F M s h2 h3
     | some blk =>
       have hxc : x < c := by
        apply Classical.byContradiction
        intro hx
        rw [h3 x (by omega)] at hb; cases hb
       have hfr : roFree (M.del x) ((x, blk) :: F) = true := by
        rw [roFree_cons, Tr.get_del, if_pos rfl, roFree_del x h2]; rfl
       obtain ⟨F', M', s2, g1, g2, g3, g4, g5⟩ := protect_lk mask r ((x, blk) :: F) (M.del x) ((x, blk) :: s) hfr (fun y hy => by rw [Tr.get_del]; split <;> first | rfl | exact h3 y hy)
       refine ⟨F', M', s2 ++ [(x, blk)], ?_, g2, fun b => ?_, g4, fun N hN z => ?_⟩
       · show ((M.del x).force fun M => protect mask r ((x, blk) :: F) M ((x, blk) :: s)) = _
         rw [Tr.force_eq, g1, List.append_assoc]; rfl
       · rw [g3]
         by_cases e : b = x
         · subst e
           rw [look_some_M hb, look_none_M (by rw [Tr.get_del, if_pos rfl]), roGet_cons, if_pos rfl]
         · cases hM : M.get b with
           | some y => rw [look_some_M hM, look_some_M (by rw [Tr.get_del, if_neg e]; exact hM)]
           | none => rw [look_none_M hM, look_none_M (by rw [Tr.get_del, if_neg e]; exact hM), roGet_cons, if_neg (fun h => e h.symm)]
       · have key : ∀ (s2 : List (Nat × Blk)) (N : Mem), unprotect (s2 ++ [(x, blk)]) N = (unprotect s2 N).set x blk := by
          intro s2
          induction s2 with
          | nil => intro N; show (N.set x blk).force (fun M => M) = _; rw [Tr.force_eq]; rfl
          | cons a s2 ih => intro N; show (N.set a.1 a.2).force (fun M => unprotect (s2 ++ [(x, blk)]) M) = _; rw [Tr.force_eq, ih]; show _ = ((N.set a.1 a.2).force fun M => unprotect s2 M).set x blk; rw [Tr.force_eq]
         rw [key, Tr.get_set, g5 N hN]
         by_cases e1 : z = x
         · subst e1
           rw [if_pos rfl, if_pos hxc, hb]
         · rw [if_neg e1, Tr.get_del, if_neg e1]
theorem wd_ef (base i mask : Nat) (dst : Option Pos) (o : EO) (r : List (Nat × Nat × CO)) (t : T) (M : Mem) (c : Nat) (reads : List (Nat × Nat)) (R : DS → Prop) (ok : Okm F M c)
  (h : ∀ F' M', Okm F' M' c → (∀ b, look F' M' b = look F M b) → RTo (doE o (K Φ rd fn F') M' c t) fun v M2 c2 => Gr c M' c2 M2 ∧ ∀ M3, Gr c M c2 M3 → (∀ x, c ≤ x → M3.get x = M2.get x) → WpD base r (K Φ rd fn F) (.mk (setT t dst v) M3 c2 [] reads) R) :
  WpD base ((i, mask, .mk dst (.e o) none) :: r) (K Φ rd fn F) (.mk t M c [] reads) R := by
 obtain ⟨F', M', s2, g1, g2, g3, g4, g5⟩ := protect_lk (c := c) mask reads F M [] ok.free ok.hiM
 have ok' : Okm F' M' c := by
  refine ⟨g4, fun b hb => ?_, fun b hb => ?_, ok.ge⟩
  · have := g3 b
    rw [look_none_M (g4 b hb), ok.look hb] at this
    exact this
  · have : ∃ blk, (b, blk) ∈ F' := by
     clear g1 g2 g3 g5 h
     induction F' with
     | nil => cases hb
     | cons a F' ih =>
       obtain ⟨k, z⟩ := a
       rw [roGet_cons] at hb
       split at hb
       · rename_i e; have e : k = b := e; exact ⟨z, by rw [e]; exact List.mem_cons_self ..⟩
       · obtain ⟨blk, hm⟩ := ih hb; exact ⟨blk, List.mem_cons_of_mem _ hm⟩
    obtain ⟨blk, hm⟩ := this
    exact roFree_iff F' g2 b blk hm
 obtain ⟨v, M2, c2, hd, hg, hR⟩ := h F' M' ok' g3
 have hun := g5 M2 hg.old
 have he : dOp (K Φ rd fn F) base (i, mask, .mk dst (.e o) none) (.mk t M c [] reads) = some (.mk (setT t dst v) (unprotect s2 M2) c2 [] reads) := by
  show d_e1 o (K Φ rd fn F) dst t c [] reads (protect mask reads F M []) = _
  rw [g1]
  show d_e2 F' dst t [] reads (s2 ++ []) (doE o (K Φ rd fn F') M' c t) = _
  rw [hd, List.append_nil]
  show (bif roFree M2 F' && true then (unprotect s2 M2).force fun M => (setT t dst v).force fun t => some (DS.mk t M c2 [] reads) else none) = _
  rw [(hg.ok ok').free]
  show ((unprotect s2 M2).force fun M => (setT t dst v).force fun t => some (DS.mk t M c2 [] reads)) = _
  rw [Tr.force_eq, Tr.force_eq]
 rw [wd_cons]
 have hle := hg.le
 exact ⟨_, he, hR _ ⟨hle, fun b hb => by rw [hun, if_pos hb], fun b hb => by rw [hun, if_neg (by omega)]; exact hg.new b hb⟩ (fun x hx => by rw [hun, if_neg (by omega)])⟩
theorem load1_lk {F' : RO} {M M' : Mem} (h : ∀ b, look F' M' b = look F M b) (b o : Nat) : load1 F' M' b o = load1 F M b o := by
 show asCells (look F' M' b) none (fun m d c => cell m d c o) = asCells (look F M b) none fun m d c => cell m d c o
 rw [h]
theorem SlAt.lk {F' : RO} {M M' : Mem} {c sz : Nat} {v : V} {es : List (List V)} (h : ∀ b, look F' M' b = look F M b) (hs : SlAt F M c sz v es) : SlAt F' M' c sz v es := by
 obtain ⟨h0, h1 | ⟨b, o, h1, h2, h3⟩⟩ := hs
 · exact ⟨h0, .inl h1⟩
 · exact ⟨h0, .inr ⟨b, o, h1, h2, fun k hk => by rw [load1_lk h]; exact h3 k hk⟩⟩
end
section
variable {Φ : Nat → Option CF} {rd : Option Nat} {fn : Nat} {F : RO}
end
section
variable {Φ : Nat → Option CF} {rd : Option Nat} {fn : Nat} {F : RO}
structure GrX (h : Nat → Prop) (c : Nat) (M : Mem) (c' : Nat) (M' : Mem) : Prop where
 le : c ≤ c'
 old : ∀ b, b < c → ¬ h b → M'.get b = M.get b
 new : ∀ b, c' ≤ b → M'.get b = none
theorem GrX.of {h : Nat → Prop} {c c' : Nat} {M M' : Mem} (g : Gr c M c' M') : GrX h c M c' M' := ⟨g.le, fun b hb _ => g.old b hb, g.new⟩
theorem GrX.trans {h : Nat → Prop} {M M1 M2 : Mem} {c c1 c2 : Nat} (g : GrX h c M c1 M1) (g2 : GrX h c1 M1 c2 M2) : GrX h c M c2 M2 :=
 ⟨Nat.le_trans g.le g2.le, fun b hb hn => (g2.old b (Nat.lt_of_lt_of_le hb g.le) hn).trans (g.old b hb hn), g2.new⟩
theorem GrX.gr {h : Nat → Prop} {M M1 : Mem} {c0 c c1 : Nat} (g : GrX h c M c1 M1) (h0 : c0 ≤ c) (hh : ∀ b, b < c0 → ¬ h b) : Gr c0 M c1 M1 :=
 ⟨Nat.le_trans h0 g.le, fun b hb => g.old b (by omega) (hh b hb), g.new⟩
theorem GrX.set {h : Nat → Prop} {M : Mem} {c b : Nat} (ok : Okm F M c) (hb : b < c) (hh : h b) (x : Blk) : GrX h c M c (M.set b x) :=
 ⟨Nat.le_refl _, fun b' _ hn => get_ne _ _ fun e => hn (by rw [e]; exact hh), fun b' hb' => by rw [get_ne _ _ (by omega)]; exact ok.hiM b' hb'⟩
theorem GrX.ok {h : Nat → Prop} {M M1 : Mem} {c c1 : Nat} (g : GrX h c M c1 M1) (ho : Okm F M c) (hh : ∀ b, b < c → h b → ∃ x, M.get b = some x) : Okm F M1 c1 := by
 refine ⟨g.new, fun b hb => ho.hiF b (Nat.le_trans g.le hb), fun b hb => ?_, Nat.le_trans ho.ge g.le⟩
 have hlt : b < c := by
  by_cases hc : b < c
  · exact hc
  · rw [ho.hiF b (by omega)] at hb; cases hb
 rw [g.old b hlt fun hx => ?_]
 · exact ho.ap b hb
 · obtain ⟨x, hx⟩ := hh b hlt hx
   rw [ho.ap b hb] at hx; cases hx
end
def E1 (E : Env) (b : Nat) : Env := ⟨fun x => if x < 1000 then x else E.ρ b, fun x => if x < 1000 then 0 else E.β b, fun x => if x < 1000 then 0 else E.κ b⟩
open Classical in
end
end Go.Proofs.YtpokoiicogheaaaGreatDoor.Ev
