/- What is proved here: pieces of the evaluator's soundness: if the evaluator comes to a value, the model's run comes to it, for every world and tape; no conditions beyond the hypotheses of each theorem. -/
import Derived.Test.YtmbfboidfbaeiaaGreatDoorEv6
set_option linter.unusedSimpArgs false
set_option linter.unusedVariables false
namespace Go.Proofs.YtmbfboidfbaeiaaGreatDoor.Ev
open Go
def Agree (ps : List Pos) (t t' : T) : Prop := ∀ p ∈ ps, getT t' p = getT t p
section
variable {t t' : T}
theorem Agree.l {a b : List Pos} (h : Agree (a ++ b) t t') : Agree a t t' := fun p hp => h p (List.mem_append_left _ hp)
theorem Agree.r {a b : List Pos} (h : Agree (a ++ b) t t') : Agree b t t' := fun p hp => h p (List.mem_append_right _ hp)
theorem Agree.ev {x : X} (h : Agree x.ps t t') : x.ev t' = x.ev t := by
  cases x with
  | t p => exact h p (by simp [X.ps])
  | c v => rfl
theorem Agree.evs {xs : List X} (h : Agree (psL xs) t t') : Ev.evs xs t' = Ev.evs xs t := by
  induction xs with
  | nil => rfl
  | cons x xs ih =>
    show x.ev t' :: Ev.evs xs t' = x.ev t :: Ev.evs xs t
    rw [h.l.ev, ih h.r]
theorem Agree.optN {o : Option X} (h : Agree (psO o) t t') (d : Nat) : Ev.optN t' d o = Ev.optN t d o := by
  cases o with
  | none => rfl
  | some x =>
    show asN (x.ev t') = asN (x.ev t)
    rw [Agree.ev h]
theorem Agree.optNN {o : Option X} (h : Agree (psO o) t t') : Ev.optNN t' o = Ev.optNN t o := by
  cases o with
  | none => rfl
  | some x =>
    have h' : Agree x.ps t t' := h
    simp only [Ev.optNN]
    rw [h'.ev]
theorem Agree.minAll {xs : List X} (h : Agree (psL xs) t t') (mx : Bool) : ∀ v, Ev.minAll mx t' v xs = Ev.minAll mx t v xs := by
  induction xs with
  | nil => intro v; rfl
  | cons x xs ih =>
    intro v
    simp only [Ev.minAll]
    rw [h.l.ev]
    cases minV mx v (x.ev t) with
    | none => rfl
    | some v' => exact ih h.r v'
theorem Agree.fillParts {ps : List (Nat × Nat × X)} (h : Agree (psP ps) t t') : ∀ cs, Ev.fillParts t' cs ps = Ev.fillParts t cs ps := by
  induction ps with
  | nil => intro v; rfl
  | cons x xs ih =>
    obtain ⟨o, n, x⟩ := x
    intro cs
    simp only [Ev.fillParts]
    have h1 : Agree x.ps t t' := h.l
    have h2 : Agree (psP xs) t t' := h.r
    rw [h1.ev]
    cases Nat.beq (flatten (x.ev t)).length n with
    | false => rfl
    | true =>
      simp only [cond_true]
      cases replL cs o (flatten (x.ev t)) with
      | none => rfl
      | some cs' => exact ih h2 cs'
theorem Agree.fillP {ps : List (Nat × X)} (h : Agree (psP2 ps) t t') (sz m : Nat) : ∀ tt, Ev.fillP sz m t' ps tt = Ev.fillP sz m t ps tt := by
  induction ps with
  | nil => intro v; rfl
  | cons x xs ih =>
    obtain ⟨o, x⟩ := x
    intro tt
    simp only [Ev.fillP]
    have h1 : Agree x.ps t t' := h.l
    have h2 : Agree (psP2 xs) t t' := h.r
    rw [h1.ev]
    cases Nat.beq (flatten (x.ev t)).length sz && Nat.ble (Nat.add o sz) m && allOne (flatten (x.ev t)) with
    | false => rfl
    | true =>
      simp only [cond_true, Tr.force_eq]
      exact ih h2 _
theorem qop_congr (F : RO) (M : Mem) {o : QO} (h : Agree o.ps t t') : qop o F M t' = qop o F M t := by
  cases o with
  | mv x => have h1 : x.ev t' = x.ev t := Agree.ev h; show q_mv x F M t' = q_mv x F M t; unfold q_mv; rw [h1]
  | pk c a b =>
    have h1 := Agree.l h |>.ev; have h2 := (Agree.r h).l.ev; have h3 := (Agree.r h).r.ev
    show q_pk c a b F M t' = q_pk c a b F M t; unfold q_pk; rw [h1, h2, h3]
  | ld1 x => have h1 : x.ev t' = x.ev t := Agree.ev h; show q_ld1 x F M t' = q_ld1 x F M t; unfold q_ld1; rw [h1]
  | ldn n x => have h1 : x.ev t' = x.ev t := Agree.ev h; show q_ldn n x F M t' = q_ldn n x F M t; unfold q_ldn; rw [h1]
  | nck x => have h1 : x.ev t' = x.ev t := Agree.ev h; show q_nck x F M t' = q_nck x F M t; unfold q_nck; rw [h1]
  | bi op x y => have h1 := Agree.l h |>.ev; have h2 := Agree.r h |>.ev; show q_bi op x y F M t' = q_bi op x y F M t; unfold q_bi; rw [h1, h2]
  | eq neg sh lit x y => have h1 := Agree.l h |>.ev; have h2 := Agree.r h |>.ev; show q_eq neg sh lit x y F M t' = q_eq neg sh lit x y F M t; unfold q_eq; rw [h1, h2]
  | un op x => have h1 : x.ev t' = x.ev t := Agree.ev h; show q_un op x F M t' = q_un op x F M t; unfold q_un; rw [h1]
  | ci k x => have h1 : x.ev t' = x.ev t := Agree.ev h; show q_ci k x F M t' = q_ci k x F M t; unfold q_ci; rw [h1]
  | bs x => have h1 : x.ev t' = x.ev t := Agree.ev h; show q_bs x F M t' = q_bs x F M t; unfold q_bs; rw [h1]
  | mki k x => have h1 : x.ev t' = x.ev t := Agree.ev h; show q_mki k x F M t' = q_mki k x F M t; unfold q_mki; rw [h1]
  | mkf f a b => have h1 := (Agree.l h).evs; have h2 := (Agree.r h).evs; show q_mkf f a b F M t' = q_mkf f a b F M t; unfold q_mkf; rw [h1, h2]
  | fa k x => have h1 : x.ev t' = x.ev t := Agree.ev h; show q_fa k x F M t' = q_fa k x F M t; unfold q_fa; rw [h1]
  | fl1 k x => have h1 : x.ev t' = x.ev t := Agree.ev h; show q_fl1 k x F M t' = q_fl1 k x F M t; unfold q_fl1; rw [h1]
  | fln k n x => have h1 : x.ev t' = x.ev t := Agree.ev h; show q_fln k n x F M t' = q_fln k n x F M t; unfold q_fln; rw [h1]
  | iaA l s x y => have h1 := Agree.l h |>.ev; have h2 := Agree.r h |>.ev; show q_iaA l s x y F M t' = q_iaA l s x y F M t; unfold q_iaA; rw [h1, h2]
  | iaS s x y => have h1 := Agree.l h |>.ev; have h2 := Agree.r h |>.ev; show q_iaS s x y F M t' = q_iaS s x y F M t; unfold q_iaS; rw [h1, h2]
  | ixA1 l s x y => have h1 := Agree.l h |>.ev; have h2 := Agree.r h |>.ev; show q_ixA1 l s x y F M t' = q_ixA1 l s x y F M t; unfold q_ixA1; rw [h1, h2]
  | ixAn l s x y => have h1 := Agree.l h |>.ev; have h2 := Agree.r h |>.ev; show q_ixAn l s x y F M t' = q_ixAn l s x y F M t; unfold q_ixAn; rw [h1, h2]
  | ixS x y => have h1 := Agree.l h |>.ev; have h2 := Agree.r h |>.ev; show q_ixS x y F M t' = q_ixS x y F M t; unfold q_ixS; rw [h1, h2]
  | slS x lo hi =>
    have h1 := Agree.l h |>.ev
    show q_slS x lo hi F M t' = q_slS x lo hi F M t; unfold q_slS; rw [h1]
    simp only [(Agree.r h).l.optN, (Agree.r h).r.optN]
  | slL s x lo hi mx =>
    have h1 := Agree.l h |>.ev
    show q_slL s x lo hi mx F M t' = q_slL s x lo hi mx F M t; unfold q_slL; rw [h1, (Agree.r h).l.optNN, (Agree.r h).r.l.optNN, (Agree.r h).r.r.optNN]
  | slA n s x lo hi mx =>
    have h1 := Agree.l h |>.ev
    show q_slA n s x lo hi mx F M t' = q_slA n s x lo hi mx F M t; unfold q_slA; rw [h1]
    simp only [(Agree.r h).l.optN, (Agree.r h).r.l.optN, (Agree.r h).r.r.optN]
  | lk sh z ok x y => have h1 := Agree.l h |>.ev; have h2 := Agree.r h |>.ev; show q_lk sh z ok x y F M t' = q_lk sh z ok x y F M t; unfold q_lk; rw [h1, h2]
  | ex i x => have h1 : x.ev t' = x.ev t := Agree.ev h; show q_ex i x F M t' = q_ex i x F M t; unfold q_ex; rw [h1]
  | ln sh x => have h1 : x.ev t' = x.ev t := Agree.ev h; show q_ln sh x F M t' = q_ln sh x F M t; unfold q_ln; rw [h1]
  | lnc n => rfl
  | cp x => have h1 : x.ev t' = x.ev t := Agree.ev h; show q_cp x F M t' = q_cp x F M t; unfold q_cp; rw [h1]
  | mn mx x xs => have h1 := Agree.l h |>.ev; show q_mn mx x xs F M t' = q_mn mx x xs F M t; unfold q_mn; rw [h1, (Agree.r h).minAll]
  | bld z ps => show q_bld z ps F M t' = q_bld z ps F M t; unfold q_bld; rw [Agree.fillParts h]
  | ta w z ok x => have h1 : x.ev t' = x.ev t := Agree.ev h; show q_ta w z ok x F M t' = q_ta w z ok x F M t; unfold q_ta; rw [h1]
  | up x => have h1 : x.ev t' = x.ev t := Agree.ev h; show q_up x F M t' = q_up x F M t; unfold q_up; rw [h1]
  | dn ty s x => have h1 : x.ev t' = x.ev t := Agree.ev h; show q_dn ty s x F M t' = q_dn ty s x F M t; unfold q_dn; rw [h1]
  | sd x => have h1 : x.ev t' = x.ev t := Agree.ev h; show q_sd x F M t' = q_sd x F M t; unfold q_sd; rw [h1]
  | xib x y => have h1 := Agree.l h |>.ev; have h2 := Agree.r h |>.ev; show q_xib x y F M t' = q_xib x y F M t; unfold q_xib; rw [h1, h2]
  | xibB x y => have h1 := Agree.l h |>.ev; have h2 := Agree.r h |>.ev; show q_xibB x y F M t' = q_xibB x y F M t; unfold q_xibB; rw [h1, h2]
  | xcmp x y => have h1 := Agree.l h |>.ev; have h2 := Agree.r h |>.ev; show q_xcmp x y F M t' = q_xcmp x y F M t; unfold q_xcmp; rw [h1, h2]
  | sap n x => have h1 : x.ev t' = x.ev t := Agree.ev h; show q_sap n x F M t' = q_sap n x F M t; unfold q_sap; rw [h1]
  | xcn x y => have h1 := Agree.l h |>.ev; have h2 := Agree.r h |>.ev; show q_xcn x y F M t' = q_xcn x y F M t; unfold q_xcn; rw [h1, h2]
  | bad => rfl
theorem aop_congr (b : Nat) {o : AO} (h : Agree o.ps t t') : aop o b t' = aop o b t := by
  cases o with
  | al ty cs => rfl
  | bx ty sz x => have h1 : x.ev t' = x.ev t := Agree.ev h; show a_bx ty sz x b t' = a_bx ty sz x b t; unfold a_bx; rw [h1]
  | bsl ty n sz z ps => show a_bsl ty n sz z ps b t' = a_bsl ty n sz z ps b t; unfold a_bsl; rw [Agree.fillP h]
  | mks ty sz by_ z l k => have h1 := Agree.l h |>.ev; have h2 := Agree.r h |>.ev; show a_mks ty sz by_ z l k b t' = a_mks ty sz by_ z l k b t; unfold a_mks; rw [h1, h2]
  | mkm => rfl
  | sb ty x => have h1 : x.ev t' = x.ev t := Agree.ev h; show a_sb ty x b t' = a_sb ty x b t; unfold a_sb; rw [h1]
  | nz ty x => have h1 : x.ev t' = x.ev t := Agree.ev h; show a_nz ty x b t' = a_nz ty x b t; unfold a_nz; rw [h1]
  | rgs x => have h1 : x.ev t' = x.ev t := Agree.ev h; show a_rgs x b t' = a_rgs x b t; unfold a_rgs; rw [h1]
theorem doE_congr (k : Kn) (M : Mem) (c : Nat) {o : EO} (h : Agree o.ps t t') : doE o k M c t' = doE o k M c t := by
  cases o with
  | call f as => have h1 := Agree.evs h; show x_call f as k M c t' = x_call f as k M c t; unfold x_call; rw [h1]
  | cv f as => have h1 := Agree.l h |>.ev; have h2 := (Agree.r h).evs; show x_cv f as k M c t' = x_cv f as k M c t; unfold x_cv; rw [h1, h2]
  | st n x y => have h1 := Agree.l h |>.ev; have h2 := Agree.r h |>.ev; show x_st n x y k M c t' = x_st n x y k M c t; unfold x_st e_st; rw [h1, h2]
  | app ty sz by_ x y => have h1 := Agree.l h |>.ev; have h2 := Agree.r h |>.ev; show x_app ty sz by_ x y k M c t' = x_app ty sz by_ x y k M c t; unfold x_app e_app; rw [h1, h2]
  | cpy sz x y => have h1 := Agree.l h |>.ev; have h2 := Agree.r h |>.ev; show x_cpy sz x y k M c t' = x_cpy sz x y k M c t; unfold x_cpy e_cpy; rw [h1, h2]
  | clr z x => have h1 : x.ev t' = x.ev t := Agree.ev h; show x_clr z x k M c t' = x_clr z x k M c t; unfold x_clr e_clr; rw [h1]
  | mu sh m k' v => have h1 := Agree.l h |>.ev; have h2 := (Agree.r h).l.ev; have h3 := (Agree.r h).r.ev; show x_mu sh m k' v k M c t' = x_mu sh m k' v k M c t; unfold x_mu e_mu; rw [h1, h2, h3]
  | del sh m k' => have h1 := Agree.l h |>.ev; have h2 := Agree.r h |>.ev; show x_del sh m k' k M c t' = x_del sh m k' k M c t; unfold x_del e_del; rw [h1, h2]
  | us ty x n => have h1 := Agree.l h |>.ev; have h2 := Agree.r h |>.ev; show x_us ty x n k M c t' = x_us ty x n k M c t; unfold x_us e_us; rw [h1, h2]
  | ms x => have h1 : x.ev t' = x.ev t := Agree.ev h; show x_ms x k M c t' = x_ms x k M c t; unfold x_ms e_ms; rw [h1]
  | nxs x => have h1 : x.ev t' = x.ev t := Agree.ev h; show x_nxs x k M c t' = x_nxs x k M c t; unfold x_nxs e_nxs; rw [h1]
  | rgm x => have h1 : x.ev t' = x.ev t := Agree.ev h; show x_rgm x k M c t' = x_rgm x k M c t; unfold x_rgm e_rgm; rw [h1]
  | mcl x => have h1 : x.ev t' = x.ev t := Agree.ev h; show x_mcl x k M c t' = x_mcl x k M c t; unfold x_mcl e_mcl; rw [h1]
  | ent x => have h1 : x.ev t' = x.ev t := Agree.ev h; show x_ent x k M c t' = x_ent x k M c t; unfold x_ent e_ent; rw [h1]
  | apz ty by_ x y => have h1 := Agree.l h |>.ev; have h2 := Agree.r h |>.ev; show x_apz ty by_ x y k M c t' = x_apz ty by_ x y k M c t; unfold x_apz e_apz; rw [h1, h2]
  | nxm x => have h1 : x.ev t' = x.ev t := Agree.ev h; show x_nxm x k M c t' = x_nxm x k M c t; unfold x_nxm e_nxm; rw [h1]
theorem wanted_congr {g : Option (Pos × Bool)} (h : Agree (gps g) t t') : wanted t' g = wanted t g := by
  cases g with
  | none => rfl
  | some pw =>
    obtain ⟨p, want⟩ := pw
    show wanted1 want (getT t' p) = wanted1 want (getT t p)
    rw [h p (by simp [gps])]
theorem posEq_iff : ∀ p q : Pos, posEq p q = true ↔ p = q
  | .h, .h => by simp [posEq]
  | .l p, .l q => by simp [posEq, posEq_iff p q]
  | .r p, .r q => by simp [posEq, posEq_iff p q]
  | .h, .l _ => by simp [posEq]
  | .h, .r _ => by simp [posEq]
  | .l _, .h => by simp [posEq]
  | .l _, .r _ => by simp [posEq]
  | .r _, .h => by simp [posEq]
  | .r _, .l _ => by simp [posEq]
theorem posIn_iff (p : Pos) (l : List Pos) : posIn p l = true ↔ p ∈ l := by
  induction l with
  | nil => simp [posIn]
  | cons q r ih =>
    simp only [posIn, List.mem_cons]
    cases h : posEq p q with
    | true => simp [(posEq_iff p q).1 h]
    | false =>
      have : p ≠ q := fun e => by rw [(posEq_iff p q).2 e] at h; cases h
      simp [this, ih]
theorem Agree.setT {ps : List Pos} {dst : Option Pos} (h : dstIn ps dst = false) (t : T) (v : V) : Agree ps t (Ev.setT t dst v) := by
  intro p hp
  cases dst with
  | none => rfl
  | some q =>
    have hne : p ≠ q := by
      rintro rfl
      have : posIn p ps = true := (posIn_iff p ps).2 hp
      rw [show dstIn ps (some p) = posIn p ps from rfl, this] at h; cases h
    rw [setT_some]
    unfold getT; rw [Tr.getP_setP_ne q v p t hne]
theorem setT_comm {d1 d2 : Option Pos} (h : dstSame d1 d2 = false) (t : T) (v1 v2 : V) : Ev.setT (Ev.setT t d1 v1) d2 v2 = Ev.setT (Ev.setT t d2 v2) d1 v1 := by
  cases d1 with
  | none => rfl
  | some p =>
    cases d2 with
    | none => rfl
    | some q =>
      have hne : p ≠ q := fun e => by
        have := (posEq_iff p q).2 e
        rw [show dstSame (some p) (some q) = posEq p q from rfl, this] at h; cases h
      simp only [setT_some]
      exact Tr.setP_comm p v1 q v2 t (Ne.symm hne)
end
end Go.Proofs.YtmbfboidfbaeiaaGreatDoor.Ev
namespace Go.Proofs.YtmbfboidfbaeiaaGreatDoor.Ev
open Go
structure SS where
  t : T
  m : Nat → Option Blk
  ct : Nat
inductive LK where
  | skip
  | qv (v : V)
  | qr (v : V) (b : Nat)
  | al (v : V) (blk : Blk)
  | ef (v : V) (M1 : Mem) (F1 : RO) (M' : Mem) (ct ct' : Nat)
structure Lab where
  i : Nat
  mask : Nat
  co : CO
  k : LK
def CO.op : CO → OK
  | .mk _ op _ => op
def CO.guard : CO → Option (Pos × Bool)
  | .mk _ _ g => g
def LK.isEf : LK → Bool
  | .ef .. => true
  | _ => false
noncomputable def afterM (M1 M' : Mem) (m : Nat → Option Blk) (b : Nat) : Option Blk :=
  if M1.get b = none ∧ m b ≠ none then m b else M'.get b
def setF (m : Nat → Option Blk) (b : Nat) (blk : Blk) : Nat → Option Blk := fun x => if x = b then some blk else m x
structure EfOk (k : Kn) (F : RO) (o : EO) (v : V) (M1 : Mem) (F1 : RO) (M' : Mem) (ct ct' : Nat) (t : T) (m : Nat → Option Blk) : Prop where
  run : doE o (knF k F1) M1 ct t = .k v M' ct'
  sub : ∀ b blk, M1.get b = some blk → m b = some blk
  ro : ∀ b blk, roGet F1 b = some blk → (m b = some blk ∧ M1.get b = none) ∨ roGet F b = some blk
  new : ∀ b, (roGet F b).isSome → M'.get b = none
def Tn (k : Kn) (base : Nat) (F : RO) (l : Lab) (s s' : SS) : Prop :=
  match l.k with
  | .skip => wanted s.t l.co.guard = false ∧ s' = ⟨setT s.t l.co.dst undef, s.m, s.ct⟩
  | .qv v => wanted s.t l.co.guard = true ∧ ∃ o, l.co.op = .q o ∧ (qop o [] .e s.t).val = some v ∧ s' = ⟨setT s.t l.co.dst v, s.m, s.ct⟩
  | .qr v b => wanted s.t l.co.guard = true ∧ ∃ o blk, l.co.op = .q o ∧ (s.m b = some blk ∨ (s.m b = none ∧ roGet F b = some blk)) ∧ (qop o [(b, blk)] .e s.t).val = some v ∧ s' = ⟨setT s.t l.co.dst v, s.m, s.ct⟩
  | .al v blk => wanted s.t l.co.guard = true ∧ ∃ o, l.co.op = .a o ∧ aop o (base + l.i) s.t = some (v, blk) ∧ s' = ⟨setT s.t l.co.dst v, setF s.m (base + l.i) blk, s.ct⟩
  | .ef v M1 F1 M' ct ct' => wanted s.t l.co.guard = true ∧ s.ct = ct ∧ ∃ o, l.co.op = .e o ∧ EfOk k F o v M1 F1 M' ct ct' s.t s.m ∧ s' = ⟨setT s.t l.co.dst v, afterM M1 M' s.m, ct'⟩
structure Apart (base : Nat) (x y : Lab) : Prop where
  ne : x.i ≠ y.i
  kx : x.k.isEf = false
  d1 : dstIn y.co.ps x.co.dst = false
  d2 : dstIn x.co.ps y.co.dst = false
  d3 : dstSame x.co.dst y.co.dst = false
  rd : ∀ vx b v M1 F1 M' ct ct', x.k = .qr vx b → y.k = .ef v M1 F1 M' ct ct' → M1.get b = none
  al : ∀ vx blk v M1 F1 M' ct ct', x.k = .al vx blk → y.k = .ef v M1 F1 M' ct ct' → M1.get (base + x.i) = none ∧ roGet F1 (base + x.i) = none
  rd2 : ∀ vx blk v b, x.k = .al vx blk → y.k = .qr v b → b ≠ base + x.i
  rd3 : ∀ vx b v blk, x.k = .qr vx b → y.k = .al v blk → b ≠ base + y.i
section
variable {k : Kn} {base : Nat} {F : RO} {x y : Lab} {s s1 s2 : SS}
theorem CO.ps_eq (c : CO) : c.ps = gps c.guard ++ c.op.ps := by cases c; rfl
def Lab.val (l : Lab) : V := match l.k with
  | .skip => undef
  | .qv v | .qr v _ | .al v _ => v
  | .ef v .. => v
noncomputable def Lab.mem (base : Nat) (l : Lab) (m : Nat → Option Blk) : Nat → Option Blk := match l.k with
  | .al _ blk => setF m (base + l.i) blk
  | .ef _ M1 _ M' _ _ => afterM M1 M' m
  | _ => m
def Lab.ctr (l : Lab) (ct : Nat) : Nat := match l.k with
  | .ef _ _ _ _ _ ct' => ct'
  | _ => ct
def Can (k : Kn) (base : Nat) (F : RO) (l : Lab) (s : SS) : Prop :=
  match l.k with
  | .skip => wanted s.t l.co.guard = false
  | .qv v => wanted s.t l.co.guard = true ∧ ∃ o, l.co.op = .q o ∧ (qop o [] .e s.t).val = some v
  | .qr v b => wanted s.t l.co.guard = true ∧ ∃ o blk, l.co.op = .q o ∧ (s.m b = some blk ∨ (s.m b = none ∧ roGet F b = some blk)) ∧ (qop o [(b, blk)] .e s.t).val = some v
  | .al v blk => wanted s.t l.co.guard = true ∧ ∃ o, l.co.op = .a o ∧ aop o (base + l.i) s.t = some (v, blk)
  | .ef v M1 F1 M' ct ct' => wanted s.t l.co.guard = true ∧ s.ct = ct ∧ ∃ o, l.co.op = .e o ∧ EfOk k F o v M1 F1 M' ct ct' s.t s.m
theorem Tn_iff : Tn k base F x s s1 ↔ Can k base F x s ∧ s1 = ⟨setT s.t x.co.dst x.val, x.mem base s.m, x.ctr s.ct⟩ := by
  unfold Tn Can Lab.val Lab.mem Lab.ctr
  cases x.k with
  | skip => exact Iff.rfl
  | qv v =>
    constructor
    · rintro ⟨h1, o, h2, h3, h4⟩; exact ⟨⟨h1, o, h2, h3⟩, h4⟩
    · rintro ⟨⟨h1, o, h2, h3⟩, h4⟩; exact ⟨h1, o, h2, h3, h4⟩
  | qr v b =>
    constructor
    · rintro ⟨h1, o, blk, h2, h3, h4, h5⟩; exact ⟨⟨h1, o, blk, h2, h3, h4⟩, h5⟩
    · rintro ⟨⟨h1, o, blk, h2, h3, h4⟩, h5⟩; exact ⟨h1, o, blk, h2, h3, h4, h5⟩
  | al v blk =>
    constructor
    · rintro ⟨h1, o, h2, h3, h4⟩; exact ⟨⟨h1, o, h2, h3⟩, h4⟩
    · rintro ⟨⟨h1, o, h2, h3⟩, h4⟩; exact ⟨h1, o, h2, h3, h4⟩
  | ef v M1 F1 M' ct ct' =>
    constructor
    · rintro ⟨h1, h0, o, h2, h3, h4⟩; exact ⟨⟨h1, h0, o, h2, h3⟩, h4⟩
    · rintro ⟨⟨h1, h0, o, h2, h3⟩, h4⟩; exact ⟨h1, h0, o, h2, h3, h4⟩
def MemOk (base : Nat) (F : RO) (l : Lab) (m m' : Nat → Option Blk) : Prop := match l.k with
  | .qr _ b => m' b = m b
  | .ef _ M1 F1 _ _ _ => (∀ b, (M1.get b).isSome → m' b = m b) ∧ (∀ b, (roGet F1 b).isSome → m' b = m b)
  | _ => True
theorem Can.move {t t' : T} {m m' : Nat → Option Blk} {ct ct' : Nat} (h : Can k base F x ⟨t, m, ct⟩) (ha : Agree x.co.ps t t') (hm : MemOk base F x m m') (hc : x.k.isEf = true → ct' = ct) : Can k base F x ⟨t', m', ct'⟩ := by
  rw [CO.ps_eq] at ha
  have hw := wanted_congr ha.l
  have ho := ha.r
  unfold Can at h ⊢
  unfold MemOk at hm
  cases hk : x.k with
  | skip => rw [hk] at h; exact hw.trans h
  | qv v =>
    rw [hk] at h
    obtain ⟨h1, o, h2, h3⟩ := h
    rw [h2] at ho
    exact ⟨hw.trans h1, o, h2, by show (qop o [] .e t').val = _; rw [qop_congr _ _ ho]; exact h3⟩
  | qr v b =>
    rw [hk] at h hm
    obtain ⟨h1, o, blk, h2, h3, h4⟩ := h
    rw [h2] at ho
    have hm' : m' b = m b := hm
    exact ⟨hw.trans h1, o, blk, h2, by show m' b = _ ∨ (m' b = _ ∧ _); rw [hm']; exact h3, by show (qop o _ .e t').val = _; rw [qop_congr _ _ ho]; exact h4⟩
  | al v blk =>
    rw [hk] at h
    obtain ⟨h1, o, h2, h3⟩ := h
    rw [h2] at ho
    exact ⟨hw.trans h1, o, h2, by show aop o _ t' = _; rw [aop_congr _ ho]; exact h3⟩
  | ef v M1 F1 M' c1 c2 =>
    rw [hk] at h hm hc
    obtain ⟨h1, h0, o, h2, h3⟩ := h
    rw [h2] at ho
    have hm' : (∀ b, (M1.get b).isSome → m' b = m b) ∧ (∀ b, (roGet F1 b).isSome → m' b = m b) := hm
    refine ⟨hw.trans h1, (hc rfl).trans h0, o, h2, ⟨?_, ?_, ?_, h3.new⟩⟩
    · show doE o (knF k F1) M1 c1 t' = _
      rw [doE_congr _ _ _ ho]; exact h3.run
    · intro b blk hb
      show m' b = _
      rw [hm'.1 b (by rw [hb]; rfl)]; exact h3.sub b blk hb
    · intro b blk hb
      show (m' b = _ ∧ _) ∨ _
      rw [hm'.2 b (by rw [hb]; rfl)]; exact h3.ro b blk hb
theorem swap (ha : Apart base x y) (h1 : Tn k base F x s s1) (h2 : Tn k base F y s1 s2) : ∃ s1', Tn k base F y s s1' ∧ Tn k base F x s1' s2 := by
  obtain ⟨t, m, ct⟩ := s
  rw [Tn_iff] at h1 h2
  obtain ⟨c1, rfl⟩ := h1
  obtain ⟨c2, rfl⟩ := h2
  have hctx : x.ctr ct = ct := by
    have := ha.kx
    unfold Lab.ctr
    cases hx : x.k <;> first | rfl | (rw [hx] at this; cases this)
  refine ⟨_, Tn_iff.2 ⟨?_, rfl⟩, Tn_iff.2 ⟨?_, ?_⟩⟩
  ·
    refine Can.move (t' := t) (m' := m) (ct' := ct) c2 ?_ ?_ ?_
    · intro p hp; exact (Agree.setT ha.d1 t x.val p hp).symm
    · unfold MemOk
      cases hy : y.k with
      | qr v b =>
        show m b = x.mem base m b
        unfold Lab.mem
        cases hx : x.k with
        | al vx blk =>
          show m b = setF m (base + x.i) blk b
          unfold setF
          rw [if_neg (ha.rd2 vx blk v b hx hy)]
        | ef => have := ha.kx; rw [hx] at this; cases this
        | _ => rfl
      | ef v M1 F1 M' c3 c4 =>
        unfold Lab.mem
        cases hx : x.k with
        | al vx blk =>
          have hal := ha.al vx blk v M1 F1 M' c3 c4 hx hy
          constructor
          · intro b hb
            show m b = setF m (base + x.i) blk b
            unfold setF
            rw [if_neg]
            rintro rfl; rw [hal.1] at hb; cases hb
          · intro b hb
            show m b = setF m (base + x.i) blk b
            unfold setF
            rw [if_neg]
            rintro rfl; rw [hal.2] at hb; cases hb
        | ef => have := ha.kx; rw [hx] at this; cases this
        | _ => exact ⟨fun _ _ => rfl, fun _ _ => rfl⟩
      | _ => trivial
    · intro _; exact hctx.symm
  ·
    refine Can.move (t := t) (m := m) (ct := ct) c1 (Agree.setT ha.d2 t y.val) ?_ (fun h => by rw [ha.kx] at h; cases h)
    unfold MemOk
    cases hx : x.k with
    | qr v b =>
      show y.mem base m b = m b
      unfold Lab.mem
      cases hy : y.k with
      | al vy blk =>
        show setF m (base + y.i) blk b = m b
        unfold setF
        rw [if_neg (ha.rd3 v b vy blk hx hy)]
      | ef vy M1 F1 M' c3 c4 =>
        have hrd := ha.rd v b vy M1 F1 M' c3 c4 hx hy
        show afterM M1 M' m b = m b
        unfold afterM
        split
        · rfl
        · rename_i hn
          have hmb : m b = none := by
            cases hb : m b with
            | none => rfl
            | some _ => exact absurd ⟨hrd, by rw [hb]; exact (fun h => by cases h)⟩ hn
          have hF : (roGet F b).isSome := by
            unfold Can at c1
            rw [hx] at c1
            obtain ⟨_, o, blk, _, h3, _⟩ := c1
            rcases h3 with h3 | h3
            · have h3' : m b = some blk := h3
              rw [hmb] at h3'; cases h3'
            · rw [h3.2]; rfl
          have hE : M'.get b = none := by
            unfold Can at c2
            rw [hy] at c2
            obtain ⟨_, _, o, _, h3⟩ := c2
            exact h3.new b hF
          rw [hmb, hE]
      | _ => rfl
    | ef => have := ha.kx; rw [hx] at this; cases this
    | _ => trivial
  · have e1 : setT (setT t x.co.dst x.val) y.co.dst y.val = setT (setT t y.co.dst y.val) x.co.dst x.val := setT_comm ha.d3 t x.val y.val
    have e2 : y.mem base (x.mem base m) = x.mem base (y.mem base m) := by
      unfold Lab.mem
      cases hx : x.k with
      | al vx blk =>
        cases hy : y.k with
        | al vy blk' =>
          have hne : base + x.i ≠ base + y.i := fun e => ha.ne (by omega)
          funext b
          show setF (setF m (base + x.i) blk) (base + y.i) blk' b = setF (setF m (base + y.i) blk') (base + x.i) blk b
          unfold setF
          by_cases e : b = base + x.i
          · rw [if_pos e, if_neg (by rw [e]; exact hne), if_pos e]
          · rw [if_neg e, if_neg e]
        | ef vy M1 F1 M' c3 c4 =>
          have hal := (ha.al vx blk vy M1 F1 M' c3 c4 hx hy).1
          funext b
          show afterM M1 M' (setF m (base + x.i) blk) b = setF (afterM M1 M' m) (base + x.i) blk b
          unfold afterM setF
          by_cases e : b = base + x.i
          · rw [if_pos e, if_pos e, if_pos ⟨by rw [e]; exact hal, fun h => by cases h⟩]
          · rw [if_neg e, if_neg e]
        | _ => rfl
      | ef => have := ha.kx; rw [hx] at this; cases this
      | _ => rfl
    have e3 : y.ctr (x.ctr ct) = x.ctr (y.ctr ct) := by
      have hc : ∀ n, x.ctr n = n := by
        intro n
        have := ha.kx
        unfold Lab.ctr
        cases hx : x.k <;> first | rfl | (rw [hx] at this; cases this)
      rw [hc, hc]
    show SS.mk _ _ _ = SS.mk _ _ _
    rw [e1, e2, e3]
def Chain (k : Kn) (base : Nat) (F : RO) : List Lab → SS → SS → Prop
  | [], s, s' => s = s'
  | l :: r, s, s' => ∃ s1, Tn k base F l s s1 ∧ Chain k base F r s1 s'
theorem Chain.move {l2 : List Lab} {y : Lab} {s' : SS} : ∀ (l1 : List Lab) (s : SS), (∀ x ∈ l1, Apart base x y) → Chain k base F (l1 ++ y :: l2) s s' → ∃ s1, Tn k base F y s s1 ∧ Chain k base F (l1 ++ l2) s1 s'
  | [], s, _, h => h
  | x :: l1, s, ha, h => by
    obtain ⟨s1, h1, h2⟩ := h
    obtain ⟨s2, h3, h4⟩ := Chain.move l1 s1 (fun z hz => ha z (List.mem_cons_of_mem _ hz)) h2
    obtain ⟨s3, h5, h6⟩ := swap (ha x (List.mem_cons_self ..)) h1 h3
    exact ⟨s3, h5, s2, h6, h4⟩
end
end Go.Proofs.YtmbfboidfbaeiaaGreatDoor.Ev
namespace Go.Proofs.YtmbfboidfbaeiaaGreatDoor.Ev
open Go
def pget : List (Nat × Nat × Blk) → Nat → Option Blk
  | [], _ => none
  | (_, b, blk) :: r, x => if x = b then some blk else pget r x
theorem pget_some {p : List (Nat × Nat × Blk)} {b : Nat} {blk : Blk} (h : pget p b = some blk) : ∃ i, (i, b, blk) ∈ p := by
  induction p with
  | nil => cases h
  | cons q r ih =>
    obtain ⟨i, b', blk'⟩ := q
    unfold pget at h
    split at h
    · rename_i e
      subst e
      obtain rfl := Option.some.inj h
      exact ⟨i, by simp⟩
    · obtain ⟨j, hj⟩ := ih h
      exact ⟨j, List.mem_cons_of_mem _ hj⟩
theorem pget_none {p : List (Nat × Nat × Blk)} {b : Nat} (h : pget p b = none) : ∀ i blk, (i, b, blk) ∉ p := by
  induction p with
  | nil => intro i blk hm; cases hm
  | cons q r ih =>
    obtain ⟨i', b', blk'⟩ := q
    unfold pget at h
    split at h
    · cases h
    · rename_i e
      intro i blk hm
      rcases List.mem_cons.1 hm with hm | hm
      · injection hm with h1 h2; injection h2 with h2 h3; exact e h2
      · exact ih h i blk hm
def ND (p : List (Nat × Nat × Blk)) : Prop := p.Pairwise fun x y => x.2.1 ≠ y.2.1
theorem merge_spec (mask : Nat) : ∀ (p : List (Nat × Nat × Blk)) (M : Mem), ND p → ∃ Mm, merge mask p M = (Mm, p.filter fun x => !testBit mask x.1) ∧
    ∀ b, (pget (p.filter fun x => !testBit mask x.1) b).or (Mm.get b) = (pget p b).or (M.get b)
  | [], M, _ => ⟨M, rfl, fun _ => rfl⟩
  | (i, b, blk) :: r, M, h => by
    obtain ⟨h1, h2⟩ := List.pairwise_cons.1 h
    cases ht : testBit mask i with
    | true =>
      obtain ⟨Mm, hm, hg⟩ := merge_spec mask r (M.set b blk) h2
      refine ⟨Mm, ?_, ?_⟩
      · rw [merge, ht, cond_true, Tr.force_eq, hm]
        simp [ht]
      · intro x
        have e : ((i, b, blk) :: r).filter (fun x => !testBit mask x.1) = r.filter fun x => !testBit mask x.1 := by simp [ht]
        rw [e, hg x]
        simp only [pget]
        by_cases ex : x = b
        · subst ex
          rw [if_pos rfl]
          have hn : pget r x = none := by
            cases hp : pget r x with
            | none => rfl
            | some blk' => obtain ⟨j, hj⟩ := pget_some hp; exact absurd rfl (h1 (j, x, blk') hj)
          rw [hn, Tr.get_set, if_pos rfl]; rfl
        · rw [if_neg ex, Tr.get_set, if_neg ex]
    | false =>
      obtain ⟨Mm, hm, hg⟩ := merge_spec mask r M h2
      refine ⟨Mm, ?_, ?_⟩
      · rw [merge, ht, cond_false, hm]
        simp [ht]
      · intro x
        have e : ((i, b, blk) :: r).filter (fun x => !testBit mask x.1) = (i, b, blk) :: r.filter fun x => !testBit mask x.1 := by simp [ht]
        rw [e]
        simp only [pget]
        by_cases ex : x = b
        · rw [if_pos ex, if_pos ex]; rfl
        · rw [if_neg ex, if_neg ex]; exact hg x
def bnames (l : List (Nat × Blk)) (b : Nat) : Prop := ∃ blk, (b, blk) ∈ l
structure ProtOk (mask : Nat) (reads : List (Nat × Nat)) (F : RO) (M : Mem) (F1 : RO) (M1 : Mem) (news : List (Nat × Blk)) : Prop where
  ro : F1 = news ++ F
  get : ∀ b, M1.get b = none ∧ bnames news b ∨ M1.get b = M.get b ∧ ¬ bnames news b
  was : ∀ b blk, (b, blk) ∈ news → M.get b = some blk
  rd : ∀ i b, (i, b) ∈ reads → testBit mask i = false → M1.get b = none
theorem protect_spec (mask : Nat) : ∀ (reads : List (Nat × Nat)) (F : RO) (M : Mem) (s : List (Nat × Blk)), ∃ F1 M1 news, protect mask reads F M s = .mk F1 M1 (news ++ s) ∧ ProtOk mask reads F M F1 M1 news
  | [], F, M, s => ⟨F, M, [], rfl, ⟨rfl, fun b => .inr ⟨rfl, fun ⟨_, h⟩ => (by cases h)⟩, fun _ _ h => (by cases h), fun _ _ h => (by cases h)⟩⟩
  | (i, b) :: r, F, M, s => by
    cases ht : testBit mask i with
    | true =>
      obtain ⟨F1, M1, news, hp, hk⟩ := protect_spec mask r F M s
      refine ⟨F1, M1, news, by rw [protect, ht, cond_true]; exact hp, hk.ro, hk.get, hk.was, ?_⟩
      intro i' b' hm hf
      rcases List.mem_cons.1 hm with hm | hm
      · injection hm with h1 h2; rw [h1, ht] at hf; cases hf
      · exact hk.rd i' b' hm hf
    | false =>
      cases hb : M.get b with
      | none =>
        obtain ⟨F1, M1, news, hp, hk⟩ := protect_spec mask r F M s
        refine ⟨F1, M1, news, by rw [protect, ht, cond_false]; simp only [hb]; exact hp, hk.ro, hk.get, hk.was, ?_⟩
        intro i' b' hm hf
        rcases List.mem_cons.1 hm with hm | hm
        · injection hm with h1 h2
          rw [h2]
          rcases hk.get b with h | h
          · exact h.1
          · rw [h.1, hb]
        · exact hk.rd i' b' hm hf
      | some blk =>
        obtain ⟨F1, M1, news, hp, hk⟩ := protect_spec mask r ((b, blk) :: F) (M.del b) ((b, blk) :: s)
        refine ⟨F1, M1, news ++ [(b, blk)], ?_, by rw [hk.ro]; simp, ?_, ?_, ?_⟩
        · rw [protect, ht, cond_false]
          simp only [hb, Tr.force_eq]
          rw [hp]; simp
        · intro x
          by_cases ex : x = b
          · left
            refine ⟨?_, blk, by rw [ex]; simp⟩
            rcases hk.get x with h | h
            · exact h.1
            · rw [h.1, Tr.get_del, if_pos ex]
          · rcases hk.get x with h | h
            · exact .inl ⟨h.1, let ⟨y, hy⟩ := h.2; ⟨y, List.mem_append_left _ hy⟩⟩
            · right
              refine ⟨by rw [h.1, Tr.get_del, if_neg ex], ?_⟩
              rintro ⟨y, hy⟩
              rcases List.mem_append.1 hy with hy | hy
              · exact h.2 ⟨y, hy⟩
              · simp at hy; exact ex hy.1
        · intro x y hxy
          rcases List.mem_append.1 hxy with hxy | hxy
          · have := hk.was x y hxy
            rw [Tr.get_del] at this
            split at this
            · cases this
            · exact this
          · simp at hxy; rw [hxy.1, hxy.2]; exact hb
        · intro i' b' hm hf
          rcases List.mem_cons.1 hm with hm | hm
          · injection hm with h1 h2
            rw [h2]
            rcases hk.get b with h | h
            · exact h.1
            · rw [h.1, Tr.get_del, if_pos rfl]
          · exact hk.rd i' b' hm hf
theorem unprotect_spec (f : Nat → Option Blk) : ∀ (l : List (Nat × Blk)) (M : Mem), (∀ b blk, (b, blk) ∈ l → f b = some blk) → ∀ b, (bnames l b ∧ (unprotect l M).get b = f b) ∨ (¬ bnames l b ∧ (unprotect l M).get b = M.get b)
  | [], M, _, b => .inr ⟨fun ⟨_, h⟩ => (by cases h), rfl⟩
  | (x, blk) :: r, M, h, b => by
    rw [unprotect, Tr.force_eq]
    rcases unprotect_spec f r (M.set x blk) (fun b' blk' hm => h b' blk' (List.mem_cons_of_mem _ hm)) b with hh | hh
    · exact .inl ⟨let ⟨y, hy⟩ := hh.1; ⟨y, List.mem_cons_of_mem _ hy⟩, hh.2⟩
    · by_cases e : b = x
      · left
        refine ⟨⟨blk, by rw [e]; simp⟩, ?_⟩
        rw [hh.2, Tr.get_set, if_pos e, e, h x blk (by simp)]
      · right
        refine ⟨?_, by rw [hh.2, Tr.get_set, if_neg e]⟩
        rintro ⟨y, hy⟩
        rcases List.mem_cons.1 hy with hy | hy
        · injection hy with h1 h2; exact e h1
        · exact hh.1 ⟨y, hy⟩
theorem pendFree_iff {F : RO} {M : Mem} : ∀ (p : List (Nat × Nat × Blk)), pendFree F M p = true → ∀ i b blk, (i, b, blk) ∈ p → look F M b = none
  | [], _, _, _, _, h => by cases h
  | (j, b', blk') :: r, hp, i, b, blk, hm => by
    rw [pendFree] at hp
    cases hl : look F M b' with
    | none =>
      rw [hl] at hp
      simp only [Option.isNone_none, cond_true] at hp
      rcases List.mem_cons.1 hm with hm | hm
      · injection hm with h1 h2; injection h2 with h2 h3; rw [h2]; exact hl
      · exact pendFree_iff r hp i b blk hm
    | some y => rw [hl] at hp; simp at hp
theorem roFree_iff {M : Mem} : ∀ (F : RO), roFree M F = true → ∀ b blk, (b, blk) ∈ F → M.get b = none
  | [], _, _, _, h => by cases h
  | (b', blk') :: r, hp, b, blk, hm => by
    rw [roFree] at hp
    cases hl : M.get b' with
    | none =>
      rw [hl] at hp
      simp only [Option.isNone_none, cond_true] at hp
      rcases List.mem_cons.1 hm with hm | hm
      · injection hm with h1 h2; rw [h1]; exact hl
      · exact roFree_iff r hp b blk hm
    | some y => rw [hl] at hp; simp at hp
theorem readFree_iff {b : Nat} : ∀ (l : List (Nat × Nat)), readFree b l = true → ∀ i b', (i, b') ∈ l → b' ≠ b
  | [], _, _, _, h => by cases h
  | (j, x) :: r, hp, i, b', hm => by
    rw [readFree, beqN] at hp
    by_cases e : x = b
    · simp [e] at hp
    · simp [e] at hp
      rcases List.mem_cons.1 hm with hm | hm
      · injection hm with h1 h2; rw [h2]; exact e
      · exact readFree_iff r hp i b' hm
theorem roGet_cons (h : Nat × Blk) (F : RO) (k : Nat) : roGet (h :: F) k = if h.1 = k then some h.2 else roGet F k := by
  show Bool.rec (motive := fun _ => Option Blk) (roGet F k) (some h.2) (Nat.beq h.1 k) = _
  rw [bb, beqN]
  by_cases e : h.1 = k <;> simp [e]
theorem roGet_mem {F : RO} {b : Nat} {blk : Blk} (h : roGet F b = some blk) : (b, blk) ∈ F := by
  induction F with
  | nil => cases h
  | cons p r ih =>
    rw [roGet_cons] at h
    split at h
    · rename_i e
      obtain rfl := Option.some.inj h
      rw [← e]; simp
    · exact List.mem_cons_of_mem _ (ih h)
theorem roGet_append {F G : RO} {b : Nat} {blk : Blk} (h : roGet (F ++ G) b = some blk) : (b, blk) ∈ F ∨ roGet G b = some blk := by
  induction F with
  | nil => exact .inr h
  | cons p r ih =>
    rw [List.cons_append, roGet_cons] at h
    split at h
    · rename_i e
      obtain rfl := Option.some.inj h
      left; rw [← e]; simp
    · rcases ih h with h' | h'
      · exact .inl (List.mem_cons_of_mem _ h')
      · exact .inr h'
theorem roGet_append_none {F G : RO} {b : Nat} (h : roGet (F ++ G) b = none) : roGet G b = none ∧ ¬ bnames F b := by
  induction F with
  | nil => exact ⟨h, fun ⟨_, h⟩ => (by cases h)⟩
  | cons p r ih =>
    rw [List.cons_append, roGet_cons] at h
    split at h
    · cases h
    · rename_i e
      refine ⟨(ih h).1, ?_⟩
      rintro ⟨y, hy⟩
      rcases List.mem_cons.1 hy with hy | hy
      · rw [← hy] at e; exact e rfl
      · exact (ih h).2 ⟨y, hy⟩
theorem look_none {F : RO} {M : Mem} {b : Nat} (h : look F M b = none) : M.get b = none ∧ roGet F b = none := by
  cases hm : M.get b with
  | none => rw [look_none_M hm] at h; exact ⟨rfl, h⟩
  | some x => rw [look_some_M hm] at h; cases h
theorem look_none_of {F : RO} {M : Mem} {b : Nat} (h1 : M.get b = none) (h2 : roGet F b = none) : look F M b = none := by
  rw [look_none_M h1, h2]
theorem mergeAll_spec : ∀ (p : List (Nat × Nat × Blk)) (M : Mem), ND p → ∀ b, (mergeAll p M).get b = (pget p b).or (M.get b)
  | [], M, _, b => rfl
  | (i, x, blk) :: r, M, h, b => by
    obtain ⟨h1, h2⟩ := List.pairwise_cons.1 h
    rw [mergeAll, Tr.force_eq, mergeAll_spec r _ h2, pget]
    by_cases e : b = x
    · rw [if_pos e]
      have hn : pget r b = none := by
        cases hp : pget r b with
        | none => rfl
        | some blk' => obtain ⟨j, hj⟩ := pget_some hp; exact absurd e.symm (h1 (j, b, blk') hj)
      rw [hn, Tr.get_set, if_pos e]; rfl
    · rw [if_neg e, Tr.get_set, if_neg e]
theorem testBit_lor {a b x : Nat} (h : Nat.lor a b = b) (hx : testBit a x = true) : testBit b x = true := by
  have key : ∀ m i, testBit m i = Nat.testBit m i := by
    intro m i
    show Nat.beq (m / 2 ^ i % 2) 1 = Nat.testBit m i
    rw [beqN, Nat.testBit_eq_decide_div_mod_eq]
  rw [key] at hx ⊢
  have : (a ||| b) = b := h
  rw [← this, Nat.testBit_or, hx]; rfl
end Go.Proofs.YtmbfboidfbaeiaaGreatDoor.Ev
namespace Go.Proofs.YtmbfboidfbaeiaaGreatDoor.Ev
open Go
noncomputable def ssOf (t : T) (M : Mem) (c : Nat) (p : List (Nat × Nat × Blk)) : SS := ⟨t, fun b => (pget p b).or (M.get b), c⟩
structure DInv (base : Nat) (F : RO) (M : Mem) (p : List (Nat × Nat × Blk)) : Prop where
  nm : ∀ i b blk, (i, b, blk) ∈ p → b = base + i
  nd : ND p
  fr : ∀ i b blk, (i, b, blk) ∈ p → look F M b = none
def PairR (base : Nat) (x y : Lab) : Prop := testBit x.mask y.i = false ∧ x.i ≠ y.i ∧ (testBit y.mask x.i = true ∨ Apart base x y)
structure PastOk (base : Nat) (p : List (Nat × Nat × Blk)) (reads : List (Nat × Nat)) (y : Lab) : Prop where
  r1 : ∀ x b, (x, b) ∈ reads → testBit y.mask x = false → ∀ v M1 F1 M' ct ct', y.k = .ef v M1 F1 M' ct ct' → M1.get b = none
  r2 : ∀ x b, (x, b) ∈ reads → ∀ v blk, y.k = .al v blk → b ≠ base + y.i
  p1 : ∀ x b blk, (x, b, blk) ∈ p → testBit y.mask x = false → ∀ v M1 F1 M' ct ct', y.k = .ef v M1 F1 M' ct ct' → M1.get b = none ∧ roGet F1 b = none
  p2 : ∀ x b blk, (x, b, blk) ∈ p → testBit y.mask x = false → ∀ v b', y.k = .qr v b' → b' ≠ b
def Lab.trip (l : Lab) : Nat × Nat × CO := (l.i, l.mask, l.co)
theorem pair_facts {x y : Nat × Nat × CO} (h : pairOk x y = true) : testBit x.2.1 y.1 = false ∧ x.1 ≠ y.1 ∧
    ((testBit y.2.1 x.1 = true ∧ Nat.lor x.2.1 y.2.1 = y.2.1) ∨ (testBit y.2.1 x.1 = false ∧ indep x.2.2 y.2.2 = true)) := by
  unfold pairOk at h
  rw [beqN, beqN] at h
  simp only [Bool.and_eq_true, Bool.not_eq_true'] at h
  obtain ⟨h1, h2, h3⟩ := h
  refine ⟨h1, by simpa using h2, ?_⟩
  cases ht : testBit y.2.1 x.1 with
  | true => rw [ht] at h3; exact .inl ⟨rfl, by simpa using h3⟩
  | false => rw [ht] at h3; exact .inr ⟨rfl, by simpa using h3⟩
theorem pairsOk1_mem {x : Nat × Nat × CO} : ∀ {l : List (Nat × Nat × CO)}, pairsOk1 x l = true → ∀ y ∈ l, pairOk x y = true
  | [], _, _, h => by cases h
  | z :: r, h, y, hy => by
    simp only [pairsOk1, Bool.and_eq_true] at h
    rcases List.mem_cons.1 hy with rfl | hy
    · exact h.1
    · exact pairsOk1_mem h.2 y hy
theorem indep_facts {x y : CO} (h : indep x y = true) : isE x = false ∧ dstIn y.ps x.dst = false ∧ dstIn x.ps y.dst = false ∧ dstSame x.dst y.dst = false := by
  unfold indep at h
  simpa using h
theorem PairR.mk' {base : Nat} {x y : Lab} (h : pairOk x.trip y.trip = true) (hk : x.k.isEf = false)
    (rd : testBit y.mask x.i = false → ∀ vx b v M1 F1 M' ct ct', x.k = .qr vx b → y.k = .ef v M1 F1 M' ct ct' → M1.get b = none)
    (al : testBit y.mask x.i = false → ∀ vx blk v M1 F1 M' ct ct', x.k = .al vx blk → y.k = .ef v M1 F1 M' ct ct' → M1.get (base + x.i) = none ∧ roGet F1 (base + x.i) = none)
    (rd2 : testBit y.mask x.i = false → ∀ vx blk v b, x.k = .al vx blk → y.k = .qr v b → b ≠ base + x.i)
    (rd3 : ∀ vx b v blk, x.k = .qr vx b → y.k = .al v blk → b ≠ base + y.i) : PairR base x y := by
  obtain ⟨h1, h2, h3⟩ := pair_facts h
  refine ⟨h1, h2, ?_⟩
  rcases h3 with ⟨h3, _⟩ | ⟨h3, h4⟩
  · exact .inl h3
  · obtain ⟨_, a2, a3, a4⟩ := indep_facts h4
    exact .inr ⟨h2, hk, a2, a3, a4, rd h3, al h3, rd2 h3, rd3⟩
section
variable {k : Kn} {base : Nat} {t t1 : T} {M M1 : Mem} {c c1 : Nat} {p p1 : List (Nat × Nat × Blk)} {reads reads1 : List (Nat × Nat)} {i mask : Nat} {co : CO}
def StepOk (k : Kn) (base : Nat) (h : Nat × Nat × CO) (t : T) (M : Mem) (c : Nat) (p : List (Nat × Nat × Blk)) (reads : List (Nat × Nat)) (t1 : T) (M1 : Mem) (c1 : Nat) (p1 : List (Nat × Nat × Blk)) (reads1 : List (Nat × Nat)) : Prop :=
  ∃ l : Lab, l.trip = h ∧ Tn k base k.F l (ssOf t M c p) (ssOf t1 M1 c1 p1) ∧ DInv base k.F M1 p1 ∧ (∀ q ∈ p1, q.1 = h.1 ∨ ∃ q' ∈ p, q'.1 = q.1) ∧ PastOk base p reads l ∧
    ∀ y : Lab, pairOk h y.trip = true → PastOk base p1 reads1 y → PastOk base p reads y ∧ PairR base l y
theorem pget_free {F : RO} (hI : DInv base F M p) {b : Nat} {blk : Blk} (h : look F M b = some blk) : pget p b = none := by
  cases hp : pget p b with
  | none => rfl
  | some x =>
    obtain ⟨j, hj⟩ := pget_some hp
    rw [hI.fr _ _ _ hj] at h; cases h
theorem quiet_step (hI : DInv base k.F M p) {lk : LK} {v : V} (hv : Lab.val ⟨i, mask, co, lk⟩ = v) (hm : ∀ m, Lab.mem base ⟨i, mask, co, lk⟩ m = m) (hc : Lab.ctr ⟨i, mask, co, lk⟩ c = c)
    (hcan : Can k base k.F ⟨i, mask, co, lk⟩ (ssOf t M c p)) (hne : lk.isEf = false) (hna : ∀ v blk, lk ≠ .al v blk)
    (hrd : ∀ v b, lk = .qr v b → (i, b) ∈ reads1 ∧ ∀ blk x, (x, b, blk) ∉ p) (hsub : ∀ q ∈ reads, q ∈ reads1) :
    StepOk k base (i, mask, co) t M c p reads (setT t co.dst v) M c p reads1 := by
  refine ⟨⟨i, mask, co, lk⟩, rfl, Tn_iff.2 ⟨hcan, ?_⟩, hI, fun q hq => .inr ⟨q, hq, rfl⟩, ⟨?_, ?_, ?_, ?_⟩, ?_⟩
  · show ssOf _ _ _ _ = SS.mk _ _ _
    rw [hv, hm]
    show SS.mk _ _ _ = SS.mk _ _ (Lab.ctr _ c)
    rw [hc]; rfl
  · intro x b _ _ v M1 F1 M' ct ct' e
    have e' : lk = _ := e
    rw [e'] at hne; cases hne
  · intro x b _ v blk e; exact absurd e (hna v blk)
  · intro x b blk _ _ v M1 F1 M' ct ct' e
    have e' : lk = _ := e
    rw [e'] at hne; cases hne
  · intro x b blk hx _ v b' e
    rintro rfl
    exact (hrd v b' e).2 blk x hx
  · intro y hp hy
    refine ⟨⟨fun x b hx => hy.r1 x b (hsub _ hx), fun x b hx => hy.r2 x b (hsub _ hx), hy.p1, hy.p2⟩, ?_⟩
    refine .mk' hp hne ?_ ?_ ?_ ?_
    · intro ht vx b v M1 F1 M' ct ct' e1 e2
      exact hy.r1 i b (hrd vx b e1).1 ht v M1 F1 M' ct ct' e2
    · intro ht vx blk v M1 F1 M' ct ct' e1; exact absurd e1 (hna _ _)
    · intro ht vx blk v b e1; exact absurd e1 (hna _ _)
    · intro vx b v blk e1 e2
      exact hy.r2 i b (hrd vx b e1).1 v blk e2
theorem isNone_iff {α : Type} {o : Option α} (h : o.isNone = true) : o = none := by cases o <;> simp_all
theorem dOp_step (hI : DInv base k.F M p) (hi : ∀ q ∈ p, q.1 ≠ i) (h : dOp k base (i, mask, co) (.mk t M c p reads) = some (.mk t1 M1 c1 p1 reads1)) :
    StepOk k base (i, mask, co) t M c p reads t1 M1 c1 p1 reads1 := by
  obtain ⟨dst, op, g⟩ := co
  unfold dOp at h
  dsimp only at h
  cases hw : wanted t g with
  | false =>
    rw [hw, cond_false, Tr.force_eq] at h
    injection h with h; injection h with e1 e2 e3 e4 e5
    subst e1 e2 e3 e4 e5
    exact quiet_step (lk := .skip) hI rfl (fun _ => rfl) rfl hw rfl (fun _ _ h => by cases h) (fun _ _ h => by cases h) (fun _ h => h)
  | true =>
    rw [hw, cond_true] at h
    cases op with
    | q o =>
      have h' : d_q1 i dst t M c p reads (d_q0 o k.F M t (qop o k.F M t)) = some (.mk t1 M1 c1 p1 reads1) := h
      cases hq : qop o k.F M t with
      | f => rw [hq] at h'; cases (show (none : Option DS) = some _ from h')
      | v x0 =>
        rw [hq] at h'
        have h2 : d_q1 i dst t M c p reads (qop o [] .e t) = some (.mk t1 M1 c1 p1 reads1) := h'
        cases hq2 : qop o [] .e t with
        | f => rw [hq2] at h2; cases (show (none : Option DS) = some _ from h2)
        | v x =>
          rw [hq2, d_q1, Tr.force_eq] at h2
          injection h2 with h2; injection h2 with e1 e2 e3 e4 e5
          subst e1 e2 e3 e4 e5
          exact quiet_step (lk := .qv x) hI rfl (fun _ => rfl) rfl ⟨hw, o, rfl, by show (qop o [] .e t).val = _; rw [hq2]; rfl⟩ rfl (fun _ _ h => by cases h) (fun _ _ h => by cases h) (fun _ h => h)
        | r x b =>
          rw [hq2, d_q1, Tr.force_eq] at h2
          injection h2 with h2; injection h2 with e1 e2 e3 e4 e5
          subst e1 e2 e3 e4 e5
          exact quiet_step (lk := .qv x) hI rfl (fun _ => rfl) rfl ⟨hw, o, rfl, by show (qop o [] .e t).val = _; rw [hq2]; rfl⟩ rfl (fun _ _ h => by cases h) (fun _ _ h => by cases h) (fun _ h => List.mem_cons_of_mem _ h)
      | r x0 b =>
        rw [hq] at h'
        have h2 : d_q1 i dst t M c p reads (d_q2 o t b (look k.F M b)) = some (.mk t1 M1 c1 p1 reads1) := h'
        cases hl : look k.F M b with
        | none => rw [hl] at h2; cases (show (none : Option DS) = some _ from h2)
        | some blk =>
          rw [hl] at h2
          have h3 : d_q1 i dst t M c p reads (rOnly b (qop o [(b, blk)] .e t)) = some (.mk t1 M1 c1 p1 reads1) := h2
          have hpg := pget_free hI hl
          have hmem : ((pget p b).or (M.get b) = some blk ∨ ((pget p b).or (M.get b) = none ∧ roGet k.F b = some blk)) := by
            rw [hpg]
            cases hm : M.get b with
            | none => rw [look_none_M hm] at hl; exact .inr ⟨rfl, hl⟩
            | some y => rw [look_some_M hm] at hl; exact .inl hl
          have fin : ∀ x, (qop o [(b, blk)] .e t).val = some x → d_q1 i dst t M c p reads (.r x b) = some (.mk t1 M1 c1 p1 reads1) → StepOk k base (i, mask, .mk dst (.q o) g) t M c p reads t1 M1 c1 p1 reads1 := by
            intro x hx h4
            rw [d_q1, Tr.force_eq] at h4
            injection h4 with h4; injection h4 with e1 e2 e3 e4 e5
            subst e1 e2 e3 e4 e5
            refine quiet_step (lk := .qr x b) hI rfl (fun _ => rfl) rfl ⟨hw, o, blk, rfl, hmem, hx⟩ rfl (fun _ _ h => by cases h) ?_ (fun _ h => List.mem_cons_of_mem _ h)
            intro v b' e
            injection e with e1 e2
            subst e1 e2
            exact ⟨by simp, fun blk x => pget_none hpg x blk⟩
          cases hq2 : qop o [(b, blk)] .e t with
          | f => rw [hq2] at h3; cases (show (none : Option DS) = some _ from h3)
          | v x => rw [hq2] at h3; exact fin x (by rw [hq2]; rfl) h3
          | r x b2 => rw [hq2] at h3; exact fin x (by rw [hq2]; rfl) h3
    | a o =>
      have h' : fN (Nat.add base i) (fun b => bif (look k.F M b).isNone && readFree b reads then d_a1 i b dst t M c p reads (aop o b t) else none) = some (.mk t1 M1 c1 p1 reads1) := h
      rw [fN_eq] at h'
      cases hb : ((look k.F M (Nat.add base i)).isNone && readFree (Nat.add base i) reads) with
      | false => rw [hb] at h'; cases h'
      | true =>
        rw [hb, cond_true] at h'
        rw [Bool.and_eq_true] at hb
        have hlk := isNone_iff hb.1
        have hrf := readFree_iff _ hb.2
        cases ha : aop o (Nat.add base i) t with
        | none => rw [ha] at h'; cases h'
        | some pr =>
          obtain ⟨v, blk⟩ := pr
          rw [ha, d_a1, Tr.force_eq] at h'
          injection h' with h'; injection h' with e1 e2 e3 e4 e5
          subst e1 e2 e3 e4 e5
          refine ⟨⟨i, mask, .mk dst (.a o) g, .al v blk⟩, rfl, Tn_iff.2 ⟨⟨hw, o, rfl, ha⟩, ?_⟩, ⟨?_, ?_, ?_⟩, ?_, ⟨?_, ?_, ?_, ?_⟩, ?_⟩
          · show SS.mk _ _ _ = SS.mk _ _ _
            congr 1
            funext b
            show (pget ((i, base + i, blk) :: p) b).or (M.get b) = setF (fun b => (pget p b).or (M.get b)) (base + i) blk b
            unfold setF
            rw [pget]
            by_cases e : b = base + i
            · rw [if_pos e, if_pos e]; rfl
            · rw [if_neg e, if_neg e]
          · intro j b blk' hm
            rcases List.mem_cons.1 hm with hm | hm
            · injection hm with h1 h2; injection h2 with h2 h3; rw [h1, h2]; rfl
            · exact hI.nm j b blk' hm
          · refine List.pairwise_cons.2 ⟨?_, hI.nd⟩
            rintro ⟨j, b, blk'⟩ hm e
            have e1 := hI.nm j b blk' hm
            have e2 := hi _ hm
            have e3 : base + i = b := e
            exact e2 (by show j = i; omega)
          · intro j b blk' hm
            rcases List.mem_cons.1 hm with hm | hm
            · injection hm with h1 h2; injection h2 with h2 h3; rw [h2]; exact hlk
            · exact hI.fr j b blk' hm
          · intro q hq
            rcases List.mem_cons.1 hq with hq | hq
            · left; rw [hq]
            · exact .inr ⟨q, hq, rfl⟩
          · intro x b _ _ v M1 F1 M' ct ct' e; cases e
          · intro x b hx v blk e; exact hrf x b hx
          · intro x b blk _ _ v M1 F1 M' ct ct' e; cases e
          · intro x b blk _ _ v b' e; cases e
          · intro y hp hy
            refine ⟨⟨hy.r1, hy.r2, fun x b blk hx => hy.p1 x b blk (List.mem_cons_of_mem _ hx), fun x b blk hx => hy.p2 x b blk (List.mem_cons_of_mem _ hx)⟩, ?_⟩
            refine .mk' hp rfl (by intro _ vx b v M1 F1 M' ct ct' e1; cases e1) ?_ ?_ (by intro vx b v blk e1; cases e1)
            · intro ht vx blk' v M1 F1 M' ct ct' e1 e2
              exact hy.p1 i (base + i) blk (List.mem_cons_self ..) ht v M1 F1 M' ct ct' e2
            · intro ht vx blk' v b e1 e2
              exact hy.p2 i (base + i) blk (List.mem_cons_self ..) ht v b e2
    | e o =>
      have h' : d_e0 o k mask dst t c reads (merge mask p M) = some (.mk t1 M1 c1 p1 reads1) := h
      obtain ⟨Mm, hmg, hmget⟩ := merge_spec mask p M hI.nd
      rw [hmg] at h'
      obtain ⟨F1, Ma, news, hpr, hP⟩ := protect_spec mask reads k.F Mm []
      rw [d_e0, hpr, d_e1] at h'
      rw [List.append_nil] at h'
      cases hpf : pendFree F1 Ma (p.filter fun x => !testBit mask x.1) with
      | false => rw [hpf] at h'; cases h'
      | true =>
        rw [hpf, cond_true] at h'
        cases hE : doE o (knF k F1) Ma c t with
        | f => rw [hE] at h'; cases (show (none : Option DS) = some _ from h')
        | k v Mr cr =>
          rw [hE, d_e2] at h'
          cases hck : (roFree Mr F1 && pendFree F1 Mr (p.filter fun x => !testBit mask x.1)) with
          | false => rw [hck] at h'; cases h'
          | true =>
            rw [hck, cond_true, Tr.force_eq, Tr.force_eq] at h'
            injection h' with h'; injection h' with e1 e2 e3 e4 e5
            subst e1 e2 e3 e4 e5
            rw [Bool.and_eq_true] at hck
            have hro := roFree_iff _ hck.1
            have hpa := pendFree_iff _ hck.2
            have hpb := pendFree_iff _ hpf
            have hmem : ∀ q : Nat × Nat × Blk, q ∈ p.filter (fun x => !testBit mask x.1) ↔ q ∈ p ∧ testBit mask q.1 = false := by
              intro q; rw [List.mem_filter]; simp
            have hun := unprotect_spec (fun b => Mm.get b) news Mr hP.was
            have hnoF : ∀ b, (∀ blk x, (x, b, blk) ∉ p.filter fun x => !testBit mask x.1) → pget (p.filter fun x => !testBit mask x.1) b = none := by
              intro b hb
              cases hp : pget (p.filter fun x => !testBit mask x.1) b with
              | none => rfl
              | some blk => obtain ⟨j, hj⟩ := pget_some hp; exact absurd hj (hb blk j)
            have hnone : ∀ b, (Ma.get b ≠ none ∨ roGet F1 b ≠ none) → pget (p.filter fun x => !testBit mask x.1) b = none := by
              intro b hb
              refine hnoF b fun blk x hx => ?_
              obtain ⟨g1, g2⟩ := look_none (hpb x b blk hx)
              rcases hb with hb | hb
              · exact hb g1
              · exact hb g2
            have hm : ∀ b, (ssOf t M c p).m b = (pget (p.filter fun x => !testBit mask x.1) b).or (Mm.get b) := fun b => (hmget b).symm
            refine ⟨⟨i, mask, .mk dst (.e o) g, .ef v Ma F1 Mr c cr⟩, rfl, Tn_iff.2 ⟨⟨hw, rfl, o, rfl, ⟨hE, ?_, ?_, ?_⟩⟩, ?_⟩, ⟨?_, ?_, ?_⟩, ?_, ⟨?_, ?_, ?_, ?_⟩, ?_⟩
            · intro b blk hb
              rw [hm b, hnone b (.inl (by rw [hb]; exact (fun h => by cases h)))]
              rcases hP.get b with hg | hg
              · rw [hg.1] at hb; cases hb
              · show Mm.get b = some blk
                rw [← hg.1]; exact hb
            · intro b blk hb
              have hb' := hb
              rw [hP.ro] at hb'
              rcases roGet_append hb' with hn | hF
              · left
                refine ⟨?_, ?_⟩
                · rw [hm b, hnone b (.inr (by rw [hb]; exact (fun h => by cases h)))]
                  exact hP.was b blk hn
                · rcases hP.get b with hg | hg
                  · exact hg.1
                  · exact absurd ⟨blk, hn⟩ hg.2
              · exact .inr hF
            · intro b hb
              obtain ⟨blk, hblk⟩ := Option.isSome_iff_exists.1 hb
              refine hro b blk ?_
              rw [hP.ro]; exact List.mem_append_right _ (roGet_mem hblk)
            · show SS.mk _ _ _ = SS.mk _ _ _
              congr 1
              funext b
              show (pget (p.filter fun x => !testBit mask x.1) b).or ((unprotect news Mr).get b) = afterM Ma Mr (ssOf t M c p).m b
              unfold afterM
              rw [hm b]
              cases hpg : pget (p.filter fun x => !testBit mask x.1) b with
              | some blk =>
                obtain ⟨j, hj⟩ := pget_some hpg
                rw [if_pos ⟨(look_none (hpb j b blk hj)).1, by simp⟩]; rfl
              | none =>
                show (unprotect news Mr).get b = if Ma.get b = none ∧ Mm.get b ≠ none then Mm.get b else Mr.get b
                rcases hun b with hu | hu
                · rw [hu.2]
                  obtain ⟨blk, hn⟩ := hu.1
                  have h1 := hP.was b blk hn
                  rcases hP.get b with hg | hg
                  · rw [if_pos ⟨hg.1, by rw [h1]; exact (fun h => by cases h)⟩]
                  · exact absurd ⟨blk, hn⟩ hg.2
                · rw [hu.2, if_neg]
                  rintro ⟨g1, g2⟩
                  rcases hP.get b with hg | hg
                  · exact hu.1 hg.2
                  · rw [hg.1] at g1; exact g2 g1
            · intro j b blk hj; exact hI.nm j b blk ((hmem _).1 hj).1
            · exact hI.nd.sublist List.filter_sublist
            · intro j b blk hj
              obtain ⟨g1, g2⟩ := look_none (hpa j b blk hj)
              rw [hP.ro] at g2
              obtain ⟨g3, g4⟩ := roGet_append_none g2
              refine look_none_of ?_ g3
              rcases hun b with hu | hu
              · exact absurd hu.1 g4
              · rw [hu.2]; exact g1
            · intro q hq; exact .inr ⟨q, ((hmem _).1 hq).1, rfl⟩
            · intro x b hx ht v M1 F1' M' ct ct' e
              injection e with e1 e2 e3 e4 e5 e6
              subst e2
              exact hP.rd x b hx ht
            · intro x b hx v blk e; cases e
            · intro x b blk hx ht v M1 F1' M' ct ct' e
              injection e with e1 e2 e3 e4 e5 e6
              subst e2 e3
              exact look_none (hpb x b blk ((hmem _).2 ⟨hx, ht⟩))
            · intro x b blk hx ht v b' e; cases e
            · intro y hp hy
              obtain ⟨f1, f2, f3⟩ := pair_facts hp
              have f4 : testBit y.mask i = true ∧ Nat.lor mask y.mask = y.mask := by
                rcases f3 with f3 | f3
                · exact f3
                · have := (indep_facts f3.2).1
                  cases (show true = false from this)
              refine ⟨⟨hy.r1, hy.r2, ?_, ?_⟩, ⟨f1, f2, .inl f4.1⟩⟩
              · intro x b blk hx ht
                refine hy.p1 x b blk ((hmem _).2 ⟨hx, ?_⟩) ht
                cases htm : testBit mask x with
                | false => rfl
                | true => rw [testBit_lor f4.2 htm] at ht; cases ht
              · intro x b blk hx ht
                refine hy.p2 x b blk ((hmem _).2 ⟨hx, ?_⟩) ht
                cases htm : testBit mask x with
                | false => rfl
                | true => rw [testBit_lor f4.2 htm] at ht; cases ht
theorem dOps_chain : ∀ (C : List (Nat × Nat × CO)) (t : T) (M : Mem) (c : Nat) (p : List (Nat × Nat × Blk)) (reads : List (Nat × Nat)) (t' : T) (M' : Mem) (c' : Nat) (p' : List (Nat × Nat × Blk)) (reads' : List (Nat × Nat)),
    dOps k base C (.mk t M c p reads) = some (.mk t' M' c' p' reads') → pairsOk C = true → DInv base k.F M p → (∀ q ∈ p, ∀ h ∈ C, q.1 ≠ h.1) →
    ∃ L : List Lab, L.map Lab.trip = C ∧ Chain k base k.F L (ssOf t M c p) (ssOf t' M' c' p') ∧ L.Pairwise (PairR base) ∧ DInv base k.F M' p' ∧ ∀ y ∈ L, PastOk base p reads y
  | [], t, M, c, p, reads, t', M', c', p', reads', h, _, hI, _ => by
    have h' : some (DS.mk t M c p reads) = some (.mk t' M' c' p' reads') := h
    injection h' with h'; injection h' with e1 e2 e3 e4 e5
    subst e1 e2 e3 e4 e5
    exact ⟨[], rfl, rfl, .nil, hI, fun y hy => by cases hy⟩
  | (i, mask, co) :: C, t, M, c, p, reads, t', M', c', p', reads', h, hp, hI, hn => by
    rw [dOps] at h
    cases hs : dOp k base (i, mask, co) (.mk t M c p reads) with
    | none => rw [hs] at h; cases h
    | some s1 =>
      obtain ⟨t1, M1, c1, p1, reads1⟩ := s1
      rw [hs] at h
      simp only [pairsOk, Bool.and_eq_true] at hp
      obtain ⟨l, hl, hT, hI1, hsub, hpast, hrest⟩ := dOp_step hI (fun q hq => hn q hq _ (List.mem_cons_self ..)) hs
      have hpair := fun y hy => pairsOk1_mem hp.1 y hy
      obtain ⟨L, hL, hC, hPW, hI', hPO⟩ := dOps_chain C t1 M1 c1 p1 reads1 t' M' c' p' reads' h hp.2 hI1 (by
        intro q hq y hy
        rcases hsub q hq with e | ⟨q', hq', e⟩
        · rw [e]; exact (pair_facts (hpair y hy)).2.1
        · rw [← e]; exact hn q' hq' y (List.mem_cons_of_mem _ hy))
      have hyC : ∀ y ∈ L, y.trip ∈ C := fun y hy => by rw [← hL]; exact List.mem_map_of_mem hy
      refine ⟨l :: L, by rw [List.map_cons, hl, hL], ⟨_, hT, hC⟩, List.pairwise_cons.2 ⟨fun y hy => (hrest y (hpair _ (hyC y hy)) (hPO y hy)).2, hPW⟩, hI', ?_⟩
      intro y hy
      rcases List.mem_cons.1 hy with rfl | hy
      · exact hpast
      · exact (hrest y (hpair _ (hyC y hy)) (hPO y hy)).1
end
end Go.Proofs.YtmbfboidfbaeiaaGreatDoor.Ev
namespace Go.Proofs.YtmbfboidfbaeiaaGreatDoor.Ev
open Go
structure RelM (P : Program) (E : Env) (F : RO) (m : Nat → Option Blk) (c : Nat → Prop) (w : World) : Prop where
  has : ∀ b blk, (m b = some blk ∨ (m b = none ∧ roGet F b = some blk)) → c b ∧ bdBlk c blk ∧ ∃ o, w.heap[E.ρ b]? = some o ∧ BlkRel P E b blk o
  inj : ∀ b b', (m b ≠ none ∨ roGet F b ≠ none) → (m b' ≠ none ∨ roGet F b' ≠ none) → E.ρ b = E.ρ b' → b = b'
  apart : ∀ b, (roGet F b).isSome → m b = none
structure StpM (P : Program) (F : RO) (E : Env) (m : Nat → Option Blk) (c : Nat → Prop) (w : World) (E' : Env) (m' : Nat → Option Blk) (c' : Nat → Prop) (w' : World) : Prop where
  ext : Ext c E E'
  le : ∀ b, c b → c' b
  rel : RelM P E' F m' c' w'
  own : ∀ b, m' b ≠ none → (∃ b0, m b0 ≠ none ∧ E.ρ b0 = E'.ρ b) ∨ w.heap.size ≤ E'.ρ b
  frame : ∀ r, r < w.heap.size → (∀ b, m b ≠ none → E.ρ b ≠ r) → w'.heap[r]? = w.heap[r]?
  size : w.heap.size ≤ w'.heap.size
  os : w'.os = w.os
  output : w'.output = w.output
  tape : w'.tape = w.tape
section
variable {P : Program} {E E' E₁ E₂ : Env} {F F1 : RO} {M M' M1 : Mem} {m m' m₁ m₂ : Nat → Option Blk} {c c' c₁ c₂ : Nat → Prop} {w w' w₁ w₂ : World}
theorem StpM.trans (h : StpM P F E m c w E₁ m₁ c₁ w₁) (h' : StpM P F E₁ m₁ c₁ w₁ E₂ m₂ c₂ w₂) : StpM P F E m c w E₂ m₂ c₂ w₂ where
  ext := h.ext.trans h'.ext h.le
  le := fun b hb => h'.le b (h.le b hb)
  rel := h'.rel
  own := by
    intro b hb
    rcases h'.own b hb with ⟨b1, h1, e1⟩ | h1
    · rcases h.own b1 h1 with ⟨b0, h0, e0⟩ | h0
      · exact .inl ⟨b0, h0, e0.trans e1⟩
      · exact .inr (e1 ▸ h0)
    · exact .inr (Nat.le_trans h.size h1)
  frame := by
    intro r hr hn
    rw [h'.frame r (Nat.lt_of_lt_of_le hr h.size), h.frame r hr hn]
    intro b1 h1 e
    rcases h.own b1 h1 with ⟨b0, h0, e0⟩ | h0
    · exact hn b0 h0 (e0.trans e)
    · omega
  size := Nat.le_trans h.size h'.size
  os := h'.os.trans h.os
  output := h'.output.trans h.output
  tape := h'.tape.trans h.tape
theorem look_cases {b : Nat} {blk : Blk} (h : look F M b = some blk) : M.get b = some blk ∨ (M.get b = none ∧ roGet F b = some blk) := by
  cases hm : M.get b with
  | none => rw [look_none_M hm] at h; exact .inr ⟨rfl, h⟩
  | some x => rw [look_some_M hm] at h; exact .inl h
theorem look_of_cases {b : Nat} {blk : Blk} (h : M.get b = some blk ∨ (M.get b = none ∧ roGet F b = some blk)) : look F M b = some blk := by
  rcases h with h | h
  · exact look_some_M h
  · rw [look_none_M h.1]; exact h.2
theorem RelM.of (h : Rel P E F M c w) (hm : ∀ b, m b = M.get b) : RelM P E F m c w where
  has := fun b blk hb => h.has b blk (look_of_cases (by rw [← hm b]; exact hb))
  inj := fun b b' hb hb' => by
    have key : ∀ x, (m x ≠ none ∨ roGet F x ≠ none) → (look F M x).isSome := by
      intro x hx
      rw [hm x] at hx
      cases hM : M.get x with
      | some y => rw [look_some_M hM]; rfl
      | none =>
        rw [look_none_M hM]
        rcases hx with hx | hx
        · exact absurd hM hx
        · cases hr : roGet F x with
          | none => exact absurd hr hx
          | some _ => rfl
    exact h.inj b b' (key b hb) (key b' hb')
  apart := fun b hb => by rw [hm b]; exact h.apart b hb
theorem Rel.ofM (h : RelM P E F m c w) (hm : ∀ b, m b = M.get b) : Rel P E F M c w where
  has := fun b blk hb => h.has b blk (by rw [hm b]; exact look_cases hb)
  inj := fun b b' hb hb' => by
    have key : ∀ x, (look F M x).isSome → (m x ≠ none ∨ roGet F x ≠ none) := by
      intro x hx
      obtain ⟨y, hy⟩ := Option.isSome_iff_exists.1 hx
      rw [hm x]
      rcases look_cases hy with h1 | h1
      · exact .inl (by rw [h1]; exact (fun h => by cases h))
      · exact .inr (by rw [h1.2]; exact (fun h => by cases h))
    exact h.inj b b' (key b hb) (key b' hb')
  apart := fun b hb => by rw [← hm b]; exact h.apart b hb
theorem RelM.part (h : RelM P E F m c w) (sub : ∀ b blk, M1.get b = some blk → m b = some blk)
    (ro : ∀ b blk, roGet F1 b = some blk → (m b = some blk ∧ M1.get b = none) ∨ roGet F b = some blk) : Rel P E F1 M1 c w := by
  have key : ∀ b blk, look F1 M1 b = some blk → m b = some blk ∨ (m b = none ∧ roGet F b = some blk) := by
    intro b blk hb
    rcases look_cases hb with h1 | h1
    · exact .inl (sub b blk h1)
    · rcases ro b blk h1.2 with h2 | h2
      · exact .inl h2.1
      · exact .inr ⟨h.apart b (by rw [h2]; rfl), h2⟩
  have key2 : ∀ b, (look F1 M1 b).isSome → m b ≠ none ∨ roGet F b ≠ none := by
    intro b hb
    obtain ⟨y, hy⟩ := Option.isSome_iff_exists.1 hb
    rcases key b y hy with h1 | h1
    · exact .inl (by rw [h1]; exact (fun h => by cases h))
    · exact .inr (by rw [h1.2]; exact (fun h => by cases h))
  refine ⟨fun b blk hb => h.has b blk (key b blk hb), fun b b' hb hb' => h.inj b b' (key2 b hb) (key2 b' hb'), fun b hb => ?_⟩
  obtain ⟨y, hy⟩ := Option.isSome_iff_exists.1 hb
  rcases ro b y hy with h2 | h2
  · exact h2.2
  · cases hM : M1.get b with
    | none => rfl
    | some z =>
      have := h.apart b (by rw [h2]; rfl)
      rw [sub b z hM] at this; cases this
theorem RelM.step (h : RelM P E F m c w) (sub : ∀ b blk, M1.get b = some blk → m b = some blk)
    (new : ∀ b, (roGet F b).isSome → M'.get b = none) (hS : Stp P F1 E M1 c w E' M' c' w') : StpM P F E m c w E' (afterM M1 M' m) c' w' := by
  have kept : ∀ b blk, M1.get b = none → (m b = some blk ∨ (m b = none ∧ roGet F b = some blk)) → c b ∧ bdBlk c blk ∧ ∃ o, w'.heap[E.ρ b]? = some o ∧ BlkRel P E b blk o := by
    intro b blk hn hb
    obtain ⟨h1, h2, o, h3, h4⟩ := h.has b blk hb
    refine ⟨h1, h2, o, ?_, h4⟩
    rw [hS.frame (E.ρ b) (Array.getElem?_eq_some_iff.1 h3).1, h3]
    intro b1 hb1 e
    obtain ⟨y, hy⟩ := Option.isSome_iff_exists.1 hb1
    have hb' : m b ≠ none ∨ roGet F b ≠ none := by
      rcases hb with hb | hb
      · exact .inl (by rw [hb]; exact (fun h => by cases h))
      · exact .inr (by rw [hb.2]; exact (fun h => by cases h))
    have := h.inj b1 b (.inl (by rw [sub b1 y hy]; exact (fun h => by cases h))) hb' e
    rw [this, hn] at hy; cases hy
  have hlt : ∀ b, (m b ≠ none ∨ roGet F b ≠ none) → E.ρ b < w.heap.size ∧ c b := by
    intro b hb
    have : ∃ blk, m b = some blk ∨ (m b = none ∧ roGet F b = some blk) := by
      cases hm : m b with
      | some y => exact ⟨y, .inl rfl⟩
      | none =>
        rcases hb with hb | hb
        · exact absurd hm hb
        · cases hr : roGet F b with
          | none => exact absurd hr hb
          | some y => exact ⟨y, .inr ⟨rfl, rfl⟩⟩
    obtain ⟨blk, hblk⟩ := this
    obtain ⟨h1, _, o, h3, _⟩ := h.has b blk hblk
    exact ⟨(Array.getElem?_eq_some_iff.1 h3).1, h1⟩
  have split : ∀ b, (afterM M1 M' m b ≠ none ∨ roGet F b ≠ none) → (M1.get b = none ∧ (m b ≠ none ∨ roGet F b ≠ none)) ∨ M'.get b ≠ none := by
    intro b hb
    rcases hb with hb | hb
    · unfold afterM at hb
      split at hb
      · rename_i hc; exact .inl ⟨hc.1, .inl hc.2⟩
      · exact .inr hb
    · left
      refine ⟨?_, .inr hb⟩
      have := h.apart b (by cases hr : roGet F b with | none => exact absurd hr hb | some _ => rfl)
      cases hM : M1.get b with
      | none => rfl
      | some y => rw [sub b y hM] at this; cases this
  refine ⟨hS.ext, hS.le, ⟨?_, ?_, ?_⟩, ?_, ?_, hS.size, hS.os, hS.output, hS.tape⟩
  · intro b blk hb
    have fin : M1.get b = none → (m b = some blk ∨ (m b = none ∧ roGet F b = some blk)) → c' b ∧ bdBlk c' blk ∧ ∃ o, w'.heap[E'.ρ b]? = some o ∧ BlkRel P E' b blk o := by
      intro hn hk
      obtain ⟨h1, h2, o, h3, h4⟩ := kept b blk hn hk
      exact ⟨hS.le b h1, bdBlk_mono hS.le blk h2, o, by rw [hS.ext.ρ b h1]; exact h3, h4.ext hS.ext h1 h2⟩
    rcases hb with hb | hb
    · unfold afterM at hb
      split at hb
      · rename_i hc; exact fin hc.1 (.inl hb)
      · exact hS.rel.has b blk (look_some_M hb)
    · have hap := h.apart b (by rw [hb.2]; rfl)
      refine fin ?_ (.inr ⟨hap, hb.2⟩)
      cases hM : M1.get b with
      | none => rfl
      | some y => rw [sub b y hM] at hap; cases hap
  · intro b b' hb hb' e
    rcases split b hb with ⟨h1, h2⟩ | h1
    · obtain ⟨l1, l2⟩ := hlt b h2
      rcases split b' hb' with ⟨h1', h2'⟩ | h1'
      · obtain ⟨l1', l2'⟩ := hlt b' h2'
        rw [hS.ext.ρ b l2, hS.ext.ρ b' l2'] at e
        exact h.inj b b' h2 h2' e
      · exfalso
        rw [hS.ext.ρ b l2] at e
        rcases hS.own b' (by cases hM : M'.get b' with | none => exact absurd hM h1' | some _ => rfl) with ⟨b0, h0, e0⟩ | h0
        · obtain ⟨y, hy⟩ := Option.isSome_iff_exists.1 h0
          have := h.inj b0 b (.inl (by rw [sub b0 y hy]; exact (fun h => by cases h))) h2 (e0.trans e.symm)
          rw [this, h1] at hy; cases hy
        · omega
    · rcases split b' hb' with ⟨h1', h2'⟩ | h1'
      · exfalso
        obtain ⟨l1', l2'⟩ := hlt b' h2'
        rw [hS.ext.ρ b' l2'] at e
        rcases hS.own b (by cases hM : M'.get b with | none => exact absurd hM h1 | some _ => rfl) with ⟨b0, h0, e0⟩ | h0
        · obtain ⟨y, hy⟩ := Option.isSome_iff_exists.1 h0
          have := h.inj b0 b' (.inl (by rw [sub b0 y hy]; exact (fun h => by cases h))) h2' (e0.trans e)
          rw [this, h1'] at hy; cases hy
        · omega
      · have hs : ∀ x, M'.get x ≠ none → (look F1 M' x).isSome := by
          intro x hx
          cases hM : M'.get x with
          | none => exact absurd hM hx
          | some y => rw [look_some_M hM]; rfl
        exact hS.rel.inj b b' (hs b h1) (hs b' h1') e
  · intro b hb
    unfold afterM
    rw [if_neg (fun hc => hc.2 (h.apart b hb))]
    exact new b hb
  · intro b hb
    rcases split b (.inl hb) with ⟨h1, h2⟩ | h1
    · obtain ⟨l1, l2⟩ := hlt b h2
      left
      refine ⟨b, ?_, (hS.ext.ρ b l2).symm⟩
      unfold afterM at hb
      split at hb
      · exact hb
      · rcases h2 with h2 | h2
        · exact h2
        · exact absurd (new b (by cases hr : roGet F b with | none => exact absurd hr h2 | some _ => rfl)) hb
    · rcases hS.own b (by cases hM : M'.get b with | none => exact absurd hM h1 | some _ => rfl) with ⟨b0, h0, e0⟩ | h0
      · obtain ⟨y, hy⟩ := Option.isSome_iff_exists.1 h0
        exact .inl ⟨b0, by rw [sub b0 y hy]; exact (fun h => by cases h), e0⟩
      · exact .inr h0
  · intro r hr hn
    refine hS.frame r hr fun b hb => hn b ?_
    obtain ⟨y, hy⟩ := Option.isSome_iff_exists.1 hb
    rw [sub b y hy]; exact (fun h => by cases h)
theorem afterM_e (m : Nat → Option Blk) : afterM .e .e m = m := by
  funext b
  unfold afterM
  split
  · rfl
  · rename_i h
    cases hm : m b with
    | none => rfl
    | some y => exact absurd ⟨rfl, by rw [hm]; exact (fun h => by cases h)⟩ h
theorem afterM_set (m : Nat → Option Blk) (b : Nat) (blk : Blk) (h : m b = none) : afterM .e (Tr.set .e b blk) m = setF m b blk := by
  funext x
  unfold afterM setF
  by_cases e : x = b
  · rw [if_pos e, if_neg (fun hc => hc.2 (by rw [e]; exact h)), Tr.get_set, if_pos e]
  · rw [if_neg e]
    split
    · rfl
    · rename_i hc
      rw [Tr.get_set, if_neg e]
      cases hm : m x with
      | none => rfl
      | some y => exact absurd ⟨rfl, by rw [hm]; exact (fun h => by cases h)⟩ hc
end
end Go.Proofs.YtmbfboidfbaeiaaGreatDoor.Ev
namespace Go.Proofs.YtmbfboidfbaeiaaGreatDoor.Ev
open Go
structure SM (P : Program) (Bd : List Deferred) (F : RO) (rd : Option Nat) (nt base : Nat) (d : List Nat) (E : Env) (c : Nat → Prop) (w : World) (a : Act) (s : SS) (rem : Nat → Prop) : Prop where
  rel : RelM P E F s.m c w
  glob : ∀ g, g < 1000 → E.ρ g = g ∧ E.β g = 0
  big : ∀ g, g < 1000 → c g
  tr : TRel E s.t a.tmps
  bt : bdT c s.t
  fr : Fresh c s.ct
  le : base ≤ s.ct
  res : ∀ i, rem i → ¬ c (base + i) ∧ base + i < s.ct
  df : a.defers = (d.map fun b => { target := .collected (E.ρ b), args := #[] }) ++ Bd
  dc : ∀ b ∈ d, c b
  sz : nt ≤ a.tmps.size
  rd : ∀ l, rd = some l → c l
section
variable {P : Program} {Bd : List Deferred} {E E' : Env} {F : RO} {c c' : Nat → Prop} {nt base : Nat} {w w' : World} {a : Act} {rd : Option Nat} {d : List Nat} {s s' : SS} {rem rem' : Nat → Prop} {k : Kn}
theorem SM.next (h : SM P Bd F rd nt base d E c w a s rem) {m' : Nat → Option Blk} (hS : StpM P F E s.m c w E' m' c' w') {ct' : Nat} (hfr : Fresh c' ct') (hle : s.ct ≤ ct') (hres : ∀ i, rem' i → ¬ c' (base + i) ∧ base + i < ct')
    {dst : Option Nat} (hd : dstOk nt dst = true) {v : V} (hb : bd c' v) : SM P Bd F rd nt base d E' c' w' (a.put dst (conc E' v)) ⟨setT s.t (dst.map posOf) v, m', ct'⟩ rem' := by
  refine ⟨hS.rel, fun g hg => ?_, fun g hg => hS.le g (h.big g hg), TRel_put (h.tr.ext hS.ext h.bt) (fun j hj => ?_) rfl, bdT_put (fun p => bd_mono hS.le _ (h.bt p)) hb, hfr, Nat.le_trans h.le hle, hres, ?_, fun b hb => hS.le b (h.dc b hb), by rw [Act.put_size]; exact h.sz, fun l hl => hS.le l (h.rd l hl)⟩
  · rw [hS.ext.ρ g (h.big g hg), hS.ext.β g (h.big g hg)]; exact h.glob g hg
  · subst hj
    have : j < nt := by simpa [dstOk] using hd
    exact Nat.lt_of_lt_of_le this h.sz
  · rw [Act.put_defers, h.df]
    congr 1
    apply List.map_congr_left
    intro b hb
    rw [hS.ext.ρ b (h.dc b hb)]
theorem SM.cx (h : SM P Bd F rd nt base d E c w a s rem) {F1 : RO} {M1 : Mem} (hr : Rel P E F1 M1 c w) : Cx P E F1 M1 c w s.t a := ⟨hr, h.glob, h.big, h.tr, h.bt⟩
theorem tn_op (hcall : CallOk P k) (hy : YieldOk P k) (h : SM P Bd k.F rd nt base d E c w a s rem) {l : Lab} (hrem : rem l.i) (hT : Tn k base k.F l s s') {ops : Array Oper} {o : Oper} (ho : ops[l.i]? = some o) (hco : compO P nt ops o = some l.co)
    {K : Act → World → Prop} {Q : Exit → Act → World → Prop}
    (hK : ∀ E' c' a' w', StpM P k.F E s.m c w E' s'.m c' w' → (∀ b, c' b → c b ∨ (base ≤ b ∧ b < s'.ct)) → s.ct ≤ s'.ct → SM P Bd k.F rd nt base d E' c' w' a' s' (fun j => rem j ∧ j ≠ l.i) → K a' w') :
    wpOpIn (fence E rd) 0 P ops Q l.i K a w := by
  obtain ⟨hd, g, op, hcoe, hg, hop⟩ := compO_some hco
  have hgu := guard_ok h.tr hg
  unfold wpOpIn
  simp only [ho]
  rw [hgu]
  rw [Tn_iff] at hT
  obtain ⟨hcan, rfl⟩ := hT
  have hdst : l.co.dst = o.dst.map posOf := by rw [hcoe]; rfl
  have hguard : l.co.guard = g := by rw [hcoe]; rfl
  have hopc : l.co.op = op := by rw [hcoe]; rfl
  have hrelE : Rel P E [] .e c w := h.rel.part (fun b blk hb => by cases hb) (fun b blk hb => by cases hb)
  have quiet : ∀ (F1 : RO) (E' : Env) (c' : Nat → Prop) (w' : World) (v : V), Stp P F1 E .e c w E' .e c' w' → Grow c s.ct c' s.ct → bd c' v → l.val = v → l.mem base s.m = s.m → l.ctr s.ct = s.ct → K (a.put o.dst (conc E' v)) w' := by
    intro F1 E' c' w' v hS hG hb hv hm hc
    have hS' := h.rel.step (F1 := F1) (M1 := .e) (M' := .e) (fun b blk hb => by cases hb) (fun _ _ => rfl) hS
    rw [afterM_e] at hS'
    have hcc : ∀ b, c' b → c b := fun b hb => by
      rcases hG.new b hb with h1 | h1
      · exact h1
      · omega
    refine hK E' c' _ w' (by rw [hm]; exact hS') (fun b hb => .inl (hcc b hb)) (by rw [hc]; exact Nat.le_refl _) ?_
    rw [hdst, hv, hm, hc]
    exact h.next hS' (h.fr.grow hG) (Nat.le_refl _) (fun i hi => ⟨fun hx => (h.res i hi.1).1 (hcc _ hx), (h.res i hi.1).2⟩) hd hb
  unfold Can at hcan
  cases hk : l.k with
  | skip =>
    rw [hk] at hcan
    rw [hguard] at hcan
    rw [if_neg (by rw [hcan]; exact (fun h => by cases h))]
    refine ⟨fun _ _ => trivial, ?_⟩
    exact quiet [] E c w undef (.refl hrelE) (.refl _ _) trivial (by unfold Lab.val; rw [hk]) (by unfold Lab.mem; rw [hk]) (by unfold Lab.ctr; rw [hk])
  | qv v =>
    rw [hk] at hcan
    rw [hguard, hopc] at hcan
    obtain ⟨h1, q, rfl, h3⟩ := hcan
    rw [if_pos h1]
    rcases hop with hop | hop
    · refine q_op (rd := rd) (ct := s.ct) (h.cx hrelE) hop h3 K Q fun E' c' w' hS hG hb => ?_
      exact quiet [] E' c' w' v hS hG hb (by unfold Lab.val; rw [hk]) (by unfold Lab.mem; rw [hk]) (by unfold Lab.ctr; rw [hk])
    · injection hop with hop; subst hop; cases h3
  | qr v b =>
    rw [hk] at hcan
    rw [hguard, hopc] at hcan
    obtain ⟨h1, q, blk, rfl, h3, h4⟩ := hcan
    rw [if_pos h1]
    have hrelb : Rel P E [(b, blk)] .e c w := by
      refine h.rel.part (fun b blk hb => by cases hb) (fun b' blk' hb => ?_)
      rw [roGet_cons] at hb
      split at hb
      · rename_i e
        have e' : b = b' := e
        obtain rfl := Option.some.inj hb
        subst e'
        rcases h3 with h3 | h3
        · exact .inl ⟨h3, rfl⟩
        · exact .inr h3.2
      · cases hb
    rcases hop with hop | hop
    · refine q_op (rd := rd) (ct := s.ct) (h.cx hrelb) hop h4 K Q fun E' c' w' hS hG hb => ?_
      exact quiet _ E' c' w' v hS hG hb (by unfold Lab.val; rw [hk]) (by unfold Lab.mem; rw [hk]) (by unfold Lab.ctr; rw [hk])
    · injection hop with hop; subst hop; cases h4
  | al v blk =>
    rw [hk] at hcan
    rw [hguard, hopc] at hcan
    obtain ⟨h1, ao, rfl, h3⟩ := hcan
    rw [if_pos h1]
    rcases hop with hop | hop
    · have hfree := h.res l.i hrem
      obtain ⟨E', w', hr, hS, _, hb⟩ := a_all (h.cx hrelE) hop hfree.1 (c' := fun b => c b ∨ b = base + l.i) (.inr rfl) (fun _ h => .inl h) h3
      have hmn : s.m (base + l.i) = none := by
        cases hm : s.m (base + l.i) with
        | none => rfl
        | some y => exact absurd (h.rel.has _ y (.inl hm)).1 hfree.1
      have hnF : roGet k.F (base + l.i) = none := by
        cases hm : roGet k.F (base + l.i) with
        | none => rfl
        | some y => exact absurd (h.rel.has _ y (.inr ⟨hmn, hm⟩)).1 hfree.1
      have hS' := h.rel.step (F1 := []) (M1 := .e) (M' := Tr.set .e (base + l.i) blk) (fun b blk hb => by cases hb) (fun b hb => by
        rw [Tr.get_set]
        by_cases e : b = base + l.i
        · rw [e, hnF] at hb; cases hb
        · rw [if_neg e]; rfl) hS
      rw [afterM_set s.m _ blk hmn] at hS'
      have hm : l.mem base s.m = setF s.m (base + l.i) blk := by unfold Lab.mem; rw [hk]
      have hc : l.ctr s.ct = s.ct := by unfold Lab.ctr; rw [hk]
      have hv : l.val = v := by unfold Lab.val; rw [hk]
      refine ⟨fun _ _ => trivial, ?_⟩
      rw [Oper.semAt_eq _ _ _ (compOp_noDefer hop), hr]
      refine hK E' _ _ w' (by rw [hm]; exact hS') (fun b hb => ?_) (by rw [hc]; exact Nat.le_refl _) ?_
      · rcases hb with hb | hb
        · exact .inl hb
        · exact .inr (by rw [hb]; exact ⟨by omega, by rw [hc]; exact hfree.2⟩)
      · rw [hdst, hv, hm, hc]
        refine h.next hS' (fun b hb hc => ?_) (Nat.le_refl _) (fun i hi => ⟨fun hx => ?_, (h.res i hi.1).2⟩) hd hb
        · rcases hc with hc | hc
          · exact h.fr b hb hc
          · have := hfree.2; omega
        · rcases hx with hx | hx
          · exact (h.res i hi.1).1 hx
          · exact hi.2 (by omega)
    · cases hop
  | ef v M1 F1 M' ct ct' =>
    rw [hk] at hcan
    rw [hguard, hopc] at hcan
    obtain ⟨h1, h0, eo, rfl, hef⟩ := hcan
    rw [if_pos h1]
    rcases hop with hop | hop
    · have hrel1 : Rel P E F1 M1 c w := h.rel.part hef.sub hef.ro
      have hfr : Fresh c ct := by rw [← h0]; exact h.fr
      refine e_op (rd := rd) hcall hy (h.cx hrel1) hfr hop hef.run K Q fun E' c' w' hS hG hb => ?_
      have hS' := h.rel.step hef.sub hef.new hS
      have hm : l.mem base s.m = afterM M1 M' s.m := by unfold Lab.mem; rw [hk]
      have hc : l.ctr s.ct = ct' := by unfold Lab.ctr; rw [hk]
      have hv : l.val = v := by unfold Lab.val; rw [hk]
      have hle := h.le
      have hGle := hG.le
      refine hK E' c' _ w' (by rw [hm]; exact hS') (fun b hb => ?_) (by rw [hc, h0]; exact hGle) ?_
      · rcases hG.new b hb with h2 | h2
        · exact .inl h2
        · exact .inr (by rw [hc]; exact ⟨by omega, h2.2⟩)
      · rw [hdst, hv, hm, hc]
        refine h.next hS' (hfr.grow hG) (by rw [h0]; exact hGle) (fun i hi => ?_) hd hb
        have := h.res i hi.1
        refine ⟨fun hx => ?_, by omega⟩
        rcases hG.new _ hx with h2 | h2
        · exact this.1 h2
        · omega
    · cases hop
theorem mask1_iff (ms : List Nat) : ∀ (es : List Edge) (x : Nat), testBit (mask1 ms es) x = true ↔ ∃ e ∈ es, Region.binds .any e = true ∧ (e.on = x ∨ testBit ((ms[e.on]?).getD 0) x = true) := by
  have key : ∀ m i, testBit m i = Nat.testBit m i := by
    intro m i
    show Nat.beq (m / 2 ^ i % 2) 1 = Nat.testBit m i
    rw [beqN, Nat.testBit_eq_decide_div_mod_eq]
  intro es
  induction es with
  | nil => intro x; rw [key]; simp [mask1]
  | cons e r ih =>
    intro x
    rw [mask1]
    cases hb : Region.binds .any e with
    | true =>
      rw [cond_true, key]
      show Nat.testBit ((2 ^ e.on ||| (ms[e.on]?).getD 0) ||| mask1 ms r) x = true ↔ _
      rw [Nat.testBit_or, Nat.testBit_or, Bool.or_eq_true, Bool.or_eq_true, ← key (mask1 ms r), ih, Nat.testBit_two_pow, ← key]
      constructor
      · rintro ((h | h) | ⟨e', h1, h2⟩)
        · exact ⟨e, by simp, hb, .inl (by simpa using h)⟩
        · exact ⟨e, by simp, hb, .inr h⟩
        · exact ⟨e', List.mem_cons_of_mem _ h1, h2⟩
      · rintro ⟨e', h1, h2, h3⟩
        rcases List.mem_cons.1 h1 with rfl | h1
        · rcases h3 with h3 | h3
          · exact .inl (.inl (by simpa using h3))
          · exact .inl (.inr h3)
        · exact .inr ⟨e', h1, h2, h3⟩
    | false =>
      rw [cond_false, ih]
      constructor
      · rintro ⟨e', h1, h2⟩; exact ⟨e', List.mem_cons_of_mem _ h1, h2⟩
      · rintro ⟨e', h1, h2, h3⟩
        rcases List.mem_cons.1 h1 with rfl | h1
        · rw [hb] at h2; cases h2
        · exact ⟨e', h1, h2, h3⟩
theorem testBit_lt {m n x : Nat} (h : m < 2 ^ n) (hx : testBit m x = true) : x < n := by
  have key : testBit m x = Nat.testBit m x := by
    show Nat.beq (m / 2 ^ x % 2) 1 = Nat.testBit m x
    rw [beqN, Nat.testBit_eq_decide_div_mod_eq]
  rw [key] at hx
  rcases Nat.lt_or_ge x n with h1 | h1
  · exact h1
  · have : m < 2 ^ x := Nat.lt_of_lt_of_le h (Nat.pow_le_pow_right (by omega) h1)
    rw [Nat.testBit_lt_two_pow this] at hx; cases hx
structure LabOk (P : Program) (nt : Nat) (ops : Array Oper) (ms : List Nat) (l : Lab) (o : Oper) : Prop where
  op : ops[l.i]? = some o
  co : compO P nt ops o = some l.co
  mask : l.mask = mask1 ms o.after.toList
  self : testBit l.mask l.i = false
  lt : l.mask < 2 ^ ops.size
theorem any_ok (hcall : CallOk P k) (hy : YieldOk P k) {ops : Array Oper} {ms : List Nat} (hms : ∀ (j : Nat) (o : Oper), ops[j]? = some o → ms[j]? = some (mask1 ms o.after.toList)) {Q : Exit → Act → World → Prop} {s' : SS} :
    ∀ (fuel : Nat) (L : List Lab) (listed : Array Bool) (E : Env) (c : Nat → Prop) (w : World) (a : Act) (s : SS), L.length ≤ fuel → Chain k base k.F L s s' → L.Pairwise (PairR base) →
    SM P Bd k.F rd nt base d E c w a s (fun j => ∃ l ∈ L, l.i = j) → listed.size = ops.size → (∀ j, j < ops.size → (listed.getD j true = false ↔ ∃ l ∈ L, l.i = j)) →
    (∀ (j : Nat) (o : Oper), ops[j]? = some o → listed.getD j false = true → ∀ x, testBit (mask1 ms o.after.toList) x = true → listed.getD x false = true) →
    (∀ l ∈ L, ∃ o, LabOk P nt ops ms l o) →
    (∀ E' c' a' w', StpM P k.F E s.m c w E' s'.m c' w' → (∀ b, c' b → c b ∨ (base ≤ b ∧ b < s'.ct)) → s.ct ≤ s'.ct → SM P Bd k.F rd nt base d E' c' w' a' s' (fun _ => False) → Q .normal a' w') →
    StpM P k.F E s.m c w E s.m c w → wpAnyIn (fence E rd) 0 P .any ops Q fuel listed a w := by
  intro fuel
  induction fuel with
  | zero =>
    intro L listed E c w a s hlen hC hPW hSM hsz hun hdown hlab hQ hrefl
    have hL : L = [] := by cases L <;> simp_all
    subst hL
    have hs : s = s' := hC
    subst hs
    refine ⟨?_, ?_⟩
    · rw [List.eq_nil_iff_forall_not_mem]
      intro j hj
      obtain ⟨h0, o, ho, _⟩ := mem_ready.1 hj
      have hjlt : j < ops.size := (Array.getElem?_eq_some_iff.1 ho).1
      obtain ⟨l, hl, _⟩ := (hun j hjlt).1 h0
      cases hl
    · refine hQ E c a w hrefl (fun b hb => .inl hb) (Nat.le_refl _) ?_
      exact { hSM with res := fun i hi => hi.elim }
  | succ fuel ih =>
    intro L listed E c w a s hlen hC hPW hSM hsz hun hdown hlab hQ hrefl
    refine ⟨?_, ?_⟩
    · intro hr
      cases L with
      | nil =>
        have hs : s = s' := hC
        subst hs
        refine hQ E c a w hrefl (fun b hb => .inl hb) (Nat.le_refl _) ?_
        exact { hSM with res := fun i hi => hi.elim }
      | cons h r =>
        exfalso
        obtain ⟨o, hlo⟩ := hlab h (List.mem_cons_self ..)
        have hlt : h.i < ops.size := (Array.getElem?_eq_some_iff.1 hlo.op).1
        have : h.i ∈ Region.ready .any ops listed := by
          refine mem_ready.2 ⟨(hun h.i hlt).2 ⟨h, List.mem_cons_self .., rfl⟩, o, hlo.op, fun e he hb => ?_⟩
          have htb : testBit h.mask e.on = true := by
            rw [hlo.mask]
            exact (mask1_iff ms _ _).2 ⟨e, by simpa using he, hb, .inl rfl⟩
          have helt := testBit_lt hlo.lt htb
          cases hg : listed.getD e.on false with
          | true => rfl
          | false =>
            exfalso
            have hg' : listed.getD e.on true = false := by
              have h1 : e.on < listed.size := by omega
              simp [Array.getD, h1] at hg ⊢; exact hg
            obtain ⟨l, hl, hli⟩ := (hun e.on helt).1 hg'
            rcases List.mem_cons.1 hl with rfl | hl
            · rw [← hli, hlo.self] at htb; cases htb
            · have := ((List.pairwise_cons.1 hPW).1 l hl).1
              rw [hli, htb] at this; cases this
        rw [hr] at this; cases this
    · intro i hi
      obtain ⟨h0, oi, hoi, hall⟩ := mem_ready.1 hi
      have hilt : i < ops.size := (Array.getElem?_eq_some_iff.1 hoi).1
      obtain ⟨y, hyL, rfl⟩ := (hun i hilt).1 h0
      obtain ⟨L1, L2, rfl⟩ := List.append_of_mem hyL
      obtain ⟨o, hlo⟩ := hlab y hyL
      have hoo : o = oi := by have := hlo.op; rw [hoi] at this; exact (Option.some.inj this).symm
      subst hoo
      have hmy : ∀ x, testBit y.mask x = true → listed.getD x false = true := by
        intro x hx
        rw [hlo.mask] at hx
        obtain ⟨e, he, hb, hx⟩ := (mask1_iff ms _ _).1 hx
        have hle := hall e (by simpa using he) hb
        rcases hx with hx | hx
        · rw [← hx]; exact hle
        · have helt : e.on < ops.size := by
            rcases Nat.lt_or_ge e.on listed.size with h1 | h1
            · omega
            · have h2 : ¬ e.on < listed.size := by omega
              simp [Array.getD, h2] at hle
          have hoe : ops[e.on]? = some ops[e.on] := Array.getElem?_eq_some_iff.2 ⟨helt, rfl⟩
          rw [hms e.on _ hoe] at hx
          exact hdown e.on _ hoe hle x hx
      have hpw1 : ∀ x ∈ L1, PairR base x y := by
        intro x hx
        exact (List.pairwise_append.1 hPW).2.2 x hx y (List.mem_cons_self ..)
      have hunl : ∀ x ∈ L1 ++ y :: L2, listed.getD x.i true = false := by
        intro x hx
        obtain ⟨ox, hox⟩ := hlab x hx
        exact (hun x.i (Array.getElem?_eq_some_iff.1 hox.op).1).2 ⟨x, hx, rfl⟩
      have hap : ∀ x ∈ L1, Apart base x y := by
        intro x hx
        rcases (hpw1 x hx).2.2 with hb | hb
        · exfalso
          have h1 := hmy _ hb
          have h2 := hunl x (List.mem_append_left _ hx)
          rcases Nat.lt_or_ge x.i listed.size with h3 | h3
          · simp [Array.getD, h3] at h1 h2; rw [h1] at h2; cases h2
          · have h4 : ¬ x.i < listed.size := by omega
            simp [Array.getD, h4] at h1
        · exact hb
      obtain ⟨s1, hT, hC'⟩ := Chain.move L1 s hap hC
      refine tn_op hcall hy hSM ⟨y, hyL, rfl⟩ hT hlo.op hlo.co fun E' c' a' w' hS hnew hct hSM' => ?_
      have hPW' : (L1 ++ L2).Pairwise (PairR base) := hPW.sublist (List.Sublist.append_left (List.sublist_cons_self ..) _)
      have hmem : ∀ x, x ∈ L1 ++ L2 → x ∈ L1 ++ y :: L2 := by
        intro x hx
        rcases List.mem_append.1 hx with hx | hx
        · exact List.mem_append_left _ hx
        · exact List.mem_append_right _ (List.mem_cons_of_mem _ hx)
      have hne : ∀ x, x ∈ L1 ++ L2 → x.i ≠ y.i := by
        intro x hx
        rcases List.mem_append.1 hx with hx | hx
        · exact (hpw1 x hx).2.1
        · have := (List.pairwise_cons.1 (List.pairwise_append.1 hPW).2.1).1 x hx
          exact fun e => this.2.1 e.symm
      have hback : ∀ x, x ∈ L1 ++ y :: L2 → x.i ≠ y.i → x ∈ L1 ++ L2 := by
        intro x hx hxi
        rcases List.mem_append.1 hx with hx | hx
        · exact List.mem_append_left _ hx
        · rcases List.mem_cons.1 hx with rfl | hx
          · exact absurd rfl hxi
          · exact List.mem_append_right _ hx
      have hfe : fence E rd = fence E' rd := (fence_ext hS.ext hSM.rd).symm
      rw [hfe]
      refine ih (L1 ++ L2) (listed.setIfInBounds y.i true) E' c' w' a' s1 ?_ hC' hPW' ?_ (by simpa using hsz) ?_ ?_ (fun l hl => hlab l (hmem l hl)) ?_ ?_
      · simp only [List.length_append, List.length_cons] at hlen ⊢; omega
      · refine { hSM' with res := fun j hj => ?_ }
        obtain ⟨x, hx, hxj⟩ := hj
        exact hSM'.res j ⟨⟨x, hmem x hx, hxj⟩, by rw [← hxj]; exact hne x hx⟩
      · intro j hj
        by_cases e : j = y.i
        · subst e
          constructor
          · intro h; simp [Array.getD, hsz, hilt] at h
          · rintro ⟨x, hx, hxj⟩; exact absurd hxj (hne x hx)
        · rw [getD_set_ne true (Ne.symm e), hun j hj]
          constructor
          · rintro ⟨x, hx, hxj⟩; exact ⟨x, hback x hx (by rw [hxj]; exact e), hxj⟩
          · rintro ⟨x, hx, hxj⟩; exact ⟨x, hmem x hx, hxj⟩
      · intro j oj hoj hl x hx
        by_cases e : j = y.i
        · subst e
          have : oj = o := by rw [hlo.op] at hoj; exact (Option.some.inj hoj).symm
          subst this
          rw [← hlo.mask] at hx
          exact getD_set_true (hmy x hx)
        · rw [getD_set_ne false (Ne.symm e)] at hl
          exact getD_set_true (hdown j oj hoj hl x hx)
      · intro E2 c2 a2 w2 hS2 hnew2 hct2 hSM2
        refine hQ E2 c2 a2 w2 (hS.trans hS2) (fun b hb => ?_) (Nat.le_trans hct hct2) hSM2
        rcases hnew2 b hb with h1 | h1
        · rcases hnew b h1 with h2 | h2
          · exact .inl h2
          · exact .inr ⟨h2.1, by omega⟩
        · exact .inr h1
      · exact ⟨.refl _ _, fun _ h => h, hS.rel, fun b hb => .inl ⟨b, hb, rfl⟩, fun _ _ _ => rfl, Nat.le_refl _, rfl, rfl, rfl⟩
end
end Go.Proofs.YtmbfboidfbaeiaaGreatDoor.Ev
