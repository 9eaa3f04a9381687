/- What is proved here: pieces of the evaluator's soundness: if the evaluator comes to a value, the model's run comes to it, for every world and tape; no conditions beyond the hypotheses of each theorem. -/
import Derived.Test.YtmbpllipombieaaDoorEv4
import Derived.Stop.LaidErr
set_option linter.unusedSimpArgs false
set_option linter.unusedVariables false
set_option linter.defProp false
set_option maxRecDepth 10000
set_option maxHeartbeats 16000000
namespace Go.Proofs.YtmbpllipombieaaDoor.Ev
open Go Go.RowKit Go.ChangeShapes
noncomputable section
section
variable {Φ : Nat → Option CF} {rd : Option Nat} {fn : Nat} {F : RO}
def QV (r : QR) : Prop := r = .f ∨ ∃ y, r = .v y
def PutDA (o : Option (V × Blk)) (base i : Nat) (p : Pos) (r : List (Nat × Nat × CO)) (k : Kn) (t : T) (M : Mem) (c : Nat) (pend : List (Nat × Nat × Blk)) (reads : List (Nat × Nat)) (R : DS → Prop) : Prop := match o with
 | some x => WpD base r k (.mk (t.setP p x.1) M c ((i, base + i, x.2) :: pend) reads) R
 | none => False
theorem putDA (v : V) (b : Blk) (base i : Nat) (p : Pos) (r : List (Nat × Nat × CO)) (k : Kn) (t : T) (M : Mem) (c : Nat) (pend : List (Nat × Nat × Blk)) (reads : List (Nat × Nat)) (R : DS → Prop) :
  PutDA (some (v, b)) base i p r k t M c pend reads R = WpD base r k (.mk (t.setP p v) M c ((i, base + i, b) :: pend) reads) R := Eq.trans rfl (Eq.refl _)
theorem wd_a (base i mask : Nat) (p : Pos) (o : AO) (r : List (Nat × Nat × CO)) (t : T) (M : Mem) (c : Nat) (pend : List (Nat × Nat × Blk)) (reads : List (Nat × Nat)) (R : DS → Prop) (hl : (look F M (base + i)).isNone = true) (hr : readFree (base + i) reads = true) :
  WpD base ((i, mask, .mk (some p) (.a o) none) :: r) (K Φ rd fn F) (.mk t M c pend reads) R = PutDA (aop o (base + i) t) base i p r (K Φ rd fn F) t M c pend reads R := by
 have he : dOp (K Φ rd fn F) base (i, mask, .mk (some p) (.a o) none) (.mk t M c pend reads) = d_a1 i (base + i) (some p) t M c pend reads (aop o (base + i) t) := by
  show (fN (Nat.add base i) fun b => bif (look F M b).isNone && readFree b reads then d_a1 i b (some p) t M c pend reads (aop o b t) else none) = _
  rw [fN_eq]
  show (bif (look F M (base + i)).isNone && readFree (base + i) reads then d_a1 i (base + i) (some p) t M c pend reads (aop o (base + i) t) else none) = _
  rw [hl, hr]; rfl
 apply propext
 rw [wd_cons, he]
 cases aop o (base + i) t with
 | none => exact ⟨fun ⟨s', h, _⟩ => (by cases h), False.elim⟩
 | some x =>
   have h2 : d_a1 i (base + i) (some p) t M c pend reads (some x) = some (.mk (t.setP p x.1) M c ((i, base + i, x.2) :: pend) reads) := by
    show ((setT t (some p) x.1).force fun t => some (DS.mk t M c ((i, base + i, x.2) :: pend) reads)) = _
    rw [Tr.force_eq]; rfl
   rw [h2]
   constructor
   · rintro ⟨s', h, q⟩; obtain rfl := Option.some.inj h; exact q
   · exact fun q => ⟨_, rfl, q⟩
theorem readFree_nil (b : Nat) : readFree b [] = true := Eq.trans rfl (Eq.refl _)
theorem readFree_cons (b i b' : Nat) (r : List (Nat × Nat)) (h : b' ≠ b) : readFree b ((i, b') :: r) = readFree b r := by
 show (bif Nat.beq b' b then false else readFree b r) = _
 rw [beqN, decide_eq_false h]; rfl
def rowP (ty n : Nat) (row : List V) : Blk := .cells ty n false 0 false [] (rowT row)
def BufAt (M : Mem) (c0 c b : Nat) (v : V) (l : List UInt8) : Prop :=
 (l = [] ∧ v = .l0) ∨ (c0 ≤ b ∧ b < c ∧ ∃ n, (l.length ≤ n ∧ 0 < n) ∧ v = .u b 0 l.length 0 n ∧ M.get b = some (rowP 5 n (l.map bV)))
theorem BufAt.up {M M' : Mem} {c0 c c' b : Nat} {v : V} {l : List UInt8} (h : BufAt M c0 c b v l) (hc : c ≤ c') (hb : b < c → M'.get b = M.get b) : BufAt M' c0 c' b v l := by
 rcases h with h | ⟨h1, h2, n, h3, h4, h5⟩
 · exact .inl h
 · exact .inr ⟨h1, by omega, n, h3, h4, by rw [hb h2]; exact h5⟩
end
theorem wd_em {Φ : Nat → Option CF} {rd : Option Nat} {fn : Nat} {F : RO} (base i mask j b : Nat) (blk : Blk) (dst : Option Pos) (o : EO) (r : List (Nat × Nat × CO)) (t : T) (M : Mem) (c : Nat) (reads : List (Nat × Nat)) (R : DS → Prop) (hj : (mask / 2 ^ j % 2 == 1) = true) (hb : befB mask reads = true) :
  WpD base ((i, mask, .mk dst (.e o) none) :: r) (K Φ rd fn F) (.mk t M c [(j, b, blk)] reads) R = PutDE (doE o (K Φ rd fn F) (M.set b blk) c t) F dst base r (K Φ rd fn F) t reads R := by
 have hp := befB_protect hb
 have hj' : testBit mask j = true := by
  show Nat.beq (Nat.mod (Nat.div mask (Nat.pow 2 j)) 2) 1 = true
  rw [beqN]; exact decide_eq_true (show mask / 2 ^ j % 2 = 1 by simpa using hj)
 have hmg : merge mask [(j, b, blk)] M = (M.set b blk, []) := by
  show (bif testBit mask j then (M.set b blk).force (fun M => merge mask [] M) else _) = _
  rw [hj', cond_true, Tr.force_eq]; rfl
 have he : dOp (K Φ rd fn F) base (i, mask, .mk dst (.e o) none) (.mk t M c [(j, b, blk)] reads) = d_e2 F dst t [] reads [] (doE o (K Φ rd fn F) (M.set b blk) c t) := by
  show d_e0 o (K Φ rd fn F) mask dst t c reads (merge mask [(j, b, blk)] M) = _
  rw [hmg]
  show d_e1 o (K Φ rd fn F) dst t c [] reads (protect mask reads F (M.set b blk) []) = _
  rw [hp]; rfl
 apply propext
 rw [wd_cons, he]
 cases hd : doE o (K Φ rd fn F) (M.set b blk) c t with
 | f => exact ⟨fun ⟨s', h, _⟩ => (by cases h), False.elim⟩
 | k v M' c' =>
   have h2 : d_e2 F dst t [] reads [] (.k v M' c') = if roFree M' F = true then some (DS.mk (setT t dst v) M' c' [] reads) else none := by
    show (bif roFree M' F && pendFree F M' [] then (unprotect [] M').force fun M => (setT t dst v).force fun t => some (DS.mk t M c' [] reads) else none) = _
    cases hr : roFree M' F with
    | false => rfl
    | true =>
      show ((unprotect [] M').force fun M => (setT t dst v).force fun t => some (DS.mk t M c' [] reads)) = _
      rw [Tr.force_eq, Tr.force_eq]; rfl
   rw [h2]
   show _ ↔ (roFree M' F = true ∧ WpD base r (K Φ rd fn F) (.mk (setT t dst v) M' c' [] reads) R)
   cases hr : roFree M' F with
   | false => exact ⟨fun ⟨s', h, _⟩ => (by simp at h), fun h => (by cases h.1)⟩
   | true =>
     constructor
     · rintro ⟨s', h, q⟩
       simp only [if_true] at h
       obtain rfl := Option.some.inj h; exact ⟨rfl, q⟩
     · exact fun h => ⟨_, rfl, h.2⟩
section
variable {Φ : Nat → Option CF} {rd : Option Nat} {fn : Nat} {F : RO}
def scopeQ (I : Nat → Nat → St → Prop) (n : Nat) (Q : Ex → St → Prop) : Ex → St → Prop
 | .gto l, s => ∃ m, m < n ∧ I m l s
 | e, s => Q e s
theorem scopeQ_gto (I : Nat → Nat → St → Prop) (n : Nat) (Q : Ex → St → Prop) (l : Nat) (s : St) : scopeQ I n Q (.gto l) s = ∃ m, m < n ∧ I m l s := Eq.trans rfl (Eq.refl _)
theorem scopeQ_ret (I : Nat → Nat → St → Prop) (n : Nat) (Q : Ex → St → Prop) (s : St) : scopeQ I n Q .ret s = Q .ret s := Eq.trans rfl (Eq.refl _)
theorem seqQ_gto (b : CC) (k : Kn) (Q : Ex → St → Prop) (l : Nat) (s : St) : seqQ b k Q (.gto l) s = Q (.gto l) s := Eq.trans rfl (Eq.refl _)
theorem blockQ_gto (id : Nat) (Q : Ex → St → Prop) (l : Nat) (s : St) : blockQ id Q (.gto l) s = Q (.gto l) s := Eq.trans rfl (Eq.refl _)
theorem wp_goto (l : Nat) (k : Kn) (s : St) (Q : Ex → St → Prop) : Wp (.goto l) k s Q = Q (.gto l) s := by
 apply propext; constructor
 · rintro ⟨e, s', h, q⟩
   have h' : Rs.k (.gto l) s = .k e s' := h
   injection h' with h1 h2
   subst h1 h2
   exact q
 · exact fun h => ⟨_, _, rfl, h⟩
theorem wp_scopes {tbl : CC} {Q : Ex → St → Prop} (I : Nat → Nat → St → Prop) (h : ∀ n l s, I n l s → ∃ c, findL l tbl = some c ∧ Wp c (K Φ rd fn F) s (scopeQ I n Q)) :
  ∀ n b s, Wp b (K Φ rd fn F) s (scopeQ I n Q) → Wp (.scope b tbl) (K Φ rd fn F) s Q := by
 intro n
 induction n using Nat.strongRecOn with
 | _ n ih =>
   rintro b s ⟨e, s', he, q⟩
   have h0 : execC (.scope b tbl) (K Φ rd fn F) s = r_scope tbl (K Φ rd fn F) (execC b (K Φ rd fn F) s) := rfl
   cases e with
   | gto l =>
     obtain ⟨m, hm, hI⟩ := q
     obtain ⟨c, hc, hw⟩ := h m l s' hI
     obtain ⟨e2, s2, h2, q2⟩ := ih m hm c s' hw
     refine ⟨e2, s2, ?_, q2⟩
     rw [h0, he]
     show s_jump tbl (K Φ rd fn F) s' (findL l tbl) = _
     rw [hc]
     show again (K Φ rd fn F) (.scope c tbl) s' = _
     rw [← h2]
     exact den_eq Φ rd fn F (.scope c tbl) s'
   | nrm => exact ⟨_, _, by rw [h0, he]; rfl, q⟩
   | ret => exact ⟨_, _, by rw [h0, he]; rfl, q⟩
   | ext id => exact ⟨_, _, by rw [h0, he]; rfl, q⟩
end
theorem i64_of {F : RO} {M : Mem} {c : Nat} {vs : List V} {x : (Ty.int .i64).D} (h : Rp F M c (.int .i64) vs x) : ∃ z : Int, vs = [.i .i64 z] ∧ -9223372036854775808 ≤ z ∧ z ≤ 9223372036854775807 := by
 have key : ∀ z : Int, vs = [.i .i64 z] ∧ IntKind.i64.min ≤ z ∧ z ≤ IntKind.i64.max → ∃ z : Int, vs = [.i .i64 z] ∧ -9223372036854775808 ≤ z ∧ z ≤ 9223372036854775807 := fun z h => ⟨z, h⟩
 exact key x h
theorem setParams_two (p q : Pos) (x y : V) (t : T) : setParams [p, q] [x, y] t = some ((t.setP p x).setP q y) := by
 show (t.setP p x).force (fun t => (t.setP q y).force fun t => some t) = _
 rw [Tr.force_eq, Tr.force_eq]
def b88_1 : CC := (.reg [(qq a4 (.mv (x6 0)))])
def b88_2 : CC := (.reg [(qq a5 (.mv z0)), (qq a6 (.mv z1)), (qq a7 (.xib z5 z6)), (qq a4 (.mv z7))])
def c88 : CF := .mk 4 [.t a4] (.seq b88_1 (.seq b88_2 .ret))
theorem e88 (v0 v1 : V) : argTr 4 [v0, v1] = (.n (.n sk2 (some v1) sk2) (some v0) sk3) := rfl
def B88 := ai @e88 (ai (wu b88_1.eq_1) (wu b88_2.eq_1))
def b87_1 : CC := (.reg [(qq a4 (.mv xF))])
def b87_2 : CC := (.reg [(qq a5 (.mv z0)), (qq a6 (.ln .str z5)), (qq a7 (.mv z1)), (qq a8 (.ln .str z7)), (qq a9 (.bi .geq z6 z8)), (qq a10 (.mv z9)), ⟨(some a11), .q (.mv z0), (some (a10, true))⟩, ⟨(some a12), .q (.mv z1), (some (a10, true))⟩, ⟨(some a13), .q (.ln .str z12), (some (a10, true))⟩, ⟨(some a14), .q (.slS z11 none (some z13)), (some (a10, true))⟩, ⟨(some a15), .q (.mv z1), (some (a10, true))⟩, ⟨(some a16), .q (.bi .eql z14 z15), (some (a10, true))⟩, (qq a17 (.pk z10 z16 xF)), (qq a4 (.mv z17))])
def c87 : CF := .mk 5 [.t a4] (.seq b87_1 (.seq b87_2 .ret))
theorem e87 (v0 v1 : V) : argTr 5 [v0, v1] = (.n (.n sk3 (some v1) sk3) (some v0) sk4) := rfl
def B87 := ai @e87 (ai (wu b87_1.eq_1) (wu b87_2.eq_1))
def asS : V → Option (List UInt8)
 | .s n x => if strN (bl n x) = x then some (bl n x) else none
 | _ => none
theorem asS_s (l : List UInt8) : asS (sV l) = some l := by
 show (if strN (bl l.length (strN l)) = strN l then some (bl l.length (strN l)) else none) = _
 rw [strN_bl, if_pos rfl]
theorem of_asS {v : V} {l : List UInt8} (h : asS v = some l) : v = sV l := by
 unfold asS at h
 split at h
 · rename_i n x
   split at h
   · rename_i hx
     obtain rfl := Option.some.inj h
     show V.s n x = V.s (bl n x).length (strN (bl n x))
     rw [hx, bl_length]
   · cases h
 · cases h
def fnd (c : UInt8) : List UInt8 → Nat → Option Nat
 | [], _ => none
 | x :: r, i => if x = c then some i else fnd c r (i + 1)
theorem fnd_lt {c : UInt8} : ∀ {l : List UInt8} {i k : Nat}, fnd c l i = some k → i ≤ k ∧ k < i + l.length
 | [], i, k, h => by cases h
 | x :: r, i, k, h => by
   unfold fnd at h
   split at h
   · obtain rfl := Option.some.inj h; simp
   · have := fnd_lt h; rw [List.length_cons]; omega
theorem findB_s (c : UInt8) : ∀ (l : List UInt8) (i : Nat), findB c.toNat l.length (strN l) i = fnd c l i
 | [], i => rfl
 | x :: r, i => by
   have hx := UInt8.toNat_lt x
   show (bif Nat.beq ((x.toNat + 256 * strN r) % 256) c.toNat then some i else findB c.toNat r.length ((x.toNat + 256 * strN r) / 256) (Nat.succ i)) = _
   rw [show (x.toNat + 256 * strN r) % 256 = x.toNat by omega, show (x.toNat + 256 * strN r) / 256 = strN r by omega, beqN, fnd]
   by_cases h : x = c
   · subst h; rw [decide_eq_true rfl, if_pos rfl]; rfl
   · rw [decide_eq_false (fun e => h (UInt8.toNat_inj.1 e)), if_neg h, cond_false]
     exact findB_s c r (i + 1)
def xibV (x c : V) : Option V := (qop (.xib (.c x) (.c c)) [] .e .e).val
theorem v_xib {F : RO} (x c : X) (M : Mem) (t : T) : (qop (.xib x c) F M t).val = xibV (x.ev t) (c.ev t) := Eq.trans rfl (Eq.refl _)
def idxZ : Option Nat → Int
 | some k => (k : Int)
 | none => -1
theorem xibV_s (l : List UInt8) (c : UInt8) : xibV (sV l) (bV c) = some (.i .i64 (idxZ (fnd c l 0))) := by
 show (q_xib1 (findB (Nat.mod c.toNat 256) l.length (strN l) 0)).val = _
 have := UInt8.toNat_lt c
 rw [show Nat.mod c.toNat 256 = c.toNat from Nat.mod_eq_of_lt (by omega), findB_s]
 cases fnd c l 0 <;> rfl
theorem t88 (Φ : Nat → Option CF) (h : Φ 88 = some c88) (l : List UInt8) (b : UInt8) (ct : Nat) : To Φ 88 [sV l, bV b] ct (.i .i64 (idxZ (fnd b l 0))) := by
 refine to_walk h ?_
 simp only [WX, B88, v_xib, xibV_s]
def asB : V → Option UInt8
 | .i .u8 (.ofNat n) => if n < 256 then some (UInt8.ofNat n) else none
 | _ => none
theorem asB_b (b : UInt8) : asB (bV b) = some b := by
 have := UInt8.toNat_lt b
 show (if b.toNat < 256 then some (UInt8.ofNat b.toNat) else none) = _
 rw [if_pos (by omega), UInt8.ofNat_toNat]
theorem of_asB {v : V} {b : UInt8} (h : asB v = some b) : v = bV b := by
 unfold asB at h
 split at h
 · rename_i n
   split at h
   · obtain rfl := Option.some.inj h
     show V.i .u8 (n : Int) = V.i .u8 ((UInt8.ofNat n).toNat : Int)
     rw [UInt8.toNat_ofNat', Nat.mod_eq_of_lt (by omega)]
   · cases h
 · cases h
def h88 : List V → Option V
 | [v, w] => (asS v).bind fun l => (asB w).bind fun b => some (.i .i64 (idxZ (fnd b l 0)))
 | _ => none
theorem h88_eq (l : List UInt8) (b : UInt8) : h88 [sV l, bV b] = some (.i .i64 (idxZ (fnd b l 0))) := by
 show (asS (sV l)).bind (fun l => (asB (bV b)).bind fun b => some (V.i .i64 (idxZ (fnd b l 0)))) = _
 rw [asS_s, Option.bind_some, asB_b, Option.bind_some]
theorem dq_slS {F : RO} (x : X) (lo hi : Option X) (M : Mem) (t : T) : dqR (.slS x lo hi) F M t = oV (slSV (x.ev t) (lo.map fun x => x.ev t) (hi.map fun x => x.ev t)) := by
 refine (dq_of ?_).trans (congrArg oV (v_slS (F := F) x lo hi M t))
 intro F' M'
 refine qv_oV ?_
 show ((onS (x.ev t) QR.f fun n s => q_slS1 n s (optN t 0 lo) (optN t n hi)) = .f ∨ ∃ y, (onS (x.ev t) QR.f fun n s => q_slS1 n s (optN t 0 lo) (optN t n hi)) = .v y)
 cases x.ev t with
 | s n s =>
   show QV (q_slS1 n s (optN t 0 lo) (optN t n hi))
   generalize optN t 0 lo = a
   generalize optN t n hi = b
   cases a with
   | none => exact .inl rfl
   | some a =>
     cases b with
     | none => exact .inl rfl
     | some b =>
       show QV (Bool.rec (motive := fun _ => QR) .f (Bool.rec (motive := fun _ => QR) .f (vS (b - a) (s / 256 ^ a % 256 ^ (b - a))) (Nat.ble b n)) (Nat.ble a b))
       cases Nat.ble a b with
       | false => exact .inl rfl
       | true =>
         cases Nat.ble b n with
         | false => exact .inl rfl
         | true => exact .inr ⟨_, by show vS _ _ = _; unfold vS; rw [fN_eq, fN_eq]⟩
 | _ => exact .inl rfl
theorem t87 (Φ : Nat → Option CF) (h : Φ 87 = some c87) (l p : List UInt8) (ct : Nat) : To Φ 87 [sV l, sV p] ct (.b (decide (p.length ≤ l.length ∧ l.take p.length = p))) := by
 refine to_walk h ?_
 by_cases h1 : p.length ≤ l.length
 · have d1 : decide ((p.length : Int) ≤ (l.length : Int)) = true := decide_eq_true (by omega)
   have s1 := sl_nh l .i64 p.length h1
   have e : decide (p.length ≤ l.length ∧ l.take p.length = p) = decide (l.take p.length = p) := by simp [h1]
   rw [e]
   simp only [WX, B87, d1, s1]
 · have d1 : decide ((p.length : Int) ≤ (l.length : Int)) = false := decide_eq_false (by omega)
   have e : decide (p.length ≤ l.length ∧ l.take p.length = p) = false := decide_eq_false (fun hh => h1 hh.1)
   rw [e]
   simp only [WX, B87, d1]
def h87 : List V → Option V
 | [v, w] => (asS v).bind fun l => (asS w).bind fun p => some (.b (decide (p.length ≤ l.length ∧ l.take p.length = p)))
 | _ => none
theorem h87_eq (l p : List UInt8) : h87 [sV l, sV p] = some (.b (decide (p.length ≤ l.length ∧ l.take p.length = p))) := by
 show (asS (sV l)).bind (fun l => (asS (sV p)).bind fun p => some (V.b (decide (p.length ≤ l.length ∧ l.take p.length = p)))) = _
 rw [asS_s, Option.bind_some, asS_s, Option.bind_some]
def b73_1 : CC := (.reg [(qq a4 (.mv xF))])
def b73_2 : CC := (.reg [(qq a5 (.mv z0)), (qq a6 (.mv z1)), (ee a7 (.call 87 [z5, z6])), (qq a4 (.mv z7))])
def c73 : CF := .mk 4 [.t a4] (.seq b73_1 (.seq b73_2 .ret))
theorem e73 (v0 v1 : V) : argTr 4 [v0, v1] = (.n (.n sk2 (some v1) sk2) (some v0) sk3) := rfl
def B73 := ai @e73 (ai (wu b73_1.eq_1) (wu b73_2.eq_1))
def b76_1 : CC := (.reg [(qq a4 (.mv (x6 0)))])
def b76_2 : CC := (.reg [(qq a5 (.mv z0)), (qq a6 (.mv z1)), (ee a7 (.call 88 [z5, z6])), (qq a4 (.mv z7))])
def c76 : CF := .mk 4 [.t a4] (.seq b76_1 (.seq b76_2 .ret))
theorem e76 (v0 v1 : V) : argTr 4 [v0, v1] = (.n (.n sk2 (some v1) sk2) (some v0) sk3) := rfl
def B76 := ai @e76 (ai (wu b76_1.eq_1) (wu b76_2.eq_1))
def b75_1 : CC := (.reg [(qq a3 (.mv z0)), (qq a4 (.bi .gtr z3 (.c (.i .u8 32)))), (qq a5 (.mv z4)), ⟨(some a6), .q (.mv z0), (some (a5, true))⟩, ⟨(some a7), .q (.bi .lss z6 (.c (.i .u8 127))), (some (a5, true))⟩, (qq a8 (.pk z5 z7 xF)), (qq a9 (.mv z8)), ⟨(some a10), .q (.mv z0), (some (a9, true))⟩, ⟨(some a11), .e (.call 76 [(.c (.s 8 2603404095485934631)), z10]), (some (a9, true))⟩, ⟨(some a12), .q (.bi .lss z11 (x6 0)), (some (a9, true))⟩, (qq a13 (.pk z9 z12 xF)), (qq a2 (.mv z13))])
def b75_2 : CC := (.seq (.reg [(qq a2 (.mv xF))]) (.seq b75_1 .ret))
def c75 : CF := .mk 4 [.t a2] b75_2
theorem e75 (v0 : V) : argTr 4 [v0] = (.n sk3 (some v0) sk3) := rfl
def B75 := ai @e75 (ai (wu b75_1.eq_1) (wu b75_2.eq_1))
def b78_1 : CC := (.reg [(qq a3 (.mv z0)), (qq a4 (.bi .geq z3 (.c (.i .u8 32)))), (qq a5 (.mv z4)), ⟨(some a6), .q (.mv z0), (some (a5, true))⟩, ⟨(some a7), .q (.bi .lss z6 (.c (.i .u8 127))), (some (a5, true))⟩, (qq a8 (.pk z5 z7 xF)), (qq a9 (.mv z8)), ⟨(some a10), .q (.mv z0), (some (a9, true))⟩, ⟨(some a11), .q (.bi .neq z10 (.c (.i .u8 39))), (some (a9, true))⟩, (qq a12 (.pk z9 z11 xF)), (qq a2 (.mv z12))])
def b78_2 : CC := (.seq (.reg [(qq a2 (.mv xF))]) (.seq b78_1 .ret))
def c78 : CF := .mk 4 [.t a2] b78_2
theorem e78 (v0 : V) : argTr 4 [v0] = (.n sk3 (some v0) sk3) := rfl
def B78 := ai @e78 (ai (wu b78_1.eq_1) (wu b78_2.eq_1))
def b68_1 : CC := (.reg [(qq a5 (.bi .eql z3 (.c (.i .u8 39)))), (qq a4 (.mv z5))])
def b68_2 : CC := (.reg [(qq a6 (.bi .eql z3 (.c (.i .u8 124)))), (qq a4 (.mv z6))])
def b68_3 : CC := (.reg [(qq a7 (.bi .eql z3 (.c (.i .u8 60)))), (qq a4 (.mv z7))])
def b68_4 : CC := (.reg [(qq a8 (.bi .eql z3 (.c (.i .u8 62)))), (qq a4 (.mv z8))])
def b68_5 : CC := (.reg [(qq a9 (.bi .eql z3 (.c (.i .u8 59)))), (qq a4 (.mv z9))])
def b68_6 : CC := (.reg [(qq a10 (.bi .eql z3 (.c (.i .u8 38)))), (qq a4 (.mv z10))])
def b68_7 : CC := (.reg [(qq a11 (.bi .eql z3 (.c (.i .u8 33)))), (qq a4 (.mv z11))])
def b68_8 : CC := (.reg [(qq a12 (.bi .eql z3 (.c (.i .u8 36)))), (qq a4 (.mv z12))])
def b68_9 : CC := (.cond z4 .skip (.seq b68_7 (.cond z4 .skip b68_8)))
def b68_10 : CC := (.seq b68_5 (.cond z4 .skip (.seq b68_6 b68_9)))
def b68_11 : CC := (.cond z4 .skip (.seq b68_4 (.cond z4 .skip b68_10)))
def b68_12 : CC := (.seq b68_2 (.cond z4 .skip (.seq b68_3 b68_11)))
def b68_13 : CC := (.seq (.reg [(qq a2 (.mv xF))]) .ret)
def b68_14 : CC := (.seq (.seq b68_1 (.cond z4 .skip b68_12)) (.cond z4 b68_13 .skip))
def b68_15 : CC := (.seq (.reg [(qq a3 (.mv z0))]) (.block 0 b68_14))
def b68_16 : CC := (.reg [(qq a13 (.mv z0)), (qq a14 (.bi .geq z13 (.c (.i .u8 33)))), (qq a15 (.mv z14)), ⟨(some a16), .q (.mv z0), (some (a15, true))⟩, ⟨(some a17), .q (.bi .leq z16 (.c (.i .u8 126))), (some (a15, true))⟩, (qq a18 (.pk z15 z17 xF)), (qq a2 (.mv z18))])
def b68_17 : CC := (.seq (.reg [(qq a2 (.mv xF))]) (.seq b68_15 (.seq b68_16 .ret)))
def c68 : CF := .mk 5 [.t a2] b68_17
theorem e68 (v0 : V) : argTr 5 [v0] = (.n sk4 (some v0) sk4) := rfl
def B68 := ai @e68 (ai (wu b68_1.eq_1) (ai (wu b68_2.eq_1) (ai (wu b68_3.eq_1) (ai (wu b68_4.eq_1) (ai (wu b68_5.eq_1) (ai (wu b68_6.eq_1) (ai (wu b68_7.eq_1) (ai (wu b68_8.eq_1) (ai (wu b68_9.eq_1) (ai (wu b68_10.eq_1) (ai (wu b68_11.eq_1) (ai (wu b68_12.eq_1) (ai (wu b68_13.eq_1) (ai (wu b68_14.eq_1) (ai (wu b68_15.eq_1) (ai (wu b68_16.eq_1) (wu b68_17.eq_1)))))))))))))))))
def b69_1 : CC := (.reg [(qq a3 (.mv z0)), (qq a4 (.bi .geq z3 (.c (.i .u8 32)))), (qq a5 (.mv z4)), ⟨(some a6), .q (.mv z0), (some (a5, true))⟩, ⟨(some a7), .q (.bi .leq z6 (.c (.i .u8 126))), (some (a5, true))⟩, (qq a8 (.pk z5 z7 xF)), (qq a9 (.mv z8)), ⟨(some a10), .q (.mv z0), (some (a9, true))⟩, ⟨(some a11), .q (.bi .neq z10 (.c (.i .u8 39))), (some (a9, true))⟩, (qq a12 (.pk z9 z11 xF)), (qq a2 (.mv z12))])
def b69_2 : CC := (.seq (.reg [(qq a2 (.mv xF))]) (.seq b69_1 .ret))
def c69 : CF := .mk 4 [.t a2] b69_2
theorem e69 (v0 : V) : argTr 4 [v0] = (.n sk3 (some v0) sk3) := rfl
def B69 := ai @e69 (ai (wu b69_1.eq_1) (wu b69_2.eq_1))
def pfx (p l : List UInt8) : Bool := decide (p.length ≤ l.length ∧ l.take p.length = p)
theorem t73 (Φ : Nat → Option CF) (h : Φ 73 = some c73) (h87 : Φ 87 = some (.orc (pureO h87))) (l p : List UInt8) (ct : Nat) : To Φ 73 [sV l, sV p] ct (.b (pfx p l)) := by
 refine to_walk h ?_
 have h1 := h87_eq l p
 simp only [WX, B73, h87, h1]
 rfl
def h73 : List V → Option V
 | [v, w] => (asS v).bind fun l => (asS w).bind fun p => some (V.b (pfx p l))
 | _ => none
theorem h73_eq (l p : List UInt8) : h73 [sV l, sV p] = some (V.b (pfx p l)) := by
 show (asS (sV l)).bind (fun l => (asS (sV p)).bind fun p => some (V.b (pfx p l))) = _
 rw [asS_s, Option.bind_some, asS_s, Option.bind_some]
theorem t76 (Φ : Nat → Option CF) (h : Φ 76 = some c76) (h88 : Φ 88 = some (.orc (pureO h88))) (l : List UInt8) (b : UInt8) (ct : Nat) : To Φ 76 [sV l, bV b] ct (.i .i64 (idxZ (fnd b l 0))) := by
 refine to_walk h ?_
 have h1 := h88_eq l b
 simp only [WX, B76, h88, h1]
def plB (b : UInt8) : Bool := decide (32 < b.toNat) && (decide (b.toNat < 127) && decide (idxZ (fnd b [39, 124, 60, 62, 59, 38, 33, 36] 0) < 0))
def qtB (b : UInt8) : Bool := decide (32 ≤ b.toNat) && (decide (b.toNat < 127) && decide (b.toNat ≠ 39))
theorem signsV : V.s 8 2603404095485934631 = sV [39, 124, 60, 62, 59, 38, 33, 36] := rfl
theorem t75 (Φ : Nat → Option CF) (h : Φ 75 = some c75) (h76 : Φ 76 = some (.orc (pureO h88))) (b : UInt8) (ct : Nat) : To Φ 75 [bV b] ct (.b (plB b)) := by
 refine to_walk h ?_
 have h1 := h88_eq [39, 124, 60, 62, 59, 38, 33, 36] b
 rw [← signsV] at h1
 have hb : bV b = .i .u8 (b.toNat : Int) := rfl
 have hlt := UInt8.toNat_lt b
 have d1 : decide ((32 : Int) < (b.toNat : Int)) = decide (32 < b.toNat) := by congr 1; exact propext (by omega)
 have d2 : decide ((b.toNat : Int) < 127) = decide (b.toNat < 127) := by congr 1; exact propext (by omega)
 unfold plB
 rw [hb] at h1 ⊢
 cases x1 : decide (32 < b.toNat) with
 | false => simp only [WX, B75, d1, x1, Bool.false_and]
 | true =>
   cases x2 : decide (b.toNat < 127) with
   | false => simp only [WX, B75, d1, d2, x1, x2, Bool.false_and]
   | true => simp only [WX, B75, h76, h1, d1, d2, x1, x2]
theorem t78 (Φ : Nat → Option CF) (h : Φ 78 = some c78) (b : UInt8) (ct : Nat) : To Φ 78 [bV b] ct (.b (qtB b)) := by
 refine to_walk h ?_
 have hb : bV b = .i .u8 (b.toNat : Int) := rfl
 have hlt := UInt8.toNat_lt b
 have d1 : decide ((32 : Int) ≤ (b.toNat : Int)) = decide (32 ≤ b.toNat) := by congr 1; exact propext (by omega)
 have d2 : decide ((b.toNat : Int) < 127) = decide (b.toNat < 127) := by congr 1; exact propext (by omega)
 have d3 : decide ((b.toNat : Int) ≠ 39) = decide (b.toNat ≠ 39) := by congr 1; exact propext (by omega)
 unfold qtB
 rw [hb]
 cases x1 : decide (32 ≤ b.toNat) with
 | false => simp only [WX, B78, d1, x1, Bool.false_and]
 | true =>
   cases x2 : decide (b.toNat < 127) with
   | false => simp only [WX, B78, d1, d2, x1, x2, Bool.false_and]
   | true => simp only [WX, B78, d1, d2, d3, x1, x2]
theorem t69 (Φ : Nat → Option CF) (h : Φ 69 = some c69) (b : UInt8) (ct : Nat) : To Φ 69 [bV b] ct (.b (qtB b)) := by
 refine to_walk h ?_
 have hb : bV b = .i .u8 (b.toNat : Int) := rfl
 have hlt := UInt8.toNat_lt b
 have d1 : decide ((32 : Int) ≤ (b.toNat : Int)) = decide (32 ≤ b.toNat) := by congr 1; exact propext (by omega)
 have d2 : decide ((b.toNat : Int) ≤ 126) = decide (b.toNat < 127) := by congr 1; exact propext (by omega)
 have d3 : decide ((b.toNat : Int) ≠ 39) = decide (b.toNat ≠ 39) := by congr 1; exact propext (by omega)
 unfold qtB
 rw [hb]
 cases x1 : decide (32 ≤ b.toNat) with
 | false => simp only [WX, B69, d1, x1, Bool.false_and]
 | true =>
   cases x2 : decide (b.toNat < 127) with
   | false => simp only [WX, B69, d1, d2, x1, x2, Bool.false_and]
   | true => simp only [WX, B69, d1, d2, d3, x1, x2]
theorem plB_eq (b : UInt8) : plB b = (!(decide (b.toNat = 39) || (decide (b.toNat = 124) || (decide (b.toNat = 60) || (decide (b.toNat = 62) || (decide (b.toNat = 59) || (decide (b.toNat = 38) || (decide (b.toNat = 33) || decide (b.toNat = 36)))))))) && (decide (33 ≤ b.toNat) && decide (b.toNat ≤ 126))) := by
 have key : ∀ n, n < 256 → plB (UInt8.ofNat n) = (!(decide ((UInt8.ofNat n).toNat = 39) || (decide ((UInt8.ofNat n).toNat = 124) || (decide ((UInt8.ofNat n).toNat = 60) || (decide ((UInt8.ofNat n).toNat = 62) || (decide ((UInt8.ofNat n).toNat = 59) || (decide ((UInt8.ofNat n).toNat = 38) || (decide ((UInt8.ofNat n).toNat = 33) || decide ((UInt8.ofNat n).toNat = 36)))))))) && (decide (33 ≤ (UInt8.ofNat n).toNat) && decide ((UInt8.ofNat n).toNat ≤ 126))) := by decide +kernel
 have := key b.toNat (UInt8.toNat_lt b)
 rwa [UInt8.ofNat_toNat] at this
theorem t68 (Φ : Nat → Option CF) (h : Φ 68 = some c68) (b : UInt8) (ct : Nat) : To Φ 68 [bV b] ct (.b (plB b)) := by
 refine to_walk h ?_
 have hb : bV b = .i .u8 (b.toNat : Int) := rfl
 have q : ∀ k : Nat, decide ((b.toNat : Int) = (k : Int)) = decide (b.toNat = k) := fun k => by congr 1; exact propext (by omega)
 have q1 := q 39; have q2 := q 124; have q3 := q 60; have q4 := q 62; have q5 := q 59; have q6 := q 38; have q7 := q 33; have q8 := q 36
 have d1 : decide ((33 : Int) ≤ (b.toNat : Int)) = decide (33 ≤ b.toNat) := by congr 1; exact propext (by omega)
 have d2 : decide ((b.toNat : Int) ≤ 126) = decide (b.toNat ≤ 126) := by congr 1; exact propext (by omega)
 simp only [Int.cast_ofNat_Int] at q1 q2 q3 q4 q5 q6 q7 q8
 rw [plB_eq, hb]
 generalize decide (b.toNat = 39) = y1 at q1 ⊢
 generalize decide (b.toNat = 124) = y2 at q2 ⊢
 generalize decide (b.toNat = 60) = y3 at q3 ⊢
 generalize decide (b.toNat = 62) = y4 at q4 ⊢
 generalize decide (b.toNat = 59) = y5 at q5 ⊢
 generalize decide (b.toNat = 38) = y6 at q6 ⊢
 generalize decide (b.toNat = 33) = y7 at q7 ⊢
 generalize decide (b.toNat = 36) = y8 at q8 ⊢
 generalize decide (33 ≤ b.toNat) = z1 at d1 ⊢
 generalize decide (b.toNat ≤ 126) = z2 at d2 ⊢
 cases y1 with
 | true => simp only [WX, B68, q1, Bool.true_or, Bool.false_and]
 | false =>
  cases y2 with
  | true => simp only [WX, B68, q1, q2, Bool.true_or, Bool.false_or, Bool.false_and]
  | false =>
   cases y3 with
   | true => simp only [WX, B68, q1, q2, q3, Bool.true_or, Bool.false_or, Bool.false_and]
   | false =>
    cases y4 with
    | true => simp only [WX, B68, q1, q2, q3, q4, Bool.true_or, Bool.false_or, Bool.false_and]
    | false =>
     cases y5 with
     | true => simp only [WX, B68, q1, q2, q3, q4, q5, Bool.true_or, Bool.false_or, Bool.false_and]
     | false =>
      cases y6 with
      | true => simp only [WX, B68, q1, q2, q3, q4, q5, q6, Bool.true_or, Bool.false_or, Bool.false_and]
      | false =>
       cases y7 with
       | true => simp only [WX, B68, q1, q2, q3, q4, q5, q6, q7, Bool.true_or, Bool.false_or, Bool.false_and]
       | false =>
        cases y8 with
        | true => simp only [WX, B68, q1, q2, q3, q4, q5, q6, q7, q8, Bool.false_or, Bool.false_and]
        | false =>
         cases z1 with
         | false => simp only [WX, B68, q1, q2, q3, q4, q5, q6, q7, q8, d1, Bool.false_or, Bool.false_and]
         | true => simp only [WX, B68, q1, q2, q3, q4, q5, q6, q7, q8, d1, d2, Bool.false_or]
def b77_1 : CC := (.reg [(qq a4 (.mv xF))])
def b77_2 : CC := (.reg [(qq a6 (.mv z0)), (qq a7 (.ln .str z6)), (qq a8 (.mv (x6 0)))])
def b77_3 : CC := (.reg [(qq a9 (.bi .lss z8 z7))])
def b77_4 : CC := (.reg [(qq a10 (.mv z8)), (qq a5 (.mv z10))])
def b77_5 : CC := (.reg [(qq a11 (.mv z1)), (qq a12 (.mv z0)), (qq a13 (.mv z5)), (qq a14 (.ixS z12 z13)), (ee a15 (.cv z11 [z14])), (qq a16 (.un .not z15))])
def b77_6 : CC := (.reg [(qq a4 (.mv xF))])
def b77_7 : CC := (.seq b77_5 (.cond z16 (.seq b77_6 .ret) .skip))
def b77_8 : CC := (.reg [(qq a17 (.bi .add z8 (x6 1))), (qq a8 (.mv z17))])
def b77_9 : CC := (.seq (.cond z9 .skip (.exit 0)) (.seq (.block 1 (.seq b77_4 b77_7)) b77_8))
def b77_10 : CC := (.reg [(qq a4 (.mv xT))])
def b77_11 : CC := (.seq (.seq b77_2 (.block 0 (.loop (.seq b77_3 b77_9)))) (.seq b77_10 .ret))
def c77 : CF := .mk 5 [.t a4] (.seq b77_1 b77_11)
theorem e77 (v0 v1 : V) : argTr 5 [v0, v1] = (.n (.n sk3 (some v1) sk3) (some v0) sk4) := rfl
def B77 := ai @e77 (ai (wu b77_1.eq_1) (ai (wu b77_2.eq_1) (ai (wu b77_3.eq_1) (ai (wu b77_4.eq_1) (ai (wu b77_5.eq_1) (ai (wu b77_6.eq_1) (ai (wu b77_7.eq_1) (ai (wu b77_8.eq_1) (ai (wu b77_9.eq_1) (ai (wu b77_10.eq_1) (wu b77_11.eq_1)))))))))))
def b55_1 : CC := (.reg [(aa a5 (.bsl 9 8 1 [(.s 0 0)] [(0, (.c (.s 2 15934))), (1, (.c (.s 2 9766))), (2, (.c (.s 2 31868))), (3, (.c (.s 1 124))), (4, (.c (.s 1 60))), (5, (.c (.s 1 62))), (6, (.c (.s 1 59))), (7, (.c (.s 1 33)))])), (qq a6 (.ln .slice z5)), (qq a7 (.mv (x6 0)))])
def b55_2 : CC := (.reg [(qq a8 (.bi .lss z7 z6))])
def b55_3 : CC := (.reg [(qq a9 (.iaS 1 z5 z7)), (qq a10 (.ld1 z9)), (qq a4 (.mv z10))])
def b55_4 : CC := (.reg [(qq a11 (.mv z0)), (qq a12 (.mv z4)), (ee a13 (.call 73 [z11, z12]))])
def b55_5 : CC := (.reg [(qq a14 (.mv z4)), (qq a2 (.mv z14))])
def b55_6 : CC := (.seq b55_4 (.cond z13 (.seq b55_5 .ret) .skip))
def b55_7 : CC := (.reg [(qq a15 (.bi .add z7 (x6 1))), (qq a7 (.mv z15))])
def b55_8 : CC := (.seq (.cond z8 .skip (.exit 0)) (.seq (.block 1 (.seq b55_3 b55_6)) b55_7))
def b55_9 : CC := (.seq (.reg [(qq a2 (.mv (.c (.s 0 0))))]) .ret)
def b55_10 : CC := (.seq (.seq b55_1 (.block 0 (.loop (.seq b55_2 b55_8)))) b55_9)
def b55_11 : CC := (.seq (.reg [(qq a2 (.mv (.c (.s 0 0))))]) b55_10)
def c55 : CF := .mk 5 [.t a2] b55_11
theorem e55 (v0 : V) : argTr 5 [v0] = (.n sk4 (some v0) sk4) := rfl
def B55 := ai @e55 (ai (wu b55_1.eq_1) (ai (wu b55_2.eq_1) (ai (wu b55_3.eq_1) (ai (wu b55_4.eq_1) (ai (wu b55_5.eq_1) (ai (wu b55_6.eq_1) (ai (wu b55_7.eq_1) (ai (wu b55_8.eq_1) (ai (wu b55_9.eq_1) (ai (wu b55_10.eq_1) (wu b55_11.eq_1)))))))))))
def b44_1 : CC := (.reg [(qq a3 (.mv z0)), (qq a4 (.ln .str z3)), (qq a5 (.bi .geq z4 (x6 2))), (qq a6 (.mv z5)), ⟨(some a7), .q (.mv z0), (some (a6, true))⟩, ⟨(some a8), .q (.slS z7 none (some (x6 2))), (some (a6, true))⟩, ⟨(some a9), .q (.bi .eql z8 (.c (.s 2 15934))), (some (a6, true))⟩, ⟨(some a10), .q (.mv z9), (some (a6, true))⟩, ⟨(some a11), .q (.mv z0), (some (a10, false))⟩, ⟨(some a12), .q (.slS z11 none (some (x6 2))), (some (a10, false))⟩, ⟨(some a13), .q (.bi .eql z12 (.c (.s 2 9766))), (some (a10, false))⟩, ⟨(some a14), .q (.pk z10 xT z13), (some (a6, true))⟩, ⟨(some a15), .q (.mv z14), (some (a6, true))⟩, ⟨(some a16), .q (.mv z0), (some (a15, false))⟩, ⟨(some a17), .q (.slS z16 none (some (x6 2))), (some (a15, false))⟩, ⟨(some a18), .q (.bi .eql z17 (.c (.s 2 31868))), (some (a15, false))⟩, ⟨(some a19), .q (.pk z15 xT z18), (some (a6, true))⟩, (qq a20 (.pk z6 z19 xF))])
def b44_2 : CC := (.reg [(qq a21 (.mv z0)), (qq a22 (.slS z21 none (some (x6 2)))), (qq a2 (.mv z22))])
def b44_3 : CC := (.seq b44_1 (.cond z20 (.seq b44_2 .ret) .skip))
def b44_4 : CC := (.reg [(qq a23 (.mv z0)), (qq a24 (.ixS z23 (x6 0)))])
def b44_5 : CC := (.reg [(qq a26 (.bi .eql z24 (.c (.i .u8 124)))), (qq a25 (.mv z26))])
def b44_6 : CC := (.reg [(qq a27 (.bi .eql z24 (.c (.i .u8 60)))), (qq a25 (.mv z27))])
def b44_7 : CC := (.reg [(qq a28 (.bi .eql z24 (.c (.i .u8 62)))), (qq a25 (.mv z28))])
def b44_8 : CC := (.reg [(qq a29 (.bi .eql z24 (.c (.i .u8 59)))), (qq a25 (.mv z29))])
def b44_9 : CC := (.reg [(qq a30 (.bi .eql z24 (.c (.i .u8 33)))), (qq a25 (.mv z30))])
def b44_10 : CC := (.seq b44_8 (.cond z25 .skip b44_9))
def b44_11 : CC := (.seq b44_7 (.cond z25 .skip b44_10))
def b44_12 : CC := (.seq b44_6 (.cond z25 .skip b44_11))
def b44_13 : CC := (.seq b44_5 (.cond z25 .skip b44_12))
def b44_14 : CC := (.reg [(qq a31 (.mv z0)), (qq a32 (.slS z31 none (some (x6 1)))), (qq a2 (.mv z32))])
def b44_15 : CC := (.cond z25 (.seq b44_14 .ret) .skip)
def b44_16 : CC := (.seq (.reg [(qq a2 (.mv (.c (.s 0 0))))]) .ret)
def b44_17 : CC := (.seq b44_3 (.seq (.seq b44_4 (.block 0 (.seq b44_13 b44_15))) b44_16))
def b44_18 : CC := (.seq (.reg [(qq a2 (.mv (.c (.s 0 0))))]) b44_17)
def c44 : CF := .mk 6 [.t a2] b44_18
theorem e44 (v0 : V) : argTr 6 [v0] = (.n sk5 (some v0) sk5) := rfl
def B44 := ai @e44 (ai (wu b44_1.eq_1) (ai (wu b44_2.eq_1) (ai (wu b44_3.eq_1) (ai (wu b44_4.eq_1) (ai (wu b44_5.eq_1) (ai (wu b44_6.eq_1) (ai (wu b44_7.eq_1) (ai (wu b44_8.eq_1) (ai (wu b44_9.eq_1) (ai (wu b44_10.eq_1) (ai (wu b44_11.eq_1) (ai (wu b44_12.eq_1) (ai (wu b44_13.eq_1) (ai (wu b44_14.eq_1) (ai (wu b44_15.eq_1) (ai (wu b44_16.eq_1) (ai (wu b44_17.eq_1) (wu b44_18.eq_1))))))))))))))))))
def h75 : List V → Option V
 | [v] => (asB v).bind fun b => some (V.b (plB b))
 | _ => none
theorem h75_eq (b : UInt8) : h75 [bV b] = some (V.b (plB b)) := by
 show (asB (bV b)).bind (fun b => some (V.b (plB b))) = _
 rw [asB_b, Option.bind_some]
def h78 : List V → Option V
 | [v] => (asB v).bind fun b => some (V.b (qtB b))
 | _ => none
theorem h78_eq (b : UInt8) : h78 [bV b] = some (V.b (qtB b)) := by
 show (asB (bV b)).bind (fun b => some (V.b (qtB b))) = _
 rw [asB_b, Option.bind_some]
theorem t77 (Φ : Nat → Option CF) (h : Φ 77 = some c77) (h78 : Φ 78 = some (.orc (pureO h78))) (l : List UInt8) (hl : l.length ≤ 1000000) (ct : Nat) : To Φ 77 [sV l, .f 78 [] []] ct (.b (l.all qtB)) := by
 refine to_walk h ?_
 simp only [WX, B77]
 obtain ⟨I1, hI1⟩ : ∃ I : Nat → St → Prop, ∀ n s', I n s' ↔ (∃ (i : Nat) (u : List (Option V)), n = l.length - i ∧ i ≤ l.length ∧ s' = .mk ((.n (.n (.n (.n (uv1 u 15) (some (.i .i64 (l.length : Int))) (uv1 u 23)) (uO u 3) (uv3 u 19 11 27)) (some (.f 78 [] [])) (uv7 u 17 9 25 5 21 13 29)) (some (sV l)) (.n (.n (.n (uv1 u 16) (some (.i .i64 (i : Int))) (uv1 u 24)) (uO u 4) (uv3 u 20 12 28)) (uO u 2) (uv7 u 18 10 26 6 22 14 30)))) [] .e ct ∧ l.all qtB = (l.drop i).all qtB) := ⟨fun n s' => _, fun _ _ => Iff.rfl⟩
 refine wp_while I1 ?_ l.length _ ((hI1 _ _).2 ⟨0, [none, none, _, _, _, _, _, none, none, _, _, _, _, _, _, _, _, _, _, _, _, _, _, _, _, _, _, _, _, _, _], rfl, Nat.zero_le _, rfl, by rw [List.drop_zero]⟩)
 intro n s' hIs
 obtain ⟨i, u, rfl, hi, rfl, hb⟩ := (hI1 _ _).1 hIs
 clear hIs
 have q8 : biV .add (.i .i64 (i : Int)) (.i .i64 1) = some (.i .i64 ((i + 1 : Nat) : Int)) := by rw [i64_add _ _ (by omega) (by omega)]; simp
 by_cases hlt : i < l.length
 · have d1 : decide ((i : Int) < (l.length : Int)) = true := decide_eq_true (by omega)
   have hix : ixSV (sV l) (.i .i64 (i : Int)) = some (bV l[i]) := ixSs l .i64 i hlt
   have hd : l.drop i = l[i] :: l.drop (i + 1) := List.drop_eq_getElem_cons hlt
   have hh := h78_eq l[i]
   cases ho : qtB l[i] with
   | true =>
     rw [ho] at hh
     simp only [WX, B77, d1, hix, h78, hh, q8]
     exact ⟨l.length - (i + 1), by omega, (hI1 _ _).2 ⟨i + 1, [none, none, _, _, _, _, _, none, none, _, _, _, _, _, _, _, _, _, _, _, _, _, _, _, _, _, _, _, _, _, _], rfl, by omega, rfl, by rw [hb, hd, List.all_cons, ho, Bool.true_and]⟩⟩
   | false =>
     rw [ho] at hh
     rw [show l.all qtB = false by rw [hb, hd, List.all_cons, ho, Bool.false_and]]
     simp only [WX, B77, d1, hix, h78, hh]
 · obtain rfl : i = l.length := by omega
   have d1 : decide ((l.length : Int) < (l.length : Int)) = false := decide_eq_false (by omega)
   rw [show l.all qtB = true by rw [hb, List.drop_length]; rfl]
   simp only [WX, B77, d1]
def strE (l : List (List UInt8)) : List (List V) := l.map fun w => [sV w]
theorem str_at {F : RO} {M : Mem} {c : Nat} {v : V} {l : List (List UInt8)} (hs : SlAt F M c 1 v (strE l)) (i : Nat) (hi : i < l.length) :
  ∃ b o, b < c ∧ (∀ k, iaSV 1 v (.i k (i : Int)) = some (.p b o)) ∧ load1 F M b o = some (sV l[i]) :=
 SlAt.one hs i (by simpa [strE] using hi) (by simp [strE])
def sgs : List (List UInt8) := [[62, 62], [38, 38], [124, 124], [124], [60], [62], [59], [33]]
def sgnF (l : List UInt8) : List UInt8 := (sgs.find? fun x => pfx x l).getD []
theorem r55 (Φ : Nat → Option CF) (h : Φ 55 = some c55) (h73 : Φ 73 = some (.orc (pureO h73))) {F : RO} {M : Mem} {c : Nat} (ok : Okm F M c) (l : List UInt8) :
  Calls Φ F 55 [sV l] M c fun r _ _ => r = sV (sgnF l) := by
 refine calls_walk h ?_
 simp only [WX, Nat.reduceAdd, B55]
 have hs : SlAt F (M.set c (rowD [V.s 0 0] 9 [V.s 2 15934, V.s 2 9766, V.s 2 31868, V.s 1 124, V.s 1 60, V.s 1 62, V.s 1 59, V.s 1 33])) (c + 1) 1 (.l c 0 8 8) (strE sgs) := slD (d := [V.s 0 0]) (ty := 9) ((get_same _ _ _).trans (by rfl)) (by omega) (by intro e he; obtain ⟨x, _, rfl⟩ := List.mem_map.1 he; rfl) rfl
 generalize M.set c (rowD [V.s 0 0] 9 [V.s 2 15934, V.s 2 9766, V.s 2 31868, V.s 1 124, V.s 1 60, V.s 1 62, V.s 1 59, V.s 1 33]) = M1 at hs ⊢
 have h8 : ((8 : Nat) : Int) = 8 := rfl
 obtain ⟨I1, hI1⟩ : ∃ I : Nat → St → Prop, ∀ n s', I n s' ↔ (∃ (i : Nat) (u : List (Option V)), n = 8 - i ∧ i ≤ 8 ∧ s' = .mk ((.n (.n (.n (.n (uv1 u 15) (some (.i .i64 (i : Int))) (uv1 u 23)) (uO u 3) (uv3 u 19 11 27)) (uO u 1) (.n (uv3 u 17 9 25) (some (.l c 0 8 8)) (uv3 u 21 13 29))) (some (sV l)) (.n (uv7 u 16 8 24 4 20 12 28) (uO u 2) (.n (uv3 u 18 10 26) (some (.i .i64 ((8 : Nat) : Int))) (uv3 u 22 14 30))))) [] M1 (c + 1) ∧ sgnF l = ((sgs.drop i).find? fun x => pfx x l).getD []) := ⟨fun n s' => _, fun _ _ => Iff.rfl⟩
 refine wp_while I1 ?_ 8 _ ((hI1 _ _).2 ⟨0, [none, _, _, _, _, none, none, none, _, _, _, _, _, _, _, _, _, _, _, _, _, _, _, _, _, _, _, _, _, _, _], rfl, Nat.zero_le _, rfl, rfl⟩)
 intro n s' hIs
 obtain ⟨i, u, rfl, hi, rfl, hb⟩ := (hI1 _ _).1 hIs
 clear hIs
 have q8 : biV .add (.i .i64 (i : Int)) (.i .i64 1) = some (.i .i64 ((i + 1 : Nat) : Int)) := by rw [i64_add _ _ (by omega) (by omega)]; simp
 by_cases hlt : i < 8
 · have d1 : decide ((i : Int) < ((8 : Nat) : Int)) = true := decide_eq_true (by omega)
   have hlt' : i < sgs.length := hlt
   obtain ⟨bb, oo, _, hia, hld⟩ := str_at hs i hlt'
   have hia := hia .i64
   have hd : sgs.drop i = sgs[i] :: sgs.drop (i + 1) := List.drop_eq_getElem_cons hlt'
   have hh := h73_eq l sgs[i]
   rw [hd, List.find?_cons] at hb
   cases ho : pfx sgs[i] l with
   | true =>
     rw [ho] at hh hb
     simp only [WX, B55, d1, hia, hld, h73, hh]
     rw [hb]; rfl
   | false =>
     rw [ho] at hh hb
     simp only [WX, B55, d1, hia, hld, h73, hh, q8]
     exact ⟨8 - (i + 1), by omega, (hI1 _ _).2 ⟨i + 1, [none, _, _, _, _, none, none, none, _, _, _, _, _, _, _, _, _, _, _, _, _, _, _, _, _, _, _, _, _, _, _], rfl, by omega, rfl, hb⟩⟩
 · obtain rfl : i = 8 := by omega
   have d1 : decide (((8 : Nat) : Int) < ((8 : Nat) : Int)) = false := decide_eq_false (by omega)
   simp only [WX, B55, d1]
   rw [hb]; rfl
def h55 : List V → Option V
 | [v] => (asS v).bind fun l => some (sV (sgnF l))
 | _ => none
theorem h55_eq (l : List UInt8) : h55 [sV l] = some (sV (sgnF l)) := by
 show (asS (sV l)).bind (fun l => some (sV (sgnF l))) = _
 rw [asS_s, Option.bind_some]
def sgnR : List UInt8 → List UInt8
 | [] => []
 | [a] => if a = 124 ∨ a = 60 ∨ a = 62 ∨ a = 59 ∨ a = 33 then [a] else []
 | a :: b :: _ => if (a = 62 ∧ b = 62) ∨ (a = 38 ∧ b = 38) ∨ (a = 124 ∧ b = 124) then [a, b] else if a = 124 ∨ a = 60 ∨ a = 62 ∨ a = 59 ∨ a = 33 then [a] else []
theorem pfx2 (x y a b : UInt8) (l : List UInt8) : pfx [x, y] (a :: b :: l) = (decide (a = x) && decide (b = y)) := by
 unfold pfx
 rw [← Bool.decide_and]
 congr 1
 simp
theorem pfx1 (x a : UInt8) (l : List UInt8) : pfx [x] (a :: l) = decide (a = x) := by
 unfold pfx
 congr 1
 simp
theorem pfx21 (x y a : UInt8) : pfx [x, y] [a] = false := decide_eq_false (by simp)
theorem pfx_nil (x : UInt8) (p : List UInt8) : pfx (x :: p) [] = false := decide_eq_false (by simp)
theorem sgn_eq : ∀ l : List UInt8, sgnF l = sgnR l
 | [] => by unfold sgnF sgs; simp only [List.find?, pfx_nil]; rfl
 | [a] => by
   unfold sgnF sgs sgnR
   simp only [List.find?, pfx21, pfx1]
   by_cases e1 : a = 124
   · subst e1; rfl
   · by_cases e2 : a = 60
     · subst e2; rfl
     · by_cases e3 : a = 62
       · subst e3; rfl
       · by_cases e4 : a = 59
         · subst e4; rfl
         · by_cases e5 : a = 33
           · subst e5; rfl
           · simp [e1, e2, e3, e4, e5]
 | a :: b :: r => by
   unfold sgnF sgs sgnR
   simp only [List.find?, pfx2, pfx1]
   by_cases e1 : a = 124
   · subst e1
     by_cases f : b = 124
     · subst f; rfl
     · simp [f]
   · by_cases e3 : a = 62
     · subst e3
       by_cases f : b = 62
       · subst f; rfl
       · simp [f]
     · by_cases e6 : a = 38
       · subst e6
         by_cases f : b = 38
         · subst f; rfl
         · simp [f]
       · by_cases e2 : a = 60
         · subst e2; rfl
         · by_cases e4 : a = 59
           · subst e4; rfl
           · by_cases e5 : a = 33
             · subst e5; rfl
             · simp [e1, e2, e3, e4, e5, e6]
def sg1 (n : Nat) : Bool := decide (n = 124) || (decide (n = 60) || (decide (n = 62) || (decide (n = 59) || decide (n = 33))))
theorem sgnR_e1 (a : UInt8) : sgnR [a] = if a = 124 ∨ a = 60 ∨ a = 62 ∨ a = 59 ∨ a = 33 then [a] else [] := rfl
theorem sgnR_e2 (a b : UInt8) (r : List UInt8) : sgnR (a :: b :: r) = if (a = 62 ∧ b = 62) ∨ (a = 38 ∧ b = 38) ∨ (a = 124 ∧ b = 124) then [a, b] else if a = 124 ∨ a = 60 ∨ a = 62 ∨ a = 59 ∨ a = 33 then [a] else [] := rfl
theorem sgnR_two {a b : UInt8} {r : List UInt8} (h : (decide ([a, b] = [62, 62]) || (decide ([a, b] = [38, 38]) || decide ([a, b] = [124, 124]))) = true) : sgnR (a :: b :: r) = [a, b] := by
 rw [sgnR_e2, if_pos (by simpa using h)]
theorem sg1_iff (a : UInt8) : sg1 a.toNat = true ↔ a = 124 ∨ a = 60 ∨ a = 62 ∨ a = 59 ∨ a = 33 := by
 have q : ∀ k : UInt8, (a.toNat = k.toNat) ↔ a = k := fun k => UInt8.toNat_inj
 have q1 := q 124; have q2 := q 60; have q3 := q 62; have q4 := q 59; have q5 := q 33
 simp only [UInt8.reduceToNat] at q1 q2 q3 q4 q5
 unfold sg1
 simp only [Bool.or_eq_true, decide_eq_true_eq, q1, q2, q3, q4, q5]
theorem sgnR_one {a : UInt8} {t : List UInt8} (h : t = [] ∨ ∃ b r, t = b :: r ∧ (decide ([a, b] = [62, 62]) || (decide ([a, b] = [38, 38]) || decide ([a, b] = [124, 124]))) = false) : sgnR (a :: t) = if sg1 a.toNat = true then [a] else [] := by
 have key : (if a = 124 ∨ a = 60 ∨ a = 62 ∨ a = 59 ∨ a = 33 then [a] else []) = if sg1 a.toNat = true then [a] else [] := by
  by_cases hs : sg1 a.toNat = true
  · rw [if_pos hs, if_pos ((sg1_iff a).1 hs)]
  · rw [if_neg hs, if_neg (fun e => hs ((sg1_iff a).2 e))]
 rcases h with rfl | ⟨b, r, rfl, h⟩
 · rw [sgnR_e1, key]
 · rw [sgnR_e2, if_neg (by intro hh; rw [← Bool.not_eq_true] at h; exact h (by simpa using hh)), key]
theorem t44 (Φ : Nat → Option CF) (h : Φ 44 = some c44) (a : UInt8) (t : List UInt8) (ht : t.length ≤ 1000000) (ct : Nat) : To Φ 44 [sV (a :: t)] ct (sV (sgnR (a :: t))) := by
 refine to_walk h ?_
 have hix : ixSV (sV (a :: t)) (.i .i64 0) = some (.i .u8 (a.toNat : Int)) := ixSs (a :: t) .i64 0 (by simp)
 have s1 : slSV (sV (a :: t)) none (some (.i .i64 1)) = some (sV [a]) := sl_nh (a :: t) .i64 1 (by simp)
 have q : ∀ k : Nat, decide ((a.toNat : Int) = (k : Int)) = decide (a.toNat = k) := fun k => by congr 1; exact propext (by omega)
 have q1 := q 124; have q2 := q 60; have q3 := q 62; have q4 := q 59; have q5 := q 33
 simp only [Int.cast_ofNat_Int] at q1 q2 q3 q4 q5
 clear q
 have e1 : V.s 2 15934 = sV [62, 62] := rfl
 have e2 : V.s 2 9766 = sV [38, 38] := rfl
 have e3 : V.s 2 31868 = sV [124, 124] := rfl
 cases t with
 | nil =>
   obtain ⟨n, hn⟩ : ∃ n, n = ([a] : List UInt8).length := ⟨_, rfl⟩
   have ln := @lnSs [] [a]
   rw [← hn] at ln
   have x0 : decide ((2 : Int) ≤ (n : Int)) = false := by rw [hn]; rfl
   rw [sgnR_one (.inl rfl)]
   unfold sg1
   generalize decide (a.toNat = 124) = w1 at q1 ⊢
   generalize decide (a.toNat = 60) = w2 at q2 ⊢
   generalize decide (a.toNat = 62) = w3 at q3 ⊢
   generalize decide (a.toNat = 59) = w4 at q4 ⊢
   generalize decide (a.toNat = 33) = w5 at q5 ⊢
   cases w1 with
   | true => simp only [WX, B44, ln, x0, hix, s1, q1, Bool.true_or]
   | false =>
    cases w2 with
    | true => simp only [WX, B44, ln, x0, hix, s1, q1, q2, Bool.true_or, Bool.or_true]
    | false =>
     cases w3 with
     | true => simp only [WX, B44, ln, x0, hix, s1, q1, q2, q3, Bool.true_or, Bool.or_true]
     | false =>
      cases w4 with
      | true => simp only [WX, B44, ln, x0, hix, s1, q1, q2, q3, q4, Bool.true_or, Bool.or_true]
      | false =>
       cases w5 with
       | true => simp only [WX, B44, ln, x0, hix, s1, q1, q2, q3, q4, q5, Bool.or_true]
       | false =>
        simp only [WX, B44, ln, x0, hix, q1, q2, q3, q4, q5, Bool.or_false]
        rfl
 | cons b r =>
   obtain ⟨n, hn⟩ : ∃ n, n = (a :: b :: r).length := ⟨_, rfl⟩
   have ln := @lnSs [] (a :: b :: r)
   rw [← hn] at ln
   have x0 : decide ((2 : Int) ≤ (n : Int)) = true := decide_eq_true (by rw [hn, List.length_cons, List.length_cons]; omega)
   have s2 : slSV (sV (a :: b :: r)) none (some (.i .i64 2)) = some (sV [a, b]) := sl_nh (a :: b :: r) .i64 2 (by simp)
   have p1 := bi_seq [a, b] [62, 62]
   have p2 := bi_seq [a, b] [38, 38]
   have p3 := bi_seq [a, b] [124, 124]
   rw [← e1] at p1
   rw [← e2] at p2
   rw [← e3] at p3
   cases y1 : decide ([a, b] = [62, 62]) with
   | true =>
     rw [y1] at p1
     rw [sgnR_two (by rw [y1]; rfl)]
     simp only [WX, B44, ln, x0, s2, p1]
   | false =>
     rw [y1] at p1
     cases y2 : decide ([a, b] = [38, 38]) with
     | true =>
       rw [y2] at p2
       rw [sgnR_two (by rw [y1, y2]; rfl)]
       simp only [WX, B44, ln, x0, s2, p1, p2]
     | false =>
       rw [y2] at p2
       cases y3 : decide ([a, b] = [124, 124]) with
       | true =>
         rw [y3] at p3
         rw [sgnR_two (by rw [y1, y2, y3]; rfl)]
         simp only [WX, B44, ln, x0, s2, p1, p2, p3]
       | false =>
         rw [y3] at p3
         rw [sgnR_one (.inr ⟨b, r, rfl, by rw [y1, y2, y3]; rfl⟩)]
         unfold sg1
         generalize decide (a.toNat = 124) = w1 at q1 ⊢
         generalize decide (a.toNat = 60) = w2 at q2 ⊢
         generalize decide (a.toNat = 62) = w3 at q3 ⊢
         generalize decide (a.toNat = 59) = w4 at q4 ⊢
         generalize decide (a.toNat = 33) = w5 at q5 ⊢
         cases w1 with
         | true => simp only [WX, B44, ln, x0, s2, p1, p2, p3, hix, s1, q1, Bool.true_or]
         | false =>
          cases w2 with
          | true => simp only [WX, B44, ln, x0, s2, p1, p2, p3, hix, s1, q1, q2, Bool.true_or, Bool.or_true]
          | false =>
           cases w3 with
           | true => simp only [WX, B44, ln, x0, s2, p1, p2, p3, hix, s1, q1, q2, q3, Bool.true_or, Bool.or_true]
           | false =>
            cases w4 with
            | true => simp only [WX, B44, ln, x0, s2, p1, p2, p3, hix, s1, q1, q2, q3, q4, Bool.true_or, Bool.or_true]
            | false =>
             cases w5 with
             | true => simp only [WX, B44, ln, x0, s2, p1, p2, p3, hix, s1, q1, q2, q3, q4, q5, Bool.or_true]
             | false =>
              simp only [WX, B44, ln, x0, s2, p1, p2, p3, hix, q1, q2, q3, q4, q5, Bool.or_false]
              rfl
abbrev Pc := List UInt8 × Bool
def pcV (p : Pc) : List V := [sV p.1, .b p.2]
def pcE (w : List Pc) : List (List V) := w.map pcV
def qn (t : List UInt8) : Nat := (t.takeWhile qtB).length
theorem qn_cons (x : UInt8) (t : List UInt8) : qn (x :: t) = if qtB x = true then qn t + 1 else 0 := by
 unfold qn
 rw [List.takeWhile_cons]
 split <;> rfl
def stW : List UInt8 → Option (Option (Nat × List UInt8 × Bool))
 | [] => none
 | c :: t => if c = 32 ∨ sgnR (c :: t) ≠ [] ∨ c = 38 then none
   else if c = 39 then (if (t.drop (qn t)).head? = some 39 then some (some (qn t + 1, t.take (qn t), false)) else some none)
   else if c = 36 then (if t.head? = some 63 then some (some (1, [], true)) else some none)
   else if plB c = true then some (some (0, [c], false)) else some none
theorem stW_ne {r : List UInt8} {x : Option (Nat × List UInt8 × Bool)} (h : stW r = some x) : 0 < r.length := by
 cases r with
 | nil => cases h
 | cons c t => simp
def rdEnd (w : List Pc) (text : List UInt8) (sm : Bool) : List Pc := if text ≠ [] ∨ (sm = true ∧ w = []) then w ++ [(text, false)] else w
def rdMid (w : List Pc) (text : List UInt8) : List Pc := (if text ≠ [] then w ++ [(text, false)] else w) ++ [([], true)]
def rdF : Nat → List UInt8 → List Pc → List UInt8 → Bool → Nat → Option (List Pc × Nat)
 | 0, _, _, _, _, _ => none
 | f + 1, r, w, text, sm, n => match stW r with
   | none => some (rdEnd w text sm, n)
   | some none => none
   | some (some (k, bs, true)) => rdF f (r.drop (k + 1)) (rdMid w text) [] false (n + (k + 1))
   | some (some (k, bs, false)) => rdF f (r.drop (k + 1)) w (text ++ bs) true (n + (k + 1))
theorem rdF_fuel : ∀ (f g : Nat) (r : List UInt8) (w : List Pc) (text : List UInt8) (sm : Bool) (n : Nat), r.length < f → r.length < g → rdF f r w text sm n = rdF g r w text sm n
 | 0, _, _, _, _, _, _, h, _ => by omega
 | _, 0, _, _, _, _, _, _, h => by omega
 | f + 1, g + 1, r, w, text, sm, n, h1, h2 => by
   unfold rdF
   cases hs : stW r with
   | none => rfl
   | some x =>
     have hr := stW_ne hs
     match x with
     | none => rfl
     | some (k, bs, true) => exact rdF_fuel f g _ _ _ _ _ (by rw [List.length_drop]; omega) (by rw [List.length_drop]; omega)
     | some (k, bs, false) => exact rdF_fuel f g _ _ _ _ _ (by rw [List.length_drop]; omega) (by rw [List.length_drop]; omega)
def rdW (r : List UInt8) (w : List Pc) (text : List UInt8) (sm : Bool) (n : Nat) : Option (List Pc × Nat) := rdF (r.length + 1) r w text sm n
theorem rdW_done {r : List UInt8} {w : List Pc} {text : List UInt8} {sm : Bool} {n : Nat} (h : stW r = none) : rdW r w text sm n = some (rdEnd w text sm, n) := by
 unfold rdW rdF; rw [h]
theorem rdW_bad {r : List UInt8} {w : List Pc} {text : List UInt8} {sm : Bool} {n : Nat} (h : stW r = some none) : rdW r w text sm n = none := by
 unfold rdW rdF; rw [h]
theorem rdW_stat {r : List UInt8} {w : List Pc} {text bs : List UInt8} {sm : Bool} {n k : Nat} (h : stW r = some (some (k, bs, true))) : rdW r w text sm n = rdW (r.drop (k + 1)) (rdMid w text) [] false (n + (k + 1)) := by
 have hr := stW_ne h
 unfold rdW
 rw [rdF, h]
 exact rdF_fuel _ _ _ _ _ _ _ (by rw [List.length_drop]; omega) (by omega)
theorem rdW_text {r : List UInt8} {w : List Pc} {text bs : List UInt8} {sm : Bool} {n k : Nat} (h : stW r = some (some (k, bs, false))) : rdW r w text sm n = rdW (r.drop (k + 1)) w (text ++ bs) true (n + (k + 1)) := by
 have hr := stW_ne h
 unfold rdW
 rw [rdF, h]
 exact rdF_fuel _ _ _ _ _ _ _ (by rw [List.length_drop]; omega) (by omega)
def b45_1 : CC := (.reg [(aa a2 (.al 36 [.l0])), (qq a3 (.mv (x6 0)))])
def w45_1 := wu b45_1.eq_1
def b45_2 : CC := (.reg [(qq a5 (.mv (x6 0)))])
def w45_2 := wu b45_2.eq_1
def b45_3 : CC := (.reg [(qq a6 (.mv (.c (.s 0 0)))), (qq a7 (.mv xF))])
def w45_3 := wu b45_3.eq_1
def b45_4 : CC := (.reg [(qq a10 (.mv z5)), (qq a11 (.mv z0)), (qq a12 (.ln .str z11)), (qq a13 (.bi .lss z10 z12))])
def w45_4 := wu b45_4.eq_1
def b45_5 : CC := (.reg [(qq a14 (.mv z0)), (qq a15 (.mv z5)), (qq a16 (.ixS z14 z15)), (qq a8 (.mv z16))])
def w45_5 := wu b45_5.eq_1
def b45_6 : CC := (.reg [(qq a17 (.mv z8)), (qq a18 (.bi .eql z17 (.c (.i .u8 32)))), (qq a19 (.mv z18)), ⟨(some a20), .q (.mv z0), (some (a19, false))⟩, ⟨(some a21), .q (.mv z5), (some (a19, false))⟩, ⟨(some a22), .q (.slS z20 (some z21) none), (some (a19, false))⟩, ⟨(some a23), .e (.call 44 [z22]), (some (a19, false))⟩, ⟨(some a24), .q (.bi .neq z23 (.c (.s 0 0))), (some (a19, false))⟩, (qq a25 (.pk z19 xT z24)), (qq a26 (.mv z25)), ⟨(some a27), .q (.mv z8), (some (a26, false))⟩, ⟨(some a28), .q (.bi .eql z27 (.c (.i .u8 38))), (some (a26, false))⟩, (qq a29 (.pk z26 xT z28))])
def w45_6 := wu b45_6.eq_1
def b45_7 : CC := (.seq b45_6 (.cond z29 (.exit 0) .skip))
def w45_7 := wu b45_7.eq_1
def b45_8 : CC := (.reg [(qq a32 (.mv z8)), (qq a33 (.bi .eql z32 (.c (.i .u8 39)))), (qq a31 (.mv z33))])
def w45_8 := wu b45_8.eq_1
def b45_9 : CC := (.reg [(qq a34 (.mv z5)), (qq a35 (.bi .add z34 (x6 1))), (qq a9 (.mv z35))])
def w45_9 := wu b45_9.eq_1
def b45_10 : CC := (.reg [(qq a36 (.mv z9)), (qq a37 (.mv z0)), (qq a38 (.ln .str z37)), (qq a39 (.bi .lss z36 z38)), (qq a40 (.mv z39)), ⟨(some a41), .q (.mv z0), (some (a40, true))⟩, ⟨(some a42), .q (.mv z9), (some (a40, true))⟩, ⟨(some a43), .q (.ixS z41 z42), (some (a40, true))⟩, ⟨(some a44), .e (.call 69 [z43]), (some (a40, true))⟩, (qq a45 (.pk z40 z44 xF))])
def w45_10 := wu b45_10.eq_1
def b45_11 : CC := (.seq b45_10 (.cond z45 .skip (.exit 3)))
def w45_11 := wu b45_11.eq_1
def b45_12 : CC := (.reg [(qq a46 (.mv z9)), (qq a47 (.bi .add z46 (x6 1))), (qq a9 (.mv z47))])
def w45_12 := wu b45_12.eq_1
def b45_13 : CC := (.reg [(qq a48 (.mv z9)), (qq a49 (.mv z0)), (qq a50 (.ln .str z49)), (qq a51 (.bi .eql z48 z50)), (qq a52 (.mv z51)), ⟨(some a53), .q (.mv z0), (some (a52, false))⟩, ⟨(some a54), .q (.mv z9), (some (a52, false))⟩, ⟨(some a55), .q (.ixS z53 z54), (some (a52, false))⟩, ⟨(some a56), .q (.bi .neq z55 (.c (.i .u8 39))), (some (a52, false))⟩, (qq a57 (.pk z52 xT z56))])
def w45_13 := wu b45_13.eq_1
def b45_14 : CC := (.reg [(qq a58 (.bld [.l0] [])), (ez (.st 1 z2 z58)), (qq a3 (.mv (x6 0)))])
def w45_14 := wu b45_14.eq_1
def b45_15 : CC := (.cond z57 (.seq b45_14 .ret) .skip)
def w45_15 := wu b45_15.eq_1
def b45_16 : CC := (.reg [(qq a59 (.mv z6)), (qq a60 (.mv z0)), (qq a61 (.mv z5)), (qq a62 (.bi .add z61 (x6 1))), (qq a63 (.mv z9)), (qq a64 (.slS z60 (some z62) (some z63))), (qq a65 (.bi .add z59 z64)), (qq a6 (.mv z65)), (qq a7 (.mv xT))])
def w45_16 := wu b45_16.eq_1
def b45_17 : CC := (.reg [(qq a66 (.mv z9)), (qq a67 (.bi .add z66 (x6 1))), (qq a5 (.mv z67))])
def w45_17 := wu b45_17.eq_1
def b45_18 : CC := (.seq (.block 3 (.loop (.seq b45_11 (.block 4 b45_12)))) (.seq (.seq b45_13 b45_15) (.seq b45_16 b45_17)))
def w45_18 := wu b45_18.eq_1
def b45_19 : CC := (.reg [(qq a69 (.mv z8)), (qq a70 (.bi .eql z69 (.c (.i .u8 36)))), (qq a68 (.mv z70))])
def w45_19 := wu b45_19.eq_1
def b45_20 : CC := (.reg [(qq a71 (.mv z5)), (qq a72 (.bi .add z71 (x6 1))), (qq a73 (.mv z0)), (qq a74 (.ln .str z73)), (qq a75 (.bi .geq z72 z74)), (qq a76 (.mv z75)), ⟨(some a77), .q (.mv z0), (some (a76, false))⟩, ⟨(some a78), .q (.mv z5), (some (a76, false))⟩, ⟨(some a79), .q (.bi .add z78 (x6 1)), (some (a76, false))⟩, ⟨(some a80), .q (.ixS z77 z79), (some (a76, false))⟩, ⟨(some a81), .q (.bi .neq z80 (.c (.i .u8 63))), (some (a76, false))⟩, (qq a82 (.pk z76 xT z81))])
def w45_20 := wu b45_20.eq_1
def b45_21 : CC := (.reg [(qq a83 (.bld [.l0] [])), (ez (.st 1 z2 z83)), (qq a3 (.mv (x6 0)))])
def w45_21 := wu b45_21.eq_1
def b45_22 : CC := (.cond z82 (.seq b45_21 .ret) .skip)
def w45_22 := wu b45_22.eq_1
def b45_23 : CC := (.reg [(qq a84 (.mv z6)), (qq a85 (.bi .neq z84 (.c (.s 0 0))))])
def w45_23 := wu b45_23.eq_1
def b45_24 : CC := (.reg [(qq a86 (.fa 0 z4)), (qq a87 (.ld1 z86)), (qq a88 (.mv z6)), (qq a89 (.bld [(.s 0 0), (.b false)] [(0, 1, z88)])), (aa a90 (.bsl 64 1 2 [(.s 0 0), (.b false)] [(0, z89)])), (ee a91 (.app 64 2 24 z87 z90)), (qq a92 (.fa 0 z4)), (ez (.st 1 z92 z91))])
def w45_24 := wu b45_24.eq_1
def b45_25 : CC := (.seq b45_23 (.cond z85 b45_24 .skip))
def w45_25 := wu b45_25.eq_1
def b45_26 : CC := (.reg [(qq a6 (.mv (.c (.s 0 0)))), (qq a7 (.mv xF))])
def w45_26 := wu b45_26.eq_1
def b45_27 : CC := (.reg [(qq a93 (.fa 0 z4)), (qq a94 (.ld1 z93)), (qq a95 (.bld [(.s 0 0), (.b false)] [(1, 1, xT)])), (aa a96 (.bsl 64 1 2 [(.s 0 0), (.b false)] [(0, z95)])), (ee a97 (.app 64 2 24 z94 z96)), (qq a98 (.fa 0 z4)), (ez (.st 1 z98 z97))])
def w45_27 := wu b45_27.eq_1
def b45_28 : CC := (.reg [(qq a99 (.mv z5)), (qq a100 (.bi .add z99 (x6 2))), (qq a5 (.mv z100))])
def w45_28 := wu b45_28.eq_1
def b45_29 : CC := (.seq (.seq b45_20 b45_22) (.seq b45_25 (.seq b45_26 (.seq b45_27 b45_28))))
def w45_29 := wu b45_29.eq_1
def b45_30 : CC := (.reg [(qq a102 (.mv z8)), (ee a103 (.call 68 [z102])), (qq a101 (.mv z103))])
def w45_30 := wu b45_30.eq_1
def b45_31 : CC := (.reg [(qq a104 (.mv z6)), (qq a105 (.mv z0)), (qq a106 (.mv z5)), (qq a107 (.mv z5)), (qq a108 (.bi .add z107 (x6 1))), (qq a109 (.slS z105 (some z106) (some z108))), (qq a110 (.bi .add z104 z109)), (qq a6 (.mv z110)), (qq a7 (.mv xT))])
def w45_31 := wu b45_31.eq_1
def b45_32 : CC := (.reg [(qq a111 (.mv z5)), (qq a112 (.bi .add z111 (x6 1))), (qq a5 (.mv z112))])
def w45_32 := wu b45_32.eq_1
def b45_33 : CC := (.reg [(qq a30 (.bld [.l0] [])), (ez (.st 1 z2 z30)), (qq a3 (.mv (x6 0)))])
def w45_33 := wu b45_33.eq_1
def b45_34 : CC := (.cond z101 (.seq b45_31 b45_32) (.seq b45_33 .ret))
def w45_34 := wu b45_34.eq_1
def b45_35 : CC := (.cond z68 b45_29 (.seq b45_30 b45_34))
def w45_35 := wu b45_35.eq_1
def b45_36 : CC := (.cond z31 (.seq b45_9 b45_18) (.seq b45_19 b45_35))
def w45_36 := wu b45_36.eq_1
def b45_37 : CC := (.block 1 (.seq b45_5 (.seq b45_7 (.block 2 (.seq b45_8 b45_36)))))
def w45_37 := wu b45_37.eq_1
def b45_38 : CC := (.seq (.seq b45_4 (.cond z13 .skip (.exit 0))) b45_37)
def w45_38 := wu b45_38.eq_1
def b45_39 : CC := (.reg [(qq a113 (.mv z6)), (qq a114 (.bi .neq z113 (.c (.s 0 0)))), (qq a115 (.mv z114)), ⟨(some a116), .q (.mv z7), (some (a115, false))⟩, ⟨(some a117), .q (.mv z116), (some (a115, false))⟩, ⟨(some a118), .q (.fa 0 z4), (some (a117, true))⟩, ⟨(some a119), .q (.ld1 z118), (some (a117, true))⟩, ⟨(some a120), .q (.ln .slice z119), (some (a117, true))⟩, ⟨(some a121), .q (.bi .eql z120 (x6 0)), (some (a117, true))⟩, ⟨(some a122), .q (.pk z117 z121 xF), (some (a115, false))⟩, (qq a123 (.pk z115 xT z122))])
def w45_39 := wu b45_39.eq_1
def b45_40 : CC := (.reg [(qq a124 (.fa 0 z4)), (qq a125 (.ld1 z124)), (qq a126 (.mv z6)), (qq a127 (.bld [(.s 0 0), (.b false)] [(0, 1, z126)])), (aa a128 (.bsl 64 1 2 [(.s 0 0), (.b false)] [(0, z127)])), (ee a129 (.app 64 2 24 z125 z128)), (qq a130 (.fa 0 z4)), (ez (.st 1 z130 z129))])
def w45_40 := wu b45_40.eq_1
def b45_41 : CC := (.seq b45_39 (.cond z123 b45_40 .skip))
def w45_41 := wu b45_41.eq_1
def b45_42 : CC := (.reg [(qq a131 (.ldn 1 z4)), (qq a132 (.mv z5)), (ez (.st 1 z2 z131)), (qq a3 (.mv z132))])
def w45_42 := wu b45_42.eq_1
def b45_43 : CC := (.seq (.block 0 (.loop b45_38)) (.seq b45_41 (.seq b45_42 .ret)))
def w45_43 := wu b45_43.eq_1
def b45_44 : CC := (.seq (.reg [(aa a4 (.al 36 [.l0]))]) (.seq b45_2 (.seq b45_3 b45_43)))
def w45_44 := wu b45_44.eq_1
def c45 : CF := .mk 8 [.cn a2 1, .t a3] (.seq b45_1 b45_44)
theorem e45 (v0 : V) : argTr 8 [v0] = (.n sk7 (some v0) sk7) := rfl
def B45 := ai @e45 (ai @w45_1 (ai @w45_2 (ai @w45_3 (ai @w45_4 (ai @w45_5 (ai @w45_6 (ai @w45_7 (ai @w45_8 (ai @w45_9 (ai @w45_10 (ai @w45_11 (ai @w45_12 (ai @w45_13 (ai @w45_14 (ai @w45_15 (ai @w45_16 (ai @w45_17 (ai @w45_18 (ai @w45_19 (ai @w45_20 (ai @w45_21 (ai @w45_22 (ai @w45_23 (ai @w45_24 (ai @w45_25 (ai @w45_26 (ai @w45_27 (ai @w45_28 (ai @w45_29 (ai @w45_30 (ai @w45_31 (ai @w45_32 (ai @w45_33 (ai @w45_34 (ai @w45_35 (ai @w45_36 (ai @w45_37 (ai @w45_38 (ai @w45_39 (ai @w45_40 (ai @w45_41 (ai @w45_42 (ai @w45_43 (@w45_44))))))))))))))))))))))))))))))))))))))))))))
def h44 : List V → Option V
 | [v] => (asS v).bind fun l => match l with | [] => none | a :: t => if t.length ≤ 1000000 then some (sV (sgnR (a :: t))) else none
 | _ => none
theorem h44_eq (a : UInt8) (t : List UInt8) (ht : t.length ≤ 1000000) : h44 [sV (a :: t)] = some (sV (sgnR (a :: t))) := by
 show (asS (sV (a :: t))).bind (fun l => match l with | [] => none | a :: t => if t.length ≤ 1000000 then some (sV (sgnR (a :: t))) else none) = _
 rw [asS_s, Option.bind_some]; exact if_pos ht
def WdP (F : RO) (s : List UInt8) (c : Nat) (r : V) (M' : Mem) (c' : Nat) : Prop := (∃ ps n v, rdW s [] [] false 0 = some (ps, n) ∧ n ≤ s.length ∧ r = .t [.g [v], .i .i64 (n : Int)] ∧ ∃ b, AccAt M' c c' b 64 2 v (pcE ps)) ∨ (rdW s [] [] false 0 = none ∧ r = .t [.g [.l0], .i .i64 0])
theorem pcE_app (w : List Pc) (p : Pc) : pcE (w ++ [p]) = pcE w ++ [pcV p] := by unfold pcE; rw [List.map_append]; rfl
theorem pcE_len (w : List Pc) : (pcE w).length = w.length := List.length_map ..
theorem acc_len {M : Mem} {c0 c b : Nat} {v : V} {w : List Pc} (h : AccAt M c0 c b 64 2 v (pcE w)) : lnL v = some (.i .i64 (w.length : Int)) := by
 have := (h.sl (F := [])).len; rwa [pcE_len] at this
theorem acc_one {M : Mem} {c0 c b : Nat} {v : V} {w : List Pc} (h : AccAt M c0 c b 64 2 v (pcE w)) : isOne v = true ∧ flatten v = [v] ∧ allOne [v] = true := by
 rcases h with ⟨_, ⟨_, rfl⟩ | ⟨_, _, rfl, _⟩⟩ <;> exact ⟨rfl, rfl, rfl⟩
theorem pc_push {F : RO} {M1 : Mem} {c0 c1 b1 : Nat} {v : V} {w : List Pc} (p : Pc) (hA : AccAt M1 c0 c1 b1 64 2 v (pcE w)) (ok1 : Okm F M1 c1) (h0 : c0 ≤ c1) (hw : w.length ≤ 1000000) :
  RTo (appV F (M1.set c1 (rowD [V.s 0 0, V.b false] 64 [sV p.1, .b p.2])) (c1 + 1) 64 2 24 v (.l c1 0 1 1)) fun v' M' c' => ∃ b', AccAt M' c0 c' b' 64 2 v' (pcE (w ++ [p])) ∧ Gr c0 M1 c' M' ∧ c1 + 1 ≤ c' ∧ (∀ x, x < c1 → x ≠ b1 → M'.get x = M1.get x) := by
 have grY : Gr c0 M1 (c1 + 1) (M1.set c1 (rowD [V.s 0 0, V.b false] 64 [sV p.1, .b p.2])) := ⟨by omega, fun b hb => get_ne _ _ (by omega), fun b hb => by rw [get_ne _ _ (by omega)]; exact ok1.hiM b (by omega)⟩
 have hy : SlAt F (M1.set c1 (rowD [V.s 0 0, V.b false] 64 [sV p.1, .b p.2])) (c1 + 1) 2 (.l c1 0 1 1) (pcE [p]) := slD (d := [V.s 0 0, V.b false]) (ty := 64) (by rw [get_same]; rfl) (by omega) (fun e he => by obtain ⟨x, _, rfl⟩ := List.mem_map.1 he; rfl) rfl
 refine (appV_to (bytes := 24) (hA.up (show c1 ≤ c1 + 1 by omega) (fun hx => get_ne _ _ (by omega))) (c0 := c0) (M0 := M1) grY (by decide) hy rfl (room_of (by rw [pcE_len, pcE_len]; simp; omega) (by rw [pcE_len, pcE_len]; simp; omega))).mono ?_
 rintro v' M' c' ⟨b', h1, h2, h3, h4, _⟩
 exact ⟨b', by rw [pcE_app]; exact h1, h2, h3, fun x hx hb => (h4 x (by omega) hb).trans (get_ne _ _ (by omega))⟩
theorem acc_low {M : Mem} {c0 c0' c b ty sz : Nat} {v : V} {es : List (List V)} (h : AccAt M c0 c b ty sz v es) (hx : c0' ≤ c0) : AccAt M c0' c b ty sz v es := by
 rcases h with ⟨h0, h | ⟨h1, h2, h3, h4⟩⟩
 · exact ⟨h0, .inl h⟩
 · exact ⟨h0, .inr ⟨by omega, h2, h3, h4⟩⟩
theorem acc_low1 {M : Mem} {c0 c1 b x ty sz : Nat} {y : Blk} {v : V} {es : List (List V)} (h : AccAt M c0 c1 b ty sz v es) (hx : x < c0) : AccAt (M.set x y) c0 c1 b ty sz v es := by
 rcases h with ⟨h0, h | ⟨h1, h2, h3, h4⟩⟩
 · exact ⟨h0, .inl h⟩
 · exact ⟨h0, .inr ⟨h1, h2, h3, by rw [get_ne _ _ (by omega)]; exact h4⟩⟩
theorem end45 (Φ : Nat → Option CF) {F : RO} {M M1 : Mem} {c c1 b1 : Nat} (ok : Okm F M c) (s : List UInt8) (i : Nat) (hi : i ≤ s.length) (v : V) (w : List Pc) (text : List UInt8) (sm : Bool) (hw : w.length ≤ 1000000) (gr : Gr c M c1 M1) (hc : M1.get c = some (rowB 36 [.l0])) (hc1 : M1.get (c + 1) = some (rowB 36 [v])) (hlt : c + 2 ≤ c1) (hA : AccAt M1 (c + 2) c1 b1 64 2 v (pcE w)) (hres : rdW s [] [] false 0 = some (rdEnd w text sm, i)) (u : List (Option V)) :
  Wp b45_41 (K Φ none 45 F) (.mk ((.n (.n (.n (.n (.n (uv7 u 127 63 191 31 159 95 223) (uO u 15) (uv7 u 143 79 207 47 175 111 239)) (some (.b sm)) (.n (uv7 u 135 71 199 39 167 103 231) (uO u 23) (uv7 u 151 87 215 55 183 119 247))) (uO u 3) (.n (.n (uv7 u 131 67 195 35 163 99 227) (uO u 19) (uv7 u 147 83 211 51 179 115 243)) (uO u 11) (.n (uv7 u 139 75 203 43 171 107 235) (uO u 27) (uv7 u 155 91 219 59 187 123 251)))) (uO u 1) (.n (.n (.n (uv7 u 129 65 193 33 161 97 225) (uO u 17) (uv7 u 145 81 209 49 177 113 241)) (uO u 9) (.n (uv7 u 137 73 201 41 169 105 233) (uO u 25) (uv7 u 153 89 217 57 185 121 249))) (some (.i .i64 (i : Int))) (.n (.n (uv7 u 133 69 197 37 165 101 229) (uO u 21) (uv7 u 149 85 213 53 181 117 245)) (uO u 13) (.n (uv7 u 141 77 205 45 173 109 237) (uO u 29) (uv7 u 157 93 221 61 189 125 253))))) (uO u 0) (.n (.n (.n (.n (uv7 u 128 64 192 32 160 96 224) (uO u 16) (uv7 u 144 80 208 48 176 112 240)) (uO u 8) (.n (uv7 u 136 72 200 40 168 104 232) (uO u 24) (uv7 u 152 88 216 56 184 120 248))) (some (.p (c + 1) 0)) (.n (.n (uv7 u 132 68 196 36 164 100 228) (uO u 20) (uv7 u 148 84 212 52 180 116 244)) (uO u 12) (.n (uv7 u 140 76 204 44 172 108 236) (uO u 28) (uv7 u 156 92 220 60 188 124 252)))) (some (.p c 0)) (.n (.n (.n (uv7 u 130 66 194 34 162 98 226) (uO u 18) (uv7 u 146 82 210 50 178 114 242)) (uO u 10) (.n (uv7 u 138 74 202 42 170 106 234) (uO u 26) (uv7 u 154 90 218 58 186 122 250))) (some (sV text)) (.n (.n (uv7 u 134 70 198 38 166 102 230) (uO u 22) (uv7 u 150 86 214 54 182 118 246)) (uO u 14) (.n (uv7 u 142 78 206 46 174 110 238) (uO u 30) (uv7 u 158 94 222 62 190 126 254))))))) [] M1 c1) (seqQ (b45_42.seq CC.ret) (K Φ none 45 F) (endQ F [.cn (.r .h) 1, .t (.l (.l .h))] fun r M' c' => WdP F s c r M' c' ∧ Gr c M c' M')) := by
 have hF : ∀ w, flatten (sV w) = [sV w] := fun _ => rfl
 have hO : ∀ w, isOne (sV w) = true := fun _ => rfl
 have hR : ∀ t, replL [V.s 0 0, V.b false] 0 [sV t] = some [sV t, V.b false] := fun _ => rfl
 have hG : ∀ t, flatten (V.g [sV t, V.b false]) = [sV t, V.b false] := fun _ => rfl
 have hG1 : ∀ v, flatten (V.g [v]) = [v] := fun _ => rfl
 have ok1 := gr.ok ok
 have l1 : load1 F M1 (c + 1) 0 = some v := load_row hc1 0
 have qn := bi_sne text []
 have e0 : V.s 0 0 = sV [] := rfl
 rw [← e0] at qn
 have e1 : sV [] = V.s 0 0 := rfl
 have FIN : ∀ (v' : V) (M2 : Mem) (c2 b2 : Nat) (W : List Pc), rdEnd w text sm = W → AccAt M2 (c + 2) c2 b2 64 2 v' (pcE W) → Gr (c + 2) M1 c2 M2 → c1 ≤ c2 → WdP F s c (V.t [V.g [v'], V.i IntKind.i64 (i : Int)]) ((M2.set (c + 1) (rowB 36 [v'])).set c (rowB 36 [v'])) c2 ∧ Gr c M c2 ((M2.set (c + 1) (rowB 36 [v'])).set c (rowB 36 [v'])) := by
  intro v' M2 c2 b2 W hW hA2 gr2 hle
  refine ⟨.inl ⟨W, i, v', by rw [hres, hW], hi, rfl, b2, acc_low (acc_low1 (acc_low1 hA2 (by omega)) (by omega)) (by omega)⟩, ?_⟩
  exact ⟨by omega, fun b hb => by rw [get_ne _ _ (by omega), get_ne _ _ (by omega), gr2.old b (by omega), gr.old b hb], fun b hb => by rw [get_ne _ _ (by omega), get_ne _ _ (by omega)]; exact gr2.new b hb⟩
 have gr0 : Gr (c + 2) M1 c1 M1 := ⟨hlt, fun _ _ => rfl, ok1.hiM⟩
 by_cases ht : text = []
 · subst ht
   rw [decide_eq_true rfl] at qn
   rw [e1] at qn ⊢
   have NOP : ∀ u : List (Option V), rdEnd w [] sm = w → Wp b45_42 (K Φ none 45 F) (.mk ((.n (.n (.n (.n (.n (uv7 u 127 63 191 31 159 95 223) (uO u 15) (uv7 u 143 79 207 47 175 111 239)) (uO u 7) (.n (uv7 u 135 71 199 39 167 103 231) (uO u 23) (uv7 u 151 87 215 55 183 119 247))) (uO u 3) (.n (.n (uv7 u 131 67 195 35 163 99 227) (uO u 19) (uv7 u 147 83 211 51 179 115 243)) (uO u 11) (.n (uv7 u 139 75 203 43 171 107 235) (uO u 27) (uv7 u 155 91 219 59 187 123 251)))) (uO u 1) (.n (.n (.n (uv7 u 129 65 193 33 161 97 225) (uO u 17) (uv7 u 145 81 209 49 177 113 241)) (uO u 9) (.n (uv7 u 137 73 201 41 169 105 233) (uO u 25) (uv7 u 153 89 217 57 185 121 249))) (some (.i .i64 (i : Int))) (.n (.n (uv7 u 133 69 197 37 165 101 229) (uO u 21) (uv7 u 149 85 213 53 181 117 245)) (uO u 13) (.n (uv7 u 141 77 205 45 173 109 237) (uO u 29) (uv7 u 157 93 221 61 189 125 253))))) (uO u 0) (.n (.n (.n (.n (uv7 u 128 64 192 32 160 96 224) (uO u 16) (uv7 u 144 80 208 48 176 112 240)) (uO u 8) (.n (uv7 u 136 72 200 40 168 104 232) (uO u 24) (uv7 u 152 88 216 56 184 120 248))) (some (.p (c + 1) 0)) (.n (.n (uv7 u 132 68 196 36 164 100 228) (uO u 20) (uv7 u 148 84 212 52 180 116 244)) (uO u 12) (.n (uv7 u 140 76 204 44 172 108 236) (uO u 28) (uv7 u 156 92 220 60 188 124 252)))) (some (.p c 0)) (.n (.n (.n (uv7 u 130 66 194 34 162 98 226) (uO u 18) (uv7 u 146 82 210 50 178 114 242)) (uO u 10) (.n (uv7 u 138 74 202 42 170 106 234) (uO u 26) (uv7 u 154 90 218 58 186 122 250))) (uO u 6) (.n (.n (uv7 u 134 70 198 38 166 102 230) (uO u 22) (uv7 u 150 86 214 54 182 118 246)) (uO u 14) (.n (uv7 u 142 78 206 46 174 110 238) (uO u 30) (uv7 u 158 94 222 62 190 126 254))))))) [] M1 c1) (seqQ .ret (K Φ none 45 F) (endQ F [.cn (.r .h) 1, .t (.l (.l .h))] fun r M' c' => WdP F s c r M' c' ∧ Gr c M c' M')) := by
    intro u hW
    obtain ⟨w1, w2, w3⟩ := acc_one hA
    have hld := loadN_row (F := F) hc1 1 rfl
    have hst2 := store_row hc 0 [v] (by simp) w3
    have hld2 := loadN_row (F := F) (get_same M1 c (rowB 36 [v])) 1 rfl
    have := FIN v M1 c1 b1 w hW hA gr0 (Nat.le_refl _)
    rw [← set_same hc1] at this
    simp only [WX, B45, hld, hG1, hst2, hld2]
    exact this
   have hlv := acc_len hA
   cases sm with
   | false =>
     simp only [WX, w45_39, w45_41, qn]
     exact NOP [_, _, none, _, none, none, _, _, _, _, _, _, _, _, _, _, _, _, _, _, _, _, _, _, _, _, _, _, _, _, _, _, _, _, _, _, _, _, _, _, _, _, _, _, _, _, _, _, _, _, _, _, _, _, _, _, _, _, _, _, _, _, _, _, _, _, _, _, _, _, _, _, _, _, _, _, _, _, _, _, _, _, _, _, _, _, _, _, _, _, _, _, _, _, _, _, _, _, _, _, _, _, _, _, _, _, _, _, _, _, _, _, _, _, _, _, _, _, _, _, _, _, _, _, _, _, _, _, _, _, _, _, _, _, _, _, _, _, _, _, _, _, _, _, _, _, _, _, _, _, _, _, _, _, _, _, _, _, _, _, _, _, _, _, _, _, _, _, _, _, _, _, _, _, _, _, _, _, _, _, _, _, _, _, _, _, _, _, _, _, _, _, _, _, _, _, _, _, _, _, _, _, _, _, _, _, _, _, _, _, _, _, _, _, _, _, _, _, _, _, _, _, _, _, _, _, _, _, _, _, _, _, _, _, _, _, _, _, _, _, _, _, _, _, _, _, _, _, _, _, _, _, _, _, _] (if_neg (by simp))
   | true =>
     by_cases hwn : w = []
     · have d1 : decide ((w.length : Int) = 0) = true := decide_eq_true (by rw [hwn]; rfl)
       simp only [WX, Nat.reduceAdd, Nat.reduceLeDiff, B45, qn, l1, hlv, d1]
       refine putE_to ((pc_push ([], false) hA ok1 hlt hw).mono ?_)
       rintro v' M2 c2 ⟨b2, hA2, gr2, hle2, hold⟩
       have m2c1 := (gr2.old (c + 1) (by omega)).trans hc1
       have m2c := (gr2.old c (by omega)).trans hc
       obtain ⟨w1, w2, w3⟩ := acc_one hA2
       have hst1 := store_row m2c1 0 [v'] (by simp) w3
       have hld := loadN_row (F := F) (get_same M2 (c + 1) (rowB 36 [v'])) 1 rfl
       have hst2 := store_row ((get_ne M2 (rowB 36 [v']) (show c ≠ c + 1 by omega)).trans m2c) 0 [v'] (by simp) w3
       have hld2 := loadN_row (F := F) (get_same (M2.set (c + 1) (rowB 36 [v'])) c (rowB 36 [v'])) 1 rfl
       simp only [WX, B45, w2, hst1, hld, hG1, hst2, hld2]
       exact FIN v' M2 c2 b2 _ (if_pos (.inr ⟨rfl, hwn⟩)) hA2 gr2 (by omega)
     · have d1 : decide ((w.length : Int) = 0) = false := decide_eq_false (fun e => hwn (List.length_eq_zero_iff.1 (by omega)))
       simp only [WX, w45_39, w45_41, qn, l1, hlv, d1]
       exact NOP [_, _, none, _, none, none, _, _, _, _, _, _, _, _, _, _, _, _, _, _, _, _, _, _, _, _, _, _, _, _, _, _, _, _, _, _, _, _, _, _, _, _, _, _, _, _, _, _, _, _, _, _, _, _, _, _, _, _, _, _, _, _, _, _, _, _, _, _, _, _, _, _, _, _, _, _, _, _, _, _, _, _, _, _, _, _, _, _, _, _, _, _, _, _, _, _, _, _, _, _, _, _, _, _, _, _, _, _, _, _, _, _, _, _, _, _, _, _, _, _, _, _, _, _, _, _, _, _, _, _, _, _, _, _, _, _, _, _, _, _, _, _, _, _, _, _, _, _, _, _, _, _, _, _, _, _, _, _, _, _, _, _, _, _, _, _, _, _, _, _, _, _, _, _, _, _, _, _, _, _, _, _, _, _, _, _, _, _, _, _, _, _, _, _, _, _, _, _, _, _, _, _, _, _, _, _, _, _, _, _, _, _, _, _, _, _, _, _, _, _, _, _, _, _, _, _, _, _, _, _, _, _, _, _, _, _, _, _, _, _, _, _, _, _, _, _, _, _, _, _, _, _, _, _, _] (if_neg (by simp [hwn]))
 · rw [decide_eq_false ht] at qn
   simp only [WX, Nat.reduceAdd, B45, qn, l1, hF, hO, hR, hG]
   refine putE_to ((pc_push (text, false) hA ok1 hlt hw).mono ?_)
   rintro v' M2 c2 ⟨b2, hA2, gr2, hle2, hold⟩
   have m2c1 := (gr2.old (c + 1) (by omega)).trans hc1
   have m2c := (gr2.old c (by omega)).trans hc
   obtain ⟨w1, w2, w3⟩ := acc_one hA2
   have hst1 := store_row m2c1 0 [v'] (by simp) w3
   have hld := loadN_row (F := F) (get_same M2 (c + 1) (rowB 36 [v'])) 1 rfl
   have hst2 := store_row ((get_ne M2 (rowB 36 [v']) (show c ≠ c + 1 by omega)).trans m2c) 0 [v'] (by simp) w3
   have hld2 := loadN_row (F := F) (get_same (M2.set (c + 1) (rowB 36 [v'])) c (rowB 36 [v'])) 1 rfl
   simp only [WX, B45, w2, hst1, hld, hG1, hst2, hld2]
   exact FIN v' M2 c2 b2 _ (if_pos (.inl ht)) hA2 gr2 (by omega)
theorem stW_c (c : UInt8) (t : List UInt8) : stW (c :: t) = if c = 32 ∨ sgnR (c :: t) ≠ [] ∨ c = 38 then none
  else if c = 39 then (if (t.drop (qn t)).head? = some 39 then some (some (qn t + 1, t.take (qn t), false)) else some none)
  else if c = 36 then (if t.head? = some 63 then some (some (1, [], true)) else some none)
  else if plB c = true then some (some (0, [c], false)) else some none := rfl
theorem stW_39 {t : List UInt8} (h : ¬ ((39 : UInt8) = 32 ∨ sgnR (39 :: t) ≠ [] ∨ (39 : UInt8) = 38)) : stW (39 :: t) = if (t.drop (qn t)).head? = some 39 then some (some (qn t + 1, t.take (qn t), false)) else some none := by
 rw [stW_c, if_neg h, if_pos rfl]
theorem stW_36 {t : List UInt8} (h : ¬ ((36 : UInt8) = 32 ∨ sgnR (36 :: t) ≠ [] ∨ (36 : UInt8) = 38)) : stW (36 :: t) = if t.head? = some 63 then some (some (1, [], true)) else some none := by
 rw [stW_c, if_neg h, if_neg (by decide), if_pos rfl]
theorem stW_x {x : UInt8} {t : List UInt8} (h : ¬ (x = 32 ∨ sgnR (x :: t) ≠ [] ∨ x = 38)) (h1 : x ≠ 39) (h2 : x ≠ 36) : stW (x :: t) = if plB x = true then some (some (0, [x], false)) else some none := by
 rw [stW_c, if_neg h, if_neg h1, if_neg h2]
theorem stW_no {x : UInt8} {t : List UInt8} (h : x = 32 ∨ sgnR (x :: t) ≠ [] ∨ x = 38) : stW (x :: t) = none := by
 rw [stW_c, if_pos h]
theorem acc_set {M : Mem} {c0 c1 b x : Nat} {y : Blk} {v : V} {es : List (List V)} (h : AccAt M c0 c1 b 64 2 v es) (hx : x < c0) : AccAt (M.set x y) c0 c1 b 64 2 v es := by
 rcases h with ⟨h0, h | ⟨h1, h2, h3, h4⟩⟩
 · exact ⟨h0, .inl h⟩
 · exact ⟨h0, .inr ⟨h1, h2, h3, by rw [get_ne _ _ (by omega)]; exact h4⟩⟩
theorem r45 (Φ : Nat → Option CF) (h : Φ 45 = some c45) (h44 : Φ 44 = some (.orc (pureO h44))) (h68 : Φ 68 = some (.orc (pureO h75))) (h69 : Φ 69 = some (.orc (pureO h78))) {F : RO} {M : Mem} {c : Nat} (ok : Okm F M c) (s : List UInt8) (hs : s.length ≤ 400000) :
  Calls Φ F 45 [sV s] M c fun r M' c' => WdP F s c r M' c' ∧ Gr c M c' M' := by
 refine calls_walk h ?_
 simp only [WX, Nat.reduceAdd, B45]
 have g0 : Gr c M (c + 2) ((M.set c (rowB 36 [V.l0])).set (c + 1) (rowB 36 [V.l0])) := ((Gr.refl ok).set c _ (Nat.le_refl _) (Nat.lt_succ_self _) (Nat.le_succ _)).set (c + 1) _ (by omega) (by omega) (by omega)
 obtain ⟨I1, hI1⟩ : ∃ I : Nat → St → Prop, ∀ n s', I n s' ↔ (∃ (i : Nat) (v : V) (M1 : Mem) (c1 b1 : Nat) (w : List Pc) (text : List UInt8) (sm : Bool) (u : List (Option V)), n = s.length - i ∧ i ≤ s.length ∧ s' = .mk ((.n (.n (.n (.n (.n (uv7 u 127 63 191 31 159 95 223) (uO u 15) (uv7 u 143 79 207 47 175 111 239)) (some (.b sm)) (.n (uv7 u 135 71 199 39 167 103 231) (uO u 23) (uv7 u 151 87 215 55 183 119 247))) (uO u 3) (.n (.n (uv7 u 131 67 195 35 163 99 227) (uO u 19) (uv7 u 147 83 211 51 179 115 243)) (uO u 11) (.n (uv7 u 139 75 203 43 171 107 235) (uO u 27) (uv7 u 155 91 219 59 187 123 251)))) (uO u 1) (.n (.n (.n (uv7 u 129 65 193 33 161 97 225) (uO u 17) (uv7 u 145 81 209 49 177 113 241)) (uO u 9) (.n (uv7 u 137 73 201 41 169 105 233) (uO u 25) (uv7 u 153 89 217 57 185 121 249))) (some (.i .i64 (i : Int))) (.n (.n (uv7 u 133 69 197 37 165 101 229) (uO u 21) (uv7 u 149 85 213 53 181 117 245)) (uO u 13) (.n (uv7 u 141 77 205 45 173 109 237) (uO u 29) (uv7 u 157 93 221 61 189 125 253))))) (some (sV s)) (.n (.n (.n (.n (uv7 u 128 64 192 32 160 96 224) (uO u 16) (uv7 u 144 80 208 48 176 112 240)) (uO u 8) (.n (uv7 u 136 72 200 40 168 104 232) (uO u 24) (uv7 u 152 88 216 56 184 120 248))) (some (.p (c + 1) 0)) (.n (.n (uv7 u 132 68 196 36 164 100 228) (uO u 20) (uv7 u 148 84 212 52 180 116 244)) (uO u 12) (.n (uv7 u 140 76 204 44 172 108 236) (uO u 28) (uv7 u 156 92 220 60 188 124 252)))) (some (.p c 0)) (.n (.n (.n (uv7 u 130 66 194 34 162 98 226) (uO u 18) (uv7 u 146 82 210 50 178 114 242)) (uO u 10) (.n (uv7 u 138 74 202 42 170 106 234) (uO u 26) (uv7 u 154 90 218 58 186 122 250))) (some (sV text)) (.n (.n (uv7 u 134 70 198 38 166 102 230) (uO u 22) (uv7 u 150 86 214 54 182 118 246)) (uO u 14) (.n (uv7 u 142 78 206 46 174 110 238) (uO u 30) (uv7 u 158 94 222 62 190 126 254))))))) [] M1 c1 ∧ Gr c M c1 M1 ∧ M1.get c = some (rowB 36 [.l0]) ∧ M1.get (c + 1) = some (rowB 36 [v]) ∧ c + 2 ≤ c1 ∧ AccAt M1 (c + 2) c1 b1 64 2 v (pcE w) ∧ w.length ≤ 2 * i ∧ text.length ≤ i ∧ rdW s [] [] false 0 = rdW (s.drop i) w text sm i) := ⟨fun n s' => _, fun _ _ => Iff.rfl⟩
 refine wp_while I1 ?_ s.length _ ((hI1 _ _).2 ⟨0, .l0, _, _, 0, [], [], false, [none, _, none, _, none, none, none, none, _, _, _, _, _, _, _, _, _, _, _, _, _, _, _, _, _, _, _, _, _, _, _, _, _, _, _, _, _, _, _, _, _, _, _, _, _, _, _, _, _, _, _, _, _, _, _, _, _, _, _, _, _, _, _, _, _, _, _, _, _, _, _, _, _, _, _, _, _, _, _, _, _, _, _, _, _, _, _, _, _, _, _, _, _, _, _, _, _, _, _, _, _, _, _, _, _, _, _, _, _, _, _, _, _, _, _, _, _, _, _, _, _, _, _, _, _, _, _, _, _, _, _, _, _, _, _, _, _, _, _, _, _, _, _, _, _, _, _, _, _, _, _, _, _, _, _, _, _, _, _, _, _, _, _, _, _, _, _, _, _, _, _, _, _, _, _, _, _, _, _, _, _, _, _, _, _, _, _, _, _, _, _, _, _, _, _, _, _, _, _, _, _, _, _, _, _, _, _, _, _, _, _, _, _, _, _, _, _, _, _, _, _, _, _, _, _, _, _, _, _, _, _, _, _, _, _, _, _, _, _, _, _, _, _, _, _, _, _, _, _, _, _, _, _, _, _], rfl, Nat.zero_le _, rfl, g0, by rw [get_ne _ _ (by omega)]; exact get_same _ _ _, get_same _ _ _, Nat.le_refl _, AccAt.nil, Nat.zero_le _, Nat.le_refl _, by rw [List.drop_zero]⟩)
 intro n s' hIs
 obtain ⟨i, v, M1, c1, b1, w, text, sm, u, rfl, hi, rfl, gr1, hc, hc1, hlt2, hA, hw, htx, hpre⟩ := (hI1 _ _).1 hIs
 clear hIs g0
 have ok1 := gr1.ok ok
 have q8 : ∀ k : Nat, k ≤ 1000000 → biV .add (.i .i64 (k : Int)) (.i .i64 1) = some (.i .i64 ((k + 1 : Nat) : Int)) := fun k hk => by rw [i64_add _ _ (by omega) (by omega)]; simp
 have qq8 := q8 i (by omega)
 by_cases hlt : i < s.length
 · have d1 : decide ((i : Int) < (s.length : Int)) = true := decide_eq_true (by omega)
   have hix : ixSV (sV s) (.i .i64 (i : Int)) = some (.i .u8 ((s[i]).toNat : Int)) := ixSs s .i64 i hlt
   have hdr : s.drop i = s[i] :: s.drop (i + 1) := List.drop_eq_getElem_cons hlt
   have hsl : slSV (sV s) (some (.i .i64 (i : Int))) none = some (sV (s[i] :: s.drop (i + 1))) := by rw [← hdr]; exact sl_ln s .i64 i hi
   rw [hdr] at hpre
   have htl : (s.drop (i + 1)).length ≤ 1000000 := by rw [List.length_drop]; omega
   have hsg := h44_eq s[i] (s.drop (i + 1)) htl
   have hxn : ∀ k : UInt8, decide (((s[i]).toNat : Int) = (k.toNat : Int)) = decide (s[i] = k) := fun k => by congr 1; exact propext ⟨fun e => UInt8.toNat_inj.1 (by omega), fun e => by rw [e]⟩
   have x32 := hxn 32; have x38 := hxn 38; have x39 := hxn 39; have x36 := hxn 36
   simp only [UInt8.reduceToNat, Int.cast_ofNat_Int] at x32 x38 x39 x36
   have qsg := bi_sne (sgnR (s[i] :: s.drop (i + 1))) []
   have e0 : V.s 0 0 = sV [] := rfl
   rw [← e0] at qsg
   clear hxn
   generalize hx : s[i] = x at *
   generalize htt : s.drop (i + 1) = t at *
   by_cases hst : x = 32 ∨ sgnR (x :: t) ≠ [] ∨ x = 38
   · have hres := hpre.trans (rdW_done (stW_no hst))
     by_cases h1 : x = 32
     · rw [decide_eq_true h1] at x32
       simp only [WX, reduceCtorEq, w45_4, w45_5, w45_6, w45_7, w45_37, w45_38, d1, hix, x32]
       exact end45 Φ ok s i hi v w text sm (by omega) gr1 hc hc1 hlt2 hA hres [_, _, none, _, none, none, none, none, _, _, _, _, _, _, _, _, _, _, _, _, _, _, _, _, _, _, _, _, _, _, _, _, _, _, _, _, _, _, _, _, _, _, _, _, _, _, _, _, _, _, _, _, _, _, _, _, _, _, _, _, _, _, _, _, _, _, _, _, _, _, _, _, _, _, _, _, _, _, _, _, _, _, _, _, _, _, _, _, _, _, _, _, _, _, _, _, _, _, _, _, _, _, _, _, _, _, _, _, _, _, _, _, _, _, _, _, _, _, _, _, _, _, _, _, _, _, _, _, _, _, _, _, _, _, _, _, _, _, _, _, _, _, _, _, _, _, _, _, _, _, _, _, _, _, _, _, _, _, _, _, _, _, _, _, _, _, _, _, _, _, _, _, _, _, _, _, _, _, _, _, _, _, _, _, _, _, _, _, _, _, _, _, _, _, _, _, _, _, _, _, _, _, _, _, _, _, _, _, _, _, _, _, _, _, _, _, _, _, _, _, _, _, _, _, _, _, _, _, _, _, _, _, _, _, _, _, _, _, _, _, _, _, _, _, _, _, _, _, _, _, _, _, _, _, _]
     · rw [decide_eq_false h1] at x32
       by_cases h2 : sgnR (x :: t) = []
       · rw [decide_eq_true h2] at qsg
         have h3 : x = 38 := by rcases hst with h | h | h
                                · exact absurd h h1
                                · exact absurd h2 h
                                · exact h
         rw [decide_eq_true h3] at x38
         simp only [WX, reduceCtorEq, w45_4, w45_5, w45_6, w45_7, w45_37, w45_38, d1, hix, x32, hsl, h44, hsg, qsg, x38]
         exact end45 Φ ok s i hi v w text sm (by omega) gr1 hc hc1 hlt2 hA hres [_, _, none, _, none, none, none, none, _, _, _, _, _, _, _, _, _, _, _, _, _, _, _, _, _, _, _, _, _, _, _, _, _, _, _, _, _, _, _, _, _, _, _, _, _, _, _, _, _, _, _, _, _, _, _, _, _, _, _, _, _, _, _, _, _, _, _, _, _, _, _, _, _, _, _, _, _, _, _, _, _, _, _, _, _, _, _, _, _, _, _, _, _, _, _, _, _, _, _, _, _, _, _, _, _, _, _, _, _, _, _, _, _, _, _, _, _, _, _, _, _, _, _, _, _, _, _, _, _, _, _, _, _, _, _, _, _, _, _, _, _, _, _, _, _, _, _, _, _, _, _, _, _, _, _, _, _, _, _, _, _, _, _, _, _, _, _, _, _, _, _, _, _, _, _, _, _, _, _, _, _, _, _, _, _, _, _, _, _, _, _, _, _, _, _, _, _, _, _, _, _, _, _, _, _, _, _, _, _, _, _, _, _, _, _, _, _, _, _, _, _, _, _, _, _, _, _, _, _, _, _, _, _, _, _, _, _, _, _, _, _, _, _, _, _, _, _, _, _, _, _, _, _, _, _]
       · rw [decide_eq_false h2] at qsg
         simp only [WX, reduceCtorEq, w45_4, w45_5, w45_6, w45_7, w45_37, w45_38, d1, hix, x32, hsl, h44, hsg, qsg]
         exact end45 Φ ok s i hi v w text sm (by omega) gr1 hc hc1 hlt2 hA hres [_, _, none, _, none, none, none, none, _, _, _, _, _, _, _, _, _, _, _, _, _, _, _, _, _, _, _, _, _, _, _, _, _, _, _, _, _, _, _, _, _, _, _, _, _, _, _, _, _, _, _, _, _, _, _, _, _, _, _, _, _, _, _, _, _, _, _, _, _, _, _, _, _, _, _, _, _, _, _, _, _, _, _, _, _, _, _, _, _, _, _, _, _, _, _, _, _, _, _, _, _, _, _, _, _, _, _, _, _, _, _, _, _, _, _, _, _, _, _, _, _, _, _, _, _, _, _, _, _, _, _, _, _, _, _, _, _, _, _, _, _, _, _, _, _, _, _, _, _, _, _, _, _, _, _, _, _, _, _, _, _, _, _, _, _, _, _, _, _, _, _, _, _, _, _, _, _, _, _, _, _, _, _, _, _, _, _, _, _, _, _, _, _, _, _, _, _, _, _, _, _, _, _, _, _, _, _, _, _, _, _, _, _, _, _, _, _, _, _, _, _, _, _, _, _, _, _, _, _, _, _, _, _, _, _, _, _, _, _, _, _, _, _, _, _, _, _, _, _, _, _, _, _, _, _]
   · obtain ⟨n32, n2, n38⟩ : x ≠ 32 ∧ sgnR (x :: t) = [] ∧ x ≠ 38 := ⟨fun e => hst (.inl e), Classical.byContradiction fun e => hst (.inr (.inl e)), fun e => hst (.inr (.inr e))⟩
     rw [decide_eq_false n32] at x32
     rw [decide_eq_false n38] at x38
     rw [decide_eq_true n2] at qsg
     have hF : ∀ w, flatten (sV w) = [sV w] := fun _ => rfl
     have hO : ∀ w, isOne (sV w) = true := fun _ => rfl
     have hR : ∀ t, replL [V.s 0 0, V.b false] 0 [sV t] = some [sV t, V.b false] := fun _ => rfl
     have hG : ∀ t, flatten (V.g [sV t, V.b false]) = [sV t, V.b false] := fun _ => rfl
     have hG0 : flatten (V.g [V.l0]) = [V.l0] := rfl
     have stz := store_row hc 0 [V.l0] (by simp) rfl
     have ldz := loadN_row (F := F) (get_same M1 c (rowB 36 [V.l0])) 1 rfl
     have grB := gr1.set c (rowB 36 [.l0]) (Nat.le_refl _) (by omega) (Nat.le_refl _)
     by_cases h39 : x = 39
     · subst h39
       rw [decide_eq_true rfl] at x39
       have hs39 := stW_39 hst
       simp only [WX, B45, d1, hix, x32, hsl, h44, hsg, qsg, x38, x39, qq8]
       obtain ⟨J, hJ⟩ : ∃ J : Nat → St → Prop, ∀ n s', J n s' ↔ (∃ (e : Nat) (u : List (Option V)), n = s.length - e ∧ i + 1 ≤ e ∧ e ≤ s.length ∧ s' = .mk ((.n (.n (.n (.n (.n (uv7 u 127 63 191 31 159 95 223) (uO u 15) (uv7 u 143 79 207 47 175 111 239)) (some (.b sm)) (.n (uv7 u 135 71 199 39 167 103 231) (uO u 23) (uv7 u 151 87 215 55 183 119 247))) (uO u 3) (.n (.n (uv7 u 131 67 195 35 163 99 227) (uO u 19) (uv7 u 147 83 211 51 179 115 243)) (uO u 11) (.n (uv7 u 139 75 203 43 171 107 235) (uO u 27) (uv7 u 155 91 219 59 187 123 251)))) (uO u 1) (.n (.n (.n (uv7 u 129 65 193 33 161 97 225) (uO u 17) (uv7 u 145 81 209 49 177 113 241)) (some (.i .i64 (e : Int))) (.n (uv7 u 137 73 201 41 169 105 233) (uO u 25) (uv7 u 153 89 217 57 185 121 249))) (some (.i .i64 (i : Int))) (.n (.n (uv7 u 133 69 197 37 165 101 229) (uO u 21) (uv7 u 149 85 213 53 181 117 245)) (uO u 13) (.n (uv7 u 141 77 205 45 173 109 237) (uO u 29) (uv7 u 157 93 221 61 189 125 253))))) (some (sV s)) (.n (.n (.n (.n (uv7 u 128 64 192 32 160 96 224) (uO u 16) (uv7 u 144 80 208 48 176 112 240)) (uO u 8) (.n (uv7 u 136 72 200 40 168 104 232) (uO u 24) (uv7 u 152 88 216 56 184 120 248))) (some (.p (c + 1) 0)) (.n (.n (uv7 u 132 68 196 36 164 100 228) (uO u 20) (uv7 u 148 84 212 52 180 116 244)) (uO u 12) (.n (uv7 u 140 76 204 44 172 108 236) (uO u 28) (uv7 u 156 92 220 60 188 124 252)))) (some (.p c 0)) (.n (.n (.n (uv7 u 130 66 194 34 162 98 226) (uO u 18) (uv7 u 146 82 210 50 178 114 242)) (uO u 10) (.n (uv7 u 138 74 202 42 170 106 234) (uO u 26) (uv7 u 154 90 218 58 186 122 250))) (some (sV text)) (.n (.n (uv7 u 134 70 198 38 166 102 230) (uO u 22) (uv7 u 150 86 214 54 182 118 246)) (uO u 14) (.n (uv7 u 142 78 206 46 174 110 238) (uO u 30) (uv7 u 158 94 222 62 190 126 254))))))) [] M1 c1 ∧ qn t = (e - (i + 1)) + qn (s.drop e)) := ⟨fun n s' => _, fun _ _ => Iff.rfl⟩
       refine wp_while J ?_ (s.length - (i + 1)) _ ((hJ _ _).2 ⟨i + 1, [none, _, none, _, none, none, none, none, _, none, _, _, _, _, _, _, _, _, _, _, _, _, _, _, _, _, _, _, _, _, _, _, _, _, _, _, _, _, _, _, _, _, _, _, _, _, _, _, _, _, _, _, _, _, _, _, _, _, _, _, _, _, _, _, _, _, _, _, _, _, _, _, _, _, _, _, _, _, _, _, _, _, _, _, _, _, _, _, _, _, _, _, _, _, _, _, _, _, _, _, _, _, _, _, _, _, _, _, _, _, _, _, _, _, _, _, _, _, _, _, _, _, _, _, _, _, _, _, _, _, _, _, _, _, _, _, _, _, _, _, _, _, _, _, _, _, _, _, _, _, _, _, _, _, _, _, _, _, _, _, _, _, _, _, _, _, _, _, _, _, _, _, _, _, _, _, _, _, _, _, _, _, _, _, _, _, _, _, _, _, _, _, _, _, _, _, _, _, _, _, _, _, _, _, _, _, _, _, _, _, _, _, _, _, _, _, _, _, _, _, _, _, _, _, _, _, _, _, _, _, _, _, _, _, _, _, _, _, _, _, _, _, _, _, _, _, _, _, _, _, _, _, _, _, _], rfl, Nat.le_refl _, hlt, rfl, by rw [htt]; omega⟩)
       intro n s' hIs
       obtain ⟨e, u, rfl, hie, hel, rfl, hq⟩ := (hJ _ _).1 hIs
       clear hIs
       have dne : ∀ k, t.drop k = s.drop (i + 1 + k) := fun k => by rw [← htt, List.drop_drop]
       by_cases he : e < s.length
       · have d1e : decide ((e : Int) < (s.length : Int)) = true := decide_eq_true (by omega)
         have hixe : ixSV (sV s) (.i .i64 (e : Int)) = some (.i .u8 ((s[e]).toNat : Int)) := ixSs s .i64 e he
         have hh : h78 [.i .u8 ((s[e]).toNat : Int)] = some (V.b (qtB s[e])) := h78_eq s[e]
         have hqe : s.drop e = s[e] :: s.drop (e + 1) := List.drop_eq_getElem_cons he
         rw [hqe, qn_cons] at hq
         have qe := q8 e (by omega)
         cases ho : qtB s[e] with
         | true =>
           rw [ho] at hh
           rw [if_pos ho] at hq
           simp only [WX, B45, d1e, hixe, h69, hh, qe]
           exact ⟨s.length - (e + 1), by omega, (hJ _ _).2 ⟨e + 1, [none, _, none, _, none, none, none, none, _, none, _, _, _, _, _, _, _, _, _, _, _, _, _, _, _, _, _, _, _, _, _, _, _, _, _, _, _, _, _, _, _, _, _, _, _, _, _, _, _, _, _, _, _, _, _, _, _, _, _, _, _, _, _, _, _, _, _, _, _, _, _, _, _, _, _, _, _, _, _, _, _, _, _, _, _, _, _, _, _, _, _, _, _, _, _, _, _, _, _, _, _, _, _, _, _, _, _, _, _, _, _, _, _, _, _, _, _, _, _, _, _, _, _, _, _, _, _, _, _, _, _, _, _, _, _, _, _, _, _, _, _, _, _, _, _, _, _, _, _, _, _, _, _, _, _, _, _, _, _, _, _, _, _, _, _, _, _, _, _, _, _, _, _, _, _, _, _, _, _, _, _, _, _, _, _, _, _, _, _, _, _, _, _, _, _, _, _, _, _, _, _, _, _, _, _, _, _, _, _, _, _, _, _, _, _, _, _, _, _, _, _, _, _, _, _, _, _, _, _, _, _, _, _, _, _, _, _, _, _, _, _, _, _, _, _, _, _, _, _, _, _, _, _, _, _], rfl, by omega, he, rfl, by omega⟩⟩
         | false =>
           rw [ho] at hh
           rw [if_neg (by rw [ho]; decide)] at hq
           have hq2 : t.drop (qn t) = s.drop e := by rw [dne]; congr 1; omega
           have d2e : decide ((e : Int) = (s.length : Int)) = false := decide_eq_false (by omega)
           by_cases h3 : s[e] = 39
           · have d3 : decide (((s[e]).toNat : Int) ≠ 39) = false := decide_eq_false (fun hh => hh (by rw [h3]; rfl))
             rw [if_pos (by rw [hq2, hqe, h3]; rfl)] at hs39
             have hsl2 := sl_lh s .i64 .i64 (i + 1) e hie hel
             have hX : (s.take e).drop (i + 1) = t.take (qn t) := by rw [List.drop_take, htt]; congr 1; omega
             have hXl : (t.take (qn t)).length ≤ e - (i + 1) := by rw [List.length_take]; omega
             rw [hX] at hsl2
             have hcat := bi_scat text (t.take (qn t)) (by omega)
             simp only [WX, Nat.reduceEqDiff, reduceCtorEq, B45, d1e, hixe, h69, hh, d2e, d3, qq8, hsl2, hcat, qe]
             refine ⟨s.length - (e + 1), by omega, (hI1 _ _).2 ⟨e + 1, v, M1, c1, b1, w, text ++ t.take (qn t), true, [none, _, none, _, none, none, none, none, _, _, _, _, _, _, _, _, _, _, _, _, _, _, _, _, _, _, _, _, _, _, _, _, _, _, _, _, _, _, _, _, _, _, _, _, _, _, _, _, _, _, _, _, _, _, _, _, _, _, _, _, _, _, _, _, _, _, _, _, _, _, _, _, _, _, _, _, _, _, _, _, _, _, _, _, _, _, _, _, _, _, _, _, _, _, _, _, _, _, _, _, _, _, _, _, _, _, _, _, _, _, _, _, _, _, _, _, _, _, _, _, _, _, _, _, _, _, _, _, _, _, _, _, _, _, _, _, _, _, _, _, _, _, _, _, _, _, _, _, _, _, _, _, _, _, _, _, _, _, _, _, _, _, _, _, _, _, _, _, _, _, _, _, _, _, _, _, _, _, _, _, _, _, _, _, _, _, _, _, _, _, _, _, _, _, _, _, _, _, _, _, _, _, _, _, _, _, _, _, _, _, _, _, _, _, _, _, _, _, _, _, _, _, _, _, _, _, _, _, _, _, _, _, _, _, _, _, _, _, _, _, _, _, _, _, _, _, _, _, _, _, _, _, _, _, _], rfl, he, rfl, gr1, hc, hc1, hlt2, hA, by omega, by rw [List.length_append]; omega, ?_⟩⟩
             rw [hpre, rdW_text hs39, List.drop_succ_cons, dne, show i + 1 + (qn t + 1) = e + 1 by omega, show i + (qn t + 1 + 1) = e + 1 by omega]
           · have d3 : decide (((s[e]).toNat : Int) ≠ 39) = true := decide_eq_true (fun hh => h3 (UInt8.toNat_inj.1 (by rw [show (39 : UInt8).toNat = 39 from rfl]; omega)))
             rw [if_neg (by rw [hq2, hqe]; intro hh; exact h3 (Option.some.inj hh))] at hs39
             simp only [WX, Nat.reduceEqDiff, reduceCtorEq, B45, d1e, hixe, h69, hh, d2e, d3, hG0, stz, ldz]
             exact ⟨.inr ⟨hpre.trans (rdW_bad hs39), rfl⟩, grB⟩
       · obtain rfl : e = s.length := by omega
         have d1e : decide ((s.length : Int) < (s.length : Int)) = false := decide_eq_false (by omega)
         have hq2 : t.drop (qn t) = [] := by rw [dne]; apply List.drop_eq_nil_of_le; rw [List.drop_length] at hq; have : qn ([] : List UInt8) = 0 := rfl; omega
         rw [if_neg (by rw [hq2]; intro hh; cases hh)] at hs39
         simp only [WX, Nat.reduceEqDiff, reduceCtorEq, B45, d1e, eq_self, hG0, stz, ldz]
         exact ⟨.inr ⟨hpre.trans (rdW_bad hs39), rfl⟩, grB⟩
     · rw [decide_eq_false h39] at x39
       by_cases h36 : x = 36
       · subst h36
         rw [decide_eq_true rfl] at x36
         have hs36 := stW_36 hst
         have q2 : biV .add (.i .i64 (i : Int)) (.i .i64 2) = some (.i .i64 ((i + 2 : Nat) : Int)) := by rw [i64_add _ _ (by omega) (by omega)]; simp
         by_cases hl2 : i + 1 < s.length
         · have d2 : decide ((s.length : Int) ≤ ((i + 1 : Nat) : Int)) = false := decide_eq_false (by omega)
           have hixy : ixSV (sV s) (.i .i64 ((i + 1 : Nat) : Int)) = some (.i .u8 ((s[i + 1]).toNat : Int)) := ixSs s .i64 (i + 1) hl2
           have hty : t = s[i + 1] :: s.drop (i + 2) := by rw [← htt]; exact List.drop_eq_getElem_cons hl2
           by_cases h63 : s[i + 1] = 63
           · have d3 : decide (((s[i + 1]).toNat : Int) ≠ 63) = false := decide_eq_false (fun hh => hh (by rw [h63]; rfl))
             rw [if_pos (by rw [hty, h63]; rfl)] at hs36
             have hnext : rdW s [] [] false 0 = rdW (s.drop (i + 2)) (rdMid w text) [] false (i + 2) := by
              rw [hpre, rdW_stat hs36, List.drop_succ_cons, ← htt, List.drop_drop]
             have hFb : flatten (V.b true) = [V.b true] := rfl
             have hR1 : replL [V.s 0 0, V.b false] 1 [V.b true] = some [V.s 0 0, V.b true] := rfl
             have hG2 : flatten (V.g [V.s 0 0, V.b true]) = [V.s 0 0, V.b true] := rfl
             have l1 : load1 F M1 (c + 1) 0 = some v := load_row hc1 0
             have qtx := bi_sne text []
             rw [← e0] at qtx
             by_cases htn : text = []
             · rw [decide_eq_true htn] at qtx
               simp only [WX, Nat.reduceAdd, B45, d1, hix, x32, hsl, h44, hsg, qsg, x38, x39, x36, qq8, d2, hixy, d3, qtx, l1, hFb, hR1, hG2]
               refine putE_to ((pc_push ([], true) hA ok1 hlt2 (by omega)).mono ?_)
               rintro v' M2 c2 ⟨b2, hA2, gr2, hle2, hold⟩
               obtain ⟨w1, w2, w3⟩ := acc_one hA2
               have m2c1 := (gr2.old (c + 1) (by omega)).trans hc1
               have m2c := (gr2.old c (by omega)).trans hc
               have hst1 := store_row m2c1 0 [v'] (by simp) w3
               simp only [WX, B45, w2, hst1, q2]
               refine ⟨s.length - (i + 2), by omega, (hI1 _ _).2 ⟨i + 2, v', M2.set (c + 1) (rowB 36 [v']), c2, b2, w ++ [([], true)], [], false, [none, _, none, _, none, none, none, none, _, _, _, _, _, _, _, _, _, _, _, _, _, _, _, _, _, _, _, _, _, _, _, _, _, _, _, _, _, _, _, _, _, _, _, _, _, _, _, _, _, _, _, _, _, _, _, _, _, _, _, _, _, _, _, _, _, _, _, _, _, _, _, _, _, _, _, _, _, _, _, _, _, _, _, _, _, _, _, _, _, _, _, _, _, _, _, _, _, _, _, _, _, _, _, _, _, _, _, _, _, _, _, _, _, _, _, _, _, _, _, _, _, _, _, _, _, _, _, _, _, _, _, _, _, _, _, _, _, _, _, _, _, _, _, _, _, _, _, _, _, _, _, _, _, _, _, _, _, _, _, _, _, _, _, _, _, _, _, _, _, _, _, _, _, _, _, _, _, _, _, _, _, _, _, _, _, _, _, _, _, _, _, _, _, _, _, _, _, _, _, _, _, _, _, _, _, _, _, _, _, _, _, _, _, _, _, _, _, _, _, _, _, _, _, _, _, _, _, _, _, _, _, _, _, _, _, _, _, _, _, _, _, _, _, _, _, _, _, _, _, _, _, _, _, _, _], rfl, by omega, rfl, ⟨by omega, fun b hb => by rw [get_ne _ _ (by omega), gr2.old b (by omega), gr1.old b hb], fun b hb => by rw [get_ne _ _ (by omega)]; exact gr2.new b hb⟩, by rw [get_ne _ _ (by omega)]; exact m2c, get_same _ _ _, by omega, acc_set hA2 (by omega), by simp; omega, by simp, ?_⟩⟩
               rw [hnext]; unfold rdMid; rw [if_neg (fun hh => hh htn)]
             · rw [decide_eq_false htn] at qtx
               simp only [WX, Nat.reduceAdd, B45, d1, hix, x32, hsl, h44, hsg, qsg, x38, x39, x36, qq8, d2, hixy, d3, qtx, l1, hF, hO, hR, hG]
               refine putE_to ((pc_push (text, false) hA ok1 hlt2 (by omega)).mono ?_)
               rintro v' M2 c2 ⟨b2, hA2, gr2, hle2, hold⟩
               obtain ⟨w1, w2, w3⟩ := acc_one hA2
               have m2c1 := (gr2.old (c + 1) (by omega)).trans hc1
               have m2c := (gr2.old c (by omega)).trans hc
               have hst1 := store_row m2c1 0 [v'] (by simp) w3
               have m3c1 := get_same M2 (c + 1) (rowB 36 [v'])
               have m3c : (M2.set (c + 1) (rowB 36 [v'])).get c = some (rowB 36 [.l0]) := (get_ne _ _ (by omega)).trans m2c
               have l3 : load1 F (M2.set (c + 1) (rowB 36 [v'])) (c + 1) 0 = some v' := load_row m3c1 0
               have hA3 := acc_set (y := rowB 36 [v']) hA2 (show c + 1 < c + 2 by omega)
               have gr3 : Gr c M c2 (M2.set (c + 1) (rowB 36 [v'])) := ⟨by omega, fun b hb => by rw [get_ne _ _ (by omega), gr2.old b (by omega), gr1.old b hb], fun b hb => by rw [get_ne _ _ (by omega)]; exact gr2.new b hb⟩
               have hover : rowB 36 (over [v] 0 [v']) = rowB 36 [v'] := rfl
               rw [hover] at hst1
               simp only [WX, Nat.reduceAdd, B45, w2, hst1, hFb, hR1, hG2]
               generalize M2.set (c + 1) (rowB 36 [v']) = M3 at m3c1 m3c l3 hA3 gr3 ⊢
               refine putE_to ((pc_push ([], true) hA3 (gr3.ok ok) (by omega) (by simp; omega)).mono ?_)
               rintro v4 M4 c4 ⟨b4, hA4, gr4, hle4, hold4⟩
               obtain ⟨y1, y2, y3⟩ := acc_one hA4
               have m4c1 := (gr4.old (c + 1) (by omega)).trans m3c1
               have m4c := (gr4.old c (by omega)).trans m3c
               have hst4 := store_row m4c1 0 [v4] (by simp) y3
               simp only [WX, B45, y2, hst4, q2]
               refine ⟨s.length - (i + 2), by omega, (hI1 _ _).2 ⟨i + 2, v4, M4.set (c + 1) (rowB 36 [v4]), c4, b4, w ++ [(text, false)] ++ [([], true)], [], false, [none, _, none, _, none, none, none, none, _, _, _, _, _, _, _, _, _, _, _, _, _, _, _, _, _, _, _, _, _, _, _, _, _, _, _, _, _, _, _, _, _, _, _, _, _, _, _, _, _, _, _, _, _, _, _, _, _, _, _, _, _, _, _, _, _, _, _, _, _, _, _, _, _, _, _, _, _, _, _, _, _, _, _, _, _, _, _, _, _, _, _, _, _, _, _, _, _, _, _, _, _, _, _, _, _, _, _, _, _, _, _, _, _, _, _, _, _, _, _, _, _, _, _, _, _, _, _, _, _, _, _, _, _, _, _, _, _, _, _, _, _, _, _, _, _, _, _, _, _, _, _, _, _, _, _, _, _, _, _, _, _, _, _, _, _, _, _, _, _, _, _, _, _, _, _, _, _, _, _, _, _, _, _, _, _, _, _, _, _, _, _, _, _, _, _, _, _, _, _, _, _, _, _, _, _, _, _, _, _, _, _, _, _, _, _, _, _, _, _, _, _, _, _, _, _, _, _, _, _, _, _, _, _, _, _, _, _, _, _, _, _, _, _, _, _, _, _, _, _, _, _, _, _, _, _], rfl, by omega, rfl, ⟨by omega, fun b hb => by rw [get_ne _ _ (by omega), gr4.old b (by omega), gr3.old b hb], fun b hb => by rw [get_ne _ _ (by omega)]; exact gr4.new b hb⟩, by rw [get_ne _ _ (by omega)]; exact m4c, get_same _ _ _, by omega, acc_set hA4 (by omega), by simp; omega, by simp, ?_⟩⟩
               rw [hnext]; unfold rdMid; rw [if_pos htn]
           · have d3 : decide (((s[i + 1]).toNat : Int) ≠ 63) = true := decide_eq_true (fun hh => h63 (UInt8.toNat_inj.1 (by rw [show (63 : UInt8).toNat = 63 from rfl]; omega)))
             rw [if_neg (by rw [hty]; intro hh; exact h63 (Option.some.inj hh))] at hs36
             simp only [WX, B45, d1, hix, x32, hsl, h44, hsg, qsg, x38, x39, x36, qq8, d2, hixy, d3, hG0, stz, ldz]
             exact ⟨.inr ⟨hpre.trans (rdW_bad hs36), rfl⟩, grB⟩
         · have d2 : decide ((s.length : Int) ≤ ((i + 1 : Nat) : Int)) = true := decide_eq_true (by omega)
           rw [if_neg (by rw [← htt, List.drop_eq_nil_of_le (by omega)]; intro hh; cases hh)] at hs36
           simp only [WX, B45, d1, hix, x32, hsl, h44, hsg, qsg, x38, x39, x36, qq8, d2, hG0, stz, ldz]
           exact ⟨.inr ⟨hpre.trans (rdW_bad hs36), rfl⟩, grB⟩
       · rw [decide_eq_false h36] at x36
         have hsx := stW_x hst h39 h36
         have hh75 : h75 [.i .u8 (x.toNat : Int)] = some (V.b (plB x)) := h75_eq x
         cases ho : plB x with
         | true =>
           rw [ho] at hh75
           rw [if_pos ho] at hsx
           have hsl2 := sl_lh s .i64 .i64 i (i + 1) (by omega) hlt
           rw [show (s.take (i + 1)).drop i = [x] by rw [List.drop_take, hdr]; simp] at hsl2
           have hcat := bi_scat text [x] (by simp; omega)
           simp only [WX, B45, d1, hix, x32, hsl, h44, hsg, qsg, x38, x39, x36, h68, hh75, qq8, hsl2, hcat]
           refine ⟨s.length - (i + 1), by omega, (hI1 _ _).2 ⟨i + 1, v, M1, c1, b1, w, text ++ [x], true, [none, _, none, _, none, none, none, none, _, _, _, _, _, _, _, _, _, _, _, _, _, _, _, _, _, _, _, _, _, _, _, _, _, _, _, _, _, _, _, _, _, _, _, _, _, _, _, _, _, _, _, _, _, _, _, _, _, _, _, _, _, _, _, _, _, _, _, _, _, _, _, _, _, _, _, _, _, _, _, _, _, _, _, _, _, _, _, _, _, _, _, _, _, _, _, _, _, _, _, _, _, _, _, _, _, _, _, _, _, _, _, _, _, _, _, _, _, _, _, _, _, _, _, _, _, _, _, _, _, _, _, _, _, _, _, _, _, _, _, _, _, _, _, _, _, _, _, _, _, _, _, _, _, _, _, _, _, _, _, _, _, _, _, _, _, _, _, _, _, _, _, _, _, _, _, _, _, _, _, _, _, _, _, _, _, _, _, _, _, _, _, _, _, _, _, _, _, _, _, _, _, _, _, _, _, _, _, _, _, _, _, _, _, _, _, _, _, _, _, _, _, _, _, _, _, _, _, _, _, _, _, _, _, _, _, _, _, _, _, _, _, _, _, _, _, _, _, _, _, _, _, _, _, _, _], rfl, hlt, rfl, gr1, hc, hc1, hlt2, hA, by omega, by simp; omega, ?_⟩⟩
           rw [hpre, rdW_text hsx, ← htt]; rfl
         | false =>
           rw [ho] at hh75
           rw [if_neg (by rw [ho]; decide)] at hsx
           simp only [WX, B45, d1, hix, x32, hsl, h44, hsg, qsg, x38, x39, x36, h68, hh75, hG0, stz, ldz]
           exact ⟨.inr ⟨hpre.trans (rdW_bad hsx), rfl⟩, grB⟩
 · obtain rfl : i = s.length := by omega
   have d1 : decide ((s.length : Int) < (s.length : Int)) = false := decide_eq_false (by omega)
   have hres := hpre.trans (rdW_done (by rw [List.drop_length]; rfl))
   simp only [WX, w45_4, w45_38, d1]
   exact end45 Φ ok s s.length hi v w text sm (by omega) gr1 hc hc1 hlt2 hA hres [_, _, none, _, none, none, none, none, _, _, _, _, _, _, _, _, _, _, _, _, _, _, _, _, _, _, _, _, _, _, _, _, _, _, _, _, _, _, _, _, _, _, _, _, _, _, _, _, _, _, _, _, _, _, _, _, _, _, _, _, _, _, _, _, _, _, _, _, _, _, _, _, _, _, _, _, _, _, _, _, _, _, _, _, _, _, _, _, _, _, _, _, _, _, _, _, _, _, _, _, _, _, _, _, _, _, _, _, _, _, _, _, _, _, _, _, _, _, _, _, _, _, _, _, _, _, _, _, _, _, _, _, _, _, _, _, _, _, _, _, _, _, _, _, _, _, _, _, _, _, _, _, _, _, _, _, _, _, _, _, _, _, _, _, _, _, _, _, _, _, _, _, _, _, _, _, _, _, _, _, _, _, _, _, _, _, _, _, _, _, _, _, _, _, _, _, _, _, _, _, _, _, _, _, _, _, _, _, _, _, _, _, _, _, _, _, _, _, _, _, _, _, _, _, _, _, _, _, _, _, _, _, _, _, _, _, _, _, _, _, _, _, _, _, _, _, _, _, _, _, _, _, _, _, _]
def b74_1 : CC := (.reg [(qq a5 (.ld1 z0)), (qq a6 (.ln .slice z5)), (qq a7 (.bi .gtr z6 (x6 0))), (qq a8 (.mv z7)), ⟨(some a9), .q (.ld1 z1), (some (a8, false))⟩, ⟨(some a10), .q (.mv z9), (some (a8, false))⟩, ⟨(some a11), .q (.ld1 z2), (some (a10, true))⟩, ⟨(some a12), .q (.ln .slice z11), (some (a10, true))⟩, ⟨(some a13), .q (.bi .eql z12 (x6 0)), (some (a10, true))⟩, ⟨(some a14), .q (.pk z10 z13 xF), (some (a8, false))⟩, ⟨(some a15), .q (.mv z14), (some (a8, false))⟩, ⟨(some a16), .q (.ld1 z3), (some (a15, true))⟩, ⟨(some a17), .q (.ld1 z4), (some (a15, true))⟩, ⟨(some a18), .q (.ln .str z17), (some (a15, true))⟩, ⟨(some a19), .q (.bi .geq z16 z18), (some (a15, true))⟩, ⟨(some a20), .q (.mv z19), (some (a15, true))⟩, ⟨(some a21), .q (.ld1 z4), (some (a20, false))⟩, ⟨(some a22), .q (.ld1 z3), (some (a20, false))⟩, ⟨(some a23), .q (.ixS z21 z22), (some (a20, false))⟩, ⟨(some a24), .q (.bi .neq z23 (.c (.i .u8 36))), (some (a20, false))⟩, ⟨(some a25), .q (.pk z20 xT z24), (some (a15, true))⟩, ⟨(some a26), .q (.pk z15 z25 xF), (some (a8, false))⟩, (qq a27 (.pk z8 xT z26))])
def b74_2 : CC := (.reg [(qq a28 (.ld1 z2)), (qq a29 (.ld1 z0)), (qq a30 (.bs z29)), (qq a31 (.bld [(.s 0 0), (.b false)] [(0, 1, z30)])), (aa a32 (.bsl 64 1 2 [(.s 0 0), (.b false)] [(0, z31)])), (ee a33 (.app 64 2 24 z28 z32)), (ez (.st 1 z2 z33))])
def b74_3 : CC := (.seq b74_1 (.cond z27 b74_2 .skip))
def b74_4 : CC := (.reg [(ez (.st 1 z0 (.c .l0))), (ez (.st 1 z1 xF))])
def c74 : CF := .mk 6 [] (.seq b74_3 b74_4)
theorem e74 (v0 v1 v2 v3 v4 : V) : argTr 6 [v0, v1, v2, v3, v4] = (.n (.n (.n sk3 (some v3) sk3) (some v1) sk4) (some v0) (.n (.n sk3 (some v4) sk3) (some v2) sk4)) := rfl
def B74 := ai @e74 (ai (wu b74_1.eq_1) (ai (wu b74_2.eq_1) (ai (wu b74_3.eq_1) (wu b74_4.eq_1))))
def bE (l : List UInt8) : List (List V) := l.map fun x => [bV x]
theorem bE_len (l : List UInt8) : (bE l).length = l.length := List.length_map ..
def WS (M0 : Mem) (b : Nat) (s : List UInt8) (M : Mem) (c1 : Nat) (w : List Pc) (text : List UInt8) (sm : Bool) (i : Nat) : Prop :=
 ∃ (v tv : V) (p1 p2 : Nat), Gr b M0 c1 M ∧ b + 6 ≤ c1 ∧ M.get b = some (rowB 9 [sV s]) ∧ M.get (b + 1) = some (rowB 36 [.l0]) ∧ M.get (b + 2) = some (rowB 34 [v]) ∧ M.get (b + 3) = some (rowB 96 [tv]) ∧ M.get (b + 4) = some (rowB 4 [.b sm]) ∧ M.get (b + 5) = some (rowB 3 [.i .i64 (i : Int)]) ∧ AccAt M (b + 6) c1 p1 64 2 v (pcE w) ∧ AccAt M (b + 6) c1 p2 5 1 tv (bE text)
def flW (w : List Pc) (text : List UInt8) (sm : Bool) (d : Bool) : List Pc := if text ≠ [] ∨ (sm = true ∧ w = [] ∧ d = false) then w ++ [(text, false)] else w
theorem acc_ne {M : Mem} {c0 c1 p1 p2 : Nat} {v tv : V} {w : List Pc} {text : List UInt8} (h1 : AccAt M c0 c1 p1 64 2 v (pcE w)) (h2 : AccAt M c0 c1 p2 5 1 tv (bE text)) : tv = .l0 ∧ text = [] ∨ v = .l0 ∧ w = [] ∨ p1 ≠ p2 := by
 rcases h2 with ⟨_, ⟨e2, rfl⟩ | ⟨_, _, _, g2⟩⟩
 · exact .inl ⟨rfl, List.map_eq_nil_iff.1 e2⟩
 · rcases h1 with ⟨_, ⟨e1, rfl⟩ | ⟨_, _, _, g1⟩⟩
   · exact .inr (.inl ⟨rfl, List.map_eq_nil_iff.1 e1⟩)
   · refine .inr (.inr fun e => ?_)
     subst e
     rw [g1] at g2
     injection g2 with g2
     injection g2 with g3
     cases g3
theorem acc_set2 {M : Mem} {c0 c1 b x ty sz : Nat} {y : Blk} {v : V} {es : List (List V)} (h : AccAt M c0 c1 b ty sz v es) (hx : x < c0) : AccAt (M.set x y) c0 c1 b ty sz v es := by
 rcases h with ⟨h0, h | ⟨h1, h2, h3, h4⟩⟩
 · exact ⟨h0, .inl h⟩
 · exact ⟨h0, .inr ⟨h1, h2, h3, by rw [get_ne _ _ (by omega)]; exact h4⟩⟩
theorem ws_fin {M0 M3 : Mem} {b c2 b2 i : Nat} {s : List UInt8} {W : List Pc} {v' : V} (gr : Gr b M0 c2 M3) (h6 : b + 6 ≤ c2) (m0 : M3.get b = some (rowB 9 [sV s])) (m1 : M3.get (b + 1) = some (rowB 36 [.l0])) (m2 : M3.get (b + 2) = some (rowB 34 [v'])) (m5 : M3.get (b + 5) = some (rowB 3 [.i .i64 (i : Int)])) (hA : AccAt M3 (b + 6) c2 b2 64 2 v' (pcE W)) :
  WS M0 b s ((M3.set (b + 3) (rowB 96 [.l0])).set (b + 4) (rowB 4 [.b false])) c2 W [] false i :=
 ⟨v', .l0, b2, 0, (gr.set (b + 3) _ (by omega) (by omega) (Nat.le_refl _)).set (b + 4) _ (by omega) (by omega) (Nat.le_refl _), h6, by rw [get_ne _ _ (by omega), get_ne _ _ (by omega)]; exact m0, by rw [get_ne _ _ (by omega), get_ne _ _ (by omega)]; exact m1, by rw [get_ne _ _ (by omega), get_ne _ _ (by omega)]; exact m2, by rw [get_ne _ _ (by omega)]; exact get_same _ _ _, get_same _ _ _, by rw [get_ne _ _ (by omega), get_ne _ _ (by omega)]; exact m5, acc_set2 (acc_set2 hA (by omega)) (by omega), AccAt.nil⟩
theorem r74 (Φ : Nat → Option CF) (h : Φ 74 = some c74) {F : RO} {M0 M : Mem} {b c1 i : Nat} {s text : List UInt8} {w : List Pc} {sm : Bool} (ok0 : Okm F M0 b) (hi : i ≤ s.length) (hs : s.length ≤ 400000) (hw : w.length ≤ 1000000) (ht : text.length ≤ 1000000) (hW : WS M0 b s M c1 w text sm i) :
  Calls Φ F 74 [.p (b + 3) 0, .p (b + 4) 0, .p (b + 2) 0, .p (b + 5) 0, .p b 0] M c1 fun r M' c' => WS M0 b s M' c' (flW w text sm (decide (s[i]? = some 36))) [] false i ∧ c1 ≤ c' := by
 refine calls_walk h ?_
 obtain ⟨v, tv, p1, p2, gr, h6, m0, m1, m2, m3, m4, m5, hA, hT⟩ := hW
 have ok1 := gr.ok ok0
 have l0 : load1 F M b 0 = some (sV s) := load_row m0 0
 have l2 : load1 F M (b + 2) 0 = some v := load_row m2 0
 have l3 : load1 F M (b + 3) 0 = some tv := load_row m3 0
 have l4 : load1 F M (b + 4) 0 = some (.b sm) := load_row m4 0
 have l5 : load1 F M (b + 5) 0 = some (.i .i64 (i : Int)) := load_row m5 0
 have hlt : lnL tv = some (.i .i64 (text.length : Int)) := by have := (hT.sl (F := [])).len; rwa [bE_len] at this
 have hlv := acc_len hA
 have st3 := store_row m3 0 [V.l0] (by simp) rfl
 have st4 := store_row ((get_ne M (rowB 96 [V.l0]) (show b + 4 ≠ b + 3 by omega)).trans m4) 0 [V.b false] (by simp) rfl
 have NOP : ∀ W, W = w → WS M0 b s ((M.set (b + 3) (rowB 96 [V.l0])).set (b + 4) (rowB 4 [V.b false])) c1 W [] false i := fun W e => by rw [e]; exact ws_fin (b2 := p1) gr h6 m0 m1 m2 m5 hA
 by_cases htn : text = []
 · have d1 : decide ((0 : Int) < (text.length : Int)) = false := decide_eq_false (by rw [htn]; simp)
   cases sm with
   | false =>
     simp only [WX, B74, l3, hlt, d1, l4, st3, st4]
     exact ⟨NOP _ (if_neg (by simp [htn])), Nat.le_refl _⟩
   | true =>
     by_cases hwn : w = []
     · have d2 : decide ((w.length : Int) = 0) = true := decide_eq_true (by rw [hwn]; rfl)
       have hbs : bsV F M tv = some (sV text) := bs_of hT.sl
       have hF : ∀ w, flatten (sV w) = [sV w] := fun _ => rfl
       have hO : ∀ w, isOne (sV w) = true := fun _ => rfl
       have hR : ∀ t, replL [V.s 0 0, V.b false] 0 [sV t] = some [sV t, V.b false] := fun _ => rfl
       have hG : ∀ t, flatten (V.g [sV t, V.b false]) = [sV t, V.b false] := fun _ => rfl
       by_cases hil : i < s.length
       · have d3 : decide ((s.length : Int) ≤ (i : Int)) = false := decide_eq_false (by omega)
         have hix : ixSV (sV s) (.i .i64 (i : Int)) = some (.i .u8 ((s[i]).toNat : Int)) := ixSs s .i64 i hil
         have hg : s[i]? = some s[i] := List.getElem?_eq_getElem hil
         by_cases h36 : s[i] = 36
         · have d4 : decide (((s[i]).toNat : Int) ≠ 36) = false := decide_eq_false (fun hh => hh (by rw [h36]; rfl))
           simp only [WX, B74, l3, hlt, d1, l4, l2, hlv, d2, l5, l0, d3, hix, d4, st3, st4]
           exact ⟨NOP _ (if_neg (by rw [hg, h36]; simp [htn])), Nat.le_refl _⟩
         · have d4 : decide (((s[i]).toNat : Int) ≠ 36) = true := decide_eq_true (fun hh => h36 (UInt8.toNat_inj.1 (by rw [show (36 : UInt8).toNat = 36 from rfl]; omega)))
           simp only [WX, Nat.reduceAdd, B74, l3, hlt, d1, l4, l2, hlv, d2, l5, l0, d3, hix, d4, hbs, hF, hO, hR, hG]
           refine putE_to ((pc_push (text, false) hA ok1 h6 hw).mono ?_)
           rintro v' M2 c2 ⟨b2, hA2, gr2, hle2, hold⟩
           obtain ⟨w1, w2, w3⟩ := acc_one hA2
           have n2 := (gr2.old (b + 2) (by omega)).trans m2
           have st2 := store_row n2 0 [v'] (by simp) w3
           have st3 := store_row ((get_ne M2 (rowB 34 [v']) (show b + 3 ≠ b + 2 by omega)).trans ((gr2.old (b + 3) (by omega)).trans m3)) 0 [V.l0] (by simp) rfl
           have st4 := store_row ((get_ne (M2.set (b + 2) (rowB 34 [v'])) (rowB 96 [V.l0]) (show b + 4 ≠ b + 3 by omega)).trans ((get_ne M2 (rowB 34 [v']) (show b + 4 ≠ b + 2 by omega)).trans ((gr2.old (b + 4) (by omega)).trans m4))) 0 [V.b false] (by simp) rfl
           simp only [WX, B74, w2, st2, st3, st4]
           refine ⟨?_, by omega⟩
           rw [show flW w text true (decide (s[i]? = some 36)) = w ++ [(text, false)] from if_pos (.inr ⟨rfl, hwn, by rw [hg]; exact decide_eq_false (fun hh => h36 (Option.some.inj hh))⟩)]
           exact ws_fin (b2 := b2) ⟨by omega, fun x hx => by rw [get_ne _ _ (by omega), gr2.old x (by omega), gr.old x hx], fun x hx => by rw [get_ne _ _ (by omega)]; exact gr2.new x hx⟩ (by omega) (by rw [get_ne _ _ (by omega)]; exact (gr2.old b (by omega)).trans m0) (by rw [get_ne _ _ (by omega)]; exact (gr2.old (b + 1) (by omega)).trans m1) (get_same _ _ _) (by rw [get_ne _ _ (by omega)]; exact (gr2.old (b + 5) (by omega)).trans m5) (acc_set2 hA2 (by omega))
       · have d3 : decide ((s.length : Int) ≤ (i : Int)) = true := decide_eq_true (by omega)
         have hg : s[i]? = none := List.getElem?_eq_none (by omega)
         simp only [WX, Nat.reduceAdd, B74, l3, hlt, d1, l4, l2, hlv, d2, l5, l0, d3, hbs, hF, hO, hR, hG]
         refine putE_to ((pc_push (text, false) hA ok1 h6 hw).mono ?_)
         rintro v' M2 c2 ⟨b2, hA2, gr2, hle2, hold⟩
         obtain ⟨w1, w2, w3⟩ := acc_one hA2
         have n2 := (gr2.old (b + 2) (by omega)).trans m2
         have st2 := store_row n2 0 [v'] (by simp) w3
         have st3 := store_row ((get_ne M2 (rowB 34 [v']) (show b + 3 ≠ b + 2 by omega)).trans ((gr2.old (b + 3) (by omega)).trans m3)) 0 [V.l0] (by simp) rfl
         have st4 := store_row ((get_ne (M2.set (b + 2) (rowB 34 [v'])) (rowB 96 [V.l0]) (show b + 4 ≠ b + 3 by omega)).trans ((get_ne M2 (rowB 34 [v']) (show b + 4 ≠ b + 2 by omega)).trans ((gr2.old (b + 4) (by omega)).trans m4))) 0 [V.b false] (by simp) rfl
         simp only [WX, B74, w2, st2, st3, st4]
         refine ⟨?_, by omega⟩
         rw [show flW w text true (decide (s[i]? = some 36)) = w ++ [(text, false)] from if_pos (.inr ⟨rfl, hwn, by rw [hg]; rfl⟩)]
         exact ws_fin (b2 := b2) ⟨by omega, fun x hx => by rw [get_ne _ _ (by omega), gr2.old x (by omega), gr.old x hx], fun x hx => by rw [get_ne _ _ (by omega)]; exact gr2.new x hx⟩ (by omega) (by rw [get_ne _ _ (by omega)]; exact (gr2.old b (by omega)).trans m0) (by rw [get_ne _ _ (by omega)]; exact (gr2.old (b + 1) (by omega)).trans m1) (get_same _ _ _) (by rw [get_ne _ _ (by omega)]; exact (gr2.old (b + 5) (by omega)).trans m5) (acc_set2 hA2 (by omega))
     · have d2 : decide ((w.length : Int) = 0) = false := decide_eq_false (fun e => hwn (List.length_eq_zero_iff.1 (by omega)))
       simp only [WX, B74, l3, hlt, d1, l4, l2, hlv, d2, st3, st4]
       exact ⟨NOP _ (if_neg (by simp [htn, hwn])), Nat.le_refl _⟩
 · have d1 : decide ((0 : Int) < (text.length : Int)) = true := decide_eq_true (by have : text.length ≠ 0 := fun e => htn (List.length_eq_zero_iff.1 e); omega)
   have hbs : bsV F M tv = some (sV text) := bs_of hT.sl
   have hF : ∀ w, flatten (sV w) = [sV w] := fun _ => rfl
   have hO : ∀ w, isOne (sV w) = true := fun _ => rfl
   have hR : ∀ t, replL [V.s 0 0, V.b false] 0 [sV t] = some [sV t, V.b false] := fun _ => rfl
   have hG : ∀ t, flatten (V.g [sV t, V.b false]) = [sV t, V.b false] := fun _ => rfl
   simp only [WX, Nat.reduceAdd, B74, l3, hlt, d1, l2, hbs, hF, hO, hR, hG]
   refine putE_to ((pc_push (text, false) hA ok1 h6 hw).mono ?_)
   rintro v' M2 c2 ⟨b2, hA2, gr2, hle2, hold⟩
   obtain ⟨w1, w2, w3⟩ := acc_one hA2
   have n2 := (gr2.old (b + 2) (by omega)).trans m2
   have st2 := store_row n2 0 [v'] (by simp) w3
   have st3 := store_row ((get_ne M2 (rowB 34 [v']) (show b + 3 ≠ b + 2 by omega)).trans ((gr2.old (b + 3) (by omega)).trans m3)) 0 [V.l0] (by simp) rfl
   have st4 := store_row ((get_ne (M2.set (b + 2) (rowB 34 [v'])) (rowB 96 [V.l0]) (show b + 4 ≠ b + 3 by omega)).trans ((get_ne M2 (rowB 34 [v']) (show b + 4 ≠ b + 2 by omega)).trans ((gr2.old (b + 4) (by omega)).trans m4))) 0 [V.b false] (by simp) rfl
   simp only [WX, B74, w2, st2, st3, st4]
   refine ⟨?_, by omega⟩
   rw [show flW w text sm (decide (s[i]? = some 36)) = w ++ [(text, false)] from if_pos (.inl htn)]
   exact ws_fin (b2 := b2) ⟨by omega, fun x hx => by rw [get_ne _ _ (by omega), gr2.old x (by omega), gr.old x hx], fun x hx => by rw [get_ne _ _ (by omega)]; exact gr2.new x hx⟩ (by omega) (by rw [get_ne _ _ (by omega)]; exact (gr2.old b (by omega)).trans m0) (by rw [get_ne _ _ (by omega)]; exact (gr2.old (b + 1) (by omega)).trans m1) (get_same _ _ _) (by rw [get_ne _ _ (by omega)]; exact (gr2.old (b + 5) (by omega)).trans m5) (acc_set2 hA2 (by omega))
def b56_1 : CC := (.reg [(aa a1 (.bx 9 1 z0)), (aa a2 (.al 36 [.l0])), (qq a3 (.mv (x6 0)))])
def w56_1 := wu b56_1.eq_1
def b56_2 : CC := (.reg [(aa a6 (.al 4 [(.b false)])), (ez (.st 1 z6 xF))])
def w56_2 := wu b56_2.eq_1
def b56_3 : CC := (.reg [(aa a7 (.al 3 [(.i .i64 0)])), (ez (.st 1 z7 (x6 0))), (qq a8 (.mv (x6 0)))])
def w56_3 := wu b56_3.eq_1
def b56_4 : CC := (.reg [(qq a10 (.mkf 74 [] [z5, z6, z4, z7, z1])), (qq a9 (.mv z10))])
def w56_4 := wu b56_4.eq_1
def b56_5 : CC := (.reg [(qq a11 (.ld1 z7)), (qq a12 (.ld1 z1)), (qq a13 (.ln .str z12)), (qq a14 (.bi .eql z11 z13)), (qq a15 (.mv z14)), ⟨(some a16), .q (.ld1 z1), (some (a15, false))⟩, ⟨(some a17), .q (.ld1 z7), (some (a15, false))⟩, ⟨(some a18), .q (.ixS z16 z17), (some (a15, false))⟩, ⟨(some a19), .q (.bi .eql z18 (.c (.i .u8 32))), (some (a15, false))⟩, (qq a20 (.pk z15 xT z19)), (qq a21 (.mv z20)), ⟨(some a22), .q (.ld1 z1), (some (a21, false))⟩, ⟨(some a23), .q (.ld1 z7), (some (a21, false))⟩, ⟨(some a24), .q (.ixS z22 z23), (some (a21, false))⟩, ⟨(some a25), .q (.bi .eql z24 (.c (.i .u8 38))), (some (a21, false))⟩, (qq a26 (.pk z21 xT z25)), (qq a27 (.mv z26)), ⟨(some a28), .q (.ld1 z1), (some (a27, false))⟩, ⟨(some a29), .q (.ld1 z7), (some (a27, false))⟩, ⟨(some a30), .q (.slS z28 (some z29) none), (some (a27, false))⟩, ⟨(some a31), .e (.call 55 [z30]), (some (a27, false))⟩, ⟨(some a32), .q (.bi .neq z31 (.c (.s 0 0))), (some (a27, false))⟩, (qq a33 (.pk z27 xT z32))])
def w56_5 := wu b56_5.eq_1
def b56_6 : CC := (.seq b56_5 (.cond z33 (.goto 0) .skip))
def w56_6 := wu b56_6.eq_1
def b56_7 : CC := (.reg [(qq a36 (.ld1 z1)), (qq a37 (.ld1 z7)), (qq a38 (.ixS z36 z37)), (qq a39 (.bi .eql z38 (.c (.i .u8 39)))), (qq a35 (.mv z39))])
def w56_7 := wu b56_7.eq_1
def b56_8 : CC := (.reg [(qq a41 (.ld1 z1)), (qq a42 (.ld1 z7)), (qq a43 (.slS z41 (some z42) none)), (ee a44 (.call 73 [z43, (.c (.s 2 16164))])), (qq a40 (.mv z44))])
def w56_8 := wu b56_8.eq_1
def b56_9 : CC := (.reg [(qq a45 (.mv z9)), (ee a46 (.cv z45 []))])
def w56_9 := wu b56_9.eq_1
def b56_10 : CC := (.reg [(qq a47 (.ld1 z4)), (qq a48 (.bld [(.s 0 0), (.b false)] [(1, 1, xT)])), (aa a49 (.bsl 64 1 2 [(.s 0 0), (.b false)] [(0, z48)])), (ee a50 (.app 64 2 24 z47 z49)), (ez (.st 1 z4 z50))])
def w56_10 := wu b56_10.eq_1
def b56_11 : CC := (.reg [(qq a51 (.ld1 z7)), (qq a52 (.bi .add z51 (x6 2))), (ez (.st 1 z7 z52))])
def w56_11 := wu b56_11.eq_1
def b56_12 : CC := (.reg [(qq a54 (.ld1 z1)), (qq a55 (.ld1 z7)), (qq a56 (.ixS z54 z55)), (ee a57 (.call 75 [z56])), (qq a53 (.mv z57))])
def w56_12 := wu b56_12.eq_1
def b56_13 : CC := (.dreg 8 [(0, 0, (qq a58 (.ld1 z5))), (1, 0, (qq a59 (.ld1 z1))), (2, 0, (qq a60 (.ld1 z7))), (3, 6, (qq a61 (.ixS z59 z60))), (4, 14, (aa a62 (.bsl 5 1 1 [(.i .u8 0)] [(0, z61)]))), (5, 31, (ee a63 (.app 5 1 1 z58 z62))), (6, 63, (ez (.st 1 z5 z63))), (7, 127, (ez (.st 1 z6 xT)))])
def w56_13 := wu b56_13.eq_1
def b56_14 : CC := (.reg [(qq a64 (.ld1 z7)), (qq a65 (.bi .add z64 (x6 1))), (ez (.st 1 z7 z65))])
def w56_14 := wu b56_14.eq_1
def b56_15 : CC := (.reg [(qq a34 (.bld [.l0] [])), (ez (.st 1 z2 z34)), (qq a3 (.mv (x6 0)))])
def w56_15 := wu b56_15.eq_1
def b56_16 : CC := (.cond z53 (.seq b56_13 b56_14) (.seq b56_15 .ret))
def w56_16 := wu b56_16.eq_1
def b56_17 : CC := (.cond z40 (.seq b56_9 (.seq b56_10 b56_11)) (.seq b56_12 b56_16))
def w56_17 := wu b56_17.eq_1
def b56_18 : CC := (.cond z35 (.goto 2) (.seq b56_8 b56_17))
def w56_18 := wu b56_18.eq_1
def b56_19 : CC := (.reg [(qq a66 (.ld1 z1)), (qq a67 (.ld1 z7)), (qq a68 (.bi .add z67 (x6 1))), (qq a69 (.slS z66 (some z68) none)), (ee a70 (.call 76 [z69, (.c (.i .u8 39))])), (qq a8 (.mv z70))])
def w56_19 := wu b56_19.eq_1
def b56_20 : CC := (.reg [(qq a71 (.mv z8)), (qq a72 (.bi .lss z71 (x6 0))), (qq a73 (.mv z72)), ⟨(some a74), .q (.ld1 z1), (some (a73, false))⟩, ⟨(some a75), .q (.ld1 z7), (some (a73, false))⟩, ⟨(some a76), .q (.bi .add z75 (x6 1)), (some (a73, false))⟩, ⟨(some a77), .q (.ld1 z7), (some (a73, false))⟩, ⟨(some a78), .q (.bi .add z77 (x6 1)), (some (a73, false))⟩, ⟨(some a79), .q (.mv z8), (some (a73, false))⟩, ⟨(some a80), .q (.bi .add z78 z79), (some (a73, false))⟩, ⟨(some a81), .q (.slS z74 (some z76) (some z80)), (some (a73, false))⟩, ⟨(some a82), .e (.call 77 [z81, (.c (.f 78 [] []))]), (some (a73, false))⟩, ⟨(some a83), .q (.un .not z82), (some (a73, false))⟩, (qq a84 (.pk z73 xT z83))])
def w56_20 := wu b56_20.eq_1
def b56_21 : CC := (.reg [(qq a85 (.bld [.l0] [])), (ez (.st 1 z2 z85)), (qq a3 (.mv (x6 0)))])
def w56_21 := wu b56_21.eq_1
def b56_22 : CC := (.cond z84 (.seq b56_21 .ret) .skip)
def w56_22 := wu b56_22.eq_1
def b56_23 : CC := (.dreg 12 [(0, 0, (qq a86 (.ld1 z5))), (1, 0, (qq a87 (.ld1 z1))), (2, 0, (qq a88 (.ld1 z7))), (3, 4, (qq a89 (.bi .add z88 (x6 1)))), (4, 0, (qq a90 (.ld1 z7))), (5, 16, (qq a91 (.bi .add z90 (x6 1)))), (6, 0, (qq a92 (.mv z8))), (7, 112, (qq a93 (.bi .add z91 z92))), (8, 254, (qq a94 (.slS z87 (some z89) (some z93)))), (9, 511, (ee a95 (.app 5 1 1 z86 z94))), (10, 1023, (ez (.st 1 z5 z95))), (11, 2047, (ez (.st 1 z6 xT)))])
def w56_23 := wu b56_23.eq_1
def b56_24 : CC := (.reg [(qq a96 (.ld1 z7)), (qq a97 (.mv z8)), (qq a98 (.bi .add z97 (x6 2))), (qq a99 (.bi .add z96 z98)), (ez (.st 1 z7 z99))])
def w56_24 := wu b56_24.eq_1
def b56_25 : CC := (.reg [(qq a100 (.mv z9)), (ee a101 (.cv z100 []))])
def w56_25 := wu b56_25.eq_1
def b56_26 : CC := (.dreg 5 [(0, 0, (qq a102 (.ld1 z4))), (1, 1, (qq a103 (.bld [.l0] [(0, 1, z102)]))), (2, 0, (qq a104 (.ld1 z7))), (3, 3, (ez (.st 1 z2 z103))), (4, 15, (qq a3 (.mv z104)))])
def w56_26 := wu b56_26.eq_1
def b56_27 : CC := (.seq (.goto 1) (.seq .skip (.seq b56_25 (.seq b56_26 .ret))))
def w56_27 := wu b56_27.eq_1
def b56_28 : CC := (.seq (.seq b56_20 b56_22) (.seq b56_23 (.seq b56_24 b56_27)))
def w56_28 := wu b56_28.eq_1
def b56_29 : CC := (.seq (.block 0 (.seq b56_7 b56_18)) (.seq (.goto 1) (.seq .skip (.seq b56_19 b56_28))))
def w56_29 := wu b56_29.eq_1
def b56_30 : CC := (.seq b56_2 (.seq b56_3 (.seq b56_4 (.seq .skip (.seq b56_6 b56_29)))))
def w56_30 := wu b56_30.eq_1
def b56_31 : CC := (.seq (.reg [(aa a5 (.al 96 [.l0]))]) b56_30)
def w56_31 := wu b56_31.eq_1
def b56_32 : CC := (.seq (.reg [(aa a4 (.al 34 [.l0]))]) b56_31)
def w56_32 := wu b56_32.eq_1
def b56_33 : CC := (.reg [(qq a11 (.ld1 z7)), (qq a12 (.ld1 z1)), (qq a13 (.ln .str z12)), (qq a14 (.bi .eql z11 z13)), (qq a15 (.mv z14)), ⟨(some a16), .q (.ld1 z1), (some (a15, false))⟩, ⟨(some a17), .q (.ld1 z7), (some (a15, false))⟩, ⟨(some a18), .q (.ixS z16 z17), (some (a15, false))⟩, ⟨(some a19), .q (.bi .eql z18 (.c (.i .u8 32))), (some (a15, false))⟩, (qq a20 (.pk z15 xT z19)), (qq a21 (.mv z20)), ⟨(some a22), .q (.ld1 z1), (some (a21, false))⟩, ⟨(some a23), .q (.ld1 z7), (some (a21, false))⟩, ⟨(some a24), .q (.ixS z22 z23), (some (a21, false))⟩, ⟨(some a25), .q (.bi .eql z24 (.c (.i .u8 38))), (some (a21, false))⟩, (qq a26 (.pk z21 xT z25)), (qq a27 (.mv z26)), ⟨(some a28), .q (.ld1 z1), (some (a27, false))⟩, ⟨(some a29), .q (.ld1 z7), (some (a27, false))⟩, ⟨(some a30), .q (.slS z28 (some z29) none), (some (a27, false))⟩, ⟨(some a31), .e (.call 55 [z30]), (some (a27, false))⟩, ⟨(some a32), .q (.bi .neq z31 (.c (.s 0 0))), (some (a27, false))⟩, (qq a33 (.pk z27 xT z32))])
def w56_33 := wu b56_33.eq_1
def b56_34 : CC := (.seq b56_33 (.cond z33 (.goto 0) .skip))
def w56_34 := wu b56_34.eq_1
def b56_35 : CC := (.reg [(qq a36 (.ld1 z1)), (qq a37 (.ld1 z7)), (qq a38 (.ixS z36 z37)), (qq a39 (.bi .eql z38 (.c (.i .u8 39)))), (qq a35 (.mv z39))])
def w56_35 := wu b56_35.eq_1
def b56_36 : CC := (.reg [(qq a41 (.ld1 z1)), (qq a42 (.ld1 z7)), (qq a43 (.slS z41 (some z42) none)), (ee a44 (.call 73 [z43, (.c (.s 2 16164))])), (qq a40 (.mv z44))])
def w56_36 := wu b56_36.eq_1
def b56_37 : CC := (.reg [(qq a45 (.mv z9)), (ee a46 (.cv z45 []))])
def w56_37 := wu b56_37.eq_1
def b56_38 : CC := (.reg [(qq a47 (.ld1 z4)), (qq a48 (.bld [(.s 0 0), (.b false)] [(1, 1, xT)])), (aa a49 (.bsl 64 1 2 [(.s 0 0), (.b false)] [(0, z48)])), (ee a50 (.app 64 2 24 z47 z49)), (ez (.st 1 z4 z50))])
def w56_38 := wu b56_38.eq_1
def b56_39 : CC := (.reg [(qq a51 (.ld1 z7)), (qq a52 (.bi .add z51 (x6 2))), (ez (.st 1 z7 z52))])
def w56_39 := wu b56_39.eq_1
def b56_40 : CC := (.reg [(qq a54 (.ld1 z1)), (qq a55 (.ld1 z7)), (qq a56 (.ixS z54 z55)), (ee a57 (.call 75 [z56])), (qq a53 (.mv z57))])
def w56_40 := wu b56_40.eq_1
def b56_41 : CC := (.dreg 8 [(0, 0, (qq a58 (.ld1 z5))), (1, 0, (qq a59 (.ld1 z1))), (2, 0, (qq a60 (.ld1 z7))), (3, 6, (qq a61 (.ixS z59 z60))), (4, 14, (aa a62 (.bsl 5 1 1 [(.i .u8 0)] [(0, z61)]))), (5, 31, (ee a63 (.app 5 1 1 z58 z62))), (6, 63, (ez (.st 1 z5 z63))), (7, 127, (ez (.st 1 z6 xT)))])
def w56_41 := wu b56_41.eq_1
def b56_42 : CC := (.reg [(qq a64 (.ld1 z7)), (qq a65 (.bi .add z64 (x6 1))), (ez (.st 1 z7 z65))])
def w56_42 := wu b56_42.eq_1
def b56_43 : CC := (.reg [(qq a34 (.bld [.l0] [])), (ez (.st 1 z2 z34)), (qq a3 (.mv (x6 0)))])
def w56_43 := wu b56_43.eq_1
def b56_44 : CC := (.cond z53 (.seq b56_41 b56_42) (.seq b56_43 .ret))
def w56_44 := wu b56_44.eq_1
def b56_45 : CC := (.cond z40 (.seq b56_37 (.seq b56_38 b56_39)) (.seq b56_40 b56_44))
def w56_45 := wu b56_45.eq_1
def b56_46 : CC := (.cond z35 (.goto 2) (.seq b56_36 b56_45))
def w56_46 := wu b56_46.eq_1
def b56_47 : CC := (.reg [(qq a66 (.ld1 z1)), (qq a67 (.ld1 z7)), (qq a68 (.bi .add z67 (x6 1))), (qq a69 (.slS z66 (some z68) none)), (ee a70 (.call 76 [z69, (.c (.i .u8 39))])), (qq a8 (.mv z70))])
def w56_47 := wu b56_47.eq_1
def b56_48 : CC := (.reg [(qq a71 (.mv z8)), (qq a72 (.bi .lss z71 (x6 0))), (qq a73 (.mv z72)), ⟨(some a74), .q (.ld1 z1), (some (a73, false))⟩, ⟨(some a75), .q (.ld1 z7), (some (a73, false))⟩, ⟨(some a76), .q (.bi .add z75 (x6 1)), (some (a73, false))⟩, ⟨(some a77), .q (.ld1 z7), (some (a73, false))⟩, ⟨(some a78), .q (.bi .add z77 (x6 1)), (some (a73, false))⟩, ⟨(some a79), .q (.mv z8), (some (a73, false))⟩, ⟨(some a80), .q (.bi .add z78 z79), (some (a73, false))⟩, ⟨(some a81), .q (.slS z74 (some z76) (some z80)), (some (a73, false))⟩, ⟨(some a82), .e (.call 77 [z81, (.c (.f 78 [] []))]), (some (a73, false))⟩, ⟨(some a83), .q (.un .not z82), (some (a73, false))⟩, (qq a84 (.pk z73 xT z83))])
def w56_48 := wu b56_48.eq_1
def b56_49 : CC := (.reg [(qq a85 (.bld [.l0] [])), (ez (.st 1 z2 z85)), (qq a3 (.mv (x6 0)))])
def w56_49 := wu b56_49.eq_1
def b56_50 : CC := (.cond z84 (.seq b56_49 .ret) .skip)
def w56_50 := wu b56_50.eq_1
def b56_51 : CC := (.dreg 12 [(0, 0, (qq a86 (.ld1 z5))), (1, 0, (qq a87 (.ld1 z1))), (2, 0, (qq a88 (.ld1 z7))), (3, 4, (qq a89 (.bi .add z88 (x6 1)))), (4, 0, (qq a90 (.ld1 z7))), (5, 16, (qq a91 (.bi .add z90 (x6 1)))), (6, 0, (qq a92 (.mv z8))), (7, 112, (qq a93 (.bi .add z91 z92))), (8, 254, (qq a94 (.slS z87 (some z89) (some z93)))), (9, 511, (ee a95 (.app 5 1 1 z86 z94))), (10, 1023, (ez (.st 1 z5 z95))), (11, 2047, (ez (.st 1 z6 xT)))])
def w56_51 := wu b56_51.eq_1
def b56_52 : CC := (.reg [(qq a96 (.ld1 z7)), (qq a97 (.mv z8)), (qq a98 (.bi .add z97 (x6 2))), (qq a99 (.bi .add z96 z98)), (ez (.st 1 z7 z99))])
def w56_52 := wu b56_52.eq_1
def b56_53 : CC := (.reg [(qq a100 (.mv z9)), (ee a101 (.cv z100 []))])
def w56_53 := wu b56_53.eq_1
def b56_54 : CC := (.dreg 5 [(0, 0, (qq a102 (.ld1 z4))), (1, 1, (qq a103 (.bld [.l0] [(0, 1, z102)]))), (2, 0, (qq a104 (.ld1 z7))), (3, 3, (ez (.st 1 z2 z103))), (4, 15, (qq a3 (.mv z104)))])
def w56_54 := wu b56_54.eq_1
def b56_55 : CC := (.seq (.goto 1) (.seq .skip (.seq b56_53 (.seq b56_54 .ret))))
def w56_55 := wu b56_55.eq_1
def b56_56 : CC := (.seq (.seq b56_48 b56_50) (.seq b56_51 (.seq b56_52 b56_55)))
def w56_56 := wu b56_56.eq_1
def b56_57 : CC := (.seq (.block 0 (.seq b56_35 b56_46)) (.seq (.goto 1) (.seq .skip (.seq b56_47 b56_56))))
def w56_57 := wu b56_57.eq_1
def b56_58 : CC := (.reg [(qq a66 (.ld1 z1)), (qq a67 (.ld1 z7)), (qq a68 (.bi .add z67 (x6 1))), (qq a69 (.slS z66 (some z68) none)), (ee a70 (.call 76 [z69, (.c (.i .u8 39))])), (qq a8 (.mv z70))])
def w56_58 := wu b56_58.eq_1
def b56_59 : CC := (.reg [(qq a71 (.mv z8)), (qq a72 (.bi .lss z71 (x6 0))), (qq a73 (.mv z72)), ⟨(some a74), .q (.ld1 z1), (some (a73, false))⟩, ⟨(some a75), .q (.ld1 z7), (some (a73, false))⟩, ⟨(some a76), .q (.bi .add z75 (x6 1)), (some (a73, false))⟩, ⟨(some a77), .q (.ld1 z7), (some (a73, false))⟩, ⟨(some a78), .q (.bi .add z77 (x6 1)), (some (a73, false))⟩, ⟨(some a79), .q (.mv z8), (some (a73, false))⟩, ⟨(some a80), .q (.bi .add z78 z79), (some (a73, false))⟩, ⟨(some a81), .q (.slS z74 (some z76) (some z80)), (some (a73, false))⟩, ⟨(some a82), .e (.call 77 [z81, (.c (.f 78 [] []))]), (some (a73, false))⟩, ⟨(some a83), .q (.un .not z82), (some (a73, false))⟩, (qq a84 (.pk z73 xT z83))])
def w56_59 := wu b56_59.eq_1
def b56_60 : CC := (.reg [(qq a85 (.bld [.l0] [])), (ez (.st 1 z2 z85)), (qq a3 (.mv (x6 0)))])
def w56_60 := wu b56_60.eq_1
def b56_61 : CC := (.cond z84 (.seq b56_60 .ret) .skip)
def w56_61 := wu b56_61.eq_1
def b56_62 : CC := (.dreg 12 [(0, 0, (qq a86 (.ld1 z5))), (1, 0, (qq a87 (.ld1 z1))), (2, 0, (qq a88 (.ld1 z7))), (3, 4, (qq a89 (.bi .add z88 (x6 1)))), (4, 0, (qq a90 (.ld1 z7))), (5, 16, (qq a91 (.bi .add z90 (x6 1)))), (6, 0, (qq a92 (.mv z8))), (7, 112, (qq a93 (.bi .add z91 z92))), (8, 254, (qq a94 (.slS z87 (some z89) (some z93)))), (9, 511, (ee a95 (.app 5 1 1 z86 z94))), (10, 1023, (ez (.st 1 z5 z95))), (11, 2047, (ez (.st 1 z6 xT)))])
def w56_62 := wu b56_62.eq_1
def b56_63 : CC := (.reg [(qq a96 (.ld1 z7)), (qq a97 (.mv z8)), (qq a98 (.bi .add z97 (x6 2))), (qq a99 (.bi .add z96 z98)), (ez (.st 1 z7 z99))])
def w56_63 := wu b56_63.eq_1
def b56_64 : CC := (.reg [(qq a100 (.mv z9)), (ee a101 (.cv z100 []))])
def w56_64 := wu b56_64.eq_1
def b56_65 : CC := (.dreg 5 [(0, 0, (qq a102 (.ld1 z4))), (1, 1, (qq a103 (.bld [.l0] [(0, 1, z102)]))), (2, 0, (qq a104 (.ld1 z7))), (3, 3, (ez (.st 1 z2 z103))), (4, 15, (qq a3 (.mv z104)))])
def w56_65 := wu b56_65.eq_1
def b56_66 : CC := (.seq (.goto 1) (.seq .skip (.seq b56_64 (.seq b56_65 .ret))))
def w56_66 := wu b56_66.eq_1
def b56_67 : CC := (.seq (.seq b56_59 b56_61) (.seq b56_62 (.seq b56_63 b56_66)))
def w56_67 := wu b56_67.eq_1
def b56_68 : CC := (.reg [(qq a100 (.mv z9)), (ee a101 (.cv z100 []))])
def w56_68 := wu b56_68.eq_1
def b56_69 : CC := (.dreg 5 [(0, 0, (qq a102 (.ld1 z4))), (1, 1, (qq a103 (.bld [.l0] [(0, 1, z102)]))), (2, 0, (qq a104 (.ld1 z7))), (3, 3, (ez (.st 1 z2 z103))), (4, 15, (qq a3 (.mv z104)))])
def w56_69 := wu b56_69.eq_1
def b56_70 : CC := (.tab 0 (.seq .skip (.seq b56_68 (.seq b56_69 .ret))) .skip)
def w56_70 := wu b56_70.eq_1
def b56_71 : CC := (.tab 1 (.seq .skip (.seq b56_34 b56_57)) (.tab 2 (.seq .skip (.seq b56_58 b56_67)) b56_70))
def w56_71 := wu b56_71.eq_1
def c56 : CF := .mk 7 [.cn a2 1, .t a3] (.seq b56_1 (.scope b56_32 b56_71))
theorem e56 (v0 : V) : argTr 7 [v0] = (.n sk6 (some v0) sk6) := rfl
def B56 := ai @e56 (ai @w56_1 (ai @w56_2 (ai @w56_3 (ai @w56_4 (ai @w56_5 (ai @w56_6 (ai @w56_7 (ai @w56_8 (ai @w56_9 (ai @w56_10 (ai @w56_11 (ai @w56_12 (ai @w56_13 (ai @w56_14 (ai @w56_15 (ai @w56_16 (ai @w56_17 (ai @w56_18 (ai @w56_19 (ai @w56_20 (ai @w56_21 (ai @w56_22 (ai @w56_23 (ai @w56_24 (ai @w56_25 (ai @w56_26 (ai @w56_27 (ai @w56_28 (ai @w56_29 (ai @w56_30 (ai @w56_31 (ai @w56_32 (ai @w56_33 (ai @w56_34 (ai @w56_35 (ai @w56_36 (ai @w56_37 (ai @w56_38 (ai @w56_39 (ai @w56_40 (ai @w56_41 (ai @w56_42 (ai @w56_43 (ai @w56_44 (ai @w56_45 (ai @w56_46 (ai @w56_47 (ai @w56_48 (ai @w56_49 (ai @w56_50 (ai @w56_51 (ai @w56_52 (ai @w56_53 (ai @w56_54 (ai @w56_55 (ai @w56_56 (ai @w56_57 (ai @w56_58 (ai @w56_59 (ai @w56_60 (ai @w56_61 (ai @w56_62 (ai @w56_63 (ai @w56_64 (ai @w56_65 (ai @w56_66 (ai @w56_67 (ai @w56_68 (ai @w56_69 (ai @w56_70 (@w56_71)))))))))))))))))))))))))))))))))))))))))))))))))))))))))))))))))))))))
theorem d41 (Φ : Nat → Option CF) {F : RO} {M0 M : Mem} {b c1 i : Nat} {s text : List UInt8} {w : List Pc} {sm : Bool} (ok0 : Okm F M0 b) (hi : i < s.length) (hs : s.length ≤ 400000) (hw : w.length ≤ 1000000) (ht : text.length ≤ 1000000) (hW : WS M0 b s M c1 w text sm i) (fv : V) (u : List (Option V)) (Q : Ex → St → Prop) (hQ : ∀ (u : List (Option V)) M' c', WS M0 b s M' c' w (text ++ [s[i]]) true i → Q .nrm (.mk ((.n (.n (.n (.n (uv7 u 63 31 95 15 79 47 111) (some (.p (b + 5) 0)) (uv7 u 71 39 103 23 87 55 119)) (uO u 3) (.n (uv7 u 67 35 99 19 83 51 115) (uO u 11) (uv7 u 75 43 107 27 91 59 123))) (some (.p b 0)) (.n (.n (uv7 u 65 33 97 17 81 49 113) (some (fv)) (uv7 u 73 41 105 25 89 57 121)) (some (.p (b + 3) 0)) (.n (uv7 u 69 37 101 21 85 53 117) (uO u 13) (uv7 u 77 45 109 29 93 61 125)))) (uO u 0) (.n (.n (.n (uv7 u 64 32 96 16 80 48 112) (uO u 8) (uv7 u 72 40 104 24 88 56 120)) (some (.p (b + 2) 0)) (.n (uv7 u 68 36 100 20 84 52 116) (uO u 12) (uv7 u 76 44 108 28 92 60 124))) (some (.p (b + 1) 0)) (.n (.n (uv7 u 66 34 98 18 82 50 114) (uO u 10) (uv7 u 74 42 106 26 90 58 122)) (some (.p (b + 4) 0)) (.n (uv7 u 70 38 102 22 86 54 118) (uO u 14) (uv7 u 78 46 110 30 94 62 126)))))) [] M' c')) :
  Wp b56_41 (K Φ none 56 F) (.mk ((.n (.n (.n (.n (uv7 u 63 31 95 15 79 47 111) (some (.p (b + 5) 0)) (uv7 u 71 39 103 23 87 55 119)) (uO u 3) (.n (uv7 u 67 35 99 19 83 51 115) (uO u 11) (uv7 u 75 43 107 27 91 59 123))) (some (.p b 0)) (.n (.n (uv7 u 65 33 97 17 81 49 113) (some (fv)) (uv7 u 73 41 105 25 89 57 121)) (some (.p (b + 3) 0)) (.n (uv7 u 69 37 101 21 85 53 117) (uO u 13) (uv7 u 77 45 109 29 93 61 125)))) (uO u 0) (.n (.n (.n (uv7 u 64 32 96 16 80 48 112) (uO u 8) (uv7 u 72 40 104 24 88 56 120)) (some (.p (b + 2) 0)) (.n (uv7 u 68 36 100 20 84 52 116) (uO u 12) (uv7 u 76 44 108 28 92 60 124))) (some (.p (b + 1) 0)) (.n (.n (uv7 u 66 34 98 18 82 50 114) (uO u 10) (uv7 u 74 42 106 26 90 58 122)) (some (.p (b + 4) 0)) (.n (uv7 u 70 38 102 22 86 54 118) (uO u 14) (uv7 u 78 46 110 30 94 62 126)))))) [] M c1) Q := by
 obtain ⟨v, tv, p1, p0, gr, h6, m0, m1, m2, m3, m4, m5, hA, hT0⟩ := hW
 obtain ⟨p2, hT, hne⟩ : ∃ p, AccAt M (b + 6) c1 p 5 1 tv (bE text) ∧ (p1 ≠ p ∨ (v = .l0 ∧ w = [])) := by
  rcases acc_ne hA hT0 with ⟨rfl, rfl⟩ | ⟨rfl, rfl⟩ | hn
  · exact ⟨p1 + 1, AccAt.nil, .inl (by omega)⟩
  · exact ⟨p0, hT0, .inr ⟨rfl, rfl⟩⟩
  · exact ⟨p0, hT0, .inl hn⟩
 have ok1 := gr.ok ok0
 have hfr := ok1.free
 have l0 : load1 F M b 0 = some (sV s) := load_row m0 0
 have l2 : load1 F M (b + 2) 0 = some v := load_row m2 0
 have l3 : load1 F M (b + 3) 0 = some tv := load_row m3 0
 have l4 : load1 F M (b + 4) 0 = some (.b sm) := load_row m4 0
 have l5 : load1 F M (b + 5) 0 = some (.i .i64 (i : Int)) := load_row m5 0
 have hix : ixSV (sV s) (.i .i64 (i : Int)) = some (.i .u8 ((s[i]).toNat : Int)) := ixSs s .i64 i hi
 have lk : (look F M (c1 + 4)).isNone = true := by rw [ok1.look (by omega)]; rfl
 have fb : ∀ x, flatten (bV x) = [bV x] := fun _ => rfl
 have ob : ∀ x, isOne (bV x) = true := fun _ => rfl
 have rf : readFree (c1 + 4) [(2, b + 5), (1, b), (0, b + 3)] = true := by rw [readFree_cons _ _ _ _ (by omega), readFree_cons _ _ _ _ (by omega), readFree_cons _ _ _ _ (by omega), readFree_nil]
 simp only [WX, Nat.reducePow, Nat.reduceDiv, Nat.reduceMod, Nat.reduceBEq, B56, l3, l0, l5, hix, lk, rf, wd_a, putDA, wd_em]
 have grY : Gr (b + 6) M (c1 + 8) (M.set (c1 + 4) (rowD [V.i .u8 0] 5 [V.i .u8 ((s[i]).toNat : Int)])) := ⟨by omega, fun x hx => get_ne _ _ (by omega), fun x hx => by rw [get_ne _ _ (by omega)]; exact ok1.hiM x (by omega)⟩
 have hy : SlAt F (M.set (c1 + 4) (rowD [V.i .u8 0] 5 [V.i .u8 ((s[i]).toNat : Int)])) (c1 + 8) 1 (.l (c1 + 4) 0 1 1) (bE [s[i]]) := slD (d := [V.i .u8 0]) (ty := 5) (by rw [get_same]; rfl) (by omega) (fun e he => by obtain ⟨x, _, rfl⟩ := List.mem_map.1 he; rfl) rfl
 refine putDE_to ((appV_to (bytes := 1) (hT.up (show c1 ≤ c1 + 8 by omega) (fun hx => get_ne _ _ (by omega))) grY Nat.one_pos hy rfl (room_of (by rw [bE_len, bE_len, List.length_singleton]; omega) (by rw [bE_len, bE_len, List.length_singleton]; omega))).mono ?_)
 rintro v' M2 c2 ⟨b3, hA2, gr2, hle2, hold, _⟩
 have ok2 : Okm F M2 c2 := (show Gr b M0 c2 M2 from ⟨by omega, fun x hx => (gr2.old x (by omega)).trans (gr.old x hx), gr2.new⟩).ok ok0
 have w3 : isOne v' = true ∧ flatten v' = [v'] ∧ allOne [v'] = true := by
  rcases hA2 with ⟨_, ⟨_, rfl⟩ | ⟨_, _, rfl, _⟩⟩ <;> exact ⟨rfl, rfl, rfl⟩
 obtain ⟨w1, w2, w3⟩ := w3
 have st3 := store_row ((gr2.old (b + 3) (by omega)).trans m3) 0 [v'] (by simp) w3
 have st4 := store_row ((get_ne M2 (rowB 96 [v']) (show b + 4 ≠ b + 3 by omega)).trans ((gr2.old (b + 4) (by omega)).trans m4)) 0 [V.b true] (by simp) rfl
 have f3 : roFree (M2.set (b + 3) (rowB 96 [v'])) F = true := ((show Gr b M0 c2 (M2.set (b + 3) (rowB 96 [v'])) from ⟨by omega, fun x hx => by rw [get_ne _ _ (by omega)]; exact (gr2.old x (by omega)).trans (gr.old x hx), fun x hx => by rw [get_ne _ _ (by omega)]; exact gr2.new x hx⟩).ok ok0).free
 have f4 : roFree ((M2.set (b + 3) (rowB 96 [v'])).set (b + 4) (rowB 4 [V.b true])) F = true := ((show Gr b M0 c2 ((M2.set (b + 3) (rowB 96 [v'])).set (b + 4) (rowB 4 [V.b true])) from ⟨by omega, fun x hx => by rw [get_ne _ _ (by omega), get_ne _ _ (by omega)]; exact (gr2.old x (by omega)).trans (gr.old x hx), fun x hx => by rw [get_ne _ _ (by omega), get_ne _ _ (by omega)]; exact gr2.new x hx⟩).ok ok0).free
 refine ⟨ok2.free, ?_⟩
 have hA1 : AccAt M2 (b + 6) c2 p1 64 2 v (pcE w) := by
  rcases hne with hne | ⟨rfl, rfl⟩
  · rcases hA with ⟨h0, hh | ⟨h1, h2, h3, h4⟩⟩
    · exact ⟨h0, .inl hh⟩
    · exact ⟨h0, .inr ⟨h1, by omega, h3, by rw [hold p1 (by omega) hne, get_ne _ _ (by omega)]; exact h4⟩⟩
  · exact AccAt.nil
 have fin : WS M0 b s ((M2.set (b + 3) (rowB 96 [v'])).set (b + 4) (rowB 4 [V.b true])) c2 w (text ++ [s[i]]) true i := by
  refine ⟨v, v', p1, b3, ?_, by omega, ?_, ?_, ?_, ?_, get_same _ _ _, ?_, acc_set2 (acc_set2 hA1 (by omega)) (by omega), acc_set2 (acc_set2 ?_ (by omega)) (by omega)⟩
  · exact ⟨by omega, fun x hx => by rw [get_ne _ _ (by omega), get_ne _ _ (by omega)]; exact (gr2.old x (by omega)).trans (gr.old x hx), fun x hx => by rw [get_ne _ _ (by omega), get_ne _ _ (by omega)]; exact gr2.new x hx⟩
  · rw [get_ne _ _ (by omega), get_ne _ _ (by omega)]; exact (gr2.old b (by omega)).trans m0
  · rw [get_ne _ _ (by omega), get_ne _ _ (by omega)]; exact (gr2.old (b + 1) (by omega)).trans m1
  · rw [get_ne _ _ (by omega), get_ne _ _ (by omega)]; exact (gr2.old (b + 2) (by omega)).trans m2
  · rw [get_ne _ _ (by omega)]; exact get_same _ _ _
  · rw [get_ne _ _ (by omega), get_ne _ _ (by omega)]; exact (gr2.old (b + 5) (by omega)).trans m5
  · have : bE (text ++ [s[i]]) = bE text ++ bE [s[i]] := by unfold bE; rw [List.map_append]
    rw [this]; exact hA2
 simp only [WX, Nat.reducePow, Nat.reduceDiv, Nat.reduceMod, Nat.reduceBEq, wd_e1, wd_e1, w2, st3, st4, f3, f4]
 exact hQ [_, none, none, _, none, none, none, none, _, none, _, _, _, _, _, _, _, _, _, _, _, _, _, _, _, _, _, _, _, _, _, _, _, _, _, _, _, _, _, _, _, _, _, _, _, _, _, _, _, _, _, _, _, _, _, _, _, _, _, _, _, _, _, _, _, _, _, _, _, _, _, _, _, _, _, _, _, _, _, _, _, _, _, _, _, _, _, _, _, _, _, _, _, _, _, _, _, _, _, _, _, _, _, _, _, _, _, _, _, _, _, _, _, _, _, _, _, _, _, _, _, _, _, _, _, _, _] _ _ fin
def qres (t : List UInt8) : Option Nat := if (t.drop (qn t)).head? = some 39 then some (qn t) else none
theorem qres_cons (x : UInt8) (t : List UInt8) : qres (x :: t) = if qtB x = true then (qres t).map (· + 1) else if x = 39 then some 0 else none := by
 unfold qres
 rw [qn_cons]
 cases hq : qtB x with
 | true =>
   rw [if_pos rfl, if_pos rfl, List.drop_succ_cons]
   split <;> rfl
 | false =>
   rw [if_neg (show ¬ (false = true) by decide), if_neg (show ¬ (false = true) by decide), List.drop_zero]
   show (if some x = some 39 then some 0 else none) = _
   by_cases h : x = 39
   · subst h; rfl
   · rw [if_neg (fun e => h (Option.some.inj e)), if_neg h]
theorem qtB39 : qtB 39 = false := by decide
theorem qres_fnd : ∀ (t : List UInt8) (i : Nat), qres t = match fnd 39 t i with | none => none | some k => if (t.take (k - i)).all qtB = true then some (k - i) else none
 | [], i => rfl
 | x :: t, i => by
   rw [qres_cons, fnd]
   by_cases hx : x = 39
   · subst hx
     rw [if_pos rfl, qtB39]
     simp
   · rw [if_neg hx, if_neg hx, qres_fnd t (i + 1)]
     cases hf : fnd 39 t (i + 1) with
     | none => simp
     | some k =>
       have hk := (fnd_lt hf).1
       have e1 : k - i = (k - (i + 1)) + 1 := by omega
       dsimp only
       rw [e1, List.take_succ_cons, List.all_cons]
       cases qtB x with
       | true =>
         rw [if_pos rfl, Bool.true_and]
         split <;> rfl
       | false =>
         rw [if_neg (by decide), Bool.false_and, if_neg (by decide)]
theorem stW_q {t : List UInt8} : stW (39 :: t) = match qres t with | none => some none | some k => some (some (k + 1, t.take k, false)) := by
 have h0 : sgnR (39 :: t) = [] := by
  cases t with
  | nil => rfl
  | cons b r => rw [sgnR_e2]; simp
 rw [stW_39 (by rw [h0]; simp)]
 unfold qres
 split <;> rfl
theorem stW_qnone {t : List UInt8} (h : fnd 39 t 0 = none) : stW (39 :: t) = some none := by
 rw [stW_q, qres_fnd t 0, h]
theorem stW_qbad {t : List UInt8} {k : Nat} (h : fnd 39 t 0 = some k) (ha : (t.take k).all qtB = false) : stW (39 :: t) = some none := by
 rw [stW_q, qres_fnd t 0, h]
 dsimp only
 rw [Nat.sub_zero, ha]
 rfl
theorem stW_qok {t : List UInt8} {k : Nat} (h : fnd 39 t 0 = some k) (ha : (t.take k).all qtB = true) : stW (39 :: t) = some (some (k + 1, t.take k, false)) := by
 rw [stW_q, qres_fnd t 0, h]
 dsimp only
 rw [Nat.sub_zero, ha]
 rfl
theorem stW_none36 {t : List UInt8} : stW (36 :: t) ≠ none := by
 have h0 : sgnR (36 :: t) = [] := by
  cases t with
  | nil => rfl
  | cons b r => rw [sgnR_e2]; simp
 rw [stW_36 (by rw [h0]; simp)]
 split <;> simp
theorem flW_end {w : List Pc} {text : List UInt8} {sm : Bool} {s : List UInt8} {i : Nat} (h : stW (s.drop i) = none) : flW w text sm (decide (s[i]? = some 36)) = rdEnd w text sm := by
 have : decide (s[i]? = some 36) = false := by
  apply decide_eq_false
  intro e
  obtain ⟨hi, he⟩ := List.getElem?_eq_some_iff.1 e
  rw [List.drop_eq_getElem_cons hi, he] at h
  exact stW_none36 h
 unfold flW rdEnd
 rw [this]
 simp
theorem flW_mid {w : List Pc} {text : List UInt8} {sm : Bool} {s : List UInt8} {i : Nat} (h : s[i]? = some 36) : flW w text sm (decide (s[i]? = some 36)) ++ [([], true)] = rdMid w text := by
 unfold flW rdMid
 rw [decide_eq_true h]
 simp
def h77 : List V → Option V
 | [v, .f 78 [] []] => (asS v).bind fun l => if l.length ≤ 1000000 then some (.b (l.all qtB)) else none
 | _ => none
theorem h77_eq (l : List UInt8) (hl : l.length ≤ 1000000) : h77 [sV l, .f 78 [] []] = some (.b (l.all qtB)) := by
 show (asS (sV l)).bind (fun l => if l.length ≤ 1000000 then some (V.b (l.all qtB)) else none) = _
 rw [asS_s, Option.bind_some]; exact if_pos hl
theorem dq_bld {F : RO} (zero : List V) (ps : List (Nat × Nat × X)) (M : Mem) (t : T) : dqR (.bld zero ps) F M t = oV ((fillV zero (evP t ps)).map .g) := by
 refine (dq_of ?_).trans (congrArg oV (v_bld (F := F) zero ps M t))
 intro F' M'
 refine qv_oV ?_
 show (qg (fillParts t zero ps) = .f ∨ ∃ y, qg (fillParts t zero ps) = .v y)
 cases fillParts t zero ps with
 | none => exact .inl rfl
 | some x => exact .inr ⟨_, rfl⟩
theorem d62 (Φ : Nat → Option CF) {F : RO} {M0 M : Mem} {b c1 i k : Nat} {s text : List UInt8} {w : List Pc} {sm : Bool} (ok0 : Okm F M0 b) (hi : i + 1 + k ≤ s.length) (hs : s.length ≤ 400000) (hw : w.length ≤ 1000000) (ht : text.length ≤ 1000000) (hW : WS M0 b s M c1 w text sm i) (fv : V) (u : List (Option V)) (Q : Ex → St → Prop) (hQ : ∀ (u : List (Option V)) M' c', WS M0 b s M' c' w (text ++ (s.drop (i + 1)).take k) true i → Q .nrm (.mk ((.n (.n (.n (.n (uv7 u 63 31 95 15 79 47 111) (some (.p (b + 5) 0)) (uv7 u 71 39 103 23 87 55 119)) (uO u 3) (.n (uv7 u 67 35 99 19 83 51 115) (uO u 11) (uv7 u 75 43 107 27 91 59 123))) (some (.p b 0)) (.n (.n (uv7 u 65 33 97 17 81 49 113) (some (fv)) (uv7 u 73 41 105 25 89 57 121)) (some (.p (b + 3) 0)) (.n (uv7 u 69 37 101 21 85 53 117) (uO u 13) (uv7 u 77 45 109 29 93 61 125)))) (uO u 0) (.n (.n (.n (uv7 u 64 32 96 16 80 48 112) (some (.i .i64 (k : Int))) (uv7 u 72 40 104 24 88 56 120)) (some (.p (b + 2) 0)) (.n (uv7 u 68 36 100 20 84 52 116) (uO u 12) (uv7 u 76 44 108 28 92 60 124))) (some (.p (b + 1) 0)) (.n (.n (uv7 u 66 34 98 18 82 50 114) (uO u 10) (uv7 u 74 42 106 26 90 58 122)) (some (.p (b + 4) 0)) (.n (uv7 u 70 38 102 22 86 54 118) (uO u 14) (uv7 u 78 46 110 30 94 62 126)))))) [] M' c')) :
  Wp b56_62 (K Φ none 56 F) (.mk ((.n (.n (.n (.n (uv7 u 63 31 95 15 79 47 111) (some (.p (b + 5) 0)) (uv7 u 71 39 103 23 87 55 119)) (uO u 3) (.n (uv7 u 67 35 99 19 83 51 115) (uO u 11) (uv7 u 75 43 107 27 91 59 123))) (some (.p b 0)) (.n (.n (uv7 u 65 33 97 17 81 49 113) (some (fv)) (uv7 u 73 41 105 25 89 57 121)) (some (.p (b + 3) 0)) (.n (uv7 u 69 37 101 21 85 53 117) (uO u 13) (uv7 u 77 45 109 29 93 61 125)))) (uO u 0) (.n (.n (.n (uv7 u 64 32 96 16 80 48 112) (some (.i .i64 (k : Int))) (uv7 u 72 40 104 24 88 56 120)) (some (.p (b + 2) 0)) (.n (uv7 u 68 36 100 20 84 52 116) (uO u 12) (uv7 u 76 44 108 28 92 60 124))) (some (.p (b + 1) 0)) (.n (.n (uv7 u 66 34 98 18 82 50 114) (uO u 10) (uv7 u 74 42 106 26 90 58 122)) (some (.p (b + 4) 0)) (.n (uv7 u 70 38 102 22 86 54 118) (uO u 14) (uv7 u 78 46 110 30 94 62 126)))))) [] M c1) Q := by
 obtain ⟨v, tv, p1, p0, gr, h6, m0, m1, m2, m3, m4, m5, hA, hT0⟩ := hW
 obtain ⟨p2, hT, hne⟩ : ∃ p, AccAt M (b + 6) c1 p 5 1 tv (bE text) ∧ (p1 ≠ p ∨ (v = .l0 ∧ w = [])) := by
  rcases acc_ne hA hT0 with ⟨rfl, rfl⟩ | ⟨rfl, rfl⟩ | hn
  · exact ⟨p1 + 1, AccAt.nil, .inl (by omega)⟩
  · exact ⟨p0, hT0, .inr ⟨rfl, rfl⟩⟩
  · exact ⟨p0, hT0, .inl hn⟩
 have ok1 := gr.ok ok0
 have hfr := ok1.free
 have l0 : load1 F M b 0 = some (sV s) := load_row m0 0
 have l3 : load1 F M (b + 3) 0 = some tv := load_row m3 0
 have l5 : load1 F M (b + 5) 0 = some (.i .i64 (i : Int)) := load_row m5 0
 have q1 : biV .add (.i .i64 (i : Int)) (.i .i64 1) = some (.i .i64 ((i + 1 : Nat) : Int)) := by rw [i64_add _ _ (by omega) (by omega)]; simp
 obtain ⟨j, hj⟩ : ∃ j, j = i + 1 + k := ⟨_, rfl⟩
 have q2 : biV .add (.i .i64 ((i + 1 : Nat) : Int)) (.i .i64 (k : Int)) = some (.i .i64 (j : Int)) := by rw [i64_add _ _ (by omega) (by omega), hj]; simp
 have hsl := sl_lh s .i64 .i64 (i + 1) j (by omega) (by omega)
 have hX : (s.take j).drop (i + 1) = (s.drop (i + 1)).take k := by rw [List.drop_take]; congr 1; omega
 rw [hX] at hsl
 have hXl : ((s.drop (i + 1)).take k).length ≤ 400000 := by rw [List.length_take]; omega
 generalize (s.drop (i + 1)).take k = X at hsl hXl hQ
 simp only [WX, Nat.reducePow, Nat.reduceDiv, Nat.reduceMod, Nat.reduceBEq, wd_e1, B56, l3, l0, l5, q1, q2, dq_slS, hsl, wd_e1]
 refine putDE_to ((appV_str (l := X) (bytes := 1) (hT.up (show c1 ≤ c1 + 12 by omega) (fun _ => rfl)) (show Gr (b + 6) M (c1 + 12) M from ⟨by omega, fun _ _ => rfl, fun x hx => ok1.hiM x (by omega)⟩) (room_of (by rw [bE_len]; omega) (by rw [bE_len]; omega))).mono ?_)
 rintro v' M2 c2 ⟨b3, hA2, gr2, hle2, hold, _⟩
 have ok2 : Okm F M2 c2 := (show Gr b M0 c2 M2 from ⟨by omega, fun x hx => (gr2.old x (by omega)).trans (gr.old x hx), gr2.new⟩).ok ok0
 have w3 : isOne v' = true ∧ flatten v' = [v'] ∧ allOne [v'] = true := by
  rcases hA2 with ⟨_, ⟨_, rfl⟩ | ⟨_, _, rfl, _⟩⟩ <;> exact ⟨rfl, rfl, rfl⟩
 obtain ⟨w1, w2, w3⟩ := w3
 have st3 := store_row ((gr2.old (b + 3) (by omega)).trans m3) 0 [v'] (by simp) w3
 have st4 := store_row ((get_ne M2 (rowB 96 [v']) (show b + 4 ≠ b + 3 by omega)).trans ((gr2.old (b + 4) (by omega)).trans m4)) 0 [V.b true] (by simp) rfl
 have f3 : roFree (M2.set (b + 3) (rowB 96 [v'])) F = true := ((show Gr b M0 c2 (M2.set (b + 3) (rowB 96 [v'])) from ⟨by omega, fun x hx => by rw [get_ne _ _ (by omega)]; exact (gr2.old x (by omega)).trans (gr.old x hx), fun x hx => by rw [get_ne _ _ (by omega)]; exact gr2.new x hx⟩).ok ok0).free
 have f4 : roFree ((M2.set (b + 3) (rowB 96 [v'])).set (b + 4) (rowB 4 [V.b true])) F = true := ((show Gr b M0 c2 ((M2.set (b + 3) (rowB 96 [v'])).set (b + 4) (rowB 4 [V.b true])) from ⟨by omega, fun x hx => by rw [get_ne _ _ (by omega), get_ne _ _ (by omega)]; exact (gr2.old x (by omega)).trans (gr.old x hx), fun x hx => by rw [get_ne _ _ (by omega), get_ne _ _ (by omega)]; exact gr2.new x hx⟩).ok ok0).free
 refine ⟨ok2.free, ?_⟩
 have hA1 : AccAt M2 (b + 6) c2 p1 64 2 v (pcE w) := by
  rcases hne with hne | ⟨rfl, rfl⟩
  · rcases hA with ⟨h0, hh | ⟨h1, h2, h3, h4⟩⟩
    · exact ⟨h0, .inl hh⟩
    · exact ⟨h0, .inr ⟨h1, by omega, h3, by rw [hold p1 (by omega) hne]; exact h4⟩⟩
  · exact AccAt.nil
 have fin : WS M0 b s ((M2.set (b + 3) (rowB 96 [v'])).set (b + 4) (rowB 4 [V.b true])) c2 w (text ++ X) true i := by
  refine ⟨v, v', p1, b3, ?_, by omega, ?_, ?_, ?_, ?_, get_same _ _ _, ?_, acc_set2 (acc_set2 hA1 (by omega)) (by omega), acc_set2 (acc_set2 ?_ (by omega)) (by omega)⟩
  · exact ⟨by omega, fun x hx => by rw [get_ne _ _ (by omega), get_ne _ _ (by omega)]; exact (gr2.old x (by omega)).trans (gr.old x hx), fun x hx => by rw [get_ne _ _ (by omega), get_ne _ _ (by omega)]; exact gr2.new x hx⟩
  · rw [get_ne _ _ (by omega), get_ne _ _ (by omega)]; exact (gr2.old b (by omega)).trans m0
  · rw [get_ne _ _ (by omega), get_ne _ _ (by omega)]; exact (gr2.old (b + 1) (by omega)).trans m1
  · rw [get_ne _ _ (by omega), get_ne _ _ (by omega)]; exact (gr2.old (b + 2) (by omega)).trans m2
  · rw [get_ne _ _ (by omega)]; exact get_same _ _ _
  · rw [get_ne _ _ (by omega), get_ne _ _ (by omega)]; exact (gr2.old (b + 5) (by omega)).trans m5
  · have : bE (text ++ X) = bE text ++ bE X := by unfold bE; rw [List.map_append]
    rw [this]; exact hA2
 simp only [WX, Nat.reducePow, Nat.reduceDiv, Nat.reduceMod, Nat.reduceBEq, wd_e1, wd_e1, w2, st3, st4, f3, f4]
 exact hQ [_, none, none, _, none, none, none, none, none, none, _, _, _, _, _, _, _, _, _, _, _, _, _, _, _, _, _, _, _, _, _, _, _, _, _, _, _, _, _, _, _, _, _, _, _, _, _, _, _, _, _, _, _, _, _, _, _, _, _, _, _, _, _, _, _, _, _, _, _, _, _, _, _, _, _, _, _, _, _, _, _, _, _, _, _, _, _, _, _, _, _, _, _, _, _, _, _, _, _, _, _, _, _, _, _, _, _, _, _, _, _, _, _, _, _, _, _, _, _, _, _, _, _, _, _, _, _] _ _ fin
theorem wd_ep {Φ : Nat → Option CF} {rd : Option Nat} {fn : Nat} {F : RO} (base i mask j b0 : Nat) (blk : Blk) (dst : Option Pos) (o : EO) (r : List (Nat × Nat × CO)) (t : T) (M : Mem) (c : Nat) (reads : List (Nat × Nat)) (R : DS → Prop) {v : V} {M' : Mem} {c' : Nat} (hj : (mask / 2 ^ j % 2 == 1) = false) (hb : befB mask reads = true) (hM : M.get b0 = some blk) (h : doE o (K Φ rd fn ((b0, blk) :: F)) (M.del b0) c t = .k v M' c') (hf : roFree M' ((b0, blk) :: F) = true) :
  WpD base ((i, mask, .mk dst (.e o) none) :: r) (K Φ rd fn F) (.mk t M c [] ((j, b0) :: reads)) R = WpD base r (K Φ rd fn F) (.mk (setT t dst v) (M'.set b0 blk) c' [] ((j, b0) :: reads)) R := by
 have hj' : testBit mask j = false := by
  show Nat.beq (Nat.mod (Nat.div mask (Nat.pow 2 j)) 2) 1 = false
  rw [beqN]; exact decide_eq_false (show ¬ mask / 2 ^ j % 2 = 1 by simpa using hj)
 have hp : protect mask ((j, b0) :: reads) F M [] = Pr.mk ((b0, blk) :: F) (M.del b0) [(b0, blk)] := by
  rw [protect, hj']
  show (match M.get b0 with | none => protect mask reads F M [] | some blk => (M.del b0).force fun M => protect mask reads ((b0, blk) :: F) M [(b0, blk)]) = _
  rw [hM]
  show (M.del b0).force (fun M => protect mask reads ((b0, blk) :: F) M [(b0, blk)]) = _
  rw [Tr.force_eq]
  exact befB_protect hb _ _ _
 have he : dOp (K Φ rd fn F) base (i, mask, .mk dst (.e o) none) (.mk t M c [] ((j, b0) :: reads)) = some (.mk (setT t dst v) (M'.set b0 blk) c' [] ((j, b0) :: reads)) := by
  show d_e1 o (K Φ rd fn F) dst t c [] ((j, b0) :: reads) (protect mask ((j, b0) :: reads) F M []) = _
  rw [hp]
  show d_e2 ((b0, blk) :: F) dst t [] ((j, b0) :: reads) [(b0, blk)] (doE o (K Φ rd fn ((b0, blk) :: F)) (M.del b0) c t) = _
  rw [h]
  show (bif roFree M' ((b0, blk) :: F) && pendFree ((b0, blk) :: F) M' [] then (unprotect [(b0, blk)] M').force fun M => (setT t dst v).force fun t => some (DS.mk t M c' [] ((j, b0) :: reads)) else none) = _
  rw [hf]
  show ((unprotect [(b0, blk)] M').force fun M => (setT t dst v).force fun t => some (DS.mk t M c' [] ((j, b0) :: reads))) = _
  rw [Tr.force_eq, Tr.force_eq]
  show some (DS.mk _ ((M'.set b0 blk).force fun M => unprotect [] M) c' [] _) = _
  rw [Tr.force_eq]; rfl
 apply propext
 rw [wd_cons, he]
 constructor
 · rintro ⟨s', h, q⟩; obtain rfl := Option.some.inj h; exact q
 · exact fun q => ⟨_, rfl, q⟩
theorem fin69 (Φ : Nat → Option CF) {F : RO} {M0 M : Mem} {b c1 i : Nat} {s text : List UInt8} {w : List Pc} {sm : Bool} (ok0 : Okm F M0 b) (hW : WS M0 b s M c1 w text sm i) (fv : V) (u : List (Option V)) (Q : Ex → St → Prop) (hQ : ∀ (u : List (Option V)) M' c' v p, Gr b M0 c' M' → b + 6 ≤ c' → M'.get (b + 1) = some (rowB 36 [v]) → AccAt M' (b + 6) c' p 64 2 v (pcE w) → Q .nrm (.mk ((.n (.n (.n (.n (uv7 u 63 31 95 15 79 47 111) (uO u 7) (uv7 u 71 39 103 23 87 55 119)) (some (.i .i64 (i : Int))) (.n (uv7 u 67 35 99 19 83 51 115) (uO u 11) (uv7 u 75 43 107 27 91 59 123))) (uO u 1) (.n (.n (uv7 u 65 33 97 17 81 49 113) (uO u 9) (uv7 u 73 41 105 25 89 57 121)) (uO u 5) (.n (uv7 u 69 37 101 21 85 53 117) (uO u 13) (uv7 u 77 45 109 29 93 61 125)))) (uO u 0) (.n (.n (.n (uv7 u 64 32 96 16 80 48 112) (uO u 8) (uv7 u 72 40 104 24 88 56 120)) (uO u 4) (.n (uv7 u 68 36 100 20 84 52 116) (uO u 12) (uv7 u 76 44 108 28 92 60 124))) (some (.p (b + 1) 0)) (.n (.n (uv7 u 66 34 98 18 82 50 114) (uO u 10) (uv7 u 74 42 106 26 90 58 122)) (uO u 6) (.n (uv7 u 70 38 102 22 86 54 118) (uO u 14) (uv7 u 78 46 110 30 94 62 126)))))) [] M' c')) :
  Wp b56_69 (K Φ none 56 F) (.mk ((.n (.n (.n (.n (uv7 u 63 31 95 15 79 47 111) (some (.p (b + 5) 0)) (uv7 u 71 39 103 23 87 55 119)) (uO u 3) (.n (uv7 u 67 35 99 19 83 51 115) (uO u 11) (uv7 u 75 43 107 27 91 59 123))) (some (.p b 0)) (.n (.n (uv7 u 65 33 97 17 81 49 113) (some (fv)) (uv7 u 73 41 105 25 89 57 121)) (some (.p (b + 3) 0)) (.n (uv7 u 69 37 101 21 85 53 117) (uO u 13) (uv7 u 77 45 109 29 93 61 125)))) (uO u 0) (.n (.n (.n (uv7 u 64 32 96 16 80 48 112) (uO u 8) (uv7 u 72 40 104 24 88 56 120)) (some (.p (b + 2) 0)) (.n (uv7 u 68 36 100 20 84 52 116) (uO u 12) (uv7 u 76 44 108 28 92 60 124))) (some (.p (b + 1) 0)) (.n (.n (uv7 u 66 34 98 18 82 50 114) (uO u 10) (uv7 u 74 42 106 26 90 58 122)) (some (.p (b + 4) 0)) (.n (uv7 u 70 38 102 22 86 54 118) (uO u 14) (uv7 u 78 46 110 30 94 62 126)))))) [] M c1) Q := by
 obtain ⟨v, tv, p1, p0, gr, h6, m0, m1, m2, m3, m4, m5, hA, hT0⟩ := hW
 have ok1 := gr.ok ok0
 have hfr := ok1.free
 obtain ⟨w1, w2, w3⟩ := acc_one hA
 have hG1 : flatten (V.g [v]) = [v] := rfl
 have l2 : load1 F M (b + 2) 0 = some v := load_row m2 0
 have l5 : load1 F M (b + 5) 0 = some (.i .i64 (i : Int)) := load_row m5 0
 have md1 : (M.del (b + 5)).get (b + 1) = some (rowB 36 [.l0]) := by rw [Tr.get_del, if_neg (by omega)]; exact m1
 have st1 := store_row md1 0 [v] (by simp) w3
 have grd : Gr b M0 c1 ((M.del (b + 5)).set (b + 1) (rowB 36 [v])) := (gr.del (b + 5) (by omega)).set (b + 1) _ (by omega) (by omega) (Nat.le_refl _)
 have f1 := (grd.ok ok0).free
 have f2 : roFree ((M.del (b + 5)).set (b + 1) (rowB 36 [v])) ((b + 5, rowB 3 [.i .i64 (i : Int)]) :: F) = true := by
  rw [roFree_cons, f1, get_ne _ _ (by omega), Tr.get_del, if_pos rfl]; rfl
 have grE : Gr b M0 c1 (((M.del (b + 5)).set (b + 1) (rowB 36 [v])).set (b + 5) (rowB 3 [.i .i64 (i : Int)])) := grd.set (b + 5) _ (by omega) (by omega) (Nat.le_refl _)
 simp only [WX, Nat.reduceLeDiff, B56, l2, l5, dq_bld, w2]
 rw [wd_ep (v := undef) (M' := (M.del (b + 5)).set (b + 1) (rowB 36 [v])) (c' := c1 + 5) _ _ _ _ _ (rowB 3 [.i .i64 (i : Int)]) _ _ _ _ _ _ _ _ rfl rfl m5 ?_ f2]
 · simp only [WX]
   refine hQ [_, _, none, none, _, _, _, _, _, _, _, _, _, _, _, _, _, _, _, _, _, _, _, _, _, _, _, _, _, _, _, _, _, _, _, _, _, _, _, _, _, _, _, _, _, _, _, _, _, _, _, _, _, _, _, _, _, _, _, _, _, _, _, _, _, _, _, _, _, _, _, _, _, _, _, _, _, _, _, _, _, _, _, _, _, _, _, _, _, _, _, _, _, _, _, _, _, _, _, _, _, _, _, _, _, _, _, _, _, _, _, _, _, _, _, _, _, _, _, _, _, _, _, _, _, _, _] _ _ v p1 (grE.up (by omega)) (by omega) ?_ ?_
   · rw [get_ne _ _ (by omega)]; exact get_same _ _ _
   · rcases hA with ⟨h0, hh | ⟨h1, h2, h3, h4⟩⟩
     · exact ⟨h0, .inl hh⟩
     · exact ⟨h0, .inr ⟨h1, by omega, h3, by rw [get_ne _ _ (by omega), get_ne _ _ (by omega), Tr.get_del, if_neg (by omega)]; exact h4⟩⟩
 · rw [e_st_eq]
   simp only [WX, hG1, st1]
end
end Go.Proofs.YtmbpllipombieaaDoor.Ev
