/- What is proved here: pieces of the evaluator's soundness: if the evaluator comes to a value, the model's run comes to it, for every world and tape; no conditions beyond the hypotheses of each theorem. -/
import Derived.Test.YtmbpllipombieaaDoorEv4
set_option linter.unusedSimpArgs false
set_option linter.unusedVariables false
set_option linter.defProp false
set_option maxRecDepth 10000
set_option maxHeartbeats 16000000
namespace Go.Proofs.YtmbpllipombieaaDoor.Ev
open Go
noncomputable section
section
variable {Φ : Nat → Option CF} {rd : Option Nat} {fn : Nat} {F : RO}
def PutDA (o : Option (V × Blk)) (base i : Nat) (p : Pos) (r : List (Nat × Nat × CO)) (k : Kn) (t : T) (M : Mem) (c : Nat) (pend : List (Nat × Nat × Blk)) (reads : List (Nat × Nat)) (R : DS → Prop) : Prop := match o with
 | some x => WpD base r k (.mk (t.setP p x.1) M c ((i, base + i, x.2) :: pend) reads) R
 | none => False
theorem putDA (v : V) (b : Blk) (base i : Nat) (p : Pos) (r : List (Nat × Nat × CO)) (k : Kn) (t : T) (M : Mem) (c : Nat) (pend : List (Nat × Nat × Blk)) (reads : List (Nat × Nat)) (R : DS → Prop) :
  PutDA (some (v, b)) base i p r k t M c pend reads R = WpD base r k (.mk (t.setP p v) M c ((i, base + i, b) :: pend) reads) R := Eq.trans rfl (Eq.refl _)
theorem wd_a (base i mask : Nat) (p : Pos) (o : AO) (r : List (Nat × Nat × CO)) (t : T) (M : Mem) (c : Nat) (pend : List (Nat × Nat × Blk)) (reads : List (Nat × Nat)) (R : DS → Prop) (hl : (look F M (base + i)).isNone = true) (hr : readFree (base + i) reads = true) :
  WpD base ((i, mask, .mk (some p) (.a o) none) :: r) (K Φ rd fn F) (.mk t M c pend reads) R = PutDA (aop o (base + i) t) base i p r (K Φ rd fn F) t M c pend reads R := by
 have he : dOp (K Φ rd fn F) base (i, mask, .mk (some p) (.a o) none) (.mk t M c pend reads) = d_a1 i (base + i) (some p) t M c pend reads (aop o (base + i) t) := by
  show (fN (Nat.add base i) fun b => bif (look F M b).isNone && readFree b reads then d_a1 i b (some p) t M c pend reads (aop o b t) else none) = _
  rw [fN_eq]
  show (bif (look F M (base + i)).isNone && readFree (base + i) reads then d_a1 i (base + i) (some p) t M c pend reads (aop o (base + i) t) else none) = _
  rw [hl, hr]; rfl
 apply propext
 rw [wd_cons, he]
 cases aop o (base + i) t with
 | none => exact ⟨fun ⟨s', h, _⟩ => (by cases h), False.elim⟩
 | some x =>
   have h2 : d_a1 i (base + i) (some p) t M c pend reads (some x) = some (.mk (t.setP p x.1) M c ((i, base + i, x.2) :: pend) reads) := by
    show ((setT t (some p) x.1).force fun t => some (DS.mk t M c ((i, base + i, x.2) :: pend) reads)) = _
    rw [Tr.force_eq]; rfl
   rw [h2]
   constructor
   · rintro ⟨s', h, q⟩; obtain rfl := Option.some.inj h; exact q
   · exact fun q => ⟨_, rfl, q⟩
theorem mergeAll_cons (i b : Nat) (x : Blk) (r : List (Nat × Nat × Blk)) (M : Mem) : mergeAll ((i, b, x) :: r) M = mergeAll r (M.set b x) := by
 show (M.set b x).force (fun M => mergeAll r M) = _
 rw [Tr.force_eq]
theorem readFree_nil (b : Nat) : readFree b [] = true := Eq.trans rfl (Eq.refl _)
theorem readFree_cons (b i b' : Nat) (r : List (Nat × Nat)) (h : b' ≠ b) : readFree b ((i, b') :: r) = readFree b r := by
 show (bif Nat.beq b' b then false else readFree b r) = _
 rw [beqN, decide_eq_false h]; rfl
def rowP (ty n : Nat) (row : List V) : Blk := .cells ty n false 0 false [] (rowT row)
def BufAt (M : Mem) (c0 c b : Nat) (v : V) (l : List UInt8) : Prop :=
 (l = [] ∧ v = .l0) ∨ (c0 ≤ b ∧ b < c ∧ ∃ n, (l.length ≤ n ∧ 0 < n) ∧ v = .u b 0 l.length 0 n ∧ M.get b = some (rowP 5 n (l.map bV)))
theorem BufAt.up {M M' : Mem} {c0 c c' b : Nat} {v : V} {l : List UInt8} (h : BufAt M c0 c b v l) (hc : c ≤ c') (hb : b < c → M'.get b = M.get b) : BufAt M' c0 c' b v l := by
 rcases h with h | ⟨h1, h2, n, h3, h4, h5⟩
 · exact .inl h
 · exact .inr ⟨h1, by omega, n, h3, h4, by rw [hb h2]; exact h5⟩
end
section
variable {Φ : Nat → Option CF} {rd : Option Nat} {fn : Nat} {F : RO}
end
theorem over_pre : ∀ (e p q : List V), q.length = e.length → over (p ++ q) p.length e = p ++ e
 | [], p, q, h => by
   obtain rfl : q = [] := List.eq_nil_of_length_eq_zero h
   rfl
 | v :: e, p, [], h => by cases h
 | v :: e, p, a :: q, h => by
   rw [over, List.set_append_right _ _ (Nat.le_refl _), Nat.sub_self, List.set_cons_zero]
   have := over_pre e (p ++ [v]) q (by simpa using h)
   rw [List.length_append, List.length_singleton, List.append_assoc, List.append_assoc] at this
   exact this
theorem over_all {z e : List V} (h : z.length = e.length) : over z 0 e = e := by
 have := over_pre e [] z h
 simpa using this
theorem protect_st {b : Nat} (mask : Nat) : ∀ (reads : List (Nat × Nat)) (F : RO) (M : Mem) (s : List (Nat × Blk)), readFree b reads = true → roFree M F = true → (M.get b).isSome = true →
  ∃ F' M' s2, protect mask reads F M s = Pr.mk F' M' (s2 ++ s) ∧ M'.get b = M.get b ∧ roFree M' F' = true ∧ (∀ y, roFree (M'.set b y) F' = true) ∧ ∀ y x, (unprotect s2 (M'.set b y)).get x = (M.set b y).get x
 | [], F, M, s, h1, h2, h3 => by
   refine ⟨F, M, [], rfl, rfl, h2, fun y => ?_, fun y x => rfl⟩
   refine roFree_of _ F fun b' hb' => ?_
   have : ∃ blk, (b', blk) ∈ F := by
    clear h1 h2 h3
    induction F with
    | nil => cases hb'
    | cons a F ih =>
      obtain ⟨k, z⟩ := a
      rw [roGet_cons] at hb'
      split at hb'
      · rename_i e; have e : k = b' := e; exact ⟨z, by rw [e]; exact List.mem_cons_self ..⟩
      · obtain ⟨blk, hm⟩ := ih hb'; exact ⟨blk, List.mem_cons_of_mem _ hm⟩
   obtain ⟨blk, hm⟩ := this
   have hn := roFree_iff F h2 b' blk hm
   have : b' ≠ b := by intro e; subst e; rw [hn] at h3; cases h3
   rw [get_ne _ _ this]; exact hn
 | (i, x) :: r, F, M, s, h1, h2, h3 => by
   have hx : x ≠ b ∧ readFree b r = true := by
    have h1' : (bif Nat.beq x b then false else readFree b r) = true := h1
    rw [beqN] at h1'
    by_cases e : x = b
    · rw [decide_eq_true e] at h1'; cases h1'
    · rw [decide_eq_false e] at h1'; exact ⟨e, h1'⟩
   rw [protect]
   cases ht : testBit mask i with
   | true => exact protect_st mask r F M s hx.2 h2 h3
   | false =>
     show ∃ F' M' s2, (match M.get x with | none => protect mask r F M s | some blk => (M.del x).force fun M => protect mask r ((x, blk) :: F) M ((x, blk) :: s)) = _ ∧ _
     cases hb : M.get x with
     | none => exact protect_st mask r F M s hx.2 h2 h3
     | some blk =>
       have hfr : roFree (M.del x) ((x, blk) :: F) = true := by
        rw [roFree_cons, Tr.get_del, if_pos rfl, roFree_del x h2]; rfl
       have hgb : (M.del x).get b = M.get b := by rw [Tr.get_del, if_neg (fun e => hx.1 e.symm)]
       obtain ⟨F', M', s2, g1, g2, g3, g4, g5⟩ := protect_st mask r ((x, blk) :: F) (M.del x) ((x, blk) :: s) hx.2 hfr (by rw [hgb]; exact h3)
       refine ⟨F', M', s2 ++ [(x, blk)], ?_, g2.trans hgb, g3, g4, fun y z => ?_⟩
       · show ((M.del x).force fun M => protect mask r ((x, blk) :: F) M ((x, blk) :: s)) = _
         rw [Tr.force_eq, g1, List.append_assoc]; rfl
       · have key : ∀ (s2 : List (Nat × Blk)) (N : Mem), unprotect (s2 ++ [(x, blk)]) N = (unprotect s2 N).set x blk := by
          intro s2
          induction s2 with
          | nil => intro N; show (N.set x blk).force (fun M => M) = _; rw [Tr.force_eq]; rfl
          | cons a s2 ih => intro N; show (N.set a.1 a.2).force (fun M => unprotect (s2 ++ [(x, blk)]) M) = _; rw [Tr.force_eq, ih]; show _ = ((N.set a.1 a.2).force fun M => unprotect s2 M).set x blk; rw [Tr.force_eq]
         rw [key, Tr.get_set, g5, Tr.get_set, Tr.get_set, Tr.get_del]
         by_cases e1 : z = x
         · rw [if_pos e1, if_neg (by rw [e1]; exact hx.1), e1, hb]
         · rw [if_neg e1, if_neg e1]
theorem merge_all (mask : Nat) : ∀ (pend : List (Nat × Nat × Blk)) (M : Mem), (pend.all fun e => testBit mask e.1) = true → merge mask pend M = (mergeAll pend M, [])
 | [], M, _ => rfl
 | (i, b, blk) :: r, M, h => by
   rw [List.all_cons, Bool.and_eq_true] at h
   rw [merge, h.1, mergeAll_cons]
   show ((M.set b blk).force fun M => merge mask r M) = _
   rw [Tr.force_eq, merge_all mask r _ h.2]
section
variable {Φ : Nat → Option CF} {rd : Option Nat} {fn : Nat} {F : RO}
theorem wd_sp (base i mask n : Nat) (p v : X) (r : List (Nat × Nat × CO)) (t : T) (M : Mem) (c : Nat) (pend : List (Nat × Nat × Blk)) (reads : List (Nat × Nat)) (R : DS → Prop) {M1 : Mem} {b ty : Nat} {z e : List V}
  (hm : (pend.all fun e => testBit mask e.1) = true) (hM : mergeAll pend M = M1) (hb : M1.get b = some (rowB ty z)) (hp : p.ev t = .p b 0) (hv : flatten (v.ev t) = e) (ha : allOne e = true) (hl : e.length = n) (hz : z.length = n) (hr : readFree b reads = true) (hf : roFree M1 F = true)
  (h : ∀ M', (∀ x, M'.get x = (M1.set b (rowB ty e)).get x) → WpD base r (K Φ rd fn F) (.mk t M' c [] reads) R) :
  WpD base ((i, mask, .mk none (.e (.st n p v)) none) :: r) (K Φ rd fn F) (.mk t M c pend reads) R := by
 obtain ⟨F', M', s2, g1, g2, g3, g4, g5⟩ := protect_st mask reads F M1 [] hr hf (by rw [hb]; rfl)
 have hov : over z 0 e = e := over_all (hz.trans hl.symm)
 have hst : storeN M' b 0 e = some (M'.set b (rowB ty e)) := by
  have := store_row (g2.trans hb) 0 e (by omega) ha
  rwa [hov] at this
 have hd : doE (.st n p v) (K Φ rd fn F') M' c t = .k undef (M'.set b (rowB ty e)) c := by
  rw [e_st_eq, hp]
  show (if (flatten (v.ev t)).length = n then er c (storeN M' b 0 (flatten (v.ev t))) else .f) = _
  rw [hv, if_pos hl, hst]; rfl
 have he : dOp (K Φ rd fn F) base (i, mask, .mk none (.e (.st n p v)) none) (.mk t M c pend reads) = some (.mk t (unprotect s2 (M'.set b (rowB ty e))) c [] reads) := by
  show d_e0 (.st n p v) (K Φ rd fn F) mask none t c reads (merge mask pend M) = _
  rw [merge_all mask pend M hm, hM]
  show d_e1 (.st n p v) (K Φ rd fn F) none t c [] reads (protect mask reads F M1 []) = _
  rw [g1]
  show d_e2 F' none t [] reads (s2 ++ []) (doE (.st n p v) (K Φ rd fn F') M' c t) = _
  rw [hd, List.append_nil]
  show (bif roFree (M'.set b (rowB ty e)) F' && true then (unprotect s2 (M'.set b (rowB ty e))).force fun M => (setT t none undef).force fun t => some (DS.mk t M c [] reads) else none) = _
  rw [g4]
  show ((unprotect s2 (M'.set b (rowB ty e))).force fun M => (setT t none undef).force fun t => some (DS.mk t M c [] reads)) = _
  rw [Tr.force_eq, Tr.force_eq]; rfl
 rw [wd_cons]
 exact ⟨_, he, h _ (fun x => g5 _ x)⟩
theorem protect_lk {c : Nat} (mask : Nat) : ∀ (reads : List (Nat × Nat)) (F : RO) (M : Mem) (s : List (Nat × Blk)), roFree M F = true → (∀ x, c ≤ x → M.get x = none) →
  ∃ F' M' s2, protect mask reads F M s = Pr.mk F' M' (s2 ++ s) ∧ roFree M' F' = true ∧ (∀ b, look F' M' b = look F M b) ∧ (∀ x, c ≤ x → M'.get x = none) ∧ ∀ N : Mem, (∀ x, x < c → N.get x = M'.get x) → ∀ x, (unprotect s2 N).get x = if x < c then M.get x else N.get x
 | [], F, M, s, h2, h3 => ⟨F, M, [], rfl, h2, fun _ => rfl, h3, fun N hN x => by
   show N.get x = _
   split
   · rename_i h; exact hN x h
   · rfl⟩
 | (i, x) :: r, F, M, s, h2, h3 => by
   rw [protect]
   cases ht : testBit mask i with
   | true => exact protect_lk mask r F M s h2 h3
   | false =>
     show ∃ F' M' s2, (match M.get x with | none => protect mask r F M s | some blk => (M.del x).force fun M => protect mask r ((x, blk) :: F) M ((x, blk) :: s)) = _ ∧ _
     cases hb : M.get x with
     | none => exact protect_lk mask r F M s h2 h3
     | some blk =>
       have hxc : x < c := by
        apply Classical.byContradiction
        intro hx
        rw [h3 x (by omega)] at hb; cases hb
       have hfr : roFree (M.del x) ((x, blk) :: F) = true := by
        rw [roFree_cons, Tr.get_del, if_pos rfl, roFree_del x h2]; rfl
       obtain ⟨F', M', s2, g1, g2, g3, g4, g5⟩ := protect_lk mask r ((x, blk) :: F) (M.del x) ((x, blk) :: s) hfr (fun y hy => by rw [Tr.get_del]; split <;> first | rfl | exact h3 y hy)
       refine ⟨F', M', s2 ++ [(x, blk)], ?_, g2, fun b => ?_, g4, fun N hN z => ?_⟩
       · show ((M.del x).force fun M => protect mask r ((x, blk) :: F) M ((x, blk) :: s)) = _
         rw [Tr.force_eq, g1, List.append_assoc]; rfl
       · rw [g3]
         by_cases e : b = x
         · subst e
           rw [look_some_M hb, look_none_M (by rw [Tr.get_del, if_pos rfl]), roGet_cons, if_pos rfl]
         · cases hM : M.get b with
           | some y => rw [look_some_M hM, look_some_M (by rw [Tr.get_del, if_neg e]; exact hM)]
           | none => rw [look_none_M hM, look_none_M (by rw [Tr.get_del, if_neg e]; exact hM), roGet_cons, if_neg (fun h => e h.symm)]
       · have key : ∀ (s2 : List (Nat × Blk)) (N : Mem), unprotect (s2 ++ [(x, blk)]) N = (unprotect s2 N).set x blk := by
          intro s2
          induction s2 with
          | nil => intro N; show (N.set x blk).force (fun M => M) = _; rw [Tr.force_eq]; rfl
          | cons a s2 ih => intro N; show (N.set a.1 a.2).force (fun M => unprotect (s2 ++ [(x, blk)]) M) = _; rw [Tr.force_eq, ih]; show _ = ((N.set a.1 a.2).force fun M => unprotect s2 M).set x blk; rw [Tr.force_eq]
         rw [key, Tr.get_set, g5 N hN]
         by_cases e1 : z = x
         · subst e1
           rw [if_pos rfl, if_pos hxc, hb]
         · rw [if_neg e1, Tr.get_del, if_neg e1]
theorem wd_ef (base i mask : Nat) (dst : Option Pos) (o : EO) (r : List (Nat × Nat × CO)) (t : T) (M : Mem) (c : Nat) (reads : List (Nat × Nat)) (R : DS → Prop) (ok : Okm F M c)
  (h : ∀ F' M', Okm F' M' c → (∀ b, look F' M' b = look F M b) → RTo (doE o (K Φ rd fn F') M' c t) fun v M2 c2 => Gr c M' c2 M2 ∧ ∀ M3, Gr c M c2 M3 → (∀ x, c ≤ x → M3.get x = M2.get x) → WpD base r (K Φ rd fn F) (.mk (setT t dst v) M3 c2 [] reads) R) :
  WpD base ((i, mask, .mk dst (.e o) none) :: r) (K Φ rd fn F) (.mk t M c [] reads) R := by
 obtain ⟨F', M', s2, g1, g2, g3, g4, g5⟩ := protect_lk (c := c) mask reads F M [] ok.free ok.hiM
 have ok' : Okm F' M' c := by
  refine ⟨g4, fun b hb => ?_, fun b hb => ?_, ok.ge⟩
  · have := g3 b
    rw [look_none_M (g4 b hb), ok.look hb] at this
    exact this
  · have : ∃ blk, (b, blk) ∈ F' := by
     clear g1 g2 g3 g5 h
     induction F' with
     | nil => cases hb
     | cons a F' ih =>
       obtain ⟨k, z⟩ := a
       rw [roGet_cons] at hb
       split at hb
       · rename_i e; have e : k = b := e; exact ⟨z, by rw [e]; exact List.mem_cons_self ..⟩
       · obtain ⟨blk, hm⟩ := ih hb; exact ⟨blk, List.mem_cons_of_mem _ hm⟩
    obtain ⟨blk, hm⟩ := this
    exact roFree_iff F' g2 b blk hm
 obtain ⟨v, M2, c2, hd, hg, hR⟩ := h F' M' ok' g3
 have hun := g5 M2 hg.old
 have he : dOp (K Φ rd fn F) base (i, mask, .mk dst (.e o) none) (.mk t M c [] reads) = some (.mk (setT t dst v) (unprotect s2 M2) c2 [] reads) := by
  show d_e1 o (K Φ rd fn F) dst t c [] reads (protect mask reads F M []) = _
  rw [g1]
  show d_e2 F' dst t [] reads (s2 ++ []) (doE o (K Φ rd fn F') M' c t) = _
  rw [hd, List.append_nil]
  show (bif roFree M2 F' && true then (unprotect s2 M2).force fun M => (setT t dst v).force fun t => some (DS.mk t M c2 [] reads) else none) = _
  rw [(hg.ok ok').free]
  show ((unprotect s2 M2).force fun M => (setT t dst v).force fun t => some (DS.mk t M c2 [] reads)) = _
  rw [Tr.force_eq, Tr.force_eq]
 rw [wd_cons]
 have hle := hg.le
 exact ⟨_, he, hR _ ⟨hle, fun b hb => by rw [hun, if_pos hb], fun b hb => by rw [hun, if_neg (by omega)]; exact hg.new b hb⟩ (fun x hx => by rw [hun, if_neg (by omega)])⟩
theorem load1_lk {F' : RO} {M M' : Mem} (h : ∀ b, look F' M' b = look F M b) (b o : Nat) : load1 F' M' b o = load1 F M b o := by
 show asCells (look F' M' b) none (fun m d c => cell m d c o) = asCells (look F M b) none fun m d c => cell m d c o
 rw [h]
theorem SlAt.lk {F' : RO} {M M' : Mem} {c sz : Nat} {v : V} {es : List (List V)} (h : ∀ b, look F' M' b = look F M b) (hs : SlAt F M c sz v es) : SlAt F' M' c sz v es := by
 obtain ⟨h0, h1 | ⟨b, o, h1, h2, h3⟩⟩ := hs
 · exact ⟨h0, .inl h1⟩
 · exact ⟨h0, .inr ⟨b, o, h1, h2, fun k hk => by rw [load1_lk h]; exact h3 k hk⟩⟩
end
theorem i64_of {F : RO} {M : Mem} {c : Nat} {vs : List V} {x : (Ty.int .i64).D} (h : Rp F M c (.int .i64) vs x) : ∃ z : Int, vs = [.i .i64 z] ∧ -9223372036854775808 ≤ z ∧ z ≤ 9223372036854775807 := by
 have key : ∀ z : Int, vs = [.i .i64 z] ∧ IntKind.i64.min ≤ z ∧ z ≤ IntKind.i64.max → ∃ z : Int, vs = [.i .i64 z] ∧ -9223372036854775808 ≤ z ∧ z ≤ 9223372036854775807 := fun z h => ⟨z, h⟩
 exact key x h
def b88_1 : CC := (.reg [(qq a4 (.mv (x6 0)))])
def b88_2 : CC := (.reg [(qq a5 (.mv z0)), (qq a6 (.mv z1)), (qq a7 (.xib z5 z6)), (qq a4 (.mv z7))])
def c88 : CF := .mk 4 [.t a4] (.seq b88_1 (.seq b88_2 .ret))
def b87_1 : CC := (.reg [(qq a4 (.mv xF))])
def b87_2 : CC := (.reg [(qq a5 (.mv z0)), (qq a6 (.ln .str z5)), (qq a7 (.mv z1)), (qq a8 (.ln .str z7)), (qq a9 (.bi .geq z6 z8)), (qq a10 (.mv z9)), ⟨(some a11), .q (.mv z0), (some (a10, true))⟩, ⟨(some a12), .q (.mv z1), (some (a10, true))⟩, ⟨(some a13), .q (.ln .str z12), (some (a10, true))⟩, ⟨(some a14), .q (.slS z11 none (some z13)), (some (a10, true))⟩, ⟨(some a15), .q (.mv z1), (some (a10, true))⟩, ⟨(some a16), .q (.bi .eql z14 z15), (some (a10, true))⟩, (qq a17 (.pk z10 z16 xF)), (qq a4 (.mv z17))])
def c87 : CF := .mk 5 [.t a4] (.seq b87_1 (.seq b87_2 .ret))
def b73_1 : CC := (.reg [(qq a4 (.mv xF))])
def b73_2 : CC := (.reg [(qq a5 (.mv z0)), (qq a6 (.mv z1)), (ee a7 (.call 87 [z5, z6])), (qq a4 (.mv z7))])
def c73 : CF := .mk 4 [.t a4] (.seq b73_1 (.seq b73_2 .ret))
def b76_1 : CC := (.reg [(qq a4 (.mv (x6 0)))])
def b76_2 : CC := (.reg [(qq a5 (.mv z0)), (qq a6 (.mv z1)), (ee a7 (.call 88 [z5, z6])), (qq a4 (.mv z7))])
def c76 : CF := .mk 4 [.t a4] (.seq b76_1 (.seq b76_2 .ret))
def b75_1 : CC := (.reg [(qq a3 (.mv z0)), (qq a4 (.bi .gtr z3 (.c (.i .u8 32)))), (qq a5 (.mv z4)), ⟨(some a6), .q (.mv z0), (some (a5, true))⟩, ⟨(some a7), .q (.bi .lss z6 (.c (.i .u8 127))), (some (a5, true))⟩, (qq a8 (.pk z5 z7 xF)), (qq a9 (.mv z8)), ⟨(some a10), .q (.mv z0), (some (a9, true))⟩, ⟨(some a11), .e (.call 76 [(.c (.s 8 2603404095485934631)), z10]), (some (a9, true))⟩, ⟨(some a12), .q (.bi .lss z11 (x6 0)), (some (a9, true))⟩, (qq a13 (.pk z9 z12 xF)), (qq a2 (.mv z13))])
def b75_2 : CC := (.seq (.reg [(qq a2 (.mv xF))]) (.seq b75_1 .ret))
def c75 : CF := .mk 4 [.t a2] b75_2
def b78_1 : CC := (.reg [(qq a3 (.mv z0)), (qq a4 (.bi .geq z3 (.c (.i .u8 32)))), (qq a5 (.mv z4)), ⟨(some a6), .q (.mv z0), (some (a5, true))⟩, ⟨(some a7), .q (.bi .lss z6 (.c (.i .u8 127))), (some (a5, true))⟩, (qq a8 (.pk z5 z7 xF)), (qq a9 (.mv z8)), ⟨(some a10), .q (.mv z0), (some (a9, true))⟩, ⟨(some a11), .q (.bi .neq z10 (.c (.i .u8 39))), (some (a9, true))⟩, (qq a12 (.pk z9 z11 xF)), (qq a2 (.mv z12))])
def b78_2 : CC := (.seq (.reg [(qq a2 (.mv xF))]) (.seq b78_1 .ret))
def c78 : CF := .mk 4 [.t a2] b78_2
def b77_1 : CC := (.reg [(qq a4 (.mv xF))])
def b77_2 : CC := (.reg [(qq a6 (.mv z0)), (qq a7 (.ln .str z6)), (qq a8 (.mv (x6 0)))])
def b77_3 : CC := (.reg [(qq a9 (.bi .lss z8 z7))])
def b77_4 : CC := (.reg [(qq a10 (.mv z8)), (qq a5 (.mv z10))])
def b77_5 : CC := (.reg [(qq a11 (.mv z1)), (qq a12 (.mv z0)), (qq a13 (.mv z5)), (qq a14 (.ixS z12 z13)), (ee a15 (.cv z11 [z14])), (qq a16 (.un .not z15))])
def b77_6 : CC := (.reg [(qq a4 (.mv xF))])
def b77_7 : CC := (.seq b77_5 (.cond z16 (.seq b77_6 .ret) .skip))
def b77_8 : CC := (.reg [(qq a17 (.bi .add z8 (x6 1))), (qq a8 (.mv z17))])
def b77_9 : CC := (.seq (.cond z9 .skip (.exit 0)) (.seq (.block 1 (.seq b77_4 b77_7)) b77_8))
def b77_10 : CC := (.reg [(qq a4 (.mv xT))])
def b77_11 : CC := (.seq (.seq b77_2 (.block 0 (.loop (.seq b77_3 b77_9)))) (.seq b77_10 .ret))
def c77 : CF := .mk 5 [.t a4] (.seq b77_1 b77_11)
def b55_1 : CC := (.reg [(aa a5 (.bsl 9 8 1 [(.s 0 0)] [(0, (.c (.s 2 15934))), (1, (.c (.s 2 9766))), (2, (.c (.s 2 31868))), (3, (.c (.s 1 124))), (4, (.c (.s 1 60))), (5, (.c (.s 1 62))), (6, (.c (.s 1 59))), (7, (.c (.s 1 33)))])), (qq a6 (.ln .slice z5)), (qq a7 (.mv (x6 0)))])
def b55_2 : CC := (.reg [(qq a8 (.bi .lss z7 z6))])
def b55_3 : CC := (.reg [(qq a9 (.iaS 1 z5 z7)), (qq a10 (.ld1 z9)), (qq a4 (.mv z10))])
def b55_4 : CC := (.reg [(qq a11 (.mv z0)), (qq a12 (.mv z4)), (ee a13 (.call 73 [z11, z12]))])
def b55_5 : CC := (.reg [(qq a14 (.mv z4)), (qq a2 (.mv z14))])
def b55_6 : CC := (.seq b55_4 (.cond z13 (.seq b55_5 .ret) .skip))
def b55_7 : CC := (.reg [(qq a15 (.bi .add z7 (x6 1))), (qq a7 (.mv z15))])
def b55_8 : CC := (.seq (.cond z8 .skip (.exit 0)) (.seq (.block 1 (.seq b55_3 b55_6)) b55_7))
def b55_9 : CC := (.seq (.reg [(qq a2 (.mv (.c (.s 0 0))))]) .ret)
def b55_10 : CC := (.seq (.seq b55_1 (.block 0 (.loop (.seq b55_2 b55_8)))) b55_9)
def b55_11 : CC := (.seq (.reg [(qq a2 (.mv (.c (.s 0 0))))]) b55_10)
def c55 : CF := .mk 5 [.t a2] b55_11
abbrev Pc := List UInt8 × Bool
def pcV (p : Pc) : List V := [sV p.1, .b p.2]
def pcE (w : List Pc) : List (List V) := w.map pcV
theorem pcE_len (w : List Pc) : (pcE w).length = w.length := List.length_map ..
def b74_1 : CC := (.reg [(qq a5 (.ld1 z0)), (qq a6 (.ln .slice z5)), (qq a7 (.bi .gtr z6 (x6 0))), (qq a8 (.mv z7)), ⟨(some a9), .q (.ld1 z1), (some (a8, false))⟩, ⟨(some a10), .q (.mv z9), (some (a8, false))⟩, ⟨(some a11), .q (.ld1 z2), (some (a10, true))⟩, ⟨(some a12), .q (.ln .slice z11), (some (a10, true))⟩, ⟨(some a13), .q (.bi .eql z12 (x6 0)), (some (a10, true))⟩, ⟨(some a14), .q (.pk z10 z13 xF), (some (a8, false))⟩, ⟨(some a15), .q (.mv z14), (some (a8, false))⟩, ⟨(some a16), .q (.ld1 z3), (some (a15, true))⟩, ⟨(some a17), .q (.ld1 z4), (some (a15, true))⟩, ⟨(some a18), .q (.ln .str z17), (some (a15, true))⟩, ⟨(some a19), .q (.bi .geq z16 z18), (some (a15, true))⟩, ⟨(some a20), .q (.mv z19), (some (a15, true))⟩, ⟨(some a21), .q (.ld1 z4), (some (a20, false))⟩, ⟨(some a22), .q (.ld1 z3), (some (a20, false))⟩, ⟨(some a23), .q (.ixS z21 z22), (some (a20, false))⟩, ⟨(some a24), .q (.bi .neq z23 (.c (.i .u8 36))), (some (a20, false))⟩, ⟨(some a25), .q (.pk z20 xT z24), (some (a15, true))⟩, ⟨(some a26), .q (.pk z15 z25 xF), (some (a8, false))⟩, (qq a27 (.pk z8 xT z26))])
def b74_2 : CC := (.reg [(qq a28 (.ld1 z2)), (qq a29 (.ld1 z0)), (qq a30 (.bs z29)), (qq a31 (.bld [(.s 0 0), (.b false)] [(0, 1, z30)])), (aa a32 (.bsl 64 1 2 [(.s 0 0), (.b false)] [(0, z31)])), (ee a33 (.app 64 2 24 z28 z32)), (ez (.st 1 z2 z33))])
def b74_3 : CC := (.seq b74_1 (.cond z27 b74_2 .skip))
def b74_4 : CC := (.reg [(ez (.st 1 z0 (.c .l0))), (ez (.st 1 z1 xF))])
def c74 : CF := .mk 6 [] (.seq b74_3 b74_4)
def b56_1 : CC := (.reg [(aa a1 (.bx 9 1 z0)), (aa a2 (.al 36 [.l0])), (qq a3 (.mv (x6 0)))])
def b56_2 : CC := (.reg [(aa a6 (.al 4 [(.b false)])), (ez (.st 1 z6 xF))])
def b56_3 : CC := (.reg [(aa a7 (.al 3 [(.i .i64 0)])), (ez (.st 1 z7 (x6 0))), (qq a8 (.mv (x6 0)))])
def b56_4 : CC := (.reg [(qq a10 (.mkf 74 [] [z5, z6, z4, z7, z1])), (qq a9 (.mv z10))])
def b56_5 : CC := (.reg [(qq a11 (.ld1 z7)), (qq a12 (.ld1 z1)), (qq a13 (.ln .str z12)), (qq a14 (.bi .eql z11 z13)), (qq a15 (.mv z14)), ⟨(some a16), .q (.ld1 z1), (some (a15, false))⟩, ⟨(some a17), .q (.ld1 z7), (some (a15, false))⟩, ⟨(some a18), .q (.ixS z16 z17), (some (a15, false))⟩, ⟨(some a19), .q (.bi .eql z18 (.c (.i .u8 32))), (some (a15, false))⟩, (qq a20 (.pk z15 xT z19)), (qq a21 (.mv z20)), ⟨(some a22), .q (.ld1 z1), (some (a21, false))⟩, ⟨(some a23), .q (.ld1 z7), (some (a21, false))⟩, ⟨(some a24), .q (.ixS z22 z23), (some (a21, false))⟩, ⟨(some a25), .q (.bi .eql z24 (.c (.i .u8 38))), (some (a21, false))⟩, (qq a26 (.pk z21 xT z25)), (qq a27 (.mv z26)), ⟨(some a28), .q (.ld1 z1), (some (a27, false))⟩, ⟨(some a29), .q (.ld1 z7), (some (a27, false))⟩, ⟨(some a30), .q (.slS z28 (some z29) none), (some (a27, false))⟩, ⟨(some a31), .e (.call 55 [z30]), (some (a27, false))⟩, ⟨(some a32), .q (.bi .neq z31 (.c (.s 0 0))), (some (a27, false))⟩, (qq a33 (.pk z27 xT z32))])
def b56_6 : CC := (.seq b56_5 (.cond z33 (.goto 0) .skip))
def b56_7 : CC := (.reg [(qq a36 (.ld1 z1)), (qq a37 (.ld1 z7)), (qq a38 (.ixS z36 z37)), (qq a39 (.bi .eql z38 (.c (.i .u8 39)))), (qq a35 (.mv z39))])
def b56_8 : CC := (.reg [(qq a41 (.ld1 z1)), (qq a42 (.ld1 z7)), (qq a43 (.slS z41 (some z42) none)), (ee a44 (.call 73 [z43, (.c (.s 2 16164))])), (qq a40 (.mv z44))])
def b56_9 : CC := (.reg [(qq a45 (.mv z9)), (ee a46 (.cv z45 []))])
def b56_10 : CC := (.reg [(qq a47 (.ld1 z4)), (qq a48 (.bld [(.s 0 0), (.b false)] [(1, 1, xT)])), (aa a49 (.bsl 64 1 2 [(.s 0 0), (.b false)] [(0, z48)])), (ee a50 (.app 64 2 24 z47 z49)), (ez (.st 1 z4 z50))])
def b56_11 : CC := (.reg [(qq a51 (.ld1 z7)), (qq a52 (.bi .add z51 (x6 2))), (ez (.st 1 z7 z52))])
def b56_12 : CC := (.reg [(qq a54 (.ld1 z1)), (qq a55 (.ld1 z7)), (qq a56 (.ixS z54 z55)), (ee a57 (.call 75 [z56])), (qq a53 (.mv z57))])
def b56_13 : CC := (.dreg 8 [(0, 0, (qq a58 (.ld1 z5))), (1, 0, (qq a59 (.ld1 z1))), (2, 0, (qq a60 (.ld1 z7))), (3, 6, (qq a61 (.ixS z59 z60))), (4, 14, (aa a62 (.bsl 5 1 1 [(.i .u8 0)] [(0, z61)]))), (5, 31, (ee a63 (.app 5 1 1 z58 z62))), (6, 63, (ez (.st 1 z5 z63))), (7, 127, (ez (.st 1 z6 xT)))])
def b56_14 : CC := (.reg [(qq a64 (.ld1 z7)), (qq a65 (.bi .add z64 (x6 1))), (ez (.st 1 z7 z65))])
def b56_15 : CC := (.reg [(qq a34 (.bld [.l0] [])), (ez (.st 1 z2 z34)), (qq a3 (.mv (x6 0)))])
def b56_16 : CC := (.cond z53 (.seq b56_13 b56_14) (.seq b56_15 .ret))
def b56_17 : CC := (.cond z40 (.seq b56_9 (.seq b56_10 b56_11)) (.seq b56_12 b56_16))
def b56_18 : CC := (.cond z35 (.goto 2) (.seq b56_8 b56_17))
def b56_19 : CC := (.reg [(qq a66 (.ld1 z1)), (qq a67 (.ld1 z7)), (qq a68 (.bi .add z67 (x6 1))), (qq a69 (.slS z66 (some z68) none)), (ee a70 (.call 76 [z69, (.c (.i .u8 39))])), (qq a8 (.mv z70))])
def b56_20 : CC := (.reg [(qq a71 (.mv z8)), (qq a72 (.bi .lss z71 (x6 0))), (qq a73 (.mv z72)), ⟨(some a74), .q (.ld1 z1), (some (a73, false))⟩, ⟨(some a75), .q (.ld1 z7), (some (a73, false))⟩, ⟨(some a76), .q (.bi .add z75 (x6 1)), (some (a73, false))⟩, ⟨(some a77), .q (.ld1 z7), (some (a73, false))⟩, ⟨(some a78), .q (.bi .add z77 (x6 1)), (some (a73, false))⟩, ⟨(some a79), .q (.mv z8), (some (a73, false))⟩, ⟨(some a80), .q (.bi .add z78 z79), (some (a73, false))⟩, ⟨(some a81), .q (.slS z74 (some z76) (some z80)), (some (a73, false))⟩, ⟨(some a82), .e (.call 77 [z81, (.c (.f 78 [] []))]), (some (a73, false))⟩, ⟨(some a83), .q (.un .not z82), (some (a73, false))⟩, (qq a84 (.pk z73 xT z83))])
def b56_21 : CC := (.reg [(qq a85 (.bld [.l0] [])), (ez (.st 1 z2 z85)), (qq a3 (.mv (x6 0)))])
def b56_22 : CC := (.cond z84 (.seq b56_21 .ret) .skip)
def b56_23 : CC := (.dreg 12 [(0, 0, (qq a86 (.ld1 z5))), (1, 0, (qq a87 (.ld1 z1))), (2, 0, (qq a88 (.ld1 z7))), (3, 4, (qq a89 (.bi .add z88 (x6 1)))), (4, 0, (qq a90 (.ld1 z7))), (5, 16, (qq a91 (.bi .add z90 (x6 1)))), (6, 0, (qq a92 (.mv z8))), (7, 112, (qq a93 (.bi .add z91 z92))), (8, 254, (qq a94 (.slS z87 (some z89) (some z93)))), (9, 511, (ee a95 (.app 5 1 1 z86 z94))), (10, 1023, (ez (.st 1 z5 z95))), (11, 2047, (ez (.st 1 z6 xT)))])
def b56_24 : CC := (.reg [(qq a96 (.ld1 z7)), (qq a97 (.mv z8)), (qq a98 (.bi .add z97 (x6 2))), (qq a99 (.bi .add z96 z98)), (ez (.st 1 z7 z99))])
def b56_25 : CC := (.reg [(qq a100 (.mv z9)), (ee a101 (.cv z100 []))])
def b56_26 : CC := (.dreg 5 [(0, 0, (qq a102 (.ld1 z4))), (1, 1, (qq a103 (.bld [.l0] [(0, 1, z102)]))), (2, 0, (qq a104 (.ld1 z7))), (3, 3, (ez (.st 1 z2 z103))), (4, 15, (qq a3 (.mv z104)))])
def b56_27 : CC := (.seq (.goto 1) (.seq .skip (.seq b56_25 (.seq b56_26 .ret))))
def b56_28 : CC := (.seq (.seq b56_20 b56_22) (.seq b56_23 (.seq b56_24 b56_27)))
def b56_29 : CC := (.seq (.block 0 (.seq b56_7 b56_18)) (.seq (.goto 1) (.seq .skip (.seq b56_19 b56_28))))
def b56_30 : CC := (.seq b56_2 (.seq b56_3 (.seq b56_4 (.seq .skip (.seq b56_6 b56_29)))))
def b56_31 : CC := (.seq (.reg [(aa a5 (.al 96 [.l0]))]) b56_30)
def b56_32 : CC := (.seq (.reg [(aa a4 (.al 34 [.l0]))]) b56_31)
def b56_33 : CC := (.reg [(qq a11 (.ld1 z7)), (qq a12 (.ld1 z1)), (qq a13 (.ln .str z12)), (qq a14 (.bi .eql z11 z13)), (qq a15 (.mv z14)), ⟨(some a16), .q (.ld1 z1), (some (a15, false))⟩, ⟨(some a17), .q (.ld1 z7), (some (a15, false))⟩, ⟨(some a18), .q (.ixS z16 z17), (some (a15, false))⟩, ⟨(some a19), .q (.bi .eql z18 (.c (.i .u8 32))), (some (a15, false))⟩, (qq a20 (.pk z15 xT z19)), (qq a21 (.mv z20)), ⟨(some a22), .q (.ld1 z1), (some (a21, false))⟩, ⟨(some a23), .q (.ld1 z7), (some (a21, false))⟩, ⟨(some a24), .q (.ixS z22 z23), (some (a21, false))⟩, ⟨(some a25), .q (.bi .eql z24 (.c (.i .u8 38))), (some (a21, false))⟩, (qq a26 (.pk z21 xT z25)), (qq a27 (.mv z26)), ⟨(some a28), .q (.ld1 z1), (some (a27, false))⟩, ⟨(some a29), .q (.ld1 z7), (some (a27, false))⟩, ⟨(some a30), .q (.slS z28 (some z29) none), (some (a27, false))⟩, ⟨(some a31), .e (.call 55 [z30]), (some (a27, false))⟩, ⟨(some a32), .q (.bi .neq z31 (.c (.s 0 0))), (some (a27, false))⟩, (qq a33 (.pk z27 xT z32))])
def b56_34 : CC := (.seq b56_33 (.cond z33 (.goto 0) .skip))
def b56_35 : CC := (.reg [(qq a36 (.ld1 z1)), (qq a37 (.ld1 z7)), (qq a38 (.ixS z36 z37)), (qq a39 (.bi .eql z38 (.c (.i .u8 39)))), (qq a35 (.mv z39))])
def b56_36 : CC := (.reg [(qq a41 (.ld1 z1)), (qq a42 (.ld1 z7)), (qq a43 (.slS z41 (some z42) none)), (ee a44 (.call 73 [z43, (.c (.s 2 16164))])), (qq a40 (.mv z44))])
def b56_37 : CC := (.reg [(qq a45 (.mv z9)), (ee a46 (.cv z45 []))])
def b56_38 : CC := (.reg [(qq a47 (.ld1 z4)), (qq a48 (.bld [(.s 0 0), (.b false)] [(1, 1, xT)])), (aa a49 (.bsl 64 1 2 [(.s 0 0), (.b false)] [(0, z48)])), (ee a50 (.app 64 2 24 z47 z49)), (ez (.st 1 z4 z50))])
def b56_39 : CC := (.reg [(qq a51 (.ld1 z7)), (qq a52 (.bi .add z51 (x6 2))), (ez (.st 1 z7 z52))])
def b56_40 : CC := (.reg [(qq a54 (.ld1 z1)), (qq a55 (.ld1 z7)), (qq a56 (.ixS z54 z55)), (ee a57 (.call 75 [z56])), (qq a53 (.mv z57))])
def b56_41 : CC := (.dreg 8 [(0, 0, (qq a58 (.ld1 z5))), (1, 0, (qq a59 (.ld1 z1))), (2, 0, (qq a60 (.ld1 z7))), (3, 6, (qq a61 (.ixS z59 z60))), (4, 14, (aa a62 (.bsl 5 1 1 [(.i .u8 0)] [(0, z61)]))), (5, 31, (ee a63 (.app 5 1 1 z58 z62))), (6, 63, (ez (.st 1 z5 z63))), (7, 127, (ez (.st 1 z6 xT)))])
def b56_42 : CC := (.reg [(qq a64 (.ld1 z7)), (qq a65 (.bi .add z64 (x6 1))), (ez (.st 1 z7 z65))])
def b56_43 : CC := (.reg [(qq a34 (.bld [.l0] [])), (ez (.st 1 z2 z34)), (qq a3 (.mv (x6 0)))])
def b56_44 : CC := (.cond z53 (.seq b56_41 b56_42) (.seq b56_43 .ret))
def b56_45 : CC := (.cond z40 (.seq b56_37 (.seq b56_38 b56_39)) (.seq b56_40 b56_44))
def b56_46 : CC := (.cond z35 (.goto 2) (.seq b56_36 b56_45))
def b56_47 : CC := (.reg [(qq a66 (.ld1 z1)), (qq a67 (.ld1 z7)), (qq a68 (.bi .add z67 (x6 1))), (qq a69 (.slS z66 (some z68) none)), (ee a70 (.call 76 [z69, (.c (.i .u8 39))])), (qq a8 (.mv z70))])
def b56_48 : CC := (.reg [(qq a71 (.mv z8)), (qq a72 (.bi .lss z71 (x6 0))), (qq a73 (.mv z72)), ⟨(some a74), .q (.ld1 z1), (some (a73, false))⟩, ⟨(some a75), .q (.ld1 z7), (some (a73, false))⟩, ⟨(some a76), .q (.bi .add z75 (x6 1)), (some (a73, false))⟩, ⟨(some a77), .q (.ld1 z7), (some (a73, false))⟩, ⟨(some a78), .q (.bi .add z77 (x6 1)), (some (a73, false))⟩, ⟨(some a79), .q (.mv z8), (some (a73, false))⟩, ⟨(some a80), .q (.bi .add z78 z79), (some (a73, false))⟩, ⟨(some a81), .q (.slS z74 (some z76) (some z80)), (some (a73, false))⟩, ⟨(some a82), .e (.call 77 [z81, (.c (.f 78 [] []))]), (some (a73, false))⟩, ⟨(some a83), .q (.un .not z82), (some (a73, false))⟩, (qq a84 (.pk z73 xT z83))])
def b56_49 : CC := (.reg [(qq a85 (.bld [.l0] [])), (ez (.st 1 z2 z85)), (qq a3 (.mv (x6 0)))])
def b56_50 : CC := (.cond z84 (.seq b56_49 .ret) .skip)
def b56_51 : CC := (.dreg 12 [(0, 0, (qq a86 (.ld1 z5))), (1, 0, (qq a87 (.ld1 z1))), (2, 0, (qq a88 (.ld1 z7))), (3, 4, (qq a89 (.bi .add z88 (x6 1)))), (4, 0, (qq a90 (.ld1 z7))), (5, 16, (qq a91 (.bi .add z90 (x6 1)))), (6, 0, (qq a92 (.mv z8))), (7, 112, (qq a93 (.bi .add z91 z92))), (8, 254, (qq a94 (.slS z87 (some z89) (some z93)))), (9, 511, (ee a95 (.app 5 1 1 z86 z94))), (10, 1023, (ez (.st 1 z5 z95))), (11, 2047, (ez (.st 1 z6 xT)))])
def b56_52 : CC := (.reg [(qq a96 (.ld1 z7)), (qq a97 (.mv z8)), (qq a98 (.bi .add z97 (x6 2))), (qq a99 (.bi .add z96 z98)), (ez (.st 1 z7 z99))])
def b56_53 : CC := (.reg [(qq a100 (.mv z9)), (ee a101 (.cv z100 []))])
def b56_54 : CC := (.dreg 5 [(0, 0, (qq a102 (.ld1 z4))), (1, 1, (qq a103 (.bld [.l0] [(0, 1, z102)]))), (2, 0, (qq a104 (.ld1 z7))), (3, 3, (ez (.st 1 z2 z103))), (4, 15, (qq a3 (.mv z104)))])
def b56_55 : CC := (.seq (.goto 1) (.seq .skip (.seq b56_53 (.seq b56_54 .ret))))
def b56_56 : CC := (.seq (.seq b56_48 b56_50) (.seq b56_51 (.seq b56_52 b56_55)))
def b56_57 : CC := (.seq (.block 0 (.seq b56_35 b56_46)) (.seq (.goto 1) (.seq .skip (.seq b56_47 b56_56))))
def b56_58 : CC := (.reg [(qq a66 (.ld1 z1)), (qq a67 (.ld1 z7)), (qq a68 (.bi .add z67 (x6 1))), (qq a69 (.slS z66 (some z68) none)), (ee a70 (.call 76 [z69, (.c (.i .u8 39))])), (qq a8 (.mv z70))])
def b56_59 : CC := (.reg [(qq a71 (.mv z8)), (qq a72 (.bi .lss z71 (x6 0))), (qq a73 (.mv z72)), ⟨(some a74), .q (.ld1 z1), (some (a73, false))⟩, ⟨(some a75), .q (.ld1 z7), (some (a73, false))⟩, ⟨(some a76), .q (.bi .add z75 (x6 1)), (some (a73, false))⟩, ⟨(some a77), .q (.ld1 z7), (some (a73, false))⟩, ⟨(some a78), .q (.bi .add z77 (x6 1)), (some (a73, false))⟩, ⟨(some a79), .q (.mv z8), (some (a73, false))⟩, ⟨(some a80), .q (.bi .add z78 z79), (some (a73, false))⟩, ⟨(some a81), .q (.slS z74 (some z76) (some z80)), (some (a73, false))⟩, ⟨(some a82), .e (.call 77 [z81, (.c (.f 78 [] []))]), (some (a73, false))⟩, ⟨(some a83), .q (.un .not z82), (some (a73, false))⟩, (qq a84 (.pk z73 xT z83))])
def b56_60 : CC := (.reg [(qq a85 (.bld [.l0] [])), (ez (.st 1 z2 z85)), (qq a3 (.mv (x6 0)))])
def b56_61 : CC := (.cond z84 (.seq b56_60 .ret) .skip)
def b56_62 : CC := (.dreg 12 [(0, 0, (qq a86 (.ld1 z5))), (1, 0, (qq a87 (.ld1 z1))), (2, 0, (qq a88 (.ld1 z7))), (3, 4, (qq a89 (.bi .add z88 (x6 1)))), (4, 0, (qq a90 (.ld1 z7))), (5, 16, (qq a91 (.bi .add z90 (x6 1)))), (6, 0, (qq a92 (.mv z8))), (7, 112, (qq a93 (.bi .add z91 z92))), (8, 254, (qq a94 (.slS z87 (some z89) (some z93)))), (9, 511, (ee a95 (.app 5 1 1 z86 z94))), (10, 1023, (ez (.st 1 z5 z95))), (11, 2047, (ez (.st 1 z6 xT)))])
def b56_63 : CC := (.reg [(qq a96 (.ld1 z7)), (qq a97 (.mv z8)), (qq a98 (.bi .add z97 (x6 2))), (qq a99 (.bi .add z96 z98)), (ez (.st 1 z7 z99))])
def b56_64 : CC := (.reg [(qq a100 (.mv z9)), (ee a101 (.cv z100 []))])
def b56_65 : CC := (.dreg 5 [(0, 0, (qq a102 (.ld1 z4))), (1, 1, (qq a103 (.bld [.l0] [(0, 1, z102)]))), (2, 0, (qq a104 (.ld1 z7))), (3, 3, (ez (.st 1 z2 z103))), (4, 15, (qq a3 (.mv z104)))])
def b56_66 : CC := (.seq (.goto 1) (.seq .skip (.seq b56_64 (.seq b56_65 .ret))))
def b56_67 : CC := (.seq (.seq b56_59 b56_61) (.seq b56_62 (.seq b56_63 b56_66)))
def b56_68 : CC := (.reg [(qq a100 (.mv z9)), (ee a101 (.cv z100 []))])
def b56_69 : CC := (.dreg 5 [(0, 0, (qq a102 (.ld1 z4))), (1, 1, (qq a103 (.bld [.l0] [(0, 1, z102)]))), (2, 0, (qq a104 (.ld1 z7))), (3, 3, (ez (.st 1 z2 z103))), (4, 15, (qq a3 (.mv z104)))])
def b56_70 : CC := (.tab 0 (.seq .skip (.seq b56_68 (.seq b56_69 .ret))) .skip)
def b56_71 : CC := (.tab 1 (.seq .skip (.seq b56_34 b56_57)) (.tab 2 (.seq .skip (.seq b56_58 b56_67)) b56_70))
def c56 : CF := .mk 7 [.cn a2 1, .t a3] (.seq b56_1 (.scope b56_32 b56_71))
end
end Go.Proofs.YtmbpllipombieaaDoor.Ev
