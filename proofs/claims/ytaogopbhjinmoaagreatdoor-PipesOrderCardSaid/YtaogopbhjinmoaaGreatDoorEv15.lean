/- What is proved here: pieces of the evaluator's soundness: if the evaluator comes to a value, the model's run comes to it, for every world and tape; no conditions beyond the hypotheses of each theorem. -/
import Derived.Test.YtaogopbhjinmoaaGreatDoorEv14
set_option linter.unusedSimpArgs false
set_option linter.unusedVariables false
set_option linter.defProp false
namespace Go.Proofs.YtaogopbhjinmoaaGreatDoor.Ev
open Go
end Go.Proofs.YtaogopbhjinmoaaGreatDoor.Ev
namespace Go.Proofs.YtaogopbhjinmoaaGreatDoor.Ev
open Go
section
variable {Φ : Nat → Option CF} {rd : Option Nat} {fn : Nat} {F : RO}
end
end Go.Proofs.YtaogopbhjinmoaaGreatDoor.Ev
namespace Go.Proofs.YtaogopbhjinmoaaGreatDoor.Ev
open Go
theorem over_pre : ∀ (e p q : List V), q.length = e.length → over (p ++ q) p.length e = p ++ e
  | [], p, q, h => by
    obtain rfl : q = [] := List.eq_nil_of_length_eq_zero h
    rfl
  | v :: e, p, [], h => by cases h
  | v :: e, p, a :: q, h => by
    rw [over, List.set_append_right _ _ (Nat.le_refl _), Nat.sub_self, List.set_cons_zero]
    have := over_pre e (p ++ [v]) q (by simpa using h)
    rw [List.length_append, List.length_singleton, List.append_assoc, List.append_assoc] at this
    exact this
theorem over_all {z e : List V} (h : z.length = e.length) : over z 0 e = e := by
  have := over_pre e [] z h
  simpa using this
section
variable {Φ : Nat → Option CF} {rd : Option Nat} {fn : Nat} {F : RO}
theorem protect_lk {c : Nat} (mask : Nat) : ∀ (reads : List (Nat × Nat)) (F : RO) (M : Mem) (s : List (Nat × Blk)), roFree M F = true → (∀ x, c ≤ x → M.get x = none) →
    ∃ F' M' s2, protect mask reads F M s = Pr.mk F' M' (s2 ++ s) ∧ roFree M' F' = true ∧ (∀ b, look F' M' b = look F M b) ∧ (∀ x, c ≤ x → M'.get x = none) ∧ ∀ N : Mem, (∀ x, x < c → N.get x = M'.get x) → ∀ x, (unprotect s2 N).get x = if x < c then M.get x else N.get x
  | [], F, M, s, h2, h3 => ⟨F, M, [], rfl, h2, fun _ => rfl, h3, fun N hN x => by
      show N.get x = _
      split
      · rename_i h; exact hN x h
      · rfl⟩
  | (i, x) :: r, F, M, s, h2, h3 => by
    rw [protect]
    cases ht : testBit mask i with
    | true => exact protect_lk mask r F M s h2 h3
    | false =>
      show ∃ F' M' s2, (match M.get x with | none => protect mask r F M s | some blk => (M.del x).force fun M => protect mask r ((x, blk) :: F) M ((x, blk) :: s)) = _ ∧ _
      cases hb : M.get x with
      | none => exact protect_lk mask r F M s h2 h3
      | some blk =>
        have hxc : x < c := by
          apply Classical.byContradiction
          intro hx
          rw [h3 x (by omega)] at hb; cases hb
        have hfr : roFree (M.del x) ((x, blk) :: F) = true := by
          rw [roFree_cons, Tr.get_del, if_pos rfl, roFree_del x h2]; rfl
        obtain ⟨F', M', s2, g1, g2, g3, g4, g5⟩ := protect_lk mask r ((x, blk) :: F) (M.del x) ((x, blk) :: s) hfr (fun y hy => by rw [Tr.get_del]; split <;> first | rfl | exact h3 y hy)
        refine ⟨F', M', s2 ++ [(x, blk)], ?_, g2, fun b => ?_, g4, fun N hN z => ?_⟩
        · show ((M.del x).force fun M => protect mask r ((x, blk) :: F) M ((x, blk) :: s)) = _
          rw [Tr.force_eq, g1, List.append_assoc]; rfl
        · rw [g3]
          by_cases e : b = x
          · subst e
            rw [look_some_M hb, look_none_M (by rw [Tr.get_del, if_pos rfl]), roGet_cons, if_pos rfl]
          · cases hM : M.get b with
            | some y => rw [look_some_M hM, look_some_M (by rw [Tr.get_del, if_neg e]; exact hM)]
            | none => rw [look_none_M hM, look_none_M (by rw [Tr.get_del, if_neg e]; exact hM), roGet_cons, if_neg (fun h => e h.symm)]
        · have key : ∀ (s2 : List (Nat × Blk)) (N : Mem), unprotect (s2 ++ [(x, blk)]) N = (unprotect s2 N).set x blk := by
            intro s2
            induction s2 with
            | nil => intro N; show (N.set x blk).force (fun M => M) = _; rw [Tr.force_eq]; rfl
            | cons a s2 ih => intro N; show (N.set a.1 a.2).force (fun M => unprotect (s2 ++ [(x, blk)]) M) = _; rw [Tr.force_eq, ih]; show _ = ((N.set a.1 a.2).force fun M => unprotect s2 M).set x blk; rw [Tr.force_eq]
          rw [key, Tr.get_set, g5 N hN]
          by_cases e1 : z = x
          · subst e1
            rw [if_pos rfl, if_pos hxc, hb]
          · rw [if_neg e1, Tr.get_del, if_neg e1]
theorem wd_ef (base i mask : Nat) (dst : Option Pos) (o : EO) (r : List (Nat × Nat × CO)) (t : T) (M : Mem) (c : Nat) (reads : List (Nat × Nat)) (R : DS → Prop) (ok : Okm F M c)
    (h : ∀ F' M', Okm F' M' c → (∀ b, look F' M' b = look F M b) → RTo (doE o (K Φ rd fn F') M' c t) fun v M2 c2 => Gr c M' c2 M2 ∧ ∀ M3, Gr c M c2 M3 → (∀ x, c ≤ x → M3.get x = M2.get x) → WpD base r (K Φ rd fn F) (.mk (setT t dst v) M3 c2 [] reads) R) :
    WpD base ((i, mask, .mk dst (.e o) none) :: r) (K Φ rd fn F) (.mk t M c [] reads) R := by
  obtain ⟨F', M', s2, g1, g2, g3, g4, g5⟩ := protect_lk (c := c) mask reads F M [] ok.free ok.hiM
  have ok' : Okm F' M' c := by
    refine ⟨g4, fun b hb => ?_, fun b hb => ?_, ok.ge⟩
    · have := g3 b
      rw [look_none_M (g4 b hb), ok.look hb] at this
      exact this
    · have : ∃ blk, (b, blk) ∈ F' := by
        clear g1 g2 g3 g5 h
        induction F' with
        | nil => cases hb
        | cons a F' ih =>
          obtain ⟨k, z⟩ := a
          rw [roGet_cons] at hb
          split at hb
          · rename_i e; have e : k = b := e; exact ⟨z, by rw [e]; exact List.mem_cons_self ..⟩
          · obtain ⟨blk, hm⟩ := ih hb; exact ⟨blk, List.mem_cons_of_mem _ hm⟩
      obtain ⟨blk, hm⟩ := this
      exact roFree_iff F' g2 b blk hm
  obtain ⟨v, M2, c2, hd, hg, hR⟩ := h F' M' ok' g3
  have hun := g5 M2 hg.old
  have he : dOp (K Φ rd fn F) base (i, mask, .mk dst (.e o) none) (.mk t M c [] reads) = some (.mk (setT t dst v) (unprotect s2 M2) c2 [] reads) := by
    show d_e1 o (K Φ rd fn F) dst t c [] reads (protect mask reads F M []) = _
    rw [g1]
    show d_e2 F' dst t [] reads (s2 ++ []) (doE o (K Φ rd fn F') M' c t) = _
    rw [hd, List.append_nil]
    show (bif roFree M2 F' && true then (unprotect s2 M2).force fun M => (setT t dst v).force fun t => some (DS.mk t M c2 [] reads) else none) = _
    rw [(hg.ok ok').free]
    show ((unprotect s2 M2).force fun M => (setT t dst v).force fun t => some (DS.mk t M c2 [] reads)) = _
    rw [Tr.force_eq, Tr.force_eq]
  rw [wd_cons]
  have hle := hg.le
  exact ⟨_, he, hR _ ⟨hle, fun b hb => by rw [hun, if_pos hb], fun b hb => by rw [hun, if_neg (by omega)]; exact hg.new b hb⟩ (fun x hx => by rw [hun, if_neg (by omega)])⟩
theorem load1_lk {F' : RO} {M M' : Mem} (h : ∀ b, look F' M' b = look F M b) (b o : Nat) : load1 F' M' b o = load1 F M b o := by
  show asCells (look F' M' b) none (fun m d c => cell m d c o) = asCells (look F M b) none fun m d c => cell m d c o
  rw [h]
theorem SlAt.lk {F' : RO} {M M' : Mem} {c sz : Nat} {v : V} {es : List (List V)} (h : ∀ b, look F' M' b = look F M b) (hs : SlAt F M c sz v es) : SlAt F' M' c sz v es := by
  obtain ⟨h0, h1 | ⟨b, o, h1, h2, h3⟩⟩ := hs
  · exact ⟨h0, .inl h1⟩
  · exact ⟨h0, .inr ⟨b, o, h1, h2, fun k hk => by rw [load1_lk h]; exact h3 k hk⟩⟩
end
end Go.Proofs.YtaogopbhjinmoaaGreatDoor.Ev
namespace Go.Proofs.YtaogopbhjinmoaaGreatDoor.Ev
open Go
section
variable {Φ : Nat → Option CF} {rd : Option Nat} {fn : Nat} {F : RO}
end
end Go.Proofs.YtaogopbhjinmoaaGreatDoor.Ev
namespace Go.Proofs.YtaogopbhjinmoaaGreatDoor.Ev
open Go
section
variable {Φ : Nat → Option CF} {rd : Option Nat} {fn : Nat} {F : RO}
structure GrX (h : Nat → Prop) (c : Nat) (M : Mem) (c' : Nat) (M' : Mem) : Prop where
  le : c ≤ c'
  old : ∀ b, b < c → ¬ h b → M'.get b = M.get b
  new : ∀ b, c' ≤ b → M'.get b = none
theorem GrX.of {h : Nat → Prop} {c c' : Nat} {M M' : Mem} (g : Gr c M c' M') : GrX h c M c' M' := ⟨g.le, fun b hb _ => g.old b hb, g.new⟩
theorem GrX.trans {h : Nat → Prop} {M M1 M2 : Mem} {c c1 c2 : Nat} (g : GrX h c M c1 M1) (g2 : GrX h c1 M1 c2 M2) : GrX h c M c2 M2 :=
  ⟨Nat.le_trans g.le g2.le, fun b hb hn => (g2.old b (Nat.lt_of_lt_of_le hb g.le) hn).trans (g.old b hb hn), g2.new⟩
theorem GrX.gr {h : Nat → Prop} {M M1 : Mem} {c0 c c1 : Nat} (g : GrX h c M c1 M1) (h0 : c0 ≤ c) (hh : ∀ b, b < c0 → ¬ h b) : Gr c0 M c1 M1 :=
  ⟨Nat.le_trans h0 g.le, fun b hb => g.old b (by omega) (hh b hb), g.new⟩
theorem GrX.set {h : Nat → Prop} {M : Mem} {c b : Nat} (ok : Okm F M c) (hb : b < c) (hh : h b) (x : Blk) : GrX h c M c (M.set b x) :=
  ⟨Nat.le_refl _, fun b' _ hn => get_ne _ _ fun e => hn (by rw [e]; exact hh), fun b' hb' => by rw [get_ne _ _ (by omega)]; exact ok.hiM b' hb'⟩
theorem GrX.ok {h : Nat → Prop} {M M1 : Mem} {c c1 : Nat} (g : GrX h c M c1 M1) (ho : Okm F M c) (hh : ∀ b, b < c → h b → ∃ x, M.get b = some x) : Okm F M1 c1 := by
  refine ⟨g.new, fun b hb => ho.hiF b (Nat.le_trans g.le hb), fun b hb => ?_, Nat.le_trans ho.ge g.le⟩
  have hlt : b < c := by
    by_cases hc : b < c
    · exact hc
    · rw [ho.hiF b (by omega)] at hb; cases hb
  rw [g.old b hlt fun hx => ?_]
  · exact ho.ap b hb
  · obtain ⟨x, hx⟩ := hh b hlt hx
    rw [ho.ap b hb] at hx; cases hx
theorem protect_lkx {c : Nat} {h : Nat → Prop} (mask : Nat) : ∀ (reads : List (Nat × Nat)) (F : RO) (M : Mem) (s : List (Nat × Blk)), (∀ e ∈ reads, ¬ h e.2) → roFree M F = true → (∀ x, c ≤ x → M.get x = none) →
    ∃ F' M' s2, protect mask reads F M s = Pr.mk F' M' (s2 ++ s) ∧ roFree M' F' = true ∧ (∀ b, look F' M' b = look F M b) ∧ (∀ x, c ≤ x → M'.get x = none) ∧ (∀ x, (∀ e ∈ reads, e.2 ≠ x) → M'.get x = M.get x) ∧ ∀ N : Mem, (∀ x, x < c → ¬ h x → N.get x = M'.get x) → ∀ x, (x < c → ¬ h x → (unprotect s2 N).get x = M.get x) ∧ (c ≤ x ∨ h x → (unprotect s2 N).get x = N.get x)
  | [], F, M, s, _, h2, h3 => ⟨F, M, [], rfl, h2, fun _ => rfl, h3, fun _ _ => rfl, fun N hN x => ⟨fun h1 h2 => hN x h1 h2, fun _ => rfl⟩⟩
  | (i, x) :: r, F, M, s, hr, h2, h3 => by
    have hr' : ∀ e ∈ r, ¬ h e.2 := fun e he => hr e (List.mem_cons_of_mem _ he)
    rw [protect]
    cases ht : testBit mask i with
    | true =>
      obtain ⟨F', M', s2, g1, g2, g3, g4, g6, g5⟩ := protect_lkx mask r F M s hr' h2 h3
      exact ⟨F', M', s2, g1, g2, g3, g4, fun y hy => g6 y fun e he => hy e (List.mem_cons_of_mem _ he), g5⟩
    | false =>
      show ∃ F' M' s2, (match M.get x with | none => protect mask r F M s | some blk => (M.del x).force fun M => protect mask r ((x, blk) :: F) M ((x, blk) :: s)) = _ ∧ _
      cases hb : M.get x with
      | none =>
        obtain ⟨F', M', s2, g1, g2, g3, g4, g6, g5⟩ := protect_lkx mask r F M s hr' h2 h3
        exact ⟨F', M', s2, g1, g2, g3, g4, fun y hy => g6 y fun e he => hy e (List.mem_cons_of_mem _ he), g5⟩
      | some blk =>
        have hxc : x < c := by
          apply Classical.byContradiction
          intro hx
          rw [h3 x (by omega)] at hb; cases hb
        have hxh : ¬ h x := hr (i, x) (List.mem_cons_self ..)
        have hfr : roFree (M.del x) ((x, blk) :: F) = true := by
          rw [roFree_cons, Tr.get_del, if_pos rfl, roFree_del x h2]; rfl
        obtain ⟨F', M', s2, g1, g2, g3, g4, g6, g5⟩ := protect_lkx mask r ((x, blk) :: F) (M.del x) ((x, blk) :: s) hr' hfr (fun y hy => by rw [Tr.get_del]; split <;> first | rfl | exact h3 y hy)
        refine ⟨F', M', s2 ++ [(x, blk)], ?_, g2, fun b => ?_, g4, fun y hy => ?_, fun N hN z => ?_⟩
        · show ((M.del x).force fun M => protect mask r ((x, blk) :: F) M ((x, blk) :: s)) = _
          rw [Tr.force_eq, g1, List.append_assoc]; rfl
        · rw [g3]
          by_cases e : b = x
          · subst e
            rw [look_some_M hb, look_none_M (by rw [Tr.get_del, if_pos rfl]), roGet_cons, if_pos rfl]
          · cases hM : M.get b with
            | some y => rw [look_some_M hM, look_some_M (by rw [Tr.get_del, if_neg e]; exact hM)]
            | none => rw [look_none_M hM, look_none_M (by rw [Tr.get_del, if_neg e]; exact hM), roGet_cons, if_neg (fun h => e h.symm)]
        · rw [g6 y fun e he => hy e (List.mem_cons_of_mem _ he), Tr.get_del, if_neg (fun e => hy (i, x) (List.mem_cons_self ..) e.symm)]
        · have key : ∀ (s2 : List (Nat × Blk)) (N : Mem), unprotect (s2 ++ [(x, blk)]) N = (unprotect s2 N).set x blk := by
            intro s2
            induction s2 with
            | nil => intro N; show (N.set x blk).force (fun M => M) = _; rw [Tr.force_eq]; rfl
            | cons a s2 ih => intro N; show (N.set a.1 a.2).force (fun M => unprotect (s2 ++ [(x, blk)]) M) = _; rw [Tr.force_eq, ih]; show _ = ((N.set a.1 a.2).force fun M => unprotect s2 M).set x blk; rw [Tr.force_eq]
          obtain ⟨k1, k2⟩ := g5 N hN z
          rw [key, Tr.get_set]
          refine ⟨fun a1 a2 => ?_, fun a1 => ?_⟩
          · by_cases e1 : z = x
            · subst e1
              rw [if_pos rfl, hb]
            · rw [if_neg e1, k1 a1 a2, Tr.get_del, if_neg e1]
          · have e1 : ¬ z = x := by
              intro e
              rcases a1 with a1 | a1
              · omega
              · exact hxh (by rw [← e]; exact a1)
            rw [if_neg e1, k2 a1]
theorem wd_efx {hx : Nat → Prop} (base i mask : Nat) (dst : Option Pos) (o : EO) (r : List (Nat × Nat × CO)) (t : T) (M : Mem) (c : Nat) (reads : List (Nat × Nat)) (R : DS → Prop) (ok : Okm F M c) (hr : ∀ e ∈ reads, ¬ hx e.2) (hs : ∀ b, b < c → hx b → ∃ x, M.get b = some x)
    (h : ∀ F' M', Okm F' M' c → (∀ b, look F' M' b = look F M b) → (∀ b, (∀ e ∈ reads, e.2 ≠ b) → M'.get b = M.get b) → RTo (doE o (K Φ rd fn F') M' c t) fun v M2 c2 => GrX hx c M' c2 M2 ∧ ∀ M3, GrX hx c M c2 M3 → (∀ x, c ≤ x ∨ hx x → M3.get x = M2.get x) → WpD base r (K Φ rd fn F) (.mk (setT t dst v) M3 c2 [] reads) R) :
    WpD base ((i, mask, .mk dst (.e o) none) :: r) (K Φ rd fn F) (.mk t M c [] reads) R := by
  obtain ⟨F', M', s2, g1, g2, g3, g4, g6, g5⟩ := protect_lkx (c := c) (h := hx) mask reads F M [] hr ok.free ok.hiM
  have ok' : Okm F' M' c := by
    refine ⟨g4, fun b hb => ?_, fun b hb => ?_, ok.ge⟩
    · have := g3 b
      rw [look_none_M (g4 b hb), ok.look hb] at this
      exact this
    · have : ∃ blk, (b, blk) ∈ F' := by
        clear g1 g2 g3 g5 h
        induction F' with
        | nil => cases hb
        | cons a F' ih =>
          obtain ⟨k, z⟩ := a
          rw [roGet_cons] at hb
          split at hb
          · rename_i e; have e : k = b := e; exact ⟨z, by rw [e]; exact List.mem_cons_self ..⟩
          · obtain ⟨blk, hm⟩ := ih hb; exact ⟨blk, List.mem_cons_of_mem _ hm⟩
      obtain ⟨blk, hm⟩ := this
      exact roFree_iff F' g2 b blk hm
  obtain ⟨v, M2, c2, hd, hg, hR⟩ := h F' M' ok' g3 g6
  have hun := g5 M2 hg.old
  have ok2 : Okm F' M2 c2 := hg.ok ok' fun b hb hxb => by rw [g6 b fun e he e1 => hr e he (by rw [e1]; exact hxb)]; exact hs b hb hxb
  have he : dOp (K Φ rd fn F) base (i, mask, .mk dst (.e o) none) (.mk t M c [] reads) = some (.mk (setT t dst v) (unprotect s2 M2) c2 [] reads) := by
    show d_e1 o (K Φ rd fn F) dst t c [] reads (protect mask reads F M []) = _
    rw [g1]
    show d_e2 F' dst t [] reads (s2 ++ []) (doE o (K Φ rd fn F') M' c t) = _
    rw [hd, List.append_nil]
    show (bif roFree M2 F' && true then (unprotect s2 M2).force fun M => (setT t dst v).force fun t => some (DS.mk t M c2 [] reads) else none) = _
    rw [ok2.free]
    show ((unprotect s2 M2).force fun M => (setT t dst v).force fun t => some (DS.mk t M c2 [] reads)) = _
    rw [Tr.force_eq, Tr.force_eq]
  rw [wd_cons]
  have hle := hg.le
  refine ⟨_, he, hR _ ⟨hle, fun b hb hn => (hun b).1 hb hn, fun b hb => ?_⟩ fun x hx => (hun x).2 hx⟩
  rw [(hun b).2 (.inl (by omega))]; exact hg.new b hb
theorem appL_to {M : Mem} {c b n ty sz bytes : Nat} {y : V} {es ns : List (List V)} (h : SlAt F M c sz (.l b 0 n n) es) (hn : es.length = n) (hsz : 0 < sz) (hy : SlAt F M c sz y ns) (hne : ns ≠ []) (h1 : allOne ns.flatten = true) (hr : room (es.length + ns.length) bytes = true) :
    RTo (appV F M c ty sz bytes (.l b 0 n n) y) fun v' M' c' => c' = c + 1 ∧ M' = M.set c (rowU ty (es ++ ns).flatten) ∧ v' = .u c 0 (es ++ ns).length 0 (es ++ ns).length := by
  unfold appV
  rw [split_sl hsz hy]
  have hnl := flat_len hy.1
  have hn0 : ns.length ≠ 0 := fun e => hne (List.length_eq_zero_iff.1 e)
  have e1 : e_app1 F M c ty sz bytes (.l b 0 n n) (some (ns.length, ns.flatten)) = app_l F M c ty sz bytes b 0 n n ns.length ns.flatten := by
    show (bif allOne ns.flatten && Nat.beq ns.flatten.length (Nat.mul ns.length sz) then app F M c ty sz bytes (.l b 0 n n) ns.length ns.flatten else _) = _
    rw [h1, beqN, decide_eq_true (show ns.flatten.length = Nat.mul ns.length sz from hnl)]
    show (bif Nat.beq ns.length 0 then _ else _) = _
    rw [beqN, decide_eq_false hn0]; rfl
  have hcl : CellsAt F M b 0 es.flatten := by
    obtain ⟨h0, ⟨rfl, h2⟩ | ⟨b', o', hv, hb, hc⟩⟩ := h
    · intro k hk; cases hk
    · rcases hv with ⟨cap, _, hv⟩ | ⟨el, kn, _, hv⟩
      · injection hv with e1 e2; subst e1 e2; exact hc
      · cases hv
  obtain ⟨r, hrd⟩ := readB_of hsz h.1 hcl
  rw [hn] at hrd
  have e2 : app_l F M c ty sz bytes b 0 n n ns.length ns.flatten = grown M c ty bytes (es.length + ns.length) 0 false (es.flatten ++ ns.flatten) := by
    unfold app_l
    rw [bleN, decide_eq_false (show ¬ Nat.add n ns.length ≤ n by show ¬ n + ns.length ≤ n; omega), cond_false, hrd, ← hn]; rfl
  refine ⟨_, _, _, (e1.trans e2).trans (grown_eq M c ty bytes _ _ hr), rfl, by rw [List.flatten_append], by rw [List.length_append]⟩
end
end Go.Proofs.YtaogopbhjinmoaaGreatDoor.Ev
namespace Go.Proofs.YtaogopbhjinmoaaGreatDoor.Ev
open Go
def BW (b0 b1 : Blk) : Prop := b0 = b1 ∨ ∃ ty n ex fz str d0 d c0 c, b0 = .cells ty n ex fz str d0 c0 ∧ b1 = .cells ty n ex fz str d c ∧ ∀ k v, cell n d c k = some v → cell n d0 c0 k = some v
theorem BW.rel {P : Program} {E : Env} {b : Nat} {b0 b1 : Blk} (h : BW b0 b1) {o : Obj} (hr : BlkRel P E b b0 o) : BlkRel P E b b1 o := by
  rcases h with rfl | ⟨ty, n, ex, fz, str, d0, d, c0, c, rfl, rfl, h⟩
  · exact hr
  · obtain ⟨arr, fr, rfl, hc⟩ := hr
    exact ⟨arr, fr, rfl, fun k v hk => hc.cell k v (h k v hk), hc.size, hc.free, hc.plain⟩
theorem BW.bd {p : Nat → Prop} {b0 b1 : Blk} (h : BW b0 b1) (hb : bdBlk p b0) : bdBlk p b1 := by
  rcases h with rfl | ⟨ty, n, ex, fz, str, d0, d, c0, c, rfl, rfl, h⟩
  · exact hb
  · exact fun k v hk => hb k v (h k v hk)
def Weak (N0 N : Mem) : Prop := ∀ b blk, N.get b = some blk → ∃ b0, N0.get b = some b0 ∧ BW b0 blk
theorem Stp.weak {P : Program} {F : RO} {E E' : Env} {M N0 N : Mem} {c c' : Nat → Prop} {w w' : World} (h : Stp P F E M c w E' N0 c' w') (hw : Weak N0 N) : Stp P F E M c w E' N c' w' := by
  have hs : ∀ b blk, look F N b = some blk → ∃ b0, look F N0 b = some b0 ∧ BW b0 blk := by
    intro b blk hb
    cases hn : N.get b with
    | some x =>
      rw [look_some_M hn] at hb
      obtain rfl := Option.some.inj hb
      obtain ⟨b0, h0, h1⟩ := hw b _ hn
      exact ⟨b0, look_some_M h0, h1⟩
    | none =>
      rw [look_none_M hn] at hb
      exact ⟨blk, by rw [look_none_M (h.rel.apart b (by rw [hb]; rfl))]; exact hb, .inl rfl⟩
  have hs' : ∀ b, (look F N b).isSome → (look F N0 b).isSome := by
    intro b hb
    obtain ⟨x, hx⟩ := Option.isSome_iff_exists.1 hb
    obtain ⟨b0, h0, _⟩ := hs b x hx
    rw [h0]; rfl
  refine ⟨h.ext, h.le, ⟨?_, ?_, ?_⟩, ?_, h.frame, h.size, h.os, h.output, h.tape⟩
  · intro b blk hb
    obtain ⟨b0, h0, h1⟩ := hs b blk hb
    obtain ⟨g1, g2, o, g3, g4⟩ := h.rel.has b b0 h0
    exact ⟨g1, h1.bd g2, o, g3, h1.rel g4⟩
  · exact fun b b' h1 h2 e => h.rel.inj b b' (hs' b h1) (hs' b' h2) e
  · intro b hb
    cases hn : N.get b with
    | none => rfl
    | some x =>
      obtain ⟨b0, h0, _⟩ := hw b x hn
      rw [h.rel.apart b hb] at h0; cases h0
  · intro b hb
    obtain ⟨x, hx⟩ := Option.isSome_iff_exists.1 hb
    obtain ⟨b0, h0, _⟩ := hw b x hx
    exact h.own b (by rw [h0]; rfl)
theorem orc_weak {P : Program} {f : Nat} {g0 g : RO → List V → Mem → Nat → RC} (h0 : OrcOk P f g0)
    (h : ∀ F args M ct v N ct', g F args M ct = .k v N ct' → Wf F M ct args → ∃ N0, g0 F args M ct = .k v N0 ct' ∧ Weak N0 N) : OrcOk P f g := by
  intro F args M ct v N ct' hg E c w hr hglob hbig hf ha
  obtain ⟨N0, h1, h2⟩ := h F args M ct v N ct' hg (wf_of hr hbig hf ha)
  obtain ⟨fn, k1, k2, k3, hC⟩ := h0 F args M ct v N0 ct' h1 E c w hr hglob hbig hf ha
  refine ⟨fn, k1, k2, k3, hC.mono ?_⟩
  rintro e w' ⟨E', c', rfl, hS, hb, hG⟩
  exact ⟨E', c', rfl, hS.weak h2, hb, hG⟩
theorem orc_self {P : Program} (hm : P.follows .mixedOrders = true) {Φ : Nat → Option CF} (hΦ : PhiOk P Φ) {f : Nat} : OrcOk P f (fun F args M ct => callC (den Φ) F f args M ct (Φ f)) :=
  fun F args M ct v M' ct' h E c w hr hglob hbig hf ha => callOk_of (rd := none) (fn := 0) (F₀ := []) hΦ (den_ok hm hΦ) F f args M ct v M' ct' h E c w hr hglob hbig hf ha
theorem orc_of_weak {P : Program} (hm : P.follows .mixedOrders = true) {Φ : Nat → Option CF} (hΦ : PhiOk P Φ) {f : Nat} {g : RO → List V → Mem → Nat → RC}
    (h : ∀ F args M ct v N ct', g F args M ct = .k v N ct' → Wf F M ct args → ∃ N0, callC (den Φ) F f args M ct (Φ f) = .k v N0 ct' ∧ Weak N0 N) : OrcOk P f g :=
  orc_weak (orc_self hm hΦ) h
end Go.Proofs.YtaogopbhjinmoaaGreatDoor.Ev
namespace Go.Proofs.YtaogopbhjinmoaaGreatDoor.Ev
open Go
noncomputable section
mutual
def rnV (σ : Nat → Nat) : V → V
  | .p b o => .p (σ b) o
  | .l b o n k => .l (σ b) o n k
  | .a t v => .a t (rnV σ v)
  | .g l => .g (rnVs σ l)
  | .t l => .t (rnVs σ l)
  | .b x => .b x
  | .i k n => .i k n
  | .s n x => .s n x
  | .p0 => .p0
  | .l0 => .l0
  | .m0 => .m0
  | .f0 => .f0
  | .a0 => .a0
  | .u b o n e k => .u b o n e k
  | .ue b o n => .ue b o n
  | .m b => .m b
  | .y b => .y b
  | .f f a d => .f f a d
def rnVs (σ : Nat → Nat) : List V → List V
  | [] => []
  | x :: r => rnV σ x :: rnVs σ r
end
mutual
def inV (L : List Nat) : V → Bool
  | .p b _ => L.elem b
  | .l b _ _ _ => L.elem b
  | .a _ v => inV L v
  | .g l => inVs L l
  | .t l => inVs L l
  | .b _ => true
  | .i _ _ => true
  | .s _ _ => true
  | .p0 => true
  | .l0 => true
  | .m0 => true
  | .f0 => true
  | .a0 => true
  | .u _ _ _ _ _ => false
  | .ue _ _ _ => false
  | .m _ => false
  | .y _ => false
  | .f _ _ _ => false
def inVs (L : List Nat) : List V → Bool
  | [] => true
  | x :: r => inV L x && inVs L r
end
end
theorem rnVs_map (σ : Nat → Nat) : ∀ l, rnVs σ l = l.map (rnV σ)
  | [] => by rw [rnVs]; rfl
  | x :: r => by rw [rnVs, rnVs_map σ r]; rfl
theorem inVs_mem {L : List Nat} : ∀ {l}, inVs L l = true → ∀ x ∈ l, inV L x = true
  | [], _, x, hx => by cases hx
  | y :: r, h, x, hx => by
    rw [inVs] at h
    obtain ⟨h1, h2⟩ := an2 h
    rcases List.mem_cons.1 hx with rfl | hx
    · exact h1
    · exact inVs_mem h2 x hx
mutual
theorem rnV_conc {σ : Nat → Nat} {E E' : Env} {L : List Nat} {k : Nat → Prop} (h : ∀ b, b ∈ L → k b → E'.ρ (σ b) = E.ρ b ∧ E'.β (σ b) = E.β b) : ∀ v, inV L v = true → bd k v → conc E' (rnV σ v) = conc E v
  | .p b o, h1, h2 => by
    rw [inV] at h1
    obtain ⟨e1, e2⟩ := h b (by simpa using h1) h2
    rw [rnV]
    show Value.pointer (some ⟨E'.ρ (σ b), E'.β (σ b) + o, none⟩) = Value.pointer (some ⟨E.ρ b, E.β b + o, none⟩)
    rw [e1, e2]
  | .l b o n c, h1, h2 => by
    rw [inV] at h1
    obtain ⟨e1, e2⟩ := h b (by simpa using h1) h2
    rw [rnV]
    show Value.slice (some ⟨E'.ρ (σ b), E'.β (σ b) + o, none⟩) n c = Value.slice (some ⟨E.ρ b, E.β b + o, none⟩) n c
    rw [e1, e2]
  | .a t v, h1, h2 => by
    rw [inV] at h1
    rw [rnV]
    show Value.iface t (conc E' (rnV σ v)) = Value.iface t (conc E v)
    rw [rnV_conc h v h1 h2]
  | .g l, h1, h2 => by
    rw [inV] at h1
    rw [rnV]
    show Value.agg (concs E' (rnVs σ l)).toArray = Value.agg (concs E l).toArray
    rw [rnVs_conc h l h1 h2]
  | .t l, h1, h2 => by
    rw [inV] at h1
    rw [rnV]
    show Value.tuple (concs E' (rnVs σ l)).toArray = Value.tuple (concs E l).toArray
    rw [rnVs_conc h l h1 h2]
  | .b _, _, _ => by rw [rnV]; rfl
  | .i _ _, _, _ => by rw [rnV]; rfl
  | .s _ _, _, _ => by rw [rnV]; rfl
  | .p0, _, _ => by rw [rnV]; rfl
  | .l0, _, _ => by rw [rnV]; rfl
  | .m0, _, _ => by rw [rnV]; rfl
  | .f0, _, _ => by rw [rnV]; rfl
  | .a0, _, _ => by rw [rnV]; rfl
  | .u _ _ _ _ _, h1, _ => by rw [inV] at h1; cases h1
  | .ue _ _ _, h1, _ => by rw [inV] at h1; cases h1
  | .m _, h1, _ => by rw [inV] at h1; cases h1
  | .y _, h1, _ => by rw [inV] at h1; cases h1
  | .f _ _ _, h1, _ => by rw [inV] at h1; cases h1
theorem rnVs_conc {σ : Nat → Nat} {E E' : Env} {L : List Nat} {k : Nat → Prop} (h : ∀ b, b ∈ L → k b → E'.ρ (σ b) = E.ρ b ∧ E'.β (σ b) = E.β b) : ∀ l, inVs L l = true → bds k l → concs E' (rnVs σ l) = concs E l
  | [], _, _ => by rw [rnVs]; rfl
  | x :: r, h1, h2 => by
    rw [inVs] at h1
    obtain ⟨a1, a2⟩ := an2 h1
    rw [rnVs]
    show conc E' (rnV σ x) :: concs E' (rnVs σ r) = conc E x :: concs E r
    rw [rnV_conc h x a1 h2.1, rnVs_conc h r a2 h2.2]
end
mutual
theorem rnV_bd {σ : Nat → Nat} {L : List Nat} {k k' : Nat → Prop} (h : ∀ b, b ∈ L → k b → k' (σ b)) : ∀ v, inV L v = true → bd k v → bd k' (rnV σ v)
  | .p b o, h1, h2 => by
    rw [inV] at h1
    rw [rnV]
    exact h b (by simpa using h1) h2
  | .l b o n c, h1, h2 => by
    rw [inV] at h1
    rw [rnV]
    exact h b (by simpa using h1) h2
  | .a t v, h1, h2 => by
    rw [inV] at h1
    rw [rnV]
    exact rnV_bd h v h1 h2
  | .g l, h1, h2 => by
    rw [inV] at h1
    rw [rnV]
    exact rnVs_bd h l h1 h2
  | .t l, h1, h2 => by
    rw [inV] at h1
    rw [rnV]
    exact rnVs_bd h l h1 h2
  | .b _, _, _ => by rw [rnV]; trivial
  | .i _ _, _, _ => by rw [rnV]; trivial
  | .s _ _, _, _ => by rw [rnV]; trivial
  | .p0, _, _ => by rw [rnV]; trivial
  | .l0, _, _ => by rw [rnV]; trivial
  | .m0, _, _ => by rw [rnV]; trivial
  | .f0, _, _ => by rw [rnV]; trivial
  | .a0, _, _ => by rw [rnV]; trivial
  | .u _ _ _ _ _, h1, _ => by rw [inV] at h1; cases h1
  | .ue _ _ _, h1, _ => by rw [inV] at h1; cases h1
  | .m _, h1, _ => by rw [inV] at h1; cases h1
  | .y _, h1, _ => by rw [inV] at h1; cases h1
  | .f _ _ _, h1, _ => by rw [inV] at h1; cases h1
theorem rnVs_bd {σ : Nat → Nat} {L : List Nat} {k k' : Nat → Prop} (h : ∀ b, b ∈ L → k b → k' (σ b)) : ∀ l, inVs L l = true → bds k l → bds k' (rnVs σ l)
  | [], _, _ => by rw [rnVs]; trivial
  | x :: r, h1, h2 => by
    rw [inVs] at h1
    obtain ⟨a1, a2⟩ := an2 h1
    rw [rnVs]
    exact ⟨rnV_bd h x a1 h2.1, rnVs_bd h r a2 h2.2⟩
end
mutual
theorem rnV_db {σ : Nat → Nat} {L : List Nat} {k k' : Nat → Prop} (h : ∀ b, b ∈ L → k' (σ b) → k b) : ∀ v, inV L v = true → bd k' (rnV σ v) → bd k v
  | .p b o, h1, h2 => by
    rw [inV] at h1
    rw [rnV] at h2
    exact h b (by simpa using h1) h2
  | .l b o n c, h1, h2 => by
    rw [inV] at h1
    rw [rnV] at h2
    exact h b (by simpa using h1) h2
  | .a t v, h1, h2 => by
    rw [inV] at h1
    rw [rnV] at h2
    exact rnV_db h v h1 h2
  | .g l, h1, h2 => by
    rw [inV] at h1
    rw [rnV] at h2
    exact rnVs_db h l h1 h2
  | .t l, h1, h2 => by
    rw [inV] at h1
    rw [rnV] at h2
    exact rnVs_db h l h1 h2
  | .b _, _, _ => trivial
  | .i _ _, _, _ => trivial
  | .s _ _, _, _ => trivial
  | .p0, _, _ => trivial
  | .l0, _, _ => trivial
  | .m0, _, _ => trivial
  | .f0, _, _ => trivial
  | .a0, _, _ => trivial
  | .u _ _ _ _ _, h1, _ => by rw [inV] at h1; cases h1
  | .ue _ _ _, h1, _ => by rw [inV] at h1; cases h1
  | .m _, h1, _ => by rw [inV] at h1; cases h1
  | .y _, h1, _ => by rw [inV] at h1; cases h1
  | .f _ _ _, h1, _ => by rw [inV] at h1; cases h1
theorem rnVs_db {σ : Nat → Nat} {L : List Nat} {k k' : Nat → Prop} (h : ∀ b, b ∈ L → k' (σ b) → k b) : ∀ l, inVs L l = true → bds k' (rnVs σ l) → bds k l
  | [], _, _ => trivial
  | x :: r, h1, h2 => by
    rw [inVs] at h1
    obtain ⟨a1, a2⟩ := an2 h1
    rw [rnVs] at h2
    exact ⟨rnV_db h x a1 h2.1, rnVs_db h r a2 h2.2⟩
end
theorem bds_getE {k : Nat → Prop} : ∀ {l : List V}, bds k l → ∀ (i : Nat) (v : V), l[i]? = some v → bd k v
  | [], _, i, v, h => by cases i <;> cases h
  | x :: r, h, 0, v, e => by
    obtain rfl : x = v := by simpa using e
    exact h.1
  | x :: r, h, i + 1, v, e => bds_getE h.2 i v (by simpa using e)
theorem bds_of_row {k : Nat → Prop} {ty : Nat} : ∀ {l : List V}, bdBlk k (rowB ty l) → bds k l := by
  intro l h
  have h' : ∀ i v, cell l.length [] (rowT l) i = some v → bd k v := h
  have key : ∀ m : List V, (∀ x ∈ m, bd k x) → bds k m := by
    intro m
    induction m with
    | nil => intro _; trivial
    | cons x r ih => intro hm; exact ⟨hm x (List.mem_cons_self ..), ih fun y hy => hm y (List.mem_cons_of_mem _ hy)⟩
  refine key l fun x hx => ?_
  obtain ⟨i, hi, rfl⟩ := List.mem_iff_getElem.1 hx
  exact h' i _ (by rw [cell_row, List.getElem?_eq_getElem hi])
theorem row_of_bds {k : Nat → Prop} {ty : Nat} {l : List V} (h : bds k l) : bdBlk k (rowB ty l) := by
  intro i v hv
  rw [cell_row] at hv
  exact bds_getE h i v hv
theorem rn_row {P : Program} {σ : Nat → Nat} {E E' : Env} {L : List Nat} {k : Nat → Prop} (h : ∀ b, b ∈ L → k b → E'.ρ (σ b) = E.ρ b ∧ E'.β (σ b) = E.β b) {b b' ty : Nat} {l : List V} (hl : inVs L l = true) (hb : bds k l) {o : Obj} (hr : BlkRel P E b (rowB ty l) o) (hβ : E'.β b' = E.β b) : BlkRel P E' b' (rowB ty (rnVs σ l)) o := by
  obtain ⟨arr, fr, rfl, hc⟩ := hr
  have hlen : (rnVs σ l).length = l.length := by rw [rnVs_map, List.length_map]
  refine ⟨arr, fr, rfl, ⟨fun i v hv => ?_, ?_, ?_, fun h => (hc.plain h).imp id fun h => absurd rfl h.1⟩⟩
  · rw [cell_row, rnVs_map, List.getElem?_map] at hv
    cases hi : l[i]? with
    | none => rw [hi] at hv; cases hv
    | some x =>
      rw [hi] at hv
      obtain rfl := Option.some.inj hv
      rw [hβ, rnV_conc h x (inVs_mem hl x (List.mem_of_getElem? hi)) (bds_getE hb i x hi)]
      exact hc.cell i x (by rw [cell_row]; exact hi)
  · rw [hlen, hβ]; exact hc.size
  · rw [hβ]; exact hc.free
theorem nr_row {P : Program} {σ : Nat → Nat} {E E' : Env} {L : List Nat} {k : Nat → Prop} (h : ∀ b, b ∈ L → k b → E'.ρ (σ b) = E.ρ b ∧ E'.β (σ b) = E.β b) {b b' ty : Nat} {l : List V} (hl : inVs L l = true) (hb : bds k l) {o : Obj} (hr : BlkRel P E' b' (rowB ty (rnVs σ l)) o) (hβ : E'.β b' = E.β b) : BlkRel P E b (rowB ty l) o := by
  obtain ⟨arr, fr, rfl, hc⟩ := hr
  have hlen : (rnVs σ l).length = l.length := by rw [rnVs_map, List.length_map]
  refine ⟨arr, fr, rfl, ⟨fun i v hv => ?_, ?_, ?_, fun h => (hc.plain h).imp id fun h => absurd rfl h.1⟩⟩
  · rw [cell_row] at hv
    rw [← hβ, ← rnV_conc h v (inVs_mem hl v (List.mem_of_getElem? hv)) (bds_getE hb i v hv)]
    exact hc.cell i _ (by rw [cell_row, rnVs_map, List.getElem?_map, hv]; rfl)
  · have := hc.size
    rw [hlen, hβ] at this
    exact this
  · have := hc.free
    rw [hβ] at this
    exact this
end Go.Proofs.YtaogopbhjinmoaaGreatDoor.Ev
namespace Go.Proofs.YtaogopbhjinmoaaGreatDoor.Ev
open Go
noncomputable section
structure Rn where
  c : Nat
  old : List Nat
  nw : List Nat
  args : List V
  m0 : List (Nat × Nat × List V)
  v : V
  m1 : List (Nat × Nat × List V)
def lk : List Nat → List Nat → Nat → Option Nat
  | [], _, _ => none
  | a :: r, s, x => match s with | [] => none | b :: s => bif Nat.beq x a then some b else lk r s x
def upN (ct : Nat) : Nat → List Nat
  | 0 => []
  | n + 1 => ct :: upN (ct + 1) n
def Rn.sg (r : Rn) (ns : List Nat) (ct x : Nat) : Nat := match lk r.old ns x with
  | some b => b
  | none => match lk r.nw (upN ct r.nw.length) x with
    | some b => b
    | none => x
def rowsB (l : List (Nat × Nat × List V)) : List (Nat × Blk) := l.map fun x => (x.1, rowB x.2.1 x.2.2)
def setR (σ : Nat → Nat) : List (Nat × Nat × List V) → Mem → Mem
  | [], M => M
  | (b, ty, l) :: r, M => setR σ r (M.set (σ b) (rowB ty (rnVs σ l)))
def nodB : List Nat → Bool
  | [] => true
  | a :: r => !r.elem a && nodB r
def Rn.chk (r : Rn) : Bool :=
  ((Nat.ble 1000 r.c && (r.old.all (fun b => Nat.ble 1000 b && Nat.blt b r.c) && r.nw.all (fun b => Nat.ble r.c b))) && (nodB r.old && nodB r.nw)) &&
  ((inVs r.old r.args && (r.m0.all (fun x => r.old.elem x.1 && inVs r.old x.2.2) && nodB (r.m0.map (·.1)))) &&
  ((inV (r.old ++ r.nw) r.v && r.m1.all (fun x => ((r.m0.map (·.1)) ++ r.nw).elem x.1 && inVs (r.old ++ r.nw) x.2.2)) && (nodB (r.m1.map (·.1)) && r.m0.all (fun x => (r.m1.map (·.1)).elem x.1))))
def rnChk (r : Rn) : RC → Bool
  | .k v M _ => veq r.v v && holds M (rowsB r.m1)
  | .f => false
def rnRun (Φ : Nat → Option CF) (fuel f : Nat) (r : Rn) : Bool := r.chk && rnChk r (callC (exec Φ fuel) [] f r.args (setAll .e (rowsB r.m0)) r.c (Φ f))
structure Rn.At (r : Rn) (ns : List Nat) (args : List V) (M : Mem) (ct : Nat) : Prop where
  len : ns.length = r.old.length
  nod : ns.Nodup
  args : args = rnVs (r.sg ns ct) r.args
  m0 : ∀ x ∈ r.m0, M.get (r.sg ns ct x.1) = some (rowB x.2.1 (rnVs (r.sg ns ct) x.2.2))
open Classical in
def rnO (pick : List V → Mem → Option (Rn × List Nat)) (_ : RO) (args : List V) (M : Mem) (ct : Nat) : RC := match pick args M with
  | none => .f
  | some (r, ns) => if r.At ns args M ct then .k (rnV (r.sg ns ct) r.v) (setR (r.sg ns ct) r.m1 M) (ct + r.nw.length) else .f
end
theorem nodB_nd : ∀ {l : List Nat}, nodB l = true → l.Nodup
  | [], _ => List.nodup_nil
  | a :: r, h => by
    obtain ⟨h1, h2⟩ := an2 (show (!r.elem a && nodB r) = true from h)
    refine List.nodup_cons.2 ⟨?_, nodB_nd h2⟩
    intro hm
    rw [show r.elem a = true by simpa using hm] at h1
    cases h1
theorem beqF {a b : Nat} (h : a ≠ b) : Nat.beq a b = false := by
  cases hb : Nat.beq a b with
  | false => rfl
  | true => exact absurd (nbeq hb) h
theorem lk_none : ∀ {l s : List Nat} {x : Nat}, x ∉ l → lk l s x = none
  | [], _, _, _ => rfl
  | a :: r, [], x, h => rfl
  | a :: r, b :: s, x, h => by
    have h1 : x ≠ a := fun e => h (e ▸ List.mem_cons_self ..)
    show (bif Nat.beq x a then some b else lk r s x) = none
    rw [show Nat.beq x a = false from beqF h1]
    exact lk_none fun hm => h (List.mem_cons_of_mem _ hm)
theorem lk_at : ∀ {l s : List Nat} (hl : s.length = l.length) (hn : l.Nodup) (i : Nat) (h : i < l.length), lk l s l[i] = some (s[i]'(by omega))
  | [], _, _, _, i, h => by cases h
  | a :: r, [], hl, _, _, _ => by cases hl
  | a :: r, b :: s, hl, hn, 0, h => by
    show (bif Nat.beq a a then some b else lk r s a) = some b
    rw [Nat.beq_refl]; rfl
  | a :: r, b :: s, hl, hn, i + 1, h => by
    have hi : i < r.length := by simpa using h
    have h1 : r[i] ≠ a := fun e => (List.nodup_cons.1 hn).1 (e ▸ List.getElem_mem hi)
    show (bif Nat.beq r[i] a then some b else lk r s r[i]) = some (s[i]'_)
    rw [show Nat.beq r[i] a = false from beqF h1]
    exact lk_at (by simpa using hl) (List.nodup_cons.1 hn).2 i hi
theorem upN_len : ∀ (n ct : Nat), (upN ct n).length = n
  | 0, _ => rfl
  | n + 1, ct => by show (upN (ct + 1) n).length + 1 = n + 1; rw [upN_len]
theorem upN_at : ∀ (n ct i : Nat) (h : i < (upN ct n).length), (upN ct n)[i] = ct + i
  | 0, _, i, h => by cases h
  | n + 1, ct, 0, h => rfl
  | n + 1, ct, i + 1, h => by
    have h' : i < (upN (ct + 1) n).length := by simpa [upN] using h
    show (upN (ct + 1) n)[i] = _
    rw [upN_at n (ct + 1) i h']; omega
section
variable {r : Rn} {ns : List Nat} {ct : Nat}
theorem sg_old (hl : ns.length = r.old.length) (hn : r.old.Nodup) (i : Nat) (h : i < r.old.length) : r.sg ns ct r.old[i] = ns[i]'(by omega) := by
  unfold Rn.sg
  rw [lk_at hl hn i h]
theorem sg_nw (hn : r.nw.Nodup) (hd : ∀ b ∈ r.nw, b ∉ r.old) (i : Nat) (h : i < r.nw.length) : r.sg ns ct r.nw[i] = ct + i := by
  unfold Rn.sg
  rw [lk_none (hd _ (List.getElem_mem h)), lk_at (upN_len _ _) hn i h]
  exact upN_at _ _ _ _
theorem setR_get {σ : Nat → Nat} : ∀ (l : List (Nat × Nat × List V)) (M : Mem) (b : Nat) (blk : Blk), (setR σ l M).get b = some blk → (∃ x ∈ l, b = σ x.1 ∧ blk = rowB x.2.1 (rnVs σ x.2.2)) ∨ (M.get b = some blk ∧ ∀ x ∈ l, σ x.1 ≠ b)
  | [], M, b, blk, h => .inr ⟨h, fun x hx => by cases hx⟩
  | (b', ty, l') :: r, M, b, blk, h => by
    rcases setR_get r _ b blk h with ⟨x, hx, h1, h2⟩ | ⟨h1, h2⟩
    · exact .inl ⟨x, List.mem_cons_of_mem _ hx, h1, h2⟩
    · rw [Tr.get_set] at h1
      split at h1
      · rename_i e
        exact .inl ⟨(b', ty, l'), List.mem_cons_self .., e, (Option.some.inj h1).symm⟩
      · rename_i e
        refine .inr ⟨h1, fun x hx => ?_⟩
        rcases List.mem_cons.1 hx with rfl | hx
        · exact fun e' => e e'.symm
        · exact h2 x hx
theorem setR_dom {σ : Nat → Nat} : ∀ (l : List (Nat × Nat × List V)) (M : Mem) (b : Nat), (M.get b).isSome → ((setR σ l M).get b).isSome
  | [], M, b, h => h
  | (b', ty, l') :: r, M, b, h => setR_dom r _ b (by rw [Tr.get_set]; split <;> first | rfl | exact h)
end
theorem rowsB_mem {l : List (Nat × Nat × List V)} {b : Nat} {blk : Blk} (h : (b, blk) ∈ rowsB l) : ∃ x ∈ l, x.1 = b ∧ blk = rowB x.2.1 x.2.2 := by
  obtain ⟨x, hx, e⟩ := List.mem_map.1 h
  injection e with e1 e2
  exact ⟨x, hx, e1, e2.symm⟩
end Go.Proofs.YtaogopbhjinmoaaGreatDoor.Ev
namespace Go.Proofs.YtaogopbhjinmoaaGreatDoor.Ev
open Go
theorem orc_rn {P : Program} (hm : P.follows .mixedOrders = true) {Φ : Nat → Option CF} (hΦ : PhiOk P Φ) {fuel f : Nat} {pick : List V → Mem → Option (Rn × List Nat)} (hp : ∀ args M r ns, pick args M = some (r, ns) → rnRun Φ fuel f r = true) : OrcOk P f (rnO pick) := by
  intro F args M ct v N ct' hg E c w hr hglob hbig hf ha
  unfold rnO at hg
  split at hg
  · cases hg
  rename_i r ns hpk
  split at hg
  rotate_left
  · cases hg
  rename_i hA
  obtain ⟨hlen, hnod, hargs, hAm⟩ := hA
  injection hg with e1 e2 e3
  subst e1 e2 e3
  obtain ⟨hchk, hrun⟩ := an2 (hp args M r ns hpk)
  obtain ⟨q1, q2⟩ := an2 hchk
  obtain ⟨q1, q3⟩ := an2 q1
  obtain ⟨q1, q4⟩ := an2 q1
  obtain ⟨q4, q5⟩ := an2 q4
  obtain ⟨q3, q6⟩ := an2 q3
  obtain ⟨q2, q7⟩ := an2 q2
  obtain ⟨q2, q8⟩ := an2 q2
  obtain ⟨q8, q9⟩ := an2 q8
  obtain ⟨q7, q10⟩ := an2 q7
  obtain ⟨q7, q11⟩ := an2 q7
  obtain ⟨q10, q12⟩ := an2 q10
  have hc1000 : 1000 ≤ r.c := Nat.le_of_ble_eq_true q1
  have hold : ∀ b ∈ r.old, 1000 ≤ b ∧ b < r.c := fun b hb => by
    obtain ⟨x1, x2⟩ := an2 (List.all_eq_true.1 q4 b hb)
    exact ⟨Nat.le_of_ble_eq_true x1, Nat.le_of_ble_eq_true x2⟩
  have hnw : ∀ b ∈ r.nw, r.c ≤ b := fun b hb => Nat.le_of_ble_eq_true (List.all_eq_true.1 q5 b hb)
  have nold := nodB_nd q3
  have nnw := nodB_nd q6
  have hd : ∀ b ∈ r.nw, b ∉ r.old := fun b h1 h2 => by have := hnw b h1; have := hold b h2; omega
  generalize hσ : r.sg ns ct = σ at *
  have sO : ∀ b ∈ r.old, ∃ (i : Nat) (h : i < r.old.length), b = r.old[i] ∧ σ b = ns[i]'(by rw [hlen]; exact h) := fun b hb => by
    obtain ⟨i, hi, e⟩ := List.mem_iff_getElem.1 hb
    exact ⟨i, hi, e.symm, by rw [← e, ← hσ]; exact sg_old hlen nold i hi⟩
  have sN : ∀ b ∈ r.nw, ∃ (i : Nat) (h : i < r.nw.length), b = r.nw[i] ∧ σ b = ct + i := fun b hb => by
    obtain ⟨i, hi, e⟩ := List.mem_iff_getElem.1 hb
    exact ⟨i, hi, e.symm, by rw [← e, ← hσ]; exact sg_nw nnw hd i hi⟩
  have injO : ∀ b ∈ r.old, ∀ b' ∈ r.old, σ b = σ b' → b = b' := by
    intro b hb b' hb' e
    obtain ⟨i, hi, e1, e2⟩ := sO b hb
    obtain ⟨j, hj, e3, e4⟩ := sO b' hb'
    have : i = j := (List.getElem_inj hnod).1 (e2.symm.trans (e.trans e4))
    subst this
    rw [e1, e3]
  have hlt : ∀ b, c b → b < ct := fun b hb => Nat.lt_of_not_le fun h' => hf b h' hb
  let k0 : Nat → Prop := fun b => b < 1000 ∨ (b ∈ r.old ∧ c (σ b))
  let Eσ : Env := ⟨fun b => E.ρ (σ b), fun b => E.β (σ b), fun b => E.κ (σ b)⟩
  have hσg : ∀ g, g < 1000 → σ g = g := fun g hg => by
    rw [← hσ]
    unfold Rn.sg
    rw [lk_none (fun h => by have := hold g h; omega), lk_none (fun h => by have := hnw g h; omega)]
  have hEσ : ∀ (L : List Nat) (k : Nat → Prop) (b : Nat), b ∈ L → k b → E.ρ (σ b) = Eσ.ρ b ∧ E.β (σ b) = Eσ.β b := fun L k b _ _ => ⟨rfl, rfl⟩
  have hm0 : ∀ x ∈ r.m0, x.1 ∈ r.old ∧ inVs r.old x.2.2 = true ∧ M.get (σ x.1) = some (rowB x.2.1 (rnVs σ x.2.2)) := fun x hx => by
    obtain ⟨y1, y2⟩ := an2 (List.all_eq_true.1 q8 x hx)
    have y1 : r.old.elem x.1 = true := y1
    exact ⟨by simpa using y1, y2, hAm x hx⟩
  have hget0 : ∀ b blk, (setAll .e (rowsB r.m0)).get b = some blk → ∃ x ∈ r.m0, x.1 = b ∧ blk = rowB x.2.1 x.2.2 := fun b blk h => by
    rcases setAll_get _ _ _ _ h with h1 | ⟨h1, _⟩
    · exact rowsB_mem h1
    · cases h1
  have hR0 : Rel P Eσ [] (setAll .e (rowsB r.m0)) k0 w := by
    refine ⟨?_, ?_, fun b hb => by cases hb⟩
    · intro b blk hb
      cases hn : (setAll .e (rowsB r.m0)).get b with
      | none => rw [look_none_M hn] at hb; cases hb
      | some x0 =>
        rw [look_some_M hn] at hb
        obtain rfl := Option.some.inj hb
        obtain ⟨x, hx, rfl, rfl⟩ := hget0 _ _ hn
        obtain ⟨y1, y2, y3⟩ := hm0 x hx
        obtain ⟨z1, z2, o, z3, z4⟩ := hr.has _ _ (look_some_M y3)
        have hb0 : bds k0 x.2.2 := rnVs_db (L := r.old) (fun b h1 h2 => .inr ⟨h1, h2⟩) _ y2 (bds_of_row z2)
        exact ⟨.inr ⟨y1, z1⟩, row_of_bds hb0, o, z3, nr_row (σ := σ) (E := Eσ) (E' := E) (b := x.1) (k := k0) (L := r.old) (fun b _ _ => ⟨rfl, rfl⟩) y2 hb0 z4 rfl⟩
    · intro b b' h1 h2 e
      have g1 : ∃ x ∈ r.m0, x.1 = b := by
        obtain ⟨y, hy⟩ := Option.isSome_iff_exists.1 h1
        cases hn : (setAll .e (rowsB r.m0)).get b with
        | none => rw [look_none_M hn] at hy; cases hy
        | some x0 => obtain ⟨x, hx, h3, _⟩ := hget0 _ _ hn; exact ⟨x, hx, h3⟩
      have g2 : ∃ x ∈ r.m0, x.1 = b' := by
        obtain ⟨y, hy⟩ := Option.isSome_iff_exists.1 h2
        cases hn : (setAll .e (rowsB r.m0)).get b' with
        | none => rw [look_none_M hn] at hy; cases hy
        | some x0 => obtain ⟨x, hx, h3, _⟩ := hget0 _ _ hn; exact ⟨x, hx, h3⟩
      obtain ⟨x, hx, rfl⟩ := g1
      obtain ⟨x', hx', rfl⟩ := g2
      obtain ⟨y1, _, y3⟩ := hm0 x hx
      obtain ⟨y1', _, y3'⟩ := hm0 x' hx'
      exact injO _ y1 _ y1' (hr.inj _ _ (look_isSome_M (by rw [y3]; rfl)) (look_isSome_M (by rw [y3']; rfl)) e)
  have hg0 : ∀ g, g < 1000 → Eσ.ρ g = g ∧ Eσ.β g = 0 := fun g hg => by
    show E.ρ (σ g) = g ∧ E.β (σ g) = 0
    rw [hσg g hg]; exact hglob g hg
  have hf0 : Fresh k0 r.c := fun b hb h => by
    rcases h with h | ⟨h, _⟩
    · omega
    · have := hold b h; omega
  have ha0 : bds k0 r.args := rnVs_db (L := r.old) (fun b h1 h2 => .inr ⟨h1, h2⟩) _ q2 (by rw [← hargs]; exact ha)
  cases hx : callC (exec Φ fuel) [] f r.args (setAll .e (rowsB r.m0)) r.c (Φ f) with
  | f => rw [hx] at hrun; cases hrun
  | k v1 M1 c1 =>
  rw [hx] at hrun
  obtain ⟨p1, p2⟩ := an2 (show (veq r.v v1 && holds M1 (rowsB r.m1)) = true from hrun)
  obtain rfl := veq_eq _ _ p1
  obtain ⟨fn, h1, h2, h3, hC⟩ := callOk_of (rd := none) (fn := 0) (F₀ := []) hΦ (exec_sound hm hΦ fuel) [] f r.args _ r.c _ M1 c1 hx Eσ k0 w hR0 hg0 (fun g hg => .inl hg) hf0 ha0
  have hcs : concs Eσ r.args = concs E args := by
    rw [hargs]; exact (rnVs_conc (L := r.old) (k := k0) (E := Eσ) (E' := E) (fun b _ _ => ⟨rfl, rfl⟩) _ q2 ha0).symm
  rw [hcs] at hC
  refine ⟨fn, h1, h2, h3, hC.mono ?_⟩
  rintro e w' ⟨E1, k1, rfl, hS, hbv, hG⟩
  have hm1 : ∀ x ∈ r.m1, (x.1 ∈ r.m0.map (·.1) ∨ x.1 ∈ r.nw) ∧ inVs (r.old ++ r.nw) x.2.2 = true ∧ M1.get x.1 = some (rowB x.2.1 x.2.2) := fun x hx => by
    obtain ⟨y1, y2⟩ := an2 (List.all_eq_true.1 q11 x hx)
    have y1 : (r.m0.map (·.1) ++ r.nw).elem x.1 = true := y1
    exact ⟨List.mem_append.1 (by simpa using y1), y2, holds_mem p2 _ _ (List.mem_map.2 ⟨x, hx, rfl⟩)⟩
  have hm01 : ∀ x ∈ r.m0, x.1 ∈ r.m1.map (·.1) := fun x hx => by
    have y1 : (r.m1.map (·.1)).elem x.1 = true := List.all_eq_true.1 q12 x hx
    simpa using y1
  have m0old : ∀ b, b ∈ r.m0.map (·.1) → b ∈ r.old := fun b hb => by
    obtain ⟨x, hx, rfl⟩ := List.mem_map.1 hb
    exact (hm0 x hx).1
  let E2 : Env := ⟨fun b => if b < ct then E.ρ b else E1.ρ (r.nw.getD (b - ct) 0), fun b => if b < ct then E.β b else E1.β (r.nw.getD (b - ct) 0), fun b => if b < ct then E.κ b else E1.κ (r.nw.getD (b - ct) 0)⟩
  let c2 : Nat → Prop := fun b => c b ∨ (ct ≤ b ∧ b < ct + r.nw.length ∧ k1 (r.nw.getD (b - ct) 0))
  have hE2 : Ext c E E2 := ⟨fun b hb => if_pos (hlt b hb), fun b hb => if_pos (hlt b hb), fun b hb => if_pos (hlt b hb)⟩
  have hcc : ∀ b, c b → c2 b := fun b hb => .inl hb
  have k1old : ∀ b, b ∈ r.old → k1 b → c (σ b) := fun b hb h => by
    rcases hG.new b h with h | h
    · rcases h with h | h
      · have := hold b hb; omega
      · exact h.2
    · have := hold b hb; omega
  have hnm : ∀ b, b ∈ r.old ++ r.nw → k1 b → (E2.ρ (σ b) = E1.ρ b ∧ E2.β (σ b) = E1.β b) := fun b hb hk => by
    rcases List.mem_append.1 hb with h | h
    · have hc := k1old b h hk
      have hl := hlt _ hc
      refine ⟨?_, ?_⟩
      · show (if σ b < ct then E.ρ (σ b) else _) = _
        rw [if_pos hl]; exact (hS.ext.ρ b (.inr ⟨h, hc⟩)).symm
      · show (if σ b < ct then E.β (σ b) else _) = _
        rw [if_pos hl]; exact (hS.ext.β b (.inr ⟨h, hc⟩)).symm
    · obtain ⟨i, hi, e1, e2⟩ := sN b h
      have hg : r.nw.getD (ct + i - ct) 0 = b := by rw [show ct + i - ct = i by omega, List.getD_eq_getElem?_getD, List.getElem?_eq_getElem hi]; exact e1.symm
      refine ⟨?_, ?_⟩
      · show (if σ b < ct then _ else E1.ρ (r.nw.getD (σ b - ct) 0)) = _
        rw [e2, if_neg (by omega), hg]
      · show (if σ b < ct then _ else E1.β (r.nw.getD (σ b - ct) 0)) = _
        rw [e2, if_neg (by omega), hg]
  have hcn : ∀ b, b ∈ r.old ++ r.nw → k1 b → c2 (σ b) := fun b hb hk => by
    rcases List.mem_append.1 hb with h | h
    · exact .inl (k1old b h hk)
    · obtain ⟨i, hi, e1, e2⟩ := sN b h
      refine .inr ⟨by omega, by omega, ?_⟩
      rw [e2, show ct + i - ct = i by omega, List.getD_eq_getElem?_getD, List.getElem?_eq_getElem hi, ← e1]; exact hk
  have sub : ∀ b, (b ∈ r.m0.map (·.1) ∨ b ∈ r.nw) → b ∈ r.old ++ r.nw := fun b hb => List.mem_append.2 (hb.imp (m0old b) id)
  have hN : ∀ b blk, look F (setR σ r.m1 M) b = some blk → (∃ x ∈ r.m1, b = σ x.1 ∧ blk = rowB x.2.1 (rnVs σ x.2.2)) ∨ (look F M b = some blk ∧ ∀ x ∈ r.m1, σ x.1 ≠ b) := by
    intro b blk hb
    cases hn : (setR σ r.m1 M).get b with
    | some y =>
      rw [look_some_M hn] at hb
      obtain rfl := Option.some.inj hb
      rcases setR_get _ _ _ _ hn with h | ⟨h, h'⟩
      · exact .inl h
      · exact .inr ⟨look_some_M h, h'⟩
    | none =>
      rw [look_none_M hn] at hb
      have hmn : M.get b = none := hr.apart b (by rw [hb]; rfl)
      refine .inr ⟨by rw [look_none_M hmn]; exact hb, fun x hx e => ?_⟩
      have : ∀ (l : List (Nat × Nat × List V)) (M : Mem), x ∈ l → ((setR σ l M).get b).isSome := by
        intro l
        induction l with
        | nil => intro _ h; cases h
        | cons y l ih =>
          intro M h
          rcases List.mem_cons.1 h with rfl | h
          · exact setR_dom l _ b (by rw [Tr.get_set, if_pos e.symm]; rfl)
          · exact ih _ h
      have := this r.m1 M hx
      rw [hn] at this; cases this
  have oldB : ∀ b blk, look F M b = some blk → (∀ x ∈ r.m1, σ x.1 ≠ b) → c b ∧ bdBlk c blk ∧ E2.ρ b = E.ρ b ∧ ∃ o, w'.heap[E.ρ b]? = some o ∧ BlkRel P E2 b blk o := by
    intro b blk hb hx
    obtain ⟨g1, g2, o, ho, g3⟩ := hr.has b blk hb
    refine ⟨g1, g2, hE2.ρ b g1, o, ?_, g3.ext hE2 g1 g2⟩
    rw [hS.frame _ (Array.getElem?_eq_some_iff.1 ho).1, ho]
    intro b0 hb0 e0
    obtain ⟨y, hy⟩ := Option.isSome_iff_exists.1 hb0
    obtain ⟨x, hx0, rfl, _⟩ := hget0 _ _ hy
    obtain ⟨_, _, y3⟩ := hm0 x hx0
    have e : σ x.1 = b := hr.inj _ _ (look_isSome_M (by rw [y3]; rfl)) (by rw [hb]; rfl) e0
    obtain ⟨x', hx', e'⟩ := List.mem_map.1 (hm01 x hx0)
    exact hx x' hx' (by rw [e']; exact e)
  have newB : ∀ x ∈ r.m1, k1 x.1 ∧ E2.ρ (σ x.1) = E1.ρ x.1 ∧ c2 (σ x.1) ∧ bdBlk c2 (rowB x.2.1 (rnVs σ x.2.2)) ∧ ∃ o, w'.heap[E1.ρ x.1]? = some o ∧ BlkRel P E2 (σ x.1) (rowB x.2.1 (rnVs σ x.2.2)) o := by
    intro x hx
    obtain ⟨y1, y2, y3⟩ := hm1 x hx
    obtain ⟨g1, g2, o, ho, g3⟩ := hS.rel.has _ _ (look_some_M y3)
    have hb1 := bds_of_row g2
    obtain ⟨z1, z2⟩ := hnm x.1 (sub _ y1) g1
    exact ⟨g1, z1, hcn _ (sub _ y1) g1, row_of_bds (rnVs_bd hcn _ y2 hb1), o, ho, rn_row hnm y2 hb1 g3 z2⟩
  have ownB : ∀ x ∈ r.m1, (∃ y ∈ r.m0, E.ρ (σ y.1) = E2.ρ (σ x.1)) ∨ w.heap.size ≤ E2.ρ (σ x.1) := by
    intro x hx
    obtain ⟨y1, y2, y3⟩ := hm1 x hx
    rw [(newB x hx).2.1]
    rcases hS.own x.1 (by rw [y3]; rfl) with ⟨b0, h1, h2⟩ | h
    · obtain ⟨y, hy⟩ := Option.isSome_iff_exists.1 h1
      obtain ⟨x0, hx0, rfl, _⟩ := hget0 _ _ hy
      exact .inl ⟨x0, hx0, h2⟩
    · exact .inr h
  have apartB : ∀ x ∈ r.m1, ∀ b blk, look F M b = some blk → (∀ y ∈ r.m1, σ y.1 ≠ b) → E2.ρ (σ x.1) ≠ E.ρ b := by
    intro x hx b blk hb hn e
    rcases ownB x hx with ⟨y, hy, e1⟩ | h
    · obtain ⟨_, _, y3⟩ := hm0 y hy
      have e2 : σ y.1 = b := hr.inj _ _ (look_isSome_M (by rw [y3]; rfl)) (by rw [hb]; rfl) (e1.trans e)
      obtain ⟨x', hx', e'⟩ := List.mem_map.1 (hm01 y hy)
      exact hn x' hx' (by rw [e']; exact e2)
    · have := hr.lt (b := b) (by rw [hb]; rfl)
      omega
  refine ⟨E2, c2, ?_, ⟨hE2, hcc, ⟨?_, ?_, ?_⟩, ?_, ?_, hS.size, hS.os, hS.output, hS.tape⟩, rnV_bd hcn _ q7 hbv, ⟨Nat.le_add_right _ _, ?_⟩⟩
  · rw [rnV_conc hnm _ q7 hbv]
  · intro b blk hb
    rcases hN b blk hb with ⟨x, hx, rfl, rfl⟩ | ⟨h1, h2⟩
    · obtain ⟨_, z1, z2, z3, o, z4, z5⟩ := newB x hx
      exact ⟨z2, z3, o, by rw [z1]; exact z4, z5⟩
    · obtain ⟨z1, z2, z3, o, z4, z5⟩ := oldB b blk h1 h2
      exact ⟨.inl z1, bdBlk_mono hcc _ z2, o, by rw [z3]; exact z4, z5⟩
  · intro b b' h1 h2 e
    obtain ⟨y, hy⟩ := Option.isSome_iff_exists.1 h1
    obtain ⟨y', hy'⟩ := Option.isSome_iff_exists.1 h2
    rcases hN b y hy with ⟨x, hx, rfl, _⟩ | ⟨g1, g2⟩
    · rcases hN b' y' hy' with ⟨x', hx', rfl, _⟩ | ⟨g1', g2'⟩
      · have e' : E1.ρ x.1 = E1.ρ x'.1 := by rw [← (newB x hx).2.1, ← (newB x' hx').2.1]; exact e
        rw [hS.rel.inj x.1 x'.1 (look_isSome_M (by rw [(hm1 x hx).2.2]; rfl)) (look_isSome_M (by rw [(hm1 x' hx').2.2]; rfl)) e']
      · exact absurd (e.trans (oldB b' y' g1' g2').2.2.1) (apartB x hx b' y' g1' g2')
    · rcases hN b' y' hy' with ⟨x', hx', rfl, _⟩ | ⟨g1', g2'⟩
      · exact absurd (e.symm.trans (oldB b y g1 g2).2.2.1) (apartB x' hx' b y g1 g2)
      · refine hr.inj b b' (by rw [g1]; rfl) (by rw [g1']; rfl) ?_
        rw [← (oldB b y g1 g2).2.2.1, ← (oldB b' y' g1' g2').2.2.1]; exact e
  · intro b hb
    have hmn := hr.apart b hb
    cases hn : (setR σ r.m1 M).get b with
    | none => rfl
    | some x0 =>
      exfalso
      rcases setR_get _ _ _ _ hn with ⟨x, hx, e, _⟩ | ⟨h, _⟩
      · rcases (hm1 x hx).1 with h | h
        · obtain ⟨y, hy, e'⟩ := List.mem_map.1 h
          have := (hm0 y hy).2.2
          rw [e', ← e, hmn] at this; cases this
        · obtain ⟨i, hi, _, e2⟩ := sN _ h
          obtain ⟨y, hy⟩ := Option.isSome_iff_exists.1 hb
          have := hlt b (hr.has b y (by rw [look_none_M hmn]; exact hy)).1
          omega
      · rw [hmn] at h; cases h
  · intro b hb
    obtain ⟨y, hy⟩ := Option.isSome_iff_exists.1 hb
    rcases setR_get _ _ _ _ hy with ⟨x, hx, rfl, _⟩ | ⟨h, h'⟩
    · rcases ownB x hx with ⟨z, hz, e⟩ | h
      · exact .inl ⟨σ z.1, by rw [(hm0 z hz).2.2]; rfl, e⟩
      · exact .inr h
    · exact .inl ⟨b, by rw [h]; rfl, ((oldB b y (look_some_M h) h').2.2.1).symm⟩
  · intro q hq hn
    refine hS.frame q hq fun b hb => ?_
    obtain ⟨y, hy⟩ := Option.isSome_iff_exists.1 hb
    obtain ⟨x, hx, rfl, _⟩ := hget0 _ _ hy
    exact hn (σ x.1) (by rw [(hm0 x hx).2.2]; rfl)
  · intro b hb
    rcases hb with h | ⟨h1, h2, _⟩
    · exact .inl h
    · exact .inr ⟨h1, h2⟩
end Go.Proofs.YtaogopbhjinmoaaGreatDoor.Ev
set_option maxRecDepth 10000
set_option maxHeartbeats 4000000
namespace Go.Proofs.YtaogopbhjinmoaaGreatDoor.Ev
open Go
noncomputable def zr128 : List V := List.replicate 128 (.i .u8 (.ofNat 0))
theorem zr128_len : zr128.length = 128 := List.length_replicate
theorem zr128_one : allOne zr128 = true := Eq.trans rfl (Eq.refl _)
noncomputable def lkVV (sh : Sh) (z : V) (o : Bool) (X Y : V) (F : RO) (M : Mem) : Option V := (qop (.lk sh z o (.c X) (.c Y)) F M .e).val
theorem v_lk0 {F : RO} (sh : Sh) (z : V) (o : Bool) (x k : X) (M : Mem) (t : T) : (qop (.lk sh z o x k) F M t).val = lkVV sh z o (x.ev t) (k.ev t) F M := Eq.trans rfl (Eq.refl _)
def lkOut : Option (Nat × V) → V
  | some (_, v) => v
  | none => .l0
theorem lkOut_some (j : Nat) (v : V) : lkOut (some (j, v)) = v := rfl
theorem lkOut_none : lkOut none = .l0 := rfl
theorem lkVV_f {F : RO} {M : Mem} {pb clk : Nat} {es : List (V × V × Nat)} {kv : V} {o : Option (Nat × V)} (h : look F M pb = some (.map es clk)) (hf : findK .int kv es 0 = some o) : lkVV .int .l0 false (.m pb) kv F M = some (lkOut o) := by
  show (asMap (look F M pb) .f fun es _ => q_lkr .l0 false pb (findK .int kv es 0)).val = _
  rw [h]
  show (q_lkr .l0 false pb (findK .int kv es 0)).val = _
  rw [hf]
  rcases o with _ | ⟨j, v⟩ <;> rfl
noncomputable def b127_1 : CC := (.reg [(pqq pa6 (.mv pz0)), (pqq pa7 (.nck pz6)), (pqq pa8 (.fa 1 pz7)), (pqq pa9 (.ld1 pz8)), (pqq pa10 (.mv pz1)), (pqq pa11 (.lk .int .l0 false pz9 pz10)), (pqq pa5 (.mv pz11))])
noncomputable def b127_2 : CC := (.reg [(pqq pa12 (.mv pz5)), (pqq pa13 (.ln .slice pz12)), (pqq pa14 (.bi .gtr pz13 (px6 0)))])
noncomputable def b127_3 : CC := (.reg [(pqq pa15 (.mv pz5)), (pqq pa16 (.mv pz5)), (pqq pa17 (.ln .slice pz16)), (pqq pa18 (.bi .sub pz17 (px6 1))), (pqq pa19 (.iaS 128 pz15 pz18)), (pqq pa20 (.ldn 128 pz19)), (pez (.st 128 pz4 pz20))])
noncomputable def b127_4 : CC := (.seq b127_2 (.cond pz14 (.seq b127_3 .ret) .skip))
noncomputable def b127_5 : CC := (.reg [(pqq pa21 (.mv pz0)), (pqq pa22 (.nck pz21)), (pqq pa23 (.fa 0 pz22)), (pqq pa24 (.ld1 pz23)), (pqq pa25 (.mv pz1)), (pqq pa26 (.iaS 128 pz24 pz25)), (pqq pa27 (.ldn 128 pz26)), (pez (.st 128 pz4 pz27))])
noncomputable def b127_6 : CC := (.seq (.reg [(paa pa4 (.al 222 zr128))]) (.seq (.seq b127_1 b127_4) (.seq b127_5 .ret)))
noncomputable def c127 : CF := .mk 5 [.cn pa4 128] b127_6
theorem e127 (v0 v1 : V) : argTr 5 [v0, v1] = (.n (.n sk3 (some v1) sk3) (some v0) sk4) := rfl
def B127 := ai @e127 (ai (wu b127_1.eq_1) (ai (wu b127_2.eq_1) (ai (wu b127_3.eq_1) (ai (wu b127_4.eq_1) (ai (wu b127_5.eq_1) (wu b127_6.eq_1))))))
theorem w127 (Φ : Nat → Option CF) (h : Φ 127 = some c127) {F : RO} {M : Mem} {c db fb pb n fcap clk s : Nat} {es : List (V × V × Nat)} {o : Option (Nat × V)} {r0 : List V} (hc : db < c ∧ fb < c ∧ pb < c)
    (l0 : load1 F M db 0 = some (.l fb 0 n fcap)) (l1 : load1 F M db 1 = some (.m pb)) (hp : look F M pb = some (.map es clk)) (hf : findK .int (.i .i64 (s : Int)) es 0 = some o) (hs : s < n)
    (hr : (∃ j sb so el kn, o = some (j, .u sb so 1 el kn) ∧ sb < c ∧ loadN F M sb so 128 = some r0) ∨ (o = none ∧ loadN F M fb (s * 128) 128 = some r0)) (hl : r0.length = 128) (h1 : allOne r0 = true) :
    Calls Φ F 127 [.p db 0, .i .i64 (s : Int)] M c fun r M' c' => r = .g r0 ∧ c' = c + 1 ∧ ∃ x, M' = M.set c x := by
  refine calls_walk h ?_
  have hlk : ∀ x, lkVV .int .l0 false (.m pb) (.i .i64 (s : Int)) F (M.set c x) = some (lkOut o) := fun x => lkVV_f (by rw [look_set_ne _ _ (by omega)]; exact hp) hf
  have l0' : ∀ x, load1 F (M.set c x) db 0 = some (.l fb 0 n fcap) := fun x => (load1_ne M 0 x (by omega)).trans l0
  have l1' : ∀ x, load1 F (M.set c x) db 1 = some (.m pb) := fun x => (load1_ne M 1 x (by omega)).trans l1
  have hst : storeN (M.set c (rowB 222 zr128)) c 0 r0 = some (M.set c (rowB 222 r0)) := by
    rw [storeN_same M c 0 222 zr128 r0 (by rw [zr128_len, hl]; omega) h1, over_all (by rw [zr128_len, hl])]
  have hld : loadN F (M.set c (rowB 222 r0)) c 0 128 = some r0 := by
    rw [loadN_same M c 0 128 222 r0 (by omega), List.drop_zero, List.take_of_length_le (by omega)]
  have i1 : iaSV 128 (.l fb 0 n fcap) (.i .i64 (s : Int)) = some (.p fb (s * 128)) := by
    have := iaS_l 128 fb 0 n fcap s .i64 hs
    simpa using this
  have d1 : decide ((0 : Int) < ((1 : Nat) : Int)) = true := rfl
  have s1 : ((1 : Nat) : Int) = 1 := rfl
  rcases hr with ⟨j, sb, so, el, kn, rfl, hsb, hk⟩ | ⟨rfl, hv⟩
  · have hk' : ∀ x, loadN F (M.set c x) sb so 128 = some r0 := fun x => (loadN_ne M so 128 x (Nat.ne_of_lt hsb)).trans hk
    have i0 : iaSV 128 (.u sb so 1 el kn) (.i .i64 (IntKind.i64.wrap ((1 : Int) - 1))) = some (.p sb so) := by
      have := iaS_u 128 sb so 1 el kn 0 .i64 (by omega)
      rw [show IntKind.i64.wrap ((1 : Int) - 1) = ((0 : Nat) : Int) by decide, this]
      simp
    simp only [WX, Int.reduceLT, B127, v_lk0, s1, v_nck, nckV_p, hlk, lkOut_some, l1', hk', hst, hld, hl, zr128_one, i0]
    exact ⟨_, rfl⟩
  · have hv' : ∀ x, loadN F (M.set c x) fb (s * 128) 128 = some r0 := fun x => (loadN_ne M (s * 128) 128 x (by omega)).trans hv
    simp only [WX, Int.reduceLT, B127, v_lk0, v_nck, nckV_p, hlk, lkOut_none, l0', l1', hv', hst, hld, hl, zr128_one, i1]
    exact ⟨_, rfl⟩
noncomputable def b123_1 : CC := (.reg [(pqq pa3 (.mv pz0)), (pqq pa4 (.eq true .ptr true pz3 (.c .p0))), (pqq pa5 (.mv pz4)), ⟨(some pa6), .q (.mv pz0), (some (pa5, true))⟩, ⟨(some pa7), .q (.nck pz6), (some (pa5, true))⟩, ⟨(some pa8), .q (.fa 0 pz7), (some (pa5, true))⟩, ⟨(some pa9), .q (.ld1 pz8), (some (pa5, true))⟩, ⟨(some pa10), .q (.ln .slice pz9), (some (pa5, true))⟩, ⟨(some pa11), .q (.bi .gtr pz10 (px6 0)), (some (pa5, true))⟩, (pqq pa12 (.pk pz5 pz11 pxF)), (pqq pa2 (.mv pz12))])
noncomputable def b123_2 : CC := (.seq (.reg [(pqq pa2 (.mv pxF))]) (.seq b123_1 .ret))
noncomputable def c123 : CF := .mk 4 [.t pa2] b123_2
theorem e123 (v0 : V) : argTr 4 [v0] = (.n sk3 (some v0) sk3) := rfl
def B123 := ai @e123 (ai (wu b123_1.eq_1) (wu b123_2.eq_1))
theorem w123 (Φ : Nat → Option CF) (h : Φ 123 = some c123) {F : RO} {M : Mem} {c db fb n fcap : Nat} (l0 : load1 F M db 0 = some (.l fb 0 n fcap)) (hn : 0 < n) :
    Calls Φ F 123 [.p db 0] M c fun r M' c' => r = .b true ∧ c' = c ∧ M' = M := by
  refine calls_walk h ?_
  have d1 : decide ((0 : Int) < (n : Int)) = true := decide_eq_true (by omega)
  have e1 : eqV F M .ptr true (.p db 0) .p0 = some false := Eq.trans rfl (Eq.refl _)
  simp only [WX, B123, v_nck, nckV_p, l0, d1, e1]
end Go.Proofs.YtaogopbhjinmoaaGreatDoor.Ev
