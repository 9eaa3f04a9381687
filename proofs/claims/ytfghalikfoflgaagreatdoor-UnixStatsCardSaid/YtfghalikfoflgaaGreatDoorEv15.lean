/- What is proved here: pieces of the evaluator's soundness: if the evaluator comes to a value, the model's run comes to it, for every world and tape; no conditions beyond the hypotheses of each theorem. -/
import Derived.Test.YtfghalikfoflgaaGreatDoorEv14
set_option linter.unusedSimpArgs false
set_option linter.unusedVariables false
set_option linter.defProp false
namespace Go.Proofs.YtfghalikfoflgaaGreatDoor.Ev
open Go
section
variable {Φ : Nat → Option CF} {rd : Option Nat} {fn : Nat} {F : RO}
def scopeQ (I : Nat → Nat → St → Prop) (n : Nat) (Q : Ex → St → Prop) : Ex → St → Prop
  | .gto l, s => ∃ m, m < n ∧ I m l s
  | e, s => Q e s
theorem scopeQ_ret (I : Nat → Nat → St → Prop) (n : Nat) (Q : Ex → St → Prop) (s : St) : scopeQ I n Q .ret s = Q .ret s := Eq.trans rfl (Eq.refl _)
theorem scopeQ_ext (I : Nat → Nat → St → Prop) (n : Nat) (Q : Ex → St → Prop) (id : Nat) (s : St) : scopeQ I n Q (.ext id) s = Q (.ext id) s := Eq.trans rfl (Eq.refl _)
theorem wp_scopes {tbl : CC} {Q : Ex → St → Prop} (I : Nat → Nat → St → Prop) (h : ∀ n l s, I n l s → ∃ c, findL l tbl = some c ∧ Wp c (K Φ rd fn F) s (scopeQ I n Q)) :
    ∀ n b s, Wp b (K Φ rd fn F) s (scopeQ I n Q) → Wp (.scope b tbl) (K Φ rd fn F) s Q := by
  intro n
  induction n using Nat.strongRecOn with
  | _ n ih =>
    rintro b s ⟨e, s', he, q⟩
    have h0 : execC (.scope b tbl) (K Φ rd fn F) s = r_scope tbl (K Φ rd fn F) (execC b (K Φ rd fn F) s) := rfl
    cases e with
    | gto l =>
      obtain ⟨m, hm, hI⟩ := q
      obtain ⟨c, hc, hw⟩ := h m l s' hI
      obtain ⟨e2, s2, h2, q2⟩ := ih m hm c s' hw
      refine ⟨e2, s2, ?_, q2⟩
      rw [h0, he]
      show s_jump tbl (K Φ rd fn F) s' (findL l tbl) = _
      rw [hc]
      show again (K Φ rd fn F) (.scope c tbl) s' = _
      rw [← h2]
      exact den_eq Φ rd fn F (.scope c tbl) s'
    | nrm => exact ⟨_, _, by rw [h0, he]; rfl, q⟩
    | ret => exact ⟨_, _, by rw [h0, he]; rfl, q⟩
    | ext id => exact ⟨_, _, by rw [h0, he]; rfl, q⟩
end
end Go.Proofs.YtfghalikfoflgaaGreatDoor.Ev
namespace Go.Proofs.YtfghalikfoflgaaGreatDoor.Ev
open Go
theorem over_pre : ∀ (e p q : List V), q.length = e.length → over (p ++ q) p.length e = p ++ e
  | [], p, q, h => by
    obtain rfl : q = [] := List.eq_nil_of_length_eq_zero h
    rfl
  | v :: e, p, [], h => by cases h
  | v :: e, p, a :: q, h => by
    rw [over, List.set_append_right _ _ (Nat.le_refl _), Nat.sub_self, List.set_cons_zero]
    have := over_pre e (p ++ [v]) q (by simpa using h)
    rw [List.length_append, List.length_singleton, List.append_assoc, List.append_assoc] at this
    exact this
theorem over_all {z e : List V} (h : z.length = e.length) : over z 0 e = e := by
  have := over_pre e [] z h
  simpa using this
section
variable {Φ : Nat → Option CF} {rd : Option Nat} {fn : Nat} {F : RO}
theorem load1_lk {F' : RO} {M M' : Mem} (h : ∀ b, look F' M' b = look F M b) (b o : Nat) : load1 F' M' b o = load1 F M b o := by
  show asCells (look F' M' b) none (fun m d c => cell m d c o) = asCells (look F M b) none fun m d c => cell m d c o
  rw [h]
theorem SlAt.lk {F' : RO} {M M' : Mem} {c sz : Nat} {v : V} {es : List (List V)} (h : ∀ b, look F' M' b = look F M b) (hs : SlAt F M c sz v es) : SlAt F' M' c sz v es := by
  obtain ⟨h0, h1 | ⟨b, o, h1, h2, h3⟩⟩ := hs
  · exact ⟨h0, .inl h1⟩
  · exact ⟨h0, .inr ⟨b, o, h1, h2, fun k hk => by rw [load1_lk h]; exact h3 k hk⟩⟩
end
end Go.Proofs.YtfghalikfoflgaaGreatDoor.Ev
namespace Go.Proofs.YtfghalikfoflgaaGreatDoor.Ev
open Go
section
variable {Φ : Nat → Option CF} {rd : Option Nat} {fn : Nat} {F : RO}
end
end Go.Proofs.YtfghalikfoflgaaGreatDoor.Ev
namespace Go.Proofs.YtfghalikfoflgaaGreatDoor.Ev
open Go
section
variable {Φ : Nat → Option CF} {rd : Option Nat} {fn : Nat} {F : RO}
structure GrX (h : Nat → Prop) (c : Nat) (M : Mem) (c' : Nat) (M' : Mem) : Prop where
  le : c ≤ c'
  old : ∀ b, b < c → ¬ h b → M'.get b = M.get b
  new : ∀ b, c' ≤ b → M'.get b = none
theorem GrX.of {h : Nat → Prop} {c c' : Nat} {M M' : Mem} (g : Gr c M c' M') : GrX h c M c' M' := ⟨g.le, fun b hb _ => g.old b hb, g.new⟩
theorem GrX.trans {h : Nat → Prop} {M M1 M2 : Mem} {c c1 c2 : Nat} (g : GrX h c M c1 M1) (g2 : GrX h c1 M1 c2 M2) : GrX h c M c2 M2 :=
  ⟨Nat.le_trans g.le g2.le, fun b hb hn => (g2.old b (Nat.lt_of_lt_of_le hb g.le) hn).trans (g.old b hb hn), g2.new⟩
theorem GrX.gr {h : Nat → Prop} {M M1 : Mem} {c0 c c1 : Nat} (g : GrX h c M c1 M1) (h0 : c0 ≤ c) (hh : ∀ b, b < c0 → ¬ h b) : Gr c0 M c1 M1 :=
  ⟨Nat.le_trans h0 g.le, fun b hb => g.old b (by omega) (hh b hb), g.new⟩
theorem GrX.set {h : Nat → Prop} {M : Mem} {c b : Nat} (ok : Okm F M c) (hb : b < c) (hh : h b) (x : Blk) : GrX h c M c (M.set b x) :=
  ⟨Nat.le_refl _, fun b' _ hn => get_ne _ _ fun e => hn (by rw [e]; exact hh), fun b' hb' => by rw [get_ne _ _ (by omega)]; exact ok.hiM b' hb'⟩
theorem GrX.ok {h : Nat → Prop} {M M1 : Mem} {c c1 : Nat} (g : GrX h c M c1 M1) (ho : Okm F M c) (hh : ∀ b, b < c → h b → ∃ x, M.get b = some x) : Okm F M1 c1 := by
  refine ⟨g.new, fun b hb => ho.hiF b (Nat.le_trans g.le hb), fun b hb => ?_, Nat.le_trans ho.ge g.le⟩
  have hlt : b < c := by
    by_cases hc : b < c
    · exact hc
    · rw [ho.hiF b (by omega)] at hb; cases hb
  rw [g.old b hlt fun hx => ?_]
  · exact ho.ap b hb
  · obtain ⟨x, hx⟩ := hh b hlt hx
    rw [ho.ap b hb] at hx; cases hx
theorem protect_lkx {c : Nat} {h : Nat → Prop} (mask : Nat) : ∀ (reads : List (Nat × Nat)) (F : RO) (M : Mem) (s : List (Nat × Blk)), (∀ e ∈ reads, ¬ h e.2) → roFree M F = true → (∀ x, c ≤ x → M.get x = none) →
    ∃ F' M' s2, protect mask reads F M s = Pr.mk F' M' (s2 ++ s) ∧ roFree M' F' = true ∧ (∀ b, look F' M' b = look F M b) ∧ (∀ x, c ≤ x → M'.get x = none) ∧ (∀ x, (∀ e ∈ reads, e.2 ≠ x) → M'.get x = M.get x) ∧ ∀ N : Mem, (∀ x, x < c → ¬ h x → N.get x = M'.get x) → ∀ x, (x < c → ¬ h x → (unprotect s2 N).get x = M.get x) ∧ (c ≤ x ∨ h x → (unprotect s2 N).get x = N.get x)
  | [], F, M, s, _, h2, h3 => ⟨F, M, [], rfl, h2, fun _ => rfl, h3, fun _ _ => rfl, fun N hN x => ⟨fun h1 h2 => hN x h1 h2, fun _ => rfl⟩⟩
  | (i, x) :: r, F, M, s, hr, h2, h3 => by
    have hr' : ∀ e ∈ r, ¬ h e.2 := fun e he => hr e (List.mem_cons_of_mem _ he)
    rw [protect]
    cases ht : testBit mask i with
    | true =>
      obtain ⟨F', M', s2, g1, g2, g3, g4, g6, g5⟩ := protect_lkx mask r F M s hr' h2 h3
      exact ⟨F', M', s2, g1, g2, g3, g4, fun y hy => g6 y fun e he => hy e (List.mem_cons_of_mem _ he), g5⟩
    | false =>
      show ∃ F' M' s2, (match M.get x with | none => protect mask r F M s | some blk => (M.del x).force fun M => protect mask r ((x, blk) :: F) M ((x, blk) :: s)) = _ ∧ _
      cases hb : M.get x with
      | none =>
        obtain ⟨F', M', s2, g1, g2, g3, g4, g6, g5⟩ := protect_lkx mask r F M s hr' h2 h3
        exact ⟨F', M', s2, g1, g2, g3, g4, fun y hy => g6 y fun e he => hy e (List.mem_cons_of_mem _ he), g5⟩
      | some blk =>
        have hxc : x < c := by
          apply Classical.byContradiction
          intro hx
          rw [h3 x (by omega)] at hb; cases hb
        have hxh : ¬ h x := hr (i, x) (List.mem_cons_self ..)
        have hfr : roFree (M.del x) ((x, blk) :: F) = true := by
          rw [roFree_cons, Tr.get_del, if_pos rfl, roFree_del x h2]; rfl
        obtain ⟨F', M', s2, g1, g2, g3, g4, g6, g5⟩ := protect_lkx mask r ((x, blk) :: F) (M.del x) ((x, blk) :: s) hr' hfr (fun y hy => by rw [Tr.get_del]; split <;> first | rfl | exact h3 y hy)
        refine ⟨F', M', s2 ++ [(x, blk)], ?_, g2, fun b => ?_, g4, fun y hy => ?_, fun N hN z => ?_⟩
        · show ((M.del x).force fun M => protect mask r ((x, blk) :: F) M ((x, blk) :: s)) = _
          rw [Tr.force_eq, g1, List.append_assoc]; rfl
        · rw [g3]
          by_cases e : b = x
          · subst e
            rw [look_some_M hb, look_none_M (by rw [Tr.get_del, if_pos rfl]), roGet_cons, if_pos rfl]
          · cases hM : M.get b with
            | some y => rw [look_some_M hM, look_some_M (by rw [Tr.get_del, if_neg e]; exact hM)]
            | none => rw [look_none_M hM, look_none_M (by rw [Tr.get_del, if_neg e]; exact hM), roGet_cons, if_neg (fun h => e h.symm)]
        · rw [g6 y fun e he => hy e (List.mem_cons_of_mem _ he), Tr.get_del, if_neg (fun e => hy (i, x) (List.mem_cons_self ..) e.symm)]
        · have key : ∀ (s2 : List (Nat × Blk)) (N : Mem), unprotect (s2 ++ [(x, blk)]) N = (unprotect s2 N).set x blk := by
            intro s2
            induction s2 with
            | nil => intro N; show (N.set x blk).force (fun M => M) = _; rw [Tr.force_eq]; rfl
            | cons a s2 ih => intro N; show (N.set a.1 a.2).force (fun M => unprotect (s2 ++ [(x, blk)]) M) = _; rw [Tr.force_eq, ih]; show _ = ((N.set a.1 a.2).force fun M => unprotect s2 M).set x blk; rw [Tr.force_eq]
          obtain ⟨k1, k2⟩ := g5 N hN z
          rw [key, Tr.get_set]
          refine ⟨fun a1 a2 => ?_, fun a1 => ?_⟩
          · by_cases e1 : z = x
            · subst e1
              rw [if_pos rfl, hb]
            · rw [if_neg e1, k1 a1 a2, Tr.get_del, if_neg e1]
          · have e1 : ¬ z = x := by
              intro e
              rcases a1 with a1 | a1
              · omega
              · exact hxh (by rw [← e]; exact a1)
            rw [if_neg e1, k2 a1]
theorem wd_efx {hx : Nat → Prop} (base i mask : Nat) (dst : Option Pos) (o : EO) (r : List (Nat × Nat × CO)) (t : T) (M : Mem) (c : Nat) (reads : List (Nat × Nat)) (R : DS → Prop) (ok : Okm F M c) (hr : ∀ e ∈ reads, ¬ hx e.2) (hs : ∀ b, b < c → hx b → ∃ x, M.get b = some x)
    (h : ∀ F' M', Okm F' M' c → (∀ b, look F' M' b = look F M b) → (∀ b, (∀ e ∈ reads, e.2 ≠ b) → M'.get b = M.get b) → RTo (doE o (K Φ rd fn F') M' c t) fun v M2 c2 => GrX hx c M' c2 M2 ∧ ∀ M3, GrX hx c M c2 M3 → (∀ x, c ≤ x ∨ hx x → M3.get x = M2.get x) → WpD base r (K Φ rd fn F) (.mk (setT t dst v) M3 c2 [] reads) R) :
    WpD base ((i, mask, .mk dst (.e o) none) :: r) (K Φ rd fn F) (.mk t M c [] reads) R := by
  obtain ⟨F', M', s2, g1, g2, g3, g4, g6, g5⟩ := protect_lkx (c := c) (h := hx) mask reads F M [] hr ok.free ok.hiM
  have ok' : Okm F' M' c := by
    refine ⟨g4, fun b hb => ?_, fun b hb => ?_, ok.ge⟩
    · have := g3 b
      rw [look_none_M (g4 b hb), ok.look hb] at this
      exact this
    · have : ∃ blk, (b, blk) ∈ F' := by
        clear g1 g2 g3 g5 h
        induction F' with
        | nil => cases hb
        | cons a F' ih =>
          obtain ⟨k, z⟩ := a
          rw [roGet_cons] at hb
          split at hb
          · rename_i e; have e : k = b := e; exact ⟨z, by rw [e]; exact List.mem_cons_self ..⟩
          · obtain ⟨blk, hm⟩ := ih hb; exact ⟨blk, List.mem_cons_of_mem _ hm⟩
      obtain ⟨blk, hm⟩ := this
      exact roFree_iff F' g2 b blk hm
  obtain ⟨v, M2, c2, hd, hg, hR⟩ := h F' M' ok' g3 g6
  have hun := g5 M2 hg.old
  have ok2 : Okm F' M2 c2 := hg.ok ok' fun b hb hxb => by rw [g6 b fun e he e1 => hr e he (by rw [e1]; exact hxb)]; exact hs b hb hxb
  have he : dOp (K Φ rd fn F) base (i, mask, .mk dst (.e o) none) (.mk t M c [] reads) = some (.mk (setT t dst v) (unprotect s2 M2) c2 [] reads) := by
    show d_e1 o (K Φ rd fn F) dst t c [] reads (protect mask reads F M []) = _
    rw [g1]
    show d_e2 F' dst t [] reads (s2 ++ []) (doE o (K Φ rd fn F') M' c t) = _
    rw [hd, List.append_nil]
    show (bif roFree M2 F' && true then (unprotect s2 M2).force fun M => (setT t dst v).force fun t => some (DS.mk t M c2 [] reads) else none) = _
    rw [ok2.free]
    show ((unprotect s2 M2).force fun M => (setT t dst v).force fun t => some (DS.mk t M c2 [] reads)) = _
    rw [Tr.force_eq, Tr.force_eq]
  rw [wd_cons]
  have hle := hg.le
  refine ⟨_, he, hR _ ⟨hle, fun b hb hn => (hun b).1 hb hn, fun b hb => ?_⟩ fun x hx => (hun x).2 hx⟩
  rw [(hun b).2 (.inl (by omega))]; exact hg.new b hb
theorem appL_to {M : Mem} {c b n ty sz bytes : Nat} {y : V} {es ns : List (List V)} (h : SlAt F M c sz (.l b 0 n n) es) (hn : es.length = n) (hsz : 0 < sz) (hy : SlAt F M c sz y ns) (hne : ns ≠ []) (h1 : allOne ns.flatten = true) (hr : room (es.length + ns.length) bytes = true) :
    RTo (appV F M c ty sz bytes (.l b 0 n n) y) fun v' M' c' => c' = c + 1 ∧ M' = M.set c (rowU ty (es ++ ns).flatten) ∧ v' = .u c 0 (es ++ ns).length 0 (es ++ ns).length := by
  unfold appV
  rw [split_sl hsz hy]
  have hnl := flat_len hy.1
  have hn0 : ns.length ≠ 0 := fun e => hne (List.length_eq_zero_iff.1 e)
  have e1 : e_app1 F M c ty sz bytes (.l b 0 n n) (some (ns.length, ns.flatten)) = app_l F M c ty sz bytes b 0 n n ns.length ns.flatten := by
    show (bif allOne ns.flatten && Nat.beq ns.flatten.length (Nat.mul ns.length sz) then app F M c ty sz bytes (.l b 0 n n) ns.length ns.flatten else _) = _
    rw [h1, beqN, decide_eq_true (show ns.flatten.length = Nat.mul ns.length sz from hnl)]
    show (bif Nat.beq ns.length 0 then _ else _) = _
    rw [beqN, decide_eq_false hn0]; rfl
  have hcl : CellsAt F M b 0 es.flatten := by
    obtain ⟨h0, ⟨rfl, h2⟩ | ⟨b', o', hv, hb, hc⟩⟩ := h
    · intro k hk; cases hk
    · rcases hv with ⟨cap, _, hv⟩ | ⟨el, kn, _, hv⟩
      · injection hv with e1 e2; subst e1 e2; exact hc
      · cases hv
  obtain ⟨r, hrd⟩ := readB_of hsz h.1 hcl
  rw [hn] at hrd
  have e2 : app_l F M c ty sz bytes b 0 n n ns.length ns.flatten = grown M c ty bytes (es.length + ns.length) 0 false (es.flatten ++ ns.flatten) := by
    unfold app_l
    rw [bleN, decide_eq_false (show ¬ Nat.add n ns.length ≤ n by show ¬ n + ns.length ≤ n; omega), cond_false, hrd, ← hn]; rfl
  refine ⟨_, _, _, (e1.trans e2).trans (grown_eq M c ty bytes _ _ hr), rfl, by rw [List.flatten_append], by rw [List.length_append]⟩
end
end Go.Proofs.YtfghalikfoflgaaGreatDoor.Ev
namespace Go.Proofs.YtfghalikfoflgaaGreatDoor.Ev
open Go
def BW (b0 b1 : Blk) : Prop := b0 = b1 ∨ ∃ ty n ex fz str d0 d c0 c, b0 = .cells ty n ex fz str d0 c0 ∧ b1 = .cells ty n ex fz str d c ∧ ∀ k v, cell n d c k = some v → cell n d0 c0 k = some v
theorem BW.rel {P : Program} {E : Env} {b : Nat} {b0 b1 : Blk} (h : BW b0 b1) {o : Obj} (hr : BlkRel P E b b0 o) : BlkRel P E b b1 o := by
  rcases h with rfl | ⟨ty, n, ex, fz, str, d0, d, c0, c, rfl, rfl, h⟩
  · exact hr
  · obtain ⟨arr, fr, rfl, hc⟩ := hr
    exact ⟨arr, fr, rfl, fun k v hk => hc.cell k v (h k v hk), hc.size, hc.free, hc.plain⟩
theorem BW.bd {p : Nat → Prop} {b0 b1 : Blk} (h : BW b0 b1) (hb : bdBlk p b0) : bdBlk p b1 := by
  rcases h with rfl | ⟨ty, n, ex, fz, str, d0, d, c0, c, rfl, rfl, h⟩
  · exact hb
  · exact fun k v hk => hb k v (h k v hk)
end Go.Proofs.YtfghalikfoflgaaGreatDoor.Ev
set_option maxRecDepth 10000
set_option maxHeartbeats 4000000
namespace Go.Proofs.YtfghalikfoflgaaGreatDoor.Ev
open Go
theorem toU_u64 (n : Int) : toU .u64 n = (n % 18446744073709551616).toNat := rfl
theorem toU_u8 (n : Int) : toU .u8 n = (n % 256).toNat := rfl
theorem u64_or (a b : Nat) (ha : a < 18446744073709551616) (hb : b < 18446744073709551616) : biV .or (.i .u64 (a : Int)) (.i .u64 (b : Int)) = some (.i .u64 ((a ||| b : Nat) : Int)) := by
  rw [bi_or, toU_u64, toU_u64, wrap_u64]
  have e1 : ((a : Int) % 18446744073709551616).toNat = a := by omega
  have e2 : ((b : Int) % 18446744073709551616).toNat = b := by omega
  rw [e1, e2]
  have : a ||| b < 2 ^ 64 := Nat.or_lt_two_pow ha hb
  congr 2
  omega
theorem u8_or (a b : Nat) (ha : a < 256) (hb : b < 256) : biV .or (.i .u8 (a : Int)) (.i .u8 (b : Int)) = some (.i .u8 ((a ||| b : Nat) : Int)) := by
  rw [bi_or, toU_u8, toU_u8, wrap_u8]
  have e1 : ((a : Int) % 256).toNat = a := by omega
  have e2 : ((b : Int) % 256).toNat = b := by omega
  rw [e1, e2]
  have : a ||| b < 2 ^ 8 := Nat.or_lt_two_pow ha hb
  congr 2
  omega
theorem or128 : ∀ m, m < 256 → m ||| 128 = m % 128 + 128 := by decide +kernel
theorem u64_shr (a n : Nat) (hn : n ≤ 64) : biV .shr (.i .u64 (a : Int)) (.i .u64 (n : Int)) = some (.i .u64 ((a / 2 ^ n : Nat) : Int)) := by
  rw [bi_shr]
  have : shCount .u64 n = n := by
    unfold shCount
    rw [bleN, decide_eq_true (show n ≤ kbits .u64 from hn)]; rfl
  rw [this, Int.fdiv_eq_ediv_of_nonneg _ (Int.natCast_nonneg _)]; rfl
theorem u64_quo (a b : Nat) (hb : 0 < b) (ha : a < 18446744073709551616) : biV .quo (.i .u64 (a : Int)) (.i .u64 (b : Int)) = some (.i .u64 ((a / b : Nat) : Int)) := by
  have hle : a / b ≤ a := Nat.div_le_self a b
  have h0 : 0 ≤ ((a / b : Nat) : Int) := Int.natCast_nonneg _
  show (b_quo .u64 (a : Int) (b : Int)).val = _
  unfold b_quo
  rw [eqI_iff, decide_eq_false (show ¬ ((b : Int) = 0) by omega), cond_false, vI_eq, wr_eq, ← Int.ofNat_tdiv, wrap_u64, Int.emod_eq_of_lt h0 (by omega)]; rfl
theorem u64_rem (a b : Nat) (hb : 0 < b) : biV .rem (.i .u64 (a : Int)) (.i .u64 (b : Int)) = some (.i .u64 ((a % b : Nat) : Int)) := by
  show (b_rem .u64 (a : Int) (b : Int)).val = _
  unfold b_rem
  rw [eqI_iff, decide_eq_false (show ¬ ((b : Int) = 0) by omega), cond_false, vI_eq, ← Int.ofNat_tmod]; rfl
theorem u64_add (a b : Nat) (h : a + b < 18446744073709551616) : biV .add (.i .u64 (a : Int)) (.i .u64 (b : Int)) = some (.i .u64 ((a + b : Nat) : Int)) := by
  rw [bi_add, wrap_u64]; congr 2; omega
theorem byte_nat (n : Nat) (h : n < 256) : bV (UInt8.ofNat n) = .i .u8 (n : Int) := by
  show V.i .u8 ((UInt8.ofNat n).toNat : Int) = _
  rw [UInt8.toNat_ofNat', Nat.mod_eq_of_lt h]
theorem bV_one (x : UInt8) : allOne ([[bV x]] : List (List V)).flatten = true := rfl
def numB : Nat → Nat → List UInt8
  | 0, n => [UInt8.ofNat n]
  | f + 1, n => if n ≤ 127 then [UInt8.ofNat n] else UInt8.ofNat (n % 128 + 128) :: numB f (n / 128)
theorem numB_lo : ∀ (f n : Nat), n ≤ 127 → numB f n = [UInt8.ofNat n]
  | 0, n, h => rfl
  | f + 1, n, h => by rw [numB, if_pos h]
theorem numB_hi (f n : Nat) (h : 127 < n) : numB (f + 1) n = UInt8.ofNat (n % 128 + 128) :: numB f (n / 128) := by rw [numB, if_neg (by omega)]
theorem numB_len : ∀ (f n : Nat), (numB f n).length ≤ f + 1
  | 0, n => Nat.le_refl _
  | f + 1, n => by
    rw [numB]
    split
    · exact Nat.succ_le_succ (Nat.zero_le _)
    · rw [List.length_cons]; have := numB_len f (n / 128); omega
theorem div128 {n f : Nat} (h : n < 128 ^ (f + 2)) : n / 128 < 128 ^ (f + 1) := by
  rw [Nat.pow_succ] at h
  exact Nat.div_lt_of_lt_mul (by rw [Nat.mul_comm]; exact h)
noncomputable def b12_1 : CC := (.reg [(paa pa4 (.mks 5 1 1 [(.i .u8 0)] (px6 0) (px6 10))), (pqq pa3 (.mv pz4))])
noncomputable def b12_2 : CC := (.reg [(pqq pa5 (.mv pz0)), (pqq pa6 (.bi .gtr pz5 (.c (.i .u64 127))))])
noncomputable def b12_3 : CC := (.reg [(pqq pa9 (.mv pz3)), (pqq pa10 (.mv pz0)), (pqq pa11 (.ci .u8 pz10)), (pqq pa12 (.bi .or pz11 (.c (.i .u8 128)))), (paa pa13 (.bsl 5 1 1 [(.i .u8 0)] [(0, pz12)])), (pee pa14 (.app 5 1 1 pz9 pz13)), (pqq pa3 (.mv pz14))])
noncomputable def b12_4 : CC := (.reg [(pqq pa7 (.mv pz0)), (pqq pa8 (.bi .shr pz7 (.c (.i .u64 7)))), (pqq pa0 (.mv pz8))])
noncomputable def b12_5 : CC := (.seq (.seq b12_2 (.cond pz6 .skip (.exit 0))) (.seq (.block 1 b12_3) b12_4))
noncomputable def b12_6 : CC := (.reg [(pqq pa15 (.mv pz3)), (pqq pa16 (.mv pz0)), (pqq pa17 (.ci .u8 pz16)), (paa pa18 (.bsl 5 1 1 [(.i .u8 0)] [(0, pz17)])), (pee pa19 (.app 5 1 1 pz15 pz18)), (pqq pa2 (.mv pz19))])
noncomputable def b12_7 : CC := (.seq b12_1 (.seq (.block 0 (.loop b12_5)) (.seq b12_6 .ret)))
noncomputable def b12_8 : CC := (.seq (.reg [(pqq pa2 (.mv (.c .l0)))]) b12_7)
noncomputable def c12 : CF := .mk 5 [.t pa2] b12_8
theorem e12 (v0 : V) : argTr 5 [v0] = (.n sk4 (some v0) sk4) := rfl
def B12 := ai @e12 (ai (wu b12_1.eq_1) (ai (wu b12_2.eq_1) (ai (wu b12_3.eq_1) (ai (wu b12_4.eq_1) (ai (wu b12_5.eq_1) (ai (wu b12_6.eq_1) (ai (wu b12_7.eq_1) (wu b12_8.eq_1))))))))
theorem w12 (Φ : Nat → Option CF) (h : Φ 12 = some c12) {F : RO} {M : Mem} {c n : Nat} (ok : Okm F M c) (hn : n < 18446744073709551616) :
    Calls Φ F 12 [.i .u64 (n : Int)] M c fun r M' c' => SlB F M' c' r (numB 9 n) ∧ Gr c M c' M' := by
  refine calls_walk h ?_
  have q2 : ∀ b, mksA 5 1 1 [V.i .u8 0] (.i .i64 0) (.i .i64 10) b = some (.l b 0 0 10, .cells 5 10 true 0 false [V.i .u8 0] .e) := fun b => mksA_i 5 1 1 _ .i64 .i64 0 10 b (by omega) (by omega)
  simp only [WX, B12, q2]
  have hg0 := fun x => (Gr.refl ok).set c x (Nat.le_refl _) (Nat.lt_succ_self _) (Nat.le_succ _)
  obtain ⟨I, hI⟩ : ∃ I : Nat → St → Prop, ∀ f s, I f s ↔ (∃ (m : Nat) (pre : List UInt8) (M1 : Mem) (c1 : Nat) (acc : V) (u : List (Option V)), m < 18446744073709551616 ∧ m < 128 ^ (f + 1) ∧ pre.length + f ≤ 9 ∧ numB 9 n = pre ++ numB f m ∧ s = .mk ((.n (.n (.n (uv3 u 15 7 23) (some (acc)) (uv3 u 19 11 27)) (uO u 1) (uv7 u 17 9 25 5 21 13 29)) (some (.i .u64 (m : Int))) (.n (uv7 u 16 8 24 4 20 12 28) (uO u 2) (uv7 u 18 10 26 6 22 14 30)))) [] M1 c1 ∧ Gr c M c1 M1 ∧ CapAt M1 c c1 c 5 1 10 acc (pre.map fun x => [bV x])) := ⟨fun n s => _, fun _ _ => Iff.rfl⟩
  refine wp_while I ?_ 9 _ ((hI _ _).2 ⟨n, [], _, _, _, [none, _, _, none, _, _, _, _, _, _, _, _, _, _, _, _, _, _, _, _, _, _, _, _, _, _, _, _, _, _, _], hn, by omega, Nat.le_refl _, rfl, rfl, hg0 _, capNil (get_same _ _ _) (Nat.le_refl _) (Nat.lt_succ_self _)⟩)
  intro f s hIs
  obtain ⟨m, pre, M1, c1, acc, u, hm, hmf, hpf, he, rfl, hg, hacc⟩ := (hI _ _).1 hIs
  clear hIs
  have ok1 := hg.ok ok
  have hgx := fun x => hg.set c1 x hg.le (Nat.lt_succ_self _) (Nat.le_succ _)
  have hacc' := fun x => hacc.up (M' := M1.set c1 x) (c' := c1 + 1) (by omega) (fun hb => get_ne _ _ (by omega))
  by_cases hlt : m ≤ 127
  · have d1 : decide ((127 : Int) < (m : Int)) = false := decide_eq_false (by omega)
    have q3 : IntKind.u8.wrap (m : Int) = (m : Int) := by rw [wrap_u8]; omega
    simp only [WX, B12, d1, q3]
    rw [numB_lo f m hlt] at he
    rw [← byte_nat m (by omega)]
    refine putE_to ((cappV_to (hacc' _) (hgx _) Nat.one_pos (slD (es := [[bV (UInt8.ofNat m)]]) (get_same _ _ _) (by omega) (by intro e he; cases he with | head => rfl | tail _ h => cases h) rfl) (bV_one _) (by rw [List.length_map, List.length_singleton]; omega) (by simp)).mono ?_)
    rintro v2 M2 c2 ⟨rfl, hacc2, hg2, -⟩
    simp only [WX]
    refine ⟨?_, hg2⟩
    rw [he, SlB, List.map_append]
    exact hacc2.sl
  · have d1 : decide ((127 : Int) < (m : Int)) = true := decide_eq_true (by omega)
    obtain ⟨f, rfl⟩ : ∃ f', f = f' + 1 := by
      cases f with
      | zero => exact absurd (show m < 128 from hmf) (by omega)
      | succ f => exact ⟨f, rfl⟩
    have q3 : IntKind.u8.wrap (m : Int) = ((m % 256 : Nat) : Int) := by rw [wrap_u8]; omega
    have q4 : biV .or (.i .u8 ((m % 256 : Nat) : Int)) (.i .u8 128) = some (.i .u8 ((m % 128 + 128 : Nat) : Int)) := by
      have := u8_or (m % 256) 128 (by omega) (by omega)
      rw [or128 _ (by omega), show m % 256 % 128 = m % 128 by omega] at this
      exact this
    have q5 : biV .shr (.i .u64 (m : Int)) (.i .u64 7) = some (.i .u64 ((m / 128 : Nat) : Int)) := u64_shr m 7 (by omega)
    simp only [WX, B12, d1, q3, q4]
    rw [numB_hi f m (by omega)] at he
    rw [← byte_nat (m % 128 + 128) (by omega)]
    refine putE_to ((cappV_to (hacc' _) (hgx _) Nat.one_pos (slD (es := [[bV (UInt8.ofNat (m % 128 + 128))]]) (get_same _ _ _) (by omega) (by intro e he; cases he with | head => rfl | tail _ h => cases h) rfl) (bV_one _) (by rw [List.length_map, List.length_singleton]; omega) (by simp)).mono ?_)
    rintro v2 M2 c2 ⟨rfl, hacc2, hg2, -⟩
    simp only [WX, B12, q5]
    refine ⟨f, Nat.lt_succ_self _, (hI _ _).2 ⟨m / 128, pre ++ [UInt8.ofNat (m % 128 + 128)], _, _, _, [none, _, _, none, _, _, _, _, _, _, _, _, _, _, _, _, _, _, _, _, _, _, _, _, _, _, _, _, _, _, _], by omega, div128 hmf, by rw [List.length_append, List.length_singleton]; omega, by rw [he, List.append_assoc]; rfl, rfl, hg2, ?_⟩⟩
    rw [List.map_append]; exact hacc2
end Go.Proofs.YtfghalikfoflgaaGreatDoor.Ev
set_option maxRecDepth 10000
set_option maxHeartbeats 4000000
namespace Go.Proofs.YtfghalikfoflgaaGreatDoor.Ev
open Go
theorem bE_len (l : List UInt8) : (l.map fun x => [bV x]).length = l.length := List.length_map ..
theorem sl_one {M : Mem} {F : RO} {b c ty : Nat} {d : List V} {x : UInt8} (h : M.get b = some (rowD d ty [bV x])) (hb : b < c) : SlAt F M c 1 (.l b 0 1 1) [[bV x]] :=
  slD (es := [[bV x]]) h hb (by intro e he; cases he with | head => rfl | tail _ h => cases h) rfl
noncomputable def b18_1 : CC := (.reg [(pqq pa4 (.mv pz0)), (pqq pa5 (.bi .gtr pz4 (.c (.i .u64 127))))])
noncomputable def b18_2 : CC := (.reg [(pqq pa6 (.mv pz3)), (pqq pa7 (.mv pz0)), (pqq pa8 (.bi .rem pz7 (.c (.i .u64 128)))), (pqq pa9 (.bi .add pz8 (.c (.i .u64 128)))), (pqq pa10 (.ci .u8 pz9)), (paa pa11 (.bsl 5 1 1 [(.i .u8 0)] [(0, pz10)])), (pee pa12 (.app 5 1 1 pz6 pz11)), (pqq pa3 (.mv pz12))])
noncomputable def b18_3 : CC := (.reg [(pqq pa13 (.mv pz0)), (pqq pa14 (.bi .quo pz13 (.c (.i .u64 128)))), (pqq pa0 (.mv pz14))])
noncomputable def b18_4 : CC := (.seq (.seq b18_1 (.cond pz5 .skip (.exit 0))) (.block 1 (.seq b18_2 b18_3)))
noncomputable def b18_5 : CC := (.reg [(pqq pa15 (.mv pz3)), (pqq pa16 (.mv pz0)), (pqq pa17 (.ci .u8 pz16)), (paa pa18 (.bsl 5 1 1 [(.i .u8 0)] [(0, pz17)])), (pee pa19 (.app 5 1 1 pz15 pz18)), (pqq pa2 (.mv pz19))])
noncomputable def b18_6 : CC := (.seq (.reg [(pqq pa3 (.mv (.c .l0)))]) (.seq (.block 0 (.loop b18_4)) (.seq b18_5 .ret)))
noncomputable def b18_7 : CC := (.seq (.reg [(pqq pa2 (.mv (.c .l0)))]) b18_6)
noncomputable def c18 : CF := .mk 5 [.t pa2] b18_7
theorem e18 (v0 : V) : argTr 5 [v0] = (.n sk4 (some v0) sk4) := rfl
def B18 := ai @e18 (ai (wu b18_1.eq_1) (ai (wu b18_2.eq_1) (ai (wu b18_3.eq_1) (ai (wu b18_4.eq_1) (ai (wu b18_5.eq_1) (ai (wu b18_6.eq_1) (wu b18_7.eq_1)))))))
theorem w18 (Φ : Nat → Option CF) (h : Φ 18 = some c18) {F : RO} {M : Mem} {c n : Nat} (ok : Okm F M c) (hn : n < 18446744073709551616) :
    Calls Φ F 18 [.i .u64 (n : Int)] M c fun r M' c' => SlB F M' c' r (numB 9 n) ∧ Gr c M c' M' := by
  refine calls_walk h ?_
  simp only [WX, B18]
  obtain ⟨I, hI⟩ : ∃ I : Nat → St → Prop, ∀ f s, I f s ↔ (∃ (m b : Nat) (pre : List UInt8) (M1 : Mem) (c1 : Nat) (acc : V) (u : List (Option V)), m < 18446744073709551616 ∧ m < 128 ^ (f + 1) ∧ pre.length + f ≤ 9 ∧ numB 9 n = pre ++ numB f m ∧ s = .mk ((.n (.n (.n (uv3 u 15 7 23) (some (acc)) (uv3 u 19 11 27)) (uO u 1) (uv7 u 17 9 25 5 21 13 29)) (some (.i .u64 (m : Int))) (.n (uv7 u 16 8 24 4 20 12 28) (uO u 2) (uv7 u 18 10 26 6 22 14 30)))) [] M1 c1 ∧ Gr c M c1 M1 ∧ AccAt M1 c c1 b 5 1 acc (pre.map fun x => [bV x])) := ⟨fun n s => _, fun _ _ => Iff.rfl⟩
  refine wp_while I ?_ 9 _ ((hI _ _).2 ⟨n, 0, [], _, _, _, [none, _, _, none, _, _, _, _, _, _, _, _, _, _, _, _, _, _, _, _, _, _, _, _, _, _, _, _, _, _, _], hn, by omega, Nat.le_refl _, rfl, rfl, Gr.refl ok, .nil⟩)
  intro f s hIs
  obtain ⟨m, b, pre, M1, c1, acc, u, hm, hmf, hpf, he, rfl, hg, hacc⟩ := (hI _ _).1 hIs
  clear hIs
  have ok1 := hg.ok ok
  have hgx := fun x => hg.set c1 x hg.le (Nat.lt_succ_self _) (Nat.le_succ _)
  have hacc' := fun x => hacc.up (M' := M1.set c1 x) (c' := c1 + 1) (by omega) (fun hb => get_ne _ _ (by omega))
  have hro : ∀ y : UInt8, room ((pre.map fun x => [bV x]).length + ([[bV y]] : List (List V)).length) 1 = true := fun y => room_of (by rw [bE_len, List.length_singleton]; omega) (by rw [bE_len, List.length_singleton]; omega)
  by_cases hlt : m ≤ 127
  · have d1 : decide ((127 : Int) < (m : Int)) = false := decide_eq_false (by omega)
    have q3 : IntKind.u8.wrap (m : Int) = (m : Int) := by rw [wrap_u8]; omega
    simp only [WX, B18, d1, q3]
    rw [numB_lo f m hlt] at he
    rw [← byte_nat m (by omega)]
    refine putE_to ((appV_to (hacc' _) (hgx _) Nat.one_pos (sl_one (get_same _ _ _) (by omega)) (bV_one _) (hro _)).mono ?_)
    rintro v2 M2 c2 ⟨b2, hacc2, hg2, -⟩
    simp only [WX]
    refine ⟨?_, hg2⟩
    rw [he, SlB, List.map_append]
    exact hacc2.sl
  · have d1 : decide ((127 : Int) < (m : Int)) = true := decide_eq_true (by omega)
    obtain ⟨f, rfl⟩ : ∃ f', f = f' + 1 := by
      cases f with
      | zero => exact absurd (show m < 128 from hmf) (by omega)
      | succ f => exact ⟨f, rfl⟩
    have q1 : biV .rem (.i .u64 (m : Int)) (.i .u64 128) = some (.i .u64 ((m % 128 : Nat) : Int)) := u64_rem m 128 (by omega)
    have q2 : biV .add (.i .u64 ((m % 128 : Nat) : Int)) (.i .u64 128) = some (.i .u64 ((m % 128 + 128 : Nat) : Int)) := u64_add (m % 128) 128 (by omega)
    have q3 : IntKind.u8.wrap ((m % 128 + 128 : Nat) : Int) = ((m % 128 + 128 : Nat) : Int) := by rw [wrap_u8]; omega
    have q5 : biV .quo (.i .u64 (m : Int)) (.i .u64 128) = some (.i .u64 ((m / 128 : Nat) : Int)) := u64_quo m 128 (by omega) hm
    simp only [WX, B18, d1, q1, q2, q3]
    rw [numB_hi f m (by omega)] at he
    rw [← byte_nat (m % 128 + 128) (by omega)]
    refine putE_to ((appV_to (hacc' _) (hgx _) Nat.one_pos (sl_one (get_same _ _ _) (by omega)) (bV_one _) (hro _)).mono ?_)
    rintro v2 M2 c2 ⟨b2, hacc2, hg2, -⟩
    simp only [WX, B18, q5]
    refine ⟨f, Nat.lt_succ_self _, (hI _ _).2 ⟨m / 128, b2, pre ++ [UInt8.ofNat (m % 128 + 128)], _, _, _, [none, _, _, none, _, _, _, _, _, _, _, _, _, _, _, _, _, _, _, _, _, _, _, _, _, _, _, _, _, _, _], by omega, div128 hmf, by rw [List.length_append, List.length_singleton]; omega, by rw [he, List.append_assoc]; rfl, rfl, hg2, ?_⟩⟩
    rw [List.map_append]; exact hacc2
end Go.Proofs.YtfghalikfoflgaaGreatDoor.Ev
set_option maxRecDepth 10000
set_option maxHeartbeats 4000000
namespace Go.Proofs.YtfghalikfoflgaaGreatDoor.Ev
open Go
theorem sl_nil0 {M : Mem} {F : RO} {b c : Nat} (hb : b < c) : SlAt F M c 1 (.l b 0 0 0) [] := ⟨fun e he => (by cases he), .inr ⟨b, 0, .inl ⟨0, Nat.le_refl _, rfl⟩, hb, fun k hk => (by cases hk)⟩⟩
def AccJ (M : Mem) (c0 c : Nat) (v : V) (l : List UInt8) : Prop := (l = [] ∧ ∃ b, b < c ∧ v = .l b 0 0 0) ∨ (l ≠ [] ∧ ∃ b, AccAt M c0 c b 5 1 v (l.map fun x => [bV x]))
theorem AccJ.sl {M : Mem} {F : RO} {c0 c : Nat} {v : V} {l : List UInt8} (h : AccJ M c0 c v l) : SlB F M c v l := by
  rcases h with ⟨rfl, b, hb, rfl⟩ | ⟨_, b, h⟩
  · exact sl_nil0 hb
  · exact h.sl
theorem appV_nil {M : Mem} {F : RO} {c b ty : Nat} {y : V} (hy : SlAt F M c 1 y []) : appV F M c ty 1 1 (.l b 0 0 0) y = .k (.l b 0 0 0) M c := by
  unfold appV
  rw [split_sl Nat.one_pos hy]
  rfl
theorem appJ {M0 M : Mem} {F : RO} {c0 c : Nat} {v y : V} {l l2 : List UInt8} (h : AccJ M c0 c v l) (hg : Gr c0 M0 c M) (hy : SlB F M c y l2) (hl : l.length + l2.length ≤ 1000000) :
    RTo (appV F M c 5 1 1 v y) fun v' M' c' => AccJ M' c0 c' v' (l ++ l2) ∧ Gr c0 M0 c' M' := by
  have hro : room ((l.map fun x => [bV x]).length + (l2.map fun x => [bV x]).length) 1 = true := room_of (by rw [bE_len, bE_len]; omega) (by rw [bE_len, bE_len]; omega)
  rcases h with ⟨rfl, b, hb, rfl⟩ | ⟨hne, b, h⟩
  · by_cases h2 : l2 = []
    · subst h2
      exact ⟨_, _, _, appV_nil hy, .inl ⟨rfl, b, hb, rfl⟩, hg⟩
    · refine (appL_to (es := []) (ns := l2.map fun x => [bV x]) (sl_nil0 hb) rfl Nat.one_pos hy (by simpa using h2) (allOne_sl _) hro).mono ?_
      rintro v' M' c' ⟨rfl, rfl, rfl⟩
      refine ⟨.inr ⟨by simpa using h2, c, ⟨fun e he => ?_, .inr ⟨hg.le, Nat.lt_succ_self _, rfl, get_same _ _ _⟩⟩⟩, hg.set c _ hg.le (Nat.lt_succ_self _) (Nat.le_succ _)⟩
      rw [List.nil_append] at he
      obtain ⟨x, _, rfl⟩ := List.mem_map.1 he
      rfl
  · refine (appV_to (bytes := 1) h hg Nat.one_pos hy (allOne_sl _) hro).mono ?_
    rintro v' M' c' ⟨b', h', hg', -⟩
    refine ⟨.inr ⟨by simp [hne], b', ?_⟩, hg'⟩
    rw [List.map_append]; exact h'
noncomputable def b11_1 : CC := (.reg [(paa pa6 (.bsl 5 0 1 [(.i .u8 0)] [])), (pqq pa3 (.mv pz6))])
noncomputable def b11_2 : CC := (.reg [(pqq pa7 (.mv pz0)), (pqq pa8 (.ln .slice pz7)), (pqq pa9 (.mv (px6 0)))])
noncomputable def b11_3 : CC := (.reg [(pqq pa10 (.bi .lss pz9 pz8))])
noncomputable def b11_4 : CC := (.reg [(pqq pa11 (.iaS 1 pz7 pz9)), (pqq pa12 (.ld1 pz11)), (pqq pa5 (.mv pz12))])
noncomputable def b11_5 : CC := (.reg [(pqq pa13 (.mv pz3)), (pqq pa14 (.mv pz5)), (pee pa15 (.app 5 1 1 pz13 pz14)), (pqq pa3 (.mv pz15))])
noncomputable def b11_6 : CC := (.reg [(pqq pa16 (.bi .add pz9 (px6 1))), (pqq pa9 (.mv pz16))])
noncomputable def b11_7 : CC := (.seq (.cond pz10 .skip (.exit 0)) (.seq (.block 1 (.seq b11_4 b11_5)) b11_6))
noncomputable def b11_8 : CC := (.reg [(pqq pa17 (.mv pz3)), (pqq pa2 (.mv pz17))])
noncomputable def b11_9 : CC := (.seq (.seq b11_2 (.block 0 (.loop (.seq b11_3 b11_7)))) (.seq b11_8 .ret))
noncomputable def b11_10 : CC := (.seq (.reg [(pqq pa2 (.mv (.c .l0)))]) (.seq b11_1 b11_9))
noncomputable def c11 : CF := .mk 5 [.t pa2] b11_10
theorem e11 (v0 : V) : argTr 5 [v0] = (.n sk4 (some v0) sk4) := rfl
def B11 := ai @e11 (ai (wu b11_1.eq_1) (ai (wu b11_2.eq_1) (ai (wu b11_3.eq_1) (ai (wu b11_4.eq_1) (ai (wu b11_5.eq_1) (ai (wu b11_6.eq_1) (ai (wu b11_7.eq_1) (ai (wu b11_8.eq_1) (ai (wu b11_9.eq_1) (wu b11_10.eq_1))))))))))
theorem w11 (Φ : Nat → Option CF) (h : Φ 11 = some c11) {F : RO} {M : Mem} {c : Nat} {v : V} {vs : List V} {ls : List (List UInt8)} (ok : Okm F M c) (hs : SlAt F M c 1 v (vs.map fun x => [x])) (hvl : vs.length = ls.length) (hv : ∀ i (h : i < vs.length) (h' : i < ls.length), SlB F M c vs[i] ls[i]) (hl : ls.flatten.length ≤ 1000000) (hn : ls.length ≤ 1000) :
    Calls Φ F 11 [v] M c fun r M' c' => SlB F M' c' r ls.flatten ∧ Gr c M c' M' := by
  refine calls_walk h ?_
  have hln : lnL v = some (.i .i64 (vs.length : Int)) := by have := hs.len; rwa [List.length_map] at this
  simp only [WX, B11, hln]
  have hg0 := fun x => (Gr.refl ok).set c x (Nat.le_refl _) (Nat.lt_succ_self _) (Nat.le_succ _)
  obtain ⟨I, hI⟩ : ∃ I : Nat → St → Prop, ∀ n s, I n s ↔ (∃ (i : Nat) (M1 : Mem) (c1 : Nat) (acc : V) (u : List (Option V)), n = vs.length - i ∧ i ≤ vs.length ∧ s = .mk ((.n (.n (.n (.n (uv1 u 15) (some (v)) (uv1 u 23)) (some (acc)) (uv3 u 19 11 27)) (uO u 1) (.n (.n (uv1 u 17) (some (.i .i64 (i : Int))) (uv1 u 25)) (uO u 5) (uv3 u 21 13 29))) (uO u 0) (.n (.n (.n (uv1 u 16) (some (.i .i64 (vs.length : Int))) (uv1 u 24)) (uO u 4) (uv3 u 20 12 28)) (uO u 2) (uv7 u 18 10 26 6 22 14 30)))) [] M1 c1 ∧ Gr c M c1 M1 ∧ AccJ M1 c c1 acc (ls.take i).flatten) := ⟨fun n s => _, fun _ _ => Iff.rfl⟩
  refine wp_while I ?_ vs.length _ ((hI _ _).2 ⟨0, _, _, _, [_, _, _, none, _, _, _, none, none, none, _, _, _, _, _, _, _, _, _, _, _, _, _, _, _, _, _, _, _, _, _], rfl, Nat.zero_le _, rfl, hg0 _, .inl ⟨rfl, c, Nat.lt_succ_self _, rfl⟩⟩)
  intro n s hIs
  obtain ⟨i, M1, c1, acc, u, rfl, hi, rfl, hg, hacc⟩ := (hI _ _).1 hIs
  clear hIs
  by_cases hlt : i < vs.length
  · have hd : decide ((i : Int) < (vs.length : Int)) = true := decide_eq_true (by omega)
    have hlt' : i < ls.length := by omega
    obtain ⟨pb, po, hpb, hia, hld⟩ := (hs.grow hg).one i (by rw [List.length_map]; exact hlt) (x := vs[i]) (by rw [List.getElem_map])
    have hia := hia .i64
    have hvi := (hv i hlt hlt').grow hg
    simp only [WX, B11, hd, hia, hld]
    have hsum : (ls.take (i + 1)).flatten = (ls.take i).flatten ++ ls[i] := by
      rw [List.take_succ_eq_append_getElem hlt', List.flatten_append]; simp
    have hle : (ls.take (i + 1)).flatten.length ≤ ls.flatten.length := by
      conv => rhs; rw [← List.take_append_drop (i + 1) ls, List.flatten_append, List.length_append]
      omega
    refine putE_to ((appJ hacc hg hvi (by rw [hsum, List.length_append] at hle; omega)).mono ?_)
    rintro v2 M2 c2 ⟨hacc2, hg2⟩
    rw [← hsum] at hacc2
    have q8 : biV .add (.i .i64 (i : Int)) (.i .i64 1) = some (.i .i64 ((i + 1 : Nat) : Int)) := by rw [i64_add _ _ (by omega) (by omega)]; simp
    simp only [WX, B11, q8]
    exact ⟨vs.length - (i + 1), by omega, (hI _ _).2 ⟨i + 1, M2, _, v2, [_, _, _, none, _, _, _, none, none, none, _, _, _, _, _, _, _, _, _, _, _, _, _, _, _, _, _, _, _, _, _], rfl, by omega, rfl, hg2, hacc2⟩⟩
  · have hd : decide ((i : Int) < (vs.length : Int)) = false := decide_eq_false (by omega)
    simp only [WX, B11, hd]
    obtain rfl : i = vs.length := by omega
    rw [hvl, List.take_length] at hacc
    exact ⟨hacc.sl, hg⟩
end Go.Proofs.YtfghalikfoflgaaGreatDoor.Ev
set_option maxRecDepth 10000
set_option maxHeartbeats 4000000
namespace Go.Proofs.YtfghalikfoflgaaGreatDoor.Ev
open Go
def badZ (z : Int) : Bool := decide (z < 0) || decide (2147483647 < z)
noncomputable def b10_1 : CC := (.reg [(pqq pa3 (.mv pz0)), (pqq pa4 (.bi .lss pz3 (px6 0))), (pqq pa5 (.mv pz4)), ⟨(some pa6), .q (.mv pz0), (some (pa5, false))⟩, ⟨(some pa7), .q (.bi .gtr pz6 (px6 2147483647)), (some (pa5, false))⟩, (pqq pa8 (.pk pz5 pxT pz7)), (pqq pa2 (.mv pz8))])
noncomputable def b10_2 : CC := (.seq (.reg [(pqq pa2 (.mv pxF))]) (.seq b10_1 .ret))
noncomputable def c10 : CF := .mk 4 [.t pa2] b10_2
theorem e10 (v0 : V) : argTr 4 [v0] = (.n sk3 (some v0) sk3) := rfl
def B10 := ai @e10 (ai (wu b10_1.eq_1) (wu b10_2.eq_1))
theorem w10 (Φ : Nat → Option CF) (h : Φ 10 = some c10) {F : RO} {M : Mem} {c : Nat} (z : Int) :
    Calls Φ F 10 [.i .i64 z] M c fun r M' c' => r = .b (badZ z) ∧ M' = M ∧ c' = c := by
  refine calls_walk h ?_
  by_cases h1 : z < 0
  · have d1 : decide (z < 0) = true := decide_eq_true h1
    simp only [WX, B10, d1]
    unfold badZ; rw [d1]; rfl
  · have d1 : decide (z < 0) = false := decide_eq_false h1
    simp only [WX, B10, d1]
    unfold badZ; rw [d1]; rfl
theorem take_sn {α : Type} {l : List α} {i : Nat} (h : i < l.length) : l.take (i + 1) = l.take i ++ [l[i]] := List.take_succ_eq_append_getElem h
def zE (l : List Int) : List (List V) := l.map fun z => [.i .i64 z]
theorem zE_len (l : List Int) : (zE l).length = l.length := List.length_map ..
noncomputable def b24_1 : CC := (.reg [(pqq pa4 (.mv (px6 0)))])
noncomputable def b24_2 : CC := (.reg [(pqq pa6 (.mv pz0)), (pqq pa7 (.ln .slice pz6)), (pqq pa8 (.mv (px6 0)))])
noncomputable def b24_3 : CC := (.reg [(pqq pa9 (.bi .lss pz8 pz7))])
noncomputable def b24_4 : CC := (.reg [(pqq pa10 (.mv pz8)), (pqq pa5 (.mv pz10))])
noncomputable def b24_5 : CC := (.reg [(pqq pa11 (.mv pz1)), (pqq pa12 (.mv pz0)), (pqq pa13 (.mv pz5)), (pqq pa14 (.iaS 1 pz12 pz13)), (pqq pa15 (.ld1 pz14)), (pee pa16 (.cv pz11 [pz15]))])
noncomputable def b24_6 : CC := (.reg [(pqq pa17 (.mv pz5)), (pqq pa4 (.mv pz17))])
noncomputable def b24_7 : CC := (.seq b24_5 (.cond pz16 (.seq b24_6 .ret) .skip))
noncomputable def b24_8 : CC := (.reg [(pqq pa18 (.bi .add pz8 (px6 1))), (pqq pa8 (.mv pz18))])
noncomputable def b24_9 : CC := (.seq (.cond pz9 .skip (.exit 0)) (.seq (.block 1 (.seq b24_4 b24_7)) b24_8))
noncomputable def b24_10 : CC := (.reg [(pqq pa4 (.mv (px6 (-1))))])
noncomputable def b24_11 : CC := (.seq (.seq b24_2 (.block 0 (.loop (.seq b24_3 b24_9)))) (.seq b24_10 .ret))
noncomputable def c24 : CF := .mk 5 [.t pa4] (.seq b24_1 b24_11)
theorem e24 (v0 v1 : V) : argTr 5 [v0, v1] = (.n (.n sk3 (some v1) sk3) (some v0) sk4) := rfl
def B24 := ai @e24 (ai (wu b24_1.eq_1) (ai (wu b24_2.eq_1) (ai (wu b24_3.eq_1) (ai (wu b24_4.eq_1) (ai (wu b24_5.eq_1) (ai (wu b24_6.eq_1) (ai (wu b24_7.eq_1) (ai (wu b24_8.eq_1) (ai (wu b24_9.eq_1) (ai (wu b24_10.eq_1) (wu b24_11.eq_1)))))))))))
theorem w24 (Φ : Nat → Option CF) (h : Φ 24 = some c24) (h10 : Φ 10 = some c10) {F : RO} {M : Mem} {c : Nat} {v : V} {l : List Int} (ok : Okm F M c) (hs : SlAt F M c 1 v (zE l)) (hl : l.length ≤ 1000000) :
    Calls Φ F 24 [v, .f 10 [] []] M c fun r M' c' => (∃ z : Int, r = .i .i64 z ∧ (decide (0 ≤ z) = l.any badZ)) ∧ M' = M ∧ c' = c := by
  refine calls_walk h ?_
  have hln : lnL v = some (.i .i64 (l.length : Int)) := by have := hs.len; rwa [zE_len] at this
  simp only [WX, B24, hln]
  obtain ⟨I, hI⟩ : ∃ I : Nat → St → Prop, ∀ n s', I n s' ↔ (∃ (i : Nat) (u : List (Option V)), n = l.length - i ∧ i ≤ l.length ∧ s' = .mk ((.n (.n (.n (.n (uv1 u 15) (some (.i .i64 (l.length : Int))) (uv1 u 23)) (uO u 3) (uv3 u 19 11 27)) (some (.f 10 [] [])) (uv7 u 17 9 25 5 21 13 29)) (some (v)) (.n (.n (.n (uv1 u 16) (some (.i .i64 (i : Int))) (uv1 u 24)) (uO u 4) (uv3 u 20 12 28)) (uO u 2) (uv7 u 18 10 26 6 22 14 30)))) [] M c ∧ (l.take i).any badZ = false) := ⟨fun n s' => _, fun _ _ => Iff.rfl⟩
  refine wp_while I ?_ l.length _ ((hI _ _).2 ⟨0, [none, none, _, _, _, _, _, none, none, _, _, _, _, _, _, _, _, _, _, _, _, _, _, _, _, _, _, _, _, _, _], rfl, Nat.zero_le _, rfl, rfl⟩)
  intro n s' hIs
  obtain ⟨i, u, rfl, hi, rfl, hno⟩ := (hI _ _).1 hIs
  clear hIs
  by_cases hlt : i < l.length
  · have d1 : decide ((i : Int) < (l.length : Int)) = true := decide_eq_true (by omega)
    obtain ⟨pb, po, hpb, hia, hld⟩ := hs.one i (by rw [zE_len]; exact hlt) (x := .i .i64 l[i]) (by unfold zE; rw [List.getElem_map])
    have hia := hia .i64
    have htk := take_sn hlt
    generalize l[i] = p at hld htk
    simp only [WX, B24, d1, hia, hld]
    refine putE_to ((w10 Φ h10 p).mono ?_)
    rintro r M2 c2 ⟨rfl, rfl, rfl⟩
    have hany : (l.take (i + 1)).any badZ = badZ p := by rw [htk, List.any_append, hno]; simp
    have q8 : biV .add (.i .i64 (i : Int)) (.i .i64 1) = some (.i .i64 ((i + 1 : Nat) : Int)) := by rw [i64_add _ _ (by omega) (by omega)]; simp
    cases hb : badZ p with
    | false =>
      rw [hb] at hany
      simp only [WX, B24, q8]
      exact ⟨l.length - (i + 1), by omega, (hI _ _).2 ⟨i + 1, [none, none, _, _, _, _, _, none, none, _, _, _, _, _, _, _, _, _, _, _, _, _, _, _, _, _, _, _, _, _, _], rfl, by omega, rfl, hany⟩⟩
    | true =>
      rw [hb] at hany
      simp only [WX, B24]
      refine ⟨_, rfl, ?_⟩
      rw [decide_eq_true (by omega)]
      have hsp := List.take_append_drop (i + 1) l
      rw [← hsp, List.any_append, hany]; rfl
  · have d1 : decide ((i : Int) < (l.length : Int)) = false := decide_eq_false (by omega)
    simp only [WX, B24, d1]
    obtain rfl : i = l.length := by omega
    rw [List.take_length] at hno
    exact ⟨-1, rfl, by rw [hno]; rfl⟩
noncomputable def b9_1 : CC := (.reg [(pqq pa4 (.mv pxF))])
noncomputable def b9_2 : CC := (.reg [(pqq pa5 (.mv pz0)), (pqq pa6 (.mv pz1)), (pee pa7 (.call 24 [pz5, pz6])), (pqq pa8 (.bi .geq pz7 (px6 0))), (pqq pa4 (.mv pz8))])
noncomputable def c9 : CF := .mk 4 [.t pa4] (.seq b9_1 (.seq b9_2 .ret))
theorem e9 (v0 v1 : V) : argTr 4 [v0, v1] = (.n (.n sk2 (some v1) sk2) (some v0) sk3) := rfl
def B9 := ai @e9 (ai (wu b9_1.eq_1) (wu b9_2.eq_1))
theorem w9 (Φ : Nat → Option CF) (h : Φ 9 = some c9) (h24 : Φ 24 = some c24) (h10 : Φ 10 = some c10) {F : RO} {M : Mem} {c : Nat} {v : V} {l : List Int} (ok : Okm F M c) (hs : SlAt F M c 1 v (zE l)) (hl : l.length ≤ 1000000) :
    Calls Φ F 9 [v, .f 10 [] []] M c fun r M' c' => r = .b (l.any badZ) ∧ M' = M ∧ c' = c := by
  refine calls_walk h ?_
  simp only [WX, B9]
  refine putE_to ((w24 Φ h24 h10 ok hs hl).mono ?_)
  rintro r M2 c2 ⟨⟨z, rfl, hz⟩, rfl, rfl⟩
  have hz' : decide (z ≥ 0) = l.any badZ := hz
  simp only [WX, hz]
end Go.Proofs.YtfghalikfoflgaaGreatDoor.Ev
set_option maxRecDepth 10000
set_option maxHeartbeats 4000000
namespace Go.Proofs.YtfghalikfoflgaaGreatDoor.Ev
open Go
def numsB (ns : List Nat) : List UInt8 := (ns.map (numB 9)).flatten
theorem numsB_snoc (ns : List Nat) (n : Nat) : numsB (ns ++ [n]) = numsB ns ++ numB 9 n := by
  unfold numsB; rw [List.map_append, List.flatten_append]; simp
theorem numsB_len : ∀ ns : List Nat, (numsB ns).length ≤ 10 * ns.length
  | [] => Nat.le_refl _
  | n :: ns => by
    have h1 := numsB_len ns
    have h2 := numB_len 9 n
    show (numB 9 n ++ numsB ns).length ≤ _
    rw [List.length_append, List.length_cons]; omega
def nE (l : List Nat) : List (List V) := l.map fun n : Nat => [V.i .i64 (n : Int)]
theorem nE_len (l : List Nat) : (nE l).length = l.length := List.length_map ..
def statN (zs : List Int) : List Nat := if zs.any badZ = true then [0, 0, 0, 0, 0] else zs.map Int.toNat
theorem zE_nE {zs : List Int} (h : zs.any badZ = false) : zE zs = nE (zs.map Int.toNat) := by
  unfold zE nE
  rw [List.map_map]
  refine List.map_congr_left fun z hz => ?_
  have hb : ¬ badZ z = true := fun hb => by rw [List.any_eq_true.2 ⟨z, hz, hb⟩] at h; cases h
  unfold badZ at hb
  simp only [Bool.or_eq_true, decide_eq_true_eq, not_or] at hb
  show _ = [V.i .i64 ((z.toNat : Nat) : Int)]
  rw [Int.toNat_of_nonneg (by omega)]
theorem statN_le {zs : List Int} : ∀ n ∈ statN zs, n ≤ 2147483647 := by
  intro n hn
  unfold statN at hn
  split at hn
  · simp only [List.mem_cons, List.mem_nil_iff, or_false, or_self] at hn; omega
  · rename_i hb
    obtain ⟨z, hz, rfl⟩ := List.mem_map.1 hn
    have hb : ¬ badZ z = true := fun h => hb (List.any_eq_true.2 ⟨z, hz, h⟩)
    unfold badZ at hb
    simp only [Bool.or_eq_true, decide_eq_true_eq, not_or] at hb
    omega
theorem sl_flat {F : RO} {M : Mem} {c sz : Nat} {v : V} {es : List (List V)} (h : SlAt F M c sz v es) : flatten v = [v] ∧ allOne [v] = true := by
  rcases h with ⟨_, ⟨rfl, rfl | ⟨b, o0, o, rfl⟩⟩ | ⟨b, o, ⟨cap, _, rfl⟩ | ⟨el, kn, _, rfl⟩, _⟩⟩ <;> exact ⟨rfl, rfl⟩
theorem wrap_u64n (n : Nat) (h : n ≤ 2147483647) : IntKind.u64.wrap (n : Int) = (n : Int) := by rw [wrap_u64]; omega
noncomputable def b4_1 : CC := (.reg [(paa pa1 (.bx 23 7 pz0)), (pqq pa2 (.mv (.c .l0)))])
def w4_1 := wu b4_1.eq_1
noncomputable def b4_2 : CC := (.reg [(pqq pa3 (.mv (px6 0)))])
def w4_2 := wu b4_2.eq_1
noncomputable def b4_3 : CC := (.reg [(pqq pa8 (.fa 1 pz1)), (pqq pa9 (.ld1 pz8))])
def w4_3 := wu b4_3.eq_1
noncomputable def b4_4 : CC := (.reg [(pqq pa3 (.mv (px6 1)))])
def w4_4 := wu b4_4.eq_1
noncomputable def b4_5 : CC := (.reg [(pqq pa10 (.mv pz3)), (pqq pa11 (.fa 2 pz1)), (pqq pa12 (.ld1 pz11)), (pqq pa13 (.fa 3 pz1)), (pqq pa14 (.ld1 pz13)), (pqq pa15 (.fa 4 pz1)), (pqq pa16 (.ld1 pz15)), (pqq pa17 (.fa 5 pz1)), (pqq pa18 (.ld1 pz17)), (paa pa19 (.bsl 3 5 1 [(.i .i64 0)] [(0, pz10), (1, pz12), (2, pz14), (3, pz16), (4, pz18)])), (pqq pa4 (.mv pz19))])
def w4_5 := wu b4_5.eq_1
noncomputable def b4_6 : CC := (.reg [(pqq pa20 (.mv pz4)), (pee pa21 (.call 9 [pz20, (.c (.f 10 [] []))]))])
def w4_6 := wu b4_6.eq_1
noncomputable def b4_7 : CC := (.reg [(paa pa22 (.mks 3 1 8 [(.i .i64 0)] (px6 5) (px6 5))), (pqq pa4 (.mv pz22))])
def w4_7 := wu b4_7.eq_1
noncomputable def b4_8 : CC := (.reg [(pqq pa23 (.mv pz4)), (pqq pa24 (.ln .slice pz23)), (pqq pa25 (.mv (px6 0)))])
def w4_8 := wu b4_8.eq_1
noncomputable def b4_9 : CC := (.reg [(pqq pa26 (.bi .lss pz25 pz24))])
def w4_9 := wu b4_9.eq_1
noncomputable def b4_10 : CC := (.reg [(pqq pa27 (.iaS 1 pz23 pz25)), (pqq pa28 (.ld1 pz27)), (pqq pa7 (.mv pz28))])
def w4_10 := wu b4_10.eq_1
noncomputable def b4_11 : CC := (.reg [(pqq pa29 (.mv pz5)), (pqq pa30 (.mv pz7)), (pqq pa31 (.ci .u64 pz30)), (pee pa32 (.call 12 [pz31])), (paa pa33 (.bsl 24 2 1 [.l0] [(0, pz29), (1, pz32)])), (pee pa34 (.call 11 [pz33])), (pqq pa5 (.mv pz34))])
def w4_11 := wu b4_11.eq_1
noncomputable def b4_12 : CC := (.reg [(pqq pa35 (.bi .add pz25 (px6 1))), (pqq pa25 (.mv pz35))])
def w4_12 := wu b4_12.eq_1
noncomputable def b4_13 : CC := (.seq (.cond pz26 .skip (.exit 0)) (.seq (.block 1 (.seq b4_10 b4_11)) b4_12))
def w4_13 := wu b4_13.eq_1
noncomputable def b4_14 : CC := (.reg [(pqq pa36 (.mv pz5)), (pqq pa2 (.mv pz36))])
def w4_14 := wu b4_14.eq_1
noncomputable def b4_15 : CC := (.seq (.seq b4_8 (.block 0 (.loop (.seq b4_9 b4_13)))) (.seq b4_14 .ret))
def w4_15 := wu b4_15.eq_1
noncomputable def b4_16 : CC := (.seq (.reg [(pqq pa5 (.mv (.c .l0)))]) b4_15)
def w4_16 := wu b4_16.eq_1
noncomputable def b4_17 : CC := (.seq (.seq b4_6 (.cond pz21 b4_7 .skip)) b4_16)
def w4_17 := wu b4_17.eq_1
noncomputable def b4_18 : CC := (.seq (.seq b4_3 (.cond pz9 b4_4 .skip)) (.seq b4_5 b4_17))
def w4_18 := wu b4_18.eq_1
noncomputable def c4 : CF := .mk 6 [.t pa2] (.seq b4_1 (.seq b4_2 b4_18))
theorem e4 (v0 : V) : argTr 6 [v0] = (.n sk5 (some v0) sk5) := rfl
def B4 := ai @e4 (ai @w4_1 (ai @w4_2 (ai @w4_3 (ai @w4_4 (ai @w4_5 (ai @w4_6 (ai @w4_7 (ai @w4_8 (ai @w4_9 (ai @w4_10 (ai @w4_11 (ai @w4_12 (ai @w4_13 (ai @w4_14 (ai @w4_15 (ai @w4_16 (ai @w4_17 (@w4_18))))))))))))))))))
theorem w4 (Φ : Nat → Option CF) (h : Φ 4 = some c4) (h9 : Φ 9 = some c9) (h24 : Φ 24 = some c24) (h10 : Φ 10 = some c10) (h12 : Φ 12 = some c12) (h11 : Φ 11 = some c11) {F : RO} {M : Mem} {c : Nat} (ok : Okm F M c) (zn zo zr zl zs zh : Int) (dir : Bool) :
    Calls Φ F 4 [.g [.i .i64 zn, .b dir, .i .i64 zo, .i .i64 zr, .i .i64 zl, .i .i64 zs, .i .i64 zh]] M c fun r M' c' => SlB F M' c' r (numsB (statN [if dir = true then 1 else 0, zo, zr, zl, zs])) ∧ Gr c M c' M' := by
  refine calls_walk h ?_
  have T : ∀ (M1 : Mem) (c1 : Nat) (v : V) (ns : List Nat) (u : List (Option V)), SlAt F M1 c1 1 v (nE ns) → Gr c M c1 M1 → ns.length = 5 → (∀ n ∈ ns, n ≤ 2147483647) → Wp b4_16 (K Φ none 4 F) (.mk ((.n (.n (.n (uv7 u 31 15 47 7 39 23 55) (uO u 3) (uv7 u 35 19 51 11 43 27 59)) (uO u 1) (.n (uv7 u 33 17 49 9 41 25 57) (uO u 5) (uv7 u 37 21 53 13 45 29 61))) (uO u 0) (.n (.n (uv7 u 32 16 48 8 40 24 56) (some (v)) (uv7 u 36 20 52 12 44 28 60)) (uO u 2) (.n (uv7 u 34 18 50 10 42 26 58) (uO u 6) (uv7 u 38 22 54 14 46 30 62))))) [] M1 c1) (endQ F [.t pa2] fun r M' c' => SlB F M' c' r (numsB ns) ∧ Gr c M c' M') := by
    intro M1 c1 v ns u hs hg hn hle
    have hln : lnL v = some (.i .i64 (ns.length : Int)) := by have := hs.len; rwa [nE_len] at this
    have ok1 := hg.ok ok
    simp only [WX, B4, hln]
    obtain ⟨I, hI⟩ : ∃ I : Nat → St → Prop, ∀ n s, I n s ↔ (∃ (i : Nat) (M2 : Mem) (c2 : Nat) (acc : V) (u : List (Option V)), n = ns.length - i ∧ i ≤ ns.length ∧ s = .mk ((.n (.n (.n (.n (uv3 u 31 15 47) (uO u 7) (.n (uv1 u 39) (some (v)) (uv1 u 55))) (uO u 3) (uv7 u 35 19 51 11 43 27 59)) (uO u 1) (.n (.n (uv3 u 33 17 49) (uO u 9) (.n (uv1 u 41) (some (.i .i64 (i : Int))) (uv1 u 57))) (some (acc)) (uv7 u 37 21 53 13 45 29 61))) (uO u 0) (.n (.n (.n (uv3 u 32 16 48) (uO u 8) (.n (uv1 u 40) (some (.i .i64 (ns.length : Int))) (uv1 u 56))) (uO u 4) (uv7 u 36 20 52 12 44 28 60)) (uO u 2) (.n (uv7 u 34 18 50 10 42 26 58) (uO u 6) (uv7 u 38 22 54 14 46 30 62))))) [] M2 c2 ∧ Gr c1 M1 c2 M2 ∧ SlB F M2 c2 acc (numsB (ns.take i))) := ⟨fun n s => _, fun _ _ => Iff.rfl⟩
    refine wp_while I ?_ ns.length _ ((hI _ _).2 ⟨0, _, _, _, [_, _, _, _, _, none, _, _, _, _, _, _, _, _, _, _, _, _, _, _, _, _, _, none, none, none, _, _, _, _, _, _, _, _, _, _, _, _, _, _, _, _, _, _, _, _, _, _, _, _, _, _, _, _, _, _, _, _, _, _, _, _, _], rfl, Nat.zero_le _, rfl, Gr.refl ok1, ⟨fun e he => (by cases he), .inl ⟨rfl, .inl rfl⟩⟩⟩)
    intro n s hIs
    obtain ⟨i, M2, c2, acc, u, rfl, hi, rfl, hg2, hacc⟩ := (hI _ _).1 hIs
    clear hIs
    have ok2 := hg2.ok ok1
    by_cases hlt : i < ns.length
    · have hd : decide ((i : Int) < (ns.length : Int)) = true := decide_eq_true (by omega)
      obtain ⟨pb, po, hpb, hia, hld⟩ := (hs.grow hg2).one i (by rw [nE_len]; exact hlt) (x := .i .i64 (ns[i] : Int)) (by unfold nE; rw [List.getElem_map])
      have hia := hia .i64
      have hx := hle _ (List.getElem_mem hlt)
      have htk := take_sn hlt
      generalize ns[i] = x at hld htk hx
      have hw := wrap_u64n x hx
      simp only [WX, B4, hd, hia, hld, hw]
      refine putE_to ((w12 Φ h12 ok2 (n := x) (by omega)).mono ?_)
      rintro r M3 c3 ⟨hr, hg3⟩
      obtain ⟨f1, o1⟩ := sl_flat hacc
      obtain ⟨f2, o2⟩ := sl_flat hr
      simp only [WX, Nat.reduceAdd, f1, o1, f2, o2]
      have hg4 := fun y => (hg2.trans hg3).set c3 y (by have := hg2.le; have := hg3.le; omega) (Nat.lt_succ_self _) (Nat.le_succ _)
      have hgy := fun y => hg3.set c3 y hg3.le (Nat.lt_succ_self _) (Nat.le_succ _)
      have hgz := fun y => (Gr.refl (hg3.ok ok2)).set c3 y (Nat.le_refl _) (Nat.lt_succ_self _) (Nat.le_succ _)
      refine putE_to ((w11 Φ h11 (vs := [acc, r]) (ls := [numsB (ns.take i), numB 9 x]) ((hg4 _).ok ok1) (slD (es := [[acc], [r]]) (get_same _ _ _) (Nat.lt_succ_self _) (by intro e he; simp only [List.mem_cons, List.mem_nil_iff, or_false] at he; rcases he with rfl | rfl <;> rfl) rfl) rfl (fun j hj hj' => ?_) ?_ (by simp)).mono ?_)
      · match j, hj with
        | 0, _ => exact hacc.grow (hgy _)
        | 1, _ => exact hr.grow (hgz _)
      · have h1 := numsB_len (ns.take i)
        have h2 := numB_len 9 x
        rw [List.length_take] at h1
        simp only [List.flatten_cons, List.flatten_nil, List.append_nil, List.length_append]
        omega
      rintro r5 M5 c5 ⟨hr5, hg5⟩
      have q8 : biV .add (.i .i64 (i : Int)) (.i .i64 1) = some (.i .i64 ((i + 1 : Nat) : Int)) := by rw [i64_add _ _ (by omega) (by omega)]; simp
      simp only [WX, B4, q8]
      refine ⟨ns.length - (i + 1), by omega, (hI _ _).2 ⟨i + 1, M5, _, r5, [_, _, _, _, _, none, _, _, _, _, _, _, _, _, _, _, _, _, _, _, _, _, _, none, none, none, _, _, _, _, _, _, _, _, _, _, _, _, _, _, _, _, _, _, _, _, _, _, _, _, _, _, _, _, _, _, _, _, _, _, _, _, _], rfl, by omega, rfl, (hg4 _).trans hg5, ?_⟩⟩
      rw [htk, numsB_snoc]
      simpa using hr5
    · have hd : decide ((i : Int) < (ns.length : Int)) = false := decide_eq_false (by omega)
      obtain rfl : i = ns.length := by omega
      rw [List.take_length] at hacc
      simp only [WX, B4, hd]
      exact ⟨hacc, hg.trans hg2⟩
  generalize hzs : ([if dir = true then 1 else 0, zo, zr, zl, zs] : List Int) = L
  have hL : L.length = 5 := by rw [← hzs]; rfl
  have key : ∀ (M1 : Mem) (c1 : Nat) (v : V) (u : List (Option V)), SlAt F M1 c1 1 v (zE L) → Gr c M c1 M1 → Wp b4_17 (K Φ none 4 F) (.mk ((.n (.n (.n (uv7 u 31 15 47 7 39 23 55) (uO u 3) (uv7 u 35 19 51 11 43 27 59)) (uO u 1) (.n (uv7 u 33 17 49 9 41 25 57) (uO u 5) (uv7 u 37 21 53 13 45 29 61))) (uO u 0) (.n (.n (uv7 u 32 16 48 8 40 24 56) (some (v)) (uv7 u 36 20 52 12 44 28 60)) (uO u 2) (.n (uv7 u 34 18 50 10 42 26 58) (uO u 6) (uv7 u 38 22 54 14 46 30 62))))) [] M1 c1) (endQ F [.t pa2] fun r M' c' => SlB F M' c' r (numsB (statN L)) ∧ Gr c M c' M') := by
    intro M1 c1 v u hs hg
    have ok1 := hg.ok ok
    simp only [WX, w4_6, w4_17]
    refine putE_to ((w9 Φ h9 h24 h10 ok1 hs (by omega)).mono ?_)
    rintro r M2 c2 ⟨rfl, rfl, rfl⟩
    cases hb : L.any badZ with
    | true =>
      have hm : ∀ b, mksA 3 1 8 [V.i .i64 0] (.i .i64 5) (.i .i64 5) b = some (.l b 0 5 5, .cells 3 5 true 0 false [V.i .i64 0] .e) := fun b => mksA_i 3 1 8 _ .i64 .i64 5 5 b (by omega) (by omega)
      simp only [WX, w4_7, hm]
      have he : statN L = [0, 0, 0, 0, 0] := if_pos hb
      rw [he]
      refine T _ _ _ [0, 0, 0, 0, 0] [_, _, _, _, none, _, _, _, _, _, _, _, _, _, _, _, _, _, _, _, _, _, _, _, _, _, _, _, _, _, _, _, _, _, _, _, _, _, _, _, _, _, _, _, _, _, _, _, _, _, _, _, _, _, _, _, _, _, _, _, _, _, _] ⟨?_, .inr ⟨c2, 0, .inl ⟨5, Nat.le_refl _, rfl⟩, Nat.lt_succ_self _, fun k hk => ?_⟩⟩ (hg.set c2 _ hg.le (Nat.lt_succ_self _) (Nat.le_succ _)) rfl (by rw [← he]; exact statN_le)
      · intro e he; simp only [nE, List.map_cons, List.map_nil, List.mem_cons, List.mem_nil_iff, or_false, or_self] at he; rw [he]; rfl
      · have hk : k < 5 := hk
        have hlk := look_some_M (F := F) (get_same M2 c2 (.cells 3 5 true 0 false [V.i .i64 0] .e))
        show asCells (look F _ c2) none (fun n d c => cell n d c (0 + k)) = _
        rw [hlk]
        match k, hk with
        | 0, _ => rfl
        | 1, _ => rfl
        | 2, _ => rfl
        | 3, _ => rfl
        | 4, _ => rfl
    | false =>
      simp only [WX]
      have he : statN L = L.map Int.toNat := if_neg (by rw [hb]; exact Bool.noConfusion)
      rw [he]
      exact T _ _ _ _ [_, _, _, _, none, _, _, _, _, _, _, _, _, _, _, _, _, _, _, _, _, _, _, _, _, _, _, _, _, _, _, _, _, _, _, _, _, _, _, _, _, _, _, _, _, _, _, _, _, _, _, _, _, _, _, _, _, _, _, _, _, _, _] (by rw [← zE_nE hb]; exact hs) hg (by rw [List.length_map, hL]) (by rw [← he]; exact statN_le)
  have hg0 := fun x y => ((Gr.refl ok).set c x (Nat.le_refl _) (Nat.lt_succ_self _) (Nat.le_succ _)).set (c + 1) y (Nat.le_succ _) (Nat.lt_succ_self _) (Nat.le_succ _)
  cases dir
  · simp only [WX, Nat.reduceAdd, e4, w4_1, w4_2, w4_3, w4_5, w4_18]
    refine key _ _ _ [_, _, _, _, none, _, _, _, _, _, _, _, _, _, _, _, _, _, _, _, _, _, _, _, _, _, _, _, _, _, _, _, _, _, _, _, _, _, _, _, _, _, _, _, _, _, _, _, _, _, _, _, _, _, _, _, _, _, _, _, _, _, _] (slD (d := [.i .i64 0]) (ty := 3) (by rw [← hzs]; exact get_same _ _ _) (Nat.lt_succ_self _) (by intro e he; obtain ⟨x, _, rfl⟩ := List.mem_map.1 he; rfl) ?_) (hg0 _ _)
    rw [zE_len, hL]
  · simp only [WX, Nat.reduceAdd, e4, w4_1, w4_2, w4_3, w4_4, w4_5, w4_18]
    refine key _ _ _ [_, _, _, _, none, _, _, _, _, _, _, _, _, _, _, _, _, _, _, _, _, _, _, _, _, _, _, _, _, _, _, _, _, _, _, _, _, _, _, _, _, _, _, _, _, _, _, _, _, _, _, _, _, _, _, _, _, _, _, _, _, _, _] (slD (d := [.i .i64 0]) (ty := 3) (by rw [← hzs]; exact get_same _ _ _) (Nat.lt_succ_self _) (by intro e he; obtain ⟨x, _, rfl⟩ := List.mem_map.1 he; rfl) ?_) (hg0 _ _)
    rw [zE_len, hL]
end Go.Proofs.YtfghalikfoflgaaGreatDoor.Ev
