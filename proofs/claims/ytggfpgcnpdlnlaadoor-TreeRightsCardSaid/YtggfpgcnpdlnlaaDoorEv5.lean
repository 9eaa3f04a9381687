/- What is proved here: pieces of the evaluator's soundness: if the evaluator comes to a value, the model's run comes to it, for every world and tape; no conditions beyond the hypotheses of each theorem. -/
import Derived.Test.YtggfpgcnpdlnlaaDoorEv4
import Derived.RangeFuncNested
import Derived.OrdersIn
set_option linter.unusedSimpArgs false
set_option linter.unusedVariables false
namespace Go.Proofs.YtggfpgcnpdlnlaaDoor.Ev
open Go

section
variable {P : Program} {E E' : Env} {F : RO} {M M' : Mem} {c c' : Nat → Prop} {ct ct' nt : Nat} {w w' : World} {t t' : T} {d d' : List Nat} {a : Act} {rd : Option Nat}

theorem takeDefs_cons (b : Nat) (ds : List Nat) (M : Mem) : takeDefs (b :: ds) M = match M.get b with
    | some (.defs false) => takeDefs ds (M.set b (.defs true))
    | _ => none := by
  show Option.rec (motive := fun _ => Option Mem) none (fun blk => takeD1 (takeDefs ds) M b blk) (M.get b) = _
  cases M.get b with
  | none => rfl
  | some blk =>
    cases blk with
    | defs x =>
      cases x with
      | true => rfl
      | false => exact Tr.force_eq _ _
    | _ => rfl

theorem leaves_ok {fn : Func} {R : Ending → World → Prop} {t : T} {tmps : Array Value} {M₂ : Mem} : ∀ (ds : List Nat) (M : Mem) (w : World), takeDefs ds M = some M₂ → Rel P E F M c w →
    (∀ w', Stp P F E M c w E M₂ c w' → ∃ v, (results fn tmps).run P w' = .ok v w' ∧ R (.returned v) w') →
    LeavesInM Fence.wide 0 P fn tmps R (ds.map fun b => { target := .collected (E.ρ b), args := #[] }) .returning w
  | [], M, w, hm, h, hR => by
    obtain rfl : M = M₂ := Option.some.inj hm
    exact hR w (.refl h)
  | b :: ds, M, w, hm, h, hR => by
    rw [takeDefs_cons] at hm
    split at hm
    · rename_i hM
      obtain ⟨_, _, o, ho, hrel⟩ := h.has _ _ (look_some_M hM)
      have hrel' : o = .deferred (some []) := hrel
      subst hrel'
      have hS := h.write b _ (.defs true) hM (.deferred none) trivial (w.putObj (E.ρ b) (.deferred none)) rfl rfl rfl rfl rfl
      refine ⟨by simp, .inl ⟨E.ρ b, w.putObj (E.ρ b) (.deferred none), rfl, run_takeDeferred ho, ?_⟩⟩
      exact leaves_ok (t := t) ds _ _ hm hS.rel fun w' hS' => hR w' (hS.trans hS')
    · cases hm

theorem callC_some {ex : ExF} {f : Nat} {args : List V} {o : Option CF} {v : V} (h : callC ex F f args M ct o = .k v M' ct') : ∃ res body e t1 d1 M1 vs, o = some (.mk res body) ∧ ex none f F body (.mk (argTr args) [] M ct) = .k e (.mk t1 d1 M1 ct') ∧ (e = .nrm ∨ e = .ret) ∧ takeDefs d1 M1 = some M' ∧ resV F M' t1 res = some vs ∧ v = oneV vs := by
  cases o with
  | none => cases (show RC.f = .k v M' ct' from h)
  | some cf =>
    obtain ⟨res, body⟩ := cf
    have h' : finish res F (ex none f F body (.mk (argTr args) [] M ct)) = .k v M' ct' := h
    cases hx : ex none f F body (.mk (argTr args) [] M ct) with
    | f => rw [hx] at h'; cases (show RC.f = .k v M' ct' from h')
    | k e s =>
      obtain ⟨t1, d1, M1, c1⟩ := s
      rw [hx] at h'
      have h2 : Bool.rec (motive := fun _ => RC) .f (finish1 res F t1 c1 (takeDefs d1 M1)) (isEnd e) = .k v M' ct' := h'
      rw [bb] at h2
      split at h2
      · rename_i he
        cases hm : takeDefs d1 M1 with
        | none => rw [hm] at h2; cases (show RC.f = .k v M' ct' from h2)
        | some M2 =>
          rw [hm] at h2
          have h3 : finish2 c1 M2 (resV F M2 t1 res) = .k v M' ct' := h2
          cases hr : resV F M2 t1 res with
          | none => rw [hr] at h3; cases (show RC.f = .k v M' ct' from h3)
          | some vs =>
            rw [hr] at h3
            have h4 : RC.k (oneV vs) M2 c1 = .k v M' ct' := h3
            injection h4 with e1 e2 e3
            subst e1 e2 e3
            refine ⟨res, body, e, t1, d1, M1, vs, rfl, hx, ?_, hm, hr, rfl⟩
            cases e with
            | nrm => exact .inl rfl
            | ret => exact .inr rfl
            | ext id => cases (show false = true from he)
            | gto l => cases (show false = true from he)
      · cases h2

theorem comp_some {fn : Func} {res : List RV} {body : CC} (h : comp P fn = some (.mk res body)) : (fn.name == "runtime.NumGoroutine") = false ∧ ∃ b, fn.body = some b ∧ Sim P fn.ntmps b body ∧ compRs P fn.results.toList = some res := by
  unfold comp at h
  split at h
  · cases h
  · rename_i hn
    refine ⟨by simpa using hn, ?_⟩
    split at h
    · cases h
    · rename_i b hb
      split at h
      · rename_i body' res' h1 h2
        injection h with h
        injection h with e1 e2
        subst e1 e2
        exact ⟨b, hb, ⟨_, h1⟩, h2⟩
      · cases h

/-- CALLS ARE SOUND -/
theorem callOk_of {Φ : Nat → Option CF} {ex : ExF} (hΦ : PhiOk P Φ) (hex : ExOk P ex) (rd : Option Nat) (fn : Nat) (F₀ : RO) : CallOk P (.mk Φ ex rd fn F₀) := by
  intro F f args M ct v M' ct' h E c w hrel hglob hbig hfr hargs
  have h' : callC ex F f args M ct (Φ f) = .k v M' ct' := h
  obtain ⟨res, body, e, t1, d1, M1, vs, ho, hx, he, hm, hr, rfl⟩ := callC_some h'
  obtain ⟨fn', hfn, hcomp⟩ := hΦ f _ ho
  obtain ⟨hnm, b, hb, hsim, hres⟩ := comp_some hcomp
  refine ⟨fn', hfn, by rw [hb]; rfl, hnm, ?_⟩
  refine (callsIn_wide (n := 0)).1 (callsIn_of_wp_marks hfn hb trivial ?_)
  have hSR : SR P F none fn'.ntmps E c w { tmps := (concs E args).toArray ++ Array.replicate (fn'.ntmps - (concs E args).toArray.size) Go.undef, defers := [] } (argTr args) [] M ct :=
    ⟨⟨hrel, hglob, hbig, argTr_rel E args _, argTr_bd hargs⟩, hfr, rfl, fun b hb => by simp at hb, by simp; omega, fun l hl => by cases hl⟩
  refine hex none f F body _ [] M ct e t1 d1 M1 ct' hx fn'.ntmps b hsim E c w _ hSR _ ?_
  rintro a' w' ⟨E', c', hS, hG, hR⟩
  have key : LeavesInM Fence.wide 0 P fn' a'.tmps (fun e w' => ∃ E' c', e = .returned (conc E' (oneV vs)) ∧ Stp P F E M c w E' M' c' w' ∧ bd c' (oneV vs) ∧ Grow c ct c' ct') a'.defers .returning w' := by
    rw [hR.df]
    refine leaves_ok (t := t1) d1 M1 w' hm hR.cx.rel fun w2 hS2 => ?_
    have hcx : Cx P E' F M' c' w2 t1 a' := ⟨hS2.rel, hR.cx.glob, hR.cx.big, hR.cx.tr, hR.cx.bt⟩
    have hres' := results_ok hcx hres hr
    exact ⟨_, hres'.1, E', c', rfl, hS.trans hS2, hres'.2, hG⟩
  rcases he with rfl | rfl
  · exact key
  · exact key

end
end Go.Proofs.YtggfpgcnpdlnlaaDoor.Ev

namespace Go.Proofs.YtggfpgcnpdlnlaaDoor.Ev
open Go

section
variable {P : Program} {E E' : Env} {F : RO} {M M' : Mem} {c c' : Nat → Prop} {ct ct' nt : Nat} {w w' : World} {t t' : T} {d d' : List Nat} {a : Act} {rd : Option Nat}

theorem loopOf_some {o : Option Blk} {s : LS} {pe : Pend} {fn : Nat} {tm : T} {ps : List Pos} {asg body : CC} {dn : Nat} (h : loopOf o = .k s pe fn tm ps asg body dn) : o = some (.loop s pe fn tm ps asg body dn) := by
  unfold loopOf at h
  split at h
  · injection h with e1 e2 e3 e4 e5 e6 e7 e8
    subst e1 e2 e3 e4 e5 e6 e7 e8
    rfl
  · cases h

theorem setParams_ok {E : Env} : ∀ (ps : List Nat) (vs : List V) (t t' : T) (tmps : Array Value), setParams (ps.map posOf) vs t = some t' → TRel E t tmps → (∀ p ∈ ps, p < tmps.size) →
    ps.length = vs.length ∧ TRel E t' ((ps.zip (concs E vs)).foldl (fun tm (p : Nat × Value) => tm.setIfInBounds p.1 p.2) tmps)
  | [], [], t, t', tmps, h, ht, _ => by
    obtain rfl : t = t' := Option.some.inj h
    exact ⟨rfl, ht⟩
  | p :: ps, v :: vs, t, t', tmps, h, ht, hp => by
    have h' : setParams (ps.map posOf) vs (t.setP (posOf p) v) = some t' := by
      have : (t.setP (posOf p) v).force (fun t => setParams (ps.map posOf) vs t) = some t' := h
      rwa [Tr.force_eq] at this
    have h1 : TRel E (t.setP (posOf p) v) (tmps.setIfInBounds p (conc E v)) :=
      TRel_put (a := ⟨tmps, []⟩) (dst := some p) ht (fun k hk => by cases hk; exact hp p (by simp)) rfl
    have ih := setParams_ok ps vs _ t' _ h' h1 (fun q hq => by simpa using hp q (by simp [hq]))
    exact ⟨by simp [ih.1], by simpa [concs] using ih.2⟩
  | [], _ :: _, t, t', tmps, h, _, _ => by cases h
  | _ :: _, [], t, t', tmps, h, _, _ => by cases h

theorem setParams_bd : ∀ (ps : List Pos) (vs : List V) (t t' : T), setParams ps vs t = some t' → bds c vs → bdT c t → bdT c t'
  | [], [], t, t', h, _, ht => by obtain rfl : t = t' := Option.some.inj h; exact ht
  | p :: ps, v :: vs, t, t', h, hv, ht => by
    have h' : setParams ps vs (t.setP p v) = some t' := by
      have : (t.setP p v).force (fun t => setParams ps vs t) = some t' := h
      rwa [Tr.force_eq] at this
    exact setParams_bd ps vs _ t' h' hv.2 (bdT_put (dst := some p) ht hv.1)
  | [], _ :: _, t, t', h, _, _ => by cases h
  | _ :: _, [], t, t', h, _, _ => by cases h

theorem foldl_size (ps : List (Nat × Value)) : ∀ tmps : Array Value, (ps.foldl (fun tm (p : Nat × Value) => tm.setIfInBounds p.1 p.2) tmps).size = tmps.size := by
  induction ps with
  | nil => intro tmps; rfl
  | cons p ps ih => intro tmps; rw [List.foldl_cons, ih]; simp

end
end Go.Proofs.YtggfpgcnpdlnlaaDoor.Ev

namespace Go.Proofs.YtggfpgcnpdlnlaaDoor.Ev
open Go

section
variable {P : Program} {E E' : Env} {F : RO} {M M' : Mem} {c c' : Nat → Prop} {ct ct' nt : Nat} {w w' : World} {t t' : T} {d d' : List Nat} {a : Act} {rd : Option Nat}

theorem callY_some {Φ : Nat → Option CF} {ex : ExF} {rd₀ : Option Nat} {fn₀ : Nat} {l : Nat} {args : List V} {o : Option Blk} {v : V} (h : callY (.mk Φ ex rd₀ fn₀ F) l args M ct (loopOf o) = .k v M' ct') :
    ∃ pe fn tm ps asg body dn tp t1 M1 ct1 pe1 fn1 tm1 ps1 a1 b1 dn1 e t2 M3 s3 pe3 fn3 tm3 ps3 a3 b3 dn3 s4 pe4 r, o = some (.loop .ready pe fn tm ps asg body dn) ∧ setParams ps args tm = some tp ∧
      ex (some l) fn F asg (.mk tp [] M ct) = .k .nrm (.mk t1 [] M1 ct1) ∧ M1.get l = some (.loop .ready pe1 fn1 tm1 ps1 a1 b1 dn1) ∧
      ex (some l) fn F body (.mk t1 [] (M1.set l (.loop .busy pe1 fn1 tm1 ps1 a1 b1 dn1)) ct1) = .k e (.mk t2 [] M3 ct') ∧ M3.get l = some (.loop s3 pe3 fn3 tm3 ps3 a3 b3 dn3) ∧
      ((e = .nrm ∧ s4 = .ready ∧ pe4 = .none ∧ r = true) ∨ (e = .ret ∧ s4 = .done ∧ pe4 = .ret ∧ r = false) ∨ (∃ id, e = .ext id ∧ s4 = .done ∧ pe4 = .ext id ∧ r = false)) ∧
      v = .b r ∧ M' = M3.set l (.loop s4 pe4 fn3 tm3 ps3 a3 b3 dn3) := by
  cases hl : loopOf o with
  | f => rw [hl] at h; cases h
  | k s pe fn tm ps asg body dn =>
    rw [hl] at h
    cases s with
    | ready =>
      have ho := loopOf_some hl
      cases hp : setParams ps args tm with
      | none =>
        have h1 : y_go (.mk Φ ex rd₀ fn₀ F) l fn asg body M ct (setParams ps args tm) = .k v M' ct' := h
        rw [hp] at h1; cases h1
      | some tp =>
        have h1 : y_go (.mk Φ ex rd₀ fn₀ F) l fn asg body M ct (setParams ps args tm) = .k v M' ct' := h
        rw [hp] at h1
        have h2 : y_asg (.mk Φ ex rd₀ fn₀ F) l fn body (ex (some l) fn F asg (.mk tp [] M ct)) = .k v M' ct' := h1
        unfold y_asg at h2
        split at h2
        · rename_i t1 M1 ct1 hx1
          unfold y_body at h2
          split at h2
          · rename_i pe1 fn1 tm1 ps1 a1 b1 dn1 hl1
            rw [Tr.force_eq] at h2
            have h3 : y_done l (ex (some l) fn F body (.mk t1 [] (M1.set l (.loop .busy pe1 fn1 tm1 ps1 a1 b1 dn1)) ct1)) = .k v M' ct' := h2
            unfold y_done at h3
            split at h3
            · cases h3
            · rename_i e t2 d2 M3 ct2 hx2
              split at h3
              · have key : ∀ (s4 : LS) (pe4 : Pend) (r : Bool), y_end M3 l ct2 s4 pe4 r (loopOf (M3.get l)) = .k v M' ct' → ∃ s3 pe3 fn3 tm3 ps3 a3 b3 dn3, M3.get l = some (.loop s3 pe3 fn3 tm3 ps3 a3 b3 dn3) ∧ v = .b r ∧ M' = M3.set l (.loop s4 pe4 fn3 tm3 ps3 a3 b3 dn3) ∧ ct' = ct2 := by
                  intro s4 pe4 r hy
                  unfold y_end at hy
                  split at hy
                  · rename_i s3 pe3 fn3 tm3 ps3 a3 b3 dn3 hl3
                    rw [setM_eq] at hy
                    injection hy with g1 g2 g3
                    exact ⟨_, _, _, _, _, _, _, _, loopOf_some hl3, g1.symm, g2.symm, g3.symm⟩
                  · cases hy
                split at h3
                · obtain ⟨s3, pe3, fn3, tm3, ps3, a3, b3, dn3, hM3, hv, hM', hct⟩ := key _ _ _ h3
                  subst hct
                  exact ⟨pe, fn, tm, ps, asg, body, dn, tp, t1, M1, ct1, pe1, fn1, tm1, ps1, a1, b1, dn1, _, t2, M3, s3, pe3, fn3, tm3, ps3, a3, b3, dn3, .ready, .none, true, ho, hp, hx1, loopOf_some hl1, hx2, hM3, .inl ⟨rfl, rfl, rfl, rfl⟩, hv, hM'⟩
                · obtain ⟨s3, pe3, fn3, tm3, ps3, a3, b3, dn3, hM3, hv, hM', hct⟩ := key _ _ _ h3
                  subst hct
                  exact ⟨pe, fn, tm, ps, asg, body, dn, tp, t1, M1, ct1, pe1, fn1, tm1, ps1, a1, b1, dn1, _, t2, M3, s3, pe3, fn3, tm3, ps3, a3, b3, dn3, .done, .ret, false, ho, hp, hx1, loopOf_some hl1, hx2, hM3, .inr (.inl ⟨rfl, rfl, rfl, rfl⟩), hv, hM'⟩
                · rename_i id
                  obtain ⟨s3, pe3, fn3, tm3, ps3, a3, b3, dn3, hM3, hv, hM', hct⟩ := key _ _ _ h3
                  subst hct
                  exact ⟨pe, fn, tm, ps, asg, body, dn, tp, t1, M1, ct1, pe1, fn1, tm1, ps1, a1, b1, dn1, _, t2, M3, s3, pe3, fn3, tm3, ps3, a3, b3, dn3, .done, .ext id, false, ho, hp, hx1, loopOf_some hl1, hx2, hM3, .inr (.inr ⟨id, rfl, rfl, rfl, rfl⟩), hv, hM'⟩
                · cases h3
              · cases h3
          · cases h2
        · cases h2
    | _ => cases h

end
end Go.Proofs.YtggfpgcnpdlnlaaDoor.Ev

namespace Go.Proofs.YtggfpgcnpdlnlaaDoor.Ev
open Go

section
variable {P : Program} {E E' : Env} {F : RO} {M M' : Mem} {c c' : Nat → Prop} {ct ct' nt : Nat} {w w' : World} {t t' : T} {d d' : List Nat} {a : Act} {rd : Option Nat}

/-- YIELDS ARE SOUND -/
theorem yieldOk_of {Φ : Nat → Option CF} {ex : ExF} (hex : ExOk P ex) (rd₀ : Option Nat) (fn₀ : Nat) (F₀ : RO) : YieldOk P (.mk Φ ex rd₀ fn₀ F₀) := by
  intro F l args M ct v M' ct' h E c w rd hrel hglob hbig hfr hargs
  obtain ⟨pe, fn, tm, ps, asg, body, dn, tp, t1, M1, ct1, pe1, fn1, tm1, ps1, a1, b1, dn1, e, t2, M3, s3, pe3, fn3, tm3, ps3, a3, b3, dn3, s4, pe4, r, ho, hp, hx1, hM1, hx2, hM3, hcase, rfl, rfl⟩ := callY_some (rd₀ := rd₀) (fn₀ := fn₀) h
  obtain ⟨hcl, hbd, ob, hob, fn', tmps, params, ca, cb, rfl, htr, hps, nt, hnt, hpar, hsa, hsb⟩ := hrel.has _ _ (look_some_M ho)
  subst hps
  obtain ⟨hlen, htr'⟩ := setParams_ok params.toList args tm tp tmps hp htr (fun p hp' => Nat.lt_of_lt_of_le (hpar p hp') hnt)
  have hy := run_yield (P := P) (args := (concs E args).toArray) hob (by simp [concs_map]; rw [← hlen]; simp)
  have hfold : (params.zip (concs E args).toArray).foldl (fun tmps (t, a) => tmps.setIfInBounds t a) tmps = (params.toList.zip (concs E args)).foldl (fun tm (p : Nat × Value) => tm.setIfInBounds p.1 p.2) tmps := by
    rw [← Array.foldl_toList]
    simp
  simp only [hfold] at hy
  refine ⟨fn', _, ca, cb, hy, roundIn_of_wpIn trivial ?_⟩
  have hSR : SR P F (some l) nt E c w { tmps := (params.toList.zip (concs E args)).foldl (fun tm (p : Nat × Value) => tm.setIfInBounds p.1 p.2) tmps, defers := [] } tp [] M ct :=
    ⟨⟨hrel, hglob, hbig, htr', setParams_bd _ _ _ _ hp hargs hbd.1⟩, hfr, rfl, fun b hb => by simp at hb, by rw [foldl_size]; exact hnt, fun l' hl' => by cases hl'; exact hcl⟩
  refine hex (some l) fn F asg tp [] M ct .nrm t1 [] M1 ct1 hx1 nt ca hsa E c w _ hSR _ ?_
  rintro a1' w1 ⟨E1, c1, hS1, hG1, hR1⟩
  obtain ⟨hcl1, hbd1, ob1, hob1, fn1', tmps1, params1, ca1, cb1, rfl, htr1, hps1, hnt1⟩ := hR1.cx.rel.has _ _ (look_some_M hM1)
  have hρ1 : E1.ρ l = E.ρ l := hS1.ext.ρ l hcl
  have hbr := run_beginRound (P := P) (l := E.ρ l) (by rw [← hρ1]; exact hob1) rfl
  refine ⟨_, hbr, ?_⟩
  have hS2 := hR1.cx.rel.write l _ (.loop .busy pe1 fn1 tm1 ps1 a1 b1 dn1) hM1 (.loop { state := .busy, pending := peOf pe1, fn := fn1', tmps := tmps1, params := params1, assign := ca1, body := cb1, defers := E1.ρ dn1 }) hbd1
    (w1.putObj (E.ρ l) (.loop { state := .busy, pending := peOf pe1, fn := fn1', tmps := tmps1, params := params1, assign := ca1, body := cb1, defers := E1.ρ dn1 })) (by rw [hρ1]; rfl) rfl rfl rfl
    ⟨fn1', tmps1, params1, ca1, cb1, rfl, htr1, hps1, hnt1⟩
  have hSR2 := hR1.stp hS2 (.refl _ _)
  have hfe : fence E1 (some l) = (fence E rd).inRound (E.ρ l) := by unfold fence Fence.inRound; simp [hρ1]
  rw [← hfe]
  refine hex (some l) fn F body t1 [] _ ct1 e t2 [] M3 ct' hx2 nt cb hsb E1 c1 _ _ hSR2 _ ?_
  rintro a2 w3 ⟨E3, c3, hS3, hG3, hR3⟩
  obtain ⟨hcl3, hbd3, ob3, hob3, fn3', tmps3, params3, ca3, cb3, rfl, htr3, hps3, hnt3⟩ := hR3.cx.rel.has _ _ (look_some_M hM3)
  have hρ3 : E3.ρ l = E.ρ l := (hS3.ext.ρ l hcl1).trans hρ1
  have fin : ∀ (jump : Option Code), lsOf s4 = (if jump.isNone then .ready else .done) → peOf pe4 = jump → r = jump.isNone →
      ∃ v' w', (Instr.endRound (E.ρ l) jump).run P w3 = .ok v' w' ∧ ∃ E' c', Ending.returned v' = .returned (conc E' (.b r)) ∧ Stp P F E M c w E' (M3.set l (.loop s4 pe4 fn3 tm3 ps3 a3 b3 dn3)) c' w' ∧ bd c' (.b r) ∧ Grow c ct c' ct' := by
    intro jump h1 h2 h3
    have her := run_endRound (P := P) (l := E.ρ l) jump (by rw [← hρ3]; exact hob3)
    refine ⟨_, _, her, E3, c3, by rw [h3]; rfl, ?_, trivial, hG1.trans hG3⟩
    refine ((hS1.trans hS2).trans hS3).trans (hR3.cx.rel.write l _ (.loop s4 pe4 fn3 tm3 ps3 a3 b3 dn3) hM3 (.loop { state := if jump.isNone then .ready else .done, pending := jump, fn := fn3', tmps := tmps3, params := params3, assign := ca3, body := cb3, defers := E3.ρ dn3 }) hbd3 _ (by rw [hρ3]; rfl) rfl rfl rfl ?_)
    exact ⟨fn3', tmps3, params3, ca3, cb3, by rw [h1, h2], htr3, hps3, hnt3⟩
  rcases hcase with ⟨rfl, rfl, rfl, rfl⟩ | ⟨rfl, rfl, rfl, rfl⟩ | ⟨id, rfl, rfl, rfl, rfl⟩
  · exact fin none rfl rfl rfl
  · exact fin (some .ret) rfl rfl rfl
  · exact fin (some (.exit id)) rfl rfl rfl

end
end Go.Proofs.YtggfpgcnpdlnlaaDoor.Ev

namespace Go.Proofs.YtggfpgcnpdlnlaaDoor.Ev
open Go

section
variable {Fn : Fence} {n : Nat} {P : Program} {b : Frame} {a : Act} {k : List Item} {cs : List Frame} {w : World} {Q : Exit → Act → World → Prop}

theorem stepR_scope {c : Code} : step P (lone (b.atR a (.code (.scope c) :: k)) cs w) = .next (lone (b.atR a (.code c :: .inScope c :: k)) cs w) :=
  step_lone_go (by simp [stepG, stepG.exec, Frame.atR])
theorem stepR_inScope {c : Code} : step P (lone (b.atR a (.inScope c :: k)) cs w) = .next (lone (b.atR a k) cs w) :=
  step_lone_go (by simp [stepG, stepG.exec, Frame.atR])

theorem wpIn_scope {c : Code} (h : c.wpIn Fn n P (fun e a w => (∀ l, e ≠ .goto l) ∧ Q e a w) a w) : (Code.scope c).wpIn Fn n P Q a w := by
  intro b k cs hro hb hr
  have h0 : (lone (b.atR a (.code (.scope c) :: k)) cs w).fenced P Fn := fenced_calm hb hr rfl
  obtain ⟨e, a₁, w₁, hq, harr⟩ := h b (.inScope c :: k) cs hro hb hr
  have hx : ∀ id, exitTo id (.inScope c :: k) = exitTo id k := fun id => by simp [exitTo]
  cases e with
  | normal => exact ⟨.normal, a₁, w₁, hq.2, .head h0 stepR_scope (StepsIn.trans harr (.one (fenced_calm hb hr rfl) stepR_inScope))⟩
  | exit id =>
    exact ⟨.exit id, a₁, w₁, hq.2, fun k' hk => .head h0 stepR_scope (harr.1 k' (by rw [hx]; exact hk)),
      fun hr' hk => let ⟨k₁, h1, h2⟩ := harr.2 hr' (by rw [hx]; exact hk); ⟨k₁, h1, .head h0 stepR_scope h2⟩⟩
  | goto l => exact absurd rfl (hq.1 l)
  | ret => exact ⟨_, a₁, w₁, hq.2, .of_steps (.one h0 stepR_scope) harr⟩
  | panic ch => exact ⟨_, a₁, w₁, hq.2, .of_steps (.one h0 stepR_scope) harr⟩
  | outgrown => exact ⟨_, a₁, w₁, hq.2, .of_steps (.one h0 stepR_scope) harr⟩
end

end Go.Proofs.YtggfpgcnpdlnlaaDoor.Ev

namespace Go.Proofs.YtggfpgcnpdlnlaaDoor.Ev
open Go

section
variable {P : Program} {E E' : Env} {F : RO} {M M' : Mem} {c c' : Nat → Prop} {ct ct' nt : Nat} {w w' : World} {t t' : T} {d d' : List Nat} {a : Act} {rd : Option Nat}

/-- drawn regions -/
def DrOk (P : Program) (k : Kn) : Prop := ∀ (F : RO) (rd : Option Nat) (nt id : Nat) (ops : Array Oper) (cos : List CO), compOs P nt ops ops.toList = some cos → ∀ (n : Nat) (l : List (Nat × Nat × CO)), dregC ops cos = .dreg n l →
  ∀ (t : T) (d : List Nat) (M : Mem) (ct : Nat) (e : Ex) (t' : T) (d' : List Nat) (M' : Mem) (ct' : Nat), c_dreg n l (knF k F) (.mk t d M ct) = .k e (.mk t' d' M' ct') →
  ∀ (E : Env) (c : Nat → Prop) (w : World) (a : Act), SR P F rd nt E c w a t d M ct → ∀ Q : Exit → Act → World → Prop, (∀ a' w', Res P F rd nt E c w M ct t' d' M' ct' a' w' → Q (exOf e) a' w') → (Code.region id ops true).wpIn (fence E rd) 0 P Q a w

theorem peOf_code {pe : Pend} {n : Nat} {Fn : Fence} {Q : Exit → Act → World → Prop} {e : Ex} {s : St} {s' : St} (h : rfPend s pe = .k e s') (hq : Q (exOf e) a w) :
    (match peOf pe with
     | none => Q .normal a w
     | some c => c.wpIn Fn n P Q a w) := by
  cases pe with
  | none =>
    have h' : Rs.k .nrm s = .k e s' := h
    injection h' with h1 h2
    subst h1
    exact hq
  | ret =>
    have h' : Rs.k .ret s = .k e s' := h
    injection h' with h1 h2
    subst h1
    exact wpIn_ret hq
  | ext id =>
    have h' : Rs.k (.ext id) s = .k e s' := h
    injection h' with h1 h2
    subst h1
    exact wpIn_exit hq

theorem rfPend_st {pe : Pend} {e : Ex} {s s' : St} (h : rfPend s pe = .k e s') : s' = s := by
  cases pe with
  | none => have h' : Rs.k .nrm s = .k e s' := h; injection h' with h1 h2; exact h2.symm
  | ret => have h' : Rs.k .ret s = .k e s' := h; injection h' with h1 h2; exact h2.symm
  | ext id => have h' : Rs.k (.ext id) s = .k e s' := h; injection h' with h1 h2; exact h2.symm

theorem rfDone_some {l : Nat} {r : RC} {e : Ex} {s' : St} (h : rfDone t d l r = .k e s') : ∃ v M1 c1 s pe fn tm ps a b dn, r = .k v M1 c1 ∧ M1.get l = some (.loop s pe fn tm ps a b dn) ∧ s ≠ .busy ∧
    rfPend (.mk t d (M1.set l (.loop .exhausted pe fn tm ps a b dn)) c1) pe = .k e s' := by
  cases r with
  | f => cases (show Rs.f = .k e s' from h)
  | k v M1 c1 =>
    have h1 : rfEnd t d M1 c1 l (loopOf (M1.get l)) = .k e s' := h
    cases hl : loopOf (M1.get l) with
    | f => rw [hl] at h1; cases (show Rs.f = .k e s' from h1)
    | k s pe fn tm ps a b dn =>
      rw [hl] at h1
      refine ⟨v, M1, c1, s, pe, fn, tm, ps, a, b, dn, rfl, loopOf_some hl, ?_, ?_⟩
      · rintro rfl; cases (show Rs.f = .k e s' from h1)
      · unfold rfEnd at h1
        split at h1
        · cases h1
        · rename_i heq
          injection heq with e1 e2 e3 e4 e5 e6 e7 e8
          subst e1 e2 e3 e4 e5 e6 e7 e8
          split at h1
          · cases h1
          · rw [Tr.force_eq] at h1; exact h1

theorem callI_some {k : Kn} {v : V} {args : List V} {x : V} (h : callI k v args M ct = .k x M' ct') : ∃ f first caps, v = .f f first caps ∧ callF k f (first ++ (args ++ caps)) M ct = .k x M' ct' := by
  cases v with
  | f f first caps => exact ⟨f, first, caps, rfl, h⟩
  | _ => cases (show RC.f = .k x M' ct' from h)

/-- the statement that ranges over a function, behind its record -/
theorem rfGo_ok {Φ : Nat → Option CF} {ex : ExF} (hΦ : PhiOk P Φ) (hex : ExOk P ex) {fn₀ : Nat} {g : Operand} {ps : Array Tmp} {ca cb : Code} {x : X} {asg body : CC} (hx : compX g = some x)
    (hsa : Sim P nt ca asg) (hsb : Sim P nt cb body) (hps : ∀ p ∈ ps.toList, p < nt) {dn : Nat} {e : Ex} {s' : St}
    (h : rfGo x (ps.toList.map posOf) asg body (.mk Φ ex rd fn₀ F) t d M ct dn = .k e s') (hdn : c dn)
    (hSR : SR P F rd nt E c w a t d M ct) {Q : Exit → Act → World → Prop} {fn : Nat} {mark : List Deferred} {w₁ : World}
    {w₀ : World} {a₀ : Act} (he : (Instr.enterLoop fn a₀.tmps ps ca cb (rd.map E.ρ)).run P w₀ = .ok (w.heap.size, mark) w₁)
    (hw₁ : w₁ = w.alloc (.loop { state := .ready, pending := none, fn, tmps := a₀.tmps, params := ps, assign := ca, body := cb, defers := E.ρ dn }))
    (ha : a = { a₀ with defers := mark ++ a₀.defers })
    (hQ : ∀ t' d' M' ct', s' = .mk t' d' M' ct' → ∀ a' w', Res P F rd nt E c w M ct t' d' M' ct' a' w' → Q (exOf e) a' w') :
    ∃ (l : Nat) (mark : List Deferred) (w₁ : World) (d : Deferred) (w₁' : World) (f : FuncId) (args : Array Value) (w₂ : World),
      (Instr.enterLoop fn a₀.tmps ps ca cb (fence E rd).round).run P w₀ = .ok (l, mark) w₁ ∧
      (resolve a₀.eval (rangeCall g l) 0).run P w₁ = .ok d w₁' ∧
      (∀ f', Target.leads P w₁' d.target d.args = some f' → (fence E rd).fn f') ∧
      (invoke d.target d.args).run P w₁' = .ok (.enter f args) w₂ ∧
      ((fence E rd).depth.isSome = true → 1 ≤ 0) ∧
      CallsIn (fence E rd) (0 - 1) P f args w₂ (rangePost (fence E rd) 0 P l Q { a₀ with defers := mark ++ a₀.defers }) := by
  have h1 : rfDone t d ct (callI (.mk Φ ex rd fn₀ F) (x.ev t) [.y ct] (M.set ct (.loop .ready .none fn₀ t (ps.toList.map posOf) asg body dn)) (ct + 1)) = .k e s' := by
    unfold rfGo at h
    dsimp only at h
    rw [Tr.force_eq, fN_eq] at h
    exact h
  obtain ⟨v, M1, c1, s, pe, fn1, tm1, ps1, a1, b1, dn1, hr, hM1, hbusy, hpend⟩ := rfDone_some h1
  obtain ⟨f, first, caps, hv, hcf⟩ := callI_some hr
  -- the record
  have htm : a₀.tmps = a.tmps := by rw [ha]
  obtain ⟨E1, hS1, hE1, hρ1, hβ1, _⟩ := hSR.cx.rel.alloc (.loop .ready .none fn₀ t (ps.toList.map posOf) asg body dn) (.loop { state := .ready, pending := none, fn, tmps := a₀.tmps, params := ps, assign := ca, body := cb, defers := E.ρ dn }) ct 0 (fun b => c b ∨ b = ct) (hSR.fr ct (Nat.le_refl _)) (.inr rfl) (fun _ h => .inl h)
    ⟨fun p => bd_mono (fun _ h => .inl h) _ (hSR.cx.bt p), .inl hdn⟩ w₁ (by rw [hw₁]; rfl) (by rw [hw₁]; rfl) (by rw [hw₁]; rfl) (by rw [hw₁]; rfl)
    (fun E2 hE2 _ _ _ => ⟨fn, a₀.tmps, ps, ca, cb, by rw [hE2.ρ dn hdn]; rfl, by rw [htm]; exact hSR.cx.tr.ext hE2 hSR.cx.bt, rfl, nt, by rw [htm]; exact hSR.sz, hps, hsa, hsb⟩)
  have hG1 : Grow c ct (fun b => c b ∨ b = ct) (ct + 1) := grow_one c ct
  have hSR1 := hSR.stp hS1 hG1
  have ev := hSR1.cx.ev hx
  rw [hv] at ev
  have hcall := callOk_of hΦ hex rd fn₀ F
  have hcf' : callF (knF (.mk Φ ex rd fn₀ F) F) f (first ++ ([.y ct] ++ caps)) (M.set ct (.loop .ready .none fn₀ t (ps.toList.map posOf) asg body dn)) (ct + 1) = .k v M1 c1 := hcf
  obtain ⟨fn', hfn, hbo, hnm, hC⟩ := hcall F f _ _ _ _ _ _ hcf' E1 _ w₁ hSR1.cx.rel hSR1.cx.glob hSR1.cx.big hSR1.fr (bds_append ev.2.1 (bds_append (⟨.inr rfl, trivial⟩) ev.2.2))
  have hcfn : (callFunc f (concs E1 (first ++ ([.y ct] ++ caps))).toArray).run P w₁ = .ok (.enter f (concs E1 (first ++ ([.y ct] ++ caps))).toArray) w₁ := by
    have h1 : ¬ fn'.name = "runtime.NumGoroutine" := by simpa using hnm
    have h2 : ¬ fn'.body = none := fun e => by rw [e] at hbo; cases hbo
    simp [callFunc, hfn, h1, h2]
  have hge : a₀.eval g = .func (.func f) (concs E1 first).toArray (concs E1 caps).toArray := by
    have : a.eval g = a₀.eval g := by rw [ha]; rfl
    rw [← this, ev.1]; rfl
  refine ⟨w.heap.size, mark, w₁, ⟨.fn (.func f) (concs E1 caps).toArray, (concs E1 first).toArray ++ #[.func (.yield w.heap.size) #[] #[]]⟩, w₁, f, (concs E1 (first ++ ([.y ct] ++ caps))).toArray, w₁, he, ?_, fun _ _ => trivial, ?_, fun hd => by simp [fence] at hd, ?_⟩
  · have hm : (rangeCall g w.heap.size).args.map a₀.eval = #[.func (.yield w.heap.size) #[] #[]] := by simp [Act.eval]
    show (Deferred.ofValue (a₀.eval g) ((rangeCall g w.heap.size).args.map a₀.eval)).run P w₁ = _
    rw [hm, hge]; rfl
  · have : (concs E1 first).toArray ++ #[.func (.yield w.heap.size) #[] #[]] ++ (concs E1 caps).toArray = (concs E1 (first ++ ([.y ct] ++ caps))).toArray := by
      rw [concs_append, concs_append]
      simp [concs, conc, hρ1]
    simp only [invoke, this]
    exact hcfn
  · rw [← fence_ext hS1.ext hSR.rd]
    refine callsIn_any (hC.mono ?_)
    rintro e2 w2 ⟨E2, c2, rfl, hS2, hb2, hG2⟩
    obtain ⟨hcl, hbd, ob, hob, fn3, tmps3, params3, ca3, cb3, rfl, htr3, hps3, hnt3⟩ := hS2.rel.has _ _ (look_some_M hM1)
    have hρ2 : E2.ρ ct = w.heap.size := (hS2.ext.ρ ct (.inr rfl)).trans hρ1
    have hen := run_endLoop (P := P) (l := w.heap.size) (by rw [← hρ2]; exact hob) (by cases s <;> first | exact absurd rfl hbusy | (intro h; cases h))
    refine ⟨_, _, hen, ?_⟩
    have hS3 := hS2.rel.write ct _ (.loop .exhausted pe fn1 tm1 ps1 a1 b1 dn1) hM1 (.loop { state := .exhausted, pending := peOf pe, fn := fn3, tmps := tmps3, params := params3, assign := ca3, body := cb3, defers := E2.ρ dn1 }) hbd
      (w2.putObj w.heap.size (.loop { state := .exhausted, pending := peOf pe, fn := fn3, tmps := tmps3, params := params3, assign := ca3, body := cb3, defers := E2.ρ dn1 })) (by rw [hρ2]; rfl) rfl rfl rfl
      ⟨fn3, tmps3, params3, ca3, cb3, rfl, htr3, hps3, hnt3⟩
    have hst := rfPend_st hpend
    refine peOf_code hpend ?_
    have hR := (hSR1.stp hS2 hG2).stp hS3 (.refl _ _)
    rw [← ha]
    refine hQ _ _ _ _ hst a _ ⟨E2, c2, (hS1.trans hS2).trans hS3, hG1.trans hG2, hR⟩

end
end Go.Proofs.YtggfpgcnpdlnlaaDoor.Ev

namespace Go.Proofs.YtggfpgcnpdlnlaaDoor.Ev
open Go

section
variable {P : Program} {E E' : Env} {F : RO} {M M' : Mem} {c c' : Nat → Prop} {ct ct' nt : Nat} {w w' : World} {t t' : T} {d d' : List Nat} {a : Act} {rd : Option Nat}

theorem r_seq_some {f : Kn → St → Rs} {k : Kn} {r : Rs} {e : Ex} {s' : St} (h : r_seq f k r = .k e s') : (∃ s1, r = .k .nrm s1 ∧ f k s1 = .k e s') ∨ (e ≠ .nrm ∧ r = .k e s') := by
  cases r with
  | f => cases (show Rs.f = .k e s' from h)
  | k e1 s1 =>
    cases e1 with
    | nrm => exact .inl ⟨s1, rfl, h⟩
    | ret => have h' : Rs.k .ret s1 = .k e s' := h; injection h' with h1 h2; subst h1 h2; exact .inr ⟨(fun h => by cases h), rfl⟩
    | ext id => have h' : Rs.k (.ext id) s1 = .k e s' := h; injection h' with h1 h2; subst h1 h2; exact .inr ⟨(fun h => by cases h), rfl⟩
    | gto l => have h' : Rs.k (.gto l) s1 = .k e s' := h; injection h' with h1 h2; subst h1 h2; exact .inr ⟨(fun h => by cases h), rfl⟩

theorem r_loop_some {b : CC} {k : Kn} {r : Rs} {e : Ex} {s' : St} (h : r_loop b k r = .k e s') : (∃ s1, r = .k .nrm s1 ∧ again k (.loop b) s1 = .k e s') ∨ (e ≠ .nrm ∧ r = .k e s') := by
  cases r with
  | f => cases (show Rs.f = .k e s' from h)
  | k e1 s1 =>
    cases e1 with
    | nrm => exact .inl ⟨s1, rfl, h⟩
    | ret => have h' : Rs.k .ret s1 = .k e s' := h; injection h' with h1 h2; subst h1 h2; exact .inr ⟨(fun h => by cases h), rfl⟩
    | ext id => have h' : Rs.k (.ext id) s1 = .k e s' := h; injection h' with h1 h2; subst h1 h2; exact .inr ⟨(fun h => by cases h), rfl⟩
    | gto l => have h' : Rs.k (.gto l) s1 = .k e s' := h; injection h' with h1 h2; subst h1 h2; exact .inr ⟨(fun h => by cases h), rfl⟩

theorem then_of_ne {K : Act → World → Prop} {Q : Exit → Act → World → Prop} {e : Ex} (he : e ≠ .nrm) (h : Q (exOf e) a w) : Exit.then K Q (exOf e) a w := by
  cases e with
  | nrm => exact absurd rfl he
  | _ => exact h

theorem r_block_some {id : Nat} {r : Rs} {e : Ex} {s' : St} (h : r_block id r = .k e s') : ∃ e1, r = .k e1 s' ∧ ∀ (Q : Exit → Act → World → Prop) (a : Act) (w : World), Q (exOf e) a w → Exit.inBlock id Q (exOf e1) a w := by
  cases r with
  | f => cases (show Rs.f = .k e s' from h)
  | k e1 s1 =>
    cases e1 with
    | nrm => have h' : Rs.k .nrm s1 = .k e s' := h; injection h' with h1 h2; subst h1 h2; exact ⟨_, rfl, fun _ _ _ h => h⟩
    | ret => have h' : Rs.k .ret s1 = .k e s' := h; injection h' with h1 h2; subst h1 h2; exact ⟨_, rfl, fun _ _ _ h => h⟩
    | gto l => have h' : Rs.k (.gto l) s1 = .k e s' := h; injection h' with h1 h2; subst h1 h2; exact ⟨_, rfl, fun _ _ _ h => h⟩
    | ext id' =>
      have h' : Bool.rec (motive := fun _ => Rs) (.k (.ext id') s1) (.k .nrm s1) (Nat.beq id' id) = .k e s' := h
      rw [bb, beqN] at h'
      split at h'
      · rename_i hid
        injection h' with h1 h2; subst h1 h2
        exact ⟨_, rfl, fun Q a w h => by simp only [exOf, Exit.inBlock]; rw [if_pos (of_decide_eq_true hid)]; exact h⟩
      · rename_i hid
        injection h' with h1 h2; subst h1 h2
        exact ⟨_, rfl, fun Q a w h => by simp only [exOf, Exit.inBlock]; rw [if_neg (by simpa using hid)]; exact h⟩

/-- CODE IS SOUND -/
theorem execC_ok {Φ : Nat → Option CF} {ex : ExF} (hΦ : PhiOk P Φ) (hex : ExOk P ex) {m : Nat} (hlp : LpOk P ex m) (hdr : ∀ rd fn F, DrOk P (.mk Φ ex rd fn F)) : ∀ (j : Nat) (code : Code) (cc : CC), compC P nt j code = some cc →
    ∀ (rd : Option Nat) (fn : Nat) (F : RO) (t : T) (d : List Nat) (M : Mem) (ct : Nat) (e : Ex) (t' : T) (d' : List Nat) (M' : Mem) (ct' : Nat),
    execC cc (.mk Φ ex rd fn F) (.mk t d M ct) = .k e (.mk t' d' M' ct') → ∀ (E : Env) (c : Nat → Prop) (w : World) (a : Act), SR P F rd nt E c w a t d M ct →
    ∀ Q : Exit → Act → World → Prop, (∀ a' w', Res P F rd nt E c w M ct t' d' M' ct' a' w' → Q (exOf e) a' w') → code.wpIn (fence E rd) 0 P Q a w := by
  intro j
  induction j with
  | zero => intro code cc hc; cases hc
  | succ j ih =>
    intro code cc hc rd fn F t d M ct e t' d' M' ct' hx E c w a h Q hQ
    have hcall := callOk_of hΦ hex rd fn F
    have hy := yieldOk_of (Φ := Φ) hex rd fn F
    unfold compC at hc
    cases code with
    | skip =>
      obtain rfl := Option.some.inj hc
      have hx' : Rs.k .nrm (.mk t d M ct) = .k e (.mk t' d' M' ct') := hx
      injection hx' with h1 h2; injection h2 with e1 e2 e3 e4; subst h1 e1 e2 e3 e4
      exact wpIn_skip (hQ a w h.res)
    | label l =>
      obtain rfl := Option.some.inj hc
      have hx' : Rs.k .nrm (.mk t d M ct) = .k e (.mk t' d' M' ct') := hx
      injection hx' with h1 h2; injection h2 with e1 e2 e3 e4; subst h1 e1 e2 e3 e4
      exact wpIn_label (hQ a w h.res)
    | region id ops dr =>
      cases dr with
      | false =>
        obtain ⟨cos, hcos, rfl⟩ := Option.map_eq_some_iff.1 hc
        have hx' : r_reg (seqOps cos (.mk Φ ex rd fn F) (.mk t d M ct)) = .k e (.mk t' d' M' ct') := hx
        cases hs : seqOps cos (.mk Φ ex rd fn F) (.mk t d M ct) with
        | none => rw [hs] at hx'; cases (show Rs.f = .k e (.mk t' d' M' ct') from hx')
        | some s1 =>
          rw [hs] at hx'
          have hx2 : Rs.k .nrm s1 = .k e (.mk t' d' M' ct') := hx'
          injection hx2 with h1 h2; subst h1 h2
          refine wpIn_region ?_
          have := seq_ok (F := F) (rd := rd) (nt := nt) hcall hy (ops := ops) (Q := Q) ops.toList cos 0 E c w a t M ct rfl hcos hs h hQ
          rw [← List.range_eq_range'] at this
          simpa using this
      | true =>
        dsimp only at hc
        split at hc
        · rename_i cos hcos
          have hc' := Option.some.inj hc
          cases hd : dregC ops cos with
          | dreg n l =>
            rw [hd] at hc'
            subst hc'
            exact hdr rd fn F F rd nt id ops cos hcos n l hd t d M ct e t' d' M' ct' hx E c w a h Q hQ
          | _ =>
            exfalso
            have hd' := hd
            unfold dregC dregD at hd'
            have hb : ∀ (b : Bool) (x y : CC), (bif b then x else y) = x ∨ (bif b then x else y) = y := by intro b; cases b <;> simp
            rcases hb (regOk ops.toList (Region.before ops).toList ops.size (canon (Region.before ops).toList cos ops.size 0)) (.dreg ops.size (canon (Region.before ops).toList cos ops.size 0)) .bad with hh | hh
            · rw [hh] at hd'; cases hd'
            · rw [hh] at hd'
              rw [hd] at hc'
              rw [← hd'] at hc'
              subst hc'
              cases (show Rs.f = .k e (.mk t' d' M' ct') from hx)
        · cases hc
    | seq x y =>
      dsimp only at hc
      split at hc
      · rename_i cx cy h1 h2
        obtain rfl := Option.some.inj hc
        have hx' : r_seq (execC cy) (.mk Φ ex rd fn F) (execC cx (.mk Φ ex rd fn F) (.mk t d M ct)) = .k e (.mk t' d' M' ct') := hx
        refine wpIn_seq ?_
        rcases r_seq_some hx' with ⟨⟨t1, d1, M1, ct1⟩, hx1, hx2⟩ | ⟨hne, hx1⟩
        · refine ih x cx h1 rd fn F t d M ct .nrm t1 d1 M1 ct1 hx1 E c w a h _ ?_
          rintro a1 w1 ⟨E1, c1, hS, hG, hR⟩
          show y.wpIn (fence E rd) 0 P Q a1 w1
          rw [← fence_ext hS.ext h.rd]
          exact ih y cy h2 rd fn F t1 d1 M1 ct1 e t' d' M' ct' hx2 E1 c1 w1 a1 hR Q fun a' w' hr => hQ a' w' (hr.trans hS hG)
        · exact ih x cx h1 rd fn F t d M ct e t' d' M' ct' hx1 E c w a h _ fun a' w' hr => then_of_ne hne (hQ a' w' hr)
      · cases hc
    | cond o x y =>
      dsimp only at hc
      split at hc
      · rename_i xo cx cy h0 h1 h2
        obtain rfl := Option.some.inj hc
        have hx' : onB (xo.ev t) Rs.f (fun b => Bool.rec (motive := fun _ => Rs) (execC cy (.mk Φ ex rd fn F) (.mk t d M ct)) (execC cx (.mk Φ ex rd fn F) (.mk t d M ct)) b) = .k e (.mk t' d' M' ct') := hx
        have ev := h.cx.ev h0
        cases hv : xo.ev t with
        | b v =>
          rw [hv] at hx' ev
          have hx2 : Bool.rec (motive := fun _ => Rs) (execC cy (.mk Φ ex rd fn F) (.mk t d M ct)) (execC cx (.mk Φ ex rd fn F) (.mk t d M ct)) v = .k e (.mk t' d' M' ct') := hx'
          cases v with
          | true => exact wpIn_cond_true ev.1 (ih x cx h1 rd fn F t d M ct e t' d' M' ct' hx2 E c w a h Q hQ)
          | false => exact wpIn_cond_false ev.1 (ih y cy h2 rd fn F t d M ct e t' d' M' ct' hx2 E c w a h Q hQ)
        | _ => rw [hv] at hx'; cases (show Rs.f = .k e (.mk t' d' M' ct') from hx')
      · cases hc
    | block id x =>
      obtain ⟨cx, h1, rfl⟩ := Option.map_eq_some_iff.1 hc
      have hx' : r_block id (execC cx (.mk Φ ex rd fn F) (.mk t d M ct)) = .k e (.mk t' d' M' ct') := hx
      obtain ⟨e1, hx1, hq⟩ := r_block_some hx'
      exact wpIn_block (ih x cx h1 rd fn F t d M ct e1 t' d' M' ct' hx1 E c w a h _ fun a' w' hr => hq Q a' w' (hQ a' w' hr))
    | loop x =>
      obtain ⟨cx, h1, rfl⟩ := Option.map_eq_some_iff.1 hc
      have hx' : r_loop cx (.mk Φ ex rd fn F) (execC cx (.mk Φ ex rd fn F) (.mk t d M ct)) = .k e (.mk t' d' M' ct') := hx
      refine wpIn_loop_rounds (m + 1) ?_
      rw [roundsIn_succ]
      rcases r_loop_some hx' with ⟨⟨t1, d1, M1, ct1⟩, hx1, hx2⟩ | ⟨hne, hx1⟩
      · refine ih x cx h1 rd fn F t d M ct .nrm t1 d1 M1 ct1 hx1 E c w a h _ ?_
        rintro a1 w1 ⟨E1, c1, hS, hG, hR⟩
        show Code.roundsIn (fence E rd) 0 P x Q m a1 w1
        rw [← fence_ext hS.ext h.rd]
        have hx3 : ex rd fn F (.loop cx) (.mk t1 d1 M1 ct1) = .k e (.mk t' d' M' ct') := hx2
        exact hlp rd fn F cx t1 d1 M1 ct1 e t' d' M' ct' hx3 nt x ⟨j, h1⟩ E1 c1 w1 a1 hR Q fun a' w' hr => hQ a' w' (hr.trans hS hG)
      · exact ih x cx h1 rd fn F t d M ct e t' d' M' ct' hx1 E c w a h _ fun a' w' hr => then_of_ne hne (hQ a' w' hr)
    | rangeFunc g ps ca cb =>
      dsimp only at hc
      split at hc
      · cases hc
      · rename_i hps0
        have hps : ∀ p ∈ ps.toList, p < nt := by
          intro p hp
          have h1 : (ps.toList.all fun p => decide (p < nt)) = true := by simpa using hps0
          exact of_decide_eq_true (List.all_eq_true.1 h1 p hp)
        split at hc
        · rename_i xg asg body h0 h1 h2
          obtain rfl := Option.some.inj hc
          refine wpIn_rangeFunc fun fn' _ => ?_
          cases rd with
          | none =>
            have hx' : rfGo xg (ps.toList.map posOf) asg body (.mk Φ ex none fn F) t (ct :: d) (M.set ct (.defs false)) (ct + 1) ct = .k e (.mk t' d' M' ct') := by
              have : (M.set ct (.defs false)).force (fun M => fN (Nat.succ ct) fun c' => rfGo xg (ps.toList.map posOf) asg body (.mk Φ ex none fn F) t (ct :: d) M c' ct) = .k e (.mk t' d' M' ct') := hx
              rwa [Tr.force_eq, fN_eq] at this
            obtain ⟨E1, hS1, hE1, hρ1, hβ1, _⟩ := h.cx.rel.alloc (.defs false) (.deferred (some [])) ct 0 (fun b => c b ∨ b = ct) (h.fr ct (Nat.le_refl _)) (.inr rfl) (fun _ h => .inl h) trivial (w.alloc (.deferred (some []))) rfl rfl rfl rfl (fun _ _ _ _ _ => rfl)
            have hG1 : Grow c ct (fun b => c b ∨ b = ct) (ct + 1) := grow_one c ct
            have hR1 := h.stp hS1 hG1
            have hR2 : SR P F none nt E1 (fun b => c b ∨ b = ct) (w.alloc (.deferred (some []))) { a with defers := [{ target := .collected w.heap.size, args := #[] }] ++ a.defers } t (ct :: d) (M.set ct (.defs false)) (ct + 1) :=
              ⟨⟨hR1.cx.rel, hR1.cx.glob, hR1.cx.big, hR1.cx.tr, hR1.cx.bt⟩, hR1.fr, by rw [List.map_cons, hρ1, ← hR1.df]; rfl, fun b hb => by
                rcases List.mem_cons.1 hb with rfl | hb
                · exact .inr rfl
                · exact hR1.dc b hb, hR1.sz, hR1.rd⟩
            have hf : fence E none = fence E1 none := rfl
            rw [hf]
            have hen := run_enterLoop_outer (P := P) (w := w) fn' a.tmps ps ca cb
            have hsz : (w.alloc (.deferred (some []))).heap.size = w.heap.size + 1 := World.size_alloc _ _
            rw [← hsz] at hen
            refine rfGo_ok hΦ hex h0 ⟨j, h1⟩ ⟨j, h2⟩ hps hx' (.inr rfl) hR2 hen (by rw [hρ1]) rfl ?_
            intro t2 d2 M2 ct2 hs a' w' hr
            injection hs with e1 e2 e3 e4; subst e1 e2 e3 e4
            exact hQ a' w' (hr.trans hS1 hG1)
          | some l =>
            have hx' : rfIn xg (ps.toList.map posOf) asg body (.mk Φ ex (some l) fn F) t d M ct (loopOf (M.get l)) = .k e (.mk t' d' M' ct') := hx
            cases hl : loopOf (M.get l) with
            | f => rw [hl] at hx'; cases (show Rs.f = .k e (.mk t' d' M' ct') from hx')
            | k s pe fnl tml psl al bl dnl =>
              rw [hl] at hx'
              have hx2 : rfGo xg (ps.toList.map posOf) asg body (.mk Φ ex (some l) fn F) t d M ct dnl = .k e (.mk t' d' M' ct') := hx'
              obtain ⟨hcl, hbd, ob, hob, fn3, tmps3, params3, ca3, cb3, rfl, _⟩ := h.cx.rel.has _ _ (look_some_M (loopOf_some hl))
              have hen := run_enterLoop_inner (P := P) hob fn' a.tmps ps ca cb
              refine rfGo_ok hΦ hex h0 ⟨j, h1⟩ ⟨j, h2⟩ hps hx2 hbd.2 h hen rfl ?_ ?_
              · cases a; rfl
              · intro t2 d2 M2 ct2 hs a' w' hr
                injection hs with e1 e2 e3 e4; subst e1 e2 e3 e4
                exact hQ a' w' hr
        · cases hc
    | exit id =>
      obtain rfl := Option.some.inj hc
      have hx' : Rs.k (.ext id) (.mk t d M ct) = .k e (.mk t' d' M' ct') := hx
      injection hx' with h1 h2; injection h2 with e1 e2 e3 e4; subst h1 e1 e2 e3 e4
      exact wpIn_exit (hQ a w h.res)
    | scope x =>
      obtain ⟨cx, h1, rfl⟩ := Option.map_eq_some_iff.1 hc
      have hx' : r_scope (execC cx (.mk Φ ex rd fn F) (.mk t d M ct)) = .k e (.mk t' d' M' ct') := hx
      cases hr : execC cx (.mk Φ ex rd fn F) (.mk t d M ct) with
      | f => rw [hr] at hx'; cases (show Rs.f = .k e (.mk t' d' M' ct') from hx')
      | k e1 s1 =>
        rw [hr] at hx'
        have key : e1 = e ∧ s1 = .mk t' d' M' ct' ∧ ∀ l, exOf e ≠ .goto l := by
          cases e1 with
          | gto l => cases (show Rs.f = .k e (.mk t' d' M' ct') from hx')
          | _ =>
            injection (show Rs.k _ s1 = .k e (.mk t' d' M' ct') from hx') with h1 h2
            subst h1
            exact ⟨rfl, h2, fun l h => by cases h⟩
        obtain ⟨rfl, rfl, hng⟩ := key
        exact wpIn_scope (ih x cx h1 rd fn F t d M ct e1 t' d' M' ct' hr E c w a h _ fun a' w' hr => ⟨hng, hQ a' w' hr⟩)
    | goto l =>
      obtain rfl := Option.some.inj hc
      have hx' : Rs.k (.gto l) (.mk t d M ct) = .k e (.mk t' d' M' ct') := hx
      injection hx' with h1 h2; injection h2 with e1 e2 e3 e4; subst h1 e1 e2 e3 e4
      exact wpIn_goto (hQ a w h.res)
    | ret =>
      obtain rfl := Option.some.inj hc
      have hx' : Rs.k .ret (.mk t d M ct) = .k e (.mk t' d' M' ct') := hx
      injection hx' with h1 h2; injection h2 with e1 e2 e3 e4; subst h1 e1 e2 e3 e4
      exact wpIn_ret (hQ a w h.res)
    | refuse s =>
      obtain rfl := Option.some.inj hc
      cases (show Rs.f = .k e (.mk t' d' M' ct') from hx)

theorem exec_ok {Φ : Nat → Option CF} (hΦ : PhiOk P Φ) (hdr : ∀ ex, ExOk P ex → ∀ rd fn F, DrOk P (.mk Φ ex rd fn F)) : ∀ n, ExOk P (exec Φ n) ∧ LpOk P (exec Φ n) n := by
  intro n
  induction n with
  | zero =>
    refine ⟨?_, ?_⟩
    · intro rd fn F cc t d M ct e t' d' M' ct' hx
      cases (show Rs.f = .k e (.mk t' d' M' ct') from hx)
    · intro rd fn F cc t d M ct e t' d' M' ct' hx
      cases (show Rs.f = .k e (.mk t' d' M' ct') from hx)
  | succ n ih =>
    have key := fun nt => execC_ok (nt := nt) hΦ ih.1 ih.2 (hdr _ ih.1)
    refine ⟨?_, ?_⟩
    · intro rd fn F cc t d M ct e t' d' M' ct' hx nt code hsim
      obtain ⟨j, hj⟩ := hsim
      exact key nt j code cc hj rd fn F t d M ct e t' d' M' ct' hx
    · intro rd fn F b t d M ct e t' d' M' ct' hx nt code hsim E c w a h Q hQ
      obtain ⟨j, hj⟩ := hsim
      have hx' : r_loop b (.mk Φ (exec Φ n) rd fn F) (execC b (.mk Φ (exec Φ n) rd fn F) (.mk t d M ct)) = .k e (.mk t' d' M' ct') := hx
      rw [roundsIn_succ]
      rcases r_loop_some hx' with ⟨⟨t1, d1, M1, ct1⟩, hx1, hx2⟩ | ⟨hne, hx1⟩
      · refine key nt j code b hj rd fn F t d M ct .nrm t1 d1 M1 ct1 hx1 E c w a h _ ?_
        rintro a1 w1 ⟨E1, c1, hS, hG, hR⟩
        show Code.roundsIn (fence E rd) 0 P code Q n a1 w1
        rw [← fence_ext hS.ext h.rd]
        have hx3 : exec Φ n rd fn F (.loop b) (.mk t1 d1 M1 ct1) = .k e (.mk t' d' M' ct') := hx2
        exact ih.2 rd fn F b t1 d1 M1 ct1 e t' d' M' ct' hx3 nt code ⟨j, hj⟩ E1 c1 w1 a1 hR Q fun a' w' hr => hQ a' w' (hr.trans hS hG)
      · exact key nt j code b hj rd fn F t d M ct e t' d' M' ct' hx1 E c w a h _ fun a' w' hr => then_of_ne hne (hQ a' w' hr)

end
end Go.Proofs.YtggfpgcnpdlnlaaDoor.Ev

namespace Go.Proofs.YtggfpgcnpdlnlaaDoor.Ev
open Go

/-- the same values at some places -/
def Agree (ps : List Pos) (t t' : T) : Prop := ∀ p ∈ ps, getT t' p = getT t p

section
variable {t t' : T}

theorem Agree.l {a b : List Pos} (h : Agree (a ++ b) t t') : Agree a t t' := fun p hp => h p (List.mem_append_left _ hp)
theorem Agree.r {a b : List Pos} (h : Agree (a ++ b) t t') : Agree b t t' := fun p hp => h p (List.mem_append_right _ hp)

theorem Agree.ev {x : X} (h : Agree x.ps t t') : x.ev t' = x.ev t := by
  cases x with
  | t p => exact h p (by simp [X.ps])
  | c v => rfl

theorem Agree.evs {xs : List X} (h : Agree (psL xs) t t') : Ev.evs xs t' = Ev.evs xs t := by
  induction xs with
  | nil => rfl
  | cons x xs ih =>
    show x.ev t' :: Ev.evs xs t' = x.ev t :: Ev.evs xs t
    rw [h.l.ev, ih h.r]

theorem Agree.optN {o : Option X} (h : Agree (psO o) t t') (d : Nat) : Ev.optN t' d o = Ev.optN t d o := by
  cases o with
  | none => rfl
  | some x =>
    show asN (x.ev t') = asN (x.ev t)
    rw [Agree.ev h]

theorem Agree.optNN {o : Option X} (h : Agree (psO o) t t') : Ev.optNN t' o = Ev.optNN t o := by
  cases o with
  | none => rfl
  | some x =>
    have h' : Agree x.ps t t' := h
    simp only [Ev.optNN]
    rw [h'.ev]

theorem Agree.minAll {xs : List X} (h : Agree (psL xs) t t') (mx : Bool) : ∀ v, Ev.minAll mx t' v xs = Ev.minAll mx t v xs := by
  induction xs with
  | nil => intro v; rfl
  | cons x xs ih =>
    intro v
    simp only [Ev.minAll]
    rw [h.l.ev]
    cases minV mx v (x.ev t) with
    | none => rfl
    | some v' => exact ih h.r v'

theorem Agree.fillParts {ps : List (Nat × Nat × X)} (h : Agree (psP ps) t t') : ∀ cs, Ev.fillParts t' cs ps = Ev.fillParts t cs ps := by
  induction ps with
  | nil => intro v; rfl
  | cons x xs ih =>
    obtain ⟨o, n, x⟩ := x
    intro cs
    simp only [Ev.fillParts]
    have h1 : Agree x.ps t t' := h.l
    have h2 : Agree (psP xs) t t' := h.r
    rw [h1.ev]
    cases Nat.beq (flatten (x.ev t)).length n with
    | false => rfl
    | true =>
      simp only [cond_true]
      cases replL cs o (flatten (x.ev t)) with
      | none => rfl
      | some cs' => exact ih h2 cs'

theorem Agree.fillP {ps : List (Nat × X)} (h : Agree (psP2 ps) t t') (sz m : Nat) : ∀ tt, Ev.fillP sz m t' ps tt = Ev.fillP sz m t ps tt := by
  induction ps with
  | nil => intro v; rfl
  | cons x xs ih =>
    obtain ⟨o, x⟩ := x
    intro tt
    simp only [Ev.fillP]
    have h1 : Agree x.ps t t' := h.l
    have h2 : Agree (psP2 xs) t t' := h.r
    rw [h1.ev]
    cases Nat.beq (flatten (x.ev t)).length sz && Nat.ble (Nat.add o sz) m && allOne (flatten (x.ev t)) with
    | false => rfl
    | true =>
      simp only [cond_true, Tr.force_eq]
      exact ih h2 _

theorem qop_congr (F : RO) (M : Mem) {o : QO} (h : Agree o.ps t t') : qop o F M t' = qop o F M t := by
  cases o with
  | mv x => have h1 : x.ev t' = x.ev t := Agree.ev h; show q_mv x F M t' = q_mv x F M t; unfold q_mv; rw [h1]
  | pk c a b =>
    have h1 := Agree.l h |>.ev; have h2 := (Agree.r h).l.ev; have h3 := (Agree.r h).r.ev
    show q_pk c a b F M t' = q_pk c a b F M t; unfold q_pk; rw [h1, h2, h3]
  | ld1 x => have h1 : x.ev t' = x.ev t := Agree.ev h; show q_ld1 x F M t' = q_ld1 x F M t; unfold q_ld1; rw [h1]
  | ldn n x => have h1 : x.ev t' = x.ev t := Agree.ev h; show q_ldn n x F M t' = q_ldn n x F M t; unfold q_ldn; rw [h1]
  | nck x => have h1 : x.ev t' = x.ev t := Agree.ev h; show q_nck x F M t' = q_nck x F M t; unfold q_nck; rw [h1]
  | bi op x y => have h1 := Agree.l h |>.ev; have h2 := Agree.r h |>.ev; show q_bi op x y F M t' = q_bi op x y F M t; unfold q_bi; rw [h1, h2]
  | eq neg sh lit x y => have h1 := Agree.l h |>.ev; have h2 := Agree.r h |>.ev; show q_eq neg sh lit x y F M t' = q_eq neg sh lit x y F M t; unfold q_eq; rw [h1, h2]
  | un op x => have h1 : x.ev t' = x.ev t := Agree.ev h; show q_un op x F M t' = q_un op x F M t; unfold q_un; rw [h1]
  | ci k x => have h1 : x.ev t' = x.ev t := Agree.ev h; show q_ci k x F M t' = q_ci k x F M t; unfold q_ci; rw [h1]
  | bs x => have h1 : x.ev t' = x.ev t := Agree.ev h; show q_bs x F M t' = q_bs x F M t; unfold q_bs; rw [h1]
  | mki k x => have h1 : x.ev t' = x.ev t := Agree.ev h; show q_mki k x F M t' = q_mki k x F M t; unfold q_mki; rw [h1]
  | mkf f a b => have h1 := (Agree.l h).evs; have h2 := (Agree.r h).evs; show q_mkf f a b F M t' = q_mkf f a b F M t; unfold q_mkf; rw [h1, h2]
  | fa k x => have h1 : x.ev t' = x.ev t := Agree.ev h; show q_fa k x F M t' = q_fa k x F M t; unfold q_fa; rw [h1]
  | fl1 k x => have h1 : x.ev t' = x.ev t := Agree.ev h; show q_fl1 k x F M t' = q_fl1 k x F M t; unfold q_fl1; rw [h1]
  | fln k n x => have h1 : x.ev t' = x.ev t := Agree.ev h; show q_fln k n x F M t' = q_fln k n x F M t; unfold q_fln; rw [h1]
  | iaA l s x y => have h1 := Agree.l h |>.ev; have h2 := Agree.r h |>.ev; show q_iaA l s x y F M t' = q_iaA l s x y F M t; unfold q_iaA; rw [h1, h2]
  | iaS s x y => have h1 := Agree.l h |>.ev; have h2 := Agree.r h |>.ev; show q_iaS s x y F M t' = q_iaS s x y F M t; unfold q_iaS; rw [h1, h2]
  | ixA1 l s x y => have h1 := Agree.l h |>.ev; have h2 := Agree.r h |>.ev; show q_ixA1 l s x y F M t' = q_ixA1 l s x y F M t; unfold q_ixA1; rw [h1, h2]
  | ixAn l s x y => have h1 := Agree.l h |>.ev; have h2 := Agree.r h |>.ev; show q_ixAn l s x y F M t' = q_ixAn l s x y F M t; unfold q_ixAn; rw [h1, h2]
  | ixS x y => have h1 := Agree.l h |>.ev; have h2 := Agree.r h |>.ev; show q_ixS x y F M t' = q_ixS x y F M t; unfold q_ixS; rw [h1, h2]
  | slS x lo hi =>
    have h1 := Agree.l h |>.ev
    show q_slS x lo hi F M t' = q_slS x lo hi F M t; unfold q_slS; rw [h1]
    simp only [(Agree.r h).l.optN, (Agree.r h).r.optN]
  | slL s x lo hi mx =>
    have h1 := Agree.l h |>.ev
    show q_slL s x lo hi mx F M t' = q_slL s x lo hi mx F M t; unfold q_slL; rw [h1, (Agree.r h).l.optNN, (Agree.r h).r.l.optNN, (Agree.r h).r.r.optNN]
  | slA n s x lo hi mx =>
    have h1 := Agree.l h |>.ev
    show q_slA n s x lo hi mx F M t' = q_slA n s x lo hi mx F M t; unfold q_slA; rw [h1]
    simp only [(Agree.r h).l.optN, (Agree.r h).r.l.optN, (Agree.r h).r.r.optN]
  | lk sh z ok x y => have h1 := Agree.l h |>.ev; have h2 := Agree.r h |>.ev; show q_lk sh z ok x y F M t' = q_lk sh z ok x y F M t; unfold q_lk; rw [h1, h2]
  | ex i x => have h1 : x.ev t' = x.ev t := Agree.ev h; show q_ex i x F M t' = q_ex i x F M t; unfold q_ex; rw [h1]
  | ln sh x => have h1 : x.ev t' = x.ev t := Agree.ev h; show q_ln sh x F M t' = q_ln sh x F M t; unfold q_ln; rw [h1]
  | lnc n => rfl
  | cp x => have h1 : x.ev t' = x.ev t := Agree.ev h; show q_cp x F M t' = q_cp x F M t; unfold q_cp; rw [h1]
  | mn mx x xs => have h1 := Agree.l h |>.ev; show q_mn mx x xs F M t' = q_mn mx x xs F M t; unfold q_mn; rw [h1, (Agree.r h).minAll]
  | bld z ps => show q_bld z ps F M t' = q_bld z ps F M t; unfold q_bld; rw [Agree.fillParts h]
  | ta w z ok x => have h1 : x.ev t' = x.ev t := Agree.ev h; show q_ta w z ok x F M t' = q_ta w z ok x F M t; unfold q_ta; rw [h1]
  | up x => have h1 : x.ev t' = x.ev t := Agree.ev h; show q_up x F M t' = q_up x F M t; unfold q_up; rw [h1]
  | dn ty s x => have h1 : x.ev t' = x.ev t := Agree.ev h; show q_dn ty s x F M t' = q_dn ty s x F M t; unfold q_dn; rw [h1]
  | sd x => have h1 : x.ev t' = x.ev t := Agree.ev h; show q_sd x F M t' = q_sd x F M t; unfold q_sd; rw [h1]
  | xib x y => have h1 := Agree.l h |>.ev; have h2 := Agree.r h |>.ev; show q_xib x y F M t' = q_xib x y F M t; unfold q_xib; rw [h1, h2]
  | xcn x y => have h1 := Agree.l h |>.ev; have h2 := Agree.r h |>.ev; show q_xcn x y F M t' = q_xcn x y F M t; unfold q_xcn; rw [h1, h2]
  | bad => rfl

theorem aop_congr (b : Nat) {o : AO} (h : Agree o.ps t t') : aop o b t' = aop o b t := by
  cases o with
  | al ty cs => rfl
  | bx ty sz x => have h1 : x.ev t' = x.ev t := Agree.ev h; show a_bx ty sz x b t' = a_bx ty sz x b t; unfold a_bx; rw [h1]
  | bsl ty n sz z ps => show a_bsl ty n sz z ps b t' = a_bsl ty n sz z ps b t; unfold a_bsl; rw [Agree.fillP h]
  | mks ty sz by_ z l k => have h1 := Agree.l h |>.ev; have h2 := Agree.r h |>.ev; show a_mks ty sz by_ z l k b t' = a_mks ty sz by_ z l k b t; unfold a_mks; rw [h1, h2]
  | mkm => rfl
  | sb ty x => have h1 : x.ev t' = x.ev t := Agree.ev h; show a_sb ty x b t' = a_sb ty x b t; unfold a_sb; rw [h1]
  | nz ty x => have h1 : x.ev t' = x.ev t := Agree.ev h; show a_nz ty x b t' = a_nz ty x b t; unfold a_nz; rw [h1]
  | rgs x => have h1 : x.ev t' = x.ev t := Agree.ev h; show a_rgs x b t' = a_rgs x b t; unfold a_rgs; rw [h1]

theorem doE_congr (k : Kn) (M : Mem) (c : Nat) {o : EO} (h : Agree o.ps t t') : doE o k M c t' = doE o k M c t := by
  cases o with
  | call f as => have h1 := Agree.evs h; show x_call f as k M c t' = x_call f as k M c t; unfold x_call; rw [h1]
  | cv f as => have h1 := Agree.l h |>.ev; have h2 := (Agree.r h).evs; show x_cv f as k M c t' = x_cv f as k M c t; unfold x_cv; rw [h1, h2]
  | st n x y => have h1 := Agree.l h |>.ev; have h2 := Agree.r h |>.ev; show x_st n x y k M c t' = x_st n x y k M c t; unfold x_st e_st; rw [h1, h2]
  | app ty sz by_ x y => have h1 := Agree.l h |>.ev; have h2 := Agree.r h |>.ev; show x_app ty sz by_ x y k M c t' = x_app ty sz by_ x y k M c t; unfold x_app e_app; rw [h1, h2]
  | cpy sz x y => have h1 := Agree.l h |>.ev; have h2 := Agree.r h |>.ev; show x_cpy sz x y k M c t' = x_cpy sz x y k M c t; unfold x_cpy e_cpy; rw [h1, h2]
  | mu sh m k' v => have h1 := Agree.l h |>.ev; have h2 := (Agree.r h).l.ev; have h3 := (Agree.r h).r.ev; show x_mu sh m k' v k M c t' = x_mu sh m k' v k M c t; unfold x_mu e_mu; rw [h1, h2, h3]
  | del sh m k' => have h1 := Agree.l h |>.ev; have h2 := Agree.r h |>.ev; show x_del sh m k' k M c t' = x_del sh m k' k M c t; unfold x_del e_del; rw [h1, h2]
  | us ty x n => have h1 := Agree.l h |>.ev; have h2 := Agree.r h |>.ev; show x_us ty x n k M c t' = x_us ty x n k M c t; unfold x_us e_us; rw [h1, h2]
  | ms x => have h1 : x.ev t' = x.ev t := Agree.ev h; show x_ms x k M c t' = x_ms x k M c t; unfold x_ms e_ms; rw [h1]
  | nxs x => have h1 : x.ev t' = x.ev t := Agree.ev h; show x_nxs x k M c t' = x_nxs x k M c t; unfold x_nxs e_nxs; rw [h1]
  | rgm x => have h1 : x.ev t' = x.ev t := Agree.ev h; show x_rgm x k M c t' = x_rgm x k M c t; unfold x_rgm e_rgm; rw [h1]
  | nxm x => have h1 : x.ev t' = x.ev t := Agree.ev h; show x_nxm x k M c t' = x_nxm x k M c t; unfold x_nxm e_nxm; rw [h1]

theorem wanted_congr {g : Option (Pos × Bool)} (h : Agree (gps g) t t') : wanted t' g = wanted t g := by
  cases g with
  | none => rfl
  | some pw =>
    obtain ⟨p, want⟩ := pw
    show wanted1 want (getT t' p) = wanted1 want (getT t p)
    rw [h p (by simp [gps])]

theorem posEq_iff : ∀ p q : Pos, posEq p q = true ↔ p = q
  | .h, .h => by simp [posEq]
  | .l p, .l q => by simp [posEq, posEq_iff p q]
  | .r p, .r q => by simp [posEq, posEq_iff p q]
  | .h, .l _ => by simp [posEq]
  | .h, .r _ => by simp [posEq]
  | .l _, .h => by simp [posEq]
  | .l _, .r _ => by simp [posEq]
  | .r _, .h => by simp [posEq]
  | .r _, .l _ => by simp [posEq]

theorem posIn_iff (p : Pos) (l : List Pos) : posIn p l = true ↔ p ∈ l := by
  induction l with
  | nil => simp [posIn]
  | cons q r ih =>
    simp only [posIn, List.mem_cons]
    cases h : posEq p q with
    | true => simp [(posEq_iff p q).1 h]
    | false =>
      have : p ≠ q := fun e => by rw [(posEq_iff p q).2 e] at h; cases h
      simp [this, ih]

/-- a write elsewhere -/
theorem Agree.setT {ps : List Pos} {dst : Option Pos} (h : dstIn ps dst = false) (t : T) (v : V) : Agree ps t (Ev.setT t dst v) := by
  intro p hp
  cases dst with
  | none => rfl
  | some q =>
    have hne : p ≠ q := by
      rintro rfl
      have : posIn p ps = true := (posIn_iff p ps).2 hp
      rw [show dstIn ps (some p) = posIn p ps from rfl, this] at h; cases h
    rw [setT_some]
    unfold getT; rw [Tr.getP_setP_ne q v p t hne]

theorem setT_comm {d1 d2 : Option Pos} (h : dstSame d1 d2 = false) (t : T) (v1 v2 : V) : Ev.setT (Ev.setT t d1 v1) d2 v2 = Ev.setT (Ev.setT t d2 v2) d1 v1 := by
  cases d1 with
  | none => rfl
  | some p =>
    cases d2 with
    | none => rfl
    | some q =>
      have hne : p ≠ q := fun e => by
        have := (posEq_iff p q).2 e
        rw [show dstSame (some p) (some q) = posEq p q from rfl, this] at h; cases h
      simp only [setT_some]
      exact Tr.setP_comm p v1 q v2 t (Ne.symm hne)
end
end Go.Proofs.YtggfpgcnpdlnlaaDoor.Ev

namespace Go.Proofs.YtggfpgcnpdlnlaaDoor.Ev
open Go

/-! the steps of a drawn region, whatever the order -/
structure SS where
  t : T
  m : Nat → Option Blk
  ct : Nat

inductive LK where
  | skip
  | qv (v : V)
  | qr (v : V) (b : Nat)
  | al (v : V) (blk : Blk)
  | ef (v : V) (M1 : Mem) (F1 : RO) (M' : Mem) (ct ct' : Nat)

structure Lab where
  i : Nat
  mask : Nat
  co : CO
  k : LK

def CO.op : CO → OK
  | .mk _ op _ => op
def CO.guard : CO → Option (Pos × Bool)
  | .mk _ _ g => g

def LK.isEf : LK → Bool
  | .ef .. => true
  | _ => false

/-- what an effect leaves -/
noncomputable def afterM (M1 M' : Mem) (m : Nat → Option Blk) (b : Nat) : Option Blk :=
  if M1.get b = none ∧ m b ≠ none then m b else M'.get b

def setF (m : Nat → Option Blk) (b : Nat) (blk : Blk) : Nat → Option Blk := fun x => if x = b then some blk else m x

/-- an effect's step, its own part -/
structure EfOk (k : Kn) (F : RO) (o : EO) (v : V) (M1 : Mem) (F1 : RO) (M' : Mem) (ct ct' : Nat) (t : T) (m : Nat → Option Blk) : Prop where
  run : doE o (knF k F1) M1 ct t = .k v M' ct'
  sub : ∀ b blk, M1.get b = some blk → m b = some blk
  ro : ∀ b blk, roGet F1 b = some blk → (m b = some blk ∧ M1.get b = none) ∨ roGet F b = some blk
  new : ∀ b, (roGet F b).isSome → M'.get b = none

def Tn (k : Kn) (base : Nat) (F : RO) (l : Lab) (s s' : SS) : Prop :=
  match l.k with
  | .skip => wanted s.t l.co.guard = false ∧ s' = ⟨setT s.t l.co.dst undef, s.m, s.ct⟩
  | .qv v => wanted s.t l.co.guard = true ∧ ∃ o, l.co.op = .q o ∧ (qop o [] .e s.t).val = some v ∧ s' = ⟨setT s.t l.co.dst v, s.m, s.ct⟩
  | .qr v b => wanted s.t l.co.guard = true ∧ ∃ o blk, l.co.op = .q o ∧ (s.m b = some blk ∨ (s.m b = none ∧ roGet F b = some blk)) ∧ (qop o [(b, blk)] .e s.t).val = some v ∧ s' = ⟨setT s.t l.co.dst v, s.m, s.ct⟩
  | .al v blk => wanted s.t l.co.guard = true ∧ ∃ o, l.co.op = .a o ∧ aop o (base + l.i) s.t = some (v, blk) ∧ s' = ⟨setT s.t l.co.dst v, setF s.m (base + l.i) blk, s.ct⟩
  | .ef v M1 F1 M' ct ct' => wanted s.t l.co.guard = true ∧ s.ct = ct ∧ ∃ o, l.co.op = .e o ∧ EfOk k F o v M1 F1 M' ct ct' s.t s.m ∧ s' = ⟨setT s.t l.co.dst v, afterM M1 M' s.m, ct'⟩

/-- two steps that may be swapped: x stands ahead, y may come first -/
structure Apart (base : Nat) (x y : Lab) : Prop where
  ne : x.i ≠ y.i
  kx : x.k.isEf = false
  d1 : dstIn y.co.ps x.co.dst = false
  d2 : dstIn x.co.ps y.co.dst = false
  d3 : dstSame x.co.dst y.co.dst = false
  rd : ∀ vx b v M1 F1 M' ct ct', x.k = .qr vx b → y.k = .ef v M1 F1 M' ct ct' → M1.get b = none
  al : ∀ vx blk v M1 F1 M' ct ct', x.k = .al vx blk → y.k = .ef v M1 F1 M' ct ct' → M1.get (base + x.i) = none ∧ roGet F1 (base + x.i) = none
  rd2 : ∀ vx blk v b, x.k = .al vx blk → y.k = .qr v b → b ≠ base + x.i
  rd3 : ∀ vx b v blk, x.k = .qr vx b → y.k = .al v blk → b ≠ base + y.i

section
variable {k : Kn} {base : Nat} {F : RO} {x y : Lab} {s s1 s2 : SS}

theorem CO.ps_eq (c : CO) : c.ps = gps c.guard ++ c.op.ps := by cases c; rfl
theorem dstIn_append {a b : List Pos} {d : Option Pos} (h : dstIn (a ++ b) d = false) : dstIn a d = false ∧ dstIn b d = false := by
  cases d with
  | none => exact ⟨rfl, rfl⟩
  | some p =>
    have h' : posIn p (a ++ b) = false := h
    constructor
    · show posIn p a = false
      cases hp : posIn p a with
      | false => rfl
      | true => rw [(posIn_iff p (a ++ b)).2 (List.mem_append_left _ ((posIn_iff p a).1 hp))] at h'; cases h'
    · show posIn p b = false
      cases hp : posIn p b with
      | false => rfl
      | true => rw [(posIn_iff p (a ++ b)).2 (List.mem_append_right _ ((posIn_iff p b).1 hp))] at h'; cases h'

/-- what a step writes -/
def Lab.val (l : Lab) : V := match l.k with
  | .skip => undef
  | .qv v | .qr v _ | .al v _ => v
  | .ef v .. => v

noncomputable def Lab.mem (base : Nat) (l : Lab) (m : Nat → Option Blk) : Nat → Option Blk := match l.k with
  | .al _ blk => setF m (base + l.i) blk
  | .ef _ M1 _ M' _ _ => afterM M1 M' m
  | _ => m

def Lab.ctr (l : Lab) (ct : Nat) : Nat := match l.k with
  | .ef _ _ _ _ _ ct' => ct'
  | _ => ct

/-- when a step can be made -/
def Can (k : Kn) (base : Nat) (F : RO) (l : Lab) (s : SS) : Prop :=
  match l.k with
  | .skip => wanted s.t l.co.guard = false
  | .qv v => wanted s.t l.co.guard = true ∧ ∃ o, l.co.op = .q o ∧ (qop o [] .e s.t).val = some v
  | .qr v b => wanted s.t l.co.guard = true ∧ ∃ o blk, l.co.op = .q o ∧ (s.m b = some blk ∨ (s.m b = none ∧ roGet F b = some blk)) ∧ (qop o [(b, blk)] .e s.t).val = some v
  | .al v blk => wanted s.t l.co.guard = true ∧ ∃ o, l.co.op = .a o ∧ aop o (base + l.i) s.t = some (v, blk)
  | .ef v M1 F1 M' ct ct' => wanted s.t l.co.guard = true ∧ s.ct = ct ∧ ∃ o, l.co.op = .e o ∧ EfOk k F o v M1 F1 M' ct ct' s.t s.m

theorem Tn_iff : Tn k base F x s s1 ↔ Can k base F x s ∧ s1 = ⟨setT s.t x.co.dst x.val, x.mem base s.m, x.ctr s.ct⟩ := by
  unfold Tn Can Lab.val Lab.mem Lab.ctr
  cases x.k with
  | skip => exact Iff.rfl
  | qv v =>
    constructor
    · rintro ⟨h1, o, h2, h3, h4⟩; exact ⟨⟨h1, o, h2, h3⟩, h4⟩
    · rintro ⟨⟨h1, o, h2, h3⟩, h4⟩; exact ⟨h1, o, h2, h3, h4⟩
  | qr v b =>
    constructor
    · rintro ⟨h1, o, blk, h2, h3, h4, h5⟩; exact ⟨⟨h1, o, blk, h2, h3, h4⟩, h5⟩
    · rintro ⟨⟨h1, o, blk, h2, h3, h4⟩, h5⟩; exact ⟨h1, o, blk, h2, h3, h4, h5⟩
  | al v blk =>
    constructor
    · rintro ⟨h1, o, h2, h3, h4⟩; exact ⟨⟨h1, o, h2, h3⟩, h4⟩
    · rintro ⟨⟨h1, o, h2, h3⟩, h4⟩; exact ⟨h1, o, h2, h3, h4⟩
  | ef v M1 F1 M' ct ct' =>
    constructor
    · rintro ⟨h1, h0, o, h2, h3, h4⟩; exact ⟨⟨h1, h0, o, h2, h3⟩, h4⟩
    · rintro ⟨⟨h1, h0, o, h2, h3⟩, h4⟩; exact ⟨h1, h0, o, h2, h3, h4⟩

/-- memories that serve a step alike -/
def MemOk (base : Nat) (F : RO) (l : Lab) (m m' : Nat → Option Blk) : Prop := match l.k with
  | .qr _ b => m' b = m b
  | .ef _ M1 F1 _ _ _ => (∀ b, (M1.get b).isSome → m' b = m b) ∧ (∀ b, (roGet F1 b).isSome → m' b = m b)
  | _ => True

theorem Can.move {t t' : T} {m m' : Nat → Option Blk} {ct ct' : Nat} (h : Can k base F x ⟨t, m, ct⟩) (ha : Agree x.co.ps t t') (hm : MemOk base F x m m') (hc : x.k.isEf = true → ct' = ct) : Can k base F x ⟨t', m', ct'⟩ := by
  rw [CO.ps_eq] at ha
  have hw := wanted_congr ha.l
  have ho := ha.r
  unfold Can at h ⊢
  unfold MemOk at hm
  cases hk : x.k with
  | skip => rw [hk] at h; exact hw.trans h
  | qv v =>
    rw [hk] at h
    obtain ⟨h1, o, h2, h3⟩ := h
    rw [h2] at ho
    exact ⟨hw.trans h1, o, h2, by show (qop o [] .e t').val = _; rw [qop_congr _ _ ho]; exact h3⟩
  | qr v b =>
    rw [hk] at h hm
    obtain ⟨h1, o, blk, h2, h3, h4⟩ := h
    rw [h2] at ho
    have hm' : m' b = m b := hm
    exact ⟨hw.trans h1, o, blk, h2, by show m' b = _ ∨ (m' b = _ ∧ _); rw [hm']; exact h3, by show (qop o _ .e t').val = _; rw [qop_congr _ _ ho]; exact h4⟩
  | al v blk =>
    rw [hk] at h
    obtain ⟨h1, o, h2, h3⟩ := h
    rw [h2] at ho
    exact ⟨hw.trans h1, o, h2, by show aop o _ t' = _; rw [aop_congr _ ho]; exact h3⟩
  | ef v M1 F1 M' c1 c2 =>
    rw [hk] at h hm hc
    obtain ⟨h1, h0, o, h2, h3⟩ := h
    rw [h2] at ho
    have hm' : (∀ b, (M1.get b).isSome → m' b = m b) ∧ (∀ b, (roGet F1 b).isSome → m' b = m b) := hm
    refine ⟨hw.trans h1, (hc rfl).trans h0, o, h2, ⟨?_, ?_, ?_, h3.new⟩⟩
    · show doE o (knF k F1) M1 c1 t' = _
      rw [doE_congr _ _ _ ho]; exact h3.run
    · intro b blk hb
      show m' b = _
      rw [hm'.1 b (by rw [hb]; rfl)]; exact h3.sub b blk hb
    · intro b blk hb
      show (m' b = _ ∧ _) ∨ _
      rw [hm'.2 b (by rw [hb]; rfl)]; exact h3.ro b blk hb

/-- THE SWAP -/
theorem swap (ha : Apart base x y) (h1 : Tn k base F x s s1) (h2 : Tn k base F y s1 s2) : ∃ s1', Tn k base F y s s1' ∧ Tn k base F x s1' s2 := by
  obtain ⟨t, m, ct⟩ := s
  rw [Tn_iff] at h1 h2
  obtain ⟨c1, rfl⟩ := h1
  obtain ⟨c2, rfl⟩ := h2
  have hctx : x.ctr ct = ct := by
    have := ha.kx
    unfold Lab.ctr
    cases hx : x.k <;> first | rfl | (rw [hx] at this; cases this)
  refine ⟨_, Tn_iff.2 ⟨?_, rfl⟩, Tn_iff.2 ⟨?_, ?_⟩⟩
  · -- y first
    refine Can.move (t' := t) (m' := m) (ct' := ct) c2 ?_ ?_ ?_
    · intro p hp; exact (Agree.setT ha.d1 t x.val p hp).symm
    · unfold MemOk
      cases hy : y.k with
      | qr v b =>
        show m b = x.mem base m b
        unfold Lab.mem
        cases hx : x.k with
        | al vx blk =>
          show m b = setF m (base + x.i) blk b
          unfold setF
          rw [if_neg (ha.rd2 vx blk v b hx hy)]
        | ef => have := ha.kx; rw [hx] at this; cases this
        | _ => rfl
      | ef v M1 F1 M' c3 c4 =>
        unfold Lab.mem
        cases hx : x.k with
        | al vx blk =>
          have hal := ha.al vx blk v M1 F1 M' c3 c4 hx hy
          constructor
          · intro b hb
            show m b = setF m (base + x.i) blk b
            unfold setF
            rw [if_neg]
            rintro rfl; rw [hal.1] at hb; cases hb
          · intro b hb
            show m b = setF m (base + x.i) blk b
            unfold setF
            rw [if_neg]
            rintro rfl; rw [hal.2] at hb; cases hb
        | ef => have := ha.kx; rw [hx] at this; cases this
        | _ => exact ⟨fun _ _ => rfl, fun _ _ => rfl⟩
      | _ => trivial
    · intro _; exact hctx.symm
  · -- x behind
    refine Can.move (t := t) (m := m) (ct := ct) c1 (Agree.setT ha.d2 t y.val) ?_ (fun h => by rw [ha.kx] at h; cases h)
    unfold MemOk
    cases hx : x.k with
    | qr v b =>
      show y.mem base m b = m b
      unfold Lab.mem
      cases hy : y.k with
      | al vy blk =>
        show setF m (base + y.i) blk b = m b
        unfold setF
        rw [if_neg (ha.rd3 v b vy blk hx hy)]
      | ef vy M1 F1 M' c3 c4 =>
        have hrd := ha.rd v b vy M1 F1 M' c3 c4 hx hy
        show afterM M1 M' m b = m b
        unfold afterM
        split
        · rfl
        · rename_i hn
          have hmb : m b = none := by
            cases hb : m b with
            | none => rfl
            | some _ => exact absurd ⟨hrd, by rw [hb]; exact (fun h => by cases h)⟩ hn
          have hF : (roGet F b).isSome := by
            unfold Can at c1
            rw [hx] at c1
            obtain ⟨_, o, blk, _, h3, _⟩ := c1
            rcases h3 with h3 | h3
            · have h3' : m b = some blk := h3
              rw [hmb] at h3'; cases h3'
            · rw [h3.2]; rfl
          have hE : M'.get b = none := by
            unfold Can at c2
            rw [hy] at c2
            obtain ⟨_, _, o, _, h3⟩ := c2
            exact h3.new b hF
          rw [hmb, hE]
      | _ => rfl
    | ef => have := ha.kx; rw [hx] at this; cases this
    | _ => trivial
  · have e1 : setT (setT t x.co.dst x.val) y.co.dst y.val = setT (setT t y.co.dst y.val) x.co.dst x.val := setT_comm ha.d3 t x.val y.val
    have e2 : y.mem base (x.mem base m) = x.mem base (y.mem base m) := by
      unfold Lab.mem
      cases hx : x.k with
      | al vx blk =>
        cases hy : y.k with
        | al vy blk' =>
          have hne : base + x.i ≠ base + y.i := fun e => ha.ne (by omega)
          funext b
          show setF (setF m (base + x.i) blk) (base + y.i) blk' b = setF (setF m (base + y.i) blk') (base + x.i) blk b
          unfold setF
          by_cases e : b = base + x.i
          · rw [if_pos e, if_neg (by rw [e]; exact hne), if_pos e]
          · rw [if_neg e, if_neg e]
        | ef vy M1 F1 M' c3 c4 =>
          have hal := (ha.al vx blk vy M1 F1 M' c3 c4 hx hy).1
          funext b
          show afterM M1 M' (setF m (base + x.i) blk) b = setF (afterM M1 M' m) (base + x.i) blk b
          unfold afterM setF
          by_cases e : b = base + x.i
          · rw [if_pos e, if_pos e, if_pos ⟨by rw [e]; exact hal, fun h => by cases h⟩]
          · rw [if_neg e, if_neg e]
        | _ => rfl
      | ef => have := ha.kx; rw [hx] at this; cases this
      | _ => rfl
    have e3 : y.ctr (x.ctr ct) = x.ctr (y.ctr ct) := by
      have hc : ∀ n, x.ctr n = n := by
        intro n
        have := ha.kx
        unfold Lab.ctr
        cases hx : x.k <;> first | rfl | (rw [hx] at this; cases this)
      rw [hc, hc]
    show SS.mk _ _ _ = SS.mk _ _ _
    rw [e1, e2, e3]

/-- a chain of steps -/
def Chain (k : Kn) (base : Nat) (F : RO) : List Lab → SS → SS → Prop
  | [], s, s' => s = s'
  | l :: r, s, s' => ∃ s1, Tn k base F l s s1 ∧ Chain k base F r s1 s'

theorem Chain.move {l2 : List Lab} {y : Lab} {s' : SS} : ∀ (l1 : List Lab) (s : SS), (∀ x ∈ l1, Apart base x y) → Chain k base F (l1 ++ y :: l2) s s' → ∃ s1, Tn k base F y s s1 ∧ Chain k base F (l1 ++ l2) s1 s'
  | [], s, _, h => h
  | x :: l1, s, ha, h => by
    obtain ⟨s1, h1, h2⟩ := h
    obtain ⟨s2, h3, h4⟩ := Chain.move l1 s1 (fun z hz => ha z (List.mem_cons_of_mem _ hz)) h2
    obtain ⟨s3, h5, h6⟩ := swap (ha x (List.mem_cons_self ..)) h1 h3
    exact ⟨s3, h5, s2, h6, h4⟩
end
end Go.Proofs.YtggfpgcnpdlnlaaDoor.Ev

namespace Go.Proofs.YtggfpgcnpdlnlaaDoor.Ev
open Go

def pget : List (Nat × Nat × Blk) → Nat → Option Blk
  | [], _ => none
  | (_, b, blk) :: r, x => if x = b then some blk else pget r x

theorem pget_some {p : List (Nat × Nat × Blk)} {b : Nat} {blk : Blk} (h : pget p b = some blk) : ∃ i, (i, b, blk) ∈ p := by
  induction p with
  | nil => cases h
  | cons q r ih =>
    obtain ⟨i, b', blk'⟩ := q
    unfold pget at h
    split at h
    · rename_i e
      subst e
      obtain rfl := Option.some.inj h
      exact ⟨i, by simp⟩
    · obtain ⟨j, hj⟩ := ih h
      exact ⟨j, List.mem_cons_of_mem _ hj⟩

theorem pget_none {p : List (Nat × Nat × Blk)} {b : Nat} (h : pget p b = none) : ∀ i blk, (i, b, blk) ∉ p := by
  induction p with
  | nil => intro i blk hm; cases hm
  | cons q r ih =>
    obtain ⟨i', b', blk'⟩ := q
    unfold pget at h
    split at h
    · cases h
    · rename_i e
      intro i blk hm
      rcases List.mem_cons.1 hm with hm | hm
      · injection hm with h1 h2; injection h2 with h2 h3; exact e h2
      · exact ih h i blk hm

/-- names that differ -/
def ND (p : List (Nat × Nat × Blk)) : Prop := p.Pairwise fun x y => x.2.1 ≠ y.2.1

theorem merge_spec (mask : Nat) : ∀ (p : List (Nat × Nat × Blk)) (M : Mem), ND p → ∃ Mm, merge mask p M = (Mm, p.filter fun x => !testBit mask x.1) ∧
    ∀ b, (pget (p.filter fun x => !testBit mask x.1) b).or (Mm.get b) = (pget p b).or (M.get b)
  | [], M, _ => ⟨M, rfl, fun _ => rfl⟩
  | (i, b, blk) :: r, M, h => by
    obtain ⟨h1, h2⟩ := List.pairwise_cons.1 h
    cases ht : testBit mask i with
    | true =>
      obtain ⟨Mm, hm, hg⟩ := merge_spec mask r (M.set b blk) h2
      refine ⟨Mm, ?_, ?_⟩
      · rw [merge, ht, cond_true, Tr.force_eq, hm]
        simp [ht]
      · intro x
        have e : ((i, b, blk) :: r).filter (fun x => !testBit mask x.1) = r.filter fun x => !testBit mask x.1 := by simp [ht]
        rw [e, hg x]
        simp only [pget]
        by_cases ex : x = b
        · subst ex
          rw [if_pos rfl]
          have hn : pget r x = none := by
            cases hp : pget r x with
            | none => rfl
            | some blk' => obtain ⟨j, hj⟩ := pget_some hp; exact absurd rfl (h1 (j, x, blk') hj)
          rw [hn, Tr.get_set, if_pos rfl]; rfl
        · rw [if_neg ex, Tr.get_set, if_neg ex]
    | false =>
      obtain ⟨Mm, hm, hg⟩ := merge_spec mask r M h2
      refine ⟨Mm, ?_, ?_⟩
      · rw [merge, ht, cond_false, hm]
        simp [ht]
      · intro x
        have e : ((i, b, blk) :: r).filter (fun x => !testBit mask x.1) = (i, b, blk) :: r.filter fun x => !testBit mask x.1 := by simp [ht]
        rw [e]
        simp only [pget]
        by_cases ex : x = b
        · rw [if_pos ex, if_pos ex]; rfl
        · rw [if_neg ex, if_neg ex]; exact hg x

def bnames (l : List (Nat × Blk)) (b : Nat) : Prop := ∃ blk, (b, blk) ∈ l

structure ProtOk (mask : Nat) (reads : List (Nat × Nat)) (F : RO) (M : Mem) (F1 : RO) (M1 : Mem) (news : List (Nat × Blk)) : Prop where
  ro : F1 = news ++ F
  get : ∀ b, M1.get b = none ∧ bnames news b ∨ M1.get b = M.get b ∧ ¬ bnames news b
  was : ∀ b blk, (b, blk) ∈ news → M.get b = some blk
  rd : ∀ i b, (i, b) ∈ reads → testBit mask i = false → M1.get b = none

theorem protect_spec (mask : Nat) : ∀ (reads : List (Nat × Nat)) (F : RO) (M : Mem) (s : List (Nat × Blk)), ∃ F1 M1 news, protect mask reads F M s = .mk F1 M1 (news ++ s) ∧ ProtOk mask reads F M F1 M1 news
  | [], F, M, s => ⟨F, M, [], rfl, ⟨rfl, fun b => .inr ⟨rfl, fun ⟨_, h⟩ => (by cases h)⟩, fun _ _ h => (by cases h), fun _ _ h => (by cases h)⟩⟩
  | (i, b) :: r, F, M, s => by
    cases ht : testBit mask i with
    | true =>
      obtain ⟨F1, M1, news, hp, hk⟩ := protect_spec mask r F M s
      refine ⟨F1, M1, news, by rw [protect, ht, cond_true]; exact hp, hk.ro, hk.get, hk.was, ?_⟩
      intro i' b' hm hf
      rcases List.mem_cons.1 hm with hm | hm
      · injection hm with h1 h2; rw [h1, ht] at hf; cases hf
      · exact hk.rd i' b' hm hf
    | false =>
      cases hb : M.get b with
      | none =>
        obtain ⟨F1, M1, news, hp, hk⟩ := protect_spec mask r F M s
        refine ⟨F1, M1, news, by rw [protect, ht, cond_false]; simp only [hb]; exact hp, hk.ro, hk.get, hk.was, ?_⟩
        intro i' b' hm hf
        rcases List.mem_cons.1 hm with hm | hm
        · injection hm with h1 h2
          rw [h2]
          rcases hk.get b with h | h
          · exact h.1
          · rw [h.1, hb]
        · exact hk.rd i' b' hm hf
      | some blk =>
        obtain ⟨F1, M1, news, hp, hk⟩ := protect_spec mask r ((b, blk) :: F) (M.del b) ((b, blk) :: s)
        refine ⟨F1, M1, news ++ [(b, blk)], ?_, by rw [hk.ro]; simp, ?_, ?_, ?_⟩
        · rw [protect, ht, cond_false]
          simp only [hb, Tr.force_eq]
          rw [hp]; simp
        · intro x
          by_cases ex : x = b
          · left
            refine ⟨?_, blk, by rw [ex]; simp⟩
            rcases hk.get x with h | h
            · exact h.1
            · rw [h.1, Tr.get_del, if_pos ex]
          · rcases hk.get x with h | h
            · exact .inl ⟨h.1, let ⟨y, hy⟩ := h.2; ⟨y, List.mem_append_left _ hy⟩⟩
            · right
              refine ⟨by rw [h.1, Tr.get_del, if_neg ex], ?_⟩
              rintro ⟨y, hy⟩
              rcases List.mem_append.1 hy with hy | hy
              · exact h.2 ⟨y, hy⟩
              · simp at hy; exact ex hy.1
        · intro x y hxy
          rcases List.mem_append.1 hxy with hxy | hxy
          · have := hk.was x y hxy
            rw [Tr.get_del] at this
            split at this
            · cases this
            · exact this
          · simp at hxy; rw [hxy.1, hxy.2]; exact hb
        · intro i' b' hm hf
          rcases List.mem_cons.1 hm with hm | hm
          · injection hm with h1 h2
            rw [h2]
            rcases hk.get b with h | h
            · exact h.1
            · rw [h.1, Tr.get_del, if_pos rfl]
          · exact hk.rd i' b' hm hf

theorem unprotect_spec (f : Nat → Option Blk) : ∀ (l : List (Nat × Blk)) (M : Mem), (∀ b blk, (b, blk) ∈ l → f b = some blk) → ∀ b, (bnames l b ∧ (unprotect l M).get b = f b) ∨ (¬ bnames l b ∧ (unprotect l M).get b = M.get b)
  | [], M, _, b => .inr ⟨fun ⟨_, h⟩ => (by cases h), rfl⟩
  | (x, blk) :: r, M, h, b => by
    rw [unprotect, Tr.force_eq]
    rcases unprotect_spec f r (M.set x blk) (fun b' blk' hm => h b' blk' (List.mem_cons_of_mem _ hm)) b with hh | hh
    · exact .inl ⟨let ⟨y, hy⟩ := hh.1; ⟨y, List.mem_cons_of_mem _ hy⟩, hh.2⟩
    · by_cases e : b = x
      · left
        refine ⟨⟨blk, by rw [e]; simp⟩, ?_⟩
        rw [hh.2, Tr.get_set, if_pos e, e, h x blk (by simp)]
      · right
        refine ⟨?_, by rw [hh.2, Tr.get_set, if_neg e]⟩
        rintro ⟨y, hy⟩
        rcases List.mem_cons.1 hy with hy | hy
        · injection hy with h1 h2; exact e h1
        · exact hh.1 ⟨y, hy⟩

theorem pendFree_iff {F : RO} {M : Mem} : ∀ (p : List (Nat × Nat × Blk)), pendFree F M p = true → ∀ i b blk, (i, b, blk) ∈ p → look F M b = none
  | [], _, _, _, _, h => by cases h
  | (j, b', blk') :: r, hp, i, b, blk, hm => by
    rw [pendFree] at hp
    cases hl : look F M b' with
    | none =>
      rw [hl] at hp
      simp only [Option.isNone_none, cond_true] at hp
      rcases List.mem_cons.1 hm with hm | hm
      · injection hm with h1 h2; injection h2 with h2 h3; rw [h2]; exact hl
      · exact pendFree_iff r hp i b blk hm
    | some y => rw [hl] at hp; simp at hp

theorem roFree_iff {M : Mem} : ∀ (F : RO), roFree M F = true → ∀ b blk, (b, blk) ∈ F → M.get b = none
  | [], _, _, _, h => by cases h
  | (b', blk') :: r, hp, b, blk, hm => by
    rw [roFree] at hp
    cases hl : M.get b' with
    | none =>
      rw [hl] at hp
      simp only [Option.isNone_none, cond_true] at hp
      rcases List.mem_cons.1 hm with hm | hm
      · injection hm with h1 h2; rw [h1]; exact hl
      · exact roFree_iff r hp b blk hm
    | some y => rw [hl] at hp; simp at hp

theorem readFree_iff {b : Nat} : ∀ (l : List (Nat × Nat)), readFree b l = true → ∀ i b', (i, b') ∈ l → b' ≠ b
  | [], _, _, _, h => by cases h
  | (j, x) :: r, hp, i, b', hm => by
    rw [readFree, beqN] at hp
    by_cases e : x = b
    · simp [e] at hp
    · simp [e] at hp
      rcases List.mem_cons.1 hm with hm | hm
      · injection hm with h1 h2; rw [h2]; exact e
      · exact readFree_iff r hp i b' hm

theorem roGet_cons (h : Nat × Blk) (F : RO) (k : Nat) : roGet (h :: F) k = if h.1 = k then some h.2 else roGet F k := by
  show Bool.rec (motive := fun _ => Option Blk) (roGet F k) (some h.2) (Nat.beq h.1 k) = _
  rw [bb, beqN]
  by_cases e : h.1 = k <;> simp [e]

theorem roGet_mem {F : RO} {b : Nat} {blk : Blk} (h : roGet F b = some blk) : (b, blk) ∈ F := by
  induction F with
  | nil => cases h
  | cons p r ih =>
    rw [roGet_cons] at h
    split at h
    · rename_i e
      obtain rfl := Option.some.inj h
      rw [← e]; simp
    · exact List.mem_cons_of_mem _ (ih h)

theorem roGet_none_of {F : RO} {b : Nat} (h : ∀ blk, (b, blk) ∉ F) : roGet F b = none := by
  cases hr : roGet F b with
  | none => rfl
  | some blk => exact absurd (roGet_mem hr) (h blk)

theorem roGet_append {F G : RO} {b : Nat} {blk : Blk} (h : roGet (F ++ G) b = some blk) : (b, blk) ∈ F ∨ roGet G b = some blk := by
  induction F with
  | nil => exact .inr h
  | cons p r ih =>
    rw [List.cons_append, roGet_cons] at h
    split at h
    · rename_i e
      obtain rfl := Option.some.inj h
      left; rw [← e]; simp
    · rcases ih h with h' | h'
      · exact .inl (List.mem_cons_of_mem _ h')
      · exact .inr h'

theorem roGet_append_none {F G : RO} {b : Nat} (h : roGet (F ++ G) b = none) : roGet G b = none ∧ ¬ bnames F b := by
  induction F with
  | nil => exact ⟨h, fun ⟨_, h⟩ => (by cases h)⟩
  | cons p r ih =>
    rw [List.cons_append, roGet_cons] at h
    split at h
    · cases h
    · rename_i e
      refine ⟨(ih h).1, ?_⟩
      rintro ⟨y, hy⟩
      rcases List.mem_cons.1 hy with hy | hy
      · rw [← hy] at e; exact e rfl
      · exact (ih h).2 ⟨y, hy⟩

theorem look_none {F : RO} {M : Mem} {b : Nat} (h : look F M b = none) : M.get b = none ∧ roGet F b = none := by
  cases hm : M.get b with
  | none => rw [look_none_M hm] at h; exact ⟨rfl, h⟩
  | some x => rw [look_some_M hm] at h; cases h

theorem look_none_of {F : RO} {M : Mem} {b : Nat} (h1 : M.get b = none) (h2 : roGet F b = none) : look F M b = none := by
  rw [look_none_M h1, h2]

theorem mergeAll_spec : ∀ (p : List (Nat × Nat × Blk)) (M : Mem), ND p → ∀ b, (mergeAll p M).get b = (pget p b).or (M.get b)
  | [], M, _, b => rfl
  | (i, x, blk) :: r, M, h, b => by
    obtain ⟨h1, h2⟩ := List.pairwise_cons.1 h
    rw [mergeAll, Tr.force_eq, mergeAll_spec r _ h2, pget]
    by_cases e : b = x
    · rw [if_pos e]
      have hn : pget r b = none := by
        cases hp : pget r b with
        | none => rfl
        | some blk' => obtain ⟨j, hj⟩ := pget_some hp; exact absurd e.symm (h1 (j, b, blk') hj)
      rw [hn, Tr.get_set, if_pos e]; rfl
    · rw [if_neg e, Tr.get_set, if_neg e]

theorem testBit_lor {a b x : Nat} (h : Nat.lor a b = b) (hx : testBit a x = true) : testBit b x = true := by
  have key : ∀ m i, testBit m i = Nat.testBit m i := by
    intro m i
    show Nat.beq (m / 2 ^ i % 2) 1 = Nat.testBit m i
    rw [beqN, Nat.testBit_eq_decide_div_mod_eq]
  rw [key] at hx ⊢
  have : (a ||| b) = b := h
  rw [← this, Nat.testBit_or, hx]; rfl

end Go.Proofs.YtggfpgcnpdlnlaaDoor.Ev

