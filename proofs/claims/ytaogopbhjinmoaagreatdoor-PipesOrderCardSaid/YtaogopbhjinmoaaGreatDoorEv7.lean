/- What is proved here: pieces of the evaluator's soundness: if the evaluator comes to a value, the model's run comes to it, for every world and tape; no conditions beyond the hypotheses of each theorem. -/
import Derived.Test.YtaogopbhjinmoaaGreatDoorEv6
set_option linter.unusedSimpArgs false
set_option linter.unusedVariables false
set_option linter.defProp false
namespace Go.Proofs.YtaogopbhjinmoaaGreatDoor.Ev
open Go
section
variable {P : Program} {Bd : List Deferred} {E E' : Env} {F : RO} {M M' : Mem} {c c' : Nat → Prop} {ct ct' nt : Nat} {w w' : World} {t t' : T} {d d' : List Nat} {a : Act} {rd : Option Nat}
theorem r_seq_some {f : Kn → St → Rs} {k : Kn} {r : Rs} {e : Ex} {s' : St} (h : r_seq f k r = .k e s') : (∃ s1, r = .k .nrm s1 ∧ f k s1 = .k e s') ∨ (e ≠ .nrm ∧ r = .k e s') := by
  cases r with
  | f => cases (show Rs.f = .k e s' from h)
  | k e1 s1 =>
    cases e1 with
    | nrm => exact .inl ⟨s1, rfl, h⟩
    | ret => have h' : Rs.k .ret s1 = .k e s' := h; injection h' with h1 h2; subst h1 h2; exact .inr ⟨(fun h => by cases h), rfl⟩
    | ext id => have h' : Rs.k (.ext id) s1 = .k e s' := h; injection h' with h1 h2; subst h1 h2; exact .inr ⟨(fun h => by cases h), rfl⟩
    | gto l => have h' : Rs.k (.gto l) s1 = .k e s' := h; injection h' with h1 h2; subst h1 h2; exact .inr ⟨(fun h => by cases h), rfl⟩
theorem r_loop_some {b : CC} {k : Kn} {r : Rs} {e : Ex} {s' : St} (h : r_loop b k r = .k e s') : (∃ s1, r = .k .nrm s1 ∧ again k (.loop b) s1 = .k e s') ∨ (e ≠ .nrm ∧ r = .k e s') := by
  cases r with
  | f => cases (show Rs.f = .k e s' from h)
  | k e1 s1 =>
    cases e1 with
    | nrm => exact .inl ⟨s1, rfl, h⟩
    | ret => have h' : Rs.k .ret s1 = .k e s' := h; injection h' with h1 h2; subst h1 h2; exact .inr ⟨(fun h => by cases h), rfl⟩
    | ext id => have h' : Rs.k (.ext id) s1 = .k e s' := h; injection h' with h1 h2; subst h1 h2; exact .inr ⟨(fun h => by cases h), rfl⟩
    | gto l => have h' : Rs.k (.gto l) s1 = .k e s' := h; injection h' with h1 h2; subst h1 h2; exact .inr ⟨(fun h => by cases h), rfl⟩
theorem then_of_ne {K : Act → World → Prop} {Q : Exit → Act → World → Prop} {e : Ex} (he : e ≠ .nrm) (h : Q (exOf e) a w) : Exit.then K Q (exOf e) a w := by
  cases e with
  | nrm => exact absurd rfl he
  | _ => exact h
theorem r_block_some {id : Nat} {r : Rs} {e : Ex} {s' : St} (h : r_block id r = .k e s') : ∃ e1, r = .k e1 s' ∧ ∀ (Q : Exit → Act → World → Prop) (a : Act) (w : World), Q (exOf e) a w → Exit.inBlock id Q (exOf e1) a w := by
  cases r with
  | f => cases (show Rs.f = .k e s' from h)
  | k e1 s1 =>
    cases e1 with
    | nrm => have h' : Rs.k .nrm s1 = .k e s' := h; injection h' with h1 h2; subst h1 h2; exact ⟨_, rfl, fun _ _ _ h => h⟩
    | ret => have h' : Rs.k .ret s1 = .k e s' := h; injection h' with h1 h2; subst h1 h2; exact ⟨_, rfl, fun _ _ _ h => h⟩
    | gto l => have h' : Rs.k (.gto l) s1 = .k e s' := h; injection h' with h1 h2; subst h1 h2; exact ⟨_, rfl, fun _ _ _ h => h⟩
    | ext id' =>
      have h' : Bool.rec (motive := fun _ => Rs) (.k (.ext id') s1) (.k .nrm s1) (Nat.beq id' id) = .k e s' := h
      rw [bb, beqN] at h'
      split at h'
      · rename_i hid
        injection h' with h1 h2; subst h1 h2
        exact ⟨_, rfl, fun Q a w h => by simp only [exOf, Exit.inBlock]; rw [if_pos (of_decide_eq_true hid)]; exact h⟩
      · rename_i hid
        injection h' with h1 h2; subst h1 h2
        exact ⟨_, rfl, fun Q a w h => by simp only [exOf, Exit.inBlock]; rw [if_neg (by simpa using hid)]; exact h⟩
def ScOk (P : Program) (ex : ExF) (m : Nat) : Prop := ∀ (rd : Option Nat) (fn : Nat) (F : RO) (cc tbl : CC) (t : T) (d : List Nat) (M : Mem) (ct : Nat) (e : Ex) (t' : T) (d' : List Nat) (M' : Mem) (ct' : Nat),
  ex rd fn F (.scope cc tbl) (.mk t d M ct) = .k e (.mk t' d' M' ct') → ∀ (nt : Nat) (body code : Code), Sim P nt code cc → TblOk P nt body tbl → ∀ {Bd : List Deferred} (E : Env) (c : Nat → Prop) (w : World) (a : Act), SR P Bd F rd nt E c w a t d M ct →
    ∀ Q : Exit → Act → World → Prop, (∀ a' w', Res P Bd F rd nt E c w M ct t' d' M' ct' a' w' → Q (exOf e) a' w') → ScopeIn (fence E rd) 0 P body Q m code a w
theorem r_scope_some {tbl : CC} {k : Kn} {r : Rs} {e : Ex} {s' : St} (h : r_scope tbl k r = .k e s') : (∃ l s1 cl, r = .k (.gto l) s1 ∧ findL l tbl = some cl ∧ again k (.scope cl tbl) s1 = .k e s') ∨ ((∀ l, exOf e ≠ .goto l) ∧ r = .k e s') := by
  cases r with
  | f => cases (show Rs.f = .k e s' from h)
  | k e1 s1 =>
    cases e1 with
    | gto l =>
      have h' : s_jump tbl k s1 (findL l tbl) = .k e s' := h
      cases hf : findL l tbl with
      | none => rw [hf] at h'; cases (show Rs.f = .k e s' from h')
      | some cl => rw [hf] at h'; exact .inl ⟨l, s1, cl, rfl, hf, h'⟩
    | nrm => have h' : Rs.k .nrm s1 = .k e s' := h; injection h' with h1 h2; subst h1 h2; exact .inr ⟨(fun l h => by cases h), rfl⟩
    | ret => have h' : Rs.k .ret s1 = .k e s' := h; injection h' with h1 h2; subst h1 h2; exact .inr ⟨(fun l h => by cases h), rfl⟩
    | ext id => have h' : Rs.k (.ext id) s1 = .k e s' := h; injection h' with h1 h2; subst h1 h2; exact .inr ⟨(fun l h => by cases h), rfl⟩
theorem inScope_of {body : Code} {J : Code → Act → World → Prop} {Q : Exit → Act → World → Prop} {e : Exit} (he : ∀ l, e ≠ .goto l) (h : Q e a w) : inScopePost body J Q e a w := by
  cases e with
  | goto l => exact absurd rfl (he l)
  | _ => exact h
theorem tblOf_ok {f : Nat → Option CC} : ∀ {ls : List Nat} {tbl : CC}, tblOf f ls = some tbl → ∀ l cl, findL l tbl = some cl → f l = some cl
  | [], tbl, h, l, cl, hf => by
    obtain rfl := Option.some.inj h
    cases hf
  | l' :: ls, tbl, h, l, cl, hf => by
    rw [tblOf] at h
    split at h
    · rename_i c t h1 h2
      obtain rfl := Option.some.inj h
      have hf' : (bif Nat.beq l' l then some c else findL l t) = some cl := hf
      rw [beqN] at hf'
      by_cases e : l' = l
      · rw [decide_eq_true e, cond_true] at hf'
        obtain rfl := Option.some.inj hf'
        rw [← e]; exact h1
      · rw [decide_eq_false e, cond_false] at hf'
        exact tblOf_ok h2 l cl hf'
    · cases h
theorem execC_ok {Φ : Nat → Option CF} {ex : ExF} (hΦ : PhiOk P Φ) (hex : ExOk P ex) {m : Nat} (hlp : LpOk P ex m) (hsc : ScOk P ex m) (hdr : ∀ rd fn F, DrOk P (.mk Φ ex rd fn F)) : ∀ (j : Nat) (code : Code) (cc : CC), compC P nt j code = some cc →
    ∀ (rd : Option Nat) (fn : Nat) (F : RO) (t : T) (d : List Nat) (M : Mem) (ct : Nat) (e : Ex) (t' : T) (d' : List Nat) (M' : Mem) (ct' : Nat),
    execC cc (.mk Φ ex rd fn F) (.mk t d M ct) = .k e (.mk t' d' M' ct') → ∀ {Bd : List Deferred} (E : Env) (c : Nat → Prop) (w : World) (a : Act), SR P Bd F rd nt E c w a t d M ct →
    ∀ Q : Exit → Act → World → Prop, (∀ a' w', Res P Bd F rd nt E c w M ct t' d' M' ct' a' w' → Q (exOf e) a' w') → code.wpIn (fence E rd) 0 P Q a w := by
  intro j
  induction j with
  | zero => intro code cc hc; cases hc
  | succ j ih =>
    intro code cc hc rd fn F t d M ct e t' d' M' ct' hx Bd E c w a h Q hQ
    have hcall := callOk_of hΦ hex rd fn F
    have hy := yieldOk_of (Φ := Φ) hex rd fn F
    unfold compC at hc
    cases code with
    | skip =>
      obtain rfl := Option.some.inj hc
      have hx' : Rs.k .nrm (.mk t d M ct) = .k e (.mk t' d' M' ct') := hx
      injection hx' with h1 h2; injection h2 with e1 e2 e3 e4; subst h1 e1 e2 e3 e4
      exact wpIn_skip (hQ a w h.res)
    | label l =>
      obtain rfl := Option.some.inj hc
      have hx' : Rs.k .nrm (.mk t d M ct) = .k e (.mk t' d' M' ct') := hx
      injection hx' with h1 h2; injection h2 with e1 e2 e3 e4; subst h1 e1 e2 e3 e4
      exact wpIn_label (hQ a w h.res)
    | region id ops dr =>
      cases dr with
      | false =>
        obtain ⟨cos, hcos, rfl⟩ := Option.map_eq_some_iff.1 hc
        have hx' : r_reg (seqOps cos (.mk Φ ex rd fn F) (.mk t d M ct)) = .k e (.mk t' d' M' ct') := hx
        cases hs : seqOps cos (.mk Φ ex rd fn F) (.mk t d M ct) with
        | none => rw [hs] at hx'; cases (show Rs.f = .k e (.mk t' d' M' ct') from hx')
        | some s1 =>
          rw [hs] at hx'
          have hx2 : Rs.k .nrm s1 = .k e (.mk t' d' M' ct') := hx'
          injection hx2 with h1 h2; subst h1 h2
          refine wpIn_region ?_
          have := seq_ok (F := F) (rd := rd) (nt := nt) hcall hy (ops := ops) (Q := Q) ops.toList cos 0 E c w a t M ct rfl hcos hs h hQ
          rw [← List.range_eq_range'] at this
          simpa using this
      | true =>
        dsimp only at hc
        split at hc
        · rename_i cos hcos
          have hc' := Option.some.inj hc
          cases hd : dregC ops cos with
          | dreg n l =>
            rw [hd] at hc'
            subst hc'
            exact hdr rd fn F F rd nt id ops cos hcos n l hd t d M ct e t' d' M' ct' hx E c w a h Q hQ
          | _ =>
            exfalso
            have hd' := hd
            unfold dregC dregD at hd'
            have hb : ∀ (b : Bool) (x y : CC), (bif b then x else y) = x ∨ (bif b then x else y) = y := by intro b; cases b <;> simp
            rcases hb (regOk ops.toList (Region.before ops).toList ops.size (canon (Region.before ops).toList cos ops.size 0)) (.dreg ops.size (canon (Region.before ops).toList cos ops.size 0)) .bad with hh | hh
            · rw [hh] at hd'; cases hd'
            · rw [hh] at hd'
              rw [hd] at hc'
              rw [← hd'] at hc'
              subst hc'
              cases (show Rs.f = .k e (.mk t' d' M' ct') from hx)
        · cases hc
    | seq x y =>
      dsimp only at hc
      split at hc
      · rename_i cx cy h1 h2
        obtain rfl := Option.some.inj hc
        have hx' : r_seq (execC cy) (.mk Φ ex rd fn F) (execC cx (.mk Φ ex rd fn F) (.mk t d M ct)) = .k e (.mk t' d' M' ct') := hx
        refine wpIn_seq ?_
        rcases r_seq_some hx' with ⟨⟨t1, d1, M1, ct1⟩, hx1, hx2⟩ | ⟨hne, hx1⟩
        · refine ih x cx h1 rd fn F t d M ct .nrm t1 d1 M1 ct1 hx1 E c w a h _ ?_
          rintro a1 w1 ⟨E1, c1, hS, hG, hR⟩
          show y.wpIn (fence E rd) 0 P Q a1 w1
          rw [← fence_ext hS.ext h.rd]
          exact ih y cy h2 rd fn F t1 d1 M1 ct1 e t' d' M' ct' hx2 E1 c1 w1 a1 hR Q fun a' w' hr => hQ a' w' (hr.trans hS hG)
        · exact ih x cx h1 rd fn F t d M ct e t' d' M' ct' hx1 E c w a h _ fun a' w' hr => then_of_ne hne (hQ a' w' hr)
      · cases hc
    | cond o x y =>
      dsimp only at hc
      split at hc
      · rename_i xo cx cy h0 h1 h2
        obtain rfl := Option.some.inj hc
        have hx' : onB (xo.ev t) Rs.f (fun b => Bool.rec (motive := fun _ => Rs) (execC cy (.mk Φ ex rd fn F) (.mk t d M ct)) (execC cx (.mk Φ ex rd fn F) (.mk t d M ct)) b) = .k e (.mk t' d' M' ct') := hx
        have ev := h.cx.ev h0
        cases hv : xo.ev t with
        | b v =>
          rw [hv] at hx' ev
          have hx2 : Bool.rec (motive := fun _ => Rs) (execC cy (.mk Φ ex rd fn F) (.mk t d M ct)) (execC cx (.mk Φ ex rd fn F) (.mk t d M ct)) v = .k e (.mk t' d' M' ct') := hx'
          cases v with
          | true => exact wpIn_cond_true ev.1 (ih x cx h1 rd fn F t d M ct e t' d' M' ct' hx2 E c w a h Q hQ)
          | false => exact wpIn_cond_false ev.1 (ih y cy h2 rd fn F t d M ct e t' d' M' ct' hx2 E c w a h Q hQ)
        | _ => rw [hv] at hx'; cases (show Rs.f = .k e (.mk t' d' M' ct') from hx')
      · cases hc
    | block id x =>
      obtain ⟨cx, h1, rfl⟩ := Option.map_eq_some_iff.1 hc
      have hx' : r_block id (execC cx (.mk Φ ex rd fn F) (.mk t d M ct)) = .k e (.mk t' d' M' ct') := hx
      obtain ⟨e1, hx1, hq⟩ := r_block_some hx'
      exact wpIn_block (ih x cx h1 rd fn F t d M ct e1 t' d' M' ct' hx1 E c w a h _ fun a' w' hr => hq Q a' w' (hQ a' w' hr))
    | loop x =>
      obtain ⟨cx, h1, rfl⟩ := Option.map_eq_some_iff.1 hc
      have hx' : r_loop cx (.mk Φ ex rd fn F) (execC cx (.mk Φ ex rd fn F) (.mk t d M ct)) = .k e (.mk t' d' M' ct') := hx
      refine wpIn_loop_rounds (m + 1) ?_
      rw [roundsIn_succ]
      rcases r_loop_some hx' with ⟨⟨t1, d1, M1, ct1⟩, hx1, hx2⟩ | ⟨hne, hx1⟩
      · refine ih x cx h1 rd fn F t d M ct .nrm t1 d1 M1 ct1 hx1 E c w a h _ ?_
        rintro a1 w1 ⟨E1, c1, hS, hG, hR⟩
        show Code.roundsIn (fence E rd) 0 P x Q m a1 w1
        rw [← fence_ext hS.ext h.rd]
        have hx3 : ex rd fn F (.loop cx) (.mk t1 d1 M1 ct1) = .k e (.mk t' d' M' ct') := hx2
        exact hlp rd fn F cx t1 d1 M1 ct1 e t' d' M' ct' hx3 nt x ⟨j, h1⟩ E1 c1 w1 a1 hR Q fun a' w' hr => hQ a' w' (hr.trans hS hG)
      · exact ih x cx h1 rd fn F t d M ct e t' d' M' ct' hx1 E c w a h _ fun a' w' hr => then_of_ne hne (hQ a' w' hr)
    | rangeFunc g ps ca cb =>
      dsimp only at hc
      split at hc
      · cases hc
      · rename_i hps0
        have hps : ∀ p ∈ ps.toList, p < nt := by
          intro p hp
          have h1 : (ps.toList.all fun p => decide (p < nt)) = true := by simpa using hps0
          exact of_decide_eq_true (List.all_eq_true.1 h1 p hp)
        split at hc
        · rename_i xg asg body h0 h1 h2
          obtain rfl := Option.some.inj hc
          refine wpIn_rangeFunc fun fn' _ => ?_
          cases rd with
          | none =>
            have hx' : rfGo xg (ps.toList.map posOf) asg body (.mk Φ ex none fn F) t (ct :: d) (M.set ct (.defs false)) (ct + 1) ct = .k e (.mk t' d' M' ct') := by
              have : (M.set ct (.defs false)).force (fun M => fN (Nat.succ ct) fun c' => rfGo xg (ps.toList.map posOf) asg body (.mk Φ ex none fn F) t (ct :: d) M c' ct) = .k e (.mk t' d' M' ct') := hx
              rwa [Tr.force_eq, fN_eq] at this
            obtain ⟨E1, hS1, hE1, hρ1, hβ1, _⟩ := h.cx.rel.alloc (.defs false) (.deferred (some [])) ct 0 (fun b => c b ∨ b = ct) (h.fr ct (Nat.le_refl _)) (.inr rfl) (fun _ h => .inl h) trivial (w.alloc (.deferred (some []))) rfl rfl rfl rfl (fun _ _ _ _ _ => rfl)
            have hG1 : Grow c ct (fun b => c b ∨ b = ct) (ct + 1) := grow_one c ct
            have hR1 := h.stp hS1 hG1
            have hR2 : SR P Bd F none nt E1 (fun b => c b ∨ b = ct) (w.alloc (.deferred (some []))) { a with defers := [{ target := .collected w.heap.size, args := #[] }] ++ a.defers } t (ct :: d) (M.set ct (.defs false)) (ct + 1) :=
              ⟨⟨hR1.cx.rel, hR1.cx.glob, hR1.cx.big, hR1.cx.tr, hR1.cx.bt⟩, hR1.fr, by rw [List.map_cons, hρ1]; exact congrArg (List.cons _) hR1.df, fun b hb => by
                rcases List.mem_cons.1 hb with rfl | hb
                · exact .inr rfl
                · exact hR1.dc b hb, hR1.sz, hR1.rd⟩
            have hf : fence E none = fence E1 none := rfl
            rw [hf]
            have hen := run_enterLoop_outer (P := P) (w := w) fn' a.tmps ps ca cb
            have hsz : (w.alloc (.deferred (some []))).heap.size = w.heap.size + 1 := World.size_alloc _ _
            rw [← hsz] at hen
            refine rfGo_ok hΦ hex h0 ⟨j, h1⟩ ⟨j, h2⟩ hps hx' (.inr rfl) hR2 hen (by rw [hρ1]) rfl ?_
            intro t2 d2 M2 ct2 hs a' w' hr
            injection hs with e1 e2 e3 e4; subst e1 e2 e3 e4
            exact hQ a' w' (hr.trans hS1 hG1)
          | some l =>
            have hx' : rfIn xg (ps.toList.map posOf) asg body (.mk Φ ex (some l) fn F) t d M ct (loopOf (M.get l)) = .k e (.mk t' d' M' ct') := hx
            cases hl : loopOf (M.get l) with
            | f => rw [hl] at hx'; cases (show Rs.f = .k e (.mk t' d' M' ct') from hx')
            | k s pe fnl tml psl al bl dnl =>
              rw [hl] at hx'
              have hx2 : rfGo xg (ps.toList.map posOf) asg body (.mk Φ ex (some l) fn F) t d M ct dnl = .k e (.mk t' d' M' ct') := hx'
              obtain ⟨hcl, hbd, ob, hob, fn3, tmps3, params3, ca3, cb3, rfl, _⟩ := h.cx.rel.has _ _ (look_some_M (loopOf_some hl))
              have hen := run_enterLoop_inner (P := P) hob fn' a.tmps ps ca cb
              refine rfGo_ok hΦ hex h0 ⟨j, h1⟩ ⟨j, h2⟩ hps hx2 hbd.2 h hen rfl ?_ ?_
              · cases a; rfl
              · intro t2 d2 M2 ct2 hs a' w' hr
                injection hs with e1 e2 e3 e4; subst e1 e2 e3 e4
                exact hQ a' w' hr
        · cases hc
    | exit id =>
      obtain rfl := Option.some.inj hc
      have hx' : Rs.k (.ext id) (.mk t d M ct) = .k e (.mk t' d' M' ct') := hx
      injection hx' with h1 h2; injection h2 with e1 e2 e3 e4; subst h1 e1 e2 e3 e4
      exact wpIn_exit (hQ a w h.res)
    | scope x =>
      dsimp only at hc
      split at hc
      · rename_i cx tbl h1 h2
        obtain rfl := Option.some.inj hc
        have htbl : TblOk P nt x tbl := by
          intro l cl hl
          obtain ⟨rest, hr1, hr2⟩ := Option.bind_eq_some_iff.1 (tblOf_ok h2 l cl hl)
          exact ⟨rest, hr1, j, hr2⟩
        have hx' : r_scope tbl (.mk Φ ex rd fn F) (execC cx (.mk Φ ex rd fn F) (.mk t d M ct)) = .k e (.mk t' d' M' ct') := hx
        refine wpIn_scope (m + 1) ?_
        show x.wpIn (fence E rd) 0 P (inScopePost x (ScopeIn (fence E rd) 0 P x Q m) Q) a w
        rcases r_scope_some hx' with ⟨l, ⟨t1, d1, M1, ct1⟩, cl, hx1, hfl, hx2⟩ | ⟨hne, hx1⟩
        · refine ih x cx h1 rd fn F t d M ct (.gto l) t1 d1 M1 ct1 hx1 E c w a h _ ?_
          rintro a1 w1 ⟨E1, c1, hS, hG, hR⟩
          obtain ⟨rest, hr1, hr2⟩ := htbl l cl hfl
          show inScopePost x (ScopeIn (fence E rd) 0 P x Q m) Q (.goto l) a1 w1
          unfold inScopePost
          dsimp only
          rw [hr1]
          rw [← fence_ext hS.ext h.rd]
          have hx3 : ex rd fn F (.scope cl tbl) (.mk t1 d1 M1 ct1) = .k e (.mk t' d' M' ct') := hx2
          exact hsc rd fn F cl tbl t1 d1 M1 ct1 e t' d' M' ct' hx3 nt x rest hr2 htbl E1 c1 w1 a1 hR Q fun a' w' hr => hQ a' w' (hr.trans hS hG)
        · exact ih x cx h1 rd fn F t d M ct e t' d' M' ct' hx1 E c w a h _ fun a' w' hr => inScope_of hne (hQ a' w' hr)
      · cases hc
    | goto l =>
      obtain rfl := Option.some.inj hc
      have hx' : Rs.k (.gto l) (.mk t d M ct) = .k e (.mk t' d' M' ct') := hx
      injection hx' with h1 h2; injection h2 with e1 e2 e3 e4; subst h1 e1 e2 e3 e4
      exact wpIn_goto (hQ a w h.res)
    | ret =>
      obtain rfl := Option.some.inj hc
      have hx' : Rs.k .ret (.mk t d M ct) = .k e (.mk t' d' M' ct') := hx
      injection hx' with h1 h2; injection h2 with e1 e2 e3 e4; subst h1 e1 e2 e3 e4
      exact wpIn_ret (hQ a w h.res)
    | refuse s =>
      obtain rfl := Option.some.inj hc
      cases (show Rs.f = .k e (.mk t' d' M' ct') from hx)
theorem exec_ok {Φ : Nat → Option CF} (hΦ : PhiOk P Φ) (hdr : ∀ ex, ExOk P ex → ∀ rd fn F, DrOk P (.mk Φ ex rd fn F)) : ∀ n, ExOk P (exec Φ n) ∧ LpOk P (exec Φ n) n ∧ ScOk P (exec Φ n) n := by
  intro n
  induction n with
  | zero =>
    refine ⟨?_, ?_, ?_⟩
    · intro rd fn F cc t d M ct e t' d' M' ct' hx
      cases (show Rs.f = .k e (.mk t' d' M' ct') from hx)
    · intro rd fn F cc t d M ct e t' d' M' ct' hx
      cases (show Rs.f = .k e (.mk t' d' M' ct') from hx)
    · intro rd fn F cc tbl t d M ct e t' d' M' ct' hx
      cases (show Rs.f = .k e (.mk t' d' M' ct') from hx)
  | succ n ih =>
    have key := fun nt => execC_ok (nt := nt) hΦ ih.1 ih.2.1 ih.2.2 (hdr _ ih.1)
    refine ⟨?_, ?_, ?_⟩
    · intro rd fn F cc t d M ct e t' d' M' ct' hx nt code hsim
      obtain ⟨j, hj⟩ := hsim
      exact key nt j code cc hj rd fn F t d M ct e t' d' M' ct' hx
    · intro rd fn F b t d M ct e t' d' M' ct' hx nt code hsim Bd E c w a h Q hQ
      obtain ⟨j, hj⟩ := hsim
      have hx' : r_loop b (.mk Φ (exec Φ n) rd fn F) (execC b (.mk Φ (exec Φ n) rd fn F) (.mk t d M ct)) = .k e (.mk t' d' M' ct') := hx
      rw [roundsIn_succ]
      rcases r_loop_some hx' with ⟨⟨t1, d1, M1, ct1⟩, hx1, hx2⟩ | ⟨hne, hx1⟩
      · refine key nt j code b hj rd fn F t d M ct .nrm t1 d1 M1 ct1 hx1 E c w a h _ ?_
        rintro a1 w1 ⟨E1, c1, hS, hG, hR⟩
        show Code.roundsIn (fence E rd) 0 P code Q n a1 w1
        rw [← fence_ext hS.ext h.rd]
        have hx3 : exec Φ n rd fn F (.loop b) (.mk t1 d1 M1 ct1) = .k e (.mk t' d' M' ct') := hx2
        exact ih.2.1 rd fn F b t1 d1 M1 ct1 e t' d' M' ct' hx3 nt code ⟨j, hj⟩ E1 c1 w1 a1 hR Q fun a' w' hr => hQ a' w' (hr.trans hS hG)
      · exact key nt j code b hj rd fn F t d M ct e t' d' M' ct' hx1 E c w a h _ fun a' w' hr => then_of_ne hne (hQ a' w' hr)
    · intro rd fn F cc tbl t d M ct e t' d' M' ct' hx nt body code hsim htbl Bd E c w a h Q hQ
      obtain ⟨j, hj⟩ := hsim
      have hx' : r_scope tbl (.mk Φ (exec Φ n) rd fn F) (execC cc (.mk Φ (exec Φ n) rd fn F) (.mk t d M ct)) = .k e (.mk t' d' M' ct') := hx
      show code.wpIn (fence E rd) 0 P (inScopePost body (ScopeIn (fence E rd) 0 P body Q n) Q) a w
      rcases r_scope_some hx' with ⟨l, ⟨t1, d1, M1, ct1⟩, cl, hx1, hfl, hx2⟩ | ⟨hne, hx1⟩
      · refine key nt j code cc hj rd fn F t d M ct (.gto l) t1 d1 M1 ct1 hx1 E c w a h _ ?_
        rintro a1 w1 ⟨E1, c1, hS, hG, hR⟩
        obtain ⟨rest, hr1, hr2⟩ := htbl l cl hfl
        show inScopePost body (ScopeIn (fence E rd) 0 P body Q n) Q (.goto l) a1 w1
        unfold inScopePost
        dsimp only
        rw [hr1]
        rw [← fence_ext hS.ext h.rd]
        have hx3 : exec Φ n rd fn F (.scope cl tbl) (.mk t1 d1 M1 ct1) = .k e (.mk t' d' M' ct') := hx2
        exact ih.2.2 rd fn F cl tbl t1 d1 M1 ct1 e t' d' M' ct' hx3 nt body rest hr2 htbl E1 c1 w1 a1 hR Q fun a' w' hr => hQ a' w' (hr.trans hS hG)
      · exact key nt j code cc hj rd fn F t d M ct e t' d' M' ct' hx1 E c w a h _ fun a' w' hr => inScope_of hne (hQ a' w' hr)
end
end Go.Proofs.YtaogopbhjinmoaaGreatDoor.Ev
namespace Go.Proofs.YtaogopbhjinmoaaGreatDoor.Ev
open Go
def Agree (ps : List Pos) (t t' : T) : Prop := ∀ p ∈ ps, getT t' p = getT t p
section
variable {t t' : T}
theorem Agree.l {a b : List Pos} (h : Agree (a ++ b) t t') : Agree a t t' := fun p hp => h p (List.mem_append_left _ hp)
theorem Agree.r {a b : List Pos} (h : Agree (a ++ b) t t') : Agree b t t' := fun p hp => h p (List.mem_append_right _ hp)
theorem Agree.ev {x : X} (h : Agree x.ps t t') : x.ev t' = x.ev t := by
  cases x with
  | t p => exact h p (by simp [X.ps])
  | c v => rfl
theorem Agree.evs {xs : List X} (h : Agree (psL xs) t t') : Ev.evs xs t' = Ev.evs xs t := by
  induction xs with
  | nil => rfl
  | cons x xs ih =>
    show x.ev t' :: Ev.evs xs t' = x.ev t :: Ev.evs xs t
    rw [h.l.ev, ih h.r]
theorem Agree.optN {o : Option X} (h : Agree (psO o) t t') (d : Nat) : Ev.optN t' d o = Ev.optN t d o := by
  cases o with
  | none => rfl
  | some x =>
    show asN (x.ev t') = asN (x.ev t)
    rw [Agree.ev h]
theorem Agree.optNN {o : Option X} (h : Agree (psO o) t t') : Ev.optNN t' o = Ev.optNN t o := by
  cases o with
  | none => rfl
  | some x =>
    have h' : Agree x.ps t t' := h
    simp only [Ev.optNN]
    rw [h'.ev]
theorem Agree.minAll {xs : List X} (h : Agree (psL xs) t t') (mx : Bool) : ∀ v, Ev.minAll mx t' v xs = Ev.minAll mx t v xs := by
  induction xs with
  | nil => intro v; rfl
  | cons x xs ih =>
    intro v
    simp only [Ev.minAll]
    rw [h.l.ev]
    cases minV mx v (x.ev t) with
    | none => rfl
    | some v' => exact ih h.r v'
theorem Agree.fillParts {ps : List (Nat × Nat × X)} (h : Agree (psP ps) t t') : ∀ cs, Ev.fillParts t' cs ps = Ev.fillParts t cs ps := by
  induction ps with
  | nil => intro v; rfl
  | cons x xs ih =>
    obtain ⟨o, n, x⟩ := x
    intro cs
    simp only [Ev.fillParts]
    have h1 : Agree x.ps t t' := h.l
    have h2 : Agree (psP xs) t t' := h.r
    rw [h1.ev]
    cases Nat.beq (flatten (x.ev t)).length n with
    | false => rfl
    | true =>
      simp only [cond_true]
      cases replL cs o (flatten (x.ev t)) with
      | none => rfl
      | some cs' => exact ih h2 cs'
theorem Agree.fillP {ps : List (Nat × X)} (h : Agree (psP2 ps) t t') (sz m : Nat) : ∀ tt, Ev.fillP sz m t' ps tt = Ev.fillP sz m t ps tt := by
  induction ps with
  | nil => intro v; rfl
  | cons x xs ih =>
    obtain ⟨o, x⟩ := x
    intro tt
    simp only [Ev.fillP]
    have h1 : Agree x.ps t t' := h.l
    have h2 : Agree (psP2 xs) t t' := h.r
    rw [h1.ev]
    cases Nat.beq (flatten (x.ev t)).length sz && Nat.ble (Nat.add o sz) m && allOne (flatten (x.ev t)) with
    | false => rfl
    | true =>
      simp only [cond_true, Tr.force_eq]
      exact ih h2 _
theorem qop_congr (F : RO) (M : Mem) {o : QO} (h : Agree o.ps t t') : qop o F M t' = qop o F M t := by
  cases o with
  | mv x => have h1 : x.ev t' = x.ev t := Agree.ev h; show q_mv x F M t' = q_mv x F M t; unfold q_mv; rw [h1]
  | pk c a b =>
    have h1 := Agree.l h |>.ev; have h2 := (Agree.r h).l.ev; have h3 := (Agree.r h).r.ev
    show q_pk c a b F M t' = q_pk c a b F M t; unfold q_pk; rw [h1, h2, h3]
  | ld1 x => have h1 : x.ev t' = x.ev t := Agree.ev h; show q_ld1 x F M t' = q_ld1 x F M t; unfold q_ld1; rw [h1]
  | ldn n x => have h1 : x.ev t' = x.ev t := Agree.ev h; show q_ldn n x F M t' = q_ldn n x F M t; unfold q_ldn; rw [h1]
  | nck x => have h1 : x.ev t' = x.ev t := Agree.ev h; show q_nck x F M t' = q_nck x F M t; unfold q_nck; rw [h1]
  | bi op x y => have h1 := Agree.l h |>.ev; have h2 := Agree.r h |>.ev; show q_bi op x y F M t' = q_bi op x y F M t; unfold q_bi; rw [h1, h2]
  | eq neg sh lit x y => have h1 := Agree.l h |>.ev; have h2 := Agree.r h |>.ev; show q_eq neg sh lit x y F M t' = q_eq neg sh lit x y F M t; unfold q_eq; rw [h1, h2]
  | un op x => have h1 : x.ev t' = x.ev t := Agree.ev h; show q_un op x F M t' = q_un op x F M t; unfold q_un; rw [h1]
  | ci k x => have h1 : x.ev t' = x.ev t := Agree.ev h; show q_ci k x F M t' = q_ci k x F M t; unfold q_ci; rw [h1]
  | bs x => have h1 : x.ev t' = x.ev t := Agree.ev h; show q_bs x F M t' = q_bs x F M t; unfold q_bs; rw [h1]
  | mki k x => have h1 : x.ev t' = x.ev t := Agree.ev h; show q_mki k x F M t' = q_mki k x F M t; unfold q_mki; rw [h1]
  | mkf f a b => have h1 := (Agree.l h).evs; have h2 := (Agree.r h).evs; show q_mkf f a b F M t' = q_mkf f a b F M t; unfold q_mkf; rw [h1, h2]
  | fa k x => have h1 : x.ev t' = x.ev t := Agree.ev h; show q_fa k x F M t' = q_fa k x F M t; unfold q_fa; rw [h1]
  | fl1 k x => have h1 : x.ev t' = x.ev t := Agree.ev h; show q_fl1 k x F M t' = q_fl1 k x F M t; unfold q_fl1; rw [h1]
  | fln k n x => have h1 : x.ev t' = x.ev t := Agree.ev h; show q_fln k n x F M t' = q_fln k n x F M t; unfold q_fln; rw [h1]
  | iaA l s x y => have h1 := Agree.l h |>.ev; have h2 := Agree.r h |>.ev; show q_iaA l s x y F M t' = q_iaA l s x y F M t; unfold q_iaA; rw [h1, h2]
  | iaS s x y => have h1 := Agree.l h |>.ev; have h2 := Agree.r h |>.ev; show q_iaS s x y F M t' = q_iaS s x y F M t; unfold q_iaS; rw [h1, h2]
  | ixA1 l s x y => have h1 := Agree.l h |>.ev; have h2 := Agree.r h |>.ev; show q_ixA1 l s x y F M t' = q_ixA1 l s x y F M t; unfold q_ixA1; rw [h1, h2]
  | ixAn l s x y => have h1 := Agree.l h |>.ev; have h2 := Agree.r h |>.ev; show q_ixAn l s x y F M t' = q_ixAn l s x y F M t; unfold q_ixAn; rw [h1, h2]
  | ixS x y => have h1 := Agree.l h |>.ev; have h2 := Agree.r h |>.ev; show q_ixS x y F M t' = q_ixS x y F M t; unfold q_ixS; rw [h1, h2]
  | slS x lo hi =>
    have h1 := Agree.l h |>.ev
    show q_slS x lo hi F M t' = q_slS x lo hi F M t; unfold q_slS; rw [h1]
    simp only [(Agree.r h).l.optN, (Agree.r h).r.optN]
  | slL s x lo hi mx =>
    have h1 := Agree.l h |>.ev
    show q_slL s x lo hi mx F M t' = q_slL s x lo hi mx F M t; unfold q_slL; rw [h1, (Agree.r h).l.optNN, (Agree.r h).r.l.optNN, (Agree.r h).r.r.optNN]
  | slA n s x lo hi mx =>
    have h1 := Agree.l h |>.ev
    show q_slA n s x lo hi mx F M t' = q_slA n s x lo hi mx F M t; unfold q_slA; rw [h1]
    simp only [(Agree.r h).l.optN, (Agree.r h).r.l.optN, (Agree.r h).r.r.optN]
  | lk sh z ok x y => have h1 := Agree.l h |>.ev; have h2 := Agree.r h |>.ev; show q_lk sh z ok x y F M t' = q_lk sh z ok x y F M t; unfold q_lk; rw [h1, h2]
  | ex i x => have h1 : x.ev t' = x.ev t := Agree.ev h; show q_ex i x F M t' = q_ex i x F M t; unfold q_ex; rw [h1]
  | ln sh x => have h1 : x.ev t' = x.ev t := Agree.ev h; show q_ln sh x F M t' = q_ln sh x F M t; unfold q_ln; rw [h1]
  | lnc n => rfl
  | cp x => have h1 : x.ev t' = x.ev t := Agree.ev h; show q_cp x F M t' = q_cp x F M t; unfold q_cp; rw [h1]
  | mn mx x xs => have h1 := Agree.l h |>.ev; show q_mn mx x xs F M t' = q_mn mx x xs F M t; unfold q_mn; rw [h1, (Agree.r h).minAll]
  | bld z ps => show q_bld z ps F M t' = q_bld z ps F M t; unfold q_bld; rw [Agree.fillParts h]
  | ta w z ok x => have h1 : x.ev t' = x.ev t := Agree.ev h; show q_ta w z ok x F M t' = q_ta w z ok x F M t; unfold q_ta; rw [h1]
  | up x => have h1 : x.ev t' = x.ev t := Agree.ev h; show q_up x F M t' = q_up x F M t; unfold q_up; rw [h1]
  | dn ty s x => have h1 : x.ev t' = x.ev t := Agree.ev h; show q_dn ty s x F M t' = q_dn ty s x F M t; unfold q_dn; rw [h1]
  | sd x => have h1 : x.ev t' = x.ev t := Agree.ev h; show q_sd x F M t' = q_sd x F M t; unfold q_sd; rw [h1]
  | xib x y => have h1 := Agree.l h |>.ev; have h2 := Agree.r h |>.ev; show q_xib x y F M t' = q_xib x y F M t; unfold q_xib; rw [h1, h2]
  | xibB x y => have h1 := Agree.l h |>.ev; have h2 := Agree.r h |>.ev; show q_xibB x y F M t' = q_xibB x y F M t; unfold q_xibB; rw [h1, h2]
  | xcmp x y => have h1 := Agree.l h |>.ev; have h2 := Agree.r h |>.ev; show q_xcmp x y F M t' = q_xcmp x y F M t; unfold q_xcmp; rw [h1, h2]
  | sap n x => have h1 : x.ev t' = x.ev t := Agree.ev h; show q_sap n x F M t' = q_sap n x F M t; unfold q_sap; rw [h1]
  | xcn x y => have h1 := Agree.l h |>.ev; have h2 := Agree.r h |>.ev; show q_xcn x y F M t' = q_xcn x y F M t; unfold q_xcn; rw [h1, h2]
  | bad => rfl
theorem aop_congr (b : Nat) {o : AO} (h : Agree o.ps t t') : aop o b t' = aop o b t := by
  cases o with
  | al ty cs => rfl
  | bx ty sz x => have h1 : x.ev t' = x.ev t := Agree.ev h; show a_bx ty sz x b t' = a_bx ty sz x b t; unfold a_bx; rw [h1]
  | bsl ty n sz z ps => show a_bsl ty n sz z ps b t' = a_bsl ty n sz z ps b t; unfold a_bsl; rw [Agree.fillP h]
  | mks ty sz by_ z l k => have h1 := Agree.l h |>.ev; have h2 := Agree.r h |>.ev; show a_mks ty sz by_ z l k b t' = a_mks ty sz by_ z l k b t; unfold a_mks; rw [h1, h2]
  | mkm => rfl
  | sb ty x => have h1 : x.ev t' = x.ev t := Agree.ev h; show a_sb ty x b t' = a_sb ty x b t; unfold a_sb; rw [h1]
  | nz ty x => have h1 : x.ev t' = x.ev t := Agree.ev h; show a_nz ty x b t' = a_nz ty x b t; unfold a_nz; rw [h1]
  | rgs x => have h1 : x.ev t' = x.ev t := Agree.ev h; show a_rgs x b t' = a_rgs x b t; unfold a_rgs; rw [h1]
theorem doE_congr (k : Kn) (M : Mem) (c : Nat) {o : EO} (h : Agree o.ps t t') : doE o k M c t' = doE o k M c t := by
  cases o with
  | call f as => have h1 := Agree.evs h; show x_call f as k M c t' = x_call f as k M c t; unfold x_call; rw [h1]
  | cv f as => have h1 := Agree.l h |>.ev; have h2 := (Agree.r h).evs; show x_cv f as k M c t' = x_cv f as k M c t; unfold x_cv; rw [h1, h2]
  | st n x y => have h1 := Agree.l h |>.ev; have h2 := Agree.r h |>.ev; show x_st n x y k M c t' = x_st n x y k M c t; unfold x_st e_st; rw [h1, h2]
  | app ty sz by_ x y => have h1 := Agree.l h |>.ev; have h2 := Agree.r h |>.ev; show x_app ty sz by_ x y k M c t' = x_app ty sz by_ x y k M c t; unfold x_app e_app; rw [h1, h2]
  | cpy sz x y => have h1 := Agree.l h |>.ev; have h2 := Agree.r h |>.ev; show x_cpy sz x y k M c t' = x_cpy sz x y k M c t; unfold x_cpy e_cpy; rw [h1, h2]
  | clr z x => have h1 : x.ev t' = x.ev t := Agree.ev h; show x_clr z x k M c t' = x_clr z x k M c t; unfold x_clr e_clr; rw [h1]
  | mu sh m k' v => have h1 := Agree.l h |>.ev; have h2 := (Agree.r h).l.ev; have h3 := (Agree.r h).r.ev; show x_mu sh m k' v k M c t' = x_mu sh m k' v k M c t; unfold x_mu e_mu; rw [h1, h2, h3]
  | del sh m k' => have h1 := Agree.l h |>.ev; have h2 := Agree.r h |>.ev; show x_del sh m k' k M c t' = x_del sh m k' k M c t; unfold x_del e_del; rw [h1, h2]
  | us ty x n => have h1 := Agree.l h |>.ev; have h2 := Agree.r h |>.ev; show x_us ty x n k M c t' = x_us ty x n k M c t; unfold x_us e_us; rw [h1, h2]
  | ms x => have h1 : x.ev t' = x.ev t := Agree.ev h; show x_ms x k M c t' = x_ms x k M c t; unfold x_ms e_ms; rw [h1]
  | nxs x => have h1 : x.ev t' = x.ev t := Agree.ev h; show x_nxs x k M c t' = x_nxs x k M c t; unfold x_nxs e_nxs; rw [h1]
  | rgm x => have h1 : x.ev t' = x.ev t := Agree.ev h; show x_rgm x k M c t' = x_rgm x k M c t; unfold x_rgm e_rgm; rw [h1]
  | inv tbl f as => have h1 := Agree.l h |>.ev; have h2 := (Agree.r h).evs; show x_inv tbl f as k M c t' = x_inv tbl f as k M c t; unfold x_inv; rw [h1, h2]
  | mcl x => have h1 : x.ev t' = x.ev t := Agree.ev h; show x_mcl x k M c t' = x_mcl x k M c t; unfold x_mcl e_mcl; rw [h1]
  | ent x => have h1 : x.ev t' = x.ev t := Agree.ev h; show x_ent x k M c t' = x_ent x k M c t; unfold x_ent e_ent; rw [h1]
  | apz ty by_ x y => have h1 := Agree.l h |>.ev; have h2 := Agree.r h |>.ev; show x_apz ty by_ x y k M c t' = x_apz ty by_ x y k M c t; unfold x_apz e_apz; rw [h1, h2]
  | nxm x => have h1 : x.ev t' = x.ev t := Agree.ev h; show x_nxm x k M c t' = x_nxm x k M c t; unfold x_nxm e_nxm; rw [h1]
theorem wanted_congr {g : Option (Pos × Bool)} (h : Agree (gps g) t t') : wanted t' g = wanted t g := by
  cases g with
  | none => rfl
  | some pw =>
    obtain ⟨p, want⟩ := pw
    show wanted1 want (getT t' p) = wanted1 want (getT t p)
    rw [h p (by simp [gps])]
theorem posEq_iff : ∀ p q : Pos, posEq p q = true ↔ p = q
  | .h, .h => by simp [posEq]
  | .l p, .l q => by simp [posEq, posEq_iff p q]
  | .r p, .r q => by simp [posEq, posEq_iff p q]
  | .h, .l _ => by simp [posEq]
  | .h, .r _ => by simp [posEq]
  | .l _, .h => by simp [posEq]
  | .l _, .r _ => by simp [posEq]
  | .r _, .h => by simp [posEq]
  | .r _, .l _ => by simp [posEq]
theorem posIn_iff (p : Pos) (l : List Pos) : posIn p l = true ↔ p ∈ l := by
  induction l with
  | nil => simp [posIn]
  | cons q r ih =>
    simp only [posIn, List.mem_cons]
    cases h : posEq p q with
    | true => simp [(posEq_iff p q).1 h]
    | false =>
      have : p ≠ q := fun e => by rw [(posEq_iff p q).2 e] at h; cases h
      simp [this, ih]
theorem Agree.setT {ps : List Pos} {dst : Option Pos} (h : dstIn ps dst = false) (t : T) (v : V) : Agree ps t (Ev.setT t dst v) := by
  intro p hp
  cases dst with
  | none => rfl
  | some q =>
    have hne : p ≠ q := by
      rintro rfl
      have : posIn p ps = true := (posIn_iff p ps).2 hp
      rw [show dstIn ps (some p) = posIn p ps from rfl, this] at h; cases h
    rw [setT_some]
    unfold getT; rw [Tr.getP_setP_ne q v p t hne]
theorem setT_comm {d1 d2 : Option Pos} (h : dstSame d1 d2 = false) (t : T) (v1 v2 : V) : Ev.setT (Ev.setT t d1 v1) d2 v2 = Ev.setT (Ev.setT t d2 v2) d1 v1 := by
  cases d1 with
  | none => rfl
  | some p =>
    cases d2 with
    | none => rfl
    | some q =>
      have hne : p ≠ q := fun e => by
        have := (posEq_iff p q).2 e
        rw [show dstSame (some p) (some q) = posEq p q from rfl, this] at h; cases h
      simp only [setT_some]
      exact Tr.setP_comm p v1 q v2 t (Ne.symm hne)
end
end Go.Proofs.YtaogopbhjinmoaaGreatDoor.Ev
namespace Go.Proofs.YtaogopbhjinmoaaGreatDoor.Ev
open Go
structure SS where
  t : T
  m : Nat → Option Blk
  ct : Nat
inductive LK where
  | skip
  | qv (v : V)
  | qr (v : V) (b : Nat)
  | al (v : V) (blk : Blk)
  | ef (v : V) (M1 : Mem) (F1 : RO) (M' : Mem) (ct ct' : Nat)
structure Lab where
  i : Nat
  mask : Nat
  co : CO
  k : LK
def CO.op : CO → OK
  | .mk _ op _ => op
def CO.guard : CO → Option (Pos × Bool)
  | .mk _ _ g => g
def LK.isEf : LK → Bool
  | .ef .. => true
  | _ => false
noncomputable def afterM (M1 M' : Mem) (m : Nat → Option Blk) (b : Nat) : Option Blk :=
  if M1.get b = none ∧ m b ≠ none then m b else M'.get b
def setF (m : Nat → Option Blk) (b : Nat) (blk : Blk) : Nat → Option Blk := fun x => if x = b then some blk else m x
structure EfOk (k : Kn) (F : RO) (o : EO) (v : V) (M1 : Mem) (F1 : RO) (M' : Mem) (ct ct' : Nat) (t : T) (m : Nat → Option Blk) : Prop where
  run : doE o (knF k F1) M1 ct t = .k v M' ct'
  sub : ∀ b blk, M1.get b = some blk → m b = some blk
  ro : ∀ b blk, roGet F1 b = some blk → (m b = some blk ∧ M1.get b = none) ∨ roGet F b = some blk
  new : ∀ b, (roGet F b).isSome → M'.get b = none
def Tn (k : Kn) (base : Nat) (F : RO) (l : Lab) (s s' : SS) : Prop :=
  match l.k with
  | .skip => wanted s.t l.co.guard = false ∧ s' = ⟨setT s.t l.co.dst undef, s.m, s.ct⟩
  | .qv v => wanted s.t l.co.guard = true ∧ ∃ o, l.co.op = .q o ∧ (qop o [] .e s.t).val = some v ∧ s' = ⟨setT s.t l.co.dst v, s.m, s.ct⟩
  | .qr v b => wanted s.t l.co.guard = true ∧ ∃ o blk, l.co.op = .q o ∧ (s.m b = some blk ∨ (s.m b = none ∧ roGet F b = some blk)) ∧ (qop o [(b, blk)] .e s.t).val = some v ∧ s' = ⟨setT s.t l.co.dst v, s.m, s.ct⟩
  | .al v blk => wanted s.t l.co.guard = true ∧ ∃ o, l.co.op = .a o ∧ aop o (base + l.i) s.t = some (v, blk) ∧ s' = ⟨setT s.t l.co.dst v, setF s.m (base + l.i) blk, s.ct⟩
  | .ef v M1 F1 M' ct ct' => wanted s.t l.co.guard = true ∧ s.ct = ct ∧ ∃ o, l.co.op = .e o ∧ EfOk k F o v M1 F1 M' ct ct' s.t s.m ∧ s' = ⟨setT s.t l.co.dst v, afterM M1 M' s.m, ct'⟩
structure Apart (base : Nat) (x y : Lab) : Prop where
  ne : x.i ≠ y.i
  kx : x.k.isEf = false
  d1 : dstIn y.co.ps x.co.dst = false
  d2 : dstIn x.co.ps y.co.dst = false
  d3 : dstSame x.co.dst y.co.dst = false
  rd : ∀ vx b v M1 F1 M' ct ct', x.k = .qr vx b → y.k = .ef v M1 F1 M' ct ct' → M1.get b = none
  al : ∀ vx blk v M1 F1 M' ct ct', x.k = .al vx blk → y.k = .ef v M1 F1 M' ct ct' → M1.get (base + x.i) = none ∧ roGet F1 (base + x.i) = none
  rd2 : ∀ vx blk v b, x.k = .al vx blk → y.k = .qr v b → b ≠ base + x.i
  rd3 : ∀ vx b v blk, x.k = .qr vx b → y.k = .al v blk → b ≠ base + y.i
section
variable {k : Kn} {base : Nat} {F : RO} {x y : Lab} {s s1 s2 : SS}
theorem CO.ps_eq (c : CO) : c.ps = gps c.guard ++ c.op.ps := by cases c; rfl
def Lab.val (l : Lab) : V := match l.k with
  | .skip => undef
  | .qv v | .qr v _ | .al v _ => v
  | .ef v .. => v
noncomputable def Lab.mem (base : Nat) (l : Lab) (m : Nat → Option Blk) : Nat → Option Blk := match l.k with
  | .al _ blk => setF m (base + l.i) blk
  | .ef _ M1 _ M' _ _ => afterM M1 M' m
  | _ => m
def Lab.ctr (l : Lab) (ct : Nat) : Nat := match l.k with
  | .ef _ _ _ _ _ ct' => ct'
  | _ => ct
def Can (k : Kn) (base : Nat) (F : RO) (l : Lab) (s : SS) : Prop :=
  match l.k with
  | .skip => wanted s.t l.co.guard = false
  | .qv v => wanted s.t l.co.guard = true ∧ ∃ o, l.co.op = .q o ∧ (qop o [] .e s.t).val = some v
  | .qr v b => wanted s.t l.co.guard = true ∧ ∃ o blk, l.co.op = .q o ∧ (s.m b = some blk ∨ (s.m b = none ∧ roGet F b = some blk)) ∧ (qop o [(b, blk)] .e s.t).val = some v
  | .al v blk => wanted s.t l.co.guard = true ∧ ∃ o, l.co.op = .a o ∧ aop o (base + l.i) s.t = some (v, blk)
  | .ef v M1 F1 M' ct ct' => wanted s.t l.co.guard = true ∧ s.ct = ct ∧ ∃ o, l.co.op = .e o ∧ EfOk k F o v M1 F1 M' ct ct' s.t s.m
theorem Tn_iff : Tn k base F x s s1 ↔ Can k base F x s ∧ s1 = ⟨setT s.t x.co.dst x.val, x.mem base s.m, x.ctr s.ct⟩ := by
  unfold Tn Can Lab.val Lab.mem Lab.ctr
  cases x.k with
  | skip => exact Iff.rfl
  | qv v =>
    constructor
    · rintro ⟨h1, o, h2, h3, h4⟩; exact ⟨⟨h1, o, h2, h3⟩, h4⟩
    · rintro ⟨⟨h1, o, h2, h3⟩, h4⟩; exact ⟨h1, o, h2, h3, h4⟩
  | qr v b =>
    constructor
    · rintro ⟨h1, o, blk, h2, h3, h4, h5⟩; exact ⟨⟨h1, o, blk, h2, h3, h4⟩, h5⟩
    · rintro ⟨⟨h1, o, blk, h2, h3, h4⟩, h5⟩; exact ⟨h1, o, blk, h2, h3, h4, h5⟩
  | al v blk =>
    constructor
    · rintro ⟨h1, o, h2, h3, h4⟩; exact ⟨⟨h1, o, h2, h3⟩, h4⟩
    · rintro ⟨⟨h1, o, h2, h3⟩, h4⟩; exact ⟨h1, o, h2, h3, h4⟩
  | ef v M1 F1 M' ct ct' =>
    constructor
    · rintro ⟨h1, h0, o, h2, h3, h4⟩; exact ⟨⟨h1, h0, o, h2, h3⟩, h4⟩
    · rintro ⟨⟨h1, h0, o, h2, h3⟩, h4⟩; exact ⟨h1, h0, o, h2, h3, h4⟩
def MemOk (base : Nat) (F : RO) (l : Lab) (m m' : Nat → Option Blk) : Prop := match l.k with
  | .qr _ b => m' b = m b
  | .ef _ M1 F1 _ _ _ => (∀ b, (M1.get b).isSome → m' b = m b) ∧ (∀ b, (roGet F1 b).isSome → m' b = m b)
  | _ => True
theorem Can.move {t t' : T} {m m' : Nat → Option Blk} {ct ct' : Nat} (h : Can k base F x ⟨t, m, ct⟩) (ha : Agree x.co.ps t t') (hm : MemOk base F x m m') (hc : x.k.isEf = true → ct' = ct) : Can k base F x ⟨t', m', ct'⟩ := by
  rw [CO.ps_eq] at ha
  have hw := wanted_congr ha.l
  have ho := ha.r
  unfold Can at h ⊢
  unfold MemOk at hm
  cases hk : x.k with
  | skip => rw [hk] at h; exact hw.trans h
  | qv v =>
    rw [hk] at h
    obtain ⟨h1, o, h2, h3⟩ := h
    rw [h2] at ho
    exact ⟨hw.trans h1, o, h2, by show (qop o [] .e t').val = _; rw [qop_congr _ _ ho]; exact h3⟩
  | qr v b =>
    rw [hk] at h hm
    obtain ⟨h1, o, blk, h2, h3, h4⟩ := h
    rw [h2] at ho
    have hm' : m' b = m b := hm
    exact ⟨hw.trans h1, o, blk, h2, by show m' b = _ ∨ (m' b = _ ∧ _); rw [hm']; exact h3, by show (qop o _ .e t').val = _; rw [qop_congr _ _ ho]; exact h4⟩
  | al v blk =>
    rw [hk] at h
    obtain ⟨h1, o, h2, h3⟩ := h
    rw [h2] at ho
    exact ⟨hw.trans h1, o, h2, by show aop o _ t' = _; rw [aop_congr _ ho]; exact h3⟩
  | ef v M1 F1 M' c1 c2 =>
    rw [hk] at h hm hc
    obtain ⟨h1, h0, o, h2, h3⟩ := h
    rw [h2] at ho
    have hm' : (∀ b, (M1.get b).isSome → m' b = m b) ∧ (∀ b, (roGet F1 b).isSome → m' b = m b) := hm
    refine ⟨hw.trans h1, (hc rfl).trans h0, o, h2, ⟨?_, ?_, ?_, h3.new⟩⟩
    · show doE o (knF k F1) M1 c1 t' = _
      rw [doE_congr _ _ _ ho]; exact h3.run
    · intro b blk hb
      show m' b = _
      rw [hm'.1 b (by rw [hb]; rfl)]; exact h3.sub b blk hb
    · intro b blk hb
      show (m' b = _ ∧ _) ∨ _
      rw [hm'.2 b (by rw [hb]; rfl)]; exact h3.ro b blk hb
theorem swap (ha : Apart base x y) (h1 : Tn k base F x s s1) (h2 : Tn k base F y s1 s2) : ∃ s1', Tn k base F y s s1' ∧ Tn k base F x s1' s2 := by
  obtain ⟨t, m, ct⟩ := s
  rw [Tn_iff] at h1 h2
  obtain ⟨c1, rfl⟩ := h1
  obtain ⟨c2, rfl⟩ := h2
  have hctx : x.ctr ct = ct := by
    have := ha.kx
    unfold Lab.ctr
    cases hx : x.k <;> first | rfl | (rw [hx] at this; cases this)
  refine ⟨_, Tn_iff.2 ⟨?_, rfl⟩, Tn_iff.2 ⟨?_, ?_⟩⟩
  ·
    refine Can.move (t' := t) (m' := m) (ct' := ct) c2 ?_ ?_ ?_
    · intro p hp; exact (Agree.setT ha.d1 t x.val p hp).symm
    · unfold MemOk
      cases hy : y.k with
      | qr v b =>
        show m b = x.mem base m b
        unfold Lab.mem
        cases hx : x.k with
        | al vx blk =>
          show m b = setF m (base + x.i) blk b
          unfold setF
          rw [if_neg (ha.rd2 vx blk v b hx hy)]
        | ef => have := ha.kx; rw [hx] at this; cases this
        | _ => rfl
      | ef v M1 F1 M' c3 c4 =>
        unfold Lab.mem
        cases hx : x.k with
        | al vx blk =>
          have hal := ha.al vx blk v M1 F1 M' c3 c4 hx hy
          constructor
          · intro b hb
            show m b = setF m (base + x.i) blk b
            unfold setF
            rw [if_neg]
            rintro rfl; rw [hal.1] at hb; cases hb
          · intro b hb
            show m b = setF m (base + x.i) blk b
            unfold setF
            rw [if_neg]
            rintro rfl; rw [hal.2] at hb; cases hb
        | ef => have := ha.kx; rw [hx] at this; cases this
        | _ => exact ⟨fun _ _ => rfl, fun _ _ => rfl⟩
      | _ => trivial
    · intro _; exact hctx.symm
  ·
    refine Can.move (t := t) (m := m) (ct := ct) c1 (Agree.setT ha.d2 t y.val) ?_ (fun h => by rw [ha.kx] at h; cases h)
    unfold MemOk
    cases hx : x.k with
    | qr v b =>
      show y.mem base m b = m b
      unfold Lab.mem
      cases hy : y.k with
      | al vy blk =>
        show setF m (base + y.i) blk b = m b
        unfold setF
        rw [if_neg (ha.rd3 v b vy blk hx hy)]
      | ef vy M1 F1 M' c3 c4 =>
        have hrd := ha.rd v b vy M1 F1 M' c3 c4 hx hy
        show afterM M1 M' m b = m b
        unfold afterM
        split
        · rfl
        · rename_i hn
          have hmb : m b = none := by
            cases hb : m b with
            | none => rfl
            | some _ => exact absurd ⟨hrd, by rw [hb]; exact (fun h => by cases h)⟩ hn
          have hF : (roGet F b).isSome := by
            unfold Can at c1
            rw [hx] at c1
            obtain ⟨_, o, blk, _, h3, _⟩ := c1
            rcases h3 with h3 | h3
            · have h3' : m b = some blk := h3
              rw [hmb] at h3'; cases h3'
            · rw [h3.2]; rfl
          have hE : M'.get b = none := by
            unfold Can at c2
            rw [hy] at c2
            obtain ⟨_, _, o, _, h3⟩ := c2
            exact h3.new b hF
          rw [hmb, hE]
      | _ => rfl
    | ef => have := ha.kx; rw [hx] at this; cases this
    | _ => trivial
  · have e1 : setT (setT t x.co.dst x.val) y.co.dst y.val = setT (setT t y.co.dst y.val) x.co.dst x.val := setT_comm ha.d3 t x.val y.val
    have e2 : y.mem base (x.mem base m) = x.mem base (y.mem base m) := by
      unfold Lab.mem
      cases hx : x.k with
      | al vx blk =>
        cases hy : y.k with
        | al vy blk' =>
          have hne : base + x.i ≠ base + y.i := fun e => ha.ne (by omega)
          funext b
          show setF (setF m (base + x.i) blk) (base + y.i) blk' b = setF (setF m (base + y.i) blk') (base + x.i) blk b
          unfold setF
          by_cases e : b = base + x.i
          · rw [if_pos e, if_neg (by rw [e]; exact hne), if_pos e]
          · rw [if_neg e, if_neg e]
        | ef vy M1 F1 M' c3 c4 =>
          have hal := (ha.al vx blk vy M1 F1 M' c3 c4 hx hy).1
          funext b
          show afterM M1 M' (setF m (base + x.i) blk) b = setF (afterM M1 M' m) (base + x.i) blk b
          unfold afterM setF
          by_cases e : b = base + x.i
          · rw [if_pos e, if_pos e, if_pos ⟨by rw [e]; exact hal, fun h => by cases h⟩]
          · rw [if_neg e, if_neg e]
        | _ => rfl
      | ef => have := ha.kx; rw [hx] at this; cases this
      | _ => rfl
    have e3 : y.ctr (x.ctr ct) = x.ctr (y.ctr ct) := by
      have hc : ∀ n, x.ctr n = n := by
        intro n
        have := ha.kx
        unfold Lab.ctr
        cases hx : x.k <;> first | rfl | (rw [hx] at this; cases this)
      rw [hc, hc]
    show SS.mk _ _ _ = SS.mk _ _ _
    rw [e1, e2, e3]
def Chain (k : Kn) (base : Nat) (F : RO) : List Lab → SS → SS → Prop
  | [], s, s' => s = s'
  | l :: r, s, s' => ∃ s1, Tn k base F l s s1 ∧ Chain k base F r s1 s'
theorem Chain.move {l2 : List Lab} {y : Lab} {s' : SS} : ∀ (l1 : List Lab) (s : SS), (∀ x ∈ l1, Apart base x y) → Chain k base F (l1 ++ y :: l2) s s' → ∃ s1, Tn k base F y s s1 ∧ Chain k base F (l1 ++ l2) s1 s'
  | [], s, _, h => h
  | x :: l1, s, ha, h => by
    obtain ⟨s1, h1, h2⟩ := h
    obtain ⟨s2, h3, h4⟩ := Chain.move l1 s1 (fun z hz => ha z (List.mem_cons_of_mem _ hz)) h2
    obtain ⟨s3, h5, h6⟩ := swap (ha x (List.mem_cons_self ..)) h1 h3
    exact ⟨s3, h5, s2, h6, h4⟩
end
end Go.Proofs.YtaogopbhjinmoaaGreatDoor.Ev
namespace Go.Proofs.YtaogopbhjinmoaaGreatDoor.Ev
open Go
def pget : List (Nat × Nat × Blk) → Nat → Option Blk
  | [], _ => none
  | (_, b, blk) :: r, x => if x = b then some blk else pget r x
theorem pget_some {p : List (Nat × Nat × Blk)} {b : Nat} {blk : Blk} (h : pget p b = some blk) : ∃ i, (i, b, blk) ∈ p := by
  induction p with
  | nil => cases h
  | cons q r ih =>
    obtain ⟨i, b', blk'⟩ := q
    unfold pget at h
    split at h
    · rename_i e
      subst e
      obtain rfl := Option.some.inj h
      exact ⟨i, by simp⟩
    · obtain ⟨j, hj⟩ := ih h
      exact ⟨j, List.mem_cons_of_mem _ hj⟩
theorem pget_none {p : List (Nat × Nat × Blk)} {b : Nat} (h : pget p b = none) : ∀ i blk, (i, b, blk) ∉ p := by
  induction p with
  | nil => intro i blk hm; cases hm
  | cons q r ih =>
    obtain ⟨i', b', blk'⟩ := q
    unfold pget at h
    split at h
    · cases h
    · rename_i e
      intro i blk hm
      rcases List.mem_cons.1 hm with hm | hm
      · injection hm with h1 h2; injection h2 with h2 h3; exact e h2
      · exact ih h i blk hm
def ND (p : List (Nat × Nat × Blk)) : Prop := p.Pairwise fun x y => x.2.1 ≠ y.2.1
theorem merge_spec (mask : Nat) : ∀ (p : List (Nat × Nat × Blk)) (M : Mem), ND p → ∃ Mm, merge mask p M = (Mm, p.filter fun x => !testBit mask x.1) ∧
    ∀ b, (pget (p.filter fun x => !testBit mask x.1) b).or (Mm.get b) = (pget p b).or (M.get b)
  | [], M, _ => ⟨M, rfl, fun _ => rfl⟩
  | (i, b, blk) :: r, M, h => by
    obtain ⟨h1, h2⟩ := List.pairwise_cons.1 h
    cases ht : testBit mask i with
    | true =>
      obtain ⟨Mm, hm, hg⟩ := merge_spec mask r (M.set b blk) h2
      refine ⟨Mm, ?_, ?_⟩
      · rw [merge, ht, cond_true, Tr.force_eq, hm]
        simp [ht]
      · intro x
        have e : ((i, b, blk) :: r).filter (fun x => !testBit mask x.1) = r.filter fun x => !testBit mask x.1 := by simp [ht]
        rw [e, hg x]
        simp only [pget]
        by_cases ex : x = b
        · subst ex
          rw [if_pos rfl]
          have hn : pget r x = none := by
            cases hp : pget r x with
            | none => rfl
            | some blk' => obtain ⟨j, hj⟩ := pget_some hp; exact absurd rfl (h1 (j, x, blk') hj)
          rw [hn, Tr.get_set, if_pos rfl]; rfl
        · rw [if_neg ex, Tr.get_set, if_neg ex]
    | false =>
      obtain ⟨Mm, hm, hg⟩ := merge_spec mask r M h2
      refine ⟨Mm, ?_, ?_⟩
      · rw [merge, ht, cond_false, hm]
        simp [ht]
      · intro x
        have e : ((i, b, blk) :: r).filter (fun x => !testBit mask x.1) = (i, b, blk) :: r.filter fun x => !testBit mask x.1 := by simp [ht]
        rw [e]
        simp only [pget]
        by_cases ex : x = b
        · rw [if_pos ex, if_pos ex]; rfl
        · rw [if_neg ex, if_neg ex]; exact hg x
def bnames (l : List (Nat × Blk)) (b : Nat) : Prop := ∃ blk, (b, blk) ∈ l
structure ProtOk (mask : Nat) (reads : List (Nat × Nat)) (F : RO) (M : Mem) (F1 : RO) (M1 : Mem) (news : List (Nat × Blk)) : Prop where
  ro : F1 = news ++ F
  get : ∀ b, M1.get b = none ∧ bnames news b ∨ M1.get b = M.get b ∧ ¬ bnames news b
  was : ∀ b blk, (b, blk) ∈ news → M.get b = some blk
  rd : ∀ i b, (i, b) ∈ reads → testBit mask i = false → M1.get b = none
theorem protect_spec (mask : Nat) : ∀ (reads : List (Nat × Nat)) (F : RO) (M : Mem) (s : List (Nat × Blk)), ∃ F1 M1 news, protect mask reads F M s = .mk F1 M1 (news ++ s) ∧ ProtOk mask reads F M F1 M1 news
  | [], F, M, s => ⟨F, M, [], rfl, ⟨rfl, fun b => .inr ⟨rfl, fun ⟨_, h⟩ => (by cases h)⟩, fun _ _ h => (by cases h), fun _ _ h => (by cases h)⟩⟩
  | (i, b) :: r, F, M, s => by
    cases ht : testBit mask i with
    | true =>
      obtain ⟨F1, M1, news, hp, hk⟩ := protect_spec mask r F M s
      refine ⟨F1, M1, news, by rw [protect, ht, cond_true]; exact hp, hk.ro, hk.get, hk.was, ?_⟩
      intro i' b' hm hf
      rcases List.mem_cons.1 hm with hm | hm
      · injection hm with h1 h2; rw [h1, ht] at hf; cases hf
      · exact hk.rd i' b' hm hf
    | false =>
      cases hb : M.get b with
      | none =>
        obtain ⟨F1, M1, news, hp, hk⟩ := protect_spec mask r F M s
        refine ⟨F1, M1, news, by rw [protect, ht, cond_false]; simp only [hb]; exact hp, hk.ro, hk.get, hk.was, ?_⟩
        intro i' b' hm hf
        rcases List.mem_cons.1 hm with hm | hm
        · injection hm with h1 h2
          rw [h2]
          rcases hk.get b with h | h
          · exact h.1
          · rw [h.1, hb]
        · exact hk.rd i' b' hm hf
      | some blk =>
        obtain ⟨F1, M1, news, hp, hk⟩ := protect_spec mask r ((b, blk) :: F) (M.del b) ((b, blk) :: s)
        refine ⟨F1, M1, news ++ [(b, blk)], ?_, by rw [hk.ro]; simp, ?_, ?_, ?_⟩
        · rw [protect, ht, cond_false]
          simp only [hb, Tr.force_eq]
          rw [hp]; simp
        · intro x
          by_cases ex : x = b
          · left
            refine ⟨?_, blk, by rw [ex]; simp⟩
            rcases hk.get x with h | h
            · exact h.1
            · rw [h.1, Tr.get_del, if_pos ex]
          · rcases hk.get x with h | h
            · exact .inl ⟨h.1, let ⟨y, hy⟩ := h.2; ⟨y, List.mem_append_left _ hy⟩⟩
            · right
              refine ⟨by rw [h.1, Tr.get_del, if_neg ex], ?_⟩
              rintro ⟨y, hy⟩
              rcases List.mem_append.1 hy with hy | hy
              · exact h.2 ⟨y, hy⟩
              · simp at hy; exact ex hy.1
        · intro x y hxy
          rcases List.mem_append.1 hxy with hxy | hxy
          · have := hk.was x y hxy
            rw [Tr.get_del] at this
            split at this
            · cases this
            · exact this
          · simp at hxy; rw [hxy.1, hxy.2]; exact hb
        · intro i' b' hm hf
          rcases List.mem_cons.1 hm with hm | hm
          · injection hm with h1 h2
            rw [h2]
            rcases hk.get b with h | h
            · exact h.1
            · rw [h.1, Tr.get_del, if_pos rfl]
          · exact hk.rd i' b' hm hf
theorem unprotect_spec (f : Nat → Option Blk) : ∀ (l : List (Nat × Blk)) (M : Mem), (∀ b blk, (b, blk) ∈ l → f b = some blk) → ∀ b, (bnames l b ∧ (unprotect l M).get b = f b) ∨ (¬ bnames l b ∧ (unprotect l M).get b = M.get b)
  | [], M, _, b => .inr ⟨fun ⟨_, h⟩ => (by cases h), rfl⟩
  | (x, blk) :: r, M, h, b => by
    rw [unprotect, Tr.force_eq]
    rcases unprotect_spec f r (M.set x blk) (fun b' blk' hm => h b' blk' (List.mem_cons_of_mem _ hm)) b with hh | hh
    · exact .inl ⟨let ⟨y, hy⟩ := hh.1; ⟨y, List.mem_cons_of_mem _ hy⟩, hh.2⟩
    · by_cases e : b = x
      · left
        refine ⟨⟨blk, by rw [e]; simp⟩, ?_⟩
        rw [hh.2, Tr.get_set, if_pos e, e, h x blk (by simp)]
      · right
        refine ⟨?_, by rw [hh.2, Tr.get_set, if_neg e]⟩
        rintro ⟨y, hy⟩
        rcases List.mem_cons.1 hy with hy | hy
        · injection hy with h1 h2; exact e h1
        · exact hh.1 ⟨y, hy⟩
theorem pendFree_iff {F : RO} {M : Mem} : ∀ (p : List (Nat × Nat × Blk)), pendFree F M p = true → ∀ i b blk, (i, b, blk) ∈ p → look F M b = none
  | [], _, _, _, _, h => by cases h
  | (j, b', blk') :: r, hp, i, b, blk, hm => by
    rw [pendFree] at hp
    cases hl : look F M b' with
    | none =>
      rw [hl] at hp
      simp only [Option.isNone_none, cond_true] at hp
      rcases List.mem_cons.1 hm with hm | hm
      · injection hm with h1 h2; injection h2 with h2 h3; rw [h2]; exact hl
      · exact pendFree_iff r hp i b blk hm
    | some y => rw [hl] at hp; simp at hp
theorem roFree_iff {M : Mem} : ∀ (F : RO), roFree M F = true → ∀ b blk, (b, blk) ∈ F → M.get b = none
  | [], _, _, _, h => by cases h
  | (b', blk') :: r, hp, b, blk, hm => by
    rw [roFree] at hp
    cases hl : M.get b' with
    | none =>
      rw [hl] at hp
      simp only [Option.isNone_none, cond_true] at hp
      rcases List.mem_cons.1 hm with hm | hm
      · injection hm with h1 h2; rw [h1]; exact hl
      · exact roFree_iff r hp b blk hm
    | some y => rw [hl] at hp; simp at hp
theorem readFree_iff {b : Nat} : ∀ (l : List (Nat × Nat)), readFree b l = true → ∀ i b', (i, b') ∈ l → b' ≠ b
  | [], _, _, _, h => by cases h
  | (j, x) :: r, hp, i, b', hm => by
    rw [readFree, beqN] at hp
    by_cases e : x = b
    · simp [e] at hp
    · simp [e] at hp
      rcases List.mem_cons.1 hm with hm | hm
      · injection hm with h1 h2; rw [h2]; exact e
      · exact readFree_iff r hp i b' hm
theorem roGet_cons (h : Nat × Blk) (F : RO) (k : Nat) : roGet (h :: F) k = if h.1 = k then some h.2 else roGet F k := by
  show Bool.rec (motive := fun _ => Option Blk) (roGet F k) (some h.2) (Nat.beq h.1 k) = _
  rw [bb, beqN]
  by_cases e : h.1 = k <;> simp [e]
theorem roGet_mem {F : RO} {b : Nat} {blk : Blk} (h : roGet F b = some blk) : (b, blk) ∈ F := by
  induction F with
  | nil => cases h
  | cons p r ih =>
    rw [roGet_cons] at h
    split at h
    · rename_i e
      obtain rfl := Option.some.inj h
      rw [← e]; simp
    · exact List.mem_cons_of_mem _ (ih h)
theorem roGet_append {F G : RO} {b : Nat} {blk : Blk} (h : roGet (F ++ G) b = some blk) : (b, blk) ∈ F ∨ roGet G b = some blk := by
  induction F with
  | nil => exact .inr h
  | cons p r ih =>
    rw [List.cons_append, roGet_cons] at h
    split at h
    · rename_i e
      obtain rfl := Option.some.inj h
      left; rw [← e]; simp
    · rcases ih h with h' | h'
      · exact .inl (List.mem_cons_of_mem _ h')
      · exact .inr h'
theorem roGet_append_none {F G : RO} {b : Nat} (h : roGet (F ++ G) b = none) : roGet G b = none ∧ ¬ bnames F b := by
  induction F with
  | nil => exact ⟨h, fun ⟨_, h⟩ => (by cases h)⟩
  | cons p r ih =>
    rw [List.cons_append, roGet_cons] at h
    split at h
    · cases h
    · rename_i e
      refine ⟨(ih h).1, ?_⟩
      rintro ⟨y, hy⟩
      rcases List.mem_cons.1 hy with hy | hy
      · rw [← hy] at e; exact e rfl
      · exact (ih h).2 ⟨y, hy⟩
theorem look_none {F : RO} {M : Mem} {b : Nat} (h : look F M b = none) : M.get b = none ∧ roGet F b = none := by
  cases hm : M.get b with
  | none => rw [look_none_M hm] at h; exact ⟨rfl, h⟩
  | some x => rw [look_some_M hm] at h; cases h
theorem look_none_of {F : RO} {M : Mem} {b : Nat} (h1 : M.get b = none) (h2 : roGet F b = none) : look F M b = none := by
  rw [look_none_M h1, h2]
theorem mergeAll_spec : ∀ (p : List (Nat × Nat × Blk)) (M : Mem), ND p → ∀ b, (mergeAll p M).get b = (pget p b).or (M.get b)
  | [], M, _, b => rfl
  | (i, x, blk) :: r, M, h, b => by
    obtain ⟨h1, h2⟩ := List.pairwise_cons.1 h
    rw [mergeAll, Tr.force_eq, mergeAll_spec r _ h2, pget]
    by_cases e : b = x
    · rw [if_pos e]
      have hn : pget r b = none := by
        cases hp : pget r b with
        | none => rfl
        | some blk' => obtain ⟨j, hj⟩ := pget_some hp; exact absurd e.symm (h1 (j, b, blk') hj)
      rw [hn, Tr.get_set, if_pos e]; rfl
    · rw [if_neg e, Tr.get_set, if_neg e]
theorem testBit_lor {a b x : Nat} (h : Nat.lor a b = b) (hx : testBit a x = true) : testBit b x = true := by
  have key : ∀ m i, testBit m i = Nat.testBit m i := by
    intro m i
    show Nat.beq (m / 2 ^ i % 2) 1 = Nat.testBit m i
    rw [beqN, Nat.testBit_eq_decide_div_mod_eq]
  rw [key] at hx ⊢
  have : (a ||| b) = b := h
  rw [← this, Nat.testBit_or, hx]; rfl
end Go.Proofs.YtaogopbhjinmoaaGreatDoor.Ev
namespace Go.Proofs.YtaogopbhjinmoaaGreatDoor.Ev
open Go
noncomputable def ssOf (t : T) (M : Mem) (c : Nat) (p : List (Nat × Nat × Blk)) : SS := ⟨t, fun b => (pget p b).or (M.get b), c⟩
structure DInv (base : Nat) (F : RO) (M : Mem) (p : List (Nat × Nat × Blk)) : Prop where
  nm : ∀ i b blk, (i, b, blk) ∈ p → b = base + i
  nd : ND p
  fr : ∀ i b blk, (i, b, blk) ∈ p → look F M b = none
def PairR (base : Nat) (x y : Lab) : Prop := testBit x.mask y.i = false ∧ x.i ≠ y.i ∧ (testBit y.mask x.i = true ∨ Apart base x y)
structure PastOk (base : Nat) (p : List (Nat × Nat × Blk)) (reads : List (Nat × Nat)) (y : Lab) : Prop where
  r1 : ∀ x b, (x, b) ∈ reads → testBit y.mask x = false → ∀ v M1 F1 M' ct ct', y.k = .ef v M1 F1 M' ct ct' → M1.get b = none
  r2 : ∀ x b, (x, b) ∈ reads → ∀ v blk, y.k = .al v blk → b ≠ base + y.i
  p1 : ∀ x b blk, (x, b, blk) ∈ p → testBit y.mask x = false → ∀ v M1 F1 M' ct ct', y.k = .ef v M1 F1 M' ct ct' → M1.get b = none ∧ roGet F1 b = none
  p2 : ∀ x b blk, (x, b, blk) ∈ p → testBit y.mask x = false → ∀ v b', y.k = .qr v b' → b' ≠ b
def Lab.trip (l : Lab) : Nat × Nat × CO := (l.i, l.mask, l.co)
theorem pair_facts {x y : Nat × Nat × CO} (h : pairOk x y = true) : testBit x.2.1 y.1 = false ∧ x.1 ≠ y.1 ∧
    ((testBit y.2.1 x.1 = true ∧ Nat.lor x.2.1 y.2.1 = y.2.1) ∨ (testBit y.2.1 x.1 = false ∧ indep x.2.2 y.2.2 = true)) := by
  unfold pairOk at h
  rw [beqN, beqN] at h
  simp only [Bool.and_eq_true, Bool.not_eq_true'] at h
  obtain ⟨h1, h2, h3⟩ := h
  refine ⟨h1, by simpa using h2, ?_⟩
  cases ht : testBit y.2.1 x.1 with
  | true => rw [ht] at h3; exact .inl ⟨rfl, by simpa using h3⟩
  | false => rw [ht] at h3; exact .inr ⟨rfl, by simpa using h3⟩
theorem pairsOk1_mem {x : Nat × Nat × CO} : ∀ {l : List (Nat × Nat × CO)}, pairsOk1 x l = true → ∀ y ∈ l, pairOk x y = true
  | [], _, _, h => by cases h
  | z :: r, h, y, hy => by
    simp only [pairsOk1, Bool.and_eq_true] at h
    rcases List.mem_cons.1 hy with rfl | hy
    · exact h.1
    · exact pairsOk1_mem h.2 y hy
theorem indep_facts {x y : CO} (h : indep x y = true) : isE x = false ∧ dstIn y.ps x.dst = false ∧ dstIn x.ps y.dst = false ∧ dstSame x.dst y.dst = false := by
  unfold indep at h
  simpa using h
theorem PairR.mk' {base : Nat} {x y : Lab} (h : pairOk x.trip y.trip = true) (hk : x.k.isEf = false)
    (rd : testBit y.mask x.i = false → ∀ vx b v M1 F1 M' ct ct', x.k = .qr vx b → y.k = .ef v M1 F1 M' ct ct' → M1.get b = none)
    (al : testBit y.mask x.i = false → ∀ vx blk v M1 F1 M' ct ct', x.k = .al vx blk → y.k = .ef v M1 F1 M' ct ct' → M1.get (base + x.i) = none ∧ roGet F1 (base + x.i) = none)
    (rd2 : testBit y.mask x.i = false → ∀ vx blk v b, x.k = .al vx blk → y.k = .qr v b → b ≠ base + x.i)
    (rd3 : ∀ vx b v blk, x.k = .qr vx b → y.k = .al v blk → b ≠ base + y.i) : PairR base x y := by
  obtain ⟨h1, h2, h3⟩ := pair_facts h
  refine ⟨h1, h2, ?_⟩
  rcases h3 with ⟨h3, _⟩ | ⟨h3, h4⟩
  · exact .inl h3
  · obtain ⟨_, a2, a3, a4⟩ := indep_facts h4
    exact .inr ⟨h2, hk, a2, a3, a4, rd h3, al h3, rd2 h3, rd3⟩
section
variable {k : Kn} {base : Nat} {t t1 : T} {M M1 : Mem} {c c1 : Nat} {p p1 : List (Nat × Nat × Blk)} {reads reads1 : List (Nat × Nat)} {i mask : Nat} {co : CO}
def StepOk (k : Kn) (base : Nat) (h : Nat × Nat × CO) (t : T) (M : Mem) (c : Nat) (p : List (Nat × Nat × Blk)) (reads : List (Nat × Nat)) (t1 : T) (M1 : Mem) (c1 : Nat) (p1 : List (Nat × Nat × Blk)) (reads1 : List (Nat × Nat)) : Prop :=
  ∃ l : Lab, l.trip = h ∧ Tn k base k.F l (ssOf t M c p) (ssOf t1 M1 c1 p1) ∧ DInv base k.F M1 p1 ∧ (∀ q ∈ p1, q.1 = h.1 ∨ ∃ q' ∈ p, q'.1 = q.1) ∧ PastOk base p reads l ∧
    ∀ y : Lab, pairOk h y.trip = true → PastOk base p1 reads1 y → PastOk base p reads y ∧ PairR base l y
theorem pget_free {F : RO} (hI : DInv base F M p) {b : Nat} {blk : Blk} (h : look F M b = some blk) : pget p b = none := by
  cases hp : pget p b with
  | none => rfl
  | some x =>
    obtain ⟨j, hj⟩ := pget_some hp
    rw [hI.fr _ _ _ hj] at h; cases h
theorem quiet_step (hI : DInv base k.F M p) {lk : LK} {v : V} (hv : Lab.val ⟨i, mask, co, lk⟩ = v) (hm : ∀ m, Lab.mem base ⟨i, mask, co, lk⟩ m = m) (hc : Lab.ctr ⟨i, mask, co, lk⟩ c = c)
    (hcan : Can k base k.F ⟨i, mask, co, lk⟩ (ssOf t M c p)) (hne : lk.isEf = false) (hna : ∀ v blk, lk ≠ .al v blk)
    (hrd : ∀ v b, lk = .qr v b → (i, b) ∈ reads1 ∧ ∀ blk x, (x, b, blk) ∉ p) (hsub : ∀ q ∈ reads, q ∈ reads1) :
    StepOk k base (i, mask, co) t M c p reads (setT t co.dst v) M c p reads1 := by
  refine ⟨⟨i, mask, co, lk⟩, rfl, Tn_iff.2 ⟨hcan, ?_⟩, hI, fun q hq => .inr ⟨q, hq, rfl⟩, ⟨?_, ?_, ?_, ?_⟩, ?_⟩
  · show ssOf _ _ _ _ = SS.mk _ _ _
    rw [hv, hm]
    show SS.mk _ _ _ = SS.mk _ _ (Lab.ctr _ c)
    rw [hc]; rfl
  · intro x b _ _ v M1 F1 M' ct ct' e
    have e' : lk = _ := e
    rw [e'] at hne; cases hne
  · intro x b _ v blk e; exact absurd e (hna v blk)
  · intro x b blk _ _ v M1 F1 M' ct ct' e
    have e' : lk = _ := e
    rw [e'] at hne; cases hne
  · intro x b blk hx _ v b' e
    rintro rfl
    exact (hrd v b' e).2 blk x hx
  · intro y hp hy
    refine ⟨⟨fun x b hx => hy.r1 x b (hsub _ hx), fun x b hx => hy.r2 x b (hsub _ hx), hy.p1, hy.p2⟩, ?_⟩
    refine .mk' hp hne ?_ ?_ ?_ ?_
    · intro ht vx b v M1 F1 M' ct ct' e1 e2
      exact hy.r1 i b (hrd vx b e1).1 ht v M1 F1 M' ct ct' e2
    · intro ht vx blk v M1 F1 M' ct ct' e1; exact absurd e1 (hna _ _)
    · intro ht vx blk v b e1; exact absurd e1 (hna _ _)
    · intro vx b v blk e1 e2
      exact hy.r2 i b (hrd vx b e1).1 v blk e2
theorem isNone_iff {α : Type} {o : Option α} (h : o.isNone = true) : o = none := by cases o <;> simp_all
theorem dOp_step (hI : DInv base k.F M p) (hi : ∀ q ∈ p, q.1 ≠ i) (h : dOp k base (i, mask, co) (.mk t M c p reads) = some (.mk t1 M1 c1 p1 reads1)) :
    StepOk k base (i, mask, co) t M c p reads t1 M1 c1 p1 reads1 := by
  obtain ⟨dst, op, g⟩ := co
  unfold dOp at h
  dsimp only at h
  cases hw : wanted t g with
  | false =>
    rw [hw, cond_false, Tr.force_eq] at h
    injection h with h; injection h with e1 e2 e3 e4 e5
    subst e1 e2 e3 e4 e5
    exact quiet_step (lk := .skip) hI rfl (fun _ => rfl) rfl hw rfl (fun _ _ h => by cases h) (fun _ _ h => by cases h) (fun _ h => h)
  | true =>
    rw [hw, cond_true] at h
    cases op with
    | q o =>
      have h' : d_q1 i dst t M c p reads (d_q0 o k.F M t (qop o k.F M t)) = some (.mk t1 M1 c1 p1 reads1) := h
      cases hq : qop o k.F M t with
      | f => rw [hq] at h'; cases (show (none : Option DS) = some _ from h')
      | v x0 =>
        rw [hq] at h'
        have h2 : d_q1 i dst t M c p reads (qop o [] .e t) = some (.mk t1 M1 c1 p1 reads1) := h'
        cases hq2 : qop o [] .e t with
        | f => rw [hq2] at h2; cases (show (none : Option DS) = some _ from h2)
        | v x =>
          rw [hq2, d_q1, Tr.force_eq] at h2
          injection h2 with h2; injection h2 with e1 e2 e3 e4 e5
          subst e1 e2 e3 e4 e5
          exact quiet_step (lk := .qv x) hI rfl (fun _ => rfl) rfl ⟨hw, o, rfl, by show (qop o [] .e t).val = _; rw [hq2]; rfl⟩ rfl (fun _ _ h => by cases h) (fun _ _ h => by cases h) (fun _ h => h)
        | r x b =>
          rw [hq2, d_q1, Tr.force_eq] at h2
          injection h2 with h2; injection h2 with e1 e2 e3 e4 e5
          subst e1 e2 e3 e4 e5
          exact quiet_step (lk := .qv x) hI rfl (fun _ => rfl) rfl ⟨hw, o, rfl, by show (qop o [] .e t).val = _; rw [hq2]; rfl⟩ rfl (fun _ _ h => by cases h) (fun _ _ h => by cases h) (fun _ h => List.mem_cons_of_mem _ h)
      | r x0 b =>
        rw [hq] at h'
        have h2 : d_q1 i dst t M c p reads (d_q2 o t b (look k.F M b)) = some (.mk t1 M1 c1 p1 reads1) := h'
        cases hl : look k.F M b with
        | none => rw [hl] at h2; cases (show (none : Option DS) = some _ from h2)
        | some blk =>
          rw [hl] at h2
          have h3 : d_q1 i dst t M c p reads (rOnly b (qop o [(b, blk)] .e t)) = some (.mk t1 M1 c1 p1 reads1) := h2
          have hpg := pget_free hI hl
          have hmem : ((pget p b).or (M.get b) = some blk ∨ ((pget p b).or (M.get b) = none ∧ roGet k.F b = some blk)) := by
            rw [hpg]
            cases hm : M.get b with
            | none => rw [look_none_M hm] at hl; exact .inr ⟨rfl, hl⟩
            | some y => rw [look_some_M hm] at hl; exact .inl hl
          have fin : ∀ x, (qop o [(b, blk)] .e t).val = some x → d_q1 i dst t M c p reads (.r x b) = some (.mk t1 M1 c1 p1 reads1) → StepOk k base (i, mask, .mk dst (.q o) g) t M c p reads t1 M1 c1 p1 reads1 := by
            intro x hx h4
            rw [d_q1, Tr.force_eq] at h4
            injection h4 with h4; injection h4 with e1 e2 e3 e4 e5
            subst e1 e2 e3 e4 e5
            refine quiet_step (lk := .qr x b) hI rfl (fun _ => rfl) rfl ⟨hw, o, blk, rfl, hmem, hx⟩ rfl (fun _ _ h => by cases h) ?_ (fun _ h => List.mem_cons_of_mem _ h)
            intro v b' e
            injection e with e1 e2
            subst e1 e2
            exact ⟨by simp, fun blk x => pget_none hpg x blk⟩
          cases hq2 : qop o [(b, blk)] .e t with
          | f => rw [hq2] at h3; cases (show (none : Option DS) = some _ from h3)
          | v x => rw [hq2] at h3; exact fin x (by rw [hq2]; rfl) h3
          | r x b2 => rw [hq2] at h3; exact fin x (by rw [hq2]; rfl) h3
    | a o =>
      have h' : fN (Nat.add base i) (fun b => bif (look k.F M b).isNone && readFree b reads then d_a1 i b dst t M c p reads (aop o b t) else none) = some (.mk t1 M1 c1 p1 reads1) := h
      rw [fN_eq] at h'
      cases hb : ((look k.F M (Nat.add base i)).isNone && readFree (Nat.add base i) reads) with
      | false => rw [hb] at h'; cases h'
      | true =>
        rw [hb, cond_true] at h'
        rw [Bool.and_eq_true] at hb
        have hlk := isNone_iff hb.1
        have hrf := readFree_iff _ hb.2
        cases ha : aop o (Nat.add base i) t with
        | none => rw [ha] at h'; cases h'
        | some pr =>
          obtain ⟨v, blk⟩ := pr
          rw [ha, d_a1, Tr.force_eq] at h'
          injection h' with h'; injection h' with e1 e2 e3 e4 e5
          subst e1 e2 e3 e4 e5
          refine ⟨⟨i, mask, .mk dst (.a o) g, .al v blk⟩, rfl, Tn_iff.2 ⟨⟨hw, o, rfl, ha⟩, ?_⟩, ⟨?_, ?_, ?_⟩, ?_, ⟨?_, ?_, ?_, ?_⟩, ?_⟩
          · show SS.mk _ _ _ = SS.mk _ _ _
            congr 1
            funext b
            show (pget ((i, base + i, blk) :: p) b).or (M.get b) = setF (fun b => (pget p b).or (M.get b)) (base + i) blk b
            unfold setF
            rw [pget]
            by_cases e : b = base + i
            · rw [if_pos e, if_pos e]; rfl
            · rw [if_neg e, if_neg e]
          · intro j b blk' hm
            rcases List.mem_cons.1 hm with hm | hm
            · injection hm with h1 h2; injection h2 with h2 h3; rw [h1, h2]; rfl
            · exact hI.nm j b blk' hm
          · refine List.pairwise_cons.2 ⟨?_, hI.nd⟩
            rintro ⟨j, b, blk'⟩ hm e
            have e1 := hI.nm j b blk' hm
            have e2 := hi _ hm
            have e3 : base + i = b := e
            exact e2 (by show j = i; omega)
          · intro j b blk' hm
            rcases List.mem_cons.1 hm with hm | hm
            · injection hm with h1 h2; injection h2 with h2 h3; rw [h2]; exact hlk
            · exact hI.fr j b blk' hm
          · intro q hq
            rcases List.mem_cons.1 hq with hq | hq
            · left; rw [hq]
            · exact .inr ⟨q, hq, rfl⟩
          · intro x b _ _ v M1 F1 M' ct ct' e; cases e
          · intro x b hx v blk e; exact hrf x b hx
          · intro x b blk _ _ v M1 F1 M' ct ct' e; cases e
          · intro x b blk _ _ v b' e; cases e
          · intro y hp hy
            refine ⟨⟨hy.r1, hy.r2, fun x b blk hx => hy.p1 x b blk (List.mem_cons_of_mem _ hx), fun x b blk hx => hy.p2 x b blk (List.mem_cons_of_mem _ hx)⟩, ?_⟩
            refine .mk' hp rfl (by intro _ vx b v M1 F1 M' ct ct' e1; cases e1) ?_ ?_ (by intro vx b v blk e1; cases e1)
            · intro ht vx blk' v M1 F1 M' ct ct' e1 e2
              exact hy.p1 i (base + i) blk (List.mem_cons_self ..) ht v M1 F1 M' ct ct' e2
            · intro ht vx blk' v b e1 e2
              exact hy.p2 i (base + i) blk (List.mem_cons_self ..) ht v b e2
    | e o =>
      have h' : d_e0 o k mask dst t c reads (merge mask p M) = some (.mk t1 M1 c1 p1 reads1) := h
      obtain ⟨Mm, hmg, hmget⟩ := merge_spec mask p M hI.nd
      rw [hmg] at h'
      obtain ⟨F1, Ma, news, hpr, hP⟩ := protect_spec mask reads k.F Mm []
      rw [d_e0, hpr, d_e1] at h'
      rw [List.append_nil] at h'
      cases hpf : pendFree F1 Ma (p.filter fun x => !testBit mask x.1) with
      | false => rw [hpf] at h'; cases h'
      | true =>
        rw [hpf, cond_true] at h'
        cases hE : doE o (knF k F1) Ma c t with
        | f => rw [hE] at h'; cases (show (none : Option DS) = some _ from h')
        | k v Mr cr =>
          rw [hE, d_e2] at h'
          cases hck : (roFree Mr F1 && pendFree F1 Mr (p.filter fun x => !testBit mask x.1)) with
          | false => rw [hck] at h'; cases h'
          | true =>
            rw [hck, cond_true, Tr.force_eq, Tr.force_eq] at h'
            injection h' with h'; injection h' with e1 e2 e3 e4 e5
            subst e1 e2 e3 e4 e5
            rw [Bool.and_eq_true] at hck
            have hro := roFree_iff _ hck.1
            have hpa := pendFree_iff _ hck.2
            have hpb := pendFree_iff _ hpf
            have hmem : ∀ q : Nat × Nat × Blk, q ∈ p.filter (fun x => !testBit mask x.1) ↔ q ∈ p ∧ testBit mask q.1 = false := by
              intro q; rw [List.mem_filter]; simp
            have hun := unprotect_spec (fun b => Mm.get b) news Mr hP.was
            have hnoF : ∀ b, (∀ blk x, (x, b, blk) ∉ p.filter fun x => !testBit mask x.1) → pget (p.filter fun x => !testBit mask x.1) b = none := by
              intro b hb
              cases hp : pget (p.filter fun x => !testBit mask x.1) b with
              | none => rfl
              | some blk => obtain ⟨j, hj⟩ := pget_some hp; exact absurd hj (hb blk j)
            have hnone : ∀ b, (Ma.get b ≠ none ∨ roGet F1 b ≠ none) → pget (p.filter fun x => !testBit mask x.1) b = none := by
              intro b hb
              refine hnoF b fun blk x hx => ?_
              obtain ⟨g1, g2⟩ := look_none (hpb x b blk hx)
              rcases hb with hb | hb
              · exact hb g1
              · exact hb g2
            have hm : ∀ b, (ssOf t M c p).m b = (pget (p.filter fun x => !testBit mask x.1) b).or (Mm.get b) := fun b => (hmget b).symm
            refine ⟨⟨i, mask, .mk dst (.e o) g, .ef v Ma F1 Mr c cr⟩, rfl, Tn_iff.2 ⟨⟨hw, rfl, o, rfl, ⟨hE, ?_, ?_, ?_⟩⟩, ?_⟩, ⟨?_, ?_, ?_⟩, ?_, ⟨?_, ?_, ?_, ?_⟩, ?_⟩
            · intro b blk hb
              rw [hm b, hnone b (.inl (by rw [hb]; exact (fun h => by cases h)))]
              rcases hP.get b with hg | hg
              · rw [hg.1] at hb; cases hb
              · show Mm.get b = some blk
                rw [← hg.1]; exact hb
            · intro b blk hb
              have hb' := hb
              rw [hP.ro] at hb'
              rcases roGet_append hb' with hn | hF
              · left
                refine ⟨?_, ?_⟩
                · rw [hm b, hnone b (.inr (by rw [hb]; exact (fun h => by cases h)))]
                  exact hP.was b blk hn
                · rcases hP.get b with hg | hg
                  · exact hg.1
                  · exact absurd ⟨blk, hn⟩ hg.2
              · exact .inr hF
            · intro b hb
              obtain ⟨blk, hblk⟩ := Option.isSome_iff_exists.1 hb
              refine hro b blk ?_
              rw [hP.ro]; exact List.mem_append_right _ (roGet_mem hblk)
            · show SS.mk _ _ _ = SS.mk _ _ _
              congr 1
              funext b
              show (pget (p.filter fun x => !testBit mask x.1) b).or ((unprotect news Mr).get b) = afterM Ma Mr (ssOf t M c p).m b
              unfold afterM
              rw [hm b]
              cases hpg : pget (p.filter fun x => !testBit mask x.1) b with
              | some blk =>
                obtain ⟨j, hj⟩ := pget_some hpg
                rw [if_pos ⟨(look_none (hpb j b blk hj)).1, by simp⟩]; rfl
              | none =>
                show (unprotect news Mr).get b = if Ma.get b = none ∧ Mm.get b ≠ none then Mm.get b else Mr.get b
                rcases hun b with hu | hu
                · rw [hu.2]
                  obtain ⟨blk, hn⟩ := hu.1
                  have h1 := hP.was b blk hn
                  rcases hP.get b with hg | hg
                  · rw [if_pos ⟨hg.1, by rw [h1]; exact (fun h => by cases h)⟩]
                  · exact absurd ⟨blk, hn⟩ hg.2
                · rw [hu.2, if_neg]
                  rintro ⟨g1, g2⟩
                  rcases hP.get b with hg | hg
                  · exact hu.1 hg.2
                  · rw [hg.1] at g1; exact g2 g1
            · intro j b blk hj; exact hI.nm j b blk ((hmem _).1 hj).1
            · exact hI.nd.sublist List.filter_sublist
            · intro j b blk hj
              obtain ⟨g1, g2⟩ := look_none (hpa j b blk hj)
              rw [hP.ro] at g2
              obtain ⟨g3, g4⟩ := roGet_append_none g2
              refine look_none_of ?_ g3
              rcases hun b with hu | hu
              · exact absurd hu.1 g4
              · rw [hu.2]; exact g1
            · intro q hq; exact .inr ⟨q, ((hmem _).1 hq).1, rfl⟩
            · intro x b hx ht v M1 F1' M' ct ct' e
              injection e with e1 e2 e3 e4 e5 e6
              subst e2
              exact hP.rd x b hx ht
            · intro x b hx v blk e; cases e
            · intro x b blk hx ht v M1 F1' M' ct ct' e
              injection e with e1 e2 e3 e4 e5 e6
              subst e2 e3
              exact look_none (hpb x b blk ((hmem _).2 ⟨hx, ht⟩))
            · intro x b blk hx ht v b' e; cases e
            · intro y hp hy
              obtain ⟨f1, f2, f3⟩ := pair_facts hp
              have f4 : testBit y.mask i = true ∧ Nat.lor mask y.mask = y.mask := by
                rcases f3 with f3 | f3
                · exact f3
                · have := (indep_facts f3.2).1
                  cases (show true = false from this)
              refine ⟨⟨hy.r1, hy.r2, ?_, ?_⟩, ⟨f1, f2, .inl f4.1⟩⟩
              · intro x b blk hx ht
                refine hy.p1 x b blk ((hmem _).2 ⟨hx, ?_⟩) ht
                cases htm : testBit mask x with
                | false => rfl
                | true => rw [testBit_lor f4.2 htm] at ht; cases ht
              · intro x b blk hx ht
                refine hy.p2 x b blk ((hmem _).2 ⟨hx, ?_⟩) ht
                cases htm : testBit mask x with
                | false => rfl
                | true => rw [testBit_lor f4.2 htm] at ht; cases ht
theorem dOps_chain : ∀ (C : List (Nat × Nat × CO)) (t : T) (M : Mem) (c : Nat) (p : List (Nat × Nat × Blk)) (reads : List (Nat × Nat)) (t' : T) (M' : Mem) (c' : Nat) (p' : List (Nat × Nat × Blk)) (reads' : List (Nat × Nat)),
    dOps k base C (.mk t M c p reads) = some (.mk t' M' c' p' reads') → pairsOk C = true → DInv base k.F M p → (∀ q ∈ p, ∀ h ∈ C, q.1 ≠ h.1) →
    ∃ L : List Lab, L.map Lab.trip = C ∧ Chain k base k.F L (ssOf t M c p) (ssOf t' M' c' p') ∧ L.Pairwise (PairR base) ∧ DInv base k.F M' p' ∧ ∀ y ∈ L, PastOk base p reads y
  | [], t, M, c, p, reads, t', M', c', p', reads', h, _, hI, _ => by
    have h' : some (DS.mk t M c p reads) = some (.mk t' M' c' p' reads') := h
    injection h' with h'; injection h' with e1 e2 e3 e4 e5
    subst e1 e2 e3 e4 e5
    exact ⟨[], rfl, rfl, .nil, hI, fun y hy => by cases hy⟩
  | (i, mask, co) :: C, t, M, c, p, reads, t', M', c', p', reads', h, hp, hI, hn => by
    rw [dOps] at h
    cases hs : dOp k base (i, mask, co) (.mk t M c p reads) with
    | none => rw [hs] at h; cases h
    | some s1 =>
      obtain ⟨t1, M1, c1, p1, reads1⟩ := s1
      rw [hs] at h
      simp only [pairsOk, Bool.and_eq_true] at hp
      obtain ⟨l, hl, hT, hI1, hsub, hpast, hrest⟩ := dOp_step hI (fun q hq => hn q hq _ (List.mem_cons_self ..)) hs
      have hpair := fun y hy => pairsOk1_mem hp.1 y hy
      obtain ⟨L, hL, hC, hPW, hI', hPO⟩ := dOps_chain C t1 M1 c1 p1 reads1 t' M' c' p' reads' h hp.2 hI1 (by
        intro q hq y hy
        rcases hsub q hq with e | ⟨q', hq', e⟩
        · rw [e]; exact (pair_facts (hpair y hy)).2.1
        · rw [← e]; exact hn q' hq' y (List.mem_cons_of_mem _ hy))
      have hyC : ∀ y ∈ L, y.trip ∈ C := fun y hy => by rw [← hL]; exact List.mem_map_of_mem hy
      refine ⟨l :: L, by rw [List.map_cons, hl, hL], ⟨_, hT, hC⟩, List.pairwise_cons.2 ⟨fun y hy => (hrest y (hpair _ (hyC y hy)) (hPO y hy)).2, hPW⟩, hI', ?_⟩
      intro y hy
      rcases List.mem_cons.1 hy with rfl | hy
      · exact hpast
      · exact (hrest y (hpair _ (hyC y hy)) (hPO y hy)).1
end
end Go.Proofs.YtaogopbhjinmoaaGreatDoor.Ev
