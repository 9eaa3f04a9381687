/- What is proved here: pieces of the evaluator's soundness: if the evaluator comes to a value, the model's run comes to it, for every world and tape; no conditions beyond the hypotheses of each theorem. -/
import Derived.Test.YtmbfboidfbaeiaaGreatDoorEv8
import Derived.Lib.LaidTab
import GoSem.ClaimJoined
import Derived.DefersIn
set_option linter.unusedSimpArgs false
set_option linter.unusedVariables false
namespace Go.Proofs.YtmbfboidfbaeiaaGreatDoor.Ev
open Go
def tabVs (k : IntKind) : List Int → List V
  | [] => []
  | z :: r => .i k z :: tabVs k r
noncomputable def tabBlk (ty : Nat) (k : IntKind) (zs : List Int) : Blk := .cells ty zs.length false zs.length true [] (listTr (tabVs k zs) 0 .e)
abbrev Tab := Nat × IntKind × List Int
noncomputable def tabF : List Tab → (Nat → Nat) → RO
  | [], _ => []
  | (g, k, zs) :: r, ty => (g, tabBlk (ty g) k zs) :: tabF r ty
def TabAt (W : World) (t : Tab) : Prop := ∃ ty fr, W.heap[t.1]? = some (.cells (t.2.2.map fun z => Value.int t.2.1 z).toArray ty fr)
theorem tabVs_map (k : IntKind) (zs : List Int) : tabVs k zs = zs.map (V.i k) := by
  induction zs with
  | nil => rfl
  | cons z r ih => rw [tabVs, ih]; rfl
theorem tab_rel {P : Program} {g ty : Nat} {k : IntKind} {zs : List Int} {fr : Nat × Nat} : BlkRel P E0 g (tabBlk ty k zs) (.cells (zs.map fun z => Value.int k z).toArray ty fr) := by
  refine ⟨_, fr, rfl, ?_, ?_, ?_, ?_⟩
  · intro j v hv
    rw [cell_eq] at hv
    split at hv
    · rename_i hj
      rw [listTr_get] at hv
      have hlen : (tabVs k zs).length = zs.length := by rw [tabVs_map]; simp
      rw [if_pos (by omega)] at hv
      rw [tabVs_map] at hv
      simp only [Nat.sub_zero, List.getElem?_map] at hv
      rw [List.getElem?_eq_getElem hj] at hv
      simp only [Option.map_some] at hv
      obtain rfl := Option.some.inj hv
      show (zs.map fun z => Value.int k z).toArray[0 + j]? = _
      simp [conc, hj]
    · cases hv
  · show (zs.map fun z => Value.int k z).toArray.size = 0 + zs.length + 0 * _
    simp
  · intro o h1 h2
    have h1' : 0 + zs.length ≤ o := h1
    have h2' : o < zs.length := by simpa using h2
    omega
  · intro h; cases h
theorem tab_bd {c : Nat → Prop} {ty : Nat} {k : IntKind} {zs : List Int} : bdBlk c (tabBlk ty k zs) := by
  intro j v hv
  rw [cell_eq] at hv
  split at hv
  · rename_i hj
    rw [listTr_get] at hv
    have hlen : (tabVs k zs).length = zs.length := by rw [tabVs_map]; simp
    rw [if_pos (by omega)] at hv
    rw [tabVs_map] at hv
    simp only [Nat.sub_zero, List.getElem?_map] at hv
    rw [List.getElem?_eq_getElem hj] at hv
    simp only [Option.map_some] at hv
    obtain rfl := Option.some.inj hv
    trivial
  · cases hv
theorem tabF_get {L : List Tab} {ty : Nat → Nat} {b : Nat} {blk : Blk} (h : roGet (tabF L ty) b = some blk) : ∃ t ∈ L, t.1 = b ∧ blk = tabBlk (ty b) t.2.1 t.2.2 := by
  induction L with
  | nil => cases h
  | cons t r ih =>
    obtain ⟨g, k, zs⟩ := t
    have h' : Bool.rec (motive := fun _ => Option Blk) (roGet (tabF r ty) b) (some (tabBlk (ty g) k zs)) (Nat.beq g b) = some blk := h
    rw [bb, beqN] at h'
    by_cases e : g = b
    · rw [if_pos (by simpa using e)] at h'
      subst e
      exact ⟨_, List.mem_cons_self .., rfl, (Option.some.inj h').symm⟩
    · rw [if_neg (by simpa using e)] at h'
      obtain ⟨t, ht, h1, h2⟩ := ih h'
      exact ⟨t, List.mem_cons_of_mem _ ht, h1, h2⟩
theorem rel_tabs {P : Program} {W : World} {L : List Tab} (h : ∀ t ∈ L, t.1 < 1000 ∧ TabAt W t) : ∃ ty, Rel P E0 (tabF L ty) .e c0 W := by
  have hty : ∃ ty : Nat → Nat, ∀ b, ∀ t ∈ L, t.1 = b → ∃ fr, W.heap[b]? = some (.cells (t.2.2.map fun z => Value.int t.2.1 z).toArray (ty b) fr) := by
    refine ⟨fun b => match W.heap[b]? with | some (.cells _ ty _) => ty | _ => 0, fun b t ht e => ?_⟩
    subst e
    obtain ⟨_, ty, fr, hh⟩ := h t ht
    refine ⟨fr, ?_⟩
    simp only [hh]
  obtain ⟨ty, hty⟩ := hty
  refine ⟨ty, ⟨?_, fun b b' _ _ e => e, fun b hb => rfl⟩⟩
  intro b blk hb
  rw [look_none_M (show (Tr.e : Mem).get b = none from rfl)] at hb
  obtain ⟨t, ht, e, rfl⟩ := tabF_get hb
  subst e
  obtain ⟨fr, hh⟩ := hty _ t ht rfl
  exact ⟨(h t ht).1, tab_bd, _, hh, tab_rel⟩
theorem closed_calls_tabs {P : Program} (hm : P.follows .mixedOrders = true) {Φ : Nat → Option CF} (hΦ : PhiOk P Φ) {fuel f : Nat} {L : List Tab} (h : ∀ ty, isT (runF Φ fuel (tabF L ty) f []) = true) {W : World} (hL : ∀ t ∈ L, t.1 < 1000 ∧ TabAt W t) :
    Calls P f #[] W fun e W' => e = .returned (.bool true) ∧ ∀ may, W.keptBut W' may := by
  obtain ⟨ty, hr⟩ := rel_tabs (P := P) hL
  exact closed_calls hm hΦ (h ty) hr
end Go.Proofs.YtmbfboidfbaeiaaGreatDoor.Ev
namespace Go.Proofs.YtmbfboidfbaeiaaGreatDoor.Ev
open Go
def over : List V → Nat → List V → List V
  | l, _, [] => l
  | l, i, v :: r => over (l.set i v) (i + 1) r
section
variable {Φ : Nat → Option CF} {rd : Option Nat} {fn : Nat} {F : RO}
end
end Go.Proofs.YtmbfboidfbaeiaaGreatDoor.Ev
namespace Go.Proofs.YtmbfboidfbaeiaaGreatDoor.Ev
open Go
structure Df where
  n : Nat
  res : List RV
  pre : List CC
  r : List CO
  df : Nat
  dx : List X
  post : CC
  tbl : CC
noncomputable def dfL (Φ : Nat → Option CF) (fuel fn : Nat) (F : RO) : List CC → St → Rs
  | [], s => .k .nrm s
  | c :: l, s => match exec Φ fuel none fn F c s with
    | .k .nrm s1 => dfL Φ fuel fn F l s1
    | r => r
noncomputable def dfCall1 (res : List RV) (F : RO) : Rs → RC
  | .k e (.mk t [] M c) => bif isEnd e then finish2 c M (resV F M t res) else .f
  | _ => .f
noncomputable def dfCall (Φ : Nat → Option CF) (fuel : Nat) (F : RO) (f : Nat) (args : List V) (M : Mem) (c : Nat) : RC := match Φ f with
  | some (.mk n res body) => dfCall1 res F (exec Φ fuel none f F body (.mk (argTr n args) [] M c))
  | _ => .f
noncomputable def dfEnd3 (res : List RV) (F : RO) (t2 : T) : RC → RC
  | .k _ M c => finish2 c M (resV F M t2 res)
  | .f => .f
noncomputable def dfEnd2 (Φ : Nat → Option CF) (fuel : Nat) (F : RO) (res : List RV) (df : Nat) (as : List V) (t2 : T) (c : Nat) : Option Mem → RC
  | some M => dfEnd3 res F t2 (dfCall Φ fuel F df as M c)
  | none => .f
noncomputable def dfEnd (Φ : Nat → Option CF) (fuel : Nat) (F : RO) (res : List RV) (df : Nat) (as : List V) : Rs → RC
  | .k e (.mk t2 d2 M2 c2) => bif isEnd e then dfEnd2 Φ fuel F res df as t2 c2 (takeDefs d2 M2) else .f
  | .f => .f
noncomputable def dfGo2 (Φ : Nat → Option CF) (fuel fn : Nat) (F : RO) (D : Df) : Option St → RC
  | some (.mk t [] M c) => dfEnd Φ fuel F D.res D.df (evs D.dx t) (exec Φ fuel none fn F (.scope D.post D.tbl) (.mk t [] M c))
  | _ => .f
noncomputable def dfGo (Φ : Nat → Option CF) (fuel fn : Nat) (F : RO) (D : Df) : Rs → RC
  | .k .nrm s => dfGo2 Φ fuel fn F D (seqOps D.r (.mk Φ (exec Φ fuel) none fn F) s)
  | .k .ret s => finish D.res F (.k .ret s)
  | _ => .f
noncomputable def dfO (Φ : Nat → Option CF) (fuel fn : Nat) (D : Df) (F : RO) (args : List V) (M : Mem) (c : Nat) : RC :=
  dfGo Φ fuel fn F D (dfL Φ fuel fn F D.pre (.mk (argTr D.n args) [] M c))
def dfR (P : Program) (nt : Nat) : Code → Option (List CO × Nat × List X)
  | .region _ ops false => match ops.toList.reverse with
    | o :: l => match o.op, o.guard, o.dst with
      | .defer cl, none, none => match cl.callee with
        | .value (.func f) => match compOs P nt ops l.reverse, compXs cl.args.toList with
          | some r, some xs => some (r, f, xs)
          | _, _ => none
        | _ => none
      | _, _, _ => none
    | [] => none
  | _ => none
def dfC (P : Program) (nt : Nat) : Nat → Code → Option (List CC × (List CO × Nat × List X) × CC)
  | j + 1, .seq a b => match dfR P nt a with
    | some r => (compC P nt 10000 b).map fun c => ([], r, c)
    | none => match compC P nt 10000 a, dfC P nt j b with
      | some a, some (l, q) => some (a :: l, q)
      | _, _ => none
  | _, _ => none
def dfComp (P : Program) (fn : Func) : Option Df :=
  if fn.name == "runtime.NumGoroutine" then none else
  match fn.body with
  | some (.scope b) => match dfC P fn.ntmps 10000 b, tblOf (fun l => (findLabel b l).bind fun c => compC P fn.ntmps 10000 c) (labels b), compRs P fn.results.toList with
    | some (pre, (r, f, xs), post), some tbl, some res => some ⟨Nat.log2 fn.ntmps + 1, res, pre, r, f, xs, post, tbl⟩
    | _, _, _ => none
  | _ => none
section
variable {P : Program} {E E' : Env} {F : RO} {M M' : Mem} {c c' : Nat → Prop} {ct ct' nt : Nat} {w w' : World} {t t' : T} {d d' : List Nat} {a : Act} {rd : Option Nat} {Bd : List Deferred}
theorem seq_okP {k : Kn} (hcall : CallOk P k) (hy : YieldOk P k) {ops : Array Oper} {Q : Exit → Act → World → Prop} (m : Nat) : ∀ (l : List Oper) (cos : List CO) (i : Nat) (E : Env) (c : Nat → Prop) (w : World) (a : Act) (t : T) (M : Mem) (ct : Nat), (∃ l2, ops.toList.drop i = l ++ l2) → compOs P nt ops l = some cos →
    seqOps cos (knF k F) (.mk t d M ct) = some (.mk t' d' M' ct') → SR P Bd F rd nt E c w a t d M ct →
    (∀ E' c' a' w', Stp P F E M c w E' M' c' w' → Grow c ct c' ct' → SR P Bd F rd nt E' c' w' a' t' d' M' ct' → wpOpsIn (fence E' rd) 0 P ops Q (List.range' (i + l.length) m) a' w') → wpOpsIn (fence E rd) 0 P ops Q (List.range' i (l.length + m)) a w
  | [], cos, i, E, c, w, a, t, M, ct, hl, hc, hs, h, hQ => by
    obtain rfl := Option.some.inj hc
    have hs' : some (St.mk t d M ct) = some (.mk t' d' M' ct') := hs
    injection hs' with hs'
    injection hs' with e1 e2 e3 e4
    subst e1 e2 e3 e4
    have := hQ E c a w (.refl h.cx.rel) (.refl _ _) h
    simpa using this
  | o :: l, cos, i, E, c, w, a, t, M, ct, ⟨l2, hl⟩, hc, hs, h, hQ => by
    rw [compOs] at hc
    split at hc
    · rename_i co cr h1 h2
      obtain rfl := Option.some.inj hc
      have hi : ops[i]? = some o := by
        have : (ops.toList.drop i)[0]? = some o := by rw [hl]; rfl
        simpa using this
      have hl' : ops.toList.drop (i + 1) = l ++ l2 := by
        rw [← List.drop_drop, hl]; rfl
      obtain ⟨hd, g, op, rfl, hg, hop⟩ := compO_some h1
      rw [seqOps_cons, seqOp_eq] at hs
      rw [List.length_cons, show l.length + 1 + m = (l.length + m) + 1 by omega, List.range'_succ]
      simp only [wpOpsIn, hi]
      rw [guard_ok h.cx.tr hg]
      have hlen : i + (o :: l).length = i + 1 + l.length := by rw [List.length_cons]; omega
      rw [hlen] at hQ
      by_cases hw : wanted t g = true
      · rw [if_pos hw] at hs
        rw [if_pos hw]
        obtain ⟨s1, hs1, hs2⟩ := Option.bind_eq_some_iff.1 hs
        rcases hop with hop | rfl
        · obtain ⟨v, M1, ct1, rfl, hO⟩ := sop_ok hcall hy h hd hop hs1
          refine hO _ _ fun E1 c1 w1 hS hG hb => ?_
          have h1 := (h.stp hS hG).put hd rfl hb
          rw [← fence_ext hS.ext h.rd]
          exact seq_okP hcall hy m l cr (i + 1) E1 c1 w1 _ _ M1 ct1 ⟨l2, hl'⟩ h2 hs2 h1 fun E' c' a' w' hS' hG' hR' => hQ E' c' a' w' (hS.trans hS') (hG.trans hG') hR'
        · cases (show (none : Option St) = some s1 from hs1)
      · rw [if_neg hw] at hs
        rw [if_neg hw]
        refine ⟨fun _ _ => trivial, ?_⟩
        have h1 := h.put hd (v := undef) (val := Go.undef) rfl trivial
        exact seq_okP hcall hy m l cr (i + 1) E c w _ _ M ct ⟨l2, hl'⟩ h2 hs h1 hQ
    · cases hc
theorem dfCall_ok (hm : P.follows .mixedOrders = true) {Φ : Nat → Option CF} (hΦ : PhiOk P Φ) {fuel f : Nat} {args : List V} {v : V} (h : dfCall Φ fuel F f args M ct = .k v M' ct') (hrel : Rel P E F M c w) (hglob : ∀ g, g < 1000 → E.ρ g = g ∧ E.β g = 0) (hbig : ∀ g, g < 1000 → c g) (hfr : Fresh c ct) (hargs : bds c args) (u : FrameMode) :
    (∃ fn, P.funcs[f]? = some fn ∧ fn.body.isNone = false ∧ (fn.name == "runtime.NumGoroutine") = false) ∧
    CallsDIn Fence.wide 0 P f (concs E args).toArray u w fun e u' w' => u' = u ∧ ∃ E' c', e = .returned (conc E' v) ∧ Stp P F E M c w E' M' c' w' ∧ bd c' v ∧ Grow c ct c' ct' := by
  unfold dfCall at h
  split at h
  · rename_i n res body ho
    obtain ⟨fn', hfn, hcomp⟩ : ∃ fn, P.funcs[f]? = some fn ∧ comp P fn = some (.mk n res body) := hΦ f _ ho
    obtain ⟨hnm, b, hb, hsim, hres⟩ := comp_some hcomp
    refine ⟨⟨fn', hfn, by rw [hb]; rfl, hnm⟩, ?_⟩
    unfold dfCall1 at h
    split at h
    · rename_i e t1 M1 ct1 hx
      refine callsDIn_of_wp hfn hb trivial ?_
      have hSR : SR P [] F none fn'.ntmps E c w { tmps := (concs E args).toArray ++ Array.replicate (fn'.ntmps - (concs E args).toArray.size) Go.undef, defers := [] } (argTr n args) [] M ct :=
        ⟨⟨hrel, hglob, hbig, argTr_rel E args _ _, argTr_bd hargs⟩, hfr, rfl, fun b hb => by simp at hb, by simp; omega, fun l hl => by cases hl⟩
      refine exec_sound hm hΦ fuel none f F body _ [] M ct e t1 [] M1 ct1 hx fn'.ntmps b hsim E c w _ hSR _ ?_
      rintro a' w' ⟨E', c', hS, hG, hR⟩
      cases he : isEnd e with
      | false => rw [he] at h; cases h
      | true =>
        rw [he, cond_true] at h
        cases hr : resV F M1 t1 res with
        | none => rw [hr] at h; cases h
        | some vs =>
          rw [hr] at h
          have h' : RC.k (oneV vs) M1 ct1 = .k v M' ct' := h
          injection h' with e1 e2 e3
          subst e1 e2 e3
          have hres' := results_ok hR.cx hres hr
          have key : a'.defers = [] ∧ ∃ v, (results fn' a'.tmps).run P w' = .ok v w' ∧ (u = u ∧ ∃ E' c', Ending.returned v = .returned (conc E' (oneV vs)) ∧ Stp P F E M c w E' M1 c' w' ∧ bd c' (oneV vs) ∧ Grow c ct c' ct1) :=
            ⟨by rw [hR.df]; rfl, _, hres'.1, rfl, E', c', rfl, hS, hres'.2, hG⟩
          cases e with
          | nrm => exact ⟨key.1, key.2.imp fun v hv => ⟨hv.1, hv.2.2⟩⟩
          | ret => exact ⟨key.1, key.2.imp fun v hv => ⟨hv.1, hv.2.2⟩⟩
          | _ => cases he
    · cases h
  · cases h
theorem df_pre (hm : P.follows .mixedOrders = true) {Φ : Nat → Option CF} (hΦ : PhiOk P Φ) {fuel fn : Nat} {rr : List CO × Nat × List X} {post : CC} {Q0 : Exit → Act → World → Prop} : ∀ (j : Nat) (code : Code) (pre : List CC), dfC P nt j code = some (pre, rr, post) →
    ∀ (E : Env) (c : Nat → Prop) (w : World) (a : Act) (t : T) (d : List Nat) (M : Mem) (ct : Nat), SR P [] F none nt E c w a t d M ct →
    (match dfL Φ fuel fn F pre (.mk t d M ct) with
     | .k .nrm (.mk t1 d1 M1 ct1) => ∀ E1 c1 a1 w1, Stp P F E M c w E1 M1 c1 w1 → Grow c ct c1 ct1 → SR P [] F none nt E1 c1 w1 a1 t1 d1 M1 ct1 → ∀ x y, dfR P nt x = some rr → compC P nt 10000 y = some post → (Code.seq x y).wpIn (fence E1 none) 0 P Q0 a1 w1
     | .k .ret (.mk t1 d1 M1 ct1) => ∀ a1 w1, Res P [] F none nt E c w M ct t1 d1 M1 ct1 a1 w1 → Q0 .ret a1 w1
     | _ => False) → code.wpIn (fence E none) 0 P Q0 a w := by
  intro j
  induction j with
  | zero => intro code pre hc; cases hc
  | succ j ih =>
    intro code pre hc E c w a t d M ct h hk
    unfold dfC at hc
    split at hc
    · rename_i j' x y hj
      obtain rfl := Nat.succ.inj hj
      split at hc
      · rename_i r hr
        obtain ⟨cc, hcc, e⟩ := Option.map_eq_some_iff.1 hc
        injection e with e1 e2
        injection e2 with e2 e3
        subst e1 e2 e3
        exact hk E c a w (.refl h.cx.rel) (.refl _ _) h x y hr hcc
      · split at hc
        · rename_i cx l q h1 h2
          injection hc with hc
          injection hc with e1 e2
          subst e1 e2
          refine wpIn_seq ?_
          have hk' := hk
          rw [dfL] at hk'
          cases hx : exec Φ fuel none fn F cx (.mk t d M ct) with
          | f => rw [hx] at hk'; exact hk'.elim
          | k e s1 =>
            obtain ⟨t1, d1, M1, ct1⟩ := s1
            rw [hx] at hk'
            refine exec_sound hm hΦ fuel none fn F cx t d M ct e t1 d1 M1 ct1 hx nt x ⟨10000, h1⟩ E c w a h _ ?_
            rintro a1 w1 ⟨E1, c1, hS, hG, hR⟩
            cases e with
            | nrm =>
              show y.wpIn (fence E none) 0 P Q0 a1 w1
              refine ih y l h2 E1 c1 w1 a1 t1 d1 M1 ct1 hR ?_
              simp only at hk'
              split
              · rename_i t2 d2 M2 ct2 hx2
                rw [hx2] at hk'
                exact fun E2 c2 a2 w2 hS2 hG2 hR2 => hk' E2 c2 a2 w2 (hS.trans hS2) (hG.trans hG2) hR2
              · rename_i t2 d2 M2 ct2 hx2
                rw [hx2] at hk'
                exact fun a2 w2 hr => hk' a2 w2 (hr.trans hS hG)
              · rename_i o h3 h4
                revert hk'
                cases hx2 : dfL Φ fuel fn F l (.mk t1 d1 M1 ct1) with
                | f => exact id
                | k e2 s2 =>
                  obtain ⟨t2, d2, M2, ct2⟩ := s2
                  cases e2 with
                  | nrm => exact absurd hx2 (h3 _ _ _ _)
                  | ret => exact absurd hx2 (h4 _ _ _ _)
                  | _ => exact id
            | ret => exact hk' a1 w1 ⟨E1, c1, hS, hG, hR⟩
            | ext id => exact hk'.elim
            | gto l => exact hk'.elim
        · cases hc
    · cases hc
theorem finish_some {res : List RV} {e : Ex} {t1 : T} {d1 : List Nat} {M1 : Mem} {ct1 : Nat} {v : V} (h : finish res F (.k e (.mk t1 d1 M1 ct1)) = .k v M' ct') : ∃ vs, isEnd e = true ∧ takeDefs d1 M1 = some M' ∧ resV F M' t1 res = some vs ∧ v = oneV vs ∧ ct' = ct1 := by
  have h' : Bool.rec (motive := fun _ => RC) .f (finish1 res F t1 ct1 (takeDefs d1 M1)) (isEnd e) = .k v M' ct' := h
  cases he : isEnd e with
  | false => rw [he] at h'; cases h'
  | true =>
    rw [he] at h'
    replace h' : finish1 res F t1 ct1 (takeDefs d1 M1) = .k v M' ct' := h'
    cases ht : takeDefs d1 M1 with
    | none => rw [ht] at h'; cases (show RC.f = .k v M' ct' from h')
    | some M2 =>
      rw [ht] at h'
      have h2 : finish2 ct1 M2 (resV F M2 t1 res) = .k v M' ct' := h'
      cases hr : resV F M2 t1 res with
      | none => rw [hr] at h2; cases (show RC.f = .k v M' ct' from h2)
      | some vs =>
        rw [hr] at h2
        have h3 : RC.k (oneV vs) M2 ct1 = .k v M' ct' := h2
        injection h3 with e1 e2 e3
        subst e1 e2 e3
        exact ⟨vs, rfl, rfl, hr, rfl, rfl⟩
theorem orc_df (hm : P.follows .mixedOrders = true) {Φ : Nat → Option CF} (hΦ : PhiOk P Φ) {m f : Nat} {fn : Func} (hf : P.funcs[f]? = some fn) {D : Df} (hD : dfComp P fn = some D) : OrcOk P f (dfO Φ (m + 1) f D) := by
  intro F args M ct v M' ct' hg E c w hrel hglob hbig hfr hargs
  unfold dfComp at hD
  split at hD
  · cases hD
  rename_i hnm0
  have hnm : (fn.name == "runtime.NumGoroutine") = false := by simpa using hnm0
  split at hD
  rotate_left
  · cases hD
  rename_i b hb
  split at hD
  rotate_left
  · cases hD
  rename_i pre r g xs post tbl res hC htb hres
  obtain rfl := (Option.some.inj hD).symm
  refine ⟨fn, hf, by rw [hb]; rfl, hnm, ?_⟩
  refine (callsIn_wide (n := 0)).1 (callsIn_of_wp_marks hf hb trivial ?_)
  have hSR : SR P [] F none fn.ntmps E c w { tmps := (concs E args).toArray ++ Array.replicate (fn.ntmps - (concs E args).toArray.size) Go.undef, defers := [] } (argTr (Nat.log2 fn.ntmps + 1) args) [] M ct :=
    ⟨⟨hrel, hglob, hbig, argTr_rel E args _ _, argTr_bd hargs⟩, hfr, rfl, fun b hb => by simp at hb, by simp; omega, fun l hl => by cases hl⟩
  have htbl : TblOk P fn.ntmps b tbl := by
    intro l cl hl
    obtain ⟨rest, hr1, hr2⟩ := Option.bind_eq_some_iff.1 (tblOf_ok htb l cl hl)
    exact ⟨rest, hr1, 10000, hr2⟩
  have hdr : ∀ ex, ExOk P ex → ∀ rd fn F, DrOk P (.mk Φ ex rd fn F) := fun ex hex rd fn F => drOk_of hm (callOk_of hΦ hex rd fn F) (yieldOk_of hex rd fn F)
  have hex := exec_ok hΦ hdr (m + 1)
  refine wpIn_scope (m + 1) ?_
  refine df_pre hm hΦ (fuel := m + 1) (fn := f) (F := F) 10000 b pre hC E c w _ _ _ _ _ hSR ?_
  have hg' : dfGo Φ (m + 1) f F ⟨Nat.log2 fn.ntmps + 1, res, pre, r, g, xs, post, tbl⟩ (dfL Φ (m + 1) f F pre (.mk (argTr (Nat.log2 fn.ntmps + 1) args) [] M ct)) = .k v M' ct' := hg
  split
  ·
    rename_i t1 d1 M1 ct1 hx1
    rw [hx1] at hg'
    intro E1 c1 a1 w1 hS1 hG1 hR1 x y hx hy
    have hg2 : dfGo2 Φ (m + 1) f F ⟨Nat.log2 fn.ntmps + 1, res, pre, r, g, xs, post, tbl⟩ (seqOps r (.mk Φ (exec Φ (m + 1)) none f F) (.mk t1 d1 M1 ct1)) = .k v M' ct' := hg'
    unfold dfGo2 at hg2
    split at hg2
    rotate_left
    · cases hg2
    rename_i t2 M2 ct2 hs2
    have hg3 : dfEnd Φ (m + 1) F res g (evs xs t2) (exec Φ (m + 1) none f F (.scope post tbl) (.mk t2 [] M2 ct2)) = .k v M' ct' := hg2
    unfold dfEnd at hg3
    split at hg3
    rotate_left
    · cases hg3
    rename_i e t3 d3 M3 ct3 hx3
    cases he : isEnd e with
    | false => rw [he] at hg3; cases hg3
    | true =>
    rw [he, cond_true] at hg3
    unfold dfEnd2 at hg3
    split at hg3
    rotate_left
    · cases hg3
    rename_i M4 htk
    unfold dfEnd3 at hg3
    split at hg3
    rotate_left
    · cases hg3
    rename_i u5 M5 ct5 hc5
    cases hrv : resV F M5 t3 res with
    | none => rw [hrv] at hg3; cases (show RC.f = .k v M' ct' from hg3)
    | some vs =>
    rw [hrv] at hg3
    have hg4 : RC.k (oneV vs) M5 ct5 = .k v M' ct' := hg3
    injection hg4 with q1 q2 q3
    subst q1 q2 q3
    unfold dfR at hx
    split at hx
    rotate_left
    · cases hx
    rename_i id ops
    split at hx
    rotate_left
    · cases hx
    rename_i o l hol
    split at hx
    rotate_left
    · cases hx
    rename_i cl hop hgd hds
    split at hx
    rotate_left
    · cases hx
    rename_i g' hcal
    split at hx
    rotate_left
    · cases hx
    rename_i r' xs' hr hxs
    injection hx with hx
    injection hx with p1 p2
    injection p2 with p2 p3
    subst p1 p2 p3
    have hops : ops.toList = l.reverse ++ [o] := by
      have := congrArg List.reverse hol
      simpa using this
    have hcall := callOk_of hΦ hex.1 none f F
    have hyo := yieldOk_of (Φ := Φ) hex.1 none f F
    refine wpIn_seq ?_
    refine wpIn_region ?_
    have hsz : ops.size = l.reverse.length + 1 := by
      have := congrArg List.length hops
      simpa using this
    rw [List.range_eq_range', hsz]
    refine seq_okP (F := F) (rd := none) (nt := fn.ntmps) hcall hyo 1 l.reverse r' 0 E1 c1 w1 a1 t1 M1 ct1 ⟨[o], by rw [List.drop_zero]; exact hops⟩ hr hs2 hR1 ?_
    intro E2 c2 a2 w2 hS2 hG2 hR2
    have hi : ops[0 + l.reverse.length]? = some o := by
      have : ops.toList[l.reverse.length]? = some o := by rw [hops]; simp
      simpa using this
    have ev := hR2.cx.evs hxs
    have hm' : cl.args.map a2.eval = (concs E2 (evs xs' t2)).toArray := by
      rw [← ev.1]; apply Array.ext'; simp
    have hrun : (execOp a2.eval o).run P w2 = .ok (.defer { target := .fn (.func g') #[], args := (concs E2 (evs xs' t2)).toArray }) w2 := by
      simp only [execOp, hop, resolve, hcal, hm', Act.eval, Deferred.ofValue, Sem.run_bind, Sem.run_pure, Result.andThen_ok, Array.empty_append]
    have hwt : Region.wanted o (yielded ops a2.tmps) = true := by unfold Region.wanted; rw [hgd]
    rw [List.range'_succ, List.range'_zero]
    simp only [wpOpsIn, hi, hwt, if_true]
    refine ⟨fun _ _ => trivial, ?_⟩
    rw [show (fence E2 none).round = none from rfl, Oper.semAt_none, hrun, Oper.uponIn_defer, hds]
    have hR3 : SR P [{ target := .fn (.func g') #[], args := (concs E2 (evs xs' t2)).toArray }] F none fn.ntmps E2 c2 w2 { a2 with defers := { target := .fn (.func g') #[], args := (concs E2 (evs xs' t2)).toArray } :: a2.defers } t2 [] M2 ct2 :=
      ⟨⟨hR2.cx.rel, hR2.cx.glob, hR2.cx.big, hR2.cx.tr, hR2.cx.bt⟩, hR2.fr, by show _ :: a2.defers = _; rw [hR2.df]; rfl, hR2.dc, hR2.sz, hR2.rd⟩
    refine hex.2.2 none f F post tbl t2 [] M2 ct2 e t3 d3 M3 ct3 hx3 fn.ntmps b y ⟨10000, hy⟩ htbl E2 c2 w2 _ hR3 _ ?_
    rintro a4 w4 ⟨E4, c4, hS4, hG4, hR4⟩
    have key : LeavesInM Fence.wide 0 P fn a4.tmps (fun e w' => ∃ E' c', e = .returned (conc E' (oneV vs)) ∧ Stp P F E M c w E' M5 c' w' ∧ bd c' (oneV vs) ∧ Grow c ct c' ct5) a4.defers .returning w4 := by
      rw [hR4.df]
      refine leaves_okB (t := t3) d3 M3 w4 htk hR4.cx.rel fun w5 hS5 => ?_
      have hargs5 : bds c4 (evs xs' t2) := bds_mono hS4.le _ ev.2
      have heq : concs E4 (evs xs' t2) = concs E2 (evs xs' t2) := concs_ext hS4.ext _ ev.2
      obtain ⟨⟨fd, k1, k2, k3⟩, hD5⟩ := dfCall_ok hm hΦ hc5 hS5.rel hR4.cx.glob hR4.cx.big hR4.fr hargs5 .returning
      rw [heq] at hD5
      refine ⟨by simp, .inr ⟨(fun hh => by cases hh), .func g', #[], g', (concs E2 (evs xs' t2)).toArray, rfl, ?_, fun _ _ => trivial, ?_⟩⟩
      · simp only [invoke, Array.append_empty]
        have h1 : ¬ fd.name = "runtime.NumGoroutine" := by simpa using k3
        have h2 : ¬ fd.body = none := fun e => by rw [e] at k2; cases k2
        simp [callFunc, k1, h1, h2]
      · refine hD5.mono ?_
        rintro e6 u6 w6 ⟨rfl, E6, c6, rfl, hS6, hb6, hG6⟩
        show LeavesInM Fence.wide 0 P fn a4.tmps _ [] (settle .returning) w6
        have hcx : Cx P E6 F M5 c6 w6 t3 a4 := ⟨hS6.rel, fun g hg => by rw [hS6.ext.ρ g (hR4.cx.big g hg), hS6.ext.β g (hR4.cx.big g hg)]; exact hR4.cx.glob g hg, fun g hg => hS6.le g (hR4.cx.big g hg), hR4.cx.tr.ext hS6.ext hR4.cx.bt, fun p => bd_mono hS6.le _ (hR4.cx.bt p)⟩
        have hres' := results_ok hcx hres hrv
        exact ⟨_, hres'.1, E6, c6, rfl, hS1.trans (hS2.trans (hS4.trans (hS5.trans hS6))), hres'.2, hG1.trans (hG2.trans (hG4.trans hG6))⟩
    cases e with
    | nrm => exact key
    | ret => exact key
    | _ => cases he
  ·
    rename_i t1 d1 M1 ct1 hx1
    rw [hx1] at hg'
    have hg2 : finish res F (.k .ret (.mk t1 d1 M1 ct1)) = .k v M' ct' := hg'
    obtain ⟨vs, _, htk, hrv, rfl, rfl⟩ := finish_some hg2
    rintro a1 w1 ⟨E1, c1, hS1, hG1, hR1⟩
    show LeavesInM Fence.wide 0 P fn a1.tmps _ a1.defers .returning w1
    rw [hR1.df]
    refine leaves_ok (t := t1) d1 M1 w1 htk hR1.cx.rel fun w2 hS2 => ?_
    have hcx : Cx P E1 F M' c1 w2 t1 a1 := ⟨hS2.rel, hR1.cx.glob, hR1.cx.big, hR1.cx.tr, hR1.cx.bt⟩
    have hres' := results_ok hcx hres hrv
    exact ⟨_, hres'.1, E1, c1, rfl, hS1.trans hS2, hres'.2, hG1⟩
  · rename_i h3 h4
    revert hg'
    cases hx2 : dfL Φ (m + 1) f F pre (.mk (argTr (Nat.log2 fn.ntmps + 1) args) [] M ct) with
    | f => intro hg'; cases hg'
    | k e2 s2 =>
      obtain ⟨t2, d2, M2, ct2⟩ := s2
      cases e2 with
      | nrm => exact absurd hx2 (h3 _ _ _ _)
      | ret => exact absurd hx2 (h4 _ _ _ _)
      | _ => intro hg'; cases hg'
end
end Go.Proofs.YtmbfboidfbaeiaaGreatDoor.Ev
namespace Go.Proofs.YtmbfboidfbaeiaaGreatDoor.Ev
open Go
noncomputable section
def beqB (a b : Bool) : Bool := bif a then b else !b
mutual
def veq : V → V → Bool
  | .b x, w => match w with | .b y => beqB x y | _ => false
  | .i k n, w => match w with | .i j m => sameK k j && eqI n m | _ => false
  | .s n x, w => match w with | .s m y => Nat.beq n m && Nat.beq x y | _ => false
  | .p b o, w => match w with | .p b' o' => Nat.beq b b' && Nat.beq o o' | _ => false
  | .p0, w => match w with | .p0 => true | _ => false
  | .l b o n k, w => match w with | .l b' o' n' k' => (Nat.beq b b' && Nat.beq o o') && (Nat.beq n n' && Nat.beq k k') | _ => false
  | .u b o n e k, w => match w with | .u b' o' n' e' k' => (Nat.beq b b' && Nat.beq o o') && (Nat.beq n n' && (Nat.beq e e' && Nat.beq k k')) | _ => false
  | .ue b o n, w => match w with | .ue b' o' n' => Nat.beq b b' && (Nat.beq o o' && Nat.beq n n') | _ => false
  | .l0, w => match w with | .l0 => true | _ => false
  | .m b, w => match w with | .m b' => Nat.beq b b' | _ => false
  | .m0, w => match w with | .m0 => true | _ => false
  | .f f a d, w => match w with | .f f' a' d' => Nat.beq f f' && (vseq a a' && vseq d d') | _ => false
  | .y b, w => match w with | .y b' => Nat.beq b b' | _ => false
  | .f0, w => match w with | .f0 => true | _ => false
  | .a t v, w => match w with | .a t' v' => Nat.beq t t' && veq v v' | _ => false
  | .a0, w => match w with | .a0 => true | _ => false
  | .g l, w => match w with | .g l' => vseq l l' | _ => false
  | .t l, w => match w with | .t l' => vseq l l' | _ => false
def vseq : List V → List V → Bool
  | [], w => match w with | [] => true | _ => false
  | x :: r, w => match w with | y :: r' => veq x y && vseq r r' | [] => false
end
theorem beqB_eq {a b : Bool} (h : beqB a b = true) : a = b := by cases a <;> cases b <;> first | rfl | cases h
theorem nbeq {a b : Nat} (h : Nat.beq a b = true) : a = b := Nat.eq_of_beq_eq_true h
theorem an2 {a b : Bool} (h : (a && b) = true) : a = true ∧ b = true := by simpa using h
mutual
theorem veq_eq : ∀ a b : V, veq a b = true → a = b
  | .b x, w, h => by
    rw [veq.eq_def] at h
    dsimp only at h
    split at h
    · rw [beqB_eq h]
    · cases h
  | .i k n, w, h => by
    rw [veq.eq_def] at h
    dsimp only at h
    split at h
    · obtain ⟨h1, h2⟩ := an2 h
      rw [sameK_iff] at h1
      rw [eqI_iff] at h2
      rw [of_decide_eq_true h1, of_decide_eq_true h2]
    · cases h
  | .s n x, w, h => by
    rw [veq.eq_def] at h
    dsimp only at h
    split at h
    · obtain ⟨h1, h2⟩ := an2 h
      rw [nbeq h1, nbeq h2]
    · cases h
  | .p n x, w, h => by
    rw [veq.eq_def] at h
    dsimp only at h
    split at h
    · obtain ⟨h1, h2⟩ := an2 h
      rw [nbeq h1, nbeq h2]
    · cases h
  | .p0, w, h => by
    rw [veq.eq_def] at h
    dsimp only at h
    split at h
    · rfl
    · cases h
  | .l b o n k, w, h => by
    rw [veq.eq_def] at h
    dsimp only at h
    split at h
    · obtain ⟨h1, h2⟩ := an2 h
      obtain ⟨h3, h4⟩ := an2 h1
      obtain ⟨h5, h6⟩ := an2 h2
      rw [nbeq h3, nbeq h4, nbeq h5, nbeq h6]
    · cases h
  | .u b o n e k, w, h => by
    rw [veq.eq_def] at h
    dsimp only at h
    split at h
    · obtain ⟨h1, h2⟩ := an2 h
      obtain ⟨h3, h4⟩ := an2 h1
      obtain ⟨h5, h6⟩ := an2 h2
      obtain ⟨h7, h8⟩ := an2 h6
      rw [nbeq h3, nbeq h4, nbeq h5, nbeq h7, nbeq h8]
    · cases h
  | .ue b o n, w, h => by
    rw [veq.eq_def] at h
    dsimp only at h
    split at h
    · obtain ⟨h1, h2⟩ := an2 h
      obtain ⟨h3, h4⟩ := an2 h2
      rw [nbeq h1, nbeq h3, nbeq h4]
    · cases h
  | .l0, w, h => by
    rw [veq.eq_def] at h
    dsimp only at h
    split at h
    · rfl
    · cases h
  | .m b, w, h => by
    rw [veq.eq_def] at h
    dsimp only at h
    split at h
    · rw [nbeq h]
    · cases h
  | .m0, w, h => by
    rw [veq.eq_def] at h
    dsimp only at h
    split at h
    · rfl
    · cases h
  | .f f a d, w, h => by
    rw [veq.eq_def] at h
    dsimp only at h
    split at h
    · obtain ⟨h1, h2⟩ := an2 h
      obtain ⟨h3, h4⟩ := an2 h2
      rw [nbeq h1, vseq_eq _ _ h3, vseq_eq _ _ h4]
    · cases h
  | .y b, w, h => by
    rw [veq.eq_def] at h
    dsimp only at h
    split at h
    · rw [nbeq h]
    · cases h
  | .f0, w, h => by
    rw [veq.eq_def] at h
    dsimp only at h
    split at h
    · rfl
    · cases h
  | .a t v, w, h => by
    rw [veq.eq_def] at h
    dsimp only at h
    split at h
    · obtain ⟨h1, h2⟩ := an2 h
      rw [nbeq h1, veq_eq _ _ h2]
    · cases h
  | .a0, w, h => by
    rw [veq.eq_def] at h
    dsimp only at h
    split at h
    · rfl
    · cases h
  | .g l, w, h => by
    rw [veq.eq_def] at h
    dsimp only at h
    split at h
    · rw [vseq_eq _ _ h]
    · cases h
  | .t l, w, h => by
    rw [veq.eq_def] at h
    dsimp only at h
    split at h
    · rw [vseq_eq _ _ h]
    · cases h
theorem vseq_eq : ∀ a b : List V, vseq a b = true → a = b
  | [], w, h => by
    rw [vseq.eq_def] at h
    dsimp only at h
    split at h
    · rfl
    · cases h
  | x :: r, w, h => by
    rw [vseq.eq_def] at h
    dsimp only at h
    split at h
    · obtain ⟨h1, h2⟩ := an2 h
      rw [veq_eq _ _ h1, vseq_eq _ _ h2]
    · cases h
end
def oveq : Option V → Option V → Bool
  | none, none => true
  | some x, some y => veq x y
  | _, _ => false
theorem oveq_eq {a b : Option V} (h : oveq a b = true) : a = b := by
  cases a <;> cases b <;> first | rfl | cases h | exact congrArg some (veq_eq _ _ h)
def treq : T → T → Bool
  | .e, w => match w with | .e => true | _ => false
  | .n l v r, w => match w with | .n l' v' r' => oveq v v' && (treq l l' && treq r r') | _ => false
theorem treq_eq : ∀ a b : T, treq a b = true → a = b
  | .e, w, h => by
    rw [treq.eq_def] at h
    dsimp only at h
    split at h
    · rfl
    · cases h
  | .n l v r, w, h => by
    rw [treq.eq_def] at h
    dsimp only at h
    split at h
    · obtain ⟨h1, h2⟩ := an2 h
      obtain ⟨h3, h4⟩ := an2 h2
      rw [oveq_eq h1, treq_eq _ _ h3, treq_eq _ _ h4]
    · cases h
def eseq : List (V × V × Nat) → List (V × V × Nat) → Bool
  | [], w => match w with | [] => true | _ => false
  | x :: r, w => match w with | y :: r' => (veq x.1 y.1 && (veq x.2.1 y.2.1 && Nat.beq x.2.2 y.2.2)) && eseq r r' | [] => false
theorem eseq_eq : ∀ a b, eseq a b = true → a = b
  | [], w, h => by
    rw [eseq.eq_def] at h
    dsimp only at h
    split at h
    · rfl
    · cases h
  | (x1, x2, x3) :: r, w, h => by
    rw [eseq.eq_def] at h
    dsimp only at h
    split at h
    · rename_i y r'
      obtain ⟨y1, y2, y3⟩ := y
      obtain ⟨h1, h2⟩ := an2 h
      obtain ⟨h3, h4⟩ := an2 h1
      obtain ⟨h5, h6⟩ := an2 h4
      have a1 : x1 = y1 := veq_eq _ _ h3
      have a2 : x2 = y2 := veq_eq _ _ h5
      have a3 : x3 = y3 := nbeq h6
      rw [a1, a2, a3, eseq_eq _ _ h2]
    · cases h
def bkeq : Blk → Blk → Bool
  | .cells ty n ex fz str d t, w => match w with | .cells ty' n' ex' fz' str' d' t' => (Nat.beq ty ty' && Nat.beq n n') && ((beqB ex ex' && Nat.beq fz fz') && (beqB str str' && (vseq d d' && treq t t'))) | _ => false
  | .map es k, w => match w with | .map es' k' => Nat.beq k k' && eseq es es' | _ => false
  | _, _ => false
theorem bkeq_eq {a b : Blk} (h : bkeq a b = true) : a = b := by
  cases a with
  | cells ty n ex fz str d t =>
    cases b with
    | cells ty' n' ex' fz' str' d' t' =>
      obtain ⟨h1, h2⟩ := an2 (show ((Nat.beq ty ty' && Nat.beq n n') && ((beqB ex ex' && Nat.beq fz fz') && (beqB str str' && (vseq d d' && treq t t')))) = true from h)
      obtain ⟨h3, h4⟩ := an2 h1
      obtain ⟨h5, h6⟩ := an2 h2
      obtain ⟨h7, h8⟩ := an2 h5
      obtain ⟨h9, h10⟩ := an2 h6
      obtain ⟨h11, h12⟩ := an2 h10
      rw [nbeq h3, nbeq h4, beqB_eq h7, nbeq h8, beqB_eq h9, vseq_eq _ _ h11, treq_eq _ _ h12]
    | _ => cases h
  | map es k =>
    cases b with
    | map es' k' =>
      obtain ⟨h1, h2⟩ := an2 (show (Nat.beq k k' && eseq es es') = true from h)
      rw [nbeq h1, eseq_eq _ _ h2]
    | _ => cases h
  | _ => cases h
structure Snap where
  c : Nat
  args : List V
  m0 : List (Nat × Blk)
  v : V
  m1 : List (Nat × Blk)
  c1 : Nat
def obk (o : Option Blk) (blk : Blk) : Bool := match o with
  | some x => bkeq x blk
  | none => false
theorem obk_eq {o : Option Blk} {blk : Blk} (h : obk o blk = true) : o = some blk := by
  cases o with
  | none => cases h
  | some x => exact congrArg some (bkeq_eq h)
def holds (M : Mem) : List (Nat × Blk) → Bool
  | [] => true
  | (b, blk) :: r => obk (M.get b) blk && holds M r
theorem holds_mem {M : Mem} : ∀ {l : List (Nat × Blk)}, holds M l = true → ∀ b blk, (b, blk) ∈ l → M.get b = some blk
  | [], h, b, blk, hm => by cases hm
  | (b', blk') :: r, h, b, blk, hm => by
    obtain ⟨h1, h2⟩ := an2 (show (obk (M.get b') blk' && holds M r) = true from h)
    rcases List.mem_cons.1 hm with e | e
    · injection e with e1 e2
      subst e1 e2
      exact obk_eq h1
    · exact holds_mem h2 b blk e
def setAll (M : Mem) : List (Nat × Blk) → Mem
  | [] => M
  | (b, blk) :: r => (M.set b blk).force fun M => setAll M r
theorem setAll_get : ∀ (l : List (Nat × Blk)) (M : Mem) (b : Nat) (blk : Blk), (setAll M l).get b = some blk → (b, blk) ∈ l ∨ (M.get b = some blk ∧ ∀ x ∈ l, x.1 ≠ b)
  | [], M, b, blk, h => .inr ⟨h, fun x hx => by cases hx⟩
  | (b', blk') :: r, M, b, blk, h => by
    have h' : (setAll (M.set b' blk') r).get b = some blk := by
      have e : setAll M ((b', blk') :: r) = (M.set b' blk').force fun M => setAll M r := rfl
      rw [e, Tr.force_eq] at h; exact h
    rcases setAll_get r _ b blk h' with h1 | ⟨h1, h2⟩
    · exact .inl (List.mem_cons_of_mem _ h1)
    · rw [Tr.get_set] at h1
      by_cases e : b = b'
      · subst e
        rw [if_pos rfl] at h1
        obtain rfl := Option.some.inj h1
        exact .inl (List.mem_cons_self ..)
      · rw [if_neg e] at h1
        exact .inr ⟨h1, fun x hx => by
          rcases List.mem_cons.1 hx with rfl | hx
          · exact fun e' => e e'.symm
          · exact h2 x hx⟩
def hasN (b : Nat) : List (Nat × Blk) → Bool
  | [] => false
  | x :: r => bif Nat.beq x.1 b then true else hasN b r
theorem hasN_of {b : Nat} : ∀ {l : List (Nat × Blk)}, hasN b l = true → ∃ x ∈ l, x.1 = b
  | x :: r, h => by
    have h' : (bif Nat.beq x.1 b then true else hasN b r) = true := h
    cases hx : Nat.beq x.1 b with
    | true => exact ⟨x, List.mem_cons_self .., nbeq hx⟩
    | false =>
      rw [hx, cond_false] at h'
      obtain ⟨y, hy, e⟩ := hasN_of h'
      exact ⟨y, List.mem_cons_of_mem _ hy, e⟩
def namesIn (l : List (Nat × Blk)) : List (Nat × Blk) → Bool
  | [] => true
  | x :: r => hasN x.1 l && namesIn l r
theorem namesIn_of {l : List (Nat × Blk)} : ∀ {r : List (Nat × Blk)}, namesIn l r = true → ∀ x ∈ r, ∃ y ∈ l, y.1 = x.1
  | x :: r, h, z, hz => by
    obtain ⟨h1, h2⟩ := an2 (show (hasN x.1 l && namesIn l r) = true from h)
    rcases List.mem_cons.1 hz with rfl | hz
    · exact hasN_of h1
    · exact namesIn_of h2 z hz
def snGo (s : Snap) (args : List V) (M : Mem) : RC := bif vseq s.args args && holds M s.m0 then (setAll M s.m1).force fun M => .k s.v M s.c1 else .f
def snF (c : Nat) (args : List V) (M : Mem) : List Snap → RC
  | [] => .f
  | s :: r => bif Nat.beq s.c c then snGo s args M else snF c args M r
def snO (L : List Snap) (_ : RO) (args : List V) (M : Mem) (c : Nat) : RC := snF c args M L
def snChk (s : Snap) : RC → Bool
  | .k v M c => (veq s.v v && Nat.beq s.c1 c) && (holds M s.m1 && namesIn s.m1 s.m0)
  | .f => false
def snRun (Φ : Nat → Option CF) (fuel f : Nat) (s : Snap) : Bool := snChk s (callC (exec Φ fuel) [] f s.args (setAll .e s.m0) s.c (Φ f))
theorem snF_some {c : Nat} {args : List V} {M N : Mem} {v : V} {ct' : Nat} : ∀ {L : List Snap}, snF c args M L = .k v N ct' → ∃ s ∈ L, s.c = c ∧ snGo s args M = .k v N ct'
  | s :: r, h => by
    have h' : (bif Nat.beq s.c c then snGo s args M else snF c args M r) = .k v N ct' := h
    cases hx : Nat.beq s.c c with
    | true => rw [hx, cond_true] at h'; exact ⟨s, List.mem_cons_self .., nbeq hx, h'⟩
    | false =>
      rw [hx, cond_false] at h'
      obtain ⟨y, hy, e⟩ := snF_some h'
      exact ⟨y, List.mem_cons_of_mem _ hy, e⟩
theorem orc_snap {P : Program} (hm : P.follows .mixedOrders = true) {Φ : Nat → Option CF} (hΦ : PhiOk P Φ) {fuel f : Nat} {L : List Snap} (hL : ∀ s ∈ L, snRun Φ fuel f s = true) : OrcOk P f (snO L) := by
  intro F args M ct v N ct' hg E c w hr hglob hbig hf ha
  obtain ⟨s, hs, hc, hgo⟩ := snF_some (show snF ct args M L = .k v N ct' from hg)
  have hrun := hL s hs
  unfold snGo at hgo
  cases h1 : vseq s.args args && holds M s.m0 with
  | false => rw [h1] at hgo; cases hgo
  | true =>
    rw [h1, cond_true, Tr.force_eq] at hgo
    injection hgo with e1 e2 e3
    obtain ⟨h2, h3⟩ := an2 h1
    have hargs := vseq_eq _ _ h2
    unfold snRun at hrun
    cases hx : callC (exec Φ fuel) [] f s.args (setAll .e s.m0) s.c (Φ f) with
    | f => rw [hx] at hrun; cases hrun
    | k v1 M1 c1 =>
      rw [hx] at hrun
      obtain ⟨g1, g2⟩ := an2 (show ((veq s.v v1 && Nat.beq s.c1 c1) && (holds M1 s.m1 && namesIn s.m1 s.m0)) = true from hrun)
      obtain ⟨g3, g4⟩ := an2 g1
      obtain ⟨g5, g6⟩ := an2 g2
      have ev := veq_eq _ _ g3
      have ec := nbeq g4
      subst e1 e2 e3 hargs hc
      rw [ev, ec]
      have hsub : SubMem [] (setAll .e s.m0) F M := by
        refine ⟨fun b blk hb => ?_, fun b blk hb => (by cases hb), fun b hb => (by cases hb)⟩
        rcases setAll_get _ _ b blk hb with h | ⟨h, _⟩
        · exact holds_mem h3 b blk h
        · cases h
      obtain ⟨fn, k1, k2, k3, hC⟩ := callOk_of (rd := none) (fn := 0) (F₀ := []) hΦ (exec_sound hm hΦ fuel) [] f s.args (setAll .e s.m0) s.c v1 M1 c1 hx E c w (hsub.rel hr) hglob hbig hf ha
      refine ⟨fn, k1, k2, k3, hC.mono ?_⟩
      rintro e w' ⟨E', c', rfl, hS, hb, hG⟩
      refine ⟨E', c', rfl, hS.framed hsub hr fun b blk hN => ?_, hb, hG⟩
      rcases setAll_get _ _ b blk hN with h | ⟨h, hno⟩
      · exact .inl (holds_mem g5 b blk h)
      · refine .inr ⟨h, ?_⟩
        cases hm0 : (setAll .e s.m0 : Mem).get b with
        | none => rfl
        | some x =>
          exfalso
          rcases setAll_get _ _ b x hm0 with h' | ⟨h', _⟩
          · obtain ⟨y, hy, e⟩ := namesIn_of g6 _ h'
            exact hno y hy e
          · cases h'
end
end Go.Proofs.YtmbfboidfbaeiaaGreatDoor.Ev
