/- What is proved here: pieces of the evaluator's soundness: if the evaluator comes to a value, the model's run comes to it, for every world and tape; no conditions beyond the hypotheses of each theorem. -/
import Derived.Test.YtcfhedcdhibobaaGreatDoorEv10
set_option linter.unusedSimpArgs false
set_option linter.unusedVariables false
namespace Go.Proofs.YtcfhedcdhibobaaGreatDoor.Ev
open Go
def panC1 (l : List (Nat × Nat × CO)) (n : Nat) : Bool := l.all fun x => (List.range n).all fun j => !testBit x.2.1 j || hasIdx j l
def panC2 (l : List (Nat × Nat × CO)) (n mp : Nat) : Bool := (List.range n).all fun j => !testBit mp j || hasIdx j l
def panC3 (l : List (Nat × Nat × CO)) (mp : Nat) (ps : List Pos) : Bool := l.all fun x => testBit mp x.1 || (isQ x.2.2 && !dstIn ps x.2.2.dst)
def panF1 (l : List (Nat × Nat × CO)) (p : Nat) : List (Nat × Nat × CO) := l.filter fun x => !Nat.beq x.1 p && !testBit x.2.1 p
def panDreg (P : Program) (nt p : Nat) : Code → Option (Nat × List (Nat × Nat × CO) × PO)
  | .region _ ops true => match ops[p]? with
    | some o => match compOs P nt ops ops.toList, compPO o with
      | some cos, some po => match dregC ops cos with
        | .dreg n l => if pairsOk (panF1 l p) && (panC1 (panF1 l p) n && (panC2 (panF1 l p) n (mask1 (Region.before ops).toList o.after.toList) && panC3 (panF1 l p) (mask1 (Region.before ops).toList o.after.toList) po.ps)) then some (n, panF1 l p, po) else none
        | _ => none
      | _, _ => none
    | none => none
  | _ => none
section
variable {P : Program} {E E' : Env} {F : RO} {M M' : Mem} {c c' : Nat → Prop} {ct ct' nt : Nat} {w w' : World} {t t' : T} {d d' : List Nat} {a : Act} {rd : Option Nat} {Bd : List Deferred} {Ψ : Nat → Option PF}
theorem dreg_pan (hm : P.follows .mixedOrders = true) {Φ : Nat → Option CF} (hΦ : PhiOk P Φ) (hΨ : PsiOk P Ψ) {fuel fn p : Nat} {code : Code} {n : Nat} {l' : List (Nat × Nat × CO)} {po : PO} (hr : panDreg P nt p code = some (n, l', po))
    {t2 : T} {M2 : Mem} {c2 : Nat} {p2 : List (Nat × Nat × Blk)} {r2 : List (Nat × Nat)} (hdo : dOps (.mk Φ (exec Φ fuel) none fn F) ct l' (.mk t M (ct + n) [] []) = some (.mk t2 M2 c2 p2 r2)) {v : V} (hp : panPO Ψ F po t2 (mergeAll p2 M2) c2 = some (v, M', ct'))
    (h : SR P Bd F none nt E c w a t d M ct) {Q : Exit → Act → World → Prop}
    (hQ : ∀ E' c' a' w' t', Stp P F E M c w E' M' c' w' → Grow c ct c' ct' → bd c' v → SR P Bd F none nt E' c' w' a' t' d M' ct' → Q (.panic [{ v := conc E' v, recovered := false }]) a' w') : code.wpIn (fence E none) 0 P Q a w := by
  unfold panDreg at hr
  split at hr
  rotate_left
  · cases hr
  rename_i id ops
  split at hr
  rotate_left
  · cases hr
  rename_i o ho
  split at hr
  rotate_left
  · cases hr
  rename_i cos po' hcos hpo
  split at hr
  rotate_left
  · cases hr
  rename_i n' l hd
  split at hr
  rotate_left
  · cases hr
  rename_i hchk
  injection hr with hr
  injection hr with e1 e2
  injection e2 with e2 e3
  subst e1 e2 e3
  simp only [Bool.and_eq_true] at hchk
  obtain ⟨hpairs, hc1, hc2, hc3⟩ := hchk
  obtain ⟨rfl, hl, hreg⟩ := dregC_some hd
  unfold regOk at hreg
  rw [Bool.and_eq_true, Bool.and_eq_true] at hreg
  obtain ⟨hel, hcov, _⟩ := hreg
  have hex := exec_sound hm hΦ fuel
  have hcall := callOk_of hΦ hex none fn F
  have hy := yieldOk_of (Φ := Φ) hex none fn F
  have hI0 : DInv ct (Kn.mk Φ (exec Φ fuel) none fn F).F M [] := ⟨fun _ _ _ h => (by cases h), .nil, fun _ _ _ h => (by cases h)⟩
  obtain ⟨L, hL, hC, hPW, hI, _⟩ := dOps_chain (k := .mk Φ (exec Φ fuel) none fn F) (panF1 l p) t M (ct + ops.size) [] [] t2 M2 c2 p2 r2 hdo hpairs hI0 (fun q hq => by cases hq)
  have hsub : ∀ x ∈ panF1 l p, x ∈ l ∧ x.1 ≠ p ∧ testBit x.2.1 p = false := by
    intro x hx
    have := List.mem_filter.1 hx
    refine ⟨this.1, ?_, ?_⟩
    · have h2 := this.2; rw [beqN] at h2; simp at h2; exact h2.1
    · have h2 := this.2; simp at h2; exact h2.2
  have hLl' : ∀ x ∈ L, x.trip ∈ panF1 l p := fun x hx => by rw [← hL]; exact List.mem_map_of_mem hx
  have hLl : ∀ x ∈ L, x.trip ∈ l := fun x hx => (hsub _ (hLl' x hx)).1
  have hlab : ∀ x ∈ L, ∃ o, LabOk P nt ops (Region.before ops).toList x o := by
    intro x hx
    have hm1 := hLl x hx
    obtain ⟨o, ho, hmask, hself, hlt⟩ := elemOk_some (elemsOk_mem hel _ hm1)
    have hcm := canon_mem _ _ _ _ _ _ _ (by rw [← hl]; exact hm1)
    obtain ⟨o2, ho2, hco⟩ := compOs_get _ _ hcos x.i x.co hcm.1
    have : o2 = o := by rw [show ops.toList[x.i]? = some o from ho] at ho2; exact (Option.some.inj ho2).symm
    subst this
    have ho3 : ops.toList[x.i]? = some o2 := ho
    exact ⟨o2, by simpa using ho3, hco, hmask, hself, hlt⟩
  have hall : ∀ (j : Nat) (o : Oper), ops[j]? = some o → ∃ m co, (j, m, co) ∈ l ∧ m = mask1 (Region.before ops).toList o.after.toList ∧ m < 2 ^ ops.size ∧ (Region.before ops).toList[j]? = some m := by
    intro j o hj
    obtain ⟨m, co, hmem⟩ := hasIdx_mem (coversOk_mem hcov j (Array.getElem?_eq_some_iff.1 hj).1)
    obtain ⟨o2, ho2, hmask, _, hlt⟩ := elemOk_some (elemsOk_mem hel _ hmem)
    have hcm := canon_mem _ _ _ _ _ _ _ (by rw [← hl]; exact hmem)
    have : o2 = o := by
      have h1 : ops.toList[j]? = some o2 := ho2
      have h2 : ops.toList[j]? = some o := by simpa using hj
      rw [h1] at h2; exact Option.some.inj h2
    subst this
    exact ⟨m, co, hmem, hmask, hlt, hcm.2⟩
  have hms : ∀ (j : Nat) (o : Oper), ops[j]? = some o → (Region.before ops).toList[j]? = some (mask1 (Region.before ops).toList o.after.toList) := by
    intro j o hj
    obtain ⟨m, co, _, hmask, _, h2⟩ := hall j o hj
    rw [h2, hmask]
  have hpm : mask1 (Region.before ops).toList o.after.toList < 2 ^ ops.size := by
    obtain ⟨m, co, _, hmask, h2, _⟩ := hall p o ho
    rw [← hmask]; exact h2
  have hplt : p < ops.size := (Array.getElem?_eq_some_iff.1 ho).1
  have hin : ∀ x, hasIdx x (panF1 l p) = true → x ≠ p ∧ ¬ ((¬ ∃ m co, (x, m, co) ∈ panF1 l p) ∧ x ≠ p) := by
    intro x hx
    obtain ⟨m, co, hmem⟩ := hasIdx_mem hx
    exact ⟨(hsub _ hmem).2.1, fun hh => hh.1 ⟨m, co, hmem⟩⟩
  have hcl1 : ∀ l0 ∈ L, ∀ x, testBit l0.mask x = true → hasIdx x (panF1 l p) = true := by
    intro l0 hl0 x hx
    obtain ⟨ox, hox⟩ := hlab l0 hl0
    have hlt := testBit_lt hox.lt hx
    have h1 := List.all_eq_true.1 hc1 _ (hLl' l0 hl0)
    have h2 := List.all_eq_true.1 h1 x (List.mem_range.2 hlt)
    have h3 : testBit l0.trip.2.1 x = true := hx
    rw [h3] at h2
    simpa using h2
  have hpm1 : ∀ x, testBit (mask1 (Region.before ops).toList o.after.toList) x = true → hasIdx x (panF1 l p) = true := by
    intro x hx
    have hlt := testBit_lt hpm hx
    have h2 := List.all_eq_true.1 hc2 x (List.mem_range.2 hlt)
    rw [hx] at h2
    simpa using h2
  have hgd : o.guard = none := by
    unfold compPO at hpo
    split at hpo
    · cases hpo
    · rename_i hg; simpa using hg
  have hlen : L.length + 1 ≤ ops.size := by
    have h1 : L.length = (panF1 l p).length := by rw [← hL]; simp
    have h2 : l.length ≤ ops.size := by rw [hl]; exact canon_len _ _ _ _
    obtain ⟨m, co, hmem, _, _, _⟩ := hall p o ho
    have h3 : (panF1 l p).length < l.length := by
      refine List.length_filter_lt_length_iff_exists.2 ⟨_, hmem, ?_⟩
      rw [beqN]; simp
    omega
  refine wpIn_region_any hm ?_
  have hmem0 : ∀ b, (ssOf t M (ct + ops.size) []).m b = M.get b := fun b => rfl
  have hrel0 : RelM P E F (ssOf t M (ct + ops.size) []).m c { w with drawn := w.drawn + 1 } := RelM.of (h.cx.rel.world (w' := { w with drawn := w.drawn + 1 }) rfl) hmem0
  have hSM : SM P Bd F none nt ct d E c { w with drawn := w.drawn + 1 } a (ssOf t M (ct + ops.size) []) (fun j => ∃ x ∈ L, x.i = j) := by
    refine ⟨hrel0, h.cx.glob, h.cx.big, h.cx.tr, h.cx.bt, fun b hb => h.fr b ?_, Nat.le_add_right _ _, fun i hi => ?_, h.df, h.dc, h.sz, h.rd⟩
    · have : ct + ops.size ≤ b := hb
      omega
    · obtain ⟨x, hx, rfl⟩ := hi
      obtain ⟨ox, hox⟩ := hlab x hx
      have h1 := (Array.getElem?_eq_some_iff.1 hox.op).1
      exact ⟨h.fr _ (Nat.le_add_right _ _), by show ct + x.i < ct + ops.size; omega⟩
  refine any_pan (k := .mk Φ (exec Φ fuel) none fn F) (D := fun x => (¬ ∃ m co, (x, m, co) ∈ panF1 l p) ∧ x ≠ p) (ps := po'.ps) (nt := nt) (rd := none) (Bd := Bd) (d := d) (base := ct) (s' := ssOf t2 M2 c2 p2) hcall hy hms ho hgd hpm ?_ (fun x hx => hin x (hpm1 x hx)) (fun hh => hh.2 rfl) ops.size L (Array.replicate ops.size false) E c _ a _ hlen hC hPW hSM (by simp) ?_ ?_ hlab ?_ (fun l0 hl0 x hx => hin x (hcl1 l0 hl0 x hx)) ?_ ?_ ?_
  · rintro j oj ⟨hn, hne⟩ hj
    obtain ⟨m, co, hmem, hmask, _, _⟩ := hall j oj hj
    cases hb : testBit m p with
    | true => rw [← hmask]; exact hb
    | false =>
      exfalso
      refine hn ⟨m, co, List.mem_filter.2 ⟨hmem, ?_⟩⟩
      rw [beqN]; simp [hb, hne]
  · intro j hj
    constructor
    · intro _
      by_cases e : j = p
      · exact .inr (.inl e)
      · by_cases hmem : ∃ m co, (j, m, co) ∈ panF1 l p
        · obtain ⟨m, co, hmem⟩ := hmem
          rw [← hL] at hmem
          obtain ⟨x, hx, hxe⟩ := List.mem_map.1 hmem
          exact .inl ⟨x, hx, by injection hxe⟩
        · exact .inr (.inr ⟨hmem, e⟩)
    · intro _; simp [Array.getD, hj]
  · intro j oj hoj hl'
    exfalso
    have hjs := (Array.getElem?_eq_some_iff.1 hoj).1
    simp [Array.getD, hjs] at hl'
  · intro l0 hl0
    have h1 := hLl' l0 hl0
    exact ⟨(hsub _ h1).2.1, fun hh => hh.1 ⟨_, _, h1⟩⟩
  · intro l0 hl0 hb
    have h1 := List.all_eq_true.1 hc3 _ (hLl' l0 hl0)
    have h2 : testBit (mask1 (Region.before ops).toList o.after.toList) l0.trip.1 = false := hb
    rw [h2] at h1
    simpa [Lab.trip] using h1
  · intro E' c' a' w' s1 hS hnew hct hm1 hc1' hA hSM' K
    have hfin : ∀ b, s1.m b = (mergeAll p2 M2).get b := fun b => by rw [hm1]; exact (mergeAll_spec p2 M2 hI.nd b).symm
    have hrel : Rel P E' F (mergeAll p2 M2) c' w' := Rel.ofM hS.rel hfin
    have hSf : Stp P F E M c { w with drawn := w.drawn + 1 } E' (mergeAll p2 M2) c' w' := by
      refine ⟨hS.ext, hS.le, hrel, ?_, ?_, hS.size, hS.os, hS.output, hS.tape⟩
      · intro b hb
        rcases hS.own b (by rw [hfin b]; intro e; rw [e] at hb; cases hb) with ⟨b0, h0, e0⟩ | h0
        · refine .inl ⟨b0, ?_, e0⟩
          have h1 : M.get b0 ≠ none := h0
          cases hM : M.get b0 with
          | none => exact absurd hM h1
          | some _ => rfl
        · exact .inr h0
      · intro r hr hn
        refine hS.frame r hr fun b hb => hn b ?_
        have h1 : M.get b ≠ none := hb
        cases hM : M.get b with
        | none => exact absurd hM h1
        | some _ => rfl
    have hctE : s1.ct = c2 := hc1'
    have hG : Grow c ct c' c2 := by
      refine ⟨?_, fun b hb => ?_⟩
      · have : ct + ops.size ≤ s1.ct := hct
        omega
      · rw [← hctE]; exact hnew b hb
    have hSRf : SR P Bd F none nt E' c' w' a' s1.t d (mergeAll p2 M2) c2 := ⟨⟨hrel, hSM'.glob, hSM'.big, hSM'.tr, hSM'.bt⟩, by rw [← hctE]; exact hSM'.fr, hSM'.df, hSM'.dc, hSM'.sz, hSM'.rd⟩
    have hp' : panPO Ψ F po' s1.t (mergeAll p2 M2) c2 = some (v, M', ct') := by
      rw [← hp]
      exact (panPO_congr hA).symm
    refine po_ok hΨ hSRf.cx hSRf.fr hpo hp' fun E2 c2' w2 hS2 hG2 hb => ?_
    have hSw : Stp P F E M c w E' (mergeAll p2 M2) c' w' := ⟨hSf.ext, hSf.le, hSf.rel, hSf.own, hSf.frame, hSf.size, hSf.os, hSf.output, hSf.tape⟩
    exact hQ E2 c2' a' w2 s1.t (hSw.trans hS2) (hG.trans hG2) hb (hSRf.stp hS2 hG2)
  · exact ⟨.refl _ _, fun _ h => h, hrel0, fun b hb => .inl ⟨b, hb, rfl⟩, fun _ _ _ => rfl, Nat.le_refl _, rfl, rfl, rfl⟩
end
end Go.Proofs.YtcfhedcdhibobaaGreatDoor.Ev
namespace Go.Proofs.YtcfhedcdhibobaaGreatDoor.Ev
open Go
inductive PH where
  | nxt | lft | tru | fls | blk | lop | scp
inductive PSt where
  | nxt (c : CC)
  | into
  | cnd (x : X) (b : Bool)
def panM (s : PSt) : Option (List PSt × Code) → Option (List PSt × Code)
  | some (l, e) => some (s :: l, e)
  | none => none
def panP (P : Program) (nt : Nat) : List PH → Code → Option (List PSt × Code)
  | [], c => some ([], c)
  | .nxt :: h, .seq a b => match compC P nt 10000 a with
    | some ca => panM (.nxt ca) (panP P nt h b)
    | none => none
  | .lft :: h, .seq a _ => panM .into (panP P nt h a)
  | .tru :: h, .cond x a _ => match compX x with
    | some x => panM (.cnd x true) (panP P nt h a)
    | none => none
  | .fls :: h, .cond x _ b => match compX x with
    | some x => panM (.cnd x false) (panP P nt h b)
    | none => none
  | .blk :: h, .block _ a => panM .into (panP P nt h a)
  | .lop :: h, .loop a => panM .into (panP P nt h a)
  | .scp :: h, .scope a => panM .into (panP P nt h a)
  | _, _ => none
def isB (b : Bool) : V → Bool
  | .b x => x == b
  | _ => false
noncomputable def panS (Φ : Nat → Option CF) (fuel fn : Nat) (F : RO) : List PSt → St → Option St
  | [], s => some s
  | .nxt c :: l, s => match exec Φ fuel none fn F c s with
    | .k .nrm s1 => panS Φ fuel fn F l s1
    | _ => none
  | .into :: l, s => panS Φ fuel fn F l s
  | .cnd x b :: l, .mk t d M c => bif isB b (x.ev t) then panS Φ fuel fn F l (.mk t d M c) else none
section
variable {P : Program} {E E' : Env} {F : RO} {M M' : Mem} {c c' : Nat → Prop} {ct ct' nt : Nat} {w w' : World} {t t' : T} {d d' : List Nat} {a : Act} {rd : Option Nat} {Bd : List Deferred} {Ψ : Nat → Option PF}
theorem isB_eq {b : Bool} {v : V} (h : isB b v = true) : v = .b b := by
  cases v <;> simp [isB] at h
  rw [h]
theorem panM_some {s : PSt} {o : Option (List PSt × Code)} {l : List PSt} {e : Code} (h : panM s o = some (l, e)) : ∃ l1, o = some (l1, e) ∧ l = s :: l1 := by
  unfold panM at h
  split at h
  · rename_i l1 e1
    injection h with h
    injection h with h1 h2
    subst h1 h2
    exact ⟨l1, rfl, rfl⟩
  · cases h
theorem path_ok (hm : P.follows .mixedOrders = true) {Φ : Nat → Option CF} (hΦ : PhiOk P Φ) {fuel fn : Nat} {R : List PanicEntry → Act → World → Prop} {t1 : T} {d1 : List Nat} {M1 : Mem} {ct1 : Nat} {ce : Code} :
    ∀ (hs : List PH) (code : Code) (l : List PSt), panP P nt hs code = some (l, ce) → ∀ (E : Env) (c : Nat → Prop) (w : World) (a : Act) (t : T) (d : List Nat) (M : Mem) (ct : Nat), SR P Bd F none nt E c w a t d M ct → panS Φ fuel fn F l (.mk t d M ct) = some (.mk t1 d1 M1 ct1) →
    (∀ E1 c1 a1 w1, Stp P F E M c w E1 M1 c1 w1 → Grow c ct c1 ct1 → SR P Bd F none nt E1 c1 w1 a1 t1 d1 M1 ct1 → ∀ Q : Exit → Act → World → Prop, (∀ ch a w, R ch a w → Q (.panic ch) a w) → ce.wpIn (fence E1 none) 0 P Q a1 w1) →
    ∀ Q : Exit → Act → World → Prop, (∀ ch a w, R ch a w → Q (.panic ch) a w) → code.wpIn (fence E none) 0 P Q a w := by
  have hex := exec_sound hm hΦ fuel
  intro hs
  induction hs with
  | nil =>
    intro code l hc E c w a t d M ct h hp hk Q hQ
    unfold panP at hc
    injection hc with hc
    injection hc with e1 e2
    subst e1 e2
    have hp' : some (St.mk t d M ct) = some (.mk t1 d1 M1 ct1) := hp
    injection hp' with hp'
    injection hp' with e1 e2 e3 e4
    subst e1 e2 e3 e4
    exact hk E c a w (.refl h.cx.rel) (.refl _ _) h Q hQ
  | cons x hs ih =>
    intro code l hc E c w a t d M ct h hp hk Q hQ
    unfold panP at hc
    split at hc
    · rename_i heq; cases heq
    ·
      rename_i h' a1 b1 heq
      injection heq with g1 g2
      subst g1 g2
      split at hc
      · rename_i ca hca
        obtain ⟨l1, hc1, rfl⟩ := panM_some hc
        unfold panS at hp
        split at hp
        · rename_i s1 hx
          obtain ⟨t2, d2, M2, ct2⟩ := s1
          refine wpIn_seq ?_
          refine hex none fn F ca t d M ct .nrm t2 d2 M2 ct2 hx nt a1 ⟨10000, hca⟩ E c w a h _ ?_
          rintro a2 w2 ⟨E2, c2, hS2, hG2, hR2⟩
          show b1.wpIn (fence E none) 0 P Q a2 w2
          refine ih b1 l1 hc1 E2 c2 w2 a2 t2 d2 M2 ct2 hR2 hp ?_ Q hQ
          exact fun E3 c3 a3 w3 hS3 hG3 hR3 => hk E3 c3 a3 w3 (hS2.trans hS3) (hG2.trans hG3) hR3
        · cases hp
      · cases hc
    · rename_i h' a1 b1 heq
      injection heq with g1 g2
      subst g1 g2
      obtain ⟨l1, hc1, rfl⟩ := panM_some hc
      exact wpIn_seq (ih a1 l1 hc1 E c w a t d M ct h hp hk _ fun ch a w hr => hQ ch a w hr)
    · rename_i h' x0 a1 b1 heq
      injection heq with g1 g2
      subst g1 g2
      split at hc
      · rename_i y hy
        obtain ⟨l1, hc1, rfl⟩ := panM_some hc
        unfold panS at hp
        have ev := h.cx.ev hy
        cases hb : isB true (y.ev t) with
        | false => rw [hb] at hp; cases hp
        | true =>
          rw [hb, cond_true] at hp
          have hv : y.ev t = .b true := isB_eq hb
          refine wpIn_cond_true (by rw [ev.1, hv]; rfl) ?_
          exact ih a1 l1 hc1 E c w a t d M ct h hp hk Q hQ
      · cases hc
    · rename_i h' x0 a1 b1 heq
      injection heq with g1 g2
      subst g1 g2
      split at hc
      · rename_i y hy
        obtain ⟨l1, hc1, rfl⟩ := panM_some hc
        unfold panS at hp
        have ev := h.cx.ev hy
        cases hb : isB false (y.ev t) with
        | false => rw [hb] at hp; cases hp
        | true =>
          rw [hb, cond_true] at hp
          have hv : y.ev t = .b false := isB_eq hb
          refine wpIn_cond_false (by rw [ev.1, hv]; rfl) ?_
          exact ih b1 l1 hc1 E c w a t d M ct h hp hk Q hQ
      · cases hc
    · rename_i h' id a1 heq
      injection heq with g1 g2
      subst g1 g2
      obtain ⟨l1, hc1, rfl⟩ := panM_some hc
      exact wpIn_block (ih a1 l1 hc1 E c w a t d M ct h hp hk _ fun ch a w hr => hQ ch a w hr)
    · rename_i h' a1 heq
      injection heq with g1 g2
      subst g1 g2
      obtain ⟨l1, hc1, rfl⟩ := panM_some hc
      refine wpIn_loop_rounds 1 ?_
      exact ih a1 l1 hc1 E c w a t d M ct h hp hk _ fun ch a w hr => hQ ch a w hr
    · rename_i h' a1 heq
      injection heq with g1 g2
      subst g1 g2
      obtain ⟨l1, hc1, rfl⟩ := panM_some hc
      refine wpIn_scope 1 ?_
      exact ih a1 l1 hc1 E c w a t d M ct h hp hk _ fun ch a w hr => hQ ch a w hr
    · cases hc
end
inductive PFin where
  | reg (pre : List CO) (po : PO)
  | dreg (n : Nat) (l : List (Nat × Nat × CO)) (po : PO)
structure Pn where
  n : Nat
  path : List PSt
  fin : PFin
def panE (P : Program) (nt j : Nat) (dr : Bool) (ce : Code) : Option PFin := bif dr then match panDreg P nt j ce with
    | some (n, l, po) => some (.dreg n l po)
    | none => none
  else match panReg P nt j ce with
    | some (pre, po) => some (.reg pre po)
    | none => none
def panComp (P : Program) (hs : List PH) (j : Nat) (dr : Bool) (fn : Func) : Option Pn :=
  if fn.name == "runtime.NumGoroutine" then none else match fn.body with
  | some b => match panP P fn.ntmps hs b with
    | some (l, ce) => (panE P fn.ntmps j dr ce).map fun f => ⟨Nat.log2 fn.ntmps + 1, l, f⟩
    | none => none
  | none => none
noncomputable def panEnd (Ψ : Nat → Option PF) (F : RO) (po : PO) : Option St → Option (V × Mem × Nat)
  | some (.mk t [] M c) => panPO Ψ F po t M c
  | _ => none
noncomputable def panDEnd (Ψ : Nat → Option PF) (F : RO) (po : PO) : Option DS → Option (V × Mem × Nat)
  | some (.mk t M c p _) => panPO Ψ F po t (mergeAll p M) c
  | none => none
noncomputable def panFin (Φ : Nat → Option CF) (Ψ : Nat → Option PF) (fuel fn : Nat) (F : RO) : PFin → Option St → Option (V × Mem × Nat)
  | .reg pre po, some s => panEnd Ψ F po (seqOps pre (.mk Φ (exec Φ fuel) none fn F) s)
  | .dreg n l po, some (.mk t [] M c) => panDEnd Ψ F po (dOps (.mk Φ (exec Φ fuel) none fn F) c l (.mk t M (c + n) [] []))
  | _, _ => none
noncomputable def panO (Φ : Nat → Option CF) (Ψ : Nat → Option PF) (fuel fn : Nat) (D : Pn) : PF := fun F args M c => panFin Φ Ψ fuel fn F D.fin (panS Φ fuel fn F D.path (.mk (argTr D.n args) [] M c))
theorem pan_ok {P : Program} (hm : P.follows .mixedOrders = true) {Φ : Nat → Option CF} (hΦ : PhiOk P Φ) {Ψ : Nat → Option PF} (hΨ : PsiOk P Ψ) {fuel f : Nat} {fn : Func} (hf : P.funcs[f]? = some fn) {hs : List PH} {j : Nat} {dr : Bool} {D : Pn} (hD : panComp P hs j dr fn = some D) : PanOk P f (panO Φ Ψ fuel f D) := by
  intro F args M ct v M' ct' hg E c w hrel hglob hbig hfr hargs
  unfold panComp at hD
  split at hD
  · cases hD
  rename_i hnm0
  have hnm : (fn.name == "runtime.NumGoroutine") = false := by simpa using hnm0
  split at hD
  rotate_left
  · cases hD
  rename_i b hb
  split at hD
  rotate_left
  · cases hD
  rename_i l ce hl
  obtain ⟨fi, hfi, rfl⟩ := Option.map_eq_some_iff.1 hD
  refine ⟨fn, hf, by rw [hb]; rfl, hnm, ?_⟩
  refine (callsIn_wide (n := 0)).1 (callsIn_of_wp_marks hf hb trivial ?_)
  have hSR : SR P [] F none fn.ntmps E c w { tmps := (concs E args).toArray ++ Array.replicate (fn.ntmps - (concs E args).toArray.size) Go.undef, defers := [] } (argTr (Nat.log2 fn.ntmps + 1) args) [] M ct :=
    ⟨⟨hrel, hglob, hbig, argTr_rel E args _ _, argTr_bd hargs⟩, hfr, rfl, fun b hb => by simp at hb, by simp; omega, fun l hl => by cases hl⟩
  have hg' : panFin Φ Ψ fuel f F fi (panS Φ fuel f F l (.mk (argTr (Nat.log2 fn.ntmps + 1) args) [] M ct)) = some (v, M', ct') := hg
  cases hpS : panS Φ fuel f F l (.mk (argTr (Nat.log2 fn.ntmps + 1) args) [] M ct) with
  | none => rw [hpS] at hg'; cases fi <;> cases hg'
  | some s1 =>
    obtain ⟨t1, d1, M1, ct1⟩ := s1
    rw [hpS] at hg'
    refine path_ok hm hΦ (R := fun ch a' w' => a'.defers = [] ∧ ∃ E' c', ch = [{ v := conc E' v, recovered := false }] ∧ Stp P F E M c w E' M' c' w' ∧ bd c' v ∧ Grow c ct c' ct') hs b l hl E c w _ _ [] M ct hSR hpS ?_ _ ?_
    · intro E1 c1 a1 w1 hS1 hG1 hR1 Q hQ
      cases dr with
      | true =>
        have hfi' : (match panDreg P fn.ntmps j ce with | some (n, l, po) => some (PFin.dreg n l po) | none => none) = some fi := hfi
        split at hfi'
        · rename_i n l' po hr
          obtain rfl := (Option.some.inj hfi').symm
          cases d1 with
          | cons => cases hg'
          | nil =>
          have hg2 : panDEnd Ψ F po (dOps (.mk Φ (exec Φ fuel) none f F) ct1 l' (.mk t1 M1 (ct1 + n) [] [])) = some (v, M', ct') := hg'
          cases hdo : dOps (.mk Φ (exec Φ fuel) none f F) ct1 l' (.mk t1 M1 (ct1 + n) [] []) with
          | none => rw [hdo] at hg2; cases hg2
          | some ds =>
            obtain ⟨t2, M2, c2, p2, r2⟩ := ds
            rw [hdo] at hg2
            refine dreg_pan hm hΦ hΨ hr hdo hg2 hR1 ?_
            intro E2 c2' a2 w2 t3 hS2 hG2 hb2 hR2
            exact hQ _ _ _ ⟨by rw [hR2.df]; rfl, E2, c2', rfl, hS1.trans hS2, hb2, hG1.trans hG2⟩
        · cases hfi'
      | false =>
        have hfi' : (match panReg P fn.ntmps j ce with | some (pre, po) => some (PFin.reg pre po) | none => none) = some fi := hfi
        split at hfi'
        · rename_i pre po hr
          obtain rfl := (Option.some.inj hfi').symm
          have hg2 : panEnd Ψ F po (seqOps pre (.mk Φ (exec Φ fuel) none f F) (.mk t1 d1 M1 ct1)) = some (v, M', ct') := hg'
          unfold panEnd at hg2
          split at hg2
          · rename_i t2 M2 c2 hdo
            refine reg_pan hm hΦ hΨ hr hdo hg2 hR1 ?_
            intro E2 c2' a2 w2 hS2 hG2 hb2 hR2
            exact hQ _ _ _ ⟨by rw [hR2.df]; rfl, E2, c2', rfl, hS1.trans hS2, hb2, hG1.trans hG2⟩
          · cases hg2
        · cases hfi'
    · rintro ch a' w' ⟨hdf, E', c', rfl, hS, hb, hG⟩
      show LeavesInM Fence.wide 0 P fn a'.tmps _ a'.defers (.panicking _) w'
      rw [hdf]
      exact ⟨E', c', rfl, hS, hb, hG⟩
end Go.Proofs.YtcfhedcdhibobaaGreatDoor.Ev
namespace Go.Proofs.YtcfhedcdhibobaaGreatDoor.Ev
open Go
structure Rc where
  n : Nat
  dst : Option Pos
  ops : List CO
  rest : CC
def rcOp (nt : Nat) (o : Oper) : Bool := match o.op, o.guard with
  | .call cl, none => match cl.callee with
    | .builtin .recover => dstOk nt o.dst
    | _ => false
  | _, _ => false
def rcComp (P : Program) (fn : Func) : Option Rc :=
  if fn.name == "runtime.NumGoroutine" then none else
  match fn.body, fn.results.toList with
  | some (.seq (.region _ ops false) b), [] => match ops.toList with
    | o :: l => if rcOp fn.ntmps o then match compOs P fn.ntmps ops l, compC P fn.ntmps 10000 b with
      | some cos, some rest => some ⟨Nat.log2 fn.ntmps + 1, o.dst.map posOf, cos, rest⟩
      | _, _ => none
      else none
    | [] => none
  | _, _ => none
noncomputable def rcEnd : Rs → Option (Mem × Nat)
  | .k e (.mk _ [] M c) => bif isEnd e then some (M, c) else none
  | _ => none
noncomputable def rcGo (Φ : Nat → Option CF) (fuel fn : Nat) (F : RO) (rest : CC) : Option St → Option (Mem × Nat)
  | some s => rcEnd (exec Φ fuel none fn F rest s)
  | none => none
noncomputable def rcRun (Φ : Nat → Option CF) (fuel fn : Nat) (F : RO) (D : Rc) (args : List V) (M : Mem) (c : Nat) (v : V) : Option (Mem × Nat) :=
  rcGo Φ fuel fn F D.rest (seqOps D.ops (.mk Φ (exec Φ fuel) none fn F) (.mk (setT (argTr D.n args) D.dst v) [] M c))
theorem wpSIn_rec {F : Fence} {n : Nat} {P : Program} {Q : Exit → Act → List Frame → World → Prop} {a : Act} {cs cs' : List Frame} {w : World} {id : Nat} {ops : Array Oper} {o : Oper} {cl : Call} {v : Value} (ho : ops[0]? = some o) (hop : o.op = .call cl) (hcal : cl.callee = .builtin .recover) (hgd : o.guard = none)
    (hF1 : ∀ f, F.fn f) (hro : F.round = none) (hlen : cs'.length = cs.length)
    (hrec : recoverD cs = some (v, cs') ∨ (recoverD cs = none ∧ v = .nilIface ∧ cs' = cs)) (h : wpOpsIn F n P ops (fun e a' w' => Q e a' cs' w') (List.range' 1 (ops.size - 1)) (a.put o.dst v) w) : (Code.region id ops false).wpSIn F n P Q a cs w := by
  intro b k hb hr hF hroom
  obtain ⟨e, a', w', hq, harr⟩ := wp_opsIn _ _ _ h b k cs' (hr.trans hro.symm) hF (hlen ▸ hroom)
  refine ⟨e, a', cs', w', hlen, hq, .of_steps (.one (fenced_calm hF hroom rfl) stepR_region) ?_⟩
  have hsz : 0 < ops.size := (Array.getElem?_eq_some_iff.1 ho).1
  have hrg : List.range ops.size = 0 :: List.range' 1 (ops.size - 1) := by
    rw [List.range_eq_range']
    obtain ⟨m, hm⟩ : ∃ m, ops.size = m + 1 := ⟨ops.size - 1, by omega⟩
    rw [hm, List.range'_succ]; simp
  rw [hrg]
  have h0 : (lone (b.atR a (.inRegion ops (0 :: List.range' 1 (ops.size - 1)) :: k)) cs w).fenced P F := fenced_oper hF hroom ho (fun f _ => hF1 f)
  have hw : Region.wanted o (yielded ops a.tmps) = true := by unfold Region.wanted; rw [hgd]
  have hg := stepGR_op (P := P) (b := b) (k := k) (cs := cs) (w := w) (rest := List.range' 1 (ops.size - 1)) ho hw
  rw [hr, Oper.semAt_none] at hg
  have hfin : ∀ v, (b.atR a (.inRegion ops (0 :: List.range' 1 (ops.size - 1)) :: k)).finish v = b.atR (a.put o.dst v) (.inRegion ops (List.range' 1 (ops.size - 1)) :: k) := by
    intro v; rw [Frame.finish_atR, ho]; rfl
  have hrun : (execOp a.eval o).run P w = .ok .recover w := by
    have hbp : ∀ ats ty cs args, builtin .recover ats ty cs args = (pure .recover : Sem Next) := fun _ _ _ _ => rfl
    simp only [execOp, hop, resolve, hcal, invoke, Sem.run_bind, Sem.run_pure, Result.andThen_ok, hbp]
  have hk : (b.atR a (.inRegion ops (0 :: List.range' 1 (ops.size - 1)) :: k)).kind = .deferred := hb
  have htr := tryRecover_deferred hk cs
  rcases hrec with hrec | ⟨hrec, rfl, rfl⟩
  · refine .of_steps (.one h0 (step_lone_go ?_)) harr
    rw [hg, ← hfin]
    simp only [Frame.atR, hr] at htr ⊢
    simp [stepG.apply, hrun, htr, hrec]
  · refine .of_steps (.one h0 (step_lone_go ?_)) harr
    rw [hg, ← hfin]
    simp only [Frame.atR, hr] at htr ⊢
    simp [stepG.apply, hrun, htr, hrec]
section
variable {P : Program} {E E' : Env} {F : RO} {M M' : Mem} {c c' : Nat → Prop} {ct ct' nt : Nat} {w w' : World} {t t' : T} {d d' : List Nat} {a : Act} {rd : Option Nat} {Bd : List Deferred} {Ψ : Nat → Option PF}
theorem rc_ok (hm : P.follows .mixedOrders = true) {Φ : Nat → Option CF} (hΦ : PhiOk P Φ) {fuel f : Nat} {fn : Func} (hf : P.funcs[f]? = some fn) {D : Rc} (hD : rcComp P fn = some D) {args : List V} {v : V} (h : rcRun Φ fuel f F D args M ct v = some (M', ct')) (hrel : Rel P E F M c w) (hglob : ∀ g, g < 1000 → E.ρ g = g ∧ E.β g = 0) (hbig : ∀ g, g < 1000 → c g) (hfr : Fresh c ct) (hargs : bds c args) (hv : bd c v) (u u2 : FrameMode)
    (hu : ∀ (c₀ : Frame) (cs : List Frame), c₀.mode = u → recoverD (c₀ :: cs) = some (conc E v, { c₀ with mode := u2 } :: cs) ∨ (recoverD (c₀ :: cs) = none ∧ conc E v = .nilIface ∧ u2 = u)) :
    (fn.body.isNone = false ∧ (fn.name == "runtime.NumGoroutine") = false) ∧
    CallsDIn Fence.wide 0 P f (concs E args).toArray u w fun e u' w' => u' = u2 ∧ ∃ E' c' x, e = .returned x ∧ Stp P F E M c w E' M' c' w' ∧ Grow c ct c' ct' := by
  unfold rcComp at hD
  split at hD
  · cases hD
  rename_i hnm0
  have hnm : (fn.name == "runtime.NumGoroutine") = false := by simpa using hnm0
  split at hD
  rotate_left
  · cases hD
  rename_i id ops b hb hres
  split at hD
  rotate_left
  · cases hD
  rename_i o l hol
  split at hD
  rotate_left
  · cases hD
  rename_i hrc
  split at hD
  rotate_left
  · cases hD
  rename_i cos rest hcos hrest
  obtain rfl := (Option.some.inj hD).symm
  refine ⟨⟨by rw [hb]; rfl, hnm⟩, ?_⟩
  unfold rcOp at hrc
  split at hrc
  rotate_left
  · cases hrc
  rename_i cl hop hgd
  split at hrc
  rotate_left
  · cases hrc
  rename_i hcal
  have ho : ops[0]? = some o := by
    have : ops.toList[0]? = some o := by rw [hol]; rfl
    simpa using this
  have hSR0 : SR P [] F none fn.ntmps E c w { tmps := (concs E args).toArray ++ Array.replicate (fn.ntmps - (concs E args).toArray.size) Go.undef, defers := [] } (argTr (Nat.log2 fn.ntmps + 1) args) [] M ct :=
    ⟨⟨hrel, hglob, hbig, argTr_rel E args _ _, argTr_bd hargs⟩, hfr, rfl, fun b hb => by simp at hb, by simp; omega, fun l hl => by cases hl⟩
  have hSR := hSR0.put hrc (v := v) rfl hv
  have h' : rcGo Φ fuel f F rest (seqOps cos (.mk Φ (exec Φ fuel) none f F) (.mk (setT (argTr (Nat.log2 fn.ntmps + 1) args) (o.dst.map posOf) v) [] M ct)) = some (M', ct') := h
  unfold rcGo at h'
  split at h'
  rotate_left
  · cases h'
  rename_i s1 hs1
  obtain ⟨t1, d1, M1, ct1⟩ := s1
  unfold rcEnd at h'
  split at h'
  rotate_left
  · cases h'
  rename_i e t2 M2 c2 hx
  cases he : isEnd e with
  | false => rw [he] at h'; cases h'
  | true =>
  rw [he, cond_true] at h'
  injection h' with h'
  injection h' with e1 e2
  subst e1 e2
  have hex := exec_sound hm hΦ fuel
  refine callsDIn_of_wpSIn hf hb trivial fun c₀ cs hc₀ => ?_
  have hrec := hu c₀ cs hc₀
  have hsz : ops.size = l.length + 1 := by
    have := congrArg List.length hol
    simpa using this
  have main : ∀ (cs1 : List Frame), cs1 = { c₀ with mode := u2 } :: cs → wpOpsIn Fence.wide 0 P ops (fun e a' w' => Exit.thenS (b.wpSIn Fence.wide 0 P (bodyPostS P fn c₀ cs fun e u' w' => u' = u2 ∧ ∃ E' c' x, e = .returned x ∧ Stp P F E M c w E' M2 c' w' ∧ Grow c ct c' c2)) (bodyPostS P fn c₀ cs fun e u' w' => u' = u2 ∧ ∃ E' c' x, e = .returned x ∧ Stp P F E M c w E' M2 c' w' ∧ Grow c ct c' c2) e a' cs1 w') (List.range' 1 (ops.size - 1)) (Act.put { tmps := (concs E args).toArray ++ Array.replicate (fn.ntmps - (concs E args).toArray.size) Go.undef, defers := [] } o.dst (conc E v)) w := by
    intro cs1 hcs1
    rw [hsz, Nat.add_sub_cancel]
    refine seq_ok (F := F) (rd := none) (nt := fn.ntmps) (k := .mk Φ (exec Φ fuel) none f F) (callOk_of hΦ hex none f F) (yieldOk_of hex none f F) l cos 1 E c w _ _ M ct (by rw [hol]; rfl) hcos hs1 hSR ?_
    rintro a1 w1 ⟨E1, c1, hS1, hG1, hR1⟩
    show b.wpSIn Fence.wide 0 P _ a1 cs1 w1
    refine wpSIn_of_wpIn rfl ?_
    refine hex none f F rest t1 d1 M1 ct1 e t2 [] M2 c2 hx fn.ntmps b ⟨10000, hrest⟩ E1 c1 w1 a1 hR1 _ ?_
    rintro a2 w2 ⟨E2, c2', hS2, hG2, hR2⟩
    have hres' := results_ok hR2.cx (fn := fn) (rs := []) (vs := []) (by rw [hres]; rfl) rfl
    have key : bodyPostS P fn c₀ cs (fun e u' w' => u' = u2 ∧ ∃ E' c' x, e = .returned x ∧ Stp P F E M c w E' M2 c' w' ∧ Grow c ct c' c2) .normal a2 cs1 w2 :=
      ⟨by rw [hR2.df]; rfl, u2, hcs1, _, hres'.1, rfl, E2, c2', _, rfl, hS1.trans hS2, hG1.trans hG2⟩
    cases e with
    | nrm => exact key
    | ret => exact key
    | _ => cases he
  refine wpSIn_seq ?_
  rcases hrec with hrec | ⟨hrec, hnil, hu2⟩
  · exact wpSIn_rec (cs' := { c₀ with mode := u2 } :: cs) ho hop hcal hgd (fun _ => trivial) rfl rfl (.inl hrec) (main _ rfl)
  · refine wpSIn_rec ho hop hcal hgd (fun _ => trivial) rfl rfl (.inr ⟨hrec, hnil, rfl⟩) (main _ ?_)
    rw [hu2, ← hc₀]
end
end Go.Proofs.YtcfhedcdhibobaaGreatDoor.Ev
namespace Go.Proofs.YtcfhedcdhibobaaGreatDoor.Ev
open Go
structure Wh where
  n : Nat
  res : List RV
  pre : List CC
  r : List CO
  x : X
  post : CC
  path : List PSt
  fr : List CO
  po : PO
  g : Nat
  rc : Rc
def whR (P : Program) (nt : Nat) : Code → Option (List CO × X)
  | .region _ ops false => match ops.toList.reverse with
    | o :: l => match o.op, o.guard, o.dst with
      | .defer cl, none, none => match cl.callee, cl.args.toList with
        | .value x, [] => match compOs P nt ops l.reverse, compX x with
          | some r, some x => some (r, x)
          | _, _ => none
        | _, _ => none
      | _, _, _ => none
    | [] => none
  | _ => none
def whC (P : Program) (nt : Nat) : Nat → Code → Option (List CC × (List CO × X) × CC × Code)
  | j + 1, .seq a b => match whR P nt a with
    | some r => match compC P nt 10000 b with
      | some c => some ([], r, c, b)
      | none => none
    | none => match compC P nt 10000 a, whC P nt j b with
      | some a, some (l, q) => some (a :: l, q)
      | _, _ => none
  | _, _ => none
def whComp (P : Program) (hs : List PH) (j g : Nat) (fn : Func) : Option Wh :=
  if fn.name == "runtime.NumGoroutine" then none else
  match fn.body, P.funcs[g]? with
  | some b, some gn => match whC P fn.ntmps 10000 b, compRs P fn.results.toList, rcComp P gn with
    | some (pre, (r, x), post, pb), some res, some rc => match panP P fn.ntmps hs pb with
      | some (path, ce) => match panReg P fn.ntmps j ce with
        | some (fr, po) => some ⟨Nat.log2 fn.ntmps + 1, res, pre, r, x, post, path, fr, po, g, rc⟩
        | none => none
      | none => none
    | _, _, _ => none
  | _, _ => none
noncomputable def whEnd (F : RO) (res : List RV) (t : T) : Option (Mem × Nat) → RC
  | some (M, c) => finish2 c M (resV F M t res)
  | none => .f
noncomputable def whRc (Φ : Nat → Option CF) (fuel : Nat) (F : RO) (D : Wh) (dv : V) (t : T) (M : Mem) (c : Nat) (v : V) : RC := match dv with
  | .f g first caps => bif Nat.beq g D.g then whEnd F D.res t (rcRun Φ fuel D.g F D.rc (first ++ caps) M c v) else .f
  | _ => .f
noncomputable def whN2 (Φ : Nat → Option CF) (fuel : Nat) (F : RO) (D : Wh) (dv : V) (t : T) (c : Nat) : Option Mem → RC
  | some M => whRc Φ fuel F D dv t M c .a0
  | none => .f
noncomputable def whN (Φ : Nat → Option CF) (fuel : Nat) (F : RO) (D : Wh) (dv : V) : Rs → RC
  | .k e (.mk t d M c) => bif isEnd e then whN2 Φ fuel F D dv t c (takeDefs d M) else .f
  | .f => .f
noncomputable def whP2 (Φ : Nat → Option CF) (fuel : Nat) (F : RO) (D : Wh) (dv : V) (t : T) : Option (V × Mem × Nat) → RC
  | some (v, M, c) => whRc Φ fuel F D dv t M c v
  | none => .f
noncomputable def whP1 (Φ : Nat → Option CF) (Ψ : Nat → Option PF) (fuel : Nat) (F : RO) (D : Wh) (dv : V) : Option St → RC
  | some (.mk t [] M c) => whP2 Φ fuel F D dv t (panPO Ψ F D.po t M c)
  | _ => .f
noncomputable def whP (Φ : Nat → Option CF) (Ψ : Nat → Option PF) (fuel fn : Nat) (F : RO) (D : Wh) (dv : V) : Option St → RC
  | some s => whP1 Φ Ψ fuel F D dv (seqOps D.fr (.mk Φ (exec Φ fuel) none fn F) s)
  | none => .f
noncomputable def orElseR (r1 r2 : RC) : RC := match r1 with
  | .k v M c => .k v M c
  | .f => r2
noncomputable def whGo2 (Φ : Nat → Option CF) (Ψ : Nat → Option PF) (fuel fn : Nat) (F : RO) (D : Wh) : Option St → RC
  | some (.mk t [] M c) => orElseR (whN Φ fuel F D (D.x.ev t) (exec Φ fuel none fn F D.post (.mk t [] M c))) (whP Φ Ψ fuel fn F D (D.x.ev t) (panS Φ fuel fn F D.path (.mk t [] M c)))
  | _ => .f
noncomputable def whGo (Φ : Nat → Option CF) (Ψ : Nat → Option PF) (fuel fn : Nat) (F : RO) (D : Wh) : Rs → RC
  | .k .nrm s => whGo2 Φ Ψ fuel fn F D (seqOps D.r (.mk Φ (exec Φ fuel) none fn F) s)
  | _ => .f
noncomputable def whO (Φ : Nat → Option CF) (Ψ : Nat → Option PF) (fuel fn : Nat) (D : Wh) (F : RO) (args : List V) (M : Mem) (c : Nat) : RC :=
  whGo Φ Ψ fuel fn F D (dfL Φ fuel fn F D.pre (.mk (argTr D.n args) [] M c))
section
variable {P : Program} {E E' : Env} {F : RO} {M M' : Mem} {c c' : Nat → Prop} {ct ct' nt : Nat} {w w' : World} {t t' : T} {d d' : List Nat} {a : Act} {rd : Option Nat} {Bd : List Deferred} {Ψ : Nat → Option PF}
theorem wh_pre (hm : P.follows .mixedOrders = true) {Φ : Nat → Option CF} (hΦ : PhiOk P Φ) {fuel fn : Nat} {rr : List CO × X} {post : CC} {pb : Code} {Q0 : Exit → Act → World → Prop} {t1 : T} {d1 : List Nat} {M1 : Mem} {ct1 : Nat} : ∀ (j : Nat) (code : Code) (pre : List CC), whC P nt j code = some (pre, rr, post, pb) →
    ∀ (E : Env) (c : Nat → Prop) (w : World) (a : Act) (t : T) (d : List Nat) (M : Mem) (ct : Nat), SR P [] F none nt E c w a t d M ct → dfL Φ fuel fn F pre (.mk t d M ct) = .k .nrm (.mk t1 d1 M1 ct1) →
    (∀ E1 c1 a1 w1, Stp P F E M c w E1 M1 c1 w1 → Grow c ct c1 ct1 → SR P [] F none nt E1 c1 w1 a1 t1 d1 M1 ct1 → ∀ x, whR P nt x = some rr → compC P nt 10000 pb = some post → (Code.seq x pb).wpIn (fence E1 none) 0 P Q0 a1 w1) → code.wpIn (fence E none) 0 P Q0 a w := by
  have hex := exec_sound hm hΦ fuel
  intro j
  induction j with
  | zero => intro code pre hc; cases hc
  | succ j ih =>
    intro code pre hc E c w a t d M ct h hx hk
    unfold whC at hc
    split at hc
    · rename_i j' x y hj
      obtain rfl := Nat.succ.inj hj
      split at hc
      · rename_i r hr
        split at hc
        · rename_i cc hcc
          injection hc with hc
          injection hc with e1 e2
          injection e2 with e2 e3
          injection e3 with e3 e4
          subst e1 e2 e3 e4
          have hx' : Rs.k .nrm (St.mk t d M ct) = .k .nrm (.mk t1 d1 M1 ct1) := hx
          injection hx' with _ hx'
          injection hx' with g1 g2 g3 g4
          subst g1 g2 g3 g4
          exact hk E c a w (.refl h.cx.rel) (.refl _ _) h x hr hcc
        · cases hc
      · split at hc
        · rename_i cx l q h1 h2
          injection hc with hc
          injection hc with e1 e2
          subst e1 e2
          refine wpIn_seq ?_
          rw [dfL] at hx
          cases hx1 : exec Φ fuel none fn F cx (.mk t d M ct) with
          | f => rw [hx1] at hx; cases hx
          | k e s1 =>
            obtain ⟨t2, d2, M2, ct2⟩ := s1
            rw [hx1] at hx
            cases e with
            | nrm =>
              refine hex none fn F cx t d M ct .nrm t2 d2 M2 ct2 hx1 nt x ⟨10000, h1⟩ E c w a h _ ?_
              rintro a1 w1 ⟨E1, c1, hS, hG, hR⟩
              show y.wpIn (fence E none) 0 P Q0 a1 w1
              refine ih y l h2 E1 c1 w1 a1 t2 d2 M2 ct2 hR hx ?_
              exact fun E2 c2 a2 w2 hS2 hG2 hR2 => hk E2 c2 a2 w2 (hS.trans hS2) (hG.trans hG2) hR2
            | _ => cases hx
        · cases hc
    · cases hc
theorem finish2_some {vs : Option (List V)} {v : V} (h : finish2 ct M vs = .k v M' ct') : ∃ l, vs = some l ∧ v = oneV l ∧ M' = M ∧ ct' = ct := by
  cases vs with
  | none => cases (show RC.f = .k v M' ct' from h)
  | some l =>
    have h3 : RC.k (oneV l) M ct = .k v M' ct' := h
    injection h3 with e1 e2 e3
    exact ⟨l, rfl, e1.symm, e2.symm, e3.symm⟩
theorem wh_leave (hm : P.follows .mixedOrders = true) {Φ : Nat → Option CF} (hΦ : PhiOk P Φ) {fuel : Nat} {fn gn : Func} {D : Wh} (hg : P.funcs[D.g]? = some gn) (hrc : rcComp P gn = some D.rc) (hres : compRs P fn.results.toList = some D.res)
    {dv : V} {v x : V} (h : whRc Φ fuel F D dv t M ct x = .k v M' ct') {E0 : Env} {c0 : Nat → Prop} (hE : Ext c0 E0 E) (hdv0 : bd c0 dv) (hdv : bd c dv) (hx : bd c x)
    (hcx : Cx P E F M c w t a) (hfr : Fresh c ct) (u u2 : FrameMode) (hur : u ≠ .run) (hset : settle u2 = .returning)
    (hu : ∀ (c₀ : Frame) (cs : List Frame), c₀.mode = u → recoverD (c₀ :: cs) = some (conc E x, { c₀ with mode := u2 } :: cs) ∨ (recoverD (c₀ :: cs) = none ∧ conc E x = .nilIface ∧ u2 = u)) {g : Nat} {first caps : List V} (hd : dv = .f g first caps)
    {R : Ending → World → Prop} (hR : ∀ E' c' w', Stp P F E M c w E' M' c' w' → Grow c ct c' ct' → bd c' v → R (.returned (conc E' v)) w') :
    LeavesInM Fence.wide 0 P fn a.tmps R [{ target := .fn (.func g) (concs E0 caps).toArray, args := (concs E0 first).toArray }] u w := by
  subst hd
  have h1 : (bif Nat.beq g D.g then whEnd F D.res t (rcRun Φ fuel D.g F D.rc (first ++ caps) M ct x) else .f) = RC.k v M' ct' := h
  cases hgb : Nat.beq g D.g with
  | false => rw [hgb] at h1; cases h1
  | true =>
  rw [hgb, cond_true] at h1
  obtain rfl : g = D.g := Nat.eq_of_beq_eq_true hgb
  unfold whEnd at h1
  split at h1
  rotate_left
  · cases h1
  rename_i M2 c2 hrr
  obtain ⟨vs, hrv, rfl, rfl, rfl⟩ := finish2_some h1
  have hargs : bds c (first ++ caps) := bds_append hdv.1 hdv.2
  obtain ⟨⟨hbo, hnm⟩, hC⟩ := rc_ok hm hΦ hg hrc hrr hcx.rel hcx.glob hcx.big hfr hargs hx u u2 hu
  have heq : concs E0 (first ++ caps) = concs E (first ++ caps) := (concs_ext hE _ (bds_append hdv0.1 hdv0.2)).symm
  refine ⟨hur, .inr ⟨(fun hh => by cases hh), .func D.g, (concs E0 caps).toArray, D.g, (concs E (first ++ caps)).toArray, rfl, ?_, fun _ _ => trivial, ?_⟩⟩
  · have e0 : (concs E0 first).toArray ++ (concs E0 caps).toArray = (concs E (first ++ caps)).toArray := by
      rw [← heq, concs_append]; simp
    have h1 : ¬ gn.name = "runtime.NumGoroutine" := by simpa using hnm
    have h2 : ¬ gn.body = none := fun e => by rw [e] at hbo; cases hbo
    simp only [invoke, e0]
    simp [callFunc, hg, h1, h2]
  · refine hC.mono ?_
    rintro e6 u6 w6 ⟨rfl, E6, c6, y, rfl, hS6, hG6⟩
    show LeavesInM Fence.wide 0 P fn a.tmps _ [] (settle u6) w6
    rw [hset]
    have hcx6 : Cx P E6 F M' c6 w6 t a := ⟨hS6.rel, fun g hg => by rw [hS6.ext.ρ g (hcx.big g hg), hS6.ext.β g (hcx.big g hg)]; exact hcx.glob g hg, fun g hg => hS6.le g (hcx.big g hg), hcx.tr.ext hS6.ext hcx.bt, fun p => bd_mono hS6.le _ (hcx.bt p)⟩
    have hres' := results_ok hcx6 hres hrv
    exact ⟨_, hres'.1, hR E6 c6 w6 hS6 hG6 hres'.2⟩
end
end Go.Proofs.YtcfhedcdhibobaaGreatDoor.Ev
namespace Go.Proofs.YtcfhedcdhibobaaGreatDoor.Ev
open Go
theorem orc_wh {P : Program} (hm : P.follows .mixedOrders = true) {Φ : Nat → Option CF} (hΦ : PhiOk P Φ) {Ψ : Nat → Option PF} (hΨ : PsiOk P Ψ) {fuel f : Nat} {fn : Func} (hf : P.funcs[f]? = some fn) {hs : List PH} {j g : Nat} {D : Wh} (hD : whComp P hs j g fn = some D) : OrcOk P f (whO Φ Ψ fuel f D) := by
  intro F args M ct v M' ct' hgo E c w hrel hglob hbig hfr hargs
  unfold whComp at hD
  split at hD
  · cases hD
  rename_i hnm0
  have hnm : (fn.name == "runtime.NumGoroutine") = false := by simpa using hnm0
  split at hD
  rotate_left
  · cases hD
  rename_i b gn hb hgn
  split at hD
  rotate_left
  · cases hD
  rename_i pre r x post pb res rc hC hres hrc
  split at hD
  rotate_left
  · cases hD
  rename_i path ce hpp
  split at hD
  rotate_left
  · cases hD
  rename_i fr po hpr
  obtain rfl := (Option.some.inj hD).symm
  refine ⟨fn, hf, by rw [hb]; rfl, hnm, ?_⟩
  refine (callsIn_wide (n := 0)).1 (callsIn_of_wp_marks hf hb trivial ?_)
  have hSR : SR P [] F none fn.ntmps E c w { tmps := (concs E args).toArray ++ Array.replicate (fn.ntmps - (concs E args).toArray.size) Go.undef, defers := [] } (argTr (Nat.log2 fn.ntmps + 1) args) [] M ct :=
    ⟨⟨hrel, hglob, hbig, argTr_rel E args _ _, argTr_bd hargs⟩, hfr, rfl, fun b hb => by simp at hb, by simp; omega, fun l hl => by cases hl⟩
  have hex := exec_sound hm hΦ fuel
  have hcall := callOk_of hΦ hex none f F
  have hyo := yieldOk_of (Φ := Φ) hex none f F
  have hgo' : whGo Φ Ψ fuel f F ⟨Nat.log2 fn.ntmps + 1, res, pre, r, x, post, path, fr, po, g, rc⟩ (dfL Φ fuel f F pre (.mk (argTr (Nat.log2 fn.ntmps + 1) args) [] M ct)) = .k v M' ct' := hgo
  unfold whGo at hgo'
  split at hgo'
  rotate_left
  · cases hgo'
  rename_i s1 hdl
  obtain ⟨t1, d1, M1, ct1⟩ := s1
  refine wh_pre hm hΦ (fuel := fuel) (fn := f) (F := F) 10000 b pre hC E c w _ _ _ _ _ hSR hdl ?_
  intro E1 c1 a1 w1 hS1 hG1 hR1 y hy hpost
  unfold whGo2 at hgo'
  split at hgo'
  rotate_left
  · cases hgo'
  rename_i t2 M2 ct2 hs2
  unfold whR at hy
  split at hy
  rotate_left
  · cases hy
  rename_i id ops
  split at hy
  rotate_left
  · cases hy
  rename_i o l hol
  split at hy
  rotate_left
  · cases hy
  rename_i cl hop hgd hds
  split at hy
  rotate_left
  · cases hy
  rename_i xo hcal hcargs
  split at hy
  rotate_left
  · cases hy
  rename_i r' x' hr hx
  injection hy with hy
  injection hy with p1 p2
  subst p1 p2
  have hops : ops.toList = l.reverse ++ [o] := by
    have := congrArg List.reverse hol
    simpa using this
  have hd1 : d1 = [] ∨ True := .inr trivial
  refine wpIn_seq ?_
  refine wpIn_region ?_
  have hsz : ops.size = l.reverse.length + 1 := by
    have := congrArg List.length hops
    simpa using this
  rw [List.range_eq_range', hsz]
  refine seq_okP (F := F) (rd := none) (nt := fn.ntmps) hcall hyo 1 l.reverse r' 0 E1 c1 w1 a1 t1 M1 ct1 ⟨[o], by rw [List.drop_zero]; exact hops⟩ hr hs2 hR1 ?_
  intro E2 c2 a2 w2 hS2 hG2 hR2
  have hi : ops[0 + l.reverse.length]? = some o := by
    have : ops.toList[l.reverse.length]? = some o := by rw [hops]; simp
    simpa using this
  have ev := hR2.cx.ev hx
  obtain ⟨g', first, caps, hdv⟩ : ∃ g' first caps, x'.ev t2 = .f g' first caps := by
    cases hv : x'.ev t2 with
    | f g' first caps => exact ⟨g', first, caps, rfl⟩
    | _ =>
      exfalso
      simp only [hv] at hgo'
      unfold orElseR at hgo'
      split at hgo'
      · rename_i hN
        unfold whN at hN
        split at hN
        · rename_i e3 t3 d3 M3 ct3 hx3
          cases he : isEnd e3 with
          | false => rw [he] at hN; cases hN
          | true =>
            rw [he, cond_true] at hN
            unfold whN2 at hN
            split at hN <;> cases hN
        · cases hN
      · unfold whP at hgo'
        split at hgo'
        · unfold whP1 at hgo'
          split at hgo'
          · unfold whP2 at hgo'
            split at hgo' <;> cases hgo'
          · cases hgo'
        · cases hgo'
  have hbdv : bd c2 (.f g' first caps) := hdv ▸ ev.2
  have hge : a2.eval xo = .func (.func g') (concs E2 first).toArray (concs E2 caps).toArray := by rw [ev.1, hdv]; rfl
  have hm' : cl.args.map a2.eval = #[] := by
    have : cl.args = #[] := by apply Array.ext'; simpa using hcargs
    rw [this]; simp
  have hrun : (execOp a2.eval o).run P w2 = .ok (.defer { target := .fn (.func g') (concs E2 caps).toArray, args := (concs E2 first).toArray }) w2 := by
    simp only [execOp, hop, resolve, hcal, hm', hge, Deferred.ofValue, Sem.run_bind, Sem.run_pure, Result.andThen_ok, Array.append_empty]
  have hwt : Region.wanted o (yielded ops a2.tmps) = true := by unfold Region.wanted; rw [hgd]
  rw [List.range'_succ, List.range'_zero]
  simp only [wpOpsIn, hi, hwt, if_true]
  refine ⟨fun _ _ => trivial, ?_⟩
  rw [show (fence E2 none).round = none from rfl, Oper.semAt_none, hrun, Oper.uponIn_defer, hds]
  have hR3 : SR P [{ target := .fn (.func g') (concs E2 caps).toArray, args := (concs E2 first).toArray }] F none fn.ntmps E2 c2 w2 { a2 with defers := { target := .fn (.func g') (concs E2 caps).toArray, args := (concs E2 first).toArray } :: a2.defers } t2 [] M2 ct2 :=
    ⟨⟨hR2.cx.rel, hR2.cx.glob, hR2.cx.big, hR2.cx.tr, hR2.cx.bt⟩, hR2.fr, by show _ :: a2.defers = _; rw [hR2.df]; rfl, hR2.dc, hR2.sz, hR2.rd⟩
  simp only [hdv] at hgo'
  unfold orElseR at hgo'
  split at hgo'
  ·
    rename_i v0 M0 c0 hN
    injection hgo' with q1 q2 q3
    rw [q1, q2, q3] at hN
    unfold whN at hN
    split at hN
    rotate_left
    · cases hN
    rename_i e3 t3 d3 M3 ct3 hx3
    cases he : isEnd e3 with
    | false => rw [he] at hN; cases hN
    | true =>
    rw [he, cond_true] at hN
    unfold whN2 at hN
    split at hN
    rotate_left
    · cases hN
    rename_i M4 htk
    refine hex none f F post t2 [] M2 ct2 e3 t3 d3 M3 ct3 hx3 fn.ntmps pb ⟨10000, hpost⟩ E2 c2 w2 _ hR3 _ ?_
    rintro a4 w4 ⟨E4, c4, hS4, hG4, hR4⟩
    have key : LeavesInM Fence.wide 0 P fn a4.tmps (fun e w' => ∃ E' c', e = .returned (conc E' v) ∧ Stp P F E M c w E' M' c' w' ∧ bd c' v ∧ Grow c ct c' ct') a4.defers .returning w4 := by
      rw [hR4.df]
      refine leaves_okB (t := t3) d3 M3 w4 htk hR4.cx.rel fun w5 hS5 => ?_
      have hcx5 : Cx P E4 F M4 c4 w5 t3 a4 := ⟨hS5.rel, hR4.cx.glob, hR4.cx.big, hR4.cx.tr, hR4.cx.bt⟩
      refine wh_leave hm hΦ (gn := gn) (D := ⟨Nat.log2 fn.ntmps + 1, res, pre, r', x', post, path, fr, po, g, rc⟩) hgn hrc hres hN hS4.ext hbdv (bd_mono hS4.le _ hbdv) trivial hcx5 hR4.fr .returning .returning (by simp) rfl ?_ rfl ?_
      · intro c₀ cs hc₀
        refine .inr ⟨?_, rfl, rfl⟩
        simp [recoverD, hc₀]
      · intro E6 c6 w6 hS6 hG6 hb6
        exact ⟨E6, c6, rfl, hS1.trans (hS2.trans (hS4.trans (hS5.trans hS6))), hb6, hG1.trans (hG2.trans (hG4.trans hG6))⟩
    cases e3 with
    | nrm => exact key
    | ret => exact key
    | _ => cases he
  ·
    rename_i hN
    unfold whP at hgo'
    split at hgo'
    rotate_left
    · cases hgo'
    rename_i s3 hs3
    obtain ⟨t3, d3, M3, ct3⟩ := s3
    unfold whP1 at hgo'
    split at hgo'
    rotate_left
    · cases hgo'
    rename_i t4 M4 ct4 hs4
    unfold whP2 at hgo'
    split at hgo'
    rotate_left
    · cases hgo'
    rename_i pv M5 ct5 hpv
    refine path_ok hm hΦ (R := fun ch a' w' => ∃ E' c', ch = [{ v := conc E' pv, recovered := false }] ∧ Stp P F E2 M2 c2 w2 E' M5 c' w' ∧ Grow c2 ct2 c' ct5 ∧ bd c' pv ∧ SR P [{ target := .fn (.func g') (concs E2 caps).toArray, args := (concs E2 first).toArray }] F none fn.ntmps E' c' w' a' t4 [] M5 ct5) hs pb path hpp E2 c2 w2 _ t2 [] M2 ct2 hR3 hs3 ?_ _ ?_
    · intro E3 c3 a3 w3 hS3 hG3 hR3' Q hQ
      refine reg_pan hm hΦ hΨ hpr hs4 hpv hR3' ?_
      intro E4 c4 a4 w4 hS4 hG4 hb4 hR4
      exact hQ _ _ _ ⟨E4, c4, rfl, hS3.trans hS4, hG3.trans hG4, hb4, hR4⟩
    · rintro ch a4 w4 ⟨E4, c4, rfl, hS4, hG4, hb4, hR4⟩
      show LeavesInM Fence.wide 0 P fn a4.tmps _ a4.defers (.panicking _) w4
      rw [hR4.df]
      refine wh_leave hm hΦ (gn := gn) (D := ⟨Nat.log2 fn.ntmps + 1, res, pre, r', x', post, path, fr, po, g, rc⟩) hgn hrc hres hgo' hS4.ext hbdv (bd_mono hS4.le _ hbdv) hb4 hR4.cx hR4.fr (.panicking [{ v := conc E4 pv, recovered := false }]) (.panicking [{ v := conc E4 pv, recovered := true }]) (by simp) rfl ?_ rfl ?_
      · intro c₀ cs hc₀
        refine .inl ?_
        simp [recoverD, hc₀]
      · intro E6 c6 w6 hS6 hG6 hb6
        exact ⟨E6, c6, rfl, hS1.trans (hS2.trans (hS4.trans hS6)), hb6, hG1.trans (hG2.trans (hG4.trans hG6))⟩
def updP (Ψ : Nat → Option PF) (f : Nat) (g : PF) : Nat → Option PF := fun i => bif Nat.beq i f then some g else Ψ i
theorem updP_ok {P : Program} {Ψ : Nat → Option PF} (h : PsiOk P Ψ) {f : Nat} {g : PF} (hg : PanOk P f g) : PsiOk P (updP Ψ f g) := by
  intro i x hi
  unfold updP at hi
  cases hb : Nat.beq i f with
  | false => rw [hb] at hi; exact h i x hi
  | true =>
    rw [hb] at hi
    obtain rfl := (Option.some.inj hi).symm
    rw [Nat.eq_of_beq_eq_true hb]; exact hg
def psi0 : Nat → Option PF := fun _ => none
theorem psi0_ok {P : Program} : PsiOk P psi0 := fun _ _ h => by cases h
def isPs : List V → Bool
  | [.p _ _] => true
  | _ => false
noncomputable def elseP (Φ : Nat → Option CF) (fuel f : Nat) (q : List V → Bool) (g : RO → List V → Mem → Nat → RC) : RO → List V → Mem → Nat → RC := fun F args M ct => bif q args then g F args M ct else callC (exec Φ fuel) F f args M ct (Φ f)
theorem orc_elseP {P : Program} (hm : P.follows .mixedOrders = true) {Φ : Nat → Option CF} (hΦ : PhiOk P Φ) {fuel f : Nat} {q : List V → Bool} {g : RO → List V → Mem → Nat → RC} (hg : OrcOk P f g) : OrcOk P f (elseP Φ fuel f q g) := by
  intro F args M ct v N ct' h
  unfold elseP at h
  cases hq : q args with
  | true =>
    rw [hq, cond_true] at h
    exact hg F args M ct v N ct' h
  | false =>
    rw [hq, cond_false] at h
    exact callOk_of (rd := none) (fn := 0) (F₀ := []) hΦ (exec_sound hm hΦ fuel) F f args M ct v N ct' h
end Go.Proofs.YtcfhedcdhibobaaGreatDoor.Ev
