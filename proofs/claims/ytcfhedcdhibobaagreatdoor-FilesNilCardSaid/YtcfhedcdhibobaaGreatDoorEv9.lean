/- What is proved here: pieces of the evaluator's soundness: if the evaluator comes to a value, the model's run comes to it, for every world and tape; no conditions beyond the hypotheses of each theorem. -/
import Derived.Test.YtcfhedcdhibobaaGreatDoorEv8
import Derived.Lib.LaidTab
import GoSem.ClaimJoined
import Derived.DefersIn
set_option linter.unusedSimpArgs false
set_option linter.unusedVariables false
namespace Go.Proofs.YtcfhedcdhibobaaGreatDoor.Ev
open Go
structure SubMem (F0 : RO) (M0 : Mem) (F : RO) (M : Mem) : Prop where
  m : ∀ b blk, M0.get b = some blk → M.get b = some blk
  f : ∀ b blk, roGet F0 b = some blk → look F M b = some blk
  ap : ∀ b, (roGet F0 b).isSome → M0.get b = none
theorem SubMem.look {F0 : RO} {M0 : Mem} {F : RO} {M : Mem} (h : SubMem F0 M0 F M) {b : Nat} {blk : Blk} (hb : look F0 M0 b = some blk) : look F M b = some blk := by
  cases hm : M0.get b with
  | some x =>
    rw [look_some_M hm] at hb
    obtain rfl := Option.some.inj hb
    exact look_some_M (h.m b _ hm)
  | none =>
    rw [look_none_M hm] at hb
    exact h.f b blk hb
theorem SubMem.rel {P : Program} {E : Env} {F0 F : RO} {M0 M : Mem} {c : Nat → Prop} {w : World} (h : SubMem F0 M0 F M) (hr : Rel P E F M c w) : Rel P E F0 M0 c w where
  has := fun b blk hb => hr.has b blk (h.look hb)
  inj := by
    intro b b' h1 h2 e
    obtain ⟨x, hx⟩ := Option.isSome_iff_exists.1 h1
    obtain ⟨y, hy⟩ := Option.isSome_iff_exists.1 h2
    exact hr.inj b b' (by rw [h.look hx]; rfl) (by rw [h.look hy]; rfl) e
  apart := h.ap
theorem Rel.lt {P : Program} {E : Env} {F : RO} {M : Mem} {c : Nat → Prop} {w : World} (h : Rel P E F M c w) {b : Nat} (hb : (look F M b).isSome) : E.ρ b < w.heap.size := by
  obtain ⟨x, hx⟩ := Option.isSome_iff_exists.1 hb
  obtain ⟨_, _, o', ho', _⟩ := h.has b x hx
  exact (Array.getElem?_eq_some_iff.1 ho').1
theorem Stp.framed {P : Program} {E E' : Env} {F0 F : RO} {M0 M M1 N : Mem} {c c' : Nat → Prop} {w w' : World} (hsub : SubMem F0 M0 F M) (hr : Rel P E F M c w) (hS : Stp P F0 E M0 c w E' M1 c' w')
    (hN : ∀ b blk, N.get b = some blk → M1.get b = some blk ∨ (M.get b = some blk ∧ M0.get b = none)) : Stp P F E M c w E' N c' w' := by
  have old : ∀ b blk, look F M b = some blk → M0.get b = none → c b ∧ bdBlk c blk ∧ E'.ρ b = E.ρ b ∧ ∃ o, w'.heap[E'.ρ b]? = some o ∧ BlkRel P E' b blk o := by
    intro b blk hb h0
    obtain ⟨hcb, hbd, o, ho, hB⟩ := hr.has b blk hb
    have e := hS.ext.ρ b hcb
    refine ⟨hcb, hbd, e, o, ?_, hB.ext hS.ext hcb hbd⟩
    rw [e, hS.frame _ (Array.getElem?_eq_some_iff.1 ho).1, ho]
    intro b0 hb0 e0
    obtain ⟨x0, hx0⟩ := Option.isSome_iff_exists.1 hb0
    have : b0 = b := hr.inj b0 b (by rw [look_some_M (hsub.m b0 x0 hx0)]; rfl) (by rw [hb]; rfl) e0
    subst this
    rw [h0] at hx0; cases hx0
  have new_old : ∀ b b' blk', (M1.get b).isSome → look F M b' = some blk' → M0.get b' = none → E'.ρ b ≠ E.ρ b' := by
    intro b b' blk' h1 h2 h0 e
    rcases hS.own b h1 with ⟨b0, hb0, e0⟩ | hge
    · obtain ⟨x0, hx0⟩ := Option.isSome_iff_exists.1 hb0
      have : b0 = b' := hr.inj b0 b' (by rw [look_some_M (hsub.m b0 x0 hx0)]; rfl) (by rw [h2]; rfl) (e0.trans e)
      subst this
      rw [h0] at hx0; cases hx0
    · have := hr.lt (b := b') (by rw [h2]; rfl)
      omega
  have fM0 : ∀ b, (roGet F b).isSome → M0.get b = none := by
    intro b hb
    cases h : M0.get b with
    | none => rfl
    | some x => have := hr.apart b hb; rw [hsub.m b x h] at this; cases this
  have fM : ∀ b blk, roGet F b = some blk → look F M b = some blk := fun b blk hb => by rw [look_none_M (hr.apart b (by rw [hb]; rfl))]; exact hb
  have nocommon : ∀ b blk', look F M b = some blk' → M0.get b = none → M1.get b = none := by
    intro b blk' h2 h0
    cases h1 : M1.get b with
    | none => rfl
    | some x =>
      exfalso
      have := new_old b b blk' (by rw [h1]; rfl) h2 h0
      exact this (old b blk' h2 h0).2.2.1
  have lookN : ∀ b blk, look F N b = some blk → M1.get b = some blk ∨ (look F M b = some blk ∧ M0.get b = none) := by
    intro b blk hb
    cases h : N.get b with
    | some x =>
      rw [look_some_M h] at hb
      obtain rfl := Option.some.inj hb
      rcases hN b _ h with h1 | ⟨h1, h2⟩
      · exact .inl h1
      · exact .inr ⟨look_some_M h1, h2⟩
    | none =>
      rw [look_none_M h] at hb
      exact .inr ⟨fM b blk hb, fM0 b (by rw [hb]; rfl)⟩
  refine ⟨hS.ext, hS.le, ⟨?_, ?_, ?_⟩, ?_, ?_, hS.size, hS.os, hS.output, hS.tape⟩
  · intro b blk hb
    rcases lookN b blk hb with h1 | ⟨h1, h2⟩
    · exact hS.rel.has b blk (look_some_M h1)
    · obtain ⟨a1, a2, _, a3⟩ := old b blk h1 h2
      exact ⟨hS.le b a1, bdBlk_mono hS.le _ a2, a3⟩
  · intro b b' h1 h2 e
    obtain ⟨x, hx⟩ := Option.isSome_iff_exists.1 h1
    obtain ⟨y, hy⟩ := Option.isSome_iff_exists.1 h2
    rcases lookN b x hx with g1 | ⟨g1, g0⟩
    · rcases lookN b' y hy with k1 | ⟨k1, k0⟩
      · exact hS.rel.inj b b' (look_isSome_M (by rw [g1]; rfl)) (look_isSome_M (by rw [k1]; rfl)) e
      · exfalso
        exact new_old b b' y (by rw [g1]; rfl) k1 k0 (e.trans (old b' y k1 k0).2.2.1)
    · rcases lookN b' y hy with k1 | ⟨k1, k0⟩
      · exfalso
        exact new_old b' b x (by rw [k1]; rfl) g1 g0 (e.symm.trans (old b x g1 g0).2.2.1)
      · refine hr.inj b b' (by rw [g1]; rfl) (by rw [k1]; rfl) ?_
        rw [← (old b x g1 g0).2.2.1, ← (old b' y k1 k0).2.2.1]; exact e
  · intro b hb
    obtain ⟨x, hx⟩ := Option.isSome_iff_exists.1 hb
    cases h : N.get b with
    | none => rfl
    | some y =>
      exfalso
      have := nocommon b x (fM b x hx) (fM0 b hb)
      rcases hN b y h with h1 | ⟨h1, h2⟩
      · rw [this] at h1; cases h1
      · have := hr.apart b hb; rw [h1] at this; cases this
  · intro b hb
    obtain ⟨x, hx⟩ := Option.isSome_iff_exists.1 hb
    rcases hN b x hx with h1 | ⟨h1, h2⟩
    · rcases hS.own b (by rw [h1]; rfl) with ⟨b0, hb0, e0⟩ | hge
      · obtain ⟨x0, hx0⟩ := Option.isSome_iff_exists.1 hb0
        exact .inl ⟨b0, by rw [hsub.m b0 x0 hx0]; rfl, e0⟩
      · exact .inr hge
    · exact .inl ⟨b, by rw [h1]; rfl, ((old b x (look_some_M h1) h2).2.2.1).symm⟩
  · intro r hr' hn
    refine hS.frame r hr' fun b hb => ?_
    obtain ⟨x, hx⟩ := Option.isSome_iff_exists.1 hb
    exact hn b (by rw [hsub.m b x hx]; rfl)
def upd (Φ : Nat → Option CF) (f : Nat) (cf : CF) : Nat → Option CF := fun k => if k = f then some cf else Φ k
theorem upd_ok {P : Program} {Φ : Nat → Option CF} (hΦ : PhiOk P Φ) {f : Nat} {g : RO → List V → Mem → Nat → RC} (hg : OrcOk P f g) : PhiOk P (upd Φ f (.orc g)) := by
  intro k cf hk
  unfold upd at hk
  split at hk
  · rename_i e
    subst e
    obtain rfl := Option.some.inj hk
    exact hg
  · exact hΦ k cf hk
theorem orc_closed {P : Program} (hm : P.follows .mixedOrders = true) {Φ : Nat → Option CF} (hΦ : PhiOk P Φ) {fuel f : Nat} (h : isT (runF Φ fuel [] f []) = true) :
    OrcOk P f (fun _ args M ct => match args with | [] => .k (.b true) M ct | _ => .f) := by
  intro F args M ct v N ct' hg E c w hr hglob hbig hf ha
  cases args with
  | cons a r => cases hg
  | nil =>
    have hg' : RC.k (.b true) M ct = .k v N ct' := hg
    injection hg' with e1 e2 e3
    subst e1 e2 e3
    obtain ⟨M', ct2, hk⟩ := isT_some h
    obtain ⟨fn, h1, h2, h3, hC⟩ := callOk_of (rd := none) (fn := 0) (F₀ := []) hΦ (exec_sound hm hΦ fuel) [] f [] .e 1000 (.b true) M' ct2 hk E0 c0 w rel_none (fun g _ => ⟨rfl, rfl⟩) (fun g hg => hg) (fun b hb hc => Nat.lt_irrefl _ (Nat.lt_of_lt_of_le hc hb)) trivial
    refine ⟨fn, h1, h2, h3, hC.mono ?_⟩
    rintro e w' ⟨E', c', rfl, hS, hb, hG⟩
    have hfr : ∀ r, r < w.heap.size → w'.heap[r]? = w.heap[r]? := fun r hr' => hS.frame r hr' (fun b hb => by cases hb)
    have hhas : ∀ b blk, look F M b = some blk → c b ∧ bdBlk c blk ∧ ∃ o, w'.heap[E.ρ b]? = some o ∧ BlkRel P E b blk o := by
      intro b blk hb
      obtain ⟨g1, g2, o, ho, g3⟩ := hr.has b blk hb
      exact ⟨g1, g2, o, by rw [hfr _ (Array.getElem?_eq_some_iff.1 ho).1]; exact ho, g3⟩
    exact ⟨E, c, rfl, ⟨.refl c E, fun _ h => h, ⟨hhas, hr.inj, hr.apart⟩, fun b hb => .inl ⟨b, hb, rfl⟩, fun r hr' _ => hfr r hr', hS.size, hS.os, hS.output, hS.tape⟩, trivial, .refl _ _⟩
end Go.Proofs.YtcfhedcdhibobaaGreatDoor.Ev
namespace Go.Proofs.YtcfhedcdhibobaaGreatDoor.Ev
open Go
section
variable {Φ : Nat → Option CF} {rd : Option Nat} {fn : Nat} {F : RO}
noncomputable abbrev K (Φ : Nat → Option CF) (rd : Option Nat) (fn : Nat) (F : RO) : Kn := .mk Φ (den Φ) rd fn F
def Wp (c : CC) (k : Kn) (s : St) (Q : Ex → St → Prop) : Prop := ∃ e s', execC c k s = .k e s' ∧ Q e s'
theorem Wp.mono {c : CC} {k : Kn} {s : St} {Q Q' : Ex → St → Prop} (h : Wp c k s Q) (hq : ∀ e s', Q e s' → Q' e s') : Wp c k s Q' := by
  obtain ⟨e, s', h1, q⟩ := h
  exact ⟨e, s', h1, hq e s' q⟩
def QR.to {β : Type} (r : QR) (f : β) (g : V → β) : β := match r with
  | .f => f
  | .v x => g x
  | .r x _ => g x
noncomputable def Q (n : Nat) : Pos := posOf n
end
end Go.Proofs.YtcfhedcdhibobaaGreatDoor.Ev
namespace Go.Proofs.YtcfhedcdhibobaaGreatDoor.Ev
open Go
section
variable {Φ : Nat → Option CF} {rd : Option Nat} {fn : Nat} {F : RO}
end
end Go.Proofs.YtcfhedcdhibobaaGreatDoor.Ev
namespace Go.Proofs.YtcfhedcdhibobaaGreatDoor.Ev
open Go
def tabVs (k : IntKind) : List Int → List V
  | [] => []
  | z :: r => .i k z :: tabVs k r
noncomputable def tabBlk (ty : Nat) (k : IntKind) (zs : List Int) : Blk := .cells ty zs.length false zs.length true [] (listTr (tabVs k zs) 0 .e)
abbrev Tab := Nat × IntKind × List Int
noncomputable def tabF : List Tab → (Nat → Nat) → RO
  | [], _ => []
  | (g, k, zs) :: r, ty => (g, tabBlk (ty g) k zs) :: tabF r ty
def TabAt (W : World) (t : Tab) : Prop := ∃ ty fr, W.heap[t.1]? = some (.cells (t.2.2.map fun z => Value.int t.2.1 z).toArray ty fr)
theorem tabVs_map (k : IntKind) (zs : List Int) : tabVs k zs = zs.map (V.i k) := by
  induction zs with
  | nil => rfl
  | cons z r ih => rw [tabVs, ih]; rfl
theorem tab_rel {P : Program} {g ty : Nat} {k : IntKind} {zs : List Int} {fr : Nat × Nat} : BlkRel P E0 g (tabBlk ty k zs) (.cells (zs.map fun z => Value.int k z).toArray ty fr) := by
  refine ⟨_, fr, rfl, ?_, ?_, ?_, ?_⟩
  · intro j v hv
    rw [cell_eq] at hv
    split at hv
    · rename_i hj
      rw [listTr_get] at hv
      have hlen : (tabVs k zs).length = zs.length := by rw [tabVs_map]; simp
      rw [if_pos (by omega)] at hv
      rw [tabVs_map] at hv
      simp only [Nat.sub_zero, List.getElem?_map] at hv
      rw [List.getElem?_eq_getElem hj] at hv
      simp only [Option.map_some] at hv
      obtain rfl := Option.some.inj hv
      show (zs.map fun z => Value.int k z).toArray[0 + j]? = _
      simp [conc, hj]
    · cases hv
  · show (zs.map fun z => Value.int k z).toArray.size = 0 + zs.length + 0 * _
    simp
  · intro o h1 h2
    have h1' : 0 + zs.length ≤ o := h1
    have h2' : o < zs.length := by simpa using h2
    omega
  · intro h; cases h
theorem tab_bd {c : Nat → Prop} {ty : Nat} {k : IntKind} {zs : List Int} : bdBlk c (tabBlk ty k zs) := by
  intro j v hv
  rw [cell_eq] at hv
  split at hv
  · rename_i hj
    rw [listTr_get] at hv
    have hlen : (tabVs k zs).length = zs.length := by rw [tabVs_map]; simp
    rw [if_pos (by omega)] at hv
    rw [tabVs_map] at hv
    simp only [Nat.sub_zero, List.getElem?_map] at hv
    rw [List.getElem?_eq_getElem hj] at hv
    simp only [Option.map_some] at hv
    obtain rfl := Option.some.inj hv
    trivial
  · cases hv
theorem tabF_get {L : List Tab} {ty : Nat → Nat} {b : Nat} {blk : Blk} (h : roGet (tabF L ty) b = some blk) : ∃ t ∈ L, t.1 = b ∧ blk = tabBlk (ty b) t.2.1 t.2.2 := by
  induction L with
  | nil => cases h
  | cons t r ih =>
    obtain ⟨g, k, zs⟩ := t
    have h' : Bool.rec (motive := fun _ => Option Blk) (roGet (tabF r ty) b) (some (tabBlk (ty g) k zs)) (Nat.beq g b) = some blk := h
    rw [bb, beqN] at h'
    by_cases e : g = b
    · rw [if_pos (by simpa using e)] at h'
      subst e
      exact ⟨_, List.mem_cons_self .., rfl, (Option.some.inj h').symm⟩
    · rw [if_neg (by simpa using e)] at h'
      obtain ⟨t, ht, h1, h2⟩ := ih h'
      exact ⟨t, List.mem_cons_of_mem _ ht, h1, h2⟩
theorem rel_tabs {P : Program} {W : World} {L : List Tab} (h : ∀ t ∈ L, t.1 < 1000 ∧ TabAt W t) : ∃ ty, Rel P E0 (tabF L ty) .e c0 W := by
  have hty : ∃ ty : Nat → Nat, ∀ b, ∀ t ∈ L, t.1 = b → ∃ fr, W.heap[b]? = some (.cells (t.2.2.map fun z => Value.int t.2.1 z).toArray (ty b) fr) := by
    refine ⟨fun b => match W.heap[b]? with | some (.cells _ ty _) => ty | _ => 0, fun b t ht e => ?_⟩
    subst e
    obtain ⟨_, ty, fr, hh⟩ := h t ht
    refine ⟨fr, ?_⟩
    simp only [hh]
  obtain ⟨ty, hty⟩ := hty
  refine ⟨ty, ⟨?_, fun b b' _ _ e => e, fun b hb => rfl⟩⟩
  intro b blk hb
  rw [look_none_M (show (Tr.e : Mem).get b = none from rfl)] at hb
  obtain ⟨t, ht, e, rfl⟩ := tabF_get hb
  subst e
  obtain ⟨fr, hh⟩ := hty _ t ht rfl
  exact ⟨(h t ht).1, tab_bd, _, hh, tab_rel⟩
theorem closed_calls_tabs {P : Program} (hm : P.follows .mixedOrders = true) {Φ : Nat → Option CF} (hΦ : PhiOk P Φ) {fuel f : Nat} {L : List Tab} (h : ∀ ty, isT (runF Φ fuel (tabF L ty) f []) = true) {W : World} (hL : ∀ t ∈ L, t.1 < 1000 ∧ TabAt W t) :
    Calls P f #[] W fun e W' => e = .returned (.bool true) ∧ ∀ may, W.keptBut W' may := by
  obtain ⟨ty, hr⟩ := rel_tabs (P := P) hL
  exact closed_calls hm hΦ (h ty) hr
end Go.Proofs.YtcfhedcdhibobaaGreatDoor.Ev
namespace Go.Proofs.YtcfhedcdhibobaaGreatDoor.Ev
open Go
def over : List V → Nat → List V → List V
  | l, _, [] => l
  | l, i, v :: r => over (l.set i v) (i + 1) r
section
variable {Φ : Nat → Option CF} {rd : Option Nat} {fn : Nat} {F : RO}
end
end Go.Proofs.YtcfhedcdhibobaaGreatDoor.Ev
namespace Go.Proofs.YtcfhedcdhibobaaGreatDoor.Ev
open Go
noncomputable def dfL (Φ : Nat → Option CF) (fuel fn : Nat) (F : RO) : List CC → St → Rs
  | [], s => .k .nrm s
  | c :: l, s => match exec Φ fuel none fn F c s with
    | .k .nrm s1 => dfL Φ fuel fn F l s1
    | r => r
section
variable {P : Program} {E E' : Env} {F : RO} {M M' : Mem} {c c' : Nat → Prop} {ct ct' nt : Nat} {w w' : World} {t t' : T} {d d' : List Nat} {a : Act} {rd : Option Nat} {Bd : List Deferred}
theorem seq_okP {k : Kn} (hcall : CallOk P k) (hy : YieldOk P k) {ops : Array Oper} {Q : Exit → Act → World → Prop} (m : Nat) : ∀ (l : List Oper) (cos : List CO) (i : Nat) (E : Env) (c : Nat → Prop) (w : World) (a : Act) (t : T) (M : Mem) (ct : Nat), (∃ l2, ops.toList.drop i = l ++ l2) → compOs P nt ops l = some cos →
    seqOps cos (knF k F) (.mk t d M ct) = some (.mk t' d' M' ct') → SR P Bd F rd nt E c w a t d M ct →
    (∀ E' c' a' w', Stp P F E M c w E' M' c' w' → Grow c ct c' ct' → SR P Bd F rd nt E' c' w' a' t' d' M' ct' → wpOpsIn (fence E' rd) 0 P ops Q (List.range' (i + l.length) m) a' w') → wpOpsIn (fence E rd) 0 P ops Q (List.range' i (l.length + m)) a w
  | [], cos, i, E, c, w, a, t, M, ct, hl, hc, hs, h, hQ => by
    obtain rfl := Option.some.inj hc
    have hs' : some (St.mk t d M ct) = some (.mk t' d' M' ct') := hs
    injection hs' with hs'
    injection hs' with e1 e2 e3 e4
    subst e1 e2 e3 e4
    have := hQ E c a w (.refl h.cx.rel) (.refl _ _) h
    simpa using this
  | o :: l, cos, i, E, c, w, a, t, M, ct, ⟨l2, hl⟩, hc, hs, h, hQ => by
    rw [compOs] at hc
    split at hc
    · rename_i co cr h1 h2
      obtain rfl := Option.some.inj hc
      have hi : ops[i]? = some o := by
        have : (ops.toList.drop i)[0]? = some o := by rw [hl]; rfl
        simpa using this
      have hl' : ops.toList.drop (i + 1) = l ++ l2 := by
        rw [← List.drop_drop, hl]; rfl
      obtain ⟨hd, g, op, rfl, hg, hop⟩ := compO_some h1
      rw [seqOps_cons, seqOp_eq] at hs
      rw [List.length_cons, show l.length + 1 + m = (l.length + m) + 1 by omega, List.range'_succ]
      simp only [wpOpsIn, hi]
      rw [guard_ok h.cx.tr hg]
      have hlen : i + (o :: l).length = i + 1 + l.length := by rw [List.length_cons]; omega
      rw [hlen] at hQ
      by_cases hw : wanted t g = true
      · rw [if_pos hw] at hs
        rw [if_pos hw]
        obtain ⟨s1, hs1, hs2⟩ := Option.bind_eq_some_iff.1 hs
        rcases hop with hop | rfl
        · obtain ⟨v, M1, ct1, rfl, hO⟩ := sop_ok hcall hy h hd hop hs1
          refine hO _ _ fun E1 c1 w1 hS hG hb => ?_
          have h1 := (h.stp hS hG).put hd rfl hb
          rw [← fence_ext hS.ext h.rd]
          exact seq_okP hcall hy m l cr (i + 1) E1 c1 w1 _ _ M1 ct1 ⟨l2, hl'⟩ h2 hs2 h1 fun E' c' a' w' hS' hG' hR' => hQ E' c' a' w' (hS.trans hS') (hG.trans hG') hR'
        · cases (show (none : Option St) = some s1 from hs1)
      · rw [if_neg hw] at hs
        rw [if_neg hw]
        refine ⟨fun _ _ => trivial, ?_⟩
        have h1 := h.put hd (v := undef) (val := Go.undef) rfl trivial
        exact seq_okP hcall hy m l cr (i + 1) E c w _ _ M ct ⟨l2, hl'⟩ h2 hs h1 hQ
    · cases hc
end
end Go.Proofs.YtcfhedcdhibobaaGreatDoor.Ev
