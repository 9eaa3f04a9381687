/- What is proved here: pieces of the evaluator's soundness: if the evaluator comes to a value, the model's run comes to it, for every world and tape; no conditions beyond the hypotheses of each theorem. -/
import Derived.Test.YtffpeieapadocaaDoorEv7
import Derived.Lib.LaidTab
import GoSem.ClaimJoined
set_option linter.unusedSimpArgs false
set_option linter.unusedVariables false
namespace Go.Proofs.YtffpeieapadocaaDoor.Ev
open Go

/-! tables that are laid: package variables that hold known integers -/
def tabVs (k : IntKind) : List Int → List V
  | [] => []
  | z :: r => .i k z :: tabVs k r
noncomputable def tabBlk (ty : Nat) (k : IntKind) (zs : List Int) : Blk := .cells ty zs.length false zs.length true [] (listTr (tabVs k zs) 0 .e)
/-- a variable's number, its cells -/
abbrev Tab := Nat × IntKind × List Int
noncomputable def tabF : List Tab → (Nat → Nat) → RO
  | [], _ => []
  | (g, k, zs) :: r, ty => (g, tabBlk (ty g) k zs) :: tabF r ty

/-- the variable's cells in memory -/
def TabAt (W : World) (t : Tab) : Prop := ∃ ty fr, W.heap[t.1]? = some (.cells (t.2.2.map fun z => Value.int t.2.1 z).toArray ty fr)

theorem tabVs_map (k : IntKind) (zs : List Int) : tabVs k zs = zs.map (V.i k) := by
  induction zs with
  | nil => rfl
  | cons z r ih => rw [tabVs, ih]; rfl

theorem tab_rel {P : Program} {g ty : Nat} {k : IntKind} {zs : List Int} {fr : Nat × Nat} : BlkRel P E0 g (tabBlk ty k zs) (.cells (zs.map fun z => Value.int k z).toArray ty fr) := by
  refine ⟨_, fr, rfl, ?_, ?_, ?_, ?_⟩
  · intro j v hv
    rw [cell_eq] at hv
    split at hv
    · rename_i hj
      rw [listTr_get] at hv
      have hlen : (tabVs k zs).length = zs.length := by rw [tabVs_map]; simp
      rw [if_pos (by omega)] at hv
      rw [tabVs_map] at hv
      simp only [Nat.sub_zero, List.getElem?_map] at hv
      rw [List.getElem?_eq_getElem hj] at hv
      simp only [Option.map_some] at hv
      obtain rfl := Option.some.inj hv
      show (zs.map fun z => Value.int k z).toArray[0 + j]? = _
      simp [conc, hj]
    · cases hv
  · show (zs.map fun z => Value.int k z).toArray.size = 0 + zs.length + 0 * _
    simp
  · intro o h1 h2
    have h1' : 0 + zs.length ≤ o := h1
    have h2' : o < zs.length := by simpa using h2
    omega
  · intro h; cases h

theorem tab_bd {c : Nat → Prop} {ty : Nat} {k : IntKind} {zs : List Int} : bdBlk c (tabBlk ty k zs) := by
  intro j v hv
  rw [cell_eq] at hv
  split at hv
  · rename_i hj
    rw [listTr_get] at hv
    have hlen : (tabVs k zs).length = zs.length := by rw [tabVs_map]; simp
    rw [if_pos (by omega)] at hv
    rw [tabVs_map] at hv
    simp only [Nat.sub_zero, List.getElem?_map] at hv
    rw [List.getElem?_eq_getElem hj] at hv
    simp only [Option.map_some] at hv
    obtain rfl := Option.some.inj hv
    trivial
  · cases hv

theorem tabF_get {L : List Tab} {ty : Nat → Nat} {b : Nat} {blk : Blk} (h : roGet (tabF L ty) b = some blk) : ∃ t ∈ L, t.1 = b ∧ blk = tabBlk (ty b) t.2.1 t.2.2 := by
  induction L with
  | nil => cases h
  | cons t r ih =>
    obtain ⟨g, k, zs⟩ := t
    have h' : Bool.rec (motive := fun _ => Option Blk) (roGet (tabF r ty) b) (some (tabBlk (ty g) k zs)) (Nat.beq g b) = some blk := h
    rw [bb, beqN] at h'
    by_cases e : g = b
    · rw [if_pos (by simpa using e)] at h'
      subst e
      exact ⟨_, List.mem_cons_self .., rfl, (Option.some.inj h').symm⟩
    · rw [if_neg (by simpa using e)] at h'
      obtain ⟨t, ht, h1, h2⟩ := ih h'
      exact ⟨t, List.mem_cons_of_mem _ ht, h1, h2⟩

theorem rel_tabs {P : Program} {W : World} {L : List Tab} (h : ∀ t ∈ L, t.1 < 1000 ∧ TabAt W t) : ∃ ty, Rel P E0 (tabF L ty) .e c0 W := by
  have hty : ∃ ty : Nat → Nat, ∀ b, ∀ t ∈ L, t.1 = b → ∃ fr, W.heap[b]? = some (.cells (t.2.2.map fun z => Value.int t.2.1 z).toArray (ty b) fr) := by
    refine ⟨fun b => match W.heap[b]? with | some (.cells _ ty _) => ty | _ => 0, fun b t ht e => ?_⟩
    subst e
    obtain ⟨_, ty, fr, hh⟩ := h t ht
    refine ⟨fr, ?_⟩
    simp only [hh]
  obtain ⟨ty, hty⟩ := hty
  refine ⟨ty, ⟨?_, fun b b' _ _ e => e, fun b hb => rfl⟩⟩
  intro b blk hb
  rw [look_none_M (show (Tr.e : Mem).get b = none from rfl)] at hb
  obtain ⟨t, ht, e, rfl⟩ := tabF_get hb
  subst e
  obtain ⟨fr, hh⟩ := hty _ t ht rfl
  exact ⟨(h t ht).1, tab_bd, _, hh, tab_rel⟩

/-- the row's list of laid variables gives the tables -/
theorem tabAt_of_vars {P : Program} {W : World} {name : String} {k : IntKind} {zs : List Int} {g : Nat} {t e : TypeId} {n : Nat}
    (hg : P.globalNamed name = some g) (hty : (P.globals[g]?).map (·.type) = some t) (ht : P.underlying t = some (.array n e)) (he : P.underlying e = some (.int k)) (hce : P.cellsOf e = 1) (hct : P.cellsOf t = n) :
    ∀ {laid : List (String × DataW Unit)} {ps : List MemPlace}, (name, Lib.tabData k zs) ∈ laid → DataW.LaidVars P W laid ps → TabAt W (g, k, zs)
  | x :: r, ps, hm, h => by
    obtain ⟨g', t', cs, fuel, p, q, hg', ht', hvar, hd, hr, _⟩ := h
    rcases List.mem_cons.1 hm with e1 | hm'
    · subst e1
      obtain rfl := Option.some.inj (hg.symm.trans hg')
      obtain rfl := Option.some.inj (hty.symm.trans ht')
      have hcs := Lib.cells_of_tab ht he hce hct hd
      unfold World.var? at hvar
      rw [hg] at hvar
      simp only [Option.bind_some] at hvar
      split at hvar
      · rename_i cs' ty fr hh
        obtain rfl := Option.some.inj hvar
        refine ⟨ty, fr, ?_⟩
        show W.heap[g]? = _
        rw [hh, ← hcs]
      · cases hvar
    · exact tabAt_of_vars hg hty ht he hce hct hm' hr

theorem tabAt_of {P : Program} {W : World} {name : String} {k : IntKind} {zs : List Int} {g : Nat} {t e : TypeId} {n : Nat}
    (hg : P.globalNamed name = some g) (hty : (P.globals[g]?).map (·.type) = some t) (ht : P.underlying t = some (.array n e)) (he : P.underlying e = some (.int k)) (hce : P.cellsOf e = 1) (hct : P.cellsOf t = n)
    {laid : List (String × DataW Unit)} (hm : (name, Lib.tabData k zs) ∈ laid) (h : laidMet P laid W) : TabAt W (g, k, zs) := by
  obtain ⟨ps, hv, _⟩ := h
  exact tabAt_of_vars hg hty ht he hce hct hm hv

/-- what a closed run over tables says -/
theorem closed_calls_tabs {P : Program} (hm : P.follows .mixedOrders = true) {Φ : Nat → Option CF} (hΦ : PhiOk P Φ) {fuel f : Nat} {L : List Tab} (h : ∀ ty, isT (runF Φ fuel (tabF L ty) f []) = true) {W : World} (hL : ∀ t ∈ L, t.1 < 1000 ∧ TabAt W t) :
    Calls P f #[] W fun e W' => e = .returned (.bool true) ∧ ∀ may, W.keptBut W' may := by
  obtain ⟨ty, hr⟩ := rel_tabs (P := P) hL
  exact closed_calls hm hΦ (h ty) hr

/-! the tables as a contract sees them -/
noncomputable def tabEqV (k : IntKind) (z : Int) : V → Bool
  | .i k' z' => sameK k k' && eqI z z'
  | _ => false
noncomputable def tabCells (n : Nat) (d : List V) (c : T) (k : IntKind) : List Int → Nat → Bool
  | [], i => Nat.beq i n
  | z :: r, i => match cell n d c i with
    | some v => tabEqV k z v && tabCells n d c k r (Nat.succ i)
    | none => false
noncomputable def tabIn (F : RO) (t : Tab) : Bool := match roGet F t.1 with
  | some (.cells _ n false fz true d c) => Nat.beq fz n && tabCells n d c t.2.1 t.2.2 0
  | _ => false
noncomputable def tabsIn (F : RO) : List Tab → Bool
  | [] => true
  | t :: r => Nat.blt t.1 1000 && (tabIn F t && tabsIn F r)

theorem tabCells_get {n : Nat} {d : List V} {c : T} {k : IntKind} : ∀ {zs : List Int} {i : Nat}, tabCells n d c k zs i = true → i + zs.length = n ∧ ∀ j z, zs[j]? = some z → cell n d c (i + j) = some (.i k z)
  | [], i, h => by
    have : decide (i = n) = true := by rw [← beqN]; exact h
    exact ⟨by simpa using this, fun j z hz => by simp at hz⟩
  | z :: r, i, h => by
    unfold tabCells at h
    split at h
    · rename_i v hv
      rw [Bool.and_eq_true] at h
      obtain ⟨h1, h2⟩ := h
      obtain ⟨h3, h4⟩ := tabCells_get h2
      have hve : v = .i k z := by
        unfold tabEqV at h1
        split at h1
        · rename_i k' z'
          rw [Bool.and_eq_true, sameK_iff, eqI_iff] at h1
          have a1 := of_decide_eq_true h1.1
          have a2 := of_decide_eq_true h1.2
          rw [a1, a2]
        · cases h1
      refine ⟨by simp only [List.length_cons]; omega, fun j z' hz => ?_⟩
      cases j with
      | zero => simp at hz; subst hz; rw [← hve]; exact hv
      | succ j =>
        rw [show i + (j + 1) = Nat.succ i + j by omega]
        exact h4 j z' (by simpa using hz)
    · cases h

theorem tab_cell {ty : Nat} {k : IntKind} {zs : List Int} {j : Nat} {v : V} (h : cell zs.length [] (listTr (tabVs k zs) 0 .e) j = some v) : ∃ z, zs[j]? = some z ∧ v = .i k z := by
  rw [cell_eq] at h
  split at h
  · rename_i hj
    rw [listTr_get] at h
    have hlen : (tabVs k zs).length = zs.length := by rw [tabVs_map]; simp
    rw [if_pos (by omega)] at h
    rw [tabVs_map] at h
    simp only [Nat.sub_zero, List.getElem?_map] at h
    rw [List.getElem?_eq_getElem hj] at h
    simp only [Option.map_some] at h
    exact ⟨zs[j], List.getElem?_eq_getElem hj, (Option.some.inj h).symm⟩
  · cases h

theorem tabIn_at {P : Program} {E : Env} {F : RO} {M : Mem} {c : Nat → Prop} {w : World} {t : Tab} (hr : Rel P E F M c w) (h : tabIn F t = true) : ∃ ty o, w.heap[E.ρ t.1]? = some o ∧ BlkRel P E t.1 (tabBlk ty t.2.1 t.2.2) o := by
  unfold tabIn at h
  split at h
  · rename_i ty n fz d cs hF
    rw [Bool.and_eq_true, beqN] at h
    obtain ⟨h0, h⟩ := h
    have h0 := of_decide_eq_true h0
    subst h0
    obtain ⟨h1, h2⟩ := tabCells_get h
    have hl : look F M t.1 = some (.cells ty fz false fz true d cs) := by
      rw [look_none_M (hr.apart t.1 (by rw [hF]; rfl))]; exact hF
    obtain ⟨_, _, o, ho, arr, fr, rfl, hc⟩ := hr.has _ _ hl
    have hn : t.2.2.length = fz := by omega
    subst hn
    refine ⟨ty, _, ho, arr, fr, rfl, ?_, hc.size, hc.free, hc.plain⟩
    intro j v hv
    obtain ⟨z, hz, rfl⟩ := tab_cell (ty := ty) hv
    refine hc.cell j _ ?_
    have := h2 j z hz
    rwa [Nat.zero_add] at this
  · cases h

theorem tabsIn_mem {F : RO} : ∀ {L : List Tab}, tabsIn F L = true → ∀ t ∈ L, t.1 < 1000 ∧ tabIn F t = true
  | [], _, t, ht => by cases ht
  | x :: r, h, t, ht => by
    have h' : (Nat.blt x.1 1000 && (tabIn F x && tabsIn F r)) = true := h
    rw [Bool.and_eq_true, Bool.and_eq_true, bltN] at h'
    rcases List.mem_cons.1 ht with e | ht'
    · subst e; exact ⟨of_decide_eq_true h'.1, h'.2.1⟩
    · exact tabsIn_mem h'.2.2 t ht'

theorem rel_tabsIn {P : Program} {E : Env} {F : RO} {M : Mem} {c : Nat → Prop} {w : World} {L : List Tab} (hr : Rel P E F M c w) (hglob : ∀ g, g < 1000 → E.ρ g = g ∧ E.β g = 0) (h : tabsIn F L = true) : ∃ ty, Rel P E (tabF L ty) .e c0 w := by
  have hall := tabsIn_mem h
  have hty : ∃ ty : Nat → Nat, ∀ b, ∀ t ∈ L, t.1 = b → ∃ o, w.heap[E.ρ b]? = some o ∧ BlkRel P E b (tabBlk (ty b) t.2.1 t.2.2) o := by
    refine ⟨fun b => match w.heap[E.ρ b]? with | some (.cells _ ty _) => ty | _ => 0, fun b t ht e => ?_⟩
    subst e
    obtain ⟨ty, o, ho, hB⟩ := tabIn_at hr (hall t ht).2
    have hB' := hB
    obtain ⟨arr, fr, rfl, _⟩ := hB
    refine ⟨_, ho, ?_⟩
    simp only [ho]
    exact hB'
  obtain ⟨ty, hty⟩ := hty
  refine ⟨ty, ⟨?_, ?_, fun b hb => rfl⟩⟩
  · intro b blk hb
    rw [look_none_M (show (Tr.e : Mem).get b = none from rfl)] at hb
    obtain ⟨t, ht, e, rfl⟩ := tabF_get hb
    subst e
    obtain ⟨o, ho, hB⟩ := hty _ t ht rfl
    exact ⟨(hall t ht).1, tab_bd, o, ho, hB⟩
  · intro b b' h1 h2 e
    have lt : ∀ x, (look (tabF L ty) .e x).isSome → x < 1000 := by
      intro x hx
      obtain ⟨y, hy⟩ := Option.isSome_iff_exists.1 hx
      rw [look_none_M (show (Tr.e : Mem).get x = none from rfl)] at hy
      obtain ⟨t, ht, e, _⟩ := tabF_get hy
      subst e
      exact (hall t ht).1
    rw [(hglob b (lt b h1)).1, (hglob b' (lt b' h2)).1] at e
    exact e

/-- a closed run over tables, as a contract at any memory in which they are laid -/
theorem orc_closed_tabs {P : Program} (hm : P.follows .mixedOrders = true) {Φ : Nat → Option CF} (hΦ : PhiOk P Φ) {fuel f : Nat} {L : List Tab} (h : ∀ ty, isT (runF Φ fuel (tabF L ty) f []) = true) :
    OrcOk P f (fun F args M ct => match args with | [] => bif tabsIn F L then .k (.b true) M ct else .f | _ => .f) := by
  intro F args M ct v N ct' hg E c w hr hglob hbig hf ha
  cases args with
  | cons a r => cases hg
  | nil =>
    have hg' : (bif tabsIn F L then RC.k (.b true) M ct else .f) = .k v N ct' := hg
    cases ht : tabsIn F L with
    | false => rw [ht] at hg'; cases hg'
    | true =>
      rw [ht] at hg'
      have hg2 : RC.k (.b true) M ct = .k v N ct' := hg'
      injection hg2 with e1 e2 e3
      subst e1 e2 e3
      obtain ⟨ty, hrel⟩ := rel_tabsIn hr hglob ht
      obtain ⟨M', ct2, hk⟩ := isT_some (h ty)
      obtain ⟨fn, h1, h2, h3, hC⟩ := callOk_of (rd := none) (fn := 0) (F₀ := []) hΦ (exec_sound hm hΦ fuel) (tabF L ty) f [] .e 1000 (.b true) M' ct2 hk E c0 w hrel hglob (fun g hg => hg) (fun b hb hc => Nat.lt_irrefl _ (Nat.lt_of_lt_of_le hc hb)) trivial
      refine ⟨fn, h1, h2, h3, hC.mono ?_⟩
      rintro e w' ⟨E', c', rfl, hS, hb, hG⟩
      have hfr : ∀ r, r < w.heap.size → w'.heap[r]? = w.heap[r]? := fun r hr' => hS.frame r hr' (fun b hb => by cases hb)
      have hhas : ∀ b blk, look F M b = some blk → c b ∧ bdBlk c blk ∧ ∃ o, w'.heap[E.ρ b]? = some o ∧ BlkRel P E b blk o := by
        intro b blk hb
        obtain ⟨g1, g2, o, ho, g3⟩ := hr.has b blk hb
        exact ⟨g1, g2, o, by rw [hfr _ (Array.getElem?_eq_some_iff.1 ho).1]; exact ho, g3⟩
      exact ⟨E, c, rfl, ⟨.refl c E, fun _ h => h, ⟨hhas, hr.inj, hr.apart⟩, fun b hb => .inl ⟨b, hb, rfl⟩, fun r hr' _ => hfr r hr', hS.size, hS.os, hS.output, hS.tape⟩, trivial, .refl _ _⟩

end Go.Proofs.YtffpeieapadocaaDoor.Ev

namespace Go.Proofs.YtffpeieapadocaaDoor.Ev
open Go

/-! memory in walks -/
theorem Tr.setP_same {α : Type} (p : Pos) (v w : α) : ∀ t : Tr α, (t.setP p v).setP p w = t.setP p w := by
  induction p with
  | h => intro t; cases t <;> rfl
  | l p ih =>
    intro t
    cases t with
    | e => rw [Tr.setP_el, Tr.setP_l, ih, Tr.setP_el]
    | n l x r => rw [Tr.setP_l, Tr.setP_l, ih, Tr.setP_l]
  | r p ih =>
    intro t
    cases t with
    | e => rw [Tr.setP_er, Tr.setP_r, ih, Tr.setP_er]
    | n l x r => rw [Tr.setP_r, Tr.setP_r, ih, Tr.setP_r]

theorem single_eq {α : Type} (v : α) : ∀ (f k : Nat), k + 1 < 2 ^ (f + 1) → Tr.single (some v) f k = (Tr.e : Tr α).setP (posOfF f k) v
  | 0, k, h => by
    have : k = 0 := by simp at h; omega
    subst this; rfl
  | f + 1, k, h => by
    have hp : (2 : Nat) ^ (f + 1 + 1) = 2 * 2 ^ (f + 1) := by rw [Nat.pow_succ]; omega
    rw [Tr.single_succ, posOfF_succ]
    by_cases h0 : k = 0
    · rw [if_pos h0, if_pos h0]; rfl
    · rw [if_neg h0, if_neg h0]
      by_cases h2 : k % 2 = 0
      · rw [if_pos h2, if_pos h2, Tr.setP_er, single_eq v f _ (by omega)]
      · rw [if_neg h2, if_neg h2, Tr.setP_el, single_eq v f _ (by omega)]

theorem set_eq {α : Type} (v : α) (t : Tr α) : ∀ k : Nat, t.set k v = t.setP (posOf k) v := by
  induction t with
  | e =>
    intro k
    show (Tr.e : Tr α).put (some v) k = _
    rw [Tr.put_e]
    refine single_eq v _ k ?_
    have := Nat.lt_log2_self (n := k)
    have hp : (2 : Nat) ^ (k.log2 + 1 + 1) = 2 * 2 ^ (k.log2 + 1) := by rw [Nat.pow_succ]; omega
    omega
  | n l x r ihl ihr =>
    intro k
    show (Tr.n l x r).put (some v) k = _
    rw [Tr.put_n]
    by_cases h0 : k = 0
    · subst h0; rfl
    · rw [if_neg h0]
      by_cases h2 : k % 2 = 0
      · rw [if_pos h2]
        have e : posOf k = .r (posOf (k / 2 - 1)) := by rw [← posOf_even]; congr 1; omega
        rw [e, Tr.setP_r, ← ihr]; rfl
      · rw [if_neg h2]
        have e : posOf k = .l (posOf (k / 2)) := by rw [← posOf_odd]; congr 1; omega
        rw [e, Tr.setP_l, ← ihl]; rfl

theorem set_set {α : Type} (t : Tr α) (k : Nat) (v w : α) : (t.set k v).set k w = t.set k w := by
  rw [set_eq, set_eq, set_eq, Tr.setP_same]
theorem set_comm {α : Type} (t : Tr α) {k j : Nat} (h : k ≠ j) (v w : α) : (t.set k v).set j w = (t.set j w).set k v := by
  rw [set_eq, set_eq, set_eq, set_eq, Tr.setP_comm (posOf k) v (posOf j) w t (fun e => h (posOf_inj e).symm)]

/-- cells that are listed -/
noncomputable def rowT (l : List V) : T := listTr l 0 .e
theorem listTr_set_lt (v : V) : ∀ (l : List V) (k i : Nat) (t : T), i < k → listTr l k (t.set i v) = (listTr l k t).set i v
  | [], k, i, t, h => rfl
  | x :: l, k, i, t, h => by
    rw [listTr_cons, listTr_cons, set_comm _ (show i ≠ k by omega), listTr_set_lt v l (k + 1) i _ (by omega)]
theorem listTr_set (v : V) : ∀ (l : List V) (k i : Nat) (t : T), i < l.length → (listTr l k t).set (k + i) v = listTr (l.set i v) k t
  | [], k, i, t, h => by cases h
  | x :: l, k, 0, t, h => by
    rw [List.set_cons_zero, listTr_cons, listTr_cons, Nat.add_zero k, ← listTr_set_lt v l (k + 1) k _ (by omega), set_set]
  | x :: l, k, i + 1, t, h => by
    rw [List.set_cons_succ, listTr_cons, listTr_cons, show k + (i + 1) = (k + 1) + i by omega, listTr_set v l (k + 1) i _ (by simpa using h)]
theorem rowT_set (v : V) (l : List V) (i : Nat) (h : i < l.length) : (rowT l).set i v = rowT (l.set i v) := by
  have := listTr_set v l 0 i .e h
  rwa [Nat.zero_add] at this

/-- values laid over a list -/
def over : List V → Nat → List V → List V
  | l, _, [] => l
  | l, i, v :: r => over (l.set i v) (i + 1) r
theorem over_length : ∀ (vs l : List V) (i : Nat), (over l i vs).length = l.length
  | [], l, i => rfl
  | v :: r, l, i => by rw [over, over_length r]; simp
theorem listTr_over : ∀ (vs l : List V) (i : Nat), i + vs.length ≤ l.length → listTr vs i (rowT l) = rowT (over l i vs)
  | [], l, i, h => rfl
  | v :: r, l, i, h => by
    simp only [List.length_cons] at h
    rw [listTr_cons, rowT_set _ _ _ (by omega), over, listTr_over r _ _ (by simp; omega)]

/-- a block whose cells are listed -/
noncomputable def rowB (ty : Nat) (l : List V) : Blk := .cells ty l.length true 0 false [] (rowT l)
theorem cell_row (l : List V) (i : Nat) : cell l.length [] (rowT l) i = l[i]? := by
  rw [cell_eq]
  by_cases h : i < l.length
  · rw [if_pos h]
    unfold rowT
    rw [listTr_get, if_pos (by omega)]
    simp only [Nat.sub_zero]
    rw [List.getElem?_eq_getElem h]
  · rw [if_neg h, List.getElem?_eq_none (by omega)]
theorem cellsAt_row (l : List V) : ∀ (n i : Nat), i + n ≤ l.length → cellsAt l.length [] (rowT l) n i = some ((l.drop i).take n)
  | 0, i, h => by rw [cellsAt_zero]; simp
  | n + 1, i, h => by
    rw [cellsAt_succ, cell_row, List.getElem?_eq_getElem (by omega)]
    show (match cellsAt l.length [] (rowT l) n (i + 1) with | none => none | some r => some (l[i] :: r)) = _
    rw [cellsAt_row l n (i + 1) (by omega)]
    simp only
    rw [← List.getElem_cons_drop (by omega : i < l.length), List.take_succ_cons]

section
variable {Φ : Nat → Option CF} {rd : Option Nat} {fn : Nat} {F : RO}

theorem look_set_same (M : Mem) (b : Nat) (x : Blk) : look F (M.set b x) b = some x := look_some_M (by rw [Tr.get_set, if_pos rfl])
theorem look_set_ne (M : Mem) {b b' : Nat} (x : Blk) (h : b' ≠ b) : look F (M.set b x) b' = look F M b' := look_congr (by rw [Tr.get_set, if_neg h])

theorem load1_same (M : Mem) (b o ty : Nat) (l : List V) : load1 F (M.set b (rowB ty l)) b o = l[o]? := by
  unfold load1
  rw [look_set_same]
  exact cell_row l o
theorem load1_ne (M : Mem) {b b' : Nat} (o : Nat) (x : Blk) (h : b' ≠ b) : load1 F (M.set b x) b' o = load1 F M b' o := by
  unfold load1
  rw [look_set_ne M x h]
theorem loadN_same (M : Mem) (b o n ty : Nat) (l : List V) (h : o + n ≤ l.length) : loadN F (M.set b (rowB ty l)) b o n = some ((l.drop o).take n) := by
  unfold loadN
  rw [look_set_same]
  exact cellsAt_row l n o h
theorem loadN_ne (M : Mem) {b b' : Nat} (o n : Nat) (x : Blk) (h : b' ≠ b) : loadN F (M.set b x) b' o n = loadN F M b' o n := by
  unfold loadN
  rw [look_set_ne M x h]
theorem storeN_same (M : Mem) (b o ty : Nat) (l vs : List V) (h : o + vs.length ≤ l.length) (h1 : allOne vs = true) : storeN (M.set b (rowB ty l)) b o vs = some (M.set b (rowB ty (over l o vs))) := by
  have hg : (M.set b (rowB ty l)).get b = some (rowB ty l) := by rw [Tr.get_set, if_pos rfl]
  show Option.rec (motive := fun _ => Option Mem) none (fun blk => storeIn (M.set b (rowB ty l)) b o vs blk) ((M.set b (rowB ty l)).get b) = _
  rw [hg]
  show (Bool.rec (motive := fun _ => Option Mem) none (Bool.rec (motive := fun _ => Option Mem) none (Bool.rec (motive := fun _ => Option Mem) none (storeIn2 (M.set b (rowB ty l)) b o vs ty l.length true 0 false [] (rowT l)) (allOne vs)) (Nat.ble 0 o)) (Nat.ble (Nat.add o vs.length) l.length)) = _
  rw [bb, bb, bb, bleN, bleN, decide_eq_true (show Nat.add o vs.length ≤ l.length from h), decide_eq_true (Nat.zero_le o), h1]
  simp only [if_true]
  unfold storeIn2
  rw [Tr.force_eq, Tr.force_eq, listTr_over _ _ _ h, set_set]
  unfold rowB
  rw [over_length]
theorem storeN_ne (M : Mem) {b b' : Nat} (o : Nat) (x : Blk) (vs : List V) (h : b' ≠ b) {M' : Mem} (hs : storeN M b' o vs = some M') : storeN (M.set b x) b' o vs = some (M'.set b x) := by
  obtain ⟨ty, n, ex, fz, str, d, cs, hM, h1, h2, h3, rfl⟩ := storeN_some hs
  have hg : (M.set b x).get b' = some (.cells ty n ex fz str d cs) := by rw [Tr.get_set, if_neg h]; exact hM
  show Option.rec (motive := fun _ => Option Mem) none (fun blk => storeIn (M.set b x) b' o vs blk) ((M.set b x).get b') = _
  rw [hg]
  show (Bool.rec (motive := fun _ => Option Mem) none (Bool.rec (motive := fun _ => Option Mem) none (Bool.rec (motive := fun _ => Option Mem) none (storeIn2 (M.set b x) b' o vs ty n ex fz str d cs) (allOne vs)) (Nat.ble fz o)) (Nat.ble (Nat.add o vs.length) n)) = _
  rw [bb, bb, bb, bleN, bleN, decide_eq_true (show Nat.add o vs.length ≤ n from h1), decide_eq_true h2, h3]
  simp only [if_true]
  unfold storeIn2
  rw [Tr.force_eq, Tr.force_eq, set_comm _ (Ne.symm h)]

/-! operations on memory -/
noncomputable def ld1V (F : RO) (M : Mem) (x : V) : Option V := (qop (.ld1 (.c x)) F M .e).val
noncomputable def ldnV (n : Nat) (F : RO) (M : Mem) (x : V) : Option V := (qop (.ldn n (.c x)) F M .e).val
theorem v_ld1 (x : X) (M : Mem) (t : T) : (qop (.ld1 x) F M t).val = ld1V F M (x.ev t) := rfl
theorem v_ldn (n : Nat) (x : X) (M : Mem) (t : T) : (qop (.ldn n x) F M t).val = ldnV n F M (x.ev t) := rfl
theorem ld1_p (M : Mem) (b o : Nat) : ld1V F M (.p b o) = load1 F M b o := by
  show (qrb b (load1 F M b o)).val = _
  cases load1 F M b o <;> rfl
theorem ldn_p (n : Nat) (M : Mem) (b o : Nat) : ldnV n F M (.p b o) = (loadN F M b o n).map .g := by
  show (qgb b (loadN F M b o n)).val = _
  cases loadN F M b o n <;> rfl
theorem v_fa (off : Nat) (x : X) (M : Mem) (t : T) : (qop (.fa off x) F M t).val = match x.ev t with | .p b o => some (.p b (o + off)) | _ => none := by
  show (onP (x.ev t) .f fun b o => mkP b (Nat.add o off)).val = _
  cases x.ev t with
  | p b o =>
    show (mkP b (Nat.add o off)).val = _
    unfold mkP; rw [fN_eq]; rfl
  | _ => rfl
theorem a_al_eq (ty : Nat) (cs : List V) (b : Nat) (t : T) (h : allOne cs = true) : aop (.al ty cs) b t = some (.p b 0, rowB ty cs) := by
  show (bif allOne cs then some (V.p b 0, Blk.cells ty cs.length true 0 false [] (listTr cs 0 .e)) else none) = _
  rw [h]; rfl
theorem a_bx_eq (ty sz : Nat) (x : X) (b : Nat) (t : T) : aop (.bx ty sz x) b t = bif Nat.beq (flatten (x.ev t)).length sz && allOne (flatten (x.ev t)) then some (.p b 0, rowB ty (flatten (x.ev t))) else none := by
  show (bif Nat.beq (flatten (x.ev t)).length sz && allOne (flatten (x.ev t)) then some (V.p b 0, Blk.cells ty sz true 0 false [] (listTr (flatten (x.ev t)) 0 .e)) else none) = _
  rw [beqN]
  by_cases h : (flatten (x.ev t)).length = sz
  · rw [decide_eq_true h, ← h]; rfl
  · rw [decide_eq_false h]; rfl
theorem e_st_eq (n : Nat) (x v : X) (M : Mem) (c : Nat) (t : T) : doE (.st n x v) (K Φ rd fn F) M c t = match x.ev t with
    | .p b o => if (flatten (v.ev t)).length = n then er c (storeN M b o (flatten (v.ev t))) else .f
    | _ => .f := by
  show (onP (x.ev t) .f fun b o => e_st1 n b o (flatten (v.ev t)) M c) = _
  cases x.ev t with
  | p b o =>
    show e_st1 n b o (flatten (v.ev t)) M c = _
    unfold e_st1
    rw [bb, beqN]
    simp only [decide_eq_true_eq]
  | _ => rfl
theorem er_some (c : Nat) (M : Mem) : er c (some M) = .k undef M c := rfl
end
end Go.Proofs.YtffpeieapadocaaDoor.Ev

