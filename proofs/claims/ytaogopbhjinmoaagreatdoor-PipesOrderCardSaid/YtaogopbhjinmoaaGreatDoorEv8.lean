/- What is proved here: pieces of the evaluator's soundness: if the evaluator comes to a value, the model's run comes to it, for every world and tape; no conditions beyond the hypotheses of each theorem. -/
import Derived.Test.YtaogopbhjinmoaaGreatDoorEv7
import GoSem.ClaimChange
set_option linter.unusedSimpArgs false
set_option linter.unusedVariables false
set_option linter.defProp false
namespace Go.Proofs.YtaogopbhjinmoaaGreatDoor.Ev
open Go
structure RelM (P : Program) (E : Env) (F : RO) (m : Nat → Option Blk) (c : Nat → Prop) (w : World) : Prop where
  has : ∀ b blk, (m b = some blk ∨ (m b = none ∧ roGet F b = some blk)) → c b ∧ bdBlk c blk ∧ ∃ o, w.heap[E.ρ b]? = some o ∧ BlkRel P E b blk o
  inj : ∀ b b', (m b ≠ none ∨ roGet F b ≠ none) → (m b' ≠ none ∨ roGet F b' ≠ none) → E.ρ b = E.ρ b' → b = b'
  apart : ∀ b, (roGet F b).isSome → m b = none
structure StpM (P : Program) (F : RO) (E : Env) (m : Nat → Option Blk) (c : Nat → Prop) (w : World) (E' : Env) (m' : Nat → Option Blk) (c' : Nat → Prop) (w' : World) : Prop where
  ext : Ext c E E'
  le : ∀ b, c b → c' b
  rel : RelM P E' F m' c' w'
  own : ∀ b, m' b ≠ none → (∃ b0, m b0 ≠ none ∧ E.ρ b0 = E'.ρ b) ∨ w.heap.size ≤ E'.ρ b
  frame : ∀ r, r < w.heap.size → (∀ b, m b ≠ none → E.ρ b ≠ r) → w'.heap[r]? = w.heap[r]?
  size : w.heap.size ≤ w'.heap.size
  os : w'.os = w.os
  output : w'.output = w.output
  tape : w'.tape = w.tape
section
variable {P : Program} {E E' E₁ E₂ : Env} {F F1 : RO} {M M' M1 : Mem} {m m' m₁ m₂ : Nat → Option Blk} {c c' c₁ c₂ : Nat → Prop} {w w' w₁ w₂ : World}
theorem StpM.trans (h : StpM P F E m c w E₁ m₁ c₁ w₁) (h' : StpM P F E₁ m₁ c₁ w₁ E₂ m₂ c₂ w₂) : StpM P F E m c w E₂ m₂ c₂ w₂ where
  ext := h.ext.trans h'.ext h.le
  le := fun b hb => h'.le b (h.le b hb)
  rel := h'.rel
  own := by
    intro b hb
    rcases h'.own b hb with ⟨b1, h1, e1⟩ | h1
    · rcases h.own b1 h1 with ⟨b0, h0, e0⟩ | h0
      · exact .inl ⟨b0, h0, e0.trans e1⟩
      · exact .inr (e1 ▸ h0)
    · exact .inr (Nat.le_trans h.size h1)
  frame := by
    intro r hr hn
    rw [h'.frame r (Nat.lt_of_lt_of_le hr h.size), h.frame r hr hn]
    intro b1 h1 e
    rcases h.own b1 h1 with ⟨b0, h0, e0⟩ | h0
    · exact hn b0 h0 (e0.trans e)
    · omega
  size := Nat.le_trans h.size h'.size
  os := h'.os.trans h.os
  output := h'.output.trans h.output
  tape := h'.tape.trans h.tape
theorem look_cases {b : Nat} {blk : Blk} (h : look F M b = some blk) : M.get b = some blk ∨ (M.get b = none ∧ roGet F b = some blk) := by
  cases hm : M.get b with
  | none => rw [look_none_M hm] at h; exact .inr ⟨rfl, h⟩
  | some x => rw [look_some_M hm] at h; exact .inl h
theorem look_of_cases {b : Nat} {blk : Blk} (h : M.get b = some blk ∨ (M.get b = none ∧ roGet F b = some blk)) : look F M b = some blk := by
  rcases h with h | h
  · exact look_some_M h
  · rw [look_none_M h.1]; exact h.2
theorem RelM.of (h : Rel P E F M c w) (hm : ∀ b, m b = M.get b) : RelM P E F m c w where
  has := fun b blk hb => h.has b blk (look_of_cases (by rw [← hm b]; exact hb))
  inj := fun b b' hb hb' => by
    have key : ∀ x, (m x ≠ none ∨ roGet F x ≠ none) → (look F M x).isSome := by
      intro x hx
      rw [hm x] at hx
      cases hM : M.get x with
      | some y => rw [look_some_M hM]; rfl
      | none =>
        rw [look_none_M hM]
        rcases hx with hx | hx
        · exact absurd hM hx
        · cases hr : roGet F x with
          | none => exact absurd hr hx
          | some _ => rfl
    exact h.inj b b' (key b hb) (key b' hb')
  apart := fun b hb => by rw [hm b]; exact h.apart b hb
theorem Rel.ofM (h : RelM P E F m c w) (hm : ∀ b, m b = M.get b) : Rel P E F M c w where
  has := fun b blk hb => h.has b blk (by rw [hm b]; exact look_cases hb)
  inj := fun b b' hb hb' => by
    have key : ∀ x, (look F M x).isSome → (m x ≠ none ∨ roGet F x ≠ none) := by
      intro x hx
      obtain ⟨y, hy⟩ := Option.isSome_iff_exists.1 hx
      rw [hm x]
      rcases look_cases hy with h1 | h1
      · exact .inl (by rw [h1]; exact (fun h => by cases h))
      · exact .inr (by rw [h1.2]; exact (fun h => by cases h))
    exact h.inj b b' (key b hb) (key b' hb')
  apart := fun b hb => by rw [← hm b]; exact h.apart b hb
theorem RelM.part (h : RelM P E F m c w) (sub : ∀ b blk, M1.get b = some blk → m b = some blk)
    (ro : ∀ b blk, roGet F1 b = some blk → (m b = some blk ∧ M1.get b = none) ∨ roGet F b = some blk) : Rel P E F1 M1 c w := by
  have key : ∀ b blk, look F1 M1 b = some blk → m b = some blk ∨ (m b = none ∧ roGet F b = some blk) := by
    intro b blk hb
    rcases look_cases hb with h1 | h1
    · exact .inl (sub b blk h1)
    · rcases ro b blk h1.2 with h2 | h2
      · exact .inl h2.1
      · exact .inr ⟨h.apart b (by rw [h2]; rfl), h2⟩
  have key2 : ∀ b, (look F1 M1 b).isSome → m b ≠ none ∨ roGet F b ≠ none := by
    intro b hb
    obtain ⟨y, hy⟩ := Option.isSome_iff_exists.1 hb
    rcases key b y hy with h1 | h1
    · exact .inl (by rw [h1]; exact (fun h => by cases h))
    · exact .inr (by rw [h1.2]; exact (fun h => by cases h))
  refine ⟨fun b blk hb => h.has b blk (key b blk hb), fun b b' hb hb' => h.inj b b' (key2 b hb) (key2 b' hb'), fun b hb => ?_⟩
  obtain ⟨y, hy⟩ := Option.isSome_iff_exists.1 hb
  rcases ro b y hy with h2 | h2
  · exact h2.2
  · cases hM : M1.get b with
    | none => rfl
    | some z =>
      have := h.apart b (by rw [h2]; rfl)
      rw [sub b z hM] at this; cases this
theorem RelM.step (h : RelM P E F m c w) (sub : ∀ b blk, M1.get b = some blk → m b = some blk)
    (new : ∀ b, (roGet F b).isSome → M'.get b = none) (hS : Stp P F1 E M1 c w E' M' c' w') : StpM P F E m c w E' (afterM M1 M' m) c' w' := by
  have kept : ∀ b blk, M1.get b = none → (m b = some blk ∨ (m b = none ∧ roGet F b = some blk)) → c b ∧ bdBlk c blk ∧ ∃ o, w'.heap[E.ρ b]? = some o ∧ BlkRel P E b blk o := by
    intro b blk hn hb
    obtain ⟨h1, h2, o, h3, h4⟩ := h.has b blk hb
    refine ⟨h1, h2, o, ?_, h4⟩
    rw [hS.frame (E.ρ b) (Array.getElem?_eq_some_iff.1 h3).1, h3]
    intro b1 hb1 e
    obtain ⟨y, hy⟩ := Option.isSome_iff_exists.1 hb1
    have hb' : m b ≠ none ∨ roGet F b ≠ none := by
      rcases hb with hb | hb
      · exact .inl (by rw [hb]; exact (fun h => by cases h))
      · exact .inr (by rw [hb.2]; exact (fun h => by cases h))
    have := h.inj b1 b (.inl (by rw [sub b1 y hy]; exact (fun h => by cases h))) hb' e
    rw [this, hn] at hy; cases hy
  have hlt : ∀ b, (m b ≠ none ∨ roGet F b ≠ none) → E.ρ b < w.heap.size ∧ c b := by
    intro b hb
    have : ∃ blk, m b = some blk ∨ (m b = none ∧ roGet F b = some blk) := by
      cases hm : m b with
      | some y => exact ⟨y, .inl rfl⟩
      | none =>
        rcases hb with hb | hb
        · exact absurd hm hb
        · cases hr : roGet F b with
          | none => exact absurd hr hb
          | some y => exact ⟨y, .inr ⟨rfl, rfl⟩⟩
    obtain ⟨blk, hblk⟩ := this
    obtain ⟨h1, _, o, h3, _⟩ := h.has b blk hblk
    exact ⟨(Array.getElem?_eq_some_iff.1 h3).1, h1⟩
  have split : ∀ b, (afterM M1 M' m b ≠ none ∨ roGet F b ≠ none) → (M1.get b = none ∧ (m b ≠ none ∨ roGet F b ≠ none)) ∨ M'.get b ≠ none := by
    intro b hb
    rcases hb with hb | hb
    · unfold afterM at hb
      split at hb
      · rename_i hc; exact .inl ⟨hc.1, .inl hc.2⟩
      · exact .inr hb
    · left
      refine ⟨?_, .inr hb⟩
      have := h.apart b (by cases hr : roGet F b with | none => exact absurd hr hb | some _ => rfl)
      cases hM : M1.get b with
      | none => rfl
      | some y => rw [sub b y hM] at this; cases this
  refine ⟨hS.ext, hS.le, ⟨?_, ?_, ?_⟩, ?_, ?_, hS.size, hS.os, hS.output, hS.tape⟩
  · intro b blk hb
    have fin : M1.get b = none → (m b = some blk ∨ (m b = none ∧ roGet F b = some blk)) → c' b ∧ bdBlk c' blk ∧ ∃ o, w'.heap[E'.ρ b]? = some o ∧ BlkRel P E' b blk o := by
      intro hn hk
      obtain ⟨h1, h2, o, h3, h4⟩ := kept b blk hn hk
      exact ⟨hS.le b h1, bdBlk_mono hS.le blk h2, o, by rw [hS.ext.ρ b h1]; exact h3, h4.ext hS.ext h1 h2⟩
    rcases hb with hb | hb
    · unfold afterM at hb
      split at hb
      · rename_i hc; exact fin hc.1 (.inl hb)
      · exact hS.rel.has b blk (look_some_M hb)
    · have hap := h.apart b (by rw [hb.2]; rfl)
      refine fin ?_ (.inr ⟨hap, hb.2⟩)
      cases hM : M1.get b with
      | none => rfl
      | some y => rw [sub b y hM] at hap; cases hap
  · intro b b' hb hb' e
    rcases split b hb with ⟨h1, h2⟩ | h1
    · obtain ⟨l1, l2⟩ := hlt b h2
      rcases split b' hb' with ⟨h1', h2'⟩ | h1'
      · obtain ⟨l1', l2'⟩ := hlt b' h2'
        rw [hS.ext.ρ b l2, hS.ext.ρ b' l2'] at e
        exact h.inj b b' h2 h2' e
      · exfalso
        rw [hS.ext.ρ b l2] at e
        rcases hS.own b' (by cases hM : M'.get b' with | none => exact absurd hM h1' | some _ => rfl) with ⟨b0, h0, e0⟩ | h0
        · obtain ⟨y, hy⟩ := Option.isSome_iff_exists.1 h0
          have := h.inj b0 b (.inl (by rw [sub b0 y hy]; exact (fun h => by cases h))) h2 (e0.trans e.symm)
          rw [this, h1] at hy; cases hy
        · omega
    · rcases split b' hb' with ⟨h1', h2'⟩ | h1'
      · exfalso
        obtain ⟨l1', l2'⟩ := hlt b' h2'
        rw [hS.ext.ρ b' l2'] at e
        rcases hS.own b (by cases hM : M'.get b with | none => exact absurd hM h1 | some _ => rfl) with ⟨b0, h0, e0⟩ | h0
        · obtain ⟨y, hy⟩ := Option.isSome_iff_exists.1 h0
          have := h.inj b0 b' (.inl (by rw [sub b0 y hy]; exact (fun h => by cases h))) h2' (e0.trans e)
          rw [this, h1'] at hy; cases hy
        · omega
      · have hs : ∀ x, M'.get x ≠ none → (look F1 M' x).isSome := by
          intro x hx
          cases hM : M'.get x with
          | none => exact absurd hM hx
          | some y => rw [look_some_M hM]; rfl
        exact hS.rel.inj b b' (hs b h1) (hs b' h1') e
  · intro b hb
    unfold afterM
    rw [if_neg (fun hc => hc.2 (h.apart b hb))]
    exact new b hb
  · intro b hb
    rcases split b (.inl hb) with ⟨h1, h2⟩ | h1
    · obtain ⟨l1, l2⟩ := hlt b h2
      left
      refine ⟨b, ?_, (hS.ext.ρ b l2).symm⟩
      unfold afterM at hb
      split at hb
      · exact hb
      · rcases h2 with h2 | h2
        · exact h2
        · exact absurd (new b (by cases hr : roGet F b with | none => exact absurd hr h2 | some _ => rfl)) hb
    · rcases hS.own b (by cases hM : M'.get b with | none => exact absurd hM h1 | some _ => rfl) with ⟨b0, h0, e0⟩ | h0
      · obtain ⟨y, hy⟩ := Option.isSome_iff_exists.1 h0
        exact .inl ⟨b0, by rw [sub b0 y hy]; exact (fun h => by cases h), e0⟩
      · exact .inr h0
  · intro r hr hn
    refine hS.frame r hr fun b hb => hn b ?_
    obtain ⟨y, hy⟩ := Option.isSome_iff_exists.1 hb
    rw [sub b y hy]; exact (fun h => by cases h)
theorem afterM_e (m : Nat → Option Blk) : afterM .e .e m = m := by
  funext b
  unfold afterM
  split
  · rfl
  · rename_i h
    cases hm : m b with
    | none => rfl
    | some y => exact absurd ⟨rfl, by rw [hm]; exact (fun h => by cases h)⟩ h
theorem afterM_set (m : Nat → Option Blk) (b : Nat) (blk : Blk) (h : m b = none) : afterM .e (Tr.set .e b blk) m = setF m b blk := by
  funext x
  unfold afterM setF
  by_cases e : x = b
  · rw [if_pos e, if_neg (fun hc => hc.2 (by rw [e]; exact h)), Tr.get_set, if_pos e]
  · rw [if_neg e]
    split
    · rfl
    · rename_i hc
      rw [Tr.get_set, if_neg e]
      cases hm : m x with
      | none => rfl
      | some y => exact absurd ⟨rfl, by rw [hm]; exact (fun h => by cases h)⟩ hc
end
end Go.Proofs.YtaogopbhjinmoaaGreatDoor.Ev
namespace Go.Proofs.YtaogopbhjinmoaaGreatDoor.Ev
open Go
structure SM (P : Program) (Bd : List Deferred) (F : RO) (rd : Option Nat) (nt base : Nat) (d : List Nat) (E : Env) (c : Nat → Prop) (w : World) (a : Act) (s : SS) (rem : Nat → Prop) : Prop where
  rel : RelM P E F s.m c w
  glob : ∀ g, g < 1000 → E.ρ g = g ∧ E.β g = 0
  big : ∀ g, g < 1000 → c g
  tr : TRel E s.t a.tmps
  bt : bdT c s.t
  fr : Fresh c s.ct
  le : base ≤ s.ct
  res : ∀ i, rem i → ¬ c (base + i) ∧ base + i < s.ct
  df : a.defers = (d.map fun b => { target := .collected (E.ρ b), args := #[] }) ++ Bd
  dc : ∀ b ∈ d, c b
  sz : nt ≤ a.tmps.size
  rd : ∀ l, rd = some l → c l
section
variable {P : Program} {Bd : List Deferred} {E E' : Env} {F : RO} {c c' : Nat → Prop} {nt base : Nat} {w w' : World} {a : Act} {rd : Option Nat} {d : List Nat} {s s' : SS} {rem rem' : Nat → Prop} {k : Kn}
theorem SM.next (h : SM P Bd F rd nt base d E c w a s rem) {m' : Nat → Option Blk} (hS : StpM P F E s.m c w E' m' c' w') {ct' : Nat} (hfr : Fresh c' ct') (hle : s.ct ≤ ct') (hres : ∀ i, rem' i → ¬ c' (base + i) ∧ base + i < ct')
    {dst : Option Nat} (hd : dstOk nt dst = true) {v : V} (hb : bd c' v) : SM P Bd F rd nt base d E' c' w' (a.put dst (conc E' v)) ⟨setT s.t (dst.map posOf) v, m', ct'⟩ rem' := by
  refine ⟨hS.rel, fun g hg => ?_, fun g hg => hS.le g (h.big g hg), TRel_put (h.tr.ext hS.ext h.bt) (fun j hj => ?_) rfl, bdT_put (fun p => bd_mono hS.le _ (h.bt p)) hb, hfr, Nat.le_trans h.le hle, hres, ?_, fun b hb => hS.le b (h.dc b hb), by rw [Act.put_size]; exact h.sz, fun l hl => hS.le l (h.rd l hl)⟩
  · rw [hS.ext.ρ g (h.big g hg), hS.ext.β g (h.big g hg)]; exact h.glob g hg
  · subst hj
    have : j < nt := by simpa [dstOk] using hd
    exact Nat.lt_of_lt_of_le this h.sz
  · rw [Act.put_defers, h.df]
    congr 1
    apply List.map_congr_left
    intro b hb
    rw [hS.ext.ρ b (h.dc b hb)]
theorem SM.cx (h : SM P Bd F rd nt base d E c w a s rem) {F1 : RO} {M1 : Mem} (hr : Rel P E F1 M1 c w) : Cx P E F1 M1 c w s.t a := ⟨hr, h.glob, h.big, h.tr, h.bt⟩
theorem tn_op (hcall : CallOk P k) (hy : YieldOk P k) (h : SM P Bd k.F rd nt base d E c w a s rem) {l : Lab} (hrem : rem l.i) (hT : Tn k base k.F l s s') {ops : Array Oper} {o : Oper} (ho : ops[l.i]? = some o) (hco : compO P nt ops o = some l.co)
    {K : Act → World → Prop} {Q : Exit → Act → World → Prop}
    (hK : ∀ E' c' a' w', StpM P k.F E s.m c w E' s'.m c' w' → (∀ b, c' b → c b ∨ (base ≤ b ∧ b < s'.ct)) → s.ct ≤ s'.ct → SM P Bd k.F rd nt base d E' c' w' a' s' (fun j => rem j ∧ j ≠ l.i) → K a' w') :
    wpOpIn (fence E rd) 0 P ops Q l.i K a w := by
  obtain ⟨hd, g, op, hcoe, hg, hop⟩ := compO_some hco
  have hgu := guard_ok h.tr hg
  unfold wpOpIn
  simp only [ho]
  rw [hgu]
  rw [Tn_iff] at hT
  obtain ⟨hcan, rfl⟩ := hT
  have hdst : l.co.dst = o.dst.map posOf := by rw [hcoe]; rfl
  have hguard : l.co.guard = g := by rw [hcoe]; rfl
  have hopc : l.co.op = op := by rw [hcoe]; rfl
  have hrelE : Rel P E [] .e c w := h.rel.part (fun b blk hb => by cases hb) (fun b blk hb => by cases hb)
  have quiet : ∀ (F1 : RO) (E' : Env) (c' : Nat → Prop) (w' : World) (v : V), Stp P F1 E .e c w E' .e c' w' → Grow c s.ct c' s.ct → bd c' v → l.val = v → l.mem base s.m = s.m → l.ctr s.ct = s.ct → K (a.put o.dst (conc E' v)) w' := by
    intro F1 E' c' w' v hS hG hb hv hm hc
    have hS' := h.rel.step (F1 := F1) (M1 := .e) (M' := .e) (fun b blk hb => by cases hb) (fun _ _ => rfl) hS
    rw [afterM_e] at hS'
    have hcc : ∀ b, c' b → c b := fun b hb => by
      rcases hG.new b hb with h1 | h1
      · exact h1
      · omega
    refine hK E' c' _ w' (by rw [hm]; exact hS') (fun b hb => .inl (hcc b hb)) (by rw [hc]; exact Nat.le_refl _) ?_
    rw [hdst, hv, hm, hc]
    exact h.next hS' (h.fr.grow hG) (Nat.le_refl _) (fun i hi => ⟨fun hx => (h.res i hi.1).1 (hcc _ hx), (h.res i hi.1).2⟩) hd hb
  unfold Can at hcan
  cases hk : l.k with
  | skip =>
    rw [hk] at hcan
    rw [hguard] at hcan
    rw [if_neg (by rw [hcan]; exact (fun h => by cases h))]
    refine ⟨fun _ _ => trivial, ?_⟩
    exact quiet [] E c w undef (.refl hrelE) (.refl _ _) trivial (by unfold Lab.val; rw [hk]) (by unfold Lab.mem; rw [hk]) (by unfold Lab.ctr; rw [hk])
  | qv v =>
    rw [hk] at hcan
    rw [hguard, hopc] at hcan
    obtain ⟨h1, q, rfl, h3⟩ := hcan
    rw [if_pos h1]
    rcases hop with hop | hop
    · refine q_op (rd := rd) (ct := s.ct) (h.cx hrelE) hop h3 K Q fun E' c' w' hS hG hb => ?_
      exact quiet [] E' c' w' v hS hG hb (by unfold Lab.val; rw [hk]) (by unfold Lab.mem; rw [hk]) (by unfold Lab.ctr; rw [hk])
    · injection hop with hop; subst hop; cases h3
  | qr v b =>
    rw [hk] at hcan
    rw [hguard, hopc] at hcan
    obtain ⟨h1, q, blk, rfl, h3, h4⟩ := hcan
    rw [if_pos h1]
    have hrelb : Rel P E [(b, blk)] .e c w := by
      refine h.rel.part (fun b blk hb => by cases hb) (fun b' blk' hb => ?_)
      rw [roGet_cons] at hb
      split at hb
      · rename_i e
        have e' : b = b' := e
        obtain rfl := Option.some.inj hb
        subst e'
        rcases h3 with h3 | h3
        · exact .inl ⟨h3, rfl⟩
        · exact .inr h3.2
      · cases hb
    rcases hop with hop | hop
    · refine q_op (rd := rd) (ct := s.ct) (h.cx hrelb) hop h4 K Q fun E' c' w' hS hG hb => ?_
      exact quiet _ E' c' w' v hS hG hb (by unfold Lab.val; rw [hk]) (by unfold Lab.mem; rw [hk]) (by unfold Lab.ctr; rw [hk])
    · injection hop with hop; subst hop; cases h4
  | al v blk =>
    rw [hk] at hcan
    rw [hguard, hopc] at hcan
    obtain ⟨h1, ao, rfl, h3⟩ := hcan
    rw [if_pos h1]
    rcases hop with hop | hop
    · have hfree := h.res l.i hrem
      obtain ⟨E', w', hr, hS, _, hb⟩ := a_all (h.cx hrelE) hop hfree.1 (c' := fun b => c b ∨ b = base + l.i) (.inr rfl) (fun _ h => .inl h) h3
      have hmn : s.m (base + l.i) = none := by
        cases hm : s.m (base + l.i) with
        | none => rfl
        | some y => exact absurd (h.rel.has _ y (.inl hm)).1 hfree.1
      have hnF : roGet k.F (base + l.i) = none := by
        cases hm : roGet k.F (base + l.i) with
        | none => rfl
        | some y => exact absurd (h.rel.has _ y (.inr ⟨hmn, hm⟩)).1 hfree.1
      have hS' := h.rel.step (F1 := []) (M1 := .e) (M' := Tr.set .e (base + l.i) blk) (fun b blk hb => by cases hb) (fun b hb => by
        rw [Tr.get_set]
        by_cases e : b = base + l.i
        · rw [e, hnF] at hb; cases hb
        · rw [if_neg e]; rfl) hS
      rw [afterM_set s.m _ blk hmn] at hS'
      have hm : l.mem base s.m = setF s.m (base + l.i) blk := by unfold Lab.mem; rw [hk]
      have hc : l.ctr s.ct = s.ct := by unfold Lab.ctr; rw [hk]
      have hv : l.val = v := by unfold Lab.val; rw [hk]
      refine ⟨fun _ _ => trivial, ?_⟩
      rw [Oper.semAt_eq _ _ _ (compOp_noDefer hop), hr]
      refine hK E' _ _ w' (by rw [hm]; exact hS') (fun b hb => ?_) (by rw [hc]; exact Nat.le_refl _) ?_
      · rcases hb with hb | hb
        · exact .inl hb
        · exact .inr (by rw [hb]; exact ⟨by omega, by rw [hc]; exact hfree.2⟩)
      · rw [hdst, hv, hm, hc]
        refine h.next hS' (fun b hb hc => ?_) (Nat.le_refl _) (fun i hi => ⟨fun hx => ?_, (h.res i hi.1).2⟩) hd hb
        · rcases hc with hc | hc
          · exact h.fr b hb hc
          · have := hfree.2; omega
        · rcases hx with hx | hx
          · exact (h.res i hi.1).1 hx
          · exact hi.2 (by omega)
    · cases hop
  | ef v M1 F1 M' ct ct' =>
    rw [hk] at hcan
    rw [hguard, hopc] at hcan
    obtain ⟨h1, h0, eo, rfl, hef⟩ := hcan
    rw [if_pos h1]
    rcases hop with hop | hop
    · have hrel1 : Rel P E F1 M1 c w := h.rel.part hef.sub hef.ro
      have hfr : Fresh c ct := by rw [← h0]; exact h.fr
      refine e_op (rd := rd) hcall hy (h.cx hrel1) hfr hop hef.run K Q fun E' c' w' hS hG hb => ?_
      have hS' := h.rel.step hef.sub hef.new hS
      have hm : l.mem base s.m = afterM M1 M' s.m := by unfold Lab.mem; rw [hk]
      have hc : l.ctr s.ct = ct' := by unfold Lab.ctr; rw [hk]
      have hv : l.val = v := by unfold Lab.val; rw [hk]
      have hle := h.le
      have hGle := hG.le
      refine hK E' c' _ w' (by rw [hm]; exact hS') (fun b hb => ?_) (by rw [hc, h0]; exact hGle) ?_
      · rcases hG.new b hb with h2 | h2
        · exact .inl h2
        · exact .inr (by rw [hc]; exact ⟨by omega, h2.2⟩)
      · rw [hdst, hv, hm, hc]
        refine h.next hS' (hfr.grow hG) (by rw [h0]; exact hGle) (fun i hi => ?_) hd hb
        have := h.res i hi.1
        refine ⟨fun hx => ?_, by omega⟩
        rcases hG.new _ hx with h2 | h2
        · exact this.1 h2
        · omega
    · cases hop
theorem mask1_iff (ms : List Nat) : ∀ (es : List Edge) (x : Nat), testBit (mask1 ms es) x = true ↔ ∃ e ∈ es, Region.binds .any e = true ∧ (e.on = x ∨ testBit ((ms[e.on]?).getD 0) x = true) := by
  have key : ∀ m i, testBit m i = Nat.testBit m i := by
    intro m i
    show Nat.beq (m / 2 ^ i % 2) 1 = Nat.testBit m i
    rw [beqN, Nat.testBit_eq_decide_div_mod_eq]
  intro es
  induction es with
  | nil => intro x; rw [key]; simp [mask1]
  | cons e r ih =>
    intro x
    rw [mask1]
    cases hb : Region.binds .any e with
    | true =>
      rw [cond_true, key]
      show Nat.testBit ((2 ^ e.on ||| (ms[e.on]?).getD 0) ||| mask1 ms r) x = true ↔ _
      rw [Nat.testBit_or, Nat.testBit_or, Bool.or_eq_true, Bool.or_eq_true, ← key (mask1 ms r), ih, Nat.testBit_two_pow, ← key]
      constructor
      · rintro ((h | h) | ⟨e', h1, h2⟩)
        · exact ⟨e, by simp, hb, .inl (by simpa using h)⟩
        · exact ⟨e, by simp, hb, .inr h⟩
        · exact ⟨e', List.mem_cons_of_mem _ h1, h2⟩
      · rintro ⟨e', h1, h2, h3⟩
        rcases List.mem_cons.1 h1 with rfl | h1
        · rcases h3 with h3 | h3
          · exact .inl (.inl (by simpa using h3))
          · exact .inl (.inr h3)
        · exact .inr ⟨e', h1, h2, h3⟩
    | false =>
      rw [cond_false, ih]
      constructor
      · rintro ⟨e', h1, h2⟩; exact ⟨e', List.mem_cons_of_mem _ h1, h2⟩
      · rintro ⟨e', h1, h2, h3⟩
        rcases List.mem_cons.1 h1 with rfl | h1
        · rw [hb] at h2; cases h2
        · exact ⟨e', h1, h2, h3⟩
theorem testBit_lt {m n x : Nat} (h : m < 2 ^ n) (hx : testBit m x = true) : x < n := by
  have key : testBit m x = Nat.testBit m x := by
    show Nat.beq (m / 2 ^ x % 2) 1 = Nat.testBit m x
    rw [beqN, Nat.testBit_eq_decide_div_mod_eq]
  rw [key] at hx
  rcases Nat.lt_or_ge x n with h1 | h1
  · exact h1
  · have : m < 2 ^ x := Nat.lt_of_lt_of_le h (Nat.pow_le_pow_right (by omega) h1)
    rw [Nat.testBit_lt_two_pow this] at hx; cases hx
structure LabOk (P : Program) (nt : Nat) (ops : Array Oper) (ms : List Nat) (l : Lab) (o : Oper) : Prop where
  op : ops[l.i]? = some o
  co : compO P nt ops o = some l.co
  mask : l.mask = mask1 ms o.after.toList
  self : testBit l.mask l.i = false
  lt : l.mask < 2 ^ ops.size
theorem any_ok (hcall : CallOk P k) (hy : YieldOk P k) {ops : Array Oper} {ms : List Nat} (hms : ∀ (j : Nat) (o : Oper), ops[j]? = some o → ms[j]? = some (mask1 ms o.after.toList)) {Q : Exit → Act → World → Prop} {s' : SS} :
    ∀ (fuel : Nat) (L : List Lab) (listed : Array Bool) (E : Env) (c : Nat → Prop) (w : World) (a : Act) (s : SS), L.length ≤ fuel → Chain k base k.F L s s' → L.Pairwise (PairR base) →
    SM P Bd k.F rd nt base d E c w a s (fun j => ∃ l ∈ L, l.i = j) → listed.size = ops.size → (∀ j, j < ops.size → (listed.getD j true = false ↔ ∃ l ∈ L, l.i = j)) →
    (∀ (j : Nat) (o : Oper), ops[j]? = some o → listed.getD j false = true → ∀ x, testBit (mask1 ms o.after.toList) x = true → listed.getD x false = true) →
    (∀ l ∈ L, ∃ o, LabOk P nt ops ms l o) →
    (∀ E' c' a' w', StpM P k.F E s.m c w E' s'.m c' w' → (∀ b, c' b → c b ∨ (base ≤ b ∧ b < s'.ct)) → s.ct ≤ s'.ct → SM P Bd k.F rd nt base d E' c' w' a' s' (fun _ => False) → Q .normal a' w') →
    StpM P k.F E s.m c w E s.m c w → wpAnyIn (fence E rd) 0 P .any ops Q fuel listed a w := by
  intro fuel
  induction fuel with
  | zero =>
    intro L listed E c w a s hlen hC hPW hSM hsz hun hdown hlab hQ hrefl
    have hL : L = [] := by cases L <;> simp_all
    subst hL
    have hs : s = s' := hC
    subst hs
    refine ⟨?_, ?_⟩
    · rw [List.eq_nil_iff_forall_not_mem]
      intro j hj
      obtain ⟨h0, o, ho, _⟩ := mem_ready.1 hj
      have hjlt : j < ops.size := (Array.getElem?_eq_some_iff.1 ho).1
      obtain ⟨l, hl, _⟩ := (hun j hjlt).1 h0
      cases hl
    · refine hQ E c a w hrefl (fun b hb => .inl hb) (Nat.le_refl _) ?_
      exact { hSM with res := fun i hi => hi.elim }
  | succ fuel ih =>
    intro L listed E c w a s hlen hC hPW hSM hsz hun hdown hlab hQ hrefl
    refine ⟨?_, ?_⟩
    · intro hr
      cases L with
      | nil =>
        have hs : s = s' := hC
        subst hs
        refine hQ E c a w hrefl (fun b hb => .inl hb) (Nat.le_refl _) ?_
        exact { hSM with res := fun i hi => hi.elim }
      | cons h r =>
        exfalso
        obtain ⟨o, hlo⟩ := hlab h (List.mem_cons_self ..)
        have hlt : h.i < ops.size := (Array.getElem?_eq_some_iff.1 hlo.op).1
        have : h.i ∈ Region.ready .any ops listed := by
          refine mem_ready.2 ⟨(hun h.i hlt).2 ⟨h, List.mem_cons_self .., rfl⟩, o, hlo.op, fun e he hb => ?_⟩
          have htb : testBit h.mask e.on = true := by
            rw [hlo.mask]
            exact (mask1_iff ms _ _).2 ⟨e, by simpa using he, hb, .inl rfl⟩
          have helt := testBit_lt hlo.lt htb
          cases hg : listed.getD e.on false with
          | true => rfl
          | false =>
            exfalso
            have hg' : listed.getD e.on true = false := by
              have h1 : e.on < listed.size := by omega
              simp [Array.getD, h1] at hg ⊢; exact hg
            obtain ⟨l, hl, hli⟩ := (hun e.on helt).1 hg'
            rcases List.mem_cons.1 hl with rfl | hl
            · rw [← hli, hlo.self] at htb; cases htb
            · have := ((List.pairwise_cons.1 hPW).1 l hl).1
              rw [hli, htb] at this; cases this
        rw [hr] at this; cases this
    · intro i hi
      obtain ⟨h0, oi, hoi, hall⟩ := mem_ready.1 hi
      have hilt : i < ops.size := (Array.getElem?_eq_some_iff.1 hoi).1
      obtain ⟨y, hyL, rfl⟩ := (hun i hilt).1 h0
      obtain ⟨L1, L2, rfl⟩ := List.append_of_mem hyL
      obtain ⟨o, hlo⟩ := hlab y hyL
      have hoo : o = oi := by have := hlo.op; rw [hoi] at this; exact (Option.some.inj this).symm
      subst hoo
      have hmy : ∀ x, testBit y.mask x = true → listed.getD x false = true := by
        intro x hx
        rw [hlo.mask] at hx
        obtain ⟨e, he, hb, hx⟩ := (mask1_iff ms _ _).1 hx
        have hle := hall e (by simpa using he) hb
        rcases hx with hx | hx
        · rw [← hx]; exact hle
        · have helt : e.on < ops.size := by
            rcases Nat.lt_or_ge e.on listed.size with h1 | h1
            · omega
            · have h2 : ¬ e.on < listed.size := by omega
              simp [Array.getD, h2] at hle
          have hoe : ops[e.on]? = some ops[e.on] := Array.getElem?_eq_some_iff.2 ⟨helt, rfl⟩
          rw [hms e.on _ hoe] at hx
          exact hdown e.on _ hoe hle x hx
      have hpw1 : ∀ x ∈ L1, PairR base x y := by
        intro x hx
        exact (List.pairwise_append.1 hPW).2.2 x hx y (List.mem_cons_self ..)
      have hunl : ∀ x ∈ L1 ++ y :: L2, listed.getD x.i true = false := by
        intro x hx
        obtain ⟨ox, hox⟩ := hlab x hx
        exact (hun x.i (Array.getElem?_eq_some_iff.1 hox.op).1).2 ⟨x, hx, rfl⟩
      have hap : ∀ x ∈ L1, Apart base x y := by
        intro x hx
        rcases (hpw1 x hx).2.2 with hb | hb
        · exfalso
          have h1 := hmy _ hb
          have h2 := hunl x (List.mem_append_left _ hx)
          rcases Nat.lt_or_ge x.i listed.size with h3 | h3
          · simp [Array.getD, h3] at h1 h2; rw [h1] at h2; cases h2
          · have h4 : ¬ x.i < listed.size := by omega
            simp [Array.getD, h4] at h1
        · exact hb
      obtain ⟨s1, hT, hC'⟩ := Chain.move L1 s hap hC
      refine tn_op hcall hy hSM ⟨y, hyL, rfl⟩ hT hlo.op hlo.co fun E' c' a' w' hS hnew hct hSM' => ?_
      have hPW' : (L1 ++ L2).Pairwise (PairR base) := hPW.sublist (List.Sublist.append_left (List.sublist_cons_self ..) _)
      have hmem : ∀ x, x ∈ L1 ++ L2 → x ∈ L1 ++ y :: L2 := by
        intro x hx
        rcases List.mem_append.1 hx with hx | hx
        · exact List.mem_append_left _ hx
        · exact List.mem_append_right _ (List.mem_cons_of_mem _ hx)
      have hne : ∀ x, x ∈ L1 ++ L2 → x.i ≠ y.i := by
        intro x hx
        rcases List.mem_append.1 hx with hx | hx
        · exact (hpw1 x hx).2.1
        · have := (List.pairwise_cons.1 (List.pairwise_append.1 hPW).2.1).1 x hx
          exact fun e => this.2.1 e.symm
      have hback : ∀ x, x ∈ L1 ++ y :: L2 → x.i ≠ y.i → x ∈ L1 ++ L2 := by
        intro x hx hxi
        rcases List.mem_append.1 hx with hx | hx
        · exact List.mem_append_left _ hx
        · rcases List.mem_cons.1 hx with rfl | hx
          · exact absurd rfl hxi
          · exact List.mem_append_right _ hx
      have hfe : fence E rd = fence E' rd := (fence_ext hS.ext hSM.rd).symm
      rw [hfe]
      refine ih (L1 ++ L2) (listed.setIfInBounds y.i true) E' c' w' a' s1 ?_ hC' hPW' ?_ (by simpa using hsz) ?_ ?_ (fun l hl => hlab l (hmem l hl)) ?_ ?_
      · simp only [List.length_append, List.length_cons] at hlen ⊢; omega
      · refine { hSM' with res := fun j hj => ?_ }
        obtain ⟨x, hx, hxj⟩ := hj
        exact hSM'.res j ⟨⟨x, hmem x hx, hxj⟩, by rw [← hxj]; exact hne x hx⟩
      · intro j hj
        by_cases e : j = y.i
        · subst e
          constructor
          · intro h; simp [Array.getD, hsz, hilt] at h
          · rintro ⟨x, hx, hxj⟩; exact absurd hxj (hne x hx)
        · rw [getD_set_ne true (Ne.symm e), hun j hj]
          constructor
          · rintro ⟨x, hx, hxj⟩; exact ⟨x, hback x hx (by rw [hxj]; exact e), hxj⟩
          · rintro ⟨x, hx, hxj⟩; exact ⟨x, hmem x hx, hxj⟩
      · intro j oj hoj hl x hx
        by_cases e : j = y.i
        · subst e
          have : oj = o := by rw [hlo.op] at hoj; exact (Option.some.inj hoj).symm
          subst this
          rw [← hlo.mask] at hx
          exact getD_set_true (hmy x hx)
        · rw [getD_set_ne false (Ne.symm e)] at hl
          exact getD_set_true (hdown j oj hoj hl x hx)
      · intro E2 c2 a2 w2 hS2 hnew2 hct2 hSM2
        refine hQ E2 c2 a2 w2 (hS.trans hS2) (fun b hb => ?_) (Nat.le_trans hct hct2) hSM2
        rcases hnew2 b hb with h1 | h1
        · rcases hnew b h1 with h2 | h2
          · exact .inl h2
          · exact .inr ⟨h2.1, by omega⟩
        · exact .inr h1
      · exact ⟨.refl _ _, fun _ h => h, hS.rel, fun b hb => .inl ⟨b, hb, rfl⟩, fun _ _ _ => rfl, Nat.le_refl _, rfl, rfl, rfl⟩
end
end Go.Proofs.YtaogopbhjinmoaaGreatDoor.Ev
namespace Go.Proofs.YtaogopbhjinmoaaGreatDoor.Ev
open Go
theorem dregC_some {ops : Array Oper} {cos : List CO} {n : Nat} {l : List (Nat × Nat × CO)} (h : dregC ops cos = .dreg n l) :
    n = ops.size ∧ l = canon (Region.before ops).toList cos ops.size 0 ∧ regOk ops.toList (Region.before ops).toList ops.size l = true := by
  unfold dregC dregD at h
  cases hr : regOk ops.toList (Region.before ops).toList ops.size (canon (Region.before ops).toList cos ops.size 0) with
  | false => rw [hr] at h; cases h
  | true =>
    rw [hr, cond_true] at h
    injection h with h1 h2
    subst h1 h2
    exact ⟨rfl, rfl, hr⟩
theorem canon_len (ms : List Nat) (cos : List CO) : ∀ (fuel done : Nat), (canon ms cos fuel done).length ≤ fuel
  | 0, _ => Nat.le_refl _
  | fuel + 1, done => by
    rw [canon]
    split
    · rw [List.length_cons]
      have := canon_len ms cos fuel
      exact Nat.succ_le_succ (this _)
    · simp
theorem canon_mem (ms : List Nat) (cos : List CO) : ∀ (fuel done : Nat) (i m : Nat) (o : CO), (i, m, o) ∈ canon ms cos fuel done → cos[i]? = some o ∧ ms[i]? = some m
  | 0, _, _, _, _, h => by cases h
  | fuel + 1, done, i, m, o, h => by
    rw [canon] at h
    split at h
    · rename_i o' m' i' hpick
      rcases List.mem_cons.1 h with h | h
      · injection h with h1 h2; injection h2 with h2 h3
        subst h1 h2 h3
        have hmem : ((o, m), i) ∈ (cos.zip ms).zipIdx := by
          split at hpick
          · rename_i r hr
            obtain rfl := Option.some.inj hpick
            exact (List.mem_filter.1 (List.mem_of_find?_eq_some hr)).1
          · exact (List.mem_filter.1 (List.mem_of_mem_head? hpick)).1
        have h1 := List.mem_zipIdx_iff_getElem?.1 hmem
        have h2 : (cos.zip ms)[i]? = some (o, m) := h1
        rw [List.getElem?_zip_eq_some] at h2
        exact h2
      · exact canon_mem ms cos fuel _ i m o h
    · cases h
theorem compOs_get {P : Program} {nt : Nat} {ops : Array Oper} : ∀ (l : List Oper) (cos : List CO), compOs P nt ops l = some cos → ∀ (i : Nat) (co : CO), cos[i]? = some co → ∃ o, l[i]? = some o ∧ compO P nt ops o = some co
  | [], cos, h, i, co, hi => by
    obtain rfl := Option.some.inj h
    cases hi
  | o :: l, cos, h, i, co, hi => by
    rw [compOs] at h
    split at h
    · rename_i c r h1 h2
      obtain rfl := Option.some.inj h
      cases i with
      | zero => exact ⟨o, rfl, by simp at hi; rw [← hi]; exact h1⟩
      | succ i => exact compOs_get l r h2 i co (by simpa using hi)
    · cases h
theorem elemsOk_mem {ms : List Nat} {n : Nat} {ops : List Oper} : ∀ {l : List (Nat × Nat × CO)}, elemsOk ms n ops l = true → ∀ x ∈ l, elemOk ms n ops x = true
  | [], _, _, h => by cases h
  | z :: r, h, y, hy => by
    simp only [elemsOk, Bool.and_eq_true] at h
    rcases List.mem_cons.1 hy with rfl | hy
    · exact h.1
    · exact elemsOk_mem h.2 y hy
theorem elemOk_some {ms : List Nat} {n : Nat} {ops : List Oper} {x : Nat × Nat × CO} (h : elemOk ms n ops x = true) : ∃ o, ops[x.1]? = some o ∧ x.2.1 = mask1 ms o.after.toList ∧ testBit x.2.1 x.1 = false ∧ x.2.1 < 2 ^ n := by
  unfold elemOk at h
  split at h
  · cases h
  · rename_i o ho
    rw [beqN, bltN] at h
    simp only [Bool.and_eq_true, Bool.not_eq_true', decide_eq_true_eq] at h
    exact ⟨o, ho, h.1, h.2.1, h.2.2⟩
theorem hasIdx_mem {i : Nat} : ∀ {l : List (Nat × Nat × CO)}, hasIdx i l = true → ∃ m o, (i, m, o) ∈ l
  | [], h => by cases h
  | (j, m, o) :: r, h => by
    rw [hasIdx, beqN] at h
    by_cases e : j = i
    · exact ⟨m, o, by rw [e]; simp⟩
    · simp [e] at h
      obtain ⟨m', o', h'⟩ := hasIdx_mem h
      exact ⟨m', o', List.mem_cons_of_mem _ h'⟩
theorem coversOk_mem {l : List (Nat × Nat × CO)} : ∀ {n : Nat}, coversOk l n = true → ∀ i, i < n → hasIdx i l = true
  | 0, _, _, h => by omega
  | n + 1, h, i, hi => by
    simp only [coversOk, Bool.and_eq_true] at h
    by_cases e : i = n
    · rw [e]; exact h.1
    · exact coversOk_mem h.2 i (by omega)
theorem drOk_of {P : Program} (hm : P.follows .mixedOrders = true) {k : Kn} (hcall : CallOk P k) (hy : YieldOk P k) : DrOk P k := by
  intro F rd nt id ops cos hcos n l hd t d M ct e t' d' M' ct' hx Bd E c w a h Q hQ
  obtain ⟨rfl, hl, hreg⟩ := dregC_some hd
  unfold regOk at hreg
  rw [Bool.and_eq_true, Bool.and_eq_true] at hreg
  obtain ⟨hel, hcov, hpairs⟩ := hreg
  have hx' : dEnd d (dOps (knF k F) ct l (.mk t M (ct + ops.size) [] [])) = .k e (.mk t' d' M' ct') := by
    have : fN (Nat.add ct ops.size) (fun c' => dEnd d (dOps (knF k F) ct l (.mk t M c' [] []))) = .k e (.mk t' d' M' ct') := hx
    rwa [fN_eq] at this
  cases hdo : dOps (knF k F) ct l (.mk t M (ct + ops.size) [] []) with
  | none => rw [hdo] at hx'; cases hx'
  | some ds =>
    obtain ⟨t2, M2, c2, p2, r2⟩ := ds
    rw [hdo, dEnd, Tr.force_eq] at hx'
    injection hx' with g1 g2; injection g2 with g2 g3 g4 g5
    subst g1 g2 g3 g4 g5
    have hkF : (knF k F).F = F := knF_F k F
    have hI0 : DInv ct (knF k F).F M [] := ⟨fun _ _ _ h => (by cases h), .nil, fun _ _ _ h => (by cases h)⟩
    obtain ⟨L, hL, hC, hPW, hI, _⟩ := dOps_chain l t M (ct + ops.size) [] [] t2 M2 c2 p2 r2 hdo hpairs hI0 (fun q hq => by cases hq)
    have hLl : ∀ x ∈ L, x.trip ∈ l := fun x hx => by rw [← hL]; exact List.mem_map_of_mem hx
    have hlab : ∀ x ∈ L, ∃ o, LabOk P nt ops (Region.before ops).toList x o := by
      intro x hx
      have hm1 := hLl x hx
      obtain ⟨o, ho, hmask, hself, hlt⟩ := elemOk_some (elemsOk_mem hel _ hm1)
      have hcm := canon_mem _ _ _ _ _ _ _ (by rw [← hl]; exact hm1)
      obtain ⟨o2, ho2, hco⟩ := compOs_get _ _ hcos x.i x.co hcm.1
      have : o2 = o := by rw [show ops.toList[x.i]? = some o from ho] at ho2; exact (Option.some.inj ho2).symm
      subst this
      have ho3 : ops.toList[x.i]? = some o2 := ho
      exact ⟨o2, by simpa using ho3, hco, hmask, hself, hlt⟩
    have hms : ∀ (j : Nat) (o : Oper), ops[j]? = some o → (Region.before ops).toList[j]? = some (mask1 (Region.before ops).toList o.after.toList) := by
      intro j o hj
      obtain ⟨m, co, hmem⟩ := hasIdx_mem (coversOk_mem hcov j (Array.getElem?_eq_some_iff.1 hj).1)
      obtain ⟨o2, ho2, hmask, _, _⟩ := elemOk_some (elemsOk_mem hel _ hmem)
      have hcm := canon_mem _ _ _ _ _ _ _ (by rw [← hl]; exact hmem)
      have : o2 = o := by
        have h1 : ops.toList[j]? = some o2 := ho2
        have h2 : ops.toList[j]? = some o := by simpa using hj
        rw [h1] at h2; exact Option.some.inj h2
      subst this
      rw [hcm.2]
      exact congrArg some hmask
    have hidx : ∀ j, (∃ x ∈ L, x.i = j) ↔ j < ops.size := by
      intro j
      constructor
      · rintro ⟨x, hx, rfl⟩
        obtain ⟨o, ho⟩ := hlab x hx
        exact (Array.getElem?_eq_some_iff.1 ho.op).1
      · intro hj
        obtain ⟨m, co, hmem⟩ := hasIdx_mem (coversOk_mem hcov j hj)
        rw [← hL] at hmem
        obtain ⟨x, hx, hxe⟩ := List.mem_map.1 hmem
        exact ⟨x, hx, by injection hxe⟩
    have hlen : L.length ≤ ops.size := by
      have : L.length = l.length := by rw [← hL]; simp
      rw [this, hl]; exact canon_len _ _ _ _
    refine wpIn_region_any hm ?_
    have hmem0 : ∀ b, (ssOf t M (ct + ops.size) []).m b = M.get b := fun b => rfl
    have hrel0 : RelM P E F (ssOf t M (ct + ops.size) []).m c { w with drawn := w.drawn + 1 } := RelM.of (h.cx.rel.world (w' := { w with drawn := w.drawn + 1 }) rfl) hmem0
    have hSM : SM P Bd (knF k F).F rd nt ct d E c { w with drawn := w.drawn + 1 } a (ssOf t M (ct + ops.size) []) (fun j => ∃ x ∈ L, x.i = j) := by
      rw [hkF]
      refine ⟨hrel0, h.cx.glob, h.cx.big, h.cx.tr, h.cx.bt, fun b hb => h.fr b ?_, Nat.le_add_right _ _, fun i hi => ?_, h.df, h.dc, h.sz, h.rd⟩
      · have : ct + ops.size ≤ b := hb
        omega
      · have h1 := (hidx i).1 hi
        exact ⟨h.fr _ (Nat.le_add_right _ _), by show ct + i < ct + ops.size; omega⟩
    have hcall' : CallOk P (knF k F) := by
      intro F' f args M ct v M' ct' hc
      exact hcall F' f args M ct v M' ct' (by cases k; exact hc)
    have hy' : YieldOk P (knF k F) := by
      intro F' l args M ct v M' ct' hc
      exact hy F' l args M ct v M' ct' (by cases k; exact hc)
    refine any_ok hcall' hy' hms ops.size L (Array.replicate ops.size false) E c _ a _ hlen hC hPW hSM (by simp) ?_ ?_ hlab ?_ ?_
    · intro j hj
      rw [hidx j]
      simp [Array.getD, hj]
    · intro j o hj hl'
      exfalso
      have hjs := (Array.getElem?_eq_some_iff.1 hj).1
      simp [Array.getD, hjs] at hl'
    · intro E' c' a' w' hS hnew hct hSM'
      rw [hkF] at hS hSM'
      refine hQ a' w' ⟨E', c', ?_, ?_, ?_⟩
      · have hfin : ∀ b, (ssOf t2 M2 c2 p2).m b = (mergeAll p2 M2).get b := fun b => (mergeAll_spec p2 M2 hI.nd b).symm
        refine ⟨hS.ext, hS.le, Rel.ofM hS.rel hfin, ?_, ?_, hS.size, hS.os, hS.output, hS.tape⟩
        · intro b hb
          rcases hS.own b (by rw [hfin b]; intro e; rw [e] at hb; cases hb) with ⟨b0, h0, e0⟩ | h0
          · refine .inl ⟨b0, ?_, e0⟩
            have h1 : M.get b0 ≠ none := h0
            cases hM : M.get b0 with
            | none => exact absurd hM h1
            | some _ => rfl
          · exact .inr h0
        · intro r hr hn
          refine hS.frame r hr fun b hb => hn b ?_
          have h1 : M.get b ≠ none := hb
          cases hM : M.get b with
          | none => exact absurd hM h1
          | some _ => rfl
      · refine ⟨?_, hnew⟩
        have : ct + ops.size ≤ c2 := hct
        omega
      · have hfin : ∀ b, (ssOf t2 M2 c2 p2).m b = (mergeAll p2 M2).get b := fun b => (mergeAll_spec p2 M2 hI.nd b).symm
        exact ⟨⟨Rel.ofM hS.rel hfin, hSM'.glob, hSM'.big, hSM'.tr, hSM'.bt⟩, hSM'.fr, hSM'.df, hSM'.dc, hSM'.sz, hSM'.rd⟩
    · rw [hkF]
      exact ⟨.refl _ _, fun _ h => h, hrel0, fun b hb => .inl ⟨b, hb, rfl⟩, fun _ _ _ => rfl, Nat.le_refl _, rfl, rfl, rfl⟩
theorem exec_sound {P : Program} (hm : P.follows .mixedOrders = true) {Φ : Nat → Option CF} (hΦ : PhiOk P Φ) (n : Nat) : ExOk P (exec Φ n) :=
  (exec_ok hΦ (fun ex hex rd fn F => drOk_of hm (callOk_of hΦ hex rd fn F) (yieldOk_of hex rd fn F)) n).1
end Go.Proofs.YtaogopbhjinmoaaGreatDoor.Ev
namespace Go.Proofs.YtaogopbhjinmoaaGreatDoor.Ev
open Go
def E0 : Env := ⟨fun b => b, fun _ => 0, fun _ => 0⟩
def c0 (b : Nat) : Prop := b < 1000
def isT : RC → Bool
  | .k (.b true) _ _ => true
  | _ => false
noncomputable def runF (Φ : Nat → Option CF) (fuel : Nat) (F : RO) (f : Nat) (args : List V) : RC := callC (exec Φ fuel) F f args .e 1000 (Φ f)
theorem isT_some {r : RC} (h : isT r = true) : ∃ M c, r = .k (.b true) M c := by
  unfold isT at h
  split at h
  · exact ⟨_, _, rfl⟩
  · cases h
theorem kept_of {P : Program} {F : RO} {E E' : Env} {c c' : Nat → Prop} {w w' : World} {M' : Mem} (h : Stp P F E .e c w E' M' c' w') (may : MemPlace → Prop) : w.keptBut w' may := by
  refine ⟨h.os, h.output, fun i hi => ?_⟩
  have e : w'.heap[i]? = w.heap[i]? := h.frame i hi (fun b hb => by cases hb)
  rw [e]
  cases w.heap[i]? with
  | none => rfl
  | some o =>
    cases o with
    | cells a t fr => exact ⟨rfl, rfl, rfl, fun _ _ => rfl⟩
    | map es cl => exact .inr ⟨rfl, rfl⟩
    | _ => rfl
theorem rel_none {P : Program} {W : World} : Rel P E0 [] .e c0 W :=
  ⟨fun b blk hb => (by cases hb), fun b b' _ _ e => e, fun b hb => (by cases hb)⟩
def TrAll (p : Nat → CF → Prop) : Tr CF → Prop
  | .e => True
  | .n l v r => (match v with | none => True | some c => p 0 c) ∧ TrAll (fun j => p (2 * j + 1)) l ∧ TrAll (fun j => p (2 * j + 2)) r
theorem TrAll.get : ∀ (t : Tr CF) (p : Nat → CF → Prop), TrAll p t → ∀ k c, t.get k = some c → p k c
  | .e, p, _, k, c, h => by cases h
  | .n l v r, p, ht, k, c, h => by
    rw [Tr.get_n] at h
    obtain ⟨h0, h1, h2⟩ := ht
    by_cases e : k = 0
    · rw [if_pos e] at h
      subst e
      rw [h] at h0
      exact h0
    · rw [if_neg e] at h
      by_cases e2 : k % 2 = 0
      · rw [if_pos e2] at h
        have := TrAll.get r _ h2 _ _ h
        rw [show 2 * (k / 2 - 1) + 2 = k by omega] at this
        exact this
      · rw [if_neg e2] at h
        have := TrAll.get l _ h1 _ _ h
        rw [show 2 * (k / 2) + 1 = k by omega] at this
        exact this
abbrev OkF (P : Program) (k : Nat) (cf : CF) : Prop := CfOk P k cf
theorem phiOk_of {P : Program} {t : Tr CF} (h : TrAll (OkF P) t) : PhiOk P (fun k => t.get k) := fun k c hk => TrAll.get t _ h k c hk
end Go.Proofs.YtaogopbhjinmoaaGreatDoor.Ev
namespace Go.Proofs.YtaogopbhjinmoaaGreatDoor.Ev
open Go
def LR (a b : Rs) : Prop := a = .f ∨ a = b
def LC (a b : RC) : Prop := a = .f ∨ a = b
def LO {α : Type} (a b : Option α) : Prop := a = none ∨ a = b
def ExLe (ex ex' : ExF) : Prop := ∀ rd fn F c s, LR (ex rd fn F c s) (ex' rd fn F c s)
section
variable {Φ : Nat → Option CF} {ex ex' : ExF} {rd : Option Nat} {fn : Nat} {F : RO}
theorem callC_le (h : ExLe ex ex') (F : RO) (f : Nat) (args : List V) (M : Mem) (c : Nat) (o : Option CF) : LC (callC ex F f args M c o) (callC ex' F f args M c o) := by
  cases o with
  | none => exact .inl rfl
  | some cf =>
    cases cf with
    | orc g => exact .inr rfl
    | mk n res body =>
      show LC (finish res F (ex none f F body (.mk (argTr n args) [] M c))) (finish res F (ex' none f F body (.mk (argTr n args) [] M c)))
      rcases h none f F body (.mk (argTr n args) [] M c) with e | e
      · rw [e]; exact .inl rfl
      · rw [e]; exact .inr rfl
theorem callF_le (h : ExLe ex ex') (f : Nat) (args : List V) (M : Mem) (c : Nat) : LC (callF (.mk Φ ex rd fn F) f args M c) (callF (.mk Φ ex' rd fn F) f args M c) := callC_le h F f args M c _
theorem y_body_le (h : ExLe ex ex') (l fn' : Nat) (body : CC) (t : T) (M : Mem) (c : Nat) (lp : Lp) : LC (y_body (.mk Φ ex rd fn F) l fn' body t M c lp) (y_body (.mk Φ ex' rd fn F) l fn' body t M c lp) := by
  cases lp with
  | f => exact .inl rfl
  | k s pe fn2 tm ps a b d =>
    cases s with
    | ready =>
      show LC ((M.set l (.loop .busy pe fn2 tm ps a b d)).force fun M => y_done l (ex (some l) fn' F body (.mk t [] M c))) ((M.set l (.loop .busy pe fn2 tm ps a b d)).force fun M => y_done l (ex' (some l) fn' F body (.mk t [] M c)))
      rw [Tr.force_eq, Tr.force_eq]
      rcases h (some l) fn' F body (.mk t [] (M.set l (.loop .busy pe fn2 tm ps a b d)) c) with e | e
      · rw [e]; exact .inl rfl
      · rw [e]; exact .inr rfl
    | _ => exact .inl rfl
theorem y_asg_le (h : ExLe ex ex') (l fn' : Nat) (body : CC) (r : Rs) : LC (y_asg (.mk Φ ex rd fn F) l fn' body r) (y_asg (.mk Φ ex' rd fn F) l fn' body r) := by
  cases r with
  | f => exact .inl rfl
  | k e s =>
    cases e with
    | nrm =>
      obtain ⟨t, d, M, c⟩ := s
      cases d with
      | nil => exact y_body_le (Φ := Φ) (rd := rd) (fn := fn) h l fn' body t M c _
      | cons _ _ => exact .inl rfl
    | _ => exact .inl rfl
theorem y_go_le (h : ExLe ex ex') (l fn' : Nat) (asg body : CC) (M : Mem) (c : Nat) (o : Option T) : LC (y_go (.mk Φ ex rd fn F) l fn' asg body M c o) (y_go (.mk Φ ex' rd fn F) l fn' asg body M c o) := by
  cases o with
  | none => exact .inl rfl
  | some t =>
    show LC (y_asg (.mk Φ ex rd fn F) l fn' body (ex (some l) fn' F asg (.mk t [] M c))) (y_asg (.mk Φ ex' rd fn F) l fn' body (ex' (some l) fn' F asg (.mk t [] M c)))
    rcases h (some l) fn' F asg (.mk t [] M c) with e | e
    · rw [e]; exact .inl rfl
    · rw [e]; exact y_asg_le h l fn' body _
theorem callY_le (h : ExLe ex ex') (l : Nat) (args : List V) (M : Mem) (c : Nat) (lp : Lp) : LC (callY (.mk Φ ex rd fn F) l args M c lp) (callY (.mk Φ ex' rd fn F) l args M c lp) := by
  cases lp with
  | f => exact .inl rfl
  | k s pe fn2 tm ps a b d =>
    cases s with
    | ready => exact y_go_le h l fn2 a b M c _
    | _ => exact .inl rfl
theorem callV_le (h : ExLe ex ex') (v : V) (args : List V) (M : Mem) (c : Nat) : LC (callV (.mk Φ ex rd fn F) v args M c) (callV (.mk Φ ex' rd fn F) v args M c) := by
  cases v with
  | f g a b => exact callF_le (Φ := Φ) (rd := rd) (fn := fn) h g _ M c
  | y l => exact callY_le h l args M c _
  | _ => exact .inl rfl
theorem callN_le (h : ExLe ex ex') (tbl : List (Nat × Nat)) (v : V) (args : List V) (M : Mem) (c : Nat) : LC (callN tbl (.mk Φ ex rd fn F) v args M c) (callN tbl (.mk Φ ex' rd fn F) v args M c) := by
  cases v with
  | a t u =>
    show LC (invF (.mk Φ ex rd fn F) u args M c (tblF tbl t)) (invF (.mk Φ ex' rd fn F) u args M c (tblF tbl t))
    cases tblF tbl t with
    | none => exact .inl rfl
    | some f => exact callF_le (Φ := Φ) (rd := rd) (fn := fn) h f _ M c
  | _ => exact .inl rfl
theorem callI_le (h : ExLe ex ex') (v : V) (args : List V) (M : Mem) (c : Nat) : LC (callI (.mk Φ ex rd fn F) v args M c) (callI (.mk Φ ex' rd fn F) v args M c) := by
  cases v with
  | f g a b => exact callF_le (Φ := Φ) (rd := rd) (fn := fn) h g _ M c
  | _ => exact .inl rfl
theorem doE_le (h : ExLe ex ex') (o : EO) (M : Mem) (c : Nat) (t : T) : LC (doE o (.mk Φ ex rd fn F) M c t) (doE o (.mk Φ ex' rd fn F) M c t) := by
  cases o with
  | call f as => exact callF_le (Φ := Φ) (rd := rd) (fn := fn) h f _ M c
  | cv f as => exact callV_le h _ _ M c
  | inv tbl f as => exact callN_le h tbl _ _ M c
  | _ => exact .inr rfl
theorem sop_le (h : ExLe ex ex') (o : OK) (dst : Option Pos) (t : T) (d : List Nat) (M : Mem) (c : Nat) : LO (sop o (.mk Φ ex rd fn F) dst t d M c) (sop o (.mk Φ ex' rd fn F) dst t d M c) := by
  cases o with
  | q o => exact .inr rfl
  | a o => exact .inr rfl
  | e o =>
    show LO (s_e1 dst t d (doE o (.mk Φ ex rd fn F) M c t)) (s_e1 dst t d (doE o (.mk Φ ex' rd fn F) M c t))
    rcases doE_le (Φ := Φ) (rd := rd) (fn := fn) (F := F) h o M c t with e | e
    · rw [e]; exact .inl rfl
    · rw [e]; exact .inr rfl
theorem seqOp_le (h : ExLe ex ex') (o : CO) (s : St) : LO (seqOp o (.mk Φ ex rd fn F) s) (seqOp o (.mk Φ ex' rd fn F) s) := by
  obtain ⟨dst, op, g⟩ := o
  obtain ⟨t, d, M, c⟩ := s
  cases g with
  | none => exact sop_le h op dst t d M c
  | some g =>
    show LO (s_w op (.mk Φ ex rd fn F) dst t d M c (wanted t (some g))) (s_w op (.mk Φ ex' rd fn F) dst t d M c (wanted t (some g)))
    cases wanted t (some g) with
    | false => exact .inr rfl
    | true => exact sop_le h op dst t d M c
theorem seqOps_le (h : ExLe ex ex') : ∀ (ops : List CO) (s : St), LO (seqOps ops (.mk Φ ex rd fn F) s) (seqOps ops (.mk Φ ex' rd fn F) s)
  | [], s => .inr rfl
  | o :: r, s => by
    show LO (so_next (seqOps r) (.mk Φ ex rd fn F) (seqOp o (.mk Φ ex rd fn F) s)) (so_next (seqOps r) (.mk Φ ex' rd fn F) (seqOp o (.mk Φ ex' rd fn F) s))
    rcases seqOp_le (Φ := Φ) (rd := rd) (fn := fn) (F := F) h o s with e | e
    · rw [e]; exact .inl rfl
    · rw [e]
      cases seqOp o (.mk Φ ex' rd fn F) s with
      | none => exact .inl rfl
      | some s1 => exact seqOps_le h r s1
theorem d_e1_le (h : ExLe ex ex') (e : EO) (dst : Option Pos) (t : T) (c : Nat) (pend : List (Nat × Nat × Blk)) (reads : List (Nat × Nat)) (p : Pr) :
    LO (d_e1 e (.mk Φ ex rd fn F) dst t c pend reads p) (d_e1 e (.mk Φ ex' rd fn F) dst t c pend reads p) := by
  obtain ⟨F', M, saved⟩ := p
  show LO (bif pendFree F' M pend then d_e2 F' dst t pend reads saved (doE e (.mk Φ ex rd fn F') M c t) else none) (bif pendFree F' M pend then d_e2 F' dst t pend reads saved (doE e (.mk Φ ex' rd fn F') M c t) else none)
  cases pendFree F' M pend with
  | false => exact .inl rfl
  | true =>
    rcases doE_le (Φ := Φ) (rd := rd) (fn := fn) (F := F') h e M c t with e | e
    · rw [e]; exact .inl rfl
    · rw [e]; exact .inr rfl
theorem dOp_le (h : ExLe ex ex') (base : Nat) (x : Nat × Nat × CO) (s : DS) : LO (dOp (.mk Φ ex rd fn F) base x s) (dOp (.mk Φ ex' rd fn F) base x s) := by
  obtain ⟨i, mask, dst, op, g⟩ := x
  obtain ⟨t, M, c, pend, reads⟩ := s
  show LO (bif wanted t g then d_op (.mk Φ ex rd fn F) base i mask dst op t M c pend reads else _) (bif wanted t g then d_op (.mk Φ ex' rd fn F) base i mask dst op t M c pend reads else _)
  cases wanted t g with
  | false => exact .inr rfl
  | true =>
    cases op with
    | q o => exact .inr rfl
    | a o => exact .inr rfl
    | e o =>
      show LO (d_e0 o (.mk Φ ex rd fn F) mask dst t c reads (merge mask pend M)) (d_e0 o (.mk Φ ex' rd fn F) mask dst t c reads (merge mask pend M))
      obtain ⟨M1, p1⟩ := merge mask pend M
      exact d_e1_le h o dst t c p1 reads _
theorem dOps_le (h : ExLe ex ex') (base : Nat) : ∀ (ops : List (Nat × Nat × CO)) (s : DS), LO (dOps (.mk Φ ex rd fn F) base ops s) (dOps (.mk Φ ex' rd fn F) base ops s)
  | [], s => .inr rfl
  | o :: r, s => by
    rw [dOps, dOps]
    rcases dOp_le (Φ := Φ) (rd := rd) (fn := fn) (F := F) h base o s with e | e
    · rw [e]; exact .inl rfl
    · rw [e]
      cases dOp (.mk Φ ex' rd fn F) base o s with
      | none => exact .inl rfl
      | some s1 => exact dOps_le h base r s1
theorem again_le (h : ExLe ex ex') (c : CC) (s : St) : LR (again (.mk Φ ex rd fn F) c s) (again (.mk Φ ex' rd fn F) c s) := h rd fn F c s
theorem rfGo_le (h : ExLe ex ex') (f : X) (ps : List Pos) (asg body : CC) (t : T) (d : List Nat) (M : Mem) (l dn : Nat) : LR (rfGo f ps asg body (.mk Φ ex rd fn F) t d M l dn) (rfGo f ps asg body (.mk Φ ex' rd fn F) t d M l dn) := by
  show LR ((M.set l (.loop .ready .none fn t ps asg body dn)).force fun M => fN (Nat.succ l) fun c => rfDone t d l (callI (.mk Φ ex rd fn F) (f.ev t) [.y l] M c)) ((M.set l (.loop .ready .none fn t ps asg body dn)).force fun M => fN (Nat.succ l) fun c => rfDone t d l (callI (.mk Φ ex' rd fn F) (f.ev t) [.y l] M c))
  rw [Tr.force_eq, Tr.force_eq, fN_eq, fN_eq]
  rcases callI_le (Φ := Φ) (rd := rd) (fn := fn) (F := F) h (f.ev t) [.y l] (M.set l (.loop .ready .none fn t ps asg body dn)) (Nat.succ l) with e | e
  · rw [e]; exact .inl rfl
  · rw [e]; exact .inr rfl
theorem rfIn_le (h : ExLe ex ex') (f : X) (ps : List Pos) (asg body : CC) (t : T) (d : List Nat) (M : Mem) (l : Nat) (lp : Lp) : LR (rfIn f ps asg body (.mk Φ ex rd fn F) t d M l lp) (rfIn f ps asg body (.mk Φ ex' rd fn F) t d M l lp) := by
  cases lp with
  | f => exact .inl rfl
  | k s pe fn2 tm ps' a b dn => exact rfGo_le h f ps asg body t d M l dn
theorem execC_le (h : ExLe ex ex') : ∀ (c : CC) (s : St), LR (execC c (.mk Φ ex rd fn F) s) (execC c (.mk Φ ex' rd fn F) s) := by
  intro c
  induction c with
  | skip => exact fun s => .inr rfl
  | reg ops =>
    intro s
    show LR (r_reg (seqOps ops (.mk Φ ex rd fn F) s)) (r_reg (seqOps ops (.mk Φ ex' rd fn F) s))
    rcases seqOps_le (Φ := Φ) (rd := rd) (fn := fn) (F := F) h ops s with e | e
    · rw [e]; exact .inl rfl
    · rw [e]; exact .inr rfl
  | dreg n ops =>
    intro s
    obtain ⟨t, d, M, c⟩ := s
    show LR (fN (Nat.add c n) fun c' => dEnd d (dOps (.mk Φ ex rd fn F) c ops (.mk t M c' [] []))) (fN (Nat.add c n) fun c' => dEnd d (dOps (.mk Φ ex' rd fn F) c ops (.mk t M c' [] [])))
    rw [fN_eq, fN_eq]
    rcases dOps_le (Φ := Φ) (rd := rd) (fn := fn) (F := F) h c ops (.mk t M (Nat.add c n) [] []) with e | e
    · rw [e]; exact .inl rfl
    · rw [e]; exact .inr rfl
  | seq a b iha ihb =>
    intro s
    show LR (r_seq (execC b) (.mk Φ ex rd fn F) (execC a (.mk Φ ex rd fn F) s)) (r_seq (execC b) (.mk Φ ex' rd fn F) (execC a (.mk Φ ex' rd fn F) s))
    rcases iha s with e | e
    · rw [e]; exact .inl rfl
    · rw [e]
      cases execC a (.mk Φ ex' rd fn F) s with
      | f => exact .inl rfl
      | k e s1 =>
        cases e with
        | nrm => exact ihb s1
        | _ => exact .inr rfl
  | cond x a b iha ihb =>
    intro s
    show LR (c_cond x a b (execC a) (execC b) (.mk Φ ex rd fn F) s) (c_cond x a b (execC a) (execC b) (.mk Φ ex' rd fn F) s)
    unfold c_cond
    cases x.ev (stT s) with
    | b v =>
      cases v with
      | true => exact iha s
      | false => exact ihb s
    | _ => exact .inl rfl
  | block id b ih =>
    intro s
    show LR (r_block id (execC b (.mk Φ ex rd fn F) s)) (r_block id (execC b (.mk Φ ex' rd fn F) s))
    rcases ih s with e | e
    · rw [e]; exact .inl rfl
    · rw [e]; exact .inr rfl
  | loop b ih =>
    intro s
    show LR (r_loop b (.mk Φ ex rd fn F) (execC b (.mk Φ ex rd fn F) s)) (r_loop b (.mk Φ ex' rd fn F) (execC b (.mk Φ ex' rd fn F) s))
    rcases ih s with e | e
    · rw [e]; exact .inl rfl
    · rw [e]
      cases execC b (.mk Φ ex' rd fn F) s with
      | f => exact .inl rfl
      | k e s1 =>
        cases e with
        | nrm => exact again_le (Φ := Φ) h _ s1
        | _ => exact .inr rfl
  | rf f ps a b _ _ =>
    intro s
    obtain ⟨t, d, M, c⟩ := s
    cases rd with
    | some l => exact rfIn_le h f ps a b t d M c _
    | none =>
      show LR ((M.set c (.defs false)).force fun M => fN (Nat.succ c) fun c' => rfGo f ps a b (.mk Φ ex none fn F) t (c :: d) M c' c) ((M.set c (.defs false)).force fun M => fN (Nat.succ c) fun c' => rfGo f ps a b (.mk Φ ex' none fn F) t (c :: d) M c' c)
      rw [Tr.force_eq, Tr.force_eq, fN_eq, fN_eq]
      exact rfGo_le h f ps a b t (c :: d) _ _ c
  | exit id => exact fun s => .inr rfl
  | scope b tbl ihb _ =>
    intro s
    show LR (r_scope tbl (.mk Φ ex rd fn F) (execC b (.mk Φ ex rd fn F) s)) (r_scope tbl (.mk Φ ex' rd fn F) (execC b (.mk Φ ex' rd fn F) s))
    rcases ihb s with e | e
    · rw [e]; exact .inl rfl
    · rw [e]
      cases execC b (.mk Φ ex' rd fn F) s with
      | f => exact .inl rfl
      | k e s1 =>
        cases e with
        | gto l =>
          show LR (s_jump tbl (.mk Φ ex rd fn F) s1 (findL l tbl)) (s_jump tbl (.mk Φ ex' rd fn F) s1 (findL l tbl))
          cases findL l tbl with
          | none => exact .inl rfl
          | some c => exact again_le (Φ := Φ) h _ s1
        | _ => exact .inr rfl
  | tab l c r _ _ => exact fun s => .inr rfl
  | goto l => exact fun s => .inr rfl
  | ret => exact fun s => .inr rfl
  | bad => exact fun s => .inr rfl
end
theorem exec_le (Φ : Nat → Option CF) : ∀ (n : Nat), ExLe (exec Φ n) (exec Φ (n + 1))
  | 0 => fun rd fn F c s => .inl rfl
  | n + 1 => fun rd fn F c s => execC_le (exec_le Φ n) c s
theorem exec_mono (Φ : Nat → Option CF) {n : Nat} (m : Nat) : ExLe (exec Φ n) (exec Φ (n + m)) := by
  induction m with
  | zero => exact fun rd fn F c s => .inr rfl
  | succ m ih =>
    intro rd fn F c s
    rcases ih rd fn F c s with h | h
    · exact .inl h
    · rcases exec_le Φ (n + m) rd fn F c s with h2 | h2
      · exact .inl (h.trans h2)
      · exact .inr (h.trans h2)
def VR (a : Nat → Rs) (b : Rs) : Prop := b = .f ∨ ∃ n, ∀ m, n ≤ m → a m = b
def VC (a : Nat → RC) (b : RC) : Prop := b = .f ∨ ∃ n, ∀ m, n ≤ m → a m = b
def VO {α : Type} (a : Nat → Option α) (b : Option α) : Prop := b = none ∨ ∃ n, ∀ m, n ≤ m → a m = b
def ExV (ex : Nat → ExF) (ex' : ExF) : Prop := ∀ rd fn F c s, VR (fun m => ex m rd fn F c s) (ex' rd fn F c s)
section
variable {Φ : Nat → Option CF} {ex : Nat → ExF} {ex' : ExF} {rd : Option Nat} {fn : Nat} {F : RO}
theorem callC_v (h : ExV ex ex') (F : RO) (f : Nat) (args : List V) (M : Mem) (c : Nat) (o : Option CF) : VC (fun m => callC (ex m) F f args M c o) (callC ex' F f args M c o) := by
  cases o with
  | none => exact .inl rfl
  | some cf =>
    cases cf with
    | orc g => exact .inr ⟨0, fun m hm => rfl⟩
    | mk n res body =>
      show VC (fun m => finish res F (ex m none f F body (.mk (argTr n args) [] M c))) (finish res F (ex' none f F body (.mk (argTr n args) [] M c)))
      rcases h none f F body (.mk (argTr n args) [] M c) with e | ⟨n, e⟩
      · rw [e]; exact .inl rfl
      · exact .inr ⟨n, fun m hm => congrArg (finish res F) (e m hm)⟩
theorem callF_v (h : ExV ex ex') (f : Nat) (args : List V) (M : Mem) (c : Nat) : VC (fun m => callF (.mk Φ (ex m) rd fn F) f args M c) (callF (.mk Φ ex' rd fn F) f args M c) := callC_v h F f args M c _
theorem y_body_v (h : ExV ex ex') (l fn' : Nat) (body : CC) (t : T) (M : Mem) (c : Nat) (lp : Lp) : VC (fun m => y_body (.mk Φ (ex m) rd fn F) l fn' body t M c lp) (y_body (.mk Φ ex' rd fn F) l fn' body t M c lp) := by
  cases lp with
  | f => exact .inl rfl
  | k s pe fn2 tm ps a b d =>
    cases s with
    | ready =>
      show VC (fun m => (M.set l (.loop .busy pe fn2 tm ps a b d)).force fun M => y_done l (ex m (some l) fn' F body (.mk t [] M c))) ((M.set l (.loop .busy pe fn2 tm ps a b d)).force fun M => y_done l (ex' (some l) fn' F body (.mk t [] M c)))
      simp only [Tr.force_eq]
      rcases h (some l) fn' F body (.mk t [] (M.set l (.loop .busy pe fn2 tm ps a b d)) c) with e | ⟨n, e⟩
      · rw [e]; exact .inl rfl
      · exact .inr ⟨n, fun m hm => congrArg (y_done l) (e m hm)⟩
    | _ => exact .inl rfl
theorem y_asg_v (h : ExV ex ex') (l fn' : Nat) (body : CC) (r : Rs) : VC (fun m => y_asg (.mk Φ (ex m) rd fn F) l fn' body r) (y_asg (.mk Φ ex' rd fn F) l fn' body r) := by
  cases r with
  | f => exact .inl rfl
  | k e s =>
    cases e with
    | nrm =>
      obtain ⟨t, d, M, c⟩ := s
      cases d with
      | nil => exact y_body_v (Φ := Φ) (rd := rd) (fn := fn) h l fn' body t M c _
      | cons _ _ => exact .inl rfl
    | _ => exact .inl rfl
theorem y_go_v (h : ExV ex ex') (l fn' : Nat) (asg body : CC) (M : Mem) (c : Nat) (o : Option T) : VC (fun m => y_go (.mk Φ (ex m) rd fn F) l fn' asg body M c o) (y_go (.mk Φ ex' rd fn F) l fn' asg body M c o) := by
  cases o with
  | none => exact .inl rfl
  | some t =>
    show VC (fun m => y_asg (.mk Φ (ex m) rd fn F) l fn' body (ex m (some l) fn' F asg (.mk t [] M c))) (y_asg (.mk Φ ex' rd fn F) l fn' body (ex' (some l) fn' F asg (.mk t [] M c)))
    rcases h (some l) fn' F asg (.mk t [] M c) with e | ⟨n, e⟩
    · rw [e]; exact .inl rfl
    · rcases y_asg_v (Φ := Φ) (rd := rd) (fn := fn) (F := F) h l fn' body (ex' (some l) fn' F asg (.mk t [] M c)) with e2 | ⟨n2, e2⟩
      · exact .inl e2
      · exact .inr ⟨max n n2, fun m hm => by
          have h1 := e m (Nat.le_trans (Nat.le_max_left _ _) hm)
          have h2 := e2 m (Nat.le_trans (Nat.le_max_right _ _) hm)
          simp only at h1 h2 ⊢
          rw [h1, h2]⟩
theorem callY_v (h : ExV ex ex') (l : Nat) (args : List V) (M : Mem) (c : Nat) (lp : Lp) : VC (fun m => callY (.mk Φ (ex m) rd fn F) l args M c lp) (callY (.mk Φ ex' rd fn F) l args M c lp) := by
  cases lp with
  | f => exact .inl rfl
  | k s pe fn2 tm ps a b d =>
    cases s with
    | ready => exact y_go_v h l fn2 a b M c _
    | _ => exact .inl rfl
theorem callV_v (h : ExV ex ex') (v : V) (args : List V) (M : Mem) (c : Nat) : VC (fun m => callV (.mk Φ (ex m) rd fn F) v args M c) (callV (.mk Φ ex' rd fn F) v args M c) := by
  cases v with
  | f g a b => exact callF_v (Φ := Φ) (rd := rd) (fn := fn) h g _ M c
  | y l => exact callY_v h l args M c _
  | _ => exact .inl rfl
theorem callI_v (h : ExV ex ex') (v : V) (args : List V) (M : Mem) (c : Nat) : VC (fun m => callI (.mk Φ (ex m) rd fn F) v args M c) (callI (.mk Φ ex' rd fn F) v args M c) := by
  cases v with
  | f g a b => exact callF_v (Φ := Φ) (rd := rd) (fn := fn) h g _ M c
  | _ => exact .inl rfl
theorem callN_v (h : ExV ex ex') (tbl : List (Nat × Nat)) (v : V) (args : List V) (M : Mem) (c : Nat) : VC (fun m => callN tbl (.mk Φ (ex m) rd fn F) v args M c) (callN tbl (.mk Φ ex' rd fn F) v args M c) := by
  cases v with
  | a t u =>
    show VC (fun m => invF (.mk Φ (ex m) rd fn F) u args M c (tblF tbl t)) (invF (.mk Φ ex' rd fn F) u args M c (tblF tbl t))
    cases tblF tbl t with
    | none => exact .inl rfl
    | some f => exact callF_v (Φ := Φ) (rd := rd) (fn := fn) h f _ M c
  | _ => exact .inl rfl
theorem doE_v (h : ExV ex ex') (o : EO) (M : Mem) (c : Nat) (t : T) : VC (fun m => doE o (.mk Φ (ex m) rd fn F) M c t) (doE o (.mk Φ ex' rd fn F) M c t) := by
  cases o with
  | call f as => exact callF_v (Φ := Φ) (rd := rd) (fn := fn) h f _ M c
  | cv f as => exact callV_v h _ _ M c
  | inv tbl f as => exact callN_v h tbl _ _ M c
  | _ => exact .inr ⟨0, fun m hm => rfl⟩
theorem sop_v (h : ExV ex ex') (o : OK) (dst : Option Pos) (t : T) (d : List Nat) (M : Mem) (c : Nat) : VO (fun m => sop o (.mk Φ (ex m) rd fn F) dst t d M c) (sop o (.mk Φ ex' rd fn F) dst t d M c) := by
  cases o with
  | q o => exact .inr ⟨0, fun m hm => rfl⟩
  | a o => exact .inr ⟨0, fun m hm => rfl⟩
  | e o =>
    show VO (fun m => s_e1 dst t d (doE o (.mk Φ (ex m) rd fn F) M c t)) (s_e1 dst t d (doE o (.mk Φ ex' rd fn F) M c t))
    rcases doE_v (Φ := Φ) (rd := rd) (fn := fn) (F := F) h o M c t with e | ⟨n, e⟩
    · rw [e]; exact .inl rfl
    · exact .inr ⟨n, fun m hm => congrArg (s_e1 dst t d) (e m hm)⟩
theorem seqOp_v (h : ExV ex ex') (o : CO) (s : St) : VO (fun m => seqOp o (.mk Φ (ex m) rd fn F) s) (seqOp o (.mk Φ ex' rd fn F) s) := by
  obtain ⟨dst, op, g⟩ := o
  obtain ⟨t, d, M, c⟩ := s
  cases g with
  | none => exact sop_v h op dst t d M c
  | some g =>
    show VO (fun m => s_w op (.mk Φ (ex m) rd fn F) dst t d M c (wanted t (some g))) (s_w op (.mk Φ ex' rd fn F) dst t d M c (wanted t (some g)))
    cases wanted t (some g) with
    | false => exact .inr ⟨0, fun m hm => rfl⟩
    | true => exact sop_v h op dst t d M c
theorem seqOps_v (h : ExV ex ex') : ∀ (ops : List CO) (s : St), VO (fun m => seqOps ops (.mk Φ (ex m) rd fn F) s) (seqOps ops (.mk Φ ex' rd fn F) s)
  | [], s => .inr ⟨0, fun m hm => rfl⟩
  | o :: r, s => by
    show VO (fun m => so_next (seqOps r) (.mk Φ (ex m) rd fn F) (seqOp o (.mk Φ (ex m) rd fn F) s)) (so_next (seqOps r) (.mk Φ ex' rd fn F) (seqOp o (.mk Φ ex' rd fn F) s))
    rcases seqOp_v (Φ := Φ) (rd := rd) (fn := fn) (F := F) h o s with e | ⟨n, e⟩
    · rw [e]; exact .inl rfl
    · cases hs : seqOp o (.mk Φ ex' rd fn F) s with
      | none => exact .inl rfl
      | some s1 =>
        rw [hs] at e
        rcases seqOps_v h r s1 with e2 | ⟨n2, e2⟩
        · exact .inl e2
        · exact .inr ⟨max n n2, fun m hm => by
            have h1 := e m (Nat.le_trans (Nat.le_max_left _ _) hm)
            have h2 := e2 m (Nat.le_trans (Nat.le_max_right _ _) hm)
            simp only at h1 h2 ⊢
            rw [h1]; exact h2⟩
theorem d_e1_v (h : ExV ex ex') (e : EO) (dst : Option Pos) (t : T) (c : Nat) (pend : List (Nat × Nat × Blk)) (reads : List (Nat × Nat)) (p : Pr) :
    VO (fun m => d_e1 e (.mk Φ (ex m) rd fn F) dst t c pend reads p) (d_e1 e (.mk Φ ex' rd fn F) dst t c pend reads p) := by
  obtain ⟨F', M, saved⟩ := p
  show VO (fun m => bif pendFree F' M pend then d_e2 F' dst t pend reads saved (doE e (.mk Φ (ex m) rd fn F') M c t) else none) (bif pendFree F' M pend then d_e2 F' dst t pend reads saved (doE e (.mk Φ ex' rd fn F') M c t) else none)
  cases pendFree F' M pend with
  | false => exact .inl rfl
  | true =>
    rcases doE_v (Φ := Φ) (rd := rd) (fn := fn) (F := F') h e M c t with e | ⟨n, e⟩
    · rw [e]; exact .inl rfl
    · exact .inr ⟨n, fun m hm => congrArg (d_e2 F' dst t pend reads saved) (e m hm)⟩
theorem dOp_v (h : ExV ex ex') (base : Nat) (x : Nat × Nat × CO) (s : DS) : VO (fun m => dOp (.mk Φ (ex m) rd fn F) base x s) (dOp (.mk Φ ex' rd fn F) base x s) := by
  obtain ⟨i, mask, dst, op, g⟩ := x
  obtain ⟨t, M, c, pend, reads⟩ := s
  show VO (fun m => bif wanted t g then d_op (.mk Φ (ex m) rd fn F) base i mask dst op t M c pend reads else _) (bif wanted t g then d_op (.mk Φ ex' rd fn F) base i mask dst op t M c pend reads else _)
  cases wanted t g with
  | false => exact .inr ⟨0, fun m hm => rfl⟩
  | true =>
    cases op with
    | q o => exact .inr ⟨0, fun m hm => rfl⟩
    | a o => exact .inr ⟨0, fun m hm => rfl⟩
    | e o =>
      show VO (fun m => d_e0 o (.mk Φ (ex m) rd fn F) mask dst t c reads (merge mask pend M)) (d_e0 o (.mk Φ ex' rd fn F) mask dst t c reads (merge mask pend M))
      obtain ⟨M1, p1⟩ := merge mask pend M
      exact d_e1_v h o dst t c p1 reads _
theorem dOps_v (h : ExV ex ex') (base : Nat) : ∀ (ops : List (Nat × Nat × CO)) (s : DS), VO (fun m => dOps (.mk Φ (ex m) rd fn F) base ops s) (dOps (.mk Φ ex' rd fn F) base ops s)
  | [], s => .inr ⟨0, fun m hm => rfl⟩
  | o :: r, s => by
    simp only [dOps]
    rcases dOp_v (Φ := Φ) (rd := rd) (fn := fn) (F := F) h base o s with e | ⟨n, e⟩
    · rw [e]; exact .inl rfl
    · cases hs : dOp (.mk Φ ex' rd fn F) base o s with
      | none => exact .inl rfl
      | some s1 =>
        rw [hs] at e
        rcases dOps_v h base r s1 with e2 | ⟨n2, e2⟩
        · exact .inl e2
        · exact .inr ⟨max n n2, fun m hm => by
            have h1 := e m (Nat.le_trans (Nat.le_max_left _ _) hm)
            have h2 := e2 m (Nat.le_trans (Nat.le_max_right _ _) hm)
            simp only at h1 h2 ⊢
            rw [h1]; exact h2⟩
theorem again_v (h : ExV ex ex') (c : CC) (s : St) : VR (fun m => again (.mk Φ (ex m) rd fn F) c s) (again (.mk Φ ex' rd fn F) c s) := h rd fn F c s
theorem rfGo_v (h : ExV ex ex') (f : X) (ps : List Pos) (asg body : CC) (t : T) (d : List Nat) (M : Mem) (l dn : Nat) : VR (fun m => rfGo f ps asg body (.mk Φ (ex m) rd fn F) t d M l dn) (rfGo f ps asg body (.mk Φ ex' rd fn F) t d M l dn) := by
  show VR (fun m => (M.set l (.loop .ready .none fn t ps asg body dn)).force fun M => fN (Nat.succ l) fun c => rfDone t d l (callI (.mk Φ (ex m) rd fn F) (f.ev t) [.y l] M c)) ((M.set l (.loop .ready .none fn t ps asg body dn)).force fun M => fN (Nat.succ l) fun c => rfDone t d l (callI (.mk Φ ex' rd fn F) (f.ev t) [.y l] M c))
  simp only [Tr.force_eq, fN_eq]
  rcases callI_v (Φ := Φ) (rd := rd) (fn := fn) (F := F) h (f.ev t) [.y l] (M.set l (.loop .ready .none fn t ps asg body dn)) (Nat.succ l) with e | ⟨n, e⟩
  · rw [e]; exact .inl rfl
  · exact .inr ⟨n, fun m hm => congrArg (rfDone t d l) (e m hm)⟩
theorem rfIn_v (h : ExV ex ex') (f : X) (ps : List Pos) (asg body : CC) (t : T) (d : List Nat) (M : Mem) (l : Nat) (lp : Lp) : VR (fun m => rfIn f ps asg body (.mk Φ (ex m) rd fn F) t d M l lp) (rfIn f ps asg body (.mk Φ ex' rd fn F) t d M l lp) := by
  cases lp with
  | f => exact .inl rfl
  | k s pe fn2 tm ps' a b dn => exact rfGo_v h f ps asg body t d M l dn
theorem execC_v (h : ExV ex ex') : ∀ (c : CC) (s : St), VR (fun m => execC c (.mk Φ (ex m) rd fn F) s) (execC c (.mk Φ ex' rd fn F) s) := by
  intro c
  induction c with
  | skip => exact fun s => .inr ⟨0, fun m hm => rfl⟩
  | reg ops =>
    intro s
    show VR (fun m => r_reg (seqOps ops (.mk Φ (ex m) rd fn F) s)) (r_reg (seqOps ops (.mk Φ ex' rd fn F) s))
    rcases seqOps_v (Φ := Φ) (rd := rd) (fn := fn) (F := F) h ops s with e | ⟨n, e⟩
    · rw [e]; exact .inl rfl
    · exact .inr ⟨n, fun m hm => congrArg r_reg (e m hm)⟩
  | dreg k ops =>
    intro s
    obtain ⟨t, d, M, c⟩ := s
    show VR (fun m => fN (Nat.add c k) fun c' => dEnd d (dOps (.mk Φ (ex m) rd fn F) c ops (.mk t M c' [] []))) (fN (Nat.add c k) fun c' => dEnd d (dOps (.mk Φ ex' rd fn F) c ops (.mk t M c' [] [])))
    simp only [fN_eq]
    rcases dOps_v (Φ := Φ) (rd := rd) (fn := fn) (F := F) h c ops (.mk t M (Nat.add c k) [] []) with e | ⟨n, e⟩
    · rw [e]; exact .inl rfl
    · exact .inr ⟨n, fun m hm => congrArg (dEnd d) (e m hm)⟩
  | seq a b iha ihb =>
    intro s
    show VR (fun m => r_seq (execC b) (.mk Φ (ex m) rd fn F) (execC a (.mk Φ (ex m) rd fn F) s)) (r_seq (execC b) (.mk Φ ex' rd fn F) (execC a (.mk Φ ex' rd fn F) s))
    rcases iha s with e | ⟨n, e⟩
    · rw [e]; exact .inl rfl
    · cases hs : execC a (.mk Φ ex' rd fn F) s with
      | f => exact .inl rfl
      | k x s1 =>
        rw [hs] at e
        cases x with
        | nrm =>
          rcases ihb s1 with e2 | ⟨n2, e2⟩
          · exact .inl e2
          · exact .inr ⟨max n n2, fun m hm => by
              have h1 := e m (Nat.le_trans (Nat.le_max_left _ _) hm)
              have h2 := e2 m (Nat.le_trans (Nat.le_max_right _ _) hm)
              simp only at h1 h2 ⊢
              rw [h1]; exact h2⟩
        | _ => exact .inr ⟨n, fun m hm => congrArg (r_seq (execC b) (.mk Φ (ex m) rd fn F)) (e m hm)⟩
  | cond x a b iha ihb =>
    intro s
    show VR (fun m => c_cond x a b (execC a) (execC b) (.mk Φ (ex m) rd fn F) s) (c_cond x a b (execC a) (execC b) (.mk Φ ex' rd fn F) s)
    unfold c_cond
    cases x.ev (stT s) with
    | b v =>
      cases v with
      | true => exact iha s
      | false => exact ihb s
    | _ => exact .inl rfl
  | block id b ih =>
    intro s
    show VR (fun m => r_block id (execC b (.mk Φ (ex m) rd fn F) s)) (r_block id (execC b (.mk Φ ex' rd fn F) s))
    rcases ih s with e | ⟨n, e⟩
    · rw [e]; exact .inl rfl
    · exact .inr ⟨n, fun m hm => congrArg (r_block id) (e m hm)⟩
  | loop b ih =>
    intro s
    show VR (fun m => r_loop b (.mk Φ (ex m) rd fn F) (execC b (.mk Φ (ex m) rd fn F) s)) (r_loop b (.mk Φ ex' rd fn F) (execC b (.mk Φ ex' rd fn F) s))
    rcases ih s with e | ⟨n, e⟩
    · rw [e]; exact .inl rfl
    · cases hs : execC b (.mk Φ ex' rd fn F) s with
      | f => exact .inl rfl
      | k x s1 =>
        rw [hs] at e
        cases x with
        | nrm =>
          rcases again_v (Φ := Φ) (rd := rd) (fn := fn) (F := F) h (.loop b) s1 with e2 | ⟨n2, e2⟩
          · exact .inl e2
          · exact .inr ⟨max n n2, fun m hm => by
              have h1 := e m (Nat.le_trans (Nat.le_max_left _ _) hm)
              have h2 := e2 m (Nat.le_trans (Nat.le_max_right _ _) hm)
              simp only at h1 h2 ⊢
              rw [h1]; exact h2⟩
        | _ => exact .inr ⟨n, fun m hm => congrArg (r_loop b (.mk Φ (ex m) rd fn F)) (e m hm)⟩
  | rf f ps a b _ _ =>
    intro s
    obtain ⟨t, d, M, c⟩ := s
    cases rd with
    | some l => exact rfIn_v h f ps a b t d M c _
    | none =>
      show VR (fun m => (M.set c (.defs false)).force fun M => fN (Nat.succ c) fun c' => rfGo f ps a b (.mk Φ (ex m) none fn F) t (c :: d) M c' c) ((M.set c (.defs false)).force fun M => fN (Nat.succ c) fun c' => rfGo f ps a b (.mk Φ ex' none fn F) t (c :: d) M c' c)
      simp only [Tr.force_eq, fN_eq]
      exact rfGo_v h f ps a b t (c :: d) _ _ c
  | exit id => exact fun s => .inr ⟨0, fun m hm => rfl⟩
  | scope b tbl ihb _ =>
    intro s
    show VR (fun m => r_scope tbl (.mk Φ (ex m) rd fn F) (execC b (.mk Φ (ex m) rd fn F) s)) (r_scope tbl (.mk Φ ex' rd fn F) (execC b (.mk Φ ex' rd fn F) s))
    rcases ihb s with e | ⟨n, e⟩
    · rw [e]; exact .inl rfl
    · cases hs : execC b (.mk Φ ex' rd fn F) s with
      | f => exact .inl rfl
      | k x s1 =>
        rw [hs] at e
        cases x with
        | gto l =>
          have hj : VR (fun m => s_jump tbl (.mk Φ (ex m) rd fn F) s1 (findL l tbl)) (s_jump tbl (.mk Φ ex' rd fn F) s1 (findL l tbl)) := by
            cases findL l tbl with
            | none => exact .inl rfl
            | some c => exact again_v (Φ := Φ) h _ s1
          rcases hj with e2 | ⟨n2, e2⟩
          · exact .inl e2
          · exact .inr ⟨max n n2, fun m hm => by
              have h1 := e m (Nat.le_trans (Nat.le_max_left _ _) hm)
              have h2 := e2 m (Nat.le_trans (Nat.le_max_right _ _) hm)
              simp only at h1 h2 ⊢
              rw [h1]; exact h2⟩
        | _ => exact .inr ⟨n, fun m hm => congrArg (r_scope tbl (.mk Φ (ex m) rd fn F)) (e m hm)⟩
  | tab l c r _ _ => exact fun s => .inr ⟨0, fun m hm => rfl⟩
  | goto l => exact fun s => .inr ⟨0, fun m hm => rfl⟩
  | ret => exact fun s => .inr ⟨0, fun m hm => rfl⟩
  | bad => exact fun s => .inr ⟨0, fun m hm => rfl⟩
end
open Classical in
noncomputable def den (Φ : Nat → Option CF) : ExF := fun rd fn F c s => if h : ∃ n, exec Φ n rd fn F c s ≠ .f then exec Φ (Classical.choose h) rd fn F c s else .f
theorem den_of {Φ : Nat → Option CF} {n : Nat} {rd : Option Nat} {fn : Nat} {F : RO} {c : CC} {s : St} (h : exec Φ n rd fn F c s ≠ .f) : den Φ rd fn F c s = exec Φ n rd fn F c s := by
  have hx : ∃ n, exec Φ n rd fn F c s ≠ .f := ⟨n, h⟩
  unfold den
  rw [dif_pos hx]
  have hc := Classical.choose_spec hx
  rcases exec_mono Φ (n := n) (Classical.choose hx) rd fn F c s with e1 | e1
  · exact absurd e1 h
  · rcases exec_mono Φ (n := Classical.choose hx) n rd fn F c s with e2 | e2
    · exact absurd e2 hc
    · rw [e1, e2, Nat.add_comm]
theorem den_cases (Φ : Nat → Option CF) (rd : Option Nat) (fn : Nat) (F : RO) (c : CC) (s : St) : den Φ rd fn F c s = .f ∨ ∃ n, den Φ rd fn F c s = exec Φ n rd fn F c s := by
  by_cases hx : ∃ n, exec Φ n rd fn F c s ≠ .f
  · exact .inr ⟨_, by unfold den; rw [dif_pos hx]⟩
  · exact .inl (by unfold den; rw [dif_neg hx])
theorem exec_den (Φ : Nat → Option CF) (n : Nat) : ExLe (exec Φ n) (den Φ) := by
  intro rd fn F c s
  by_cases h : exec Φ n rd fn F c s = .f
  · exact .inl h
  · exact .inr (den_of h).symm
theorem den_le (Φ : Nat → Option CF) (rd : Option Nat) (fn : Nat) (F : RO) (c : CC) (s : St) : LR (den Φ rd fn F c s) (execC c (.mk Φ (den Φ) rd fn F) s) := by
  by_cases hx : ∃ n, exec Φ n rd fn F c s ≠ .f
  · obtain ⟨n, hn⟩ := hx
    rw [den_of hn]
    cases n with
    | zero => exact .inl rfl
    | succ n => exact execC_le (exec_den Φ n) c s
  · exact .inl (by unfold den; rw [dif_neg hx])
theorem den_v (Φ : Nat → Option CF) : ExV (exec Φ) (den Φ) := by
  intro rd fn F c s
  rcases den_cases Φ rd fn F c s with h | ⟨n, h⟩
  · exact .inl h
  · by_cases hf : den Φ rd fn F c s = .f
    · exact .inl hf
    · refine .inr ⟨n, fun m hm => ?_⟩
      have : exec Φ m rd fn F c s ≠ .f := by
        obtain ⟨k, rfl⟩ : ∃ k, m = n + k := ⟨m - n, by omega⟩
        rcases exec_mono Φ (n := n) k rd fn F c s with e | e
        · exact absurd (h.trans e) hf
        · rw [← e, ← h]; exact hf
      exact (den_of this).symm
theorem den_eq (Φ : Nat → Option CF) (rd : Option Nat) (fn : Nat) (F : RO) (c : CC) (s : St) : den Φ rd fn F c s = execC c (.mk Φ (den Φ) rd fn F) s := by
  rcases den_le Φ rd fn F c s with h | h
  · rcases execC_v (Φ := Φ) (rd := rd) (fn := fn) (F := F) (den_v Φ) c s with h2 | ⟨n, h2⟩
    · rw [h, h2]
    · have h3 : exec Φ (n + 1) rd fn F c s = execC c (.mk Φ (den Φ) rd fn F) s := h2 n (Nat.le_refl _)
      by_cases hf : execC c (.mk Φ (den Φ) rd fn F) s = .f
      · rw [h, hf]
      · rw [← h3]; exact den_of (by rw [h3]; exact hf)
  · exact h
theorem den_ok {P : Program} (hm : P.follows .mixedOrders = true) {Φ : Nat → Option CF} (hΦ : PhiOk P Φ) : ExOk P (den Φ) := by
  intro rd fn F cc t d M ct e t' d' M' ct' h
  rcases den_cases Φ rd fn F cc (.mk t d M ct) with h1 | ⟨n, h1⟩
  · rw [h1] at h; cases h
  · rw [h1] at h
    exact exec_sound hm hΦ n rd fn F cc t d M ct e t' d' M' ct' h
end Go.Proofs.YtaogopbhjinmoaaGreatDoor.Ev
