/- What is proved here: pieces of the evaluator's soundness: if the evaluator comes to a value, the model's run comes to it, for every world and tape; no conditions beyond the hypotheses of each theorem. -/
import Derived.Test.YtpokoiicogheaaaGreatDoorEv3
import Derived.Lib.LaidTab
import GoSem.ClaimJoined
import GoSem.ClaimChange
set_option linter.unusedSimpArgs false
set_option linter.unusedVariables false
set_option linter.defProp false
namespace Go.Proofs.YtpokoiicogheaaaGreatDoor.Ev
open Go
noncomputable section
def tabVs (k : IntKind) : List Int → List V
 | [] => []
 | z :: r => .i k z :: tabVs k r
def tabBlk (ty : Nat) (k : IntKind) (zs : List Int) : Blk := .cells ty zs.length false zs.length true [] (listTr (tabVs k zs) 0 .e)
abbrev Tab := Nat × IntKind × List Int
def tabF : List Tab → (Nat → Nat) → RO
 | [], _ => []
 | (g, k, zs) :: r, ty => (g, tabBlk (ty g) k zs) :: tabF r ty
def TabAt (W : World) (t : Tab) : Prop := ∃ ty fr, W.heap[t.1]? = some (.cells (t.2.2.map fun z => Value.int t.2.1 z).toArray ty fr)
theorem tabVs_map (k : IntKind) (zs : List Int) : tabVs k zs = zs.map (V.i k) := by
 induction zs with
 | nil => rfl
 | cons z r ih => rw [tabVs, ih]; rfl
theorem tab_bd {c : Nat → Prop} {ty : Nat} {k : IntKind} {zs : List Int} : bdBlk c (tabBlk ty k zs) := by
 intro j v hv
 rw [cell_eq] at hv
 split at hv
 · rename_i hj
   rw [listTr_get] at hv
   have hlen : (tabVs k zs).length = zs.length := by rw [tabVs_map]; simp
   rw [if_pos (by omega)] at hv
   rw [tabVs_map] at hv
   simp only [Nat.sub_zero, List.getElem?_map] at hv
   rw [List.getElem?_eq_getElem hj] at hv
   simp only [Option.map_some] at hv
   obtain rfl := Option.some.inj hv
   trivial
 · cases hv
theorem tabF_get {L : List Tab} {ty : Nat → Nat} {b : Nat} {blk : Blk} (h : roGet (tabF L ty) b = some blk) : ∃ t ∈ L, t.1 = b ∧ blk = tabBlk (ty b) t.2.1 t.2.2 := by
 induction L with
 | nil => cases h
 | cons t r ih =>
   obtain ⟨g, k, zs⟩ := t
   have h' : Bool.rec (motive := fun _ => Option Blk) (roGet (tabF r ty) b) (some (tabBlk (ty g) k zs)) (Nat.beq g b) = some blk := h
   rw [bb, beqN] at h'
   by_cases e : g = b
   · rw [if_pos (by simpa using e)] at h'
     subst e
     exact ⟨_, List.mem_cons_self .., rfl, (Option.some.inj h').symm⟩
   · rw [if_neg (by simpa using e)] at h'
     obtain ⟨t, ht, h1, h2⟩ := ih h'
     exact ⟨t, List.mem_cons_of_mem _ ht, h1, h2⟩
def tabEqV (k : IntKind) (z : Int) : V → Bool
 | .i k' z' => sameK k k' && eqI z z'
 | _ => false
def tabCells (n : Nat) (d : List V) (c : T) (k : IntKind) : List Int → Nat → Bool
 | [], i => Nat.beq i n
 | z :: r, i => match cell n d c i with
   | some v => tabEqV k z v && tabCells n d c k r (Nat.succ i)
   | none => false
def tabIn (F : RO) (t : Tab) : Bool := match roGet F t.1 with
 | some (.cells _ n false fz true d c) => Nat.beq fz n && tabCells n d c t.2.1 t.2.2 0
 | _ => false
def tabsIn (F : RO) : List Tab → Bool
 | [] => true
 | t :: r => Nat.blt t.1 1000 && (tabIn F t && tabsIn F r)
theorem tabCells_get {n : Nat} {d : List V} {c : T} {k : IntKind} : ∀ {zs : List Int} {i : Nat}, tabCells n d c k zs i = true → i + zs.length = n ∧ ∀ j z, zs[j]? = some z → cell n d c (i + j) = some (.i k z)
 | [], i, h => by
   have : decide (i = n) = true := by rw [← beqN]; exact h
   exact ⟨by simpa using this, fun j z hz => by simp at hz⟩
 | z :: r, i, h => by
   unfold tabCells at h
   split at h
   · rename_i v hv
     rw [Bool.and_eq_true] at h
     obtain ⟨h1, h2⟩ := h
     obtain ⟨h3, h4⟩ := tabCells_get h2
     have hve : v = .i k z := by
      unfold tabEqV at h1
      split at h1
      · rename_i k' z'
        rw [Bool.and_eq_true, sameK_iff, eqI_iff] at h1
        have a1 := of_decide_eq_true h1.1
        have a2 := of_decide_eq_true h1.2
        rw [a1, a2]
      · cases h1
     refine ⟨by simp only [List.length_cons]; omega, fun j z' hz => ?_⟩
     cases j with
     | zero => simp at hz; subst hz; rw [← hve]; exact hv
     | succ j =>
       rw [show i + (j + 1) = Nat.succ i + j by omega]
       exact h4 j z' (by simpa using hz)
   · cases h
theorem tab_cell {ty : Nat} {k : IntKind} {zs : List Int} {j : Nat} {v : V} (h : cell zs.length [] (listTr (tabVs k zs) 0 .e) j = some v) : ∃ z, zs[j]? = some z ∧ v = .i k z := by
 rw [cell_eq] at h
 split at h
 · rename_i hj
   rw [listTr_get] at h
   have hlen : (tabVs k zs).length = zs.length := by rw [tabVs_map]; simp
   rw [if_pos (by omega)] at h
   rw [tabVs_map] at h
   simp only [Nat.sub_zero, List.getElem?_map] at h
   rw [List.getElem?_eq_getElem hj] at h
   simp only [Option.map_some] at h
   exact ⟨zs[j], List.getElem?_eq_getElem hj, (Option.some.inj h).symm⟩
 · cases h
theorem tabIn_at {P : Program} {E : Env} {F : RO} {M : Mem} {c : Nat → Prop} {w : World} {t : Tab} (hr : Rel P E F M c w) (h : tabIn F t = true) : ∃ ty o, w.heap[E.ρ t.1]? = some o ∧ BlkRel P E t.1 (tabBlk ty t.2.1 t.2.2) o := by
 unfold tabIn at h
 split at h
 · rename_i ty n fz d cs hF
   rw [Bool.and_eq_true, beqN] at h
   obtain ⟨h0, h⟩ := h
   have h0 := of_decide_eq_true h0
   subst h0
   obtain ⟨h1, h2⟩ := tabCells_get h
   have hl : look F M t.1 = some (.cells ty fz false fz true d cs) := by
    rw [look_none_M (hr.apart t.1 (by rw [hF]; rfl))]; exact hF
   obtain ⟨_, _, o, ho, arr, fr, rfl, hc⟩ := hr.has _ _ hl
   have hn : t.2.2.length = fz := by omega
   subst hn
   refine ⟨ty, _, ho, arr, fr, rfl, ?_, hc.size, hc.free, hc.plain⟩
   intro j v hv
   obtain ⟨z, hz, rfl⟩ := tab_cell (ty := ty) hv
   refine hc.cell j _ ?_
   have := h2 j z hz
   rwa [Nat.zero_add] at this
 · cases h
theorem tabsIn_mem {F : RO} : ∀ {L : List Tab}, tabsIn F L = true → ∀ t ∈ L, t.1 < 1000 ∧ tabIn F t = true
 | [], _, t, ht => by cases ht
 | x :: r, h, t, ht => by
   have h' : (Nat.blt x.1 1000 && (tabIn F x && tabsIn F r)) = true := h
   rw [Bool.and_eq_true, Bool.and_eq_true, bltN] at h'
   rcases List.mem_cons.1 ht with e | ht'
   · subst e; exact ⟨of_decide_eq_true h'.1, h'.2.1⟩
   · exact tabsIn_mem h'.2.2 t ht'
theorem rel_tabsIn {P : Program} {E : Env} {F : RO} {M : Mem} {c : Nat → Prop} {w : World} {L : List Tab} (hr : Rel P E F M c w) (hglob : ∀ g, g < 1000 → E.ρ g = g ∧ E.β g = 0) (h : tabsIn F L = true) : ∃ ty, Rel P E (tabF L ty) .e c0 w := by
 have hall := tabsIn_mem h
 have hty : ∃ ty : Nat → Nat, ∀ b, ∀ t ∈ L, t.1 = b → ∃ o, w.heap[E.ρ b]? = some o ∧ BlkRel P E b (tabBlk (ty b) t.2.1 t.2.2) o := by
  refine ⟨fun b => match w.heap[E.ρ b]? with | some (.cells _ ty _) => ty | _ => 0, fun b t ht e => ?_⟩
  subst e
  obtain ⟨ty, o, ho, hB⟩ := tabIn_at hr (hall t ht).2
  have hB' := hB
  obtain ⟨arr, fr, rfl, _⟩ := hB
  refine ⟨_, ho, ?_⟩
  simp only [ho]
  exact hB'
 obtain ⟨ty, hty⟩ := hty
 refine ⟨ty, ⟨?_, ?_, fun b hb => rfl⟩⟩
 · intro b blk hb
   rw [look_none_M (show (Tr.e : Mem).get b = none from rfl)] at hb
   obtain ⟨t, ht, e, rfl⟩ := tabF_get hb
   subst e
   obtain ⟨o, ho, hB⟩ := hty _ t ht rfl
   exact ⟨(hall t ht).1, tab_bd, o, ho, hB⟩
 · intro b b' h1 h2 e
   have lt : ∀ x, (look (tabF L ty) .e x).isSome → x < 1000 := by
    intro x hx
    obtain ⟨y, hy⟩ := Option.isSome_iff_exists.1 hx
    rw [look_none_M (show (Tr.e : Mem).get x = none from rfl)] at hy
    obtain ⟨t, ht, e, _⟩ := tabF_get hy
    subst e
    exact (hall t ht).1
   rw [(hglob b (lt b h1)).1, (hglob b' (lt b' h2)).1] at e
   exact e
theorem Tr.setP_same {α : Type} (p : Pos) (v w : α) : ∀ t : Tr α, (t.setP p v).setP p w = t.setP p w := by
 induction p with
 | h => intro t; cases t <;> rfl
 | l p ih =>
   intro t
   cases t with
   | e => rw [Tr.setP_el, Tr.setP_l, ih, Tr.setP_el]
   | n l x r => rw [Tr.setP_l, Tr.setP_l, ih, Tr.setP_l]
 | r p ih =>
   intro t
   cases t with
   | e => rw [Tr.setP_er, Tr.setP_r, ih, Tr.setP_er]
   | n l x r => rw [Tr.setP_r, Tr.setP_r, ih, Tr.setP_r]
theorem single_eq {α : Type} (v : α) : ∀ (f k : Nat), k + 1 < 2 ^ (f + 1) → Tr.single (some v) f k = (Tr.e : Tr α).setP (posOfF f k) v
 | 0, k, h => by
   have : k = 0 := by simp at h; omega
   subst this; rfl
 | f + 1, k, h => by
   have hp : (2 : Nat) ^ (f + 1 + 1) = 2 * 2 ^ (f + 1) := by rw [Nat.pow_succ]; omega
   rw [Tr.single_succ, posOfF_succ]
   by_cases h0 : k = 0
   · rw [if_pos h0, if_pos h0]; rfl
   · rw [if_neg h0, if_neg h0]
     by_cases h2 : k % 2 = 0
     · rw [if_pos h2, if_pos h2, Tr.setP_er, single_eq v f _ (by omega)]
     · rw [if_neg h2, if_neg h2, Tr.setP_el, single_eq v f _ (by omega)]
theorem set_eq {α : Type} (v : α) (t : Tr α) : ∀ k : Nat, t.set k v = t.setP (posOf k) v := by
 induction t with
 | e =>
   intro k
   show (Tr.e : Tr α).put (some v) k = _
   rw [Tr.put_e]
   refine single_eq v _ k ?_
   have := Nat.lt_log2_self (n := k)
   have hp : (2 : Nat) ^ (k.log2 + 1 + 1) = 2 * 2 ^ (k.log2 + 1) := by rw [Nat.pow_succ]; omega
   omega
 | n l x r ihl ihr =>
   intro k
   show (Tr.n l x r).put (some v) k = _
   rw [Tr.put_n]
   by_cases h0 : k = 0
   · subst h0; rfl
   · rw [if_neg h0]
     by_cases h2 : k % 2 = 0
     · rw [if_pos h2]
       have e : posOf k = .r (posOf (k / 2 - 1)) := by rw [← posOf_even]; congr 1; omega
       rw [e, Tr.setP_r, ← ihr]; rfl
     · rw [if_neg h2]
       have e : posOf k = .l (posOf (k / 2)) := by rw [← posOf_odd]; congr 1; omega
       rw [e, Tr.setP_l, ← ihl]; rfl
theorem set_set {α : Type} (t : Tr α) (k : Nat) (v w : α) : (t.set k v).set k w = t.set k w := by
 rw [set_eq, set_eq, set_eq, Tr.setP_same]
theorem set_comm {α : Type} (t : Tr α) {k j : Nat} (h : k ≠ j) (v w : α) : (t.set k v).set j w = (t.set j w).set k v := by
 rw [set_eq, set_eq, set_eq, set_eq, Tr.setP_comm (posOf k) v (posOf j) w t (fun e => h (posOf_inj e).symm)]
def rowT (l : List V) : T := listTr l 0 .e
theorem listTr_set_lt (v : V) : ∀ (l : List V) (k i : Nat) (t : T), i < k → listTr l k (t.set i v) = (listTr l k t).set i v
 | [], k, i, t, h => rfl
 | x :: l, k, i, t, h => by
   rw [listTr_cons, listTr_cons, set_comm _ (show i ≠ k by omega), listTr_set_lt v l (k + 1) i _ (by omega)]
theorem listTr_set (v : V) : ∀ (l : List V) (k i : Nat) (t : T), i < l.length → (listTr l k t).set (k + i) v = listTr (l.set i v) k t
 | [], k, i, t, h => by cases h
 | x :: l, k, 0, t, h => by
   rw [List.set_cons_zero, listTr_cons, listTr_cons, Nat.add_zero k, ← listTr_set_lt v l (k + 1) k _ (by omega), set_set]
 | x :: l, k, i + 1, t, h => by
   rw [List.set_cons_succ, listTr_cons, listTr_cons, show k + (i + 1) = (k + 1) + i by omega, listTr_set v l (k + 1) i _ (by simpa using h)]
theorem rowT_set (v : V) (l : List V) (i : Nat) (h : i < l.length) : (rowT l).set i v = rowT (l.set i v) := by
 have := listTr_set v l 0 i .e h
 rwa [Nat.zero_add] at this
def over : List V → Nat → List V → List V
 | l, _, [] => l
 | l, i, v :: r => over (l.set i v) (i + 1) r
theorem over_length : ∀ (vs l : List V) (i : Nat), (over l i vs).length = l.length
 | [], l, i => rfl
 | v :: r, l, i => by rw [over, over_length r]; simp
theorem listTr_over : ∀ (vs l : List V) (i : Nat), i + vs.length ≤ l.length → listTr vs i (rowT l) = rowT (over l i vs)
 | [], l, i, h => rfl
 | v :: r, l, i, h => by
   simp only [List.length_cons] at h
   rw [listTr_cons, rowT_set _ _ _ (by omega), over, listTr_over r _ _ (by simp; omega)]
def rowB (ty : Nat) (l : List V) : Blk := .cells ty l.length true 0 false [] (rowT l)
theorem cell_row (l : List V) (i : Nat) : cell l.length [] (rowT l) i = l[i]? := by
 rw [cell_eq]
 by_cases h : i < l.length
 · rw [if_pos h]
   unfold rowT
   rw [listTr_get, if_pos (by omega)]
   simp only [Nat.sub_zero]
   rw [List.getElem?_eq_getElem h]
 · rw [if_neg h, List.getElem?_eq_none (by omega)]
theorem cellsAt_row (l : List V) : ∀ (n i : Nat), i + n ≤ l.length → cellsAt l.length [] (rowT l) n i = some ((l.drop i).take n)
 | 0, i, h => by rw [cellsAt_zero]; simp
 | n + 1, i, h => by
   rw [cellsAt_succ, cell_row, List.getElem?_eq_getElem (by omega)]
   show (match cellsAt l.length [] (rowT l) n (i + 1) with | none => none | some r => some (l[i] :: r)) = _
   rw [cellsAt_row l n (i + 1) (by omega)]
   simp only
   rw [← List.getElem_cons_drop (by omega : i < l.length), List.take_succ_cons]
section
variable {Φ : Nat → Option CF} {rd : Option Nat} {fn : Nat} {F : RO}
theorem look_set_same (M : Mem) (b : Nat) (x : Blk) : look F (M.set b x) b = some x := look_some_M (by rw [Tr.get_set, if_pos rfl])
theorem look_set_ne (M : Mem) {b b' : Nat} (x : Blk) (h : b' ≠ b) : look F (M.set b x) b' = look F M b' := look_congr (by rw [Tr.get_set, if_neg h])
theorem load1_same (M : Mem) (b o ty : Nat) (l : List V) : load1 F (M.set b (rowB ty l)) b o = l[o]? := by
 unfold load1
 rw [look_set_same]
 exact cell_row l o
theorem load1_ne (M : Mem) {b b' : Nat} (o : Nat) (x : Blk) (h : b' ≠ b) : load1 F (M.set b x) b' o = load1 F M b' o := by
 unfold load1
 rw [look_set_ne M x h]
theorem loadN_same (M : Mem) (b o n ty : Nat) (l : List V) (h : o + n ≤ l.length) : loadN F (M.set b (rowB ty l)) b o n = some ((l.drop o).take n) := by
 unfold loadN
 rw [look_set_same]
 exact cellsAt_row l n o h
theorem loadN_ne (M : Mem) {b b' : Nat} (o n : Nat) (x : Blk) (h : b' ≠ b) : loadN F (M.set b x) b' o n = loadN F M b' o n := by
 unfold loadN
 rw [look_set_ne M x h]
theorem storeN_same (M : Mem) (b o ty : Nat) (l vs : List V) (h : o + vs.length ≤ l.length) (h1 : allOne vs = true) : storeN (M.set b (rowB ty l)) b o vs = some (M.set b (rowB ty (over l o vs))) := by
 have hg : (M.set b (rowB ty l)).get b = some (rowB ty l) := by rw [Tr.get_set, if_pos rfl]
 show Option.rec (motive := fun _ => Option Mem) none (fun blk => storeIn (M.set b (rowB ty l)) b o vs blk) ((M.set b (rowB ty l)).get b) = _
 rw [hg]
 show (Bool.rec (motive := fun _ => Option Mem) none (Bool.rec (motive := fun _ => Option Mem) none (Bool.rec (motive := fun _ => Option Mem) none (storeIn2 (M.set b (rowB ty l)) b o vs ty l.length true 0 false [] (rowT l)) (allOne vs)) (Nat.ble 0 o)) (Nat.ble (Nat.add o vs.length) l.length)) = _
 rw [bb, bb, bb, bleN, bleN, decide_eq_true (show Nat.add o vs.length ≤ l.length from h), decide_eq_true (Nat.zero_le o), h1]
 simp only [if_true]
 unfold storeIn2
 rw [Tr.force_eq, Tr.force_eq, listTr_over _ _ _ h, set_set]
 unfold rowB
 rw [over_length]
theorem storeN_ne (M : Mem) {b b' : Nat} (o : Nat) (x : Blk) (vs : List V) (h : b' ≠ b) {M' : Mem} (hs : storeN M b' o vs = some M') : storeN (M.set b x) b' o vs = some (M'.set b x) := by
 obtain ⟨ty, n, ex, fz, str, d, cs, hM, h1, h2, h3, rfl⟩ := storeN_some hs
 have hg : (M.set b x).get b' = some (.cells ty n ex fz str d cs) := by rw [Tr.get_set, if_neg h]; exact hM
 show Option.rec (motive := fun _ => Option Mem) none (fun blk => storeIn (M.set b x) b' o vs blk) ((M.set b x).get b') = _
 rw [hg]
 show (Bool.rec (motive := fun _ => Option Mem) none (Bool.rec (motive := fun _ => Option Mem) none (Bool.rec (motive := fun _ => Option Mem) none (storeIn2 (M.set b x) b' o vs ty n ex fz str d cs) (allOne vs)) (Nat.ble fz o)) (Nat.ble (Nat.add o vs.length) n)) = _
 rw [bb, bb, bb, bleN, bleN, decide_eq_true (show Nat.add o vs.length ≤ n from h1), decide_eq_true h2, h3]
 simp only [if_true]
 unfold storeIn2
 rw [Tr.force_eq, Tr.force_eq, set_comm _ (Ne.symm h)]
def ld1V (F : RO) (M : Mem) (x : V) : Option V := (qop (.ld1 (.c x)) F M .e).val
def ldnV (n : Nat) (F : RO) (M : Mem) (x : V) : Option V := (qop (.ldn n (.c x)) F M .e).val
theorem v_ld1 (x : X) (M : Mem) (t : T) : (qop (.ld1 x) F M t).val = ld1V F M (x.ev t) := rfl
theorem v_ldn (n : Nat) (x : X) (M : Mem) (t : T) : (qop (.ldn n x) F M t).val = ldnV n F M (x.ev t) := rfl
theorem ld1_p (M : Mem) (b o : Nat) : ld1V F M (.p b o) = load1 F M b o := by
 show (qrb b (load1 F M b o)).val = _
 cases load1 F M b o <;> rfl
theorem ldn_p (n : Nat) (M : Mem) (b o : Nat) : ldnV n F M (.p b o) = (loadN F M b o n).map .g := by
 show (qgb b (loadN F M b o n)).val = _
 cases loadN F M b o n <;> rfl
theorem v_fa (off : Nat) (x : X) (M : Mem) (t : T) : (qop (.fa off x) F M t).val = match x.ev t with | .p b o => some (.p b (o + off)) | _ => none := by
 show (onP (x.ev t) .f fun b o => mkP b (Nat.add o off)).val = _
 cases x.ev t with
 | p b o =>
   show (mkP b (Nat.add o off)).val = _
   unfold mkP; rw [fN_eq]; rfl
 | _ => rfl
theorem a_al_eq (ty : Nat) (cs : List V) (b : Nat) (t : T) (h : allOne cs = true) : aop (.al ty cs) b t = some (.p b 0, rowB ty cs) := by
 show (bif allOne cs then some (V.p b 0, Blk.cells ty cs.length true 0 false [] (listTr cs 0 .e)) else none) = _
 rw [h]; rfl
theorem a_bx_eq (ty sz : Nat) (x : X) (b : Nat) (t : T) : aop (.bx ty sz x) b t = if (flatten (x.ev t)).length = sz ∧ allOne (flatten (x.ev t)) = true then some (.p b 0, rowB ty (flatten (x.ev t))) else none := by
 show (bif Nat.beq (flatten (x.ev t)).length sz && allOne (flatten (x.ev t)) then some (V.p b 0, Blk.cells ty sz true 0 false [] (listTr (flatten (x.ev t)) 0 .e)) else none) = _
 rw [beqN]
 by_cases h : (flatten (x.ev t)).length = sz
 · rw [decide_eq_true h]
   cases ha : allOne (flatten (x.ev t)) with
   | true => rw [if_pos ⟨h, rfl⟩, ← h]; rfl
   | false => rw [if_neg (fun hh => by cases hh.2)]; rfl
 · rw [decide_eq_false h, if_neg (fun hh => h hh.1)]; rfl
theorem e_st_eq (n : Nat) (x v : X) (M : Mem) (c : Nat) (t : T) : doE (.st n x v) (K Φ rd fn F) M c t = match x.ev t with
  | .p b o => if (flatten (v.ev t)).length = n then er c (storeN M b o (flatten (v.ev t))) else .f
  | _ => .f := by
 show (onP (x.ev t) .f fun b o => e_st1 n b o (flatten (v.ev t)) M c) = _
 cases x.ev t with
 | p b o =>
   show e_st1 n b o (flatten (v.ev t)) M c = _
   unfold e_st1
   rw [bb, beqN]
   simp only [decide_eq_true_eq]
 | _ => rfl
theorem er_some (c : Nat) (M : Mem) : er c (some M) = .k undef M c := rfl
end
section
variable {Φ : Nat → Option CF} {rd : Option Nat} {fn : Nat} {F : RO}
def ofO (o : Option V) (M : Mem) (c : Nat) : RC := match o with
 | some v => .k v M c
 | none => .f
theorem pureO_of (h : List V → Option V) (F : RO) (args : List V) (M : Mem) (c : Nat) : pureO h F args M c = ofO (h args) M c := rfl
theorem ofO_some (v : V) (M : Mem) (c : Nat) : ofO (some v) M c = .k v M c := rfl
theorem flatten_b (x : Bool) : flatten (.b x) = [.b x] := rfl
theorem flatten_i (k : IntKind) (x : Int) : flatten (.i k x) = [.i k x] := rfl
theorem flatten_s (n x : Nat) : flatten (.s n x) = [.s n x] := rfl
theorem flatten_p (b o : Nat) : flatten (.p b o) = [.p b o] := rfl
theorem flatten_p0 : flatten .p0 = [.p0] := rfl
theorem flatten_l (b o n c : Nat) : flatten (.l b o n c) = [.l b o n c] := rfl
theorem flatten_u (b o n e k : Nat) : flatten (.u b o n e k) = [.u b o n e k] := rfl
theorem flatten_l0 : flatten .l0 = [.l0] := rfl
theorem flatten_m (b : Nat) : flatten (.m b) = [.m b] := rfl
theorem flatten_m0 : flatten .m0 = [.m0] := rfl
theorem flatten_f (f : Nat) (a b : List V) : flatten (.f f a b) = [.f f a b] := rfl
theorem flatten_f0 : flatten .f0 = [.f0] := rfl
theorem flatten_g (l : List V) : flatten (.g l) = l := rfl
theorem allOne_nil : allOne [] = true := rfl
theorem allOne_cons (v : V) (l : List V) : allOne (v :: l) = (isOne v && allOne l) := by
 show Bool.rec (motive := fun _ => Bool) false (allOne l) (isOne v) = _
 cases isOne v <;> rfl
theorem isOne_b (x : Bool) : isOne (.b x) = true := rfl
theorem isOne_i (k : IntKind) (x : Int) : isOne (.i k x) = true := rfl
theorem isOne_s (n x : Nat) : isOne (.s n x) = true := rfl
theorem isOne_p (b o : Nat) : isOne (.p b o) = true := rfl
theorem isOne_p0 : isOne .p0 = true := rfl
theorem isOne_l (b o n c : Nat) : isOne (.l b o n c) = true := rfl
theorem isOne_u (b o n e k : Nat) : isOne (.u b o n e k) = true := rfl
theorem isOne_l0 : isOne .l0 = true := rfl
theorem isOne_m (b : Nat) : isOne (.m b) = true := rfl
theorem isOne_f (f : Nat) (a b : List V) : isOne (.f f a b) = true := rfl
theorem isOne_f0 : isOne .f0 = true := rfl
def fillV (cs : List V) : List (Nat × Nat × List V) → Option (List V)
 | [] => some cs
 | (o, n, vs) :: r => if vs.length = n then (match replL cs o vs with | some cs => fillV cs r | none => none) else none
theorem replL_over : ∀ (o : Nat) (l vs : List V), o + vs.length ≤ l.length → replL l o vs = some (over l o vs)
 | 0, l, [], h => by cases l <;> rfl
 | 0, [], v :: r, h => by simp at h
 | 0, x :: l, v :: r, h => by
   have key : ∀ (r l : List V) (v : V), over (v :: l) 1 r = v :: over l 0 r := by
    have gen : ∀ (r l : List V) (v : V) (i : Nat), over (v :: l) (i + 1) r = v :: over l i r := by
     intro r
     induction r with
     | nil => intro l v i; rfl
     | cons a r ih => intro l v i; rw [over, over, List.set_cons_succ, ih]
    exact fun r l v => gen r l v 0
   rw [replL, replL_over 0 l r (by simp at h; omega), over, List.set_cons_zero, key]
 | o + 1, [], vs, h => by simp at h
 | o + 1, x :: l, vs, h => by
   have gen : ∀ (r l : List V) (v : V) (i : Nat), over (v :: l) (i + 1) r = v :: over l i r := by
    intro r
    induction r with
    | nil => intro l v i; rfl
    | cons a r ih => intro l v i; rw [over, over, List.set_cons_succ, ih]
   rw [replL, replL_over o l vs (by simp at h; omega), gen]
def evP (t : T) : List (Nat × Nat × X) → List (Nat × Nat × List V)
 | [] => []
 | (o, n, x) :: r => (o, n, flatten (x.ev t)) :: evP t r
theorem evP_nil (t : T) : evP t [] = [] := rfl
theorem evP_cons (t : T) (o n : Nat) (x : X) (r : List (Nat × Nat × X)) : evP t ((o, n, x) :: r) = (o, n, flatten (x.ev t)) :: evP t r := rfl
theorem fillV_nil (cs : List V) : fillV cs [] = some cs := rfl
theorem fillV_cons (cs : List V) (o n : Nat) (vs : List V) (r : List (Nat × Nat × List V)) : fillV cs ((o, n, vs) :: r) = if vs.length = n then (match replL cs o vs with | some cs => fillV cs r | none => none) else none := rfl
theorem over_nil (l : List V) (i : Nat) : over l i [] = l := rfl
theorem over_cons (l : List V) (i : Nat) (v : V) (r : List V) : over l i (v :: r) = over (l.set i v) (i + 1) r := rfl
theorem fillParts_eq (t : T) : ∀ (ps : List (Nat × Nat × X)) (cs : List V), fillParts t cs ps = fillV cs (evP t ps)
 | [], cs => rfl
 | (o, n, x) :: ps, cs => by
   rw [evP_cons, fillV_cons, fillParts, beqN]
   by_cases hc : (flatten (x.ev t)).length = n
   · rw [decide_eq_true hc, cond_true, if_pos hc]
     cases replL cs o (flatten (x.ev t)) with
     | none => rfl
     | some cs' => exact fillParts_eq t ps cs'
   · rw [decide_eq_false hc, cond_false, if_neg hc]
theorem v_bld (zero : List V) (ps : List (Nat × Nat × X)) (M : Mem) (t : T) : (qop (.bld zero ps) F M t).val = (fillV zero (evP t ps)).map .g := by
 show (qg (fillParts t zero ps)).val = _
 rw [fillParts_eq]
 cases fillV zero (evP t ps) <;> rfl
theorem v_fl1 (off : Nat) (x : X) (M : Mem) (t : T) : (qop (.fl1 off x) F M t).val = match x.ev t with | .g cs => cs[off]? | _ => none := by
 show (onG (x.ev t) .f fun cs => qr (nth cs off)).val = _
 cases x.ev t with
 | g cs =>
   show (qr (nth cs off)).val = cs[off]?
   rw [nth_eq]
   cases cs[off]? <;> rfl
 | _ => rfl
theorem v_fln (off n : Nat) (x : X) (M : Mem) (t : T) : (qop (.fln off n x) F M t).val = match x.ev t with | .g cs => (takeL n (dropL off cs)).map .g | _ => none := by
 show (onG (x.ev t) .f fun cs => qg (takeL n (dropL off cs))).val = _
 cases x.ev t with
 | g cs =>
   show (qg (takeL n (dropL off cs))).val = (takeL n (dropL off cs)).map .g
   cases takeL n (dropL off cs) <;> rfl
 | _ => rfl
theorem v_ex (i : Nat) (x : X) (M : Mem) (t : T) : (qop (.ex i x) F M t).val = match x.ev t with | .t cs => cs[i]? | _ => none := by
 show (q_ex i x F M t).val = _
 unfold q_ex
 cases x.ev t with
 | t cs =>
   show (qr (nth cs i)).val = cs[i]?
   rw [nth_eq]
   cases cs[i]? <;> rfl
 | _ => rfl
theorem v_ci (k : IntKind) (x : X) (M : Mem) (t : T) : (qop (.ci k x) F M t).val = match x.ev t with | .i _ n => some (.i k (k.wrap n)) | _ => none := by
 show (onI (x.ev t) .f fun _ n => vI k (wr k n)).val = _
 cases x.ev t with
 | i k' n =>
   show (vI k (wr k n)).val = _
   rw [vI_eq, wr_eq]; rfl
 | _ => rfl
def andO : Option Bool → Option Bool → Option Bool
 | some b, r => if b = true then r else some false
 | none, _ => none
theorem andO_some (b c : Bool) : andO (some b) (some c) = some (b && c) := by cases b <;> rfl
def eqAt (F : RO) (M : Mem) (sh : Sh) (x y : Option V) : Option Bool := match x, y with
 | some x, some y => eq1 F M sh false x y
 | _, _ => none
theorem eqAt_some (M : Mem) (sh : Sh) (x y : V) : eqAt F M sh (some x) (some y) = eq1 F M sh false x y := rfl
theorem eqAll_nil (M : Mem) (xs ys : List V) : eqAll F M xs ys [] = some true := rfl
theorem eqAll_cons (M : Mem) (xs ys : List V) (o : Nat) (sh : Sh) (r : List (Nat × Sh)) : eqAll F M xs ys ((o, sh) :: r) = andO (eqAt F M sh (xs[o]?) (ys[o]?)) (eqAll F M xs ys r) := by
 rw [eqAll, nth_eq, nth_eq]
 cases xs[o]? with
 | none => rfl
 | some x =>
   cases ys[o]? with
   | none => rfl
   | some y =>
     show (match eq1 F M sh false x y with | some true => eqAll F M xs ys r | r => r) = andO (eq1 F M sh false x y) _
     cases eq1 F M sh false x y with
     | none => rfl
     | some b => cases b <;> rfl
def negO (neg : Bool) : Option Bool → Option V
 | some r => some (.b (bif neg then !r else r))
 | none => none
theorem negO_F (r : Bool) : negO false (some r) = some (.b r) := rfl
theorem negO_T (r : Bool) : negO true (some r) = some (.b (!r)) := rfl
theorem v_eq (neg : Bool) (sh : Sh) (lit : Bool) (x y : X) (M : Mem) (t : T) : (qop (.eq neg sh lit x y) F M t).val = negO neg (eqV F M sh lit (x.ev t) (y.ev t)) := by
 show (q_eqr neg (eqV F M sh lit (x.ev t) (y.ev t))).val = _
 cases eqV F M sh lit (x.ev t) (y.ev t) with
 | none => rfl
 | some r =>
   show (vB (bif neg then !r else r)).val = _
   rw [vB_eq]; rfl
theorem eqV_agg (ks : List (Nat × Sh)) (lit : Bool) (M : Mem) (xs ys : List V) : eqV F M (.agg ks) lit (.g xs) (.g ys) = eqAll F M xs ys ks := rfl
theorem eqV_int (lit : Bool) (M : Mem) (k : IntKind) (a b : Int) : eqV F M .int lit (.i k a) (.i k b) = some (decide (a = b)) := by
 show eqN (.i k a) (.i k b) = _
 simp [eqN, sameK_iff, eqI_iff]
theorem eq1_int (lit : Bool) (M : Mem) (k : IntKind) (a b : Int) : eq1 F M .int lit (.i k a) (.i k b) = some (decide (a = b)) := by
 show eqN (.i k a) (.i k b) = _
 simp [eqN, sameK_iff, eqI_iff]
theorem eq1_bool (lit : Bool) (M : Mem) (a b : Bool) : eq1 F M .bool lit (.b a) (.b b) = some (decide (a = b)) := by
 show eqB (.b a) (.b b) = _
 cases a <;> cases b <;> rfl
theorem xo_cv (x : X) (as0 : List X) (M : Mem) (c : Nat) (t : T) : doE (.cv x as0) (K Φ rd fn F) M c t = callV (K Φ rd fn F) (x.ev t) (evs as0 t) M c := rfl
theorem callV_f (f : Nat) (first caps args : List V) (M : Mem) (c : Nat) : callV (K Φ rd fn F) (.f f first caps) args M c = callC (den Φ) F f (first ++ (args ++ caps)) M c (Φ f) := rfl
theorem v_mkf (f : Nat) (first caps : List X) (M : Mem) (t : T) : (qop (.mkf f first caps) F M t).val = some (.f f (evs first t) (evs caps t)) := rfl
theorem resV_cn (M : Mem) (t : T) (p : Pos) (sz : Nat) (r : List RV) : resV F M t (.cn p sz :: r) = match getT t p with
  | .p b o => match loadN F M b o sz with | some l => consO (.g l) (resV F M t r) | none => none
  | _ => none := by
 show Option.rec (motive := fun _ => Option (List V)) none (fun v => resC v (resV F M t r)) (resV1 F M t (.cn p sz)) = _
 show Option.rec (motive := fun _ => Option (List V)) none (fun v => resC v (resV F M t r)) (onP (getT t p) none fun b o => Option.rec (motive := fun _ => Option V) none (fun l => some (.g l)) (loadN F M b o sz)) = _
 cases getT t p with
 | p b o =>
   show Option.rec (motive := fun _ => Option (List V)) none (fun v => resC v (resV F M t r)) (Option.rec (motive := fun _ => Option V) none (fun l => some (.g l)) (loadN F M b o sz)) = _
   simp only
   cases loadN F M b o sz with
   | none => rfl
   | some l =>
     show resC (.g l) (resV F M t r) = consO (.g l) (resV F M t r)
     cases resV F M t r <;> rfl
 | _ => rfl
theorem resV_c1 (M : Mem) (t : T) (p : Pos) (r : List RV) : resV F M t (.c1 p :: r) = match getT t p with
  | .p b o => match load1 F M b o with | some v => consO v (resV F M t r) | none => none
  | _ => none := by
 show Option.rec (motive := fun _ => Option (List V)) none (fun v => resC v (resV F M t r)) (onP (getT t p) none fun b o => load1 F M b o) = _
 cases getT t p with
 | p b o =>
   show Option.rec (motive := fun _ => Option (List V)) none (fun v => resC v (resV F M t r)) (load1 F M b o) = _
   simp only
   cases load1 F M b o with
   | none => rfl
   | some v =>
     show resC v (resV F M t r) = consO v (resV F M t r)
     cases resV F M t r <;> rfl
 | _ => rfl
def ixA1V (len sz : Nat) (x i : V) : Option V := (qop (.ixA1 len sz (.c x) (.c i)) [] .e .e).val
theorem v_ixA1 (len sz : Nat) (x i : X) (M : Mem) (t : T) : (qop (.ixA1 len sz x i) F M t).val = ixA1V len sz (x.ev t) (i.ev t) := rfl
theorem ixA1_g (len : Nat) (cs : List V) (k : IntKind) (n : Int) : ixA1V len 1 (.g cs) (.i k n) = if 0 ≤ n ∧ n < len then cs[n.toNat]? else none := by
 show (onG (V.g cs) QR.f fun cs => ixOne len 1 cs (asN (.i k n))).val = _
 show (ixOne len 1 cs (asN (.i k n))).val = _
 cases n with
 | ofNat m =>
   show (bif Nat.blt m len then qr (nth cs (Nat.mul m 1)) else QR.f).val = _
   rw [bltN]
   by_cases h : m < len
   · rw [decide_eq_true h, cond_true, if_pos ⟨Int.natCast_nonneg m, Int.ofNat_lt.2 h⟩]
     show (qr (nth cs (Nat.mul m 1))).val = _
     rw [nth_eq, show Nat.mul m 1 = m from Nat.mul_one m]
     show _ = cs[m]?
     cases cs[m]? <;> rfl
   · rw [decide_eq_false h, cond_false, if_neg (fun hh => h (Int.ofNat_lt.1 hh.2))]; rfl
 | negSucc m =>
   rw [if_neg (fun hh => by have := hh.1; exact absurd this (by simp))]
   rfl
theorem getD_some {l : List V} {i : Nat} (h : i < l.length) (d : V) : l[i]? = some ((l[i]?).getD d) := by
 rw [List.getElem?_eq_getElem h]; rfl
def mapS (b : Nat) (x : Blk) : Option Mem → Option Mem
 | some M => some (M.set b x)
 | none => none
theorem mapS_some (b : Nat) (x : Blk) (M : Mem) : mapS b x (some M) = some (M.set b x) := rfl
theorem storeN_ne' (M : Mem) {b b' : Nat} (o : Nat) (x : Blk) (vs : List V) (h : b' ≠ b) : storeN (M.set b x) b' o vs = mapS b x (storeN M b' o vs) := by
 cases hs : storeN M b' o vs with
 | some M' => rw [storeN_ne M o x vs h hs]; rfl
 | none =>
   cases hs2 : storeN (M.set b x) b' o vs with
   | none => rfl
   | some M2 =>
     exfalso
     obtain ⟨ty, n, ex, fz, str, d, cs, hM, h1, h2, h3, _⟩ := storeN_some hs2
     rw [Tr.get_set, if_neg h] at hM
     have : storeN M b' o vs = some (M.set b' (.cells ty n ex fz str d (listTr vs o cs))) := by
      show Option.rec (motive := fun _ => Option Mem) none (fun blk => storeIn M b' o vs blk) (M.get b') = _
      rw [hM]
      show (Bool.rec (motive := fun _ => Option Mem) none (Bool.rec (motive := fun _ => Option Mem) none (Bool.rec (motive := fun _ => Option Mem) none (storeIn2 M b' o vs ty n ex fz str d cs) (allOne vs)) (Nat.ble fz o)) (Nat.ble (Nat.add o vs.length) n)) = _
      rw [bb, bb, bb, bleN, bleN, decide_eq_true (show Nat.add o vs.length ≤ n from h1), decide_eq_true h2, h3]
      simp only [if_true]
      unfold storeIn2
      rw [Tr.force_eq, Tr.force_eq]
     rw [hs] at this; cases this
theorem ne_add0 (c n : Nat) : (c ≠ c + (n + 1)) = True := eq_true (by omega)
theorem ne_add1 (c n : Nat) : (c + (n + 1) ≠ c) = True := eq_true (by omega)
theorem ne_add (c i j : Nat) (h : (i == j) = false) : (c + i ≠ c + j) = True := eq_true (fun e => by
 have : i = j := by omega
 rw [beq_eq_false_iff_ne] at h
 exact h this)
end
section
variable {Φ : Nat → Option CF} {rd : Option Nat} {fn : Nat} {F : RO}
def WpD (base : Nat) (ops : List (Nat × Nat × CO)) (k : Kn) (s : DS) (R : DS → Prop) : Prop := ∃ s', dOps k base ops s = some s' ∧ R s'
def dregQ (d : List Nat) (Q : Ex → St → Prop) : DS → Prop
 | .mk t M c pend _ => Q .nrm (.mk t d (mergeAll pend M) c)
theorem wp_dreg (n : Nat) (ops : List (Nat × Nat × CO)) (k : Kn) (t : T) (d : List Nat) (M : Mem) (c : Nat) (Q : Ex → St → Prop) :
  Wp (.dreg n ops) k (.mk t d M c) Q = WpD c ops k (.mk t M (c + n) [] []) (dregQ d Q) := by
 have he : execC (.dreg n ops) k (.mk t d M c) = dEnd d (dOps k c ops (.mk t M (c + n) [] [])) := by
  show (fN (Nat.add c n) fun c' => dEnd d (dOps k c ops (.mk t M c' [] []))) = _
  rw [fN_eq]; rfl
 apply propext; constructor
 · rintro ⟨e, s', h, q⟩
   rw [he] at h
   cases hs : dOps k c ops (.mk t M (c + n) [] []) with
   | none => rw [hs] at h; cases h
   | some s1 =>
     rw [hs] at h
     obtain ⟨t1, M1, c1, p1, r1⟩ := s1
     have h2 : ((mergeAll p1 M1).force fun M => Rs.k .nrm (.mk t1 d M c1)) = .k e s' := h
     rw [Tr.force_eq] at h2
     injection h2 with a1 a2
     subst a1 a2
     exact ⟨_, hs, q⟩
 · rintro ⟨s1, hs, q⟩
   obtain ⟨t1, M1, c1, p1, r1⟩ := s1
   refine ⟨_, _, ?_, q⟩
   rw [he, hs]
   show ((mergeAll p1 M1).force fun M => Rs.k .nrm (.mk t1 d M c1)) = _
   rw [Tr.force_eq]
theorem dregQ_eq (d : List Nat) (Q : Ex → St → Prop) (t : T) (M : Mem) (c : Nat) (pend : List (Nat × Nat × Blk)) (reads : List (Nat × Nat)) : dregQ d Q (.mk t M c pend reads) = Q .nrm (.mk t d (mergeAll pend M) c) := Eq.trans rfl (Eq.refl _)
theorem mergeAll_nil (M : Mem) : mergeAll [] M = M := Eq.trans rfl (Eq.refl _)
theorem wd_nil (base : Nat) (k : Kn) (s : DS) (R : DS → Prop) : WpD base [] k s R = R s := by
 apply propext; constructor
 · rintro ⟨s', h, q⟩; cases h; exact q
 · exact fun q => ⟨_, rfl, q⟩
theorem wd_cons (base : Nat) (o : Nat × Nat × CO) (r : List (Nat × Nat × CO)) (k : Kn) (s : DS) (R : DS → Prop) : WpD base (o :: r) k s R ↔ ∃ s', dOp k base o s = some s' ∧ WpD base r k s' R := by
 constructor
 · rintro ⟨s', h, q⟩
   rw [dOps] at h
   cases hs : dOp k base o s with
   | none => rw [hs] at h; cases h
   | some s1 => rw [hs] at h; exact ⟨s1, rfl, s', h, q⟩
 · rintro ⟨s1, h1, s', h2, q⟩
   exact ⟨s', by rw [dOps, h1]; exact h2, q⟩
def dqR (o : QO) (F : RO) (M : Mem) (t : T) : QR := d_q0 o F M t (qop o F M t)
def PutD (q : QR) (base i : Nat) (p : Pos) (r : List (Nat × Nat × CO)) (k : Kn) (t : T) (M : Mem) (c : Nat) (pend : List (Nat × Nat × Blk)) (reads : List (Nat × Nat)) (R : DS → Prop) : Prop := match q with
 | .f => False
 | .v x => WpD base r k (.mk (t.setP p x) M c pend reads) R
 | .r x b => WpD base r k (.mk (t.setP p x) M c pend ((i, b) :: reads)) R
theorem putD_v (x : V) (base i : Nat) (p : Pos) (r : List (Nat × Nat × CO)) (k : Kn) (t : T) (M : Mem) (c : Nat) (pend : List (Nat × Nat × Blk)) (reads : List (Nat × Nat)) (R : DS → Prop) :
  PutD (.v x) base i p r k t M c pend reads R = WpD base r k (.mk (t.setP p x) M c pend reads) R := Eq.trans rfl (Eq.refl _)
theorem putD_r (x : V) (b base i : Nat) (p : Pos) (r : List (Nat × Nat × CO)) (k : Kn) (t : T) (M : Mem) (c : Nat) (pend : List (Nat × Nat × Blk)) (reads : List (Nat × Nat)) (R : DS → Prop) :
  PutD (.r x b) base i p r k t M c pend reads R = WpD base r k (.mk (t.setP p x) M c pend ((i, b) :: reads)) R := Eq.trans rfl (Eq.refl _)
theorem wd_q (base i mask : Nat) (p : Pos) (o : QO) (r : List (Nat × Nat × CO)) (t : T) (M : Mem) (c : Nat) (pend : List (Nat × Nat × Blk)) (reads : List (Nat × Nat)) (R : DS → Prop) :
  WpD base ((i, mask, .mk (some p) (.q o) none) :: r) (K Φ rd fn F) (.mk t M c pend reads) R = PutD (dqR o F M t) base i p r (K Φ rd fn F) t M c pend reads R := by
 have he : dOp (K Φ rd fn F) base (i, mask, .mk (some p) (.q o) none) (.mk t M c pend reads) = d_q1 i (some p) t M c pend reads (dqR o F M t) := rfl
 apply propext
 rw [wd_cons, he]
 cases dqR o F M t with
 | f => exact ⟨fun ⟨s', h, _⟩ => (by cases h), False.elim⟩
 | v x =>
   have : d_q1 i (some p) t M c pend reads (.v x) = some (.mk (t.setP p x) M c pend reads) := by
    show ((setT t (some p) x).force fun t => some (DS.mk t M c pend reads)) = _
    rw [Tr.force_eq]; rfl
   rw [this]
   constructor
   · rintro ⟨s', h, q⟩; obtain rfl := Option.some.inj h; exact q
   · exact fun q => ⟨_, rfl, q⟩
 | r x b =>
   have : d_q1 i (some p) t M c pend reads (.r x b) = some (.mk (t.setP p x) M c pend ((i, b) :: reads)) := by
    show ((setT t (some p) x).force fun t => some (DS.mk t M c pend ((i, b) :: reads))) = _
    rw [Tr.force_eq]; rfl
   rw [this]
   constructor
   · rintro ⟨s', h, q⟩; obtain rfl := Option.some.inj h; exact q
   · exact fun q => ⟨_, rfl, q⟩
def oV : Option V → QR
 | none => .f
 | some x => .v x
theorem oV_some (x : V) : oV (some x) = .v x := Eq.trans rfl (Eq.refl _)
theorem dq_of {o : QO} {M : Mem} {t : T} (h : ∀ F' M', qop o F' M' t = oV (qop o [] .e t).val) : dqR o F M t = oV (qop o F M t).val := by
 have h1 := h F M
 have h0 := h [] .e
 unfold dqR
 rw [h1]
 cases hv : (qop o [] .e t).val with
 | none => rfl
 | some x =>
   show qop o [] .e t = .v x
   rw [h0, hv]; rfl
theorem vI_oV (k : IntKind) (n : Int) : vI k n = oV (vI k n).val := by rw [vI_eq]; rfl
theorem dq_mv (x : X) (M : Mem) (t : T) : dqR (.mv x) F M t = .v (x.ev t) := Eq.trans rfl (Eq.refl _)
theorem dq_ci (k : IntKind) (x : X) (M : Mem) (t : T) : dqR (.ci k x) F M t = oV (match x.ev t with | .i _ n => some (.i k (k.wrap n)) | _ => none) := by
 refine (dq_of ?_).trans (congrArg oV (v_ci (F := F) k x M t))
 intro F' M'
 show (onI (x.ev t) QR.f fun _ n => vI k (wr k n)) = oV (onI (x.ev t) QR.f fun _ n => vI k (wr k n)).val
 cases x.ev t with
 | i k' n => exact vI_oV _ _
 | _ => rfl
theorem qv_oV {q : QR} (h : q = .f ∨ ∃ x, q = .v x) : q = oV q.val := by
 rcases h with rfl | ⟨x, rfl⟩ <;> rfl
theorem biq_ok (op : BinOp) (k : IntKind) (a : Int) (k' : IntKind) (b : Int) : q_bii op k a k' b = .f ∨ ∃ x, q_bii op k a k' b = .v x := by
 have hb : ∀ (c : Bool) (q : QR), (q = .f ∨ ∃ x, q = .v x) → (Bool.rec (motive := fun _ => QR) .f q c = .f ∨ ∃ x, (Bool.rec (motive := fun _ => QR) .f q c : QR) = .v x) := by
  intro c q h; cases c
  · exact .inl rfl
  · exact h
 have vi : ∀ k n, vI k n = .f ∨ ∃ x, vI k n = .v x := fun k n => .inr ⟨_, vI_eq k n⟩
 have vb : ∀ b, vB b = .f ∨ ∃ x, vB b = .v x := fun b => .inr ⟨_, vB_eq b⟩
 cases op with
 | add => exact hb _ _ (vi _ _)
 | sub => exact hb _ _ (vi _ _)
 | mul => exact hb _ _ (vi _ _)
 | quo =>
   refine hb _ _ ?_
   have e : b_quo k a b = .f ∨ ∃ x, b_quo k a b = .v x := by
    unfold b_quo
    cases eqI b 0
    · exact vi _ _
    · exact .inl rfl
   exact e
 | rem =>
   refine hb _ _ ?_
   have e : b_rem k a b = .f ∨ ∃ x, b_rem k a b = .v x := by
    unfold b_rem
    cases eqI b 0
    · exact vi _ _
    · exact .inl rfl
   exact e
 | and => exact hb _ _ (vi _ _)
 | or => exact hb _ _ (vi _ _)
 | xor => exact hb _ _ (vi _ _)
 | andNot => exact hb _ _ (vi _ _)
 | eql => exact hb _ _ (vb _)
 | neq => exact hb _ _ (vb _)
 | lss => exact hb _ _ (vb _)
 | leq => exact hb _ _ (vb _)
 | gtr => exact hb _ _ (vb _)
 | geq => exact hb _ _ (vb _)
 | shl =>
   show shlI k a b = .f ∨ ∃ x, shlI k a b = .v x
   cases b with
   | ofNat n => exact vi _ _
   | negSucc n => exact .inl rfl
 | shr =>
   show shrI k a b = .f ∨ ∃ x, shrI k a b = .v x
   cases b with
   | ofNat n => exact vi _ _
   | negSucc n => exact .inl rfl
theorem dq_bi (op : BinOp) (x y : X) (M : Mem) (t : T) {k k' : IntKind} {a b : Int} (hx : x.ev t = .i k a) (hy : y.ev t = .i k' b) : dqR (.bi op x y) F M t = oV (biV op (x.ev t) (y.ev t)) := by
 rw [← v_bi (F := F) op x y M t]
 refine dq_of ?_
 intro F' M'
 have e : ∀ F' M', qop (.bi op x y) F' M' t = q_bii op k a k' b := by
  intro F' M'
  show q_bi op x y F' M' t = _
  unfold q_bi
  rw [hx]
  show (onI (y.ev t) QR.f fun k' b => q_bii op k a k' b) = _
  rw [hy]; rfl
 rw [e, e]
 exact qv_oV (biq_ok op k a k' b)
theorem dq_ex (i : Nat) (x : X) (M : Mem) (t : T) : dqR (.ex i x) F M t = oV (match x.ev t with | .t cs => cs[i]? | _ => none) := by
 refine (dq_of ?_).trans (congrArg oV (v_ex (F := F) i x M t))
 intro F' M'
 show q_ex i x F' M' t = oV (q_ex i x [] .e t).val
 unfold q_ex
 cases x.ev t with
 | t cs =>
   show qr (nth cs i) = oV (qr (nth cs i)).val
   cases nth cs i <;> rfl
 | _ => rfl
theorem dq_ld1 (x : X) (M : Mem) (t : T) {b o : Nat} {v : V} (hx : x.ev t = .p b o) (h : load1 F M b o = some v) : dqR (.ld1 x) F M t = .r v b := by
 have hq : ∀ F' M', qop (.ld1 x) F' M' t = qrb b (load1 F' M' b o) := by
  intro F' M'
  show (onP (x.ev t) QR.f fun b o => qrb b (load1 F' M' b o)) = _
  rw [hx]; rfl
 unfold dqR
 rw [hq, h]
 show d_q2 (.ld1 x) t b (look F M b) = _
 unfold load1 at h
 cases hl : look F M b with
 | none => rw [hl] at h; cases h
 | some blk =>
   rw [hl] at h
   show rOnly b (qop (.ld1 x) [(b, blk)] .e t) = _
   rw [hq]
   have h2 : load1 [(b, blk)] .e b o = some v := by
    unfold load1
    have : look [(b, blk)] (.e : Mem) b = some blk := by
     rw [look_none_M (show (Tr.e : Mem).get b = none from rfl)]
     show Bool.rec (motive := fun _ => Option Blk) _ (some blk) (Nat.beq b b) = _
     rw [bb, beqN]; simp
    rw [this]; exact h
   rw [h2]; rfl
theorem roFree_nil (M : Mem) : roFree M [] = true := Eq.trans rfl (Eq.refl _)
theorem protect_cons (mask i b : Nat) (r : List (Nat × Nat)) (h : testBit mask i = true) (F : RO) (M : Mem) (s : List (Nat × Blk)) : protect mask ((i, b) :: r) F M s = protect mask r F M s := by
 rw [protect, h]; rfl
def befB (mask : Nat) : List (Nat × Nat) → Bool
 | [] => true
 | (i, _) :: r => (mask / 2 ^ i % 2 == 1) && befB mask r
theorem befB_nil (mask : Nat) : befB mask [] = true := Eq.trans rfl (Eq.refl _)
theorem befB_cons (mask i b : Nat) (r : List (Nat × Nat)) : befB mask ((i, b) :: r) = ((mask / 2 ^ i % 2 == 1) && befB mask r) := Eq.trans rfl (Eq.refl _)
theorem befB_protect {mask : Nat} : ∀ {reads : List (Nat × Nat)}, befB mask reads = true → ∀ F M s, protect mask reads F M s = Pr.mk F M s
 | [], _, F, M, s => rfl
 | (i, b) :: r, h, F, M, s => by
   rw [befB_cons, Bool.and_eq_true] at h
   rw [protect_cons mask i b r (by show Nat.beq (Nat.mod (Nat.div mask (Nat.pow 2 i)) 2) 1 = true; rw [beqN]; exact decide_eq_true (show mask / 2 ^ i % 2 = 1 by simpa using h.1))]
   exact befB_protect h.2 F M s
def PutDE (o : RC) (F : RO) (p : Option Pos) (base : Nat) (r : List (Nat × Nat × CO)) (k : Kn) (t : T) (reads : List (Nat × Nat)) (R : DS → Prop) : Prop := match o with
 | .f => False
 | .k v M c => roFree M F = true ∧ WpD base r k (.mk (setT t p v) M c [] reads) R
theorem putDE (v : V) (M : Mem) (c : Nat) (F : RO) (p : Option Pos) (base : Nat) (r : List (Nat × Nat × CO)) (k : Kn) (t : T) (reads : List (Nat × Nat)) (R : DS → Prop) :
  PutDE (.k v M c) F p base r k t reads R = (roFree M F = true ∧ WpD base r k (.mk (setT t p v) M c [] reads) R) := Eq.trans rfl (Eq.refl _)
theorem wd_e1 (base i mask : Nat) (dst : Option Pos) (o : EO) (r : List (Nat × Nat × CO)) (t : T) (M : Mem) (c : Nat) (reads : List (Nat × Nat)) (R : DS → Prop) (hb : befB mask reads = true) :
  WpD base ((i, mask, .mk dst (.e o) none) :: r) (K Φ rd fn F) (.mk t M c [] reads) R = PutDE (doE o (K Φ rd fn F) M c t) F dst base r (K Φ rd fn F) t reads R := by
 have hp := befB_protect hb
 have he : dOp (K Φ rd fn F) base (i, mask, .mk dst (.e o) none) (.mk t M c [] reads) = d_e2 F dst t [] reads [] (doE o (K Φ rd fn F) M c t) := by
  show d_e1 o (K Φ rd fn F) dst t c [] reads (protect mask reads F M []) = _
  rw [hp]; rfl
 apply propext
 rw [wd_cons, he]
 cases hd : doE o (K Φ rd fn F) M c t with
 | f => exact ⟨fun ⟨s', h, _⟩ => (by cases h), False.elim⟩
 | k v M' c' =>
   have h2 : d_e2 F dst t [] reads [] (.k v M' c') = if roFree M' F = true then some (DS.mk (setT t dst v) M' c' [] reads) else none := by
    show (bif roFree M' F && pendFree F M' [] then (unprotect [] M').force fun M => (setT t dst v).force fun t => some (DS.mk t M c' [] reads) else none) = _
    cases roFree M' F with
    | false => rfl
    | true =>
      show ((unprotect [] M').force fun M => (setT t dst v).force fun t => some (DS.mk t M c' [] reads)) = _
      rw [Tr.force_eq, Tr.force_eq]; rfl
   rw [h2, putDE]
   constructor
   · rintro ⟨s', h, q⟩
     split at h
     · rename_i hr
       obtain rfl := Option.some.inj h
       exact ⟨hr, q⟩
     · cases h
   · rintro ⟨hr, q⟩
     exact ⟨_, if_pos hr, q⟩
theorem roFree_cons (M : Mem) (b : Nat) (x : Blk) (F : RO) : roFree M ((b, x) :: F) = ((M.get b).isNone && roFree M F) := by
 show (bif (M.get b).isNone then roFree M F else false) = _
 cases (M.get b).isNone <;> rfl
theorem get_ne (M : Mem) {b b' : Nat} (x : Blk) (h : b' ≠ b) : (M.set b x).get b' = M.get b' := by rw [Tr.get_set, if_neg h]
theorem isNone_none' : (none : Option Blk).isNone = true := Eq.trans rfl (Eq.refl _)
def biQ (op : BinOp) (X Y : V) (F : RO) (M : Mem) : QR := dqR (.bi op (.c X) (.c Y)) F M .e
theorem dq_bi0 (op : BinOp) (x y : X) (M : Mem) (t : T) : dqR (.bi op x y) F M t = biQ op (x.ev t) (y.ev t) F M := Eq.trans rfl (Eq.refl _)
theorem biQ_i (op : BinOp) (k k' : IntKind) (a b : Int) (M : Mem) : biQ op (.i k a) (.i k' b) F M = oV (biV op (.i k a) (.i k' b)) := dq_bi op _ _ M .e rfl rfl
def ldQ (X : V) (F : RO) (M : Mem) : QR := dqR (.ld1 (.c X)) F M .e
def ldR (b : Nat) : Option V → QR
 | some v => .r v b
 | none => .f
theorem ldR_some (b : Nat) (v : V) : ldR b (some v) = .r v b := Eq.trans rfl (Eq.refl _)
theorem dq_ld0 (x : X) (M : Mem) (t : T) : dqR (.ld1 x) F M t = ldQ (x.ev t) F M := Eq.trans rfl (Eq.refl _)
theorem ldQ_p (b o : Nat) (M : Mem) : ldQ (.p b o) F M = ldR b (load1 F M b o) := by
 cases h : load1 F M b o with
 | some v => exact dq_ld1 _ M .e rfl h
 | none =>
   show d_q0 (.ld1 (.c (.p b o))) F M .e (qrb b (load1 F M b o)) = _
   rw [h]; rfl
theorem dq_iaS (sz : Nat) (x i : X) (M : Mem) (t : T) : dqR (.iaS sz x i) F M t = oV ((qop (.iaS sz x i) F M t).val) := by
 refine dq_of fun F' M' => ?_
 show q_iaS sz x i F' M' t = oV (q_iaS sz x i [] .e t).val
 have key : ∀ (b o n : Nat) (y : V), q_iaS1 sz b o n y = oV (q_iaS1 sz b o n y).val := by
  intro b o n y
  unfold q_iaS1
  cases y with
  | i k m =>
    show q_ia sz b o n m = oV (q_ia sz b o n m).val
    cases m with
    | ofNat m =>
      show (Bool.rec (motive := fun _ => QR) .f (mkP b (Nat.add o (Nat.mul m sz))) (Nat.blt m n)) = oV (Bool.rec (motive := fun _ => QR) .f (mkP b (Nat.add o (Nat.mul m sz))) (Nat.blt m n) : QR).val
      cases Nat.blt m n with
      | true =>
        show mkP b (Nat.add o (Nat.mul m sz)) = oV (mkP b (Nat.add o (Nat.mul m sz))).val
        unfold mkP; rw [fN_eq]; rfl
      | false => rfl
    | negSucc m => rfl
  | _ => rfl
 unfold q_iaS
 cases x.ev t with
 | l b o n c => exact key b o n _
 | u b o n e k => exact key b o n _
 | _ => rfl
def lnL (x : V) : Option V := (qop (.ln .slice (.c x)) [] .e .e).val
theorem lnSl (M : Mem) (x : V) : lnV .slice F M x = lnL x := Eq.trans rfl (Eq.refl _)
theorem lnL_l (b o n c : Nat) : lnL (.l b o n c) = some (.i .i64 (n : Int)) := Eq.trans rfl (Eq.refl _)
theorem lnL_u (b o n e k : Nat) : lnL (.u b o n e k) = some (.i .i64 (n : Int)) := Eq.trans rfl (Eq.refl _)
theorem lnL_l0 : lnL .l0 = some (.i .i64 0) := Eq.trans rfl (Eq.refl _)
theorem lnL_ue (b o n : Nat) : lnL (.ue b o n) = some (.i .i64 0) := Eq.trans rfl (Eq.refl _)
def iaSV (sz : Nat) (x i : V) : Option V := (qop (.iaS sz (.c x) (.c i)) [] .e .e).val
theorem v_iaS (sz : Nat) (x i : X) (M : Mem) (t : T) : (qop (.iaS sz x i) F M t).val = iaSV sz (x.ev t) (i.ev t) := Eq.trans rfl (Eq.refl _)
theorem iaS_l (sz b o n c i : Nat) (k : IntKind) (h : i < n) : iaSV sz (.l b o n c) (.i k (i : Int)) = some (.p b (o + i * sz)) := by
 show (q_ia sz b o n (Int.ofNat i)).val = _
 show (Bool.rec (motive := fun _ => QR) .f (mkP b (Nat.add o (Nat.mul i sz))) (Nat.blt i n)).val = _
 rw [bb, bltN, decide_eq_true h, if_pos rfl]
 unfold mkP; rw [fN_eq]; rfl
theorem iaS_u (sz b o n e kn i : Nat) (k : IntKind) (h : i < n) : iaSV sz (.u b o n e kn) (.i k (i : Int)) = some (.p b (o + i * sz)) := by
 show (q_ia sz b o n (Int.ofNat i)).val = _
 show (Bool.rec (motive := fun _ => QR) .f (mkP b (Nat.add o (Nat.mul i sz))) (Nat.blt i n)).val = _
 rw [bb, bltN, decide_eq_true h, if_pos rfl]
 unfold mkP; rw [fN_eq]; rfl
end
section
variable {Φ : Nat → Option CF} {rd : Option Nat} {fn : Nat} {F : RO}
def sV (l : List UInt8) : V := .s l.length (strN l)
def bV (c : UInt8) : V := .i .u8 (c.toNat : Int)
theorem lnSs (l : List UInt8) (M : Mem) : lnV .str F M (sV l) = some (.i .i64 (l.length : Int)) := rfl
theorem strEq_s (a b : List UInt8) : strEq a.length (strN a) b.length (strN b) = decide (a = b) := by
 rw [strEq_iff, strN_bl, strN_bl]
theorem bi_seq (a b : List UInt8) : biV .eql (sV a) (sV b) = some (.b (decide (a = b))) := by
 show (vB (strEq a.length (strN a) b.length (strN b))).val = _
 rw [strEq_s]
 cases decide (a = b) <;> rfl
theorem bi_sne (a b : List UInt8) : biV .neq (sV a) (sV b) = some (.b (!decide (a = b))) := by
 show (vB (!strEq a.length (strN a) b.length (strN b))).val = _
 rw [strEq_s]
 cases decide (a = b) <;> rfl
theorem eq1_str (lit : Bool) (M : Mem) (a b : List UInt8) : eq1 F M .str lit (sV a) (sV b) = some (decide (a = b)) := by
 show some (strEq a.length (strN a) b.length (strN b)) = _
 rw [strEq_s]
theorem eqV_str (lit : Bool) (M : Mem) (a b : List UInt8) : eqV F M .str lit (sV a) (sV b) = some (decide (a = b)) := eq1_str (F := F) lit M a b
def slSV (x : V) (lo hi : Option V) : Option V := (qop (.slS (.c x) (lo.map .c) (hi.map .c)) [] .e .e).val
theorem optN_map (tm : T) (d : Nat) (o : Option X) : optN .e d ((o.map fun x => x.ev tm).map .c) = optN tm d o := by cases o <;> rfl
theorem v_slS (x : X) (lo hi : Option X) (M : Mem) (t : T) : (qop (.slS x lo hi) F M t).val = slSV (x.ev t) (lo.map fun x => x.ev t) (hi.map fun x => x.ev t) := by
 show (q_slS x lo hi F M t).val = (q_slS (.c (x.ev t)) _ _ [] .e .e).val
 unfold q_slS
 rw [optN_map]
 show _ = (onS (x.ev t) .f fun n s => q_slS1 n s (optN t 0 lo) (optN .e n ((hi.map fun x => x.ev t).map .c))).val
 congr 2
 funext n s
 rw [optN_map]
theorem allOne_bytes : ∀ l : List UInt8, allOne (l.map bV) = true
 | [] => rfl
 | c :: l => by rw [List.map_cons, allOne_cons, allOne_bytes l]; rfl
end
section
variable {Φ : Nat → Option CF} {rd : Option Nat} {fn : Nat} {F : RO}
def RTo (o : RC) (P : V → Mem → Nat → Prop) : Prop := ∃ v M' c', o = .k v M' c' ∧ P v M' c'
theorem RTo.mono {o : RC} {P P' : V → Mem → Nat → Prop} (h : RTo o P) (hp : ∀ v M' c', P v M' c' → P' v M' c') : RTo o P' := by
 obtain ⟨v, M', c', e, h⟩ := h
 exact ⟨v, M', c', e, hp v M' c' h⟩
abbrev Calls (Φ : Nat → Option CF) (F : RO) (f : Nat) (args : List V) (M : Mem) (c : Nat) (P : V → Mem → Nat → Prop) : Prop := RTo (callC (den Φ) F f args M c (Φ f)) P
theorem calls_walk {f n : Nat} {res : List RV} {body : CC} {args : List V} {M : Mem} {c : Nat} {P : V → Mem → Nat → Prop} (hf : Φ f = some (.mk n res body))
  (h : Wp body (K Φ none f F) (.mk (argTr n args) [] M c) (endQ F res P)) : Calls Φ F f args M c P := call_walk hf h
theorem putE_to {o : RC} {p : Pos} {r : List CO} {k : Kn} {t : T} {d : List Nat} {R : St → Prop} (h : RTo o fun v M' c' => WpO r k (.mk (t.setP p v) d M' c') R) : PutE o p r k t d R := by
 obtain ⟨v, M', c', e, h⟩ := h
 rw [e]; exact h
theorem putDE_to {o : RC} {p : Option Pos} {base : Nat} {r : List (Nat × Nat × CO)} {k : Kn} {t : T} {reads : List (Nat × Nat)} {R : DS → Prop}
  (h : RTo o fun v M' c' => roFree M' F = true ∧ WpD base r k (.mk (setT t p v) M' c' [] reads) R) : PutDE o F p base r k t reads R := by
 obtain ⟨v, M', c', e, h⟩ := h
 rw [e]; exact h
structure Okm (F : RO) (M : Mem) (c : Nat) : Prop where
 hiM : ∀ b, c ≤ b → M.get b = none
 hiF : ∀ b, c ≤ b → roGet F b = none
 ap : ∀ b, (roGet F b).isSome → M.get b = none
 ge : 1000 ≤ c
structure Gr (c : Nat) (M : Mem) (c' : Nat) (M' : Mem) : Prop where
 le : c ≤ c'
 old : ∀ b, b < c → M'.get b = M.get b
 new : ∀ b, c' ≤ b → M'.get b = none
theorem roFree_of (M : Mem) : ∀ F : RO, (∀ b, (roGet F b).isSome → M.get b = none) → roFree M F = true
 | [], _ => rfl
 | (b, x) :: F, h => by
   rw [roFree_cons, h b (by
    show (Bool.rec (motive := fun _ => Option Blk) (roGet F b) (some x) (Nat.beq b b)).isSome = true
    rw [Nat.beq_refl]; rfl)]
   rw [roFree_of M F fun b' hb' => h b' (by
    show (Bool.rec (motive := fun _ => Option Blk) (roGet F b') (some x) (Nat.beq b b')).isSome = true
    cases Nat.beq b b' with
    | true => rfl
    | false => exact hb')]
   rfl
theorem Okm.free {M : Mem} {c : Nat} (h : Okm F M c) : roFree M F = true := roFree_of M F h.ap
theorem Okm.look {M : Mem} {c : Nat} (h : Okm F M c) {b : Nat} (hb : c ≤ b) : look F M b = none := by
 rw [look_none_M (h.hiM b hb), h.hiF b hb]
theorem Gr.refl {M : Mem} {c : Nat} (h : Okm F M c) : Gr c M c M := ⟨Nat.le_refl _, fun _ _ => rfl, h.hiM⟩
theorem Gr.trans {M M1 M2 : Mem} {c c1 c2 : Nat} (h : Gr c M c1 M1) (h2 : Gr c1 M1 c2 M2) : Gr c M c2 M2 :=
 ⟨Nat.le_trans h.le h2.le, fun b hb => (h2.old b (Nat.lt_of_lt_of_le hb h.le)).trans (h.old b hb), h2.new⟩
theorem Gr.ok {M M1 : Mem} {c c1 : Nat} (h : Gr c M c1 M1) (ho : Okm F M c) : Okm F M1 c1 := by
 refine ⟨h.new, fun b hb => ho.hiF b (Nat.le_trans h.le hb), fun b hb => ?_, Nat.le_trans ho.ge h.le⟩
 have : b < c := by
  by_cases hc : b < c
  · exact hc
  · rw [ho.hiF b (by omega)] at hb; cases hb
 rw [h.old b this]; exact ho.ap b hb
theorem Gr.set {M M1 : Mem} {c c1 c2 : Nat} (h : Gr c M c1 M1) (b : Nat) (x : Blk) (h1 : c ≤ b) (h2 : b < c2) (h3 : c1 ≤ c2) : Gr c M c2 (M1.set b x) := by
 refine ⟨Nat.le_trans h.le h3, fun b' hb' => ?_, fun b' hb' => ?_⟩
 · rw [get_ne _ _ (by omega)]; exact h.old b' hb'
 · rw [get_ne _ _ (by omega)]; exact h.new b' (by omega)
theorem Gr.del {M M1 : Mem} {c c1 : Nat} (h : Gr c M c1 M1) (b : Nat) (h1 : c ≤ b) : Gr c M c1 (M1.del b) := by
 refine ⟨h.le, fun b' hb' => ?_, fun b' hb' => ?_⟩
 · rw [Tr.get_del, if_neg (by omega)]; exact h.old b' hb'
 · rw [Tr.get_del]; split
   · rfl
   · exact h.new b' hb'
theorem Gr.up {M M1 : Mem} {c c1 c2 : Nat} (h : Gr c M c1 M1) (h3 : c1 ≤ c2) : Gr c M c2 M1 :=
 ⟨Nat.le_trans h.le h3, h.old, fun b hb => h.new b (by omega)⟩
theorem Gr.look {M M1 : Mem} {c c1 : Nat} (h : Gr c M c1 M1) {b : Nat} (hb : b < c) : look F M1 b = look F M b := look_congr (h.old b hb)
theorem Gr.load1 {M M1 : Mem} {c c1 : Nat} (h : Gr c M c1 M1) {b : Nat} (hb : b < c) (o : Nat) : load1 F M1 b o = load1 F M b o := by
 unfold Ev.load1; rw [h.look hb]
theorem Gr.loadN {M M1 : Mem} {c c1 : Nat} (h : Gr c M c1 M1) {b : Nat} (hb : b < c) (o n : Nat) : loadN F M1 b o n = loadN F M b o n := by
 unfold Ev.loadN; rw [h.look hb]
theorem put_same {α : Type} (v : α) : ∀ (t : Tr α) (k : Nat), t.get k = some v → t.put (some v) k = t
 | .e, k, h => by cases h
 | .n l x r, k, h => by
   rw [Tr.put_n]
   rw [Tr.get_n] at h
   by_cases h0 : k = 0
   · rw [if_pos h0] at h ⊢; rw [h]
   · rw [if_neg h0] at h ⊢
     by_cases h2 : k % 2 = 0
     · rw [if_pos h2] at h ⊢; rw [put_same v r _ h]
     · rw [if_neg h2] at h ⊢; rw [put_same v l _ h]
theorem set_same {M : Mem} {b : Nat} {x : Blk} (h : M.get b = some x) : M = M.set b x := (put_same x M b h).symm
def RowAt (F : RO) (M : Mem) (b : Nat) (row : List V) : Prop := ∃ ty ex fz str d c, look F M b = some (.cells ty row.length ex fz str d c) ∧ ∀ i, i < row.length → cell row.length d c i = row[i]?
theorem RowAt.load1 {M : Mem} {b : Nat} {row : List V} (h : RowAt F M b row) (o : Nat) : load1 F M b o = row[o]? := by
 obtain ⟨ty, ex, fz, str, d, c, hl, hc⟩ := h
 unfold Ev.load1
 rw [hl]
 show cell row.length d c o = _
 by_cases ho : o < row.length
 · exact hc o ho
 · rw [cell_eq, if_neg ho, List.getElem?_eq_none (by omega)]
theorem cellsAt_of {d : List V} {c : T} {row : List V} (hc : ∀ i, i < row.length → cell row.length d c i = row[i]?) : ∀ (n i : Nat), i + n ≤ row.length → cellsAt row.length d c n i = some ((row.drop i).take n)
 | 0, i, h => by rw [cellsAt_zero]; simp
 | n + 1, i, h => by
   rw [cellsAt_succ, hc i (by omega), List.getElem?_eq_getElem (by omega)]
   show (match cellsAt row.length d c n (i + 1) with | none => none | some r => some (row[i] :: r)) = _
   rw [cellsAt_of hc n (i + 1) (by omega)]
   simp only
   rw [← List.getElem_cons_drop (by omega : i < row.length), List.take_succ_cons]
theorem RowAt.loadN {M : Mem} {b : Nat} {row : List V} (h : RowAt F M b row) (o n : Nat) (hn : o + n ≤ row.length) : loadN F M b o n = some ((row.drop o).take n) := by
 obtain ⟨ty, ex, fz, str, d, c, hl, hc⟩ := h
 unfold Ev.loadN
 rw [hl]
 exact cellsAt_of hc n o hn
theorem RowAt.grow {M M' : Mem} {b c c' : Nat} {row : List V} (h : RowAt F M b row) (hg : Gr c M c' M') (hb : b < c) : RowAt F M' b row := by
 obtain ⟨ty, ex, fz, str, d, cs, hl, hc⟩ := h
 exact ⟨ty, ex, fz, str, d, cs, by rw [hg.look hb]; exact hl, hc⟩
theorem RowAt.ne {M : Mem} {b b' : Nat} {x : Blk} {row : List V} (h : RowAt F M b row) (hb : b ≠ b') : RowAt F (M.set b' x) b row := by
 obtain ⟨ty, ex, fz, str, d, cs, hl, hc⟩ := h
 exact ⟨ty, ex, fz, str, d, cs, by rw [look_set_ne M x hb]; exact hl, hc⟩
theorem rowAt_cells {M : Mem} {b ty fz : Nat} {ex str : Bool} {row : List V} (h : M.get b = some (.cells ty row.length ex fz str [] (rowT row))) : RowAt F M b row :=
 ⟨ty, ex, fz, str, [], rowT row, look_some_M h, fun i hi => cell_row row i⟩
def CellsAt (F : RO) (M : Mem) (b o : Nat) (row : List V) : Prop := ∀ k, k < row.length → load1 F M b (o + k) = row[k]?
theorem RowAt.cells {M : Mem} {b : Nat} {row : List V} (h : RowAt F M b row) : CellsAt F M b 0 row := fun k _ => by rw [Nat.zero_add]; exact h.load1 k
theorem CellsAt.grow {M M' : Mem} {b o c c' : Nat} {row : List V} (h : CellsAt F M b o row) (hg : Gr c M c' M') (hb : b < c) : CellsAt F M' b o row := fun k hk => by rw [hg.load1 hb]; exact h k hk
theorem CellsAt.sub {M : Mem} {b o : Nat} {row : List V} (h : CellsAt F M b o row) (i n : Nat) (hn : i + n ≤ row.length) : CellsAt F M b (o + i) ((row.drop i).take n) := fun k hk => by
 simp only [List.length_take, List.length_drop] at hk
 rw [Nat.add_assoc, h (i + k) (by omega), List.getElem?_take, if_pos (by omega), List.getElem?_drop]
theorem load1_some {M : Mem} {b o : Nat} {v : V} (h : Ev.load1 F M b o = some v) : ∃ ty n ex fz str d c, look F M b = some (.cells ty n ex fz str d c) ∧ cell n d c o = some v := by
 unfold Ev.load1 at h
 cases hl : look F M b with
 | none => rw [hl] at h; cases h
 | some x =>
   rw [hl] at h
   cases x with
   | cells ty n ex fz str d c => exact ⟨ty, n, ex, fz, str, d, c, rfl, h⟩
   | _ => cases h
theorem CellsAt.load {M : Mem} {b o : Nat} {row : List V} (h : CellsAt F M b o row) (hr : row ≠ []) : loadN F M b o row.length = some row := by
 cases row with
 | nil => exact absurd rfl hr
 | cons v r =>
   have h0 := h 0 (by simp)
   simp only [Nat.add_zero, List.getElem?_cons_zero] at h0
   obtain ⟨ty, n, ex, fz, str, d, c, hl, _⟩ := load1_some h0
   have key : ∀ (l : List V) (o : Nat), (∀ k, k < l.length → Ev.load1 F M b (o + k) = l[k]?) → cellsAt n d c l.length o = some l := by
    intro l
    induction l with
    | nil => intro o _; rfl
    | cons x l ih =>
      intro o hx
      have e0 := hx 0 (by simp)
      simp only [Nat.add_zero, List.getElem?_cons_zero] at e0
      unfold Ev.load1 at e0
      rw [hl] at e0
      have e0' : cell n d c o = some x := e0
      rw [List.length_cons, cellsAt_succ, e0']
      show (match cellsAt n d c l.length (o + 1) with | none => none | some r => some (x :: r)) = _
      rw [ih (o + 1) fun k hk => by
       have := hx (k + 1) (by simpa using hk)
       rw [List.getElem?_cons_succ] at this
       rw [← this]; congr 1; omega]
   unfold Ev.loadN
   rw [hl]
   exact key (v :: r) o h
theorem CellsAt.loadN {M : Mem} {b o : Nat} {row : List V} (h : CellsAt F M b o row) (i n : Nat) (hn : i + n ≤ row.length) (h0 : 0 < n) : loadN F M b (o + i) n = some ((row.drop i).take n) := by
 have hs := h.sub i n hn
 have hl : ((row.drop i).take n).length = n := by simp; omega
 have := hs.load (by intro e; rw [e] at hl; simp at hl; omega)
 rwa [hl] at this
theorem flat_len : ∀ {es : List (List V)} {sz : Nat}, (∀ e ∈ es, e.length = sz) → es.flatten.length = es.length * sz
 | [], sz, _ => by simp
 | e :: es, sz, h => by
   rw [List.flatten_cons, List.length_append, flat_len fun x hx => h x (List.mem_cons_of_mem _ hx), h e (List.mem_cons_self ..), List.length_cons, Nat.add_mul]; omega
theorem flat_get : ∀ {es : List (List V)} {sz : Nat}, (∀ e ∈ es, e.length = sz) → ∀ (i : Nat) (h : i < es.length), (es.flatten.drop (i * sz)).take sz = es[i]
 | [], sz, _, i, h => by cases h
 | e :: es, sz, h, 0, _ => by
   rw [List.flatten_cons, Nat.zero_mul, List.drop_zero, List.take_append_of_le_length (by rw [h e (List.mem_cons_self ..)]; exact Nat.le_refl _), List.getElem_cons_zero, ← h e (List.mem_cons_self ..), List.take_length]
 | e :: es, sz, h, i + 1, hi => by
   have he := h e (List.mem_cons_self ..)
   rw [List.flatten_cons, List.getElem_cons_succ, Nat.add_mul, Nat.one_mul, Nat.add_comm, List.drop_append, he, List.drop_eq_nil_of_le (by omega), List.nil_append, Nat.add_sub_cancel_left]
   exact flat_get (fun x hx => h x (List.mem_cons_of_mem _ hx)) i (by simpa using hi)
def SlAt (F : RO) (M : Mem) (c sz : Nat) (v : V) (es : List (List V)) : Prop :=
 (∀ e ∈ es, e.length = sz) ∧ ((es = [] ∧ (v = .l0 ∨ ∃ b o0 o, v = .ue b o0 o)) ∨
  ∃ b o, ((∃ cap, es.length ≤ cap ∧ v = .l b o es.length cap) ∨ (∃ el kn, el + es.length ≤ kn ∧ v = .u b o es.length el kn)) ∧ b < c ∧ CellsAt F M b o es.flatten)
theorem SlAt.len {M : Mem} {c sz : Nat} {v : V} {es : List (List V)} (h : SlAt F M c sz v es) : lnL v = some (.i .i64 (es.length : Int)) := by
 rcases h with ⟨_, ⟨rfl, h | ⟨b, o0, o, h⟩⟩ | ⟨b, o, ⟨cap, _, h⟩ | ⟨el, kn, _, h⟩, _⟩⟩
 · rw [h]; exact lnL_l0
 · rw [h]; exact lnL_ue _ _ _
 · rw [h]; exact lnL_l _ _ _ _
 · rw [h]; exact lnL_u _ _ _ _ _
theorem SlAt.grow {M M' : Mem} {c c' sz : Nat} {v : V} {es : List (List V)} (h : SlAt F M c sz v es) (hg : Gr c M c' M') : SlAt F M' c' sz v es := by
 rcases h with ⟨h0, h | ⟨b, o, hv, hb, hr⟩⟩
 · exact ⟨h0, .inl h⟩
 · exact ⟨h0, .inr ⟨b, o, hv, Nat.lt_of_lt_of_le hb hg.le, hr.grow hg hb⟩⟩
theorem SlAt.at {M : Mem} {c sz : Nat} {v : V} {es : List (List V)} (h : SlAt F M c sz v es) (i : Nat) (hi : i < es.length) :
  ∃ b o, b < c ∧ (∀ k, iaSV sz v (.i k (i : Int)) = some (.p b o)) ∧ CellsAt F M b o es[i] := by
 rcases h with ⟨h0, ⟨rfl, _⟩ | ⟨b, o, hv, hb, hr⟩⟩
 · cases hi
 · have hle : i * sz + sz ≤ es.flatten.length := by
    have : (i + 1) * sz ≤ es.length * sz := Nat.mul_le_mul_right _ hi
    rw [Nat.add_mul, Nat.one_mul] at this
    rw [flat_len h0]
    exact this
   refine ⟨b, o + i * sz, hb, fun k => ?_, ?_⟩
   · rcases hv with ⟨cap, _, rfl⟩ | ⟨el, kn, _, rfl⟩
     · exact iaS_l _ _ _ _ _ _ _ hi
     · exact iaS_u _ _ _ _ _ _ _ _ hi
   · have := hr.sub (i * sz) sz hle
     rwa [flat_get h0 i hi] at this
theorem SlAt.one {M : Mem} {c : Nat} {v : V} {es : List (List V)} (h : SlAt F M c 1 v es) (i : Nat) (hi : i < es.length) {x : V} (hx : es[i] = [x]) :
  ∃ b o, b < c ∧ (∀ k, iaSV 1 v (.i k (i : Int)) = some (.p b o)) ∧ load1 F M b o = some x := by
 obtain ⟨b, o, h1, h2, h3⟩ := h.at i hi
 refine ⟨b, o, h1, h2, ?_⟩
 have := h3 0 (by rw [hx]; simp)
 rw [Nat.add_zero, hx] at this
 exact this
theorem Okm.set {M : Mem} {c c' : Nat} (h : Okm F M c) (b : Nat) (x : Blk) (h1 : c ≤ b) (h2 : b < c') : Okm F (M.set b x) c' := by
 refine ⟨fun b' hb' => ?_, fun b' hb' => h.hiF b' (by omega), fun b' hb' => ?_, by have := h.ge; omega⟩
 · rw [get_ne _ _ (by omega)]; exact h.hiM b' (by omega)
 · have : b' ≠ b := by
    intro e; subst e
    rw [h.hiF b' h1] at hb'; cases hb'
   rw [get_ne _ _ this]; exact h.ap b' hb'
abbrev SlB (F : RO) (M : Mem) (c : Nat) (v : V) (l : List UInt8) : Prop := SlAt F M c 1 v (l.map fun x => [bV x])
theorem SlB.get {M : Mem} {c : Nat} {v : V} {l : List UInt8} (h : SlB F M c v l) (i : Nat) (hi : i < l.length) :
  ∃ b o, b < c ∧ (∀ k, iaSV 1 v (.i k (i : Int)) = some (.p b o)) ∧ load1 F M b o = some (.i .u8 (l[i].toNat : Int)) :=
 SlAt.one h i (by simpa using hi) (by simp [bV])
theorem SlB.len {M : Mem} {c : Nat} {v : V} {l : List UInt8} (h : SlB F M c v l) : lnL v = some (.i .i64 (l.length : Int)) := by
 have := SlAt.len h
 rwa [List.length_map] at this
theorem get_same (M : Mem) (b : Nat) (x : Blk) : (M.set b x).get b = some x := by rw [Tr.get_set, if_pos rfl]
end
section
variable {Φ : Nat → Option CF} {rd : Option Nat} {fn : Nat} {F : RO}
theorem lenV_sl {M : Mem} {c sz : Nat} {v : V} {es : List (List V)} (h : SlAt F M c sz v es) : lenV v = some es.length := by
 rcases h with ⟨_, ⟨rfl, rfl | ⟨b, o0, o, rfl⟩⟩ | ⟨b, o, ⟨cap, _, rfl⟩ | ⟨el, kn, _, rfl⟩, _⟩⟩ <;> rfl
theorem readB_of {M : Mem} {sz b o : Nat} {es : List (List V)} (hsz : 0 < sz) (h0 : ∀ e ∈ es, e.length = sz) (h : CellsAt F M b o es.flatten) : ∃ r, readB F M sz es.length b o = some (es.flatten, r) := by
 unfold readB
 rw [beqN]
 cases es with
 | nil => exact ⟨none, rfl⟩
 | cons e es =>
   have hl := flat_len h0
   have hne : (e :: es).flatten ≠ [] := by
    intro h
    rw [h] at hl
    simp only [List.length_nil, List.length_cons, Nat.add_mul] at hl
    omega
   have := h.load hne
   rw [hl] at this
   rw [decide_eq_false (by simp), cond_false]
   show ∃ r, (match loadN F M b o ((e :: es).length * sz) with | some vs => some (vs, some b) | none => none) = _
   rw [this]
   exact ⟨some b, rfl⟩
theorem readL_of {M : Mem} {c sz : Nat} {v : V} {es : List (List V)} (hsz : 0 < sz) (h : SlAt F M c sz v es) : ∃ r, readL F M sz es.length v = some (es.flatten, r) := by
 rcases h with ⟨h0, ⟨rfl, rfl | ⟨b, o0, o, rfl⟩⟩ | ⟨b, o, ⟨cap, _, rfl⟩ | ⟨el, kn, _, rfl⟩, _, hc⟩⟩
 · exact ⟨none, rfl⟩
 · exact ⟨none, rfl⟩
 · exact readB_of hsz h0 hc
 · exact readB_of hsz h0 hc
theorem split_sl {M : Mem} {c sz : Nat} {v : V} {es : List (List V)} (hsz : 0 < sz) (h : SlAt F M c sz v es) : splitSrc F M sz v = some (es.length, es.flatten) := by
 have hl := lenV_sl h
 obtain ⟨r, hr⟩ := readL_of hsz h
 have hs : ∀ n x, v ≠ .s n x := by
  intro n x e
  rcases h with ⟨_, ⟨rfl, h | ⟨b, o0, o, h⟩⟩ | ⟨b, o, ⟨cap, _, h⟩ | ⟨el, kn, _, h⟩, _⟩⟩ <;> (rw [e] at h; cases h)
 have e : splitSrc F M sz v = match lenV v with | some n => snd1 n (readL F M sz n v) | none => none := by
  cases v <;> first | rfl | exact absurd rfl (hs _ _)
 rw [e, hl]
 show snd1 es.length (readL F M sz es.length v) = _
 rw [hr]; rfl
def rowU (ty : Nat) (row : List V) : Blk := .cells ty row.length false 0 false [] (rowT row)
def AccAt (M : Mem) (c0 c b ty sz : Nat) (v : V) (es : List (List V)) : Prop :=
 (∀ e ∈ es, e.length = sz) ∧ ((es = [] ∧ v = .l0) ∨ (c0 ≤ b ∧ b < c ∧ v = .u b 0 es.length 0 es.length ∧ M.get b = some (rowU ty es.flatten)))
theorem AccAt.nil {M : Mem} {c0 c b ty sz : Nat} : AccAt M c0 c b ty sz .l0 [] := ⟨fun e he => (by cases he), .inl ⟨rfl, rfl⟩⟩
theorem rowAt_U {M : Mem} {b ty : Nat} {row : List V} (h : M.get b = some (rowU ty row)) : RowAt F M b row := rowAt_cells h
theorem AccAt.sl {M : Mem} {c0 c b ty sz : Nat} {v : V} {es : List (List V)} (h : AccAt M c0 c b ty sz v es) : SlAt F M c sz v es := by
 rcases h with ⟨h0, ⟨rfl, rfl⟩ | ⟨h1, h2, rfl, h3⟩⟩
 · exact ⟨h0, .inl ⟨rfl, .inl rfl⟩⟩
 · exact ⟨h0, .inr ⟨b, 0, .inr ⟨0, es.length, by omega, rfl⟩, h2, (rowAt_U h3).cells⟩⟩
theorem AccAt.up {M M' : Mem} {c0 c c' b ty sz : Nat} {v : V} {es : List (List V)} (h : AccAt M c0 c b ty sz v es) (hc : c ≤ c') (hb : b < c → M'.get b = M.get b) : AccAt M' c0 c' b ty sz v es := by
 rcases h with ⟨h0, h | ⟨h1, h2, rfl, h3⟩⟩
 · exact ⟨h0, .inl h⟩
 · exact ⟨h0, .inr ⟨h1, by omega, rfl, by rw [hb h2]; exact h3⟩⟩
theorem AccAt.gr {M M' : Mem} {c0 c c' b ty sz : Nat} {v : V} {es : List (List V)} (h : AccAt M c0 c b ty sz v es) (hg : Gr c M c' M') : AccAt M' c0 c' b ty sz v es := h.up hg.le fun hb => hg.old b hb
theorem room_of {n bytes : Nat} (h : (3 * n + 2000) * bytes ≤ 281474976710656) (h1 : n ≤ 1099511627776) : room n bytes = true := by
 unfold room
 rw [bleN, bleN]
 have a : decide (Nat.mul (Nat.add (Nat.mul 3 n) 2000) bytes ≤ 281474976710656) = true := decide_eq_true h
 rw [a, decide_eq_true h1]; rfl
theorem grown_eq (M : Mem) (c ty bytes len : Nat) (vs : List V) (h : room len bytes = true) : grown M c ty bytes len 0 false vs = .k (.u c 0 len 0 len) (M.set c (rowU ty vs)) (c + 1) := by
 unfold grown
 rw [h]
 show (M.set c (.cells ty vs.length false 0 false [] (listTr vs 0 .e))).force (fun M => fN (Nat.succ c) fun c' => fN len fun len => RC.k (.u c 0 len 0 len) M c') = _
 rw [Tr.force_eq, fN_eq, fN_eq]; rfl
def slLV (sz : Nat) (x : V) (lo hi mx : Option V) : Option V := (qop (.slL sz (.c x) (lo.map .c) (hi.map .c) (mx.map .c)) [] .e .e).val
theorem optNN_map (tm : T) (o : Option X) : optNN .e ((o.map fun x => x.ev tm).map .c) = optNN tm o := by cases o <;> rfl
theorem v_slL (sz : Nat) (x : X) (lo hi mx : Option X) (M : Mem) (t : T) : (qop (.slL sz x lo hi mx) F M t).val = slLV sz (x.ev t) (lo.map fun x => x.ev t) (hi.map fun x => x.ev t) (mx.map fun x => x.ev t) := by
 show (q_slL1 sz (x.ev t) (optNN t lo) (optNN t hi) (optNN t mx)).val = (q_slL1 sz (x.ev t) (optNN .e _) (optNN .e _) (optNN .e _)).val
 rw [optNN_map, optNN_map, optNN_map]
def appV (F : RO) (M : Mem) (c ty sz bytes : Nat) (x y : V) : RC := e_app1 F M c ty sz bytes x (splitSrc F M sz y)
theorem x_app_eq (ty sz bytes : Nat) (x y : X) (M : Mem) (c : Nat) (t : T) : doE (.app ty sz bytes x y) (K Φ rd fn F) M c t = appV F M c ty sz bytes (x.ev t) (y.ev t) := rfl
theorem flat_bytes (l : List UInt8) : (l.map fun x => [bV x]).flatten = l.map bV := by
 induction l with
 | nil => rfl
 | cons a l ih => rw [List.map_cons, List.flatten_cons, ih]; rfl
theorem allOne_sl (l : List UInt8) : allOne (l.map fun x => [bV x]).flatten = true := by rw [flat_bytes]; exact allOne_bytes l
def bsV (F : RO) (M : Mem) (x : V) : Option V := (qop (.bs (.c x)) F M .e).val
theorem v_bs (x : X) (M : Mem) (t : T) : (qop (.bs x) F M t).val = bsV F M (x.ev t) := Eq.trans rfl (Eq.refl _)
def rowD (d : List V) (ty : Nat) (row : List V) : Blk := .cells ty row.length true 0 false d (rowT row)
def evPs (t : T) : List (Nat × X) → List (Nat × List V)
 | [] => []
 | (o, x) :: r => (o, flatten (x.ev t)) :: evPs t r
theorem evPs_nil (t : T) : evPs t [] = [] := rfl
theorem evPs_cons (t : T) (o : Nat) (x : X) (r : List (Nat × X)) : evPs t ((o, x) :: r) = (o, flatten (x.ev t)) :: evPs t r := rfl
def partsR (sz : Nat) : Nat → List (Nat × List V) → Option (List V)
 | _, [] => some []
 | o, (k, vs) :: r => if k = o ∧ vs.length = sz ∧ allOne vs = true then (partsR sz (o + sz) r).map (vs ++ ·) else none
theorem partsR_nil (sz o : Nat) : partsR sz o [] = some [] := rfl
theorem partsR_cons (sz o k : Nat) (vs : List V) (r : List (Nat × List V)) : partsR sz o ((k, vs) :: r) = if k = o ∧ vs.length = sz ∧ allOne vs = true then (partsR sz (o + sz) r).map (vs ++ ·) else none := rfl
theorem listTr_snoc : ∀ (a b : List V) (k : Nat) (t : T), listTr b (k + a.length) (listTr a k t) = listTr (a ++ b) k t
 | [], b, k, t => rfl
 | x :: a, b, k, t => by
   rw [List.cons_append, listTr_cons, listTr_cons, List.length_cons, show k + (a.length + 1) = (k + 1) + a.length by omega, listTr_snoc a b]
theorem fillP_of {sz m : Nat} {t : T} : ∀ {parts : List (Nat × X)} {pre row : List V}, partsR sz pre.length (evPs t parts) = some row → pre.length + row.length ≤ m → fillP sz m t parts (listTr pre 0 .e) = some (listTr (pre ++ row) 0 .e)
 | [], pre, row, h, hm => by
   obtain rfl : [] = row := Option.some.inj h
   rw [List.append_nil]; rfl
 | (o, x) :: r, pre, row, h, hm => by
   rw [evPs_cons, partsR_cons] at h
   split at h
   · rename_i hc
     obtain ⟨rfl, h1, h2⟩ := hc
     rw [Option.map_eq_some_iff] at h
     obtain ⟨row', h3, rfl⟩ := h
     rw [List.length_append] at hm
     show (bif Nat.beq (flatten (x.ev t)).length sz && Nat.ble (Nat.add pre.length sz) m && allOne (flatten (x.ev t)) then (listTr (flatten (x.ev t)) pre.length (listTr pre 0 .e)).force fun t' => fillP sz m t r t' else none) = _
     rw [beqN, bleN, h2, decide_eq_true h1, decide_eq_true (show Nat.add pre.length sz ≤ m by show pre.length + sz ≤ m; omega)]
     show (listTr (flatten (x.ev t)) pre.length (listTr pre 0 .e)).force (fun t' => fillP sz m t r t') = _
     rw [Tr.force_eq]
     have hs := listTr_snoc pre (flatten (x.ev t)) 0 .e
     rw [Nat.zero_add] at hs
     rw [hs]
     have := fillP_of (m := m) (parts := r) (pre := pre ++ flatten (x.ev t)) (row := row') (by rw [List.length_append, h1]; exact h3) (by rw [List.length_append]; omega)
     rw [this, List.append_assoc]
   · cases h
theorem partsR_len {sz : Nat} : ∀ {ps : List (Nat × List V)} {o : Nat} {row : List V}, partsR sz o ps = some row → row.length = ps.length * sz ∧ allOne row = true
 | [], o, row, h => by
   obtain rfl : [] = row := Option.some.inj h
   simp; rfl
 | (k, vs) :: r, o, row, h => by
   rw [partsR_cons] at h
   split at h
   · rename_i hc
     rw [Option.map_eq_some_iff] at h
     obtain ⟨row', h3, rfl⟩ := h
     obtain ⟨h4, h5⟩ := partsR_len h3
     refine ⟨by rw [List.length_append, h4, hc.2.1, List.length_cons, Nat.add_mul]; omega, ?_⟩
     have key : ∀ (a b : List V), allOne a = true → allOne b = true → allOne (a ++ b) = true := by
      intro a
      induction a with
      | nil => intro b _ h; exact h
      | cons x a ih =>
        intro b ha hb
        rw [allOne_cons, Bool.and_eq_true] at ha
        rw [List.cons_append, allOne_cons, ha.1, ih b ha.2 hb]; rfl
     exact key _ _ hc.2.2 h5
   · cases h
def bslO (ty n : Nat) (zero : List V) (b : Nat) : Option (List V) → Option (V × Blk)
 | some row => some (.l b 0 n n, rowD zero ty row)
 | none => none
def bslX (ty n sz : Nat) (zero : List V) (parts : List (Nat × X)) (b : Nat) (t : T) : Option (V × Blk) := aop (.bsl ty n sz zero parts) b t
theorem evPs_len (t : T) : ∀ ps : List (Nat × X), (evPs t ps).length = ps.length
 | [] => rfl
 | (o, x) :: r => by rw [evPs_cons, List.length_cons, List.length_cons, evPs_len t r]
theorem a_bsl_eq (ty n sz : Nat) (zero : List V) (parts : List (Nat × X)) (b : Nat) (t : T) (hn : parts.length = n) {row : List V} (h : partsR sz 0 (evPs t parts) = some row) :
  aop (.bsl ty n sz zero parts) b t = some (.l b 0 n n, rowD zero ty row) := by
 subst hn
 have hl := (partsR_len h).1
 rw [evPs_len] at hl
 have := fillP_of (m := parts.length * sz) (pre := []) h (by simp [hl])
 rw [List.nil_append] at this
 show (match fillP sz (parts.length * sz) t parts .e with | some c => fN (parts.length * sz) fun m => some (V.l b 0 parts.length parts.length, Blk.cells ty m true 0 false zero c) | none => none) = _
 rw [show fillP sz (parts.length * sz) t parts .e = some (listTr row 0 .e) from this]
 show fN (parts.length * sz) (fun m => some (V.l b 0 parts.length parts.length, Blk.cells ty m true 0 false zero (listTr row 0 .e))) = _
 rw [fN_eq, ← hl]; rfl
theorem a_bsl_w (ty n sz : Nat) (zero : List V) (parts : List (Nat × X)) (b : Nat) (t : T) : aop (.bsl ty n sz zero parts) b t = if parts.length = n ∧ (partsR sz 0 (evPs t parts)).isSome = true then bslO ty n zero b (partsR sz 0 (evPs t parts)) else bslX ty n sz zero parts b t := by
 split
 · rename_i h
   obtain ⟨row, hr⟩ := Option.isSome_iff_exists.1 h.2
   rw [hr]
   exact a_bsl_eq ty n sz zero parts b t h.1 hr
 · rfl
theorem bslO_some (ty n : Nat) (zero : List V) (b : Nat) (row : List V) : bslO ty n zero b (some row) = some (.l b 0 n n, rowD zero ty row) := rfl
def knownO (L : List Tab) : RO → List V → Mem → Nat → RC := fun F args M ct => match args with | [] => bif tabsIn F L then .k (.b true) M ct else .f | _ => .f
theorem knownO_nil {L : List Tab} (h : tabsIn F L = true) (M : Mem) (c : Nat) : knownO L F [] M c = .k (.b true) M c := by
 show (bif tabsIn F L then RC.k (.b true) M c else .f) = _
 rw [h]; rfl
end
def vOf (C : Nat) : Value → Option V
 | .bool x => some (.b x)
 | .int k n => some (.i k n)
 | .string s => some (sV s.data.toList)
 | .pointer none => some .p0
 | .slice none 0 0 => some .l0
 | .slice (some a) n c => if a.spot = none ∧ a.block < C then some (.l a.block a.off n c) else if n = 0 ∧ c = 0 ∧ adE a < C then some (.ue (adE a) 1 0) else none
 | .iface t (.pointer (some ⟨r, o, none⟩)) => if r < C then some (.a t (.p r o)) else none
 | _ => none
theorem conc_sV (E : Env) (s : ByteArray) : conc E (sV s.data.toList) = .string s := by
 show Value.string (ba s.data.toList.length (strN s.data.toList)) = _
 unfold ba
 rw [strN_bl]
theorem vOf_conc {C : Nat} {x : Value} {v : V} (h : vOf C x = some v) : conc E0 v = x ∧ bd (· < C) v := by
 unfold vOf at h
 split at h
 · obtain rfl := Option.some.inj h; exact ⟨rfl, trivial⟩
 · obtain rfl := Option.some.inj h; exact ⟨rfl, trivial⟩
 · obtain rfl := Option.some.inj h; exact ⟨conc_sV _ _, trivial⟩
 · obtain rfl := Option.some.inj h; exact ⟨rfl, trivial⟩
 · obtain rfl := Option.some.inj h; exact ⟨rfl, trivial⟩
 · rename_i a n c
   split at h
   · rename_i hr
     obtain ⟨b, o, sp⟩ := a
     obtain ⟨h1, hr⟩ := hr
     have h1 : sp = none := h1
     subst h1
     obtain rfl := Option.some.inj h
     refine ⟨?_, hr⟩
     show Value.slice (some ⟨b, 0 + o, none⟩) n c = _
     rw [Nat.zero_add]
   · split at h
     · rename_i hr
       obtain ⟨rfl, rfl, hr⟩ := hr
       obtain rfl := Option.some.inj h
       refine ⟨?_, hr⟩
       show Value.slice (some (if (0 : Nat) = 0 then (if (0 : Nat) < 1 then adD (adE a) else _) else _)) 0 0 = _
       rw [if_pos rfl, if_pos (by decide), adD_E]
     · cases h
 · rename_i t r o
   split at h
   · rename_i hr
     obtain rfl := Option.some.inj h
     refine ⟨?_, hr⟩
     show Value.iface t (.pointer (some ⟨r, 0 + o, none⟩)) = _
     rw [Nat.zero_add]
   · cases h
 · cases h
def optTr : List (Option V) → Nat → T → T
 | [], _, t => t
 | none :: r, k, t => optTr r (k + 1) t
 | some v :: r, k, t => optTr r (k + 1) (t.set k v)
theorem optTr_get : ∀ (l : List (Option V)) (k : Nat) (t : T) (j : Nat), (optTr l k t).get j = if k ≤ j ∧ j < k + l.length then (match l[j - k]? with | some (some v) => some v | _ => t.get j) else t.get j
 | [], k, t, j => by
   rw [if_neg (by simp; try omega)]; rfl
 | none :: r, k, t, j => by
   show (optTr r (k + 1) t).get j = _
   rw [optTr_get r (k + 1) t j]
   simp only [List.length_cons]
   by_cases h0 : j = k
   · subst h0
     rw [if_neg (by omega), if_pos (by omega)]
     simp
   · by_cases h1 : k ≤ j ∧ j < k + (r.length + 1)
     · rw [if_pos (by omega), if_pos h1, show j - k = (j - (k + 1)) + 1 by omega, List.getElem?_cons_succ]
     · rw [if_neg (by omega), if_neg h1]
 | some v :: r, k, t, j => by
   show (optTr r (k + 1) (t.set k v)).get j = _
   rw [optTr_get r (k + 1) (t.set k v) j, Tr.get_set]
   simp only [List.length_cons]
   by_cases h0 : j = k
   · subst h0
     rw [if_neg (by omega), if_pos rfl, if_pos (by omega)]
     simp
   · rw [if_neg h0]
     by_cases h1 : k ≤ j ∧ j < k + (r.length + 1)
     · rw [if_pos (by omega), if_pos h1, show j - k = (j - (k + 1)) + 1 by omega, List.getElem?_cons_succ]
     · rw [if_neg (by omega), if_neg h1]
def blkOf (C : Nat) : Obj → Option Blk
 | .cells arr ty _ => some (.cells ty arr.size false arr.size true [] (optTr (arr.toList.map (vOf C)) 0 .e))
 | _ => none
def heapR (C : Nat) : List Obj → Nat → RO
 | [], _ => []
 | o :: r, k => match blkOf C o with
   | some x => (k, x) :: heapR C r (k + 1)
   | none => heapR C r (k + 1)
theorem heapR_get (C : Nat) : ∀ (l : List Obj) (k j : Nat), roGet (heapR C l k) j = if k ≤ j then (l[j - k]?).bind (blkOf C) else none
 | [], k, j => by
   show none = _
   split <;> simp
 | o :: r, k, j => by
   have ih := heapR_get C r (k + 1) j
   unfold heapR
   by_cases h0 : j = k
   · subst h0
     rw [if_neg (by omega)] at ih
     rw [if_pos (Nat.le_refl _), Nat.sub_self, List.getElem?_cons_zero]
     show _ = blkOf C o
     cases hb : blkOf C o with
     | none => exact ih
     | some x =>
       show roGet ((j, x) :: heapR C r (j + 1)) j = some x
       rw [roGet_cons, if_pos rfl]
   · have e : roGet (match blkOf C o with | some x => (k, x) :: heapR C r (k + 1) | none => heapR C r (k + 1)) j = roGet (heapR C r (k + 1)) j := by
      cases blkOf C o with
      | none => rfl
      | some x =>
        show roGet ((k, x) :: heapR C r (k + 1)) j = _
        rw [roGet_cons, if_neg (fun e => h0 e.symm)]
     rw [e, ih]
     by_cases h1 : k ≤ j
     · rw [if_pos (by omega), if_pos h1, show j - k = (j - (k + 1)) + 1 by omega, List.getElem?_cons_succ]
     · rw [if_neg (by omega), if_neg h1]
def heapF (W : World) (C : Nat) : RO := heapR C W.heap.toList 0
theorem heapF_get (W : World) (C j : Nat) : roGet (heapF W C) j = (W.heap[j]?).bind (blkOf C) := by
 unfold heapF
 rw [heapR_get, if_pos (Nat.zero_le _), Nat.sub_zero, Array.getElem?_toList]
theorem heap_cell {C ty : Nat} {arr : Array Value} {k : Nat} {v : V} : cell arr.size [] (optTr (arr.toList.map (vOf C)) 0 .e) k = some v ↔ ∃ x, arr[k]? = some x ∧ vOf C x = some v := by
 rw [cell_eq]
 by_cases h : k < arr.size
 · rw [if_pos h, optTr_get, if_pos (by simpa using h)]
   simp only [Nat.sub_zero, List.getElem?_map, Array.getElem?_toList, Array.getElem?_eq_getElem h, Option.map_some]
   show (match (match some (vOf C arr[k]) with | some (some v) => some v | _ => (Tr.e : T).get k) with | some v => some v | none => ([] : List V)[k % ([] : List V).length]?) = some v ↔ _
   constructor
   · intro hv
     refine ⟨arr[k], rfl, ?_⟩
     cases hx : vOf C arr[k] with
     | none => rw [hx] at hv; simp [Tr.get_e] at hv
     | some y => rw [hx] at hv; simpa using hv
   · rintro ⟨x, hx, hv⟩
     obtain rfl := Option.some.inj hx
     rw [hv]
 · rw [if_neg h]
   constructor
   · intro hh; cases hh
   · rintro ⟨x, hx, _⟩
     rw [Array.getElem?_eq_none (by omega)] at hx; cases hx
theorem heap_rel {P : Program} {W : World} {C : Nat} (hC : W.heap.size ≤ C) : Rel P E0 (heapF W C) .e (· < C) W := by
 refine ⟨?_, fun b b' _ _ e => e, fun b _ => rfl⟩
 intro b blk hb
 rw [look_none_M (show (Tr.e : Mem).get b = none from rfl), heapF_get] at hb
 cases ho : W.heap[b]? with
 | none => rw [ho] at hb; cases hb
 | some o =>
   rw [ho] at hb
   have hb' : blkOf C o = some blk := hb
   have hlt : b < C := Nat.lt_of_lt_of_le (Array.getElem?_eq_some_iff.1 ho).1 hC
   cases o with
   | cells arr ty fr =>
     obtain rfl := Option.some.inj hb'
     refine ⟨hlt, ?_, _, ho, arr, fr, rfl, ?_, ?_, ?_, ?_⟩
     · intro k v hk
       obtain ⟨x, _, hv⟩ := (heap_cell (ty := ty)).1 hk
       exact (vOf_conc hv).2
     · intro k v hk
       obtain ⟨x, hx, hv⟩ := (heap_cell (ty := ty)).1 hk
       show arr[0 + k]? = _
       rw [Nat.zero_add, hx, (vOf_conc hv).1]
     · show arr.size = 0 + arr.size + 0 * _
       simp
     · intro o h1 h2
       have h1' : 0 + arr.size ≤ o := h1
       omega
     · intro h; cases h
   | _ => cases hb'
theorem heap_load {W : World} {C r o : Nat} {x : Value} {v : V} (h : W.cell? ⟨r, o, none⟩ = some x) (hv : vOf C x = some v) : load1 (heapF W C) .e r o = some v := by
 unfold World.cell? at h
 split at h
 · rename_i cs ty fr hh
   have h' : cs[o]? = some x := h
   unfold Ev.load1
   rw [look_none_M (show (Tr.e : Mem).get r = none from rfl), heapF_get]
   have hh' : W.heap[r]? = some (.cells cs ty fr) := hh
   rw [hh']
   exact (heap_cell (ty := ty)).2 ⟨x, h', hv⟩
 · cases h
theorem heap_tabs {W : World} {C : Nat} : ∀ {L : List Tab}, (∀ t ∈ L, t.1 < 1000 ∧ TabAt W t) → tabsIn (heapF W C) L = true
 | [], _ => rfl
 | t :: r, h => by
   show (Nat.blt t.1 1000 && (tabIn (heapF W C) t && tabsIn (heapF W C) r)) = true
   rw [heap_tabs fun t ht => h t (List.mem_cons_of_mem _ ht), bltN, decide_eq_true (h t (List.mem_cons_self ..)).1]
   obtain ⟨_, ty, fr, hh⟩ := h t (List.mem_cons_self ..)
   have hi : tabIn (heapF W C) t = true := by
    unfold tabIn
    rw [heapF_get, hh]
    show (Nat.beq (t.2.2.map fun z => Value.int t.2.1 z).toArray.size (t.2.2.map fun z => Value.int t.2.1 z).toArray.size && tabCells _ [] _ t.2.1 t.2.2 0) = true
    rw [Nat.beq_refl, Bool.true_and]
    have key : ∀ (zs : List Int) (i : Nat), i + zs.length = t.2.2.length → (∀ j, zs[j]? = t.2.2[i + j]?) →
      tabCells (t.2.2.map fun z => Value.int t.2.1 z).toArray.size [] (optTr ((t.2.2.map fun z => Value.int t.2.1 z).toArray.toList.map (vOf C)) 0 .e) t.2.1 zs i = true := by
     intro zs
     induction zs with
     | nil =>
       intro i hi _
       show Nat.beq i _ = true
       simp only [List.length_nil] at hi
       rw [beqN]
       simp; omega
     | cons z zs ih =>
       intro i hi hz
       have h0 := hz 0
       simp only [List.getElem?_cons_zero, Nat.add_zero] at h0
       have hc : cell (t.2.2.map fun z => Value.int t.2.1 z).toArray.size [] (optTr ((t.2.2.map fun z => Value.int t.2.1 z).toArray.toList.map (vOf C)) 0 .e) i = some (.i t.2.1 z) :=
        (heap_cell (ty := ty)).2 ⟨.int t.2.1 z, by simp [← h0], rfl⟩
       unfold tabCells
       rw [hc]
       show (tabEqV t.2.1 z (.i t.2.1 z) && _) = true
       rw [ih (i + 1) (by simp at hi; omega) fun j => by have := hz (j + 1); rw [List.getElem?_cons_succ] at this; rw [this]; congr 1; omega]
       show (sameK t.2.1 t.2.1 && eqI z z && true) = true
       rw [sameK_iff, eqI_iff]; simp
    exact key t.2.2 0 (by omega) (fun j => by rw [Nat.zero_add])
   rw [hi]; rfl
theorem law_of {P : Program} (hm : P.follows .mixedOrders = true) {Φ : Nat → Option CF} (hΦ : PhiOk P Φ) {f : Nat} {W : World} {C : Nat} {args : List V} (hC : W.heap.size ≤ C) (hk : 1000 ≤ C) (ha : bds (· < C) args)
  (h : Ev.Calls Φ (heapF W C) f args .e C fun v _ _ => v = .b true) : Go.Calls P f (concs E0 args).toArray W fun e W' => e = .returned (.bool true) ∧ (∀ may, W.keptBut W' may) ∧ ∀ i, i < W.heap.size → W'.heap[i]? = W.heap[i]? := by
 obtain ⟨v, M', c', hc, rfl⟩ := h
 obtain ⟨fn, h1, h2, h3, hC⟩ := callOk_of (rd := none) (fn := 0) (F₀ := []) hΦ (den_ok hm hΦ) (heapF W C) f args .e C (.b true) M' c' hc E0 (· < C) W (heap_rel hC) (fun g _ => ⟨rfl, rfl⟩) (fun g hg => Nat.lt_of_lt_of_le hg hk) (fun b hb hc => Nat.lt_irrefl _ (Nat.lt_of_lt_of_le hc hb)) ha
 refine hC.mono ?_
 rintro e W' ⟨E', c', rfl, hS, _, _⟩
 exact ⟨rfl, fun may => kept_of hS may, fun i hi => hS.frame i hi (fun b hb => by cases hb)⟩
inductive Ty where
 | bool | int (k : IntKind) | str | sl (e : Ty) | nil | cons (a b : Ty) | arr (n : Nat) (k : IntKind)
def Ty.D : Ty → Type
 | .bool => Bool
 | .int _ => Int
 | .str => List UInt8
 | .sl e => List e.D
 | .nil => Unit
 | .cons a b => a.D × b.D
 | .arr _ _ => List Int
def Ty.size : Ty → Nat
 | .nil => 0
 | .cons a b => a.size + b.size
 | .arr n _ => n
 | _ => 1
def Ty.hasSl : Ty → Bool
 | .sl _ => true
 | .cons a b => a.hasSl || b.hasSl
 | _ => false
def Ty.deep : Ty → Bool
 | .sl e => e.hasSl
 | .cons a b => a.deep || b.deep
 | _ => false
def Rp (F : RO) (M : Mem) (c : Nat) : (t : Ty) → List V → t.D → Prop
 | .bool, vs, x => vs = [.b x]
 | .int k, vs, n => (fun z : Int => vs = [.i k z] ∧ k.min ≤ z ∧ z ≤ k.max) n
 | .str, vs, x => (fun l : List UInt8 => vs = [sV l] ∧ l.length ≤ Go.maxLen) x
 | .sl e, vs, x => (fun l : List e.D => ∃ v es, vs = [v] ∧ SlAt F M c e.size v es ∧ l.length ≤ Go.maxLen ∧ es.length = l.length ∧ ∀ i (h : i < es.length) (h' : i < l.length), Rp F M c e es[i] l[i]) x
 | .nil, vs, _ => vs = []
 | .cons a b, vs, x => ∃ v1 v2, vs = v1 ++ v2 ∧ Rp F M c a v1 x.1 ∧ Rp F M c b v2 x.2
 | .arr n k, vs, x => (fun l : List Int => vs = l.map (V.i k) ∧ l.length = n ∧ ∀ z ∈ l, k.min ≤ z ∧ z ≤ k.max) x
theorem Rp.len {F : RO} {M : Mem} {c : Nat} : ∀ {t : Ty} {vs : List V} {x : t.D}, Rp F M c t vs x → vs.length = t.size
 | .bool, vs, x, h => by obtain rfl : vs = [.b x] := h; rfl
 | .int k, vs, x, h => by obtain ⟨rfl, _⟩ := h; rfl
 | .str, vs, x, h => by obtain ⟨rfl, _⟩ := h; rfl
 | .sl e, vs, x, h => by obtain ⟨v, es, rfl, _⟩ := h; rfl
 | .nil, vs, x, h => by obtain rfl : vs = [] := h; rfl
 | .cons a b, vs, x, h => by
   obtain ⟨v1, v2, rfl, h1, h2⟩ := h
   rw [List.length_append, h1.len, h2.len]; rfl
 | .arr n k, vs, x, h => by
   obtain ⟨rfl, hl, _⟩ := h
   exact (show ((x : List Int).map (V.i k)).length = _ from List.length_map _).trans hl
def Sz (B : Nat) : (t : Ty) → t.D → Prop
 | .str, x => (fun l : List UInt8 => l.length ≤ B) x
 | .sl e, x => (fun l : List e.D => l.length ≤ B ∧ ∀ y ∈ l, Sz B e y) x
 | .cons a b, x => Sz B a x.1 ∧ Sz B b x.2
 | _, _ => True
mutual
def tyB (P : Program) : Ty → TypeId → Bool
 | .bool, t => match P.underlying t with | some .bool => true | _ => false
 | .int k, t => match P.underlying t with | some (.int k') => decide (k' = k) | _ => false
 | .str, t => match P.underlying t with | some .string => true | _ => false
 | .sl e, t => match P.underlying t with | some (.slice te) => decide (P.cellsOf te = e.size ∧ 0 < P.bytesOf te) && tyB P e te | _ => false
 | .nil, _ => false
 | .cons a b, t => match P.underlying t with
   | some (.struct fs) => decide (P.cellsOf t = a.size + b.size) && match fs.toList with
     | f :: r => decide (f.offset = 0) && (decide (P.cellsOf f.type = a.size) && (tyB P a f.type && fldB P b r a.size))
     | [] => false
   | _ => false
 | .arr n k, t => match P.underlying t with
   | some (.array n' e) => decide (n' = n ∧ 0 < n ∧ P.cellsOf e = 1 ∧ P.cellsOf t = n) && match P.underlying e with | some (.int k') => decide (k' = k) | _ => false
   | _ => false
def fldB (P : Program) : Ty → List Field → Nat → Bool
 | .nil, [], _ => true
 | .cons a b, f :: r, o => decide (f.offset = o) && (decide (P.cellsOf f.type = a.size) && (tyB P a f.type && fldB P b r (o + a.size)))
 | _, _, _ => false
end
theorem mapM_some {α β : Type} {f : α → Option β} : ∀ {l : List α} {r : List β}, l.mapM f = some r → r.length = l.length ∧ ∀ i (h : i < l.length) (h' : i < r.length), f l[i] = some r[i]
 | [], r, h => by
   rw [List.mapM_nil] at h
   obtain rfl : [] = r := Option.some.inj h
   exact ⟨rfl, fun i h => by cases h⟩
 | a :: l, r, h => by
   rw [List.mapM_cons] at h
   cases h1 : f a with
   | none => rw [h1] at h; cases h
   | some b =>
     rw [h1] at h
     have h' : (l.mapM f).bind (fun bs => some (b :: bs)) = some r := h
     cases h2 : l.mapM f with
     | none => rw [h2] at h'; cases h'
     | some bs =>
       rw [h2] at h'
       obtain rfl : b :: bs = r := Option.some.inj h'
       obtain ⟨h3, h4⟩ := mapM_some h2
       refine ⟨by simp [h3], fun i hi hi' => ?_⟩
       cases i with
       | zero => exact h1
       | succ i => exact h4 i (by simpa using hi) (by simpa using hi')
def okV (C : Nat) : Value → Prop
 | .slice (some a) 0 0 => (a.spot = none ∧ a.block < C) ∨ adE a < C
 | _ => True
def AsV (C : Nat) (cs : List Value) (vs : List V) : Prop := cs.map (vOf C) = vs.map some
theorem AsV.conc {C : Nat} : ∀ {cs : List Value} {vs : List V}, AsV C cs vs → concs E0 vs = cs ∧ bds (· < C) vs
 | [], [], _ => ⟨rfl, trivial⟩
 | [], _ :: _, h => by cases h
 | _ :: _, [], h => by cases h
 | c :: cs, v :: vs, h => by
   have h' : vOf C c :: cs.map (vOf C) = some v :: vs.map some := h
   injection h' with h1 h2
   obtain ⟨a1, a2⟩ := AsV.conc (cs := cs) (vs := vs) h2
   obtain ⟨b1, b2⟩ := vOf_conc h1
   exact ⟨by rw [concs, a1, b1], b2, a2⟩
theorem AsV.append {C : Nat} {cs cs' : List Value} {vs vs' : List V} (h : AsV C cs vs) (h' : AsV C cs' vs') : AsV C (cs ++ cs') (vs ++ vs') := by
 unfold AsV at *
 rw [List.map_append, List.map_append, h, h']
theorem AsV.len {C : Nat} {cs : List Value} {vs : List V} (h : AsV C cs vs) : cs.length = vs.length := by
 have := congrArg List.length h
 simpa using this
theorem AsV.get {C : Nat} {cs : List Value} {vs : List V} (h : AsV C cs vs) (i : Nat) (hi : i < cs.length) : vOf C cs[i] = vs[i]? := by
 have := congrArg (fun l : List (Option V) => l[i]?) h
 simp only [List.getElem?_map] at this
 rw [List.getElem?_eq_getElem hi, List.getElem?_eq_getElem (by rw [← h.len]; exact hi)] at this
 rw [List.getElem?_eq_getElem (by rw [← h.len]; exact hi)]
 simpa using this
section
variable {H : Type} {enc : TypeId × Value → H} {P : Program} {W : World} {C : Nat} {sp : Nat → Bool} {held : Bool}
theorem row_load {r o : Nat} {cs : List Value} {vs : List V} (h : AsV C cs vs) (hc : ∀ i (hi : i < cs.length), W.cell? ⟨r, o + i, none⟩ = some cs[i]) : CellsAt (heapF W C) .e r o vs := by
 intro k hk
 have hk' : k < cs.length := by rw [h.len]; exact hk
 have := h.get k hk'
 rw [List.getElem?_eq_getElem hk] at this ⊢
 exact heap_load (hc k hk') this
theorem trod_bool {t : TypeId} {cs : List Value} {fuel : Nat} {r : DataW H × List MemPlace} (hu : P.underlying t = some .bool) (h : DataW.trod enc P W 0 sp held fuel t cs = some r) : ∃ b, cs = [.bool b] := by
 cases fuel with
 | zero => cases h
 | succ fuel =>
   unfold DataW.trod at h
   rw [hu] at h
   split at h <;> first | (rename_i e; cases e; done) | cases h | skip
   all_goals simp_all
theorem trod_int {t : TypeId} {k : IntKind} {cs : List Value} {fuel : Nat} {r : DataW H × List MemPlace} (hu : P.underlying t = some (.int k)) (h : DataW.trod enc P W 0 sp held fuel t cs = some r) : ∃ n, cs = [.int k n] ∧ k.min ≤ n ∧ n ≤ k.max := by
 cases fuel with
 | zero => cases h
 | succ fuel =>
   unfold DataW.trod at h
   rw [hu] at h
   split at h <;> first | (rename_i e; cases e; done) | cases h | skip
   rename_i k0 k' n e
   simp only [Option.some.injEq, TypeDesc.int.injEq] at e
   subst e
   split at h
   · rename_i hk
     obtain ⟨rfl, hw⟩ := hk
     have hw' : (decide (k'.min ≤ n) && decide (n ≤ k'.max)) = true := hw
     simp only [Bool.and_eq_true, decide_eq_true_eq] at hw'
     exact ⟨n, rfl, hw'⟩
   · cases h
theorem trod_str {t : TypeId} {cs : List Value} {fuel : Nat} {r : DataW H × List MemPlace} (hu : P.underlying t = some .string) (h : DataW.trod enc P W 0 sp held fuel t cs = some r) : ∃ s : ByteArray, cs = [.string s] ∧ s.data.toList.length ≤ Go.maxLen ∧ r.1 = .lit (.string s.data.toList) := by
 cases fuel with
 | zero => cases h
 | succ fuel =>
   unfold DataW.trod at h
   rw [hu] at h
   split at h <;> first | (rename_i e; cases e; done) | cases h | skip
   rename_i s e
   split at h
   · rename_i hk
     injection h with h
     exact ⟨s, rfl, by simpa using hk, by rw [← h]⟩
   · cases h
def WOk (P : Program) (B : Nat) (t : TypeId) (d : DataW H) : Prop := ∀ n ∈ d.weights P t, n ≤ B
theorem mem_all {P : Program} {e : TypeId} {n : Nat} : ∀ {l : List (DataW H)} {d : DataW H}, d ∈ l → n ∈ d.weights P e → n ∈ DataW.weightsAll P e l
 | [], _, h, _ => by cases h
 | x :: l, d, h, hn => by
   rw [DataW.weightsAll, List.mem_append]
   rcases List.mem_cons.1 h with rfl | h
   · exact .inl hn
   · exact .inr (mem_all h hn)
theorem mem_each {P : Program} {n : Nat} : ∀ {ts : List TypeId} {l : List (DataW H)} {i : Nat} {t : TypeId} {d : DataW H}, ts[i]? = some t → l[i]? = some d → n ∈ d.weights P t → n ∈ DataW.weightsEach P ts l
 | [], _, i, _, _, h, _, _ => by cases i <;> cases h
 | _ :: _, [], i, _, _, _, h, _ => by cases i <;> cases h
 | t :: ts, d :: l, 0, _, _, h1, h2, hn => by
   cases h1; cases h2
   rw [DataW.weightsEach, List.mem_append]; exact .inl hn
 | t :: ts, d :: l, i + 1, _, _, h1, h2, hn => by
   rw [DataW.weightsEach, List.mem_append]; exact .inr (mem_each (i := i) h1 h2 hn)
theorem trod_sl {B : Nat} {t te : TypeId} {cs : List Value} {fuel : Nat} {r : DataW H × List MemPlace} (hu : P.underlying t = some (.slice te)) (h : DataW.trod enc P W 0 sp held fuel t cs = some r) :
  cs = [.slice none 0 0] ∨ ∃ a len cap fuel', cs = [.slice (some a) len cap] ∧ len ≤ cap ∧ cap ≤ Go.maxLen ∧
   (∀ i, i < len → ∃ es x, W.cells? 0 (a.add (i * P.cellsOf te)) (P.cellsOf te) = some es ∧ DataW.trod enc P W 0 sp held fuel' te es = some x ∧ (WOk P B t r.1 → WOk P B te x.1)) ∧ (WOk P B t r.1 → len * P.bytesOf te ≤ B) ∧
   (sp a.block = true → 0 < cap → ∃ es, W.cells? 0 a (P.cellsOf te) = some es) := by
 cases fuel with
 | zero => cases h
 | succ fuel =>
   unfold DataW.trod at h
   rw [hu] at h
   split at h <;> first | (rename_i e; cases e; done) | cases h | skip
   · exact .inl rfl
   · rename_i e0 a len cap e
     simp only [Option.some.injEq, TypeDesc.slice.injEq] at e
     subst e
     simp only at h
     split at h
     · rename_i hk
       obtain ⟨_, h1, h2⟩ := hk
       cases hm : (List.range len).mapM fun i => (W.cells? 0 (a.add (i * P.cellsOf te)) (P.cellsOf te)).bind (DataW.trod enc P W 0 sp held fuel te) with
       | none => rw [hm] at h; cases h
       | some elems =>
         obtain ⟨hl, hget⟩ := mapM_some hm
         obtain ⟨rest, hr⟩ : ∃ rest, r.1 = .slice (elems.map (·.1)) rest := by
          rw [hm] at h
          simp only [Option.bind_some] at h
          rw [Option.map_eq_some_iff] at h
          obtain ⟨rs, _, h⟩ := h
          exact ⟨_, by rw [← h]⟩
         have hw : r.1.weights P t = ((elems.map (·.1)).length + rest.length) * P.bytesOf te :: (DataW.weightsAll P te (elems.map (·.1)) ++ DataW.weightsAll P te rest) := by
          rw [hr, DataW.weights, hu]
         rw [List.length_range] at hl
         have hlen' : WOk P B t r.1 → len * P.bytesOf te ≤ B := fun hW => by
          have := hW _ (by rw [hw]; exact List.mem_cons_self ..)
          rw [List.length_map, hl] at this
          exact Nat.le_trans (Nat.mul_le_mul (Nat.le_add_right _ _) (Nat.le_refl _)) this
         have hel : ∀ i, i < len → ∃ es x, W.cells? 0 (a.add (i * P.cellsOf te)) (P.cellsOf te) = some es ∧ DataW.trod enc P W 0 sp held fuel te es = some x ∧ (WOk P B t r.1 → WOk P B te x.1) := fun i hi => by
          have := hget i (by simpa using hi) (by rw [hl]; exact hi)
          simp only [List.getElem_range] at this
          cases hc : W.cells? 0 (a.add (i * P.cellsOf te)) (P.cellsOf te) with
          | none => rw [hc] at this; cases this
          | some es =>
            rw [hc] at this
            refine ⟨es, _, rfl, this, fun hW n hn => hW n ?_⟩
            rw [hw]
            exact List.mem_cons_of_mem _ (List.mem_append_left _ (mem_all (List.mem_map.2 ⟨_, List.getElem_mem _, rfl⟩) hn))
         refine .inr ⟨a, len, cap, fuel, rfl, h1, h2, hel, hlen', fun hsp h0 => ?_⟩
         by_cases hlen : 0 < len
         · obtain ⟨es, _, he, _⟩ := hel 0 hlen
           rw [Nat.zero_mul] at he
           exact ⟨es, by simpa [Addr.add] using he⟩
         · rw [hm] at h
           simp only [Option.bind_some, if_pos hsp] at h
           cases hm2 : (List.range (cap - len)).mapM fun j => (W.cells? 0 (a.add ((len + j) * P.cellsOf te)) (P.cellsOf te)).bind (DataW.trod enc P W 0 sp held fuel te) with
           | none => rw [hm2] at h; cases h
           | some rest =>
             obtain ⟨g1, g2⟩ := mapM_some hm2
             rw [List.length_range] at g1
             have := g2 0 (by rw [List.length_range]; omega) (by omega)
             simp only [List.getElem_range] at this
             rw [show (len + 0) * P.cellsOf te = 0 by rw [show len = 0 by omega]; simp] at this
             cases hc : W.cells? 0 (a.add 0) (P.cellsOf te) with
             | none => rw [hc] at this; cases this
             | some es => exact ⟨es, by simpa [Addr.add] using hc⟩
     · cases h
theorem trod_st {B : Nat} {t : TypeId} {fs : Array Field} {cs : List Value} {fuel : Nat} {r : DataW H × List MemPlace} (hu : P.underlying t = some (.struct fs)) (h : DataW.trod enc P W 0 sp held fuel t cs = some r) :
  cs.length = P.cellsOf t ∧ ∃ fuel', ∀ f ∈ fs.toList, ∃ x, DataW.trod enc P W 0 sp held fuel' f.type ((cs.drop f.offset).take (P.cellsOf f.type)) = some x ∧ (WOk P B t r.1 → WOk P B f.type x.1) := by
 cases fuel with
 | zero => cases h
 | succ fuel =>
   have key : (if cs.length = P.cellsOf t then (fs.toList.mapM fun f => DataW.trod enc P W 0 sp held fuel f.type ((cs.drop f.offset).take (P.cellsOf f.type))).map fun xs => (DataW.agg (xs.map (·.1)), xs.flatMap (·.2)) else none) = some r := by
    unfold DataW.trod at h
    rw [hu] at h
    split at h <;> first | (rename_i e; cases e; done) | cases h | skip
    · rename_i e
      simp only [Option.some.injEq, TypeDesc.struct.injEq] at e
      subst e
      exact h
    · exact (‹∀ fs_1 : Array Field, some (TypeDesc.struct fs) = some (TypeDesc.struct fs_1) → False› fs rfl).elim
   split at key
   · rename_i hk
     refine ⟨hk, fuel, fun f hf => ?_⟩
     rw [Option.map_eq_some_iff] at key
     obtain ⟨xs, hm, hr⟩ := key
     obtain ⟨hl, hget⟩ := mapM_some hm
     obtain ⟨i, hi, rfl⟩ := List.getElem_of_mem hf
     refine ⟨_, hget i hi (by rw [hl]; exact hi), fun hW n hn => hW n ?_⟩
     rw [← hr, DataW.weights, hu]
     refine mem_each (i := i) (t := fs.toList[i].type) (d := (xs[i]'(by rw [hl]; exact hi)).1) ?_ ?_ hn
     · rw [List.getElem?_map, List.getElem?_eq_getElem hi]; rfl
     · rw [List.getElem?_map, List.getElem?_eq_getElem (by rw [hl]; exact hi)]; rfl
   · cases key
theorem trod_ar {t e : TypeId} {n : Nat} {cs : List Value} {fuel : Nat} {r : DataW H × List MemPlace} (hu : P.underlying t = some (.array n e)) (h : DataW.trod enc P W 0 sp held fuel t cs = some r) :
  cs.length = P.cellsOf t ∧ ∃ fuel', ∀ i, i < n → ∃ x, DataW.trod enc P W 0 sp held fuel' e ((cs.drop (i * P.cellsOf e)).take (P.cellsOf e)) = some x := by
 cases fuel with
 | zero => cases h
 | succ fuel =>
   have key : (if cs.length = P.cellsOf t then ((List.range n).mapM fun i => DataW.trod enc P W 0 sp held fuel e ((cs.drop (i * P.cellsOf e)).take (P.cellsOf e))).map fun xs => (DataW.agg (xs.map (·.1)), xs.flatMap (·.2)) else none) = some r := by
    unfold DataW.trod at h
    rw [hu] at h
    split at h <;> first | (rename_i e; cases e; done) | cases h | skip
    · rename_i e
      simp only [Option.some.injEq, TypeDesc.array.injEq] at e
      obtain ⟨rfl, rfl⟩ := e
      exact h
    · exact (‹∀ (n_1 : Nat) (e_1 : TypeId), some (TypeDesc.array n e) = some (TypeDesc.array n_1 e_1) → False› n e rfl).elim
   split at key
   · rename_i hk
     refine ⟨hk, fuel, fun i hi => ?_⟩
     rw [Option.map_eq_some_iff] at key
     obtain ⟨xs, hm, hr⟩ := key
     obtain ⟨hl, hget⟩ := mapM_some hm
     rw [List.length_range] at hl
     have := hget i (by rw [List.length_range]; exact hi) (by omega)
     rw [List.getElem_range] at this
     exact ⟨_, this⟩
   · cases key
theorem ints_of {k : IntKind} : ∀ {n : Nat} {cs : List Value}, cs.length = n → (∀ i, i < n → ∃ z, (cs.drop i).take 1 = [Value.int k z] ∧ k.min ≤ z ∧ z ≤ k.max) → ∃ zs : List Int, cs = zs.map (Value.int k) ∧ zs.length = n ∧ ∀ z ∈ zs, k.min ≤ z ∧ z ≤ k.max
 | 0, cs, h, _ => ⟨[], List.eq_nil_of_length_eq_zero h, rfl, fun z hz => by cases hz⟩
 | n + 1, [], h, _ => by cases h
 | n + 1, c :: cs, h, hi => by
   obtain ⟨z, h1, h2⟩ := hi 0 (Nat.succ_pos _)
   obtain ⟨zs, e1, e2, e3⟩ := ints_of (k := k) (n := n) (cs := cs) (by simpa using h) fun i hn => by
    have := hi (i + 1) (by omega)
    rwa [List.drop_succ_cons] at this
   have h1' : [c] = [Value.int k z] := h1
   injection h1' with h1'
   subst h1'
   refine ⟨z :: zs, by rw [e1]; rfl, by rw [List.length_cons, e2], fun y hy => ?_⟩
   rcases List.mem_cons.1 hy with rfl | hy
   · exact h2
   · exact e3 y hy
theorem asV_ints (C : Nat) (k : IntKind) (zs : List Int) : AsV C (zs.map (Value.int k)) (zs.map (V.i k)) := by
 unfold AsV
 rw [List.map_map, List.map_map]; rfl
theorem vOf_slice {a : Addr} {n c : Nat} (h1 : a.spot = none) (h2 : a.block < C) : vOf C (.slice (some a) n c) = some (.l a.block a.off n c) := by
 show (if a.spot = none ∧ a.block < C then some (V.l a.block a.off n c) else _) = _
 rw [if_pos ⟨h1, h2⟩]
theorem cells_first {a : Addr} {n : Nat} {cs : List Value} (hc : W.cells? 0 a n = some cs) (hn : 0 < n) : a.spot = none ∧ a.block < W.heap.size := by
 unfold World.cells? at hc
 rw [if_pos (Nat.zero_le _)] at hc
 obtain ⟨h1, h2⟩ := mapM_some hc
 rw [List.length_range] at h1
 have := h2 0 (by rw [List.length_range]; exact hn) (by omega)
 rw [List.getElem_range, show a.add 0 = a from rfl] at this
 unfold World.cell? at this
 split at this
 · rename_i hh
   split at this
   · cases this
   · rename_i hs
     refine ⟨?_, (Array.getElem?_eq_some_iff.1 hh).1⟩
     cases hsp : a.spot with
     | none => rfl
     | some k => rw [hsp] at hs; simp at hs
 · cases this
theorem sl_elems {sz : Nat} {a : Addr} {len cap : Nat} {Q : List Value → List V → Prop} (hs : a.spot = none) (hb : a.block < C) (hlc : len ≤ cap)
  (h : ∀ i, i < len → ∃ cs vs, W.cells? 0 (a.add (i * sz)) sz = some cs ∧ AsV C cs vs ∧ Q cs vs) :
  ∃ es : List (List V), es.length = len ∧ SlAt (heapF W C) .e C sz (.l a.block a.off len cap) es ∧ ∀ i (hi : i < es.length), ∃ cs, Q cs es[i] := by
 obtain ⟨b, o, sp⟩ := a
 obtain rfl : sp = none := hs
 have hget : ∀ i, i < len → ∃ cs vs, AsV C cs vs ∧ Q cs vs ∧ cs.length = sz ∧ ∀ k (hk : k < cs.length), W.cell? ⟨b, o + i * sz + k, none⟩ = some cs[k] := by
  intro i hi
  obtain ⟨cs, vs, h1, h2, h3⟩ := h i hi
  rw [Addr.add_eq] at h1
  unfold World.cells? at h1
  rw [if_pos (Nat.zero_le _)] at h1
  obtain ⟨h4, h5⟩ := mapM_some h1
  rw [List.length_range] at h4
  refine ⟨cs, vs, h2, h3, h4, fun k hk => ?_⟩
  have := h5 k (by rw [List.length_range]; omega) hk
  rw [List.getElem_range, Addr.add_eq] at this
  exact this
 have key : ∀ n, n ≤ len → ∃ es : List (List V), es.length = n ∧ (∀ e ∈ es, e.length = sz) ∧ CellsAt (heapF W C) .e b o es.flatten ∧ ∀ i (hi : i < es.length), ∃ cs, Q cs es[i] := by
  intro n
  induction n with
  | zero => intro _; exact ⟨[], rfl, fun e he => (by cases he), fun k hk => (by simp at hk), fun i hi => (by simp at hi)⟩
  | succ n ih =>
    intro hn
    obtain ⟨es, h1, h2, h3, h4⟩ := ih (by omega)
    obtain ⟨cs, vs, g1, g2, g3, g4⟩ := hget n (by omega)
    have hvl : vs.length = sz := by rw [← g1.len]; exact g3
    have h2' : ∀ e ∈ es ++ [vs], e.length = sz := by
     intro e he
     rw [List.mem_append, List.mem_singleton] at he
     rcases he with he | rfl
     · exact h2 e he
     · exact hvl
    have hfl : es.flatten.length = n * sz := by rw [flat_len h2, h1]
    refine ⟨es ++ [vs], by simp [h1], h2', ?_, fun i hi => ?_⟩
    · intro k hk
      rw [List.flatten_append] at hk ⊢
      simp only [List.flatten_cons, List.flatten_nil, List.append_nil, List.length_append] at hk ⊢
      by_cases hk1 : k < es.flatten.length
      · rw [List.getElem?_append_left hk1]; exact h3 k hk1
      · rw [List.getElem?_append_right (by omega), hfl]
        have hr := row_load (o := o + n * sz) g1 g4 (k - n * sz) (by omega)
        rw [← hr]; congr 1; omega
    · by_cases hi1 : i < es.length
      · rw [List.getElem_append_left hi1]; exact h4 i hi1
      · rw [List.getElem_append_right (by omega)]
        have : i - es.length = 0 := by simp at hi; omega
        simp only [this, List.getElem_cons_zero]
        exact ⟨cs, g2⟩
 obtain ⟨es, h1, h2, h3, h4⟩ := key len (Nat.le_refl _)
 refine ⟨es, h1, ⟨h2, .inr ⟨b, o, .inl ⟨cap, by omega, by rw [h1]⟩, hb, h3⟩⟩, h4⟩
theorem list_of {α : Type} {n : Nat} {Q : Nat → α → Prop} (h : ∀ i, i < n → ∃ x, Q i x) : ∃ l : List α, l.length = n ∧ ∀ i (hi : i < l.length), Q i l[i] := by
 induction n with
 | zero => exact ⟨[], rfl, fun i hi => (by simp at hi)⟩
 | succ n ih =>
   obtain ⟨l, h1, h2⟩ := ih fun i hi => h i (by omega)
   obtain ⟨x, hx⟩ := h n (by omega)
   refine ⟨l ++ [x], by simp [h1], fun i hi => ?_⟩
   by_cases hi1 : i < l.length
   · rw [List.getElem_append_left hi1]; exact h2 i hi1
   · rw [List.getElem_append_right (by omega)]
     have e : i = n := by simp at hi; omega
     subst e
     simp only [h1, Nat.sub_self, List.getElem_cons_zero]
     exact hx
theorem Ty.size_pos {P : Program} {ty : Ty} {t : TypeId} (h : tyB P ty t = true) : 0 < ty.size := by
 induction ty generalizing t with
 | cons a b iha _ =>
   rw [tyB] at h
   split at h
   · simp only [Bool.and_eq_true] at h
     obtain ⟨_, h⟩ := h
     split at h
     · simp only [Bool.and_eq_true] at h
       have := iha h.2.2.1
       show 0 < a.size + b.size
       omega
     · cases h
   · cases h
 | nil => cases h
 | arr n k =>
   rw [tyB] at h
   split at h
   · simp only [Bool.and_eq_true, decide_eq_true_eq] at h
     exact h.1.2.1
   · cases h
 | _ => exact Nat.one_pos
mutual
theorem rp_trod {B : Nat} (hsp : ∀ b, sp b = true) (hC : W.heap.size ≤ C) : ∀ (ty : Ty) (t : TypeId) (cs : List Value) (fuel : Nat) (r : DataW H × List MemPlace), tyB P ty t = true → DataW.trod enc P W 0 sp held fuel t cs = some r →
  (ty.hasSl = true → ∀ v ∈ cs, okV C v) → (ty.deep = true → ∀ a x, W.cell? a = some x → okV C x) → ∃ vs x, AsV C cs vs ∧ Rp (heapF W C) .e C ty vs x ∧ (WOk P B t r.1 → Sz B ty x)
 | .bool, t, cs, fuel, r, hb, h, h1, h2 => by
   rw [tyB] at hb
   split at hb
   · rename_i hu
     obtain ⟨b, rfl⟩ := trod_bool hu h
     exact ⟨[.b b], b, rfl, rfl, fun _ => trivial⟩
   · cases hb
 | .int k, t, cs, fuel, r, hb, h, h1, h2 => by
   rw [tyB] at hb
   split at hb
   · rename_i k' hu
     obtain rfl := of_decide_eq_true hb
     obtain ⟨n, rfl, hn⟩ := trod_int hu h
     exact ⟨[.i k' n], n, rfl, ⟨rfl, hn⟩, fun _ => trivial⟩
   · cases hb
 | .str, t, cs, fuel, r, hb, h, h1, h2 => by
   rw [tyB] at hb
   split at hb
   · rename_i hu
     obtain ⟨s, rfl, hs, hr⟩ := trod_str hu h
     refine ⟨[sV s.data.toList], s.data.toList, rfl, ⟨rfl, hs⟩, fun hW => hW _ ?_⟩
     rw [hr, DataW.weights]
     exact List.mem_singleton.2 rfl
   · cases hb
 | .sl e, t, cs, fuel, r, hb, h, h1, h2 => by
   rw [tyB] at hb
   split at hb
   · rename_i te hu
     simp only [Bool.and_eq_true, decide_eq_true_eq] at hb
     obtain ⟨⟨hsz, hbp⟩, hb⟩ := hb
     have hpos := Ty.size_pos hb
     rcases trod_sl (B := B) hu h with rfl | ⟨a, len, cap, fuel', rfl, hlc, hcap, hel, hlW, hfirst⟩
     · exact ⟨[.l0], [], rfl, ⟨.l0, [], rfl, ⟨fun e he => (by cases he), .inl ⟨rfl, .inl rfl⟩⟩, Nat.zero_le _, rfl, fun i hi => (by cases hi)⟩, fun _ => ⟨Nat.zero_le _, fun y hy => (by cases hy)⟩⟩
     · have hz := h1 rfl _ (List.mem_singleton.2 rfl)
       rw [hsz] at hel hfirst
       have hok : (a.spot = none ∧ a.block < C) ∨ (len = 0 ∧ cap = 0 ∧ adE a < C ∧ ¬ (a.spot = none ∧ a.block < C)) := by
        by_cases h0 : 0 < cap
        · obtain ⟨es, he⟩ := hfirst (hsp _) h0
          obtain ⟨g1, g2⟩ := cells_first he hpos
          exact .inl ⟨g1, Nat.lt_of_lt_of_le g2 hC⟩
        · obtain rfl : cap = 0 := by omega
          obtain rfl : len = 0 := by omega
          by_cases hq : a.spot = none ∧ a.block < C
          · exact .inl hq
          · exact .inr ⟨rfl, rfl, hz.resolve_left hq, hq⟩
       rcases hok with hok | ⟨rfl, rfl, he, hq⟩
       rotate_left
       · refine ⟨[.ue (adE a) 1 0], [], ?_, ⟨.ue (adE a) 1 0, [], rfl, ⟨fun e he => (by cases he), .inl ⟨rfl, .inr ⟨_, _, _, rfl⟩⟩⟩, Nat.zero_le _, rfl, fun i hi => (by cases hi)⟩, fun _ => ⟨Nat.zero_le _, fun y hy => (by cases hy)⟩⟩
         show [vOf C _] = [some _]
         congr 1
         show (if a.spot = none ∧ a.block < C then _ else if 0 = 0 ∧ 0 = 0 ∧ adE a < C then some (V.ue (adE a) 1 0) else none) = _
         rw [if_neg hq, if_pos ⟨rfl, rfl, he⟩]
       obtain ⟨es, hl, hS, hQ⟩ := sl_elems (cap := cap) (C := C) (Q := fun _ vs => ∃ x, Rp (heapF W C) .e C e vs x ∧ (WOk P B t r.1 → Sz B e x)) hok.1 hok.2 hlc (fun i hi => by
        obtain ⟨cs', x, hc, ht, hxW⟩ := hel i hi
        obtain ⟨vs, y, hv, hR, hZ⟩ := rp_trod (B := B) hsp hC e te cs' fuel' x hb ht
         (fun he v hv => by
          obtain ⟨j, hj, rfl⟩ := List.getElem_of_mem hv
          unfold World.cells? at hc
          rw [if_pos (Nat.zero_le _)] at hc
          obtain ⟨h4, h5⟩ := mapM_some hc
          exact h2 he _ _ (h5 j (by rw [List.length_range] at h4 ⊢; omega) hj))
         (fun he => h2 (by
          have key : ∀ t : Ty, t.deep = true → t.hasSl = true := by
           intro t
           induction t with
           | cons a b iha ihb =>
             intro hd
             have hd' : (a.deep || b.deep) = true := hd
             show (a.hasSl || b.hasSl) = true
             rw [Bool.or_eq_true] at hd' ⊢
             exact hd'.imp iha ihb
           | sl e _ => intro _; rfl
           | _ => intro hd; cases hd
          exact key e he))
        exact ⟨cs', vs, hc, hv, y, hR, fun hW => hZ (hxW hW)⟩)
       obtain ⟨xs, hxl, hx⟩ := list_of (n := es.length) (Q := fun i x => (∀ h : i < es.length, Rp (heapF W C) .e C e es[i] x) ∧ (WOk P B t r.1 → Sz B e x)) (fun i hi => by
        obtain ⟨_, x, hR, hZ⟩ := hQ i hi
        exact ⟨x, fun _ => hR, hZ⟩)
       refine ⟨[.l a.block a.off len cap], xs, ?_, ⟨.l a.block a.off len cap, es, rfl, hS, ?_, hxl.symm, fun i hi hi' => (hx i hi').1 hi⟩, fun hW => ⟨?_, fun y hy => ?_⟩⟩
       · show [vOf C _] = [some _]
         rw [vOf_slice hok.1 hok.2]
       · show List.length xs ≤ _
         omega
       · show List.length xs ≤ _
         rw [hxl, hl]
         exact Nat.le_trans (Nat.le_mul_of_pos_right _ hbp) (hlW hW)
       · obtain ⟨i, hi, rfl⟩ := List.getElem_of_mem hy
         exact (hx i hi).2 hW
   · cases hb
 | .nil, t, cs, fuel, r, hb, h, h1, h2 => by cases hb
 | .cons a b, t, cs, fuel, r, hb, h, h1, h2 => by
   rw [tyB] at hb
   split at hb
   · rename_i fs hu
     simp only [Bool.and_eq_true, decide_eq_true_eq] at hb
     obtain ⟨hsz, hb⟩ := hb
     obtain ⟨hlen, fuel', hf⟩ := trod_st (B := B) hu h
     split at hb
     · rename_i f rest hfs
       simp only [Bool.and_eq_true, decide_eq_true_eq] at hb
       obtain ⟨ho, hfa, hta, hrest⟩ := hb
       rw [hfs] at hf
       obtain ⟨x, hx, hxW⟩ := hf f (List.mem_cons_self ..)
       rw [ho, hfa] at hx
       have hs : (a.hasSl = true → ∀ v ∈ (cs.drop 0).take a.size, okV C v) := fun ha v hv => h1 (by show (a.hasSl || b.hasSl) = true; rw [ha]; rfl) v (List.mem_of_mem_drop (List.mem_of_mem_take hv))
       obtain ⟨v1, x1, hv1, hR1, hZ1⟩ := rp_trod (B := B) hsp hC a f.type _ fuel' x hta hx hs (fun ha => h2 (by show (a.deep || b.deep) = true; rw [ha]; rfl))
       obtain ⟨v2, x2, hv2, hR2, hZ2⟩ := rp_flds (B := B) (hyp := WOk P B t r.1) hsp hC b rest cs fuel' a.size hrest (by rw [hlen, hsz]) (fun f' hf' => hf f' (List.mem_cons_of_mem _ hf'))
        (fun hb' v hv => h1 (by show (a.hasSl || b.hasSl) = true; rw [hb']; simp) v (List.mem_of_mem_drop hv)) (fun hb' => h2 (by show (a.deep || b.deep) = true; rw [hb']; simp))
       refine ⟨v1 ++ v2, (x1, x2), ?_, ⟨v1, v2, rfl, hR1, hR2⟩, fun hW => ⟨hZ1 (hxW hW), hZ2 hW⟩⟩
       have := hv1.append hv2
       rwa [List.drop_zero, List.take_append_drop] at this
     · cases hb
   · cases hb
 | .arr n k, t, cs, fuel, r, hb, h, h1, h2 => by
   rw [tyB] at hb
   split at hb
   · rename_i n' e hu
     simp only [Bool.and_eq_true, decide_eq_true_eq] at hb
     obtain ⟨⟨rfl, hn, hc1, hct⟩, hb⟩ := hb
     split at hb
     · rename_i k' hk
       obtain rfl := of_decide_eq_true hb
       obtain ⟨hlen, fuel', hel⟩ := trod_ar hu h
       rw [hct] at hlen
       obtain ⟨zs, rfl, hz, hr⟩ := ints_of (k := k') hlen fun i hi => by
        obtain ⟨x, hx⟩ := hel i hi
        rw [hc1, Nat.mul_one] at hx
        exact trod_int hk hx
       exact ⟨zs.map (V.i k'), zs, asV_ints C k' zs, ⟨rfl, hz, hr⟩, fun _ => trivial⟩
     · cases hb
   · cases hb
theorem rp_flds {B : Nat} {hyp : Prop} (hsp : ∀ b, sp b = true) (hC : W.heap.size ≤ C) : ∀ (ty : Ty) (fs : List Field) (cs : List Value) (fuel o : Nat), fldB P ty fs o = true → cs.length = o + ty.size →
  (∀ f ∈ fs, ∃ x, DataW.trod enc P W 0 sp held fuel f.type ((cs.drop f.offset).take (P.cellsOf f.type)) = some x ∧ (hyp → WOk P B f.type x.1)) →
  (ty.hasSl = true → ∀ v ∈ cs.drop o, okV C v) → (ty.deep = true → ∀ a x, W.cell? a = some x → okV C x) → ∃ vs x, AsV C (cs.drop o) vs ∧ Rp (heapF W C) .e C ty vs x ∧ (hyp → Sz B ty x)
 | .nil, [], cs, fuel, o, hb, hl, hf, h1, h2 => by
   refine ⟨[], (), ?_, rfl, fun _ => trivial⟩
   rw [List.drop_eq_nil_of_le (by have : (Ty.nil).size = 0 := rfl; omega)]; rfl
 | .nil, _ :: _, cs, fuel, o, hb, hl, hf, h1, h2 => by cases hb
 | .bool, fs, cs, fuel, o, hb, hl, hf, h1, h2 => by cases fs <;> cases hb
 | .int k, fs, cs, fuel, o, hb, hl, hf, h1, h2 => by cases fs <;> cases hb
 | .str, fs, cs, fuel, o, hb, hl, hf, h1, h2 => by cases fs <;> cases hb
 | .sl e, fs, cs, fuel, o, hb, hl, hf, h1, h2 => by cases fs <;> cases hb
 | .arr n k, fs, cs, fuel, o, hb, hl, hf, h1, h2 => by cases fs <;> cases hb
 | .cons a b, [], cs, fuel, o, hb, hl, hf, h1, h2 => by cases hb
 | .cons a b, f :: rest, cs, fuel, o, hb, hl, hf, h1, h2 => by
   rw [fldB] at hb
   simp only [Bool.and_eq_true, decide_eq_true_eq] at hb
   obtain ⟨ho, hfa, hta, hrest⟩ := hb
   have hl' : cs.length = o + (a.size + b.size) := hl
   obtain ⟨x, hx, hxW⟩ := hf f (List.mem_cons_self ..)
   rw [ho, hfa] at hx
   obtain ⟨v1, x1, hv1, hR1, hZ1⟩ := rp_trod (B := B) hsp hC a f.type _ fuel x hta hx (fun ha v hv => h1 (by show (a.hasSl || b.hasSl) = true; rw [ha]; rfl) v (List.mem_of_mem_take hv)) (fun ha => h2 (by show (a.deep || b.deep) = true; rw [ha]; rfl))
   obtain ⟨v2, x2, hv2, hR2, hZ2⟩ := rp_flds (B := B) (hyp := hyp) hsp hC b rest cs fuel (o + a.size) hrest (by omega) (fun f' hf' => hf f' (List.mem_cons_of_mem _ hf'))
    (fun hb' v hv => h1 (by show (a.hasSl || b.hasSl) = true; rw [hb']; simp) v (by rw [← List.drop_drop] at hv; exact List.mem_of_mem_drop hv)) (fun hb' => h2 (by show (a.deep || b.deep) = true; rw [hb']; simp))
   refine ⟨v1 ++ v2, (x1, x2), ?_, ⟨v1, v2, rfl, hR1, hR2⟩, fun hW => ⟨hZ1 (hxW hW), hZ2 hW⟩⟩
   have := hv1.append hv2
   rwa [← List.drop_drop, List.take_append_drop] at this
end
theorem cells_kept {W W' : World} (h : ∀ i, i < W.heap.size → W'.heap[i]? = W.heap[i]?) {a : Addr} {n : Nat} {cs : List Value} (hc : W.cells? 0 a n = some cs) : W'.cells? 0 a n = some cs := by
 unfold World.cells? at hc ⊢
 rw [if_pos (Nat.zero_le _)] at hc ⊢
 have key : ∀ (l : List Nat) (r : List Value), (l.mapM fun i => W.cell? (a.add i)) = some r → (l.mapM fun i => W'.cell? (a.add i)) = some r := by
  intro l
  induction l with
  | nil => intro r hr; exact hr
  | cons x l ih =>
    intro r hr
    rw [List.mapM_cons] at hr ⊢
    cases h1 : W.cell? (a.add x) with
    | none => rw [h1] at hr; cases hr
    | some v =>
      have e : W'.cell? (a.add x) = some v := by
       unfold World.cell? at h1 ⊢
       split at h1
       · rename_i hh
         rw [h _ (Array.getElem?_eq_some_iff.1 hh).1, hh]
         exact h1
       · cases h1
      rw [h1] at hr
      rw [e]
      cases h2 : l.mapM fun i => W.cell? (a.add i) with
      | none => rw [h2] at hr; cases hr
      | some vs =>
        rw [h2] at hr
        rw [ih vs h2]
        exact hr
 exact key _ _ hc
theorem cells_lt {W : World} {a : Addr} {n : Nat} {cs : List Value} (hc : W.cells? 0 a n = some cs) (hn : 0 < n) : a.block < W.heap.size := by
 unfold World.cells? at hc
 rw [if_pos (Nat.zero_le _)] at hc
 obtain ⟨h1, h2⟩ := mapM_some hc
 rw [List.length_range] at h1
 have := h2 0 (by rw [List.length_range]; exact hn) (by omega)
 rw [List.getElem_range] at this
 unfold World.cell? at this
 split at this
 · rename_i hh
   have := (Array.getElem?_eq_some_iff.1 hh).1
   unfold Addr.add at this
   simpa using this
 · cases this
theorem mapM_imp {α β : Type} {f g : α → Option β} : ∀ {l : List α} {r : List β}, l.mapM f = some r → (∀ x ∈ l, ∀ y, f x = some y → g x = some y) → l.mapM g = some r
 | [], r, h, _ => h
 | a :: l, r, h, hfg => by
   rw [List.mapM_cons] at h ⊢
   cases h1 : f a with
   | none => rw [h1] at h; cases h
   | some b =>
     rw [h1] at h
     rw [hfg a (List.mem_cons_self ..) b h1]
     cases h2 : l.mapM f with
     | none => rw [h2] at h; cases h
     | some bs =>
       rw [h2] at h
       rw [mapM_imp h2 fun x hx => hfg x (List.mem_cons_of_mem _ hx)]
       exact h
theorem trod_st_eq {t : TypeId} {fs : Array Field} {cs : List Value} {fuel : Nat} (hu : P.underlying t = some (.struct fs)) (hlen : cs.length = P.cellsOf t) : DataW.trod enc P W 0 sp held (fuel + 1) t cs =
  (fs.toList.mapM fun f => DataW.trod enc P W 0 sp held fuel f.type ((cs.drop f.offset).take (P.cellsOf f.type))).map fun xs => (DataW.agg (xs.map (·.1)), xs.flatMap (·.2)) := by
 rw [DataW.trod_step]
 unfold DataW.trodStep
 rw [hu]
 clear hu
 split
 all_goals first
  | (rename_i e; simp only [Option.some.injEq, TypeDesc.struct.injEq] at e; subst e; rw [if_pos hlen]; done)
  | (rename_i e; cases e; done)
  | exact (‹∀ fs_1 : Array Field, some (TypeDesc.struct fs) = some (TypeDesc.struct fs_1) → False› fs rfl).elim
  | skip
theorem trod_ar_eq {t e : TypeId} {n : Nat} {cs : List Value} {fuel : Nat} (hu : P.underlying t = some (.array n e)) (hlen : cs.length = P.cellsOf t) : DataW.trod enc P W 0 sp held (fuel + 1) t cs =
  ((List.range n).mapM fun i => DataW.trod enc P W 0 sp held fuel e ((cs.drop (i * P.cellsOf e)).take (P.cellsOf e))).map fun xs => (DataW.agg (xs.map (·.1)), xs.flatMap (·.2)) := by
 rw [DataW.trod_step]
 unfold DataW.trodStep
 rw [hu]
 clear hu
 split
 all_goals first
  | (rename_i e; simp only [Option.some.injEq, TypeDesc.array.injEq] at e; obtain ⟨rfl, rfl⟩ := e; rw [if_pos hlen]; done)
  | (rename_i e; cases e; done)
  | exact (‹∀ (n_1 : Nat) (e_1 : TypeId), some (TypeDesc.array n e) = some (TypeDesc.array n_1 e_1) → False› n e rfl).elim
  | skip
mutual
theorem trod_kept {W W' : World} (hW : ∀ i, i < W.heap.size → W'.heap[i]? = W.heap[i]?) : ∀ (ty : Ty) (t : TypeId) (cs : List Value) (fuel : Nat) (r : DataW H × List MemPlace), tyB P ty t = true →
  DataW.trod enc P W 0 (fun _ => true) held fuel t cs = some r → DataW.trod enc P W' 0 (fun b => decide (b < W.heap.size)) held fuel t cs = some r
 | ty, t, cs, 0, r, hb, h => by cases h
 | .bool, t, cs, fuel + 1, r, hb, h => by
   rw [tyB] at hb
   split at hb
   · rename_i hu
     obtain ⟨b, rfl⟩ := trod_bool hu h
     simp only [DataW.trod, hu] at h ⊢
     exact h
   · cases hb
 | .int k, t, cs, fuel + 1, r, hb, h => by
   rw [tyB] at hb
   split at hb
   · rename_i k' hu
     obtain rfl := of_decide_eq_true hb
     obtain ⟨n, rfl, hn⟩ := trod_int hu h
     simp only [DataW.trod, hu] at h ⊢
     exact h
   · cases hb
 | .str, t, cs, fuel + 1, r, hb, h => by
   rw [tyB] at hb
   split at hb
   · rename_i hu
     obtain ⟨s, rfl, hs⟩ := trod_str hu h
     simp only [DataW.trod, hu] at h ⊢
     exact h
   · cases hb
 | .sl e, t, cs, fuel + 1, r, hb, h => by
   rw [tyB] at hb
   split at hb
   · rename_i te hu
     simp only [Bool.and_eq_true, decide_eq_true_eq] at hb
     obtain ⟨⟨hsz, _⟩, hb⟩ := hb
     have hpos := Ty.size_pos hb
     rcases trod_sl (B := 0) hu h with rfl | ⟨a, len, cap, fuel', rfl, hlc, hcap, hel⟩
     · simp only [DataW.trod, hu] at h ⊢
       exact h
     · simp only [DataW.trod, hu] at h ⊢
       rw [if_pos ⟨Nat.zero_le _, hlc, hcap⟩] at h ⊢
       have elem : ∀ i y, (W.cells? 0 (a.add (i * P.cellsOf te)) (P.cellsOf te)).bind (DataW.trod enc P W 0 (fun _ => true) held fuel te) = some y →
         (W'.cells? 0 (a.add (i * P.cellsOf te)) (P.cellsOf te)).bind (DataW.trod enc P W' 0 (fun b => decide (b < W.heap.size)) held fuel te) = some y := by
        intro i y hy
        cases hc : W.cells? 0 (a.add (i * P.cellsOf te)) (P.cellsOf te) with
        | none => rw [hc] at hy; cases hy
        | some es =>
          rw [hc] at hy
          rw [cells_kept hW hc]
          exact trod_kept hW e te es fuel y hb hy
       cases hm : (List.range len).mapM fun i => (W.cells? 0 (a.add (i * P.cellsOf te)) (P.cellsOf te)).bind (DataW.trod enc P W 0 (fun _ => true) held fuel te) with
       | none => rw [hm] at h; cases h
       | some elems =>
         rw [hm] at h
         rw [mapM_imp hm fun i _ => elem i]
         simp only [Option.bind_some, if_true] at h ⊢
         by_cases hblk : a.block < W.heap.size
         · rw [decide_eq_true hblk]
           simp only [if_true]
           cases hm2 : (List.range (cap - len)).mapM fun j => (W.cells? 0 (a.add ((len + j) * P.cellsOf te)) (P.cellsOf te)).bind (DataW.trod enc P W 0 (fun _ => true) held fuel te) with
           | none => rw [hm2] at h; cases h
           | some rest =>
             rw [hm2] at h
             rw [mapM_imp hm2 fun i _ => elem (len + i)]
             exact h
         · rw [decide_eq_false hblk]
           have h0 : cap - len = 0 := by
            by_cases h0 : cap - len = 0
            · exact h0
            · exfalso
              cases hm2 : (List.range (cap - len)).mapM fun j => (W.cells? 0 (a.add ((len + j) * P.cellsOf te)) (P.cellsOf te)).bind (DataW.trod enc P W 0 (fun _ => true) held fuel te) with
              | none => rw [hm2] at h; cases h
              | some rest =>
                obtain ⟨g1, g2⟩ := mapM_some hm2
                rw [List.length_range] at g1
                have := g2 0 (by rw [List.length_range]; omega) (by omega)
                cases hc : W.cells? 0 (a.add ((len + (List.range (cap - len))[0]'(by rw [List.length_range]; omega)) * P.cellsOf te)) (P.cellsOf te) with
                | none => rw [hc] at this; cases this
                | some es =>
                  have := cells_lt hc (by omega)
                  unfold Addr.add at this
                  split at this <;> exact hblk this
           rw [h0] at h
           simp only [List.range_zero, List.mapM_nil] at h
           exact h
   · cases hb
 | .nil, t, cs, fuel + 1, r, hb, h => by cases hb
 | .cons a b, t, cs, fuel + 1, r, hb, h => by
   rw [tyB] at hb
   split at hb
   · rename_i fs hu
     simp only [Bool.and_eq_true, decide_eq_true_eq] at hb
     obtain ⟨hsz, hb⟩ := hb
     obtain ⟨hlen, _⟩ := trod_st (B := 0) hu h
     rw [trod_st_eq hu hlen] at h ⊢
     split at hb
     · rename_i f rest hfs
       simp only [Bool.and_eq_true, decide_eq_true_eq] at hb
       obtain ⟨ho, hfa, hta, hrest⟩ := hb
       rw [Option.map_eq_some_iff] at h
       obtain ⟨xs, hm, rfl⟩ := h
       rw [hfs] at hm ⊢
       rw [mapM_imp hm fun g hg y hy => by
        rcases List.mem_cons.1 hg with rfl | hg
        · exact trod_kept hW a _ _ fuel y hta hy
        · exact flds_kept hW b rest fuel a.size hrest g hg _ y hy]
       rfl
     · cases hb
   · cases hb
 | .arr n k, t, cs, fuel + 1, r, hb, h => by
   rw [tyB] at hb
   split at hb
   · rename_i n' e hu
     simp only [Bool.and_eq_true, decide_eq_true_eq] at hb
     obtain ⟨_, hb⟩ := hb
     split at hb
     · rename_i k' hk
       obtain ⟨hlen, _⟩ := trod_ar hu h
       rw [trod_ar_eq hu hlen] at h ⊢
       rw [Option.map_eq_some_iff] at h
       obtain ⟨xs, hm, rfl⟩ := h
       rw [mapM_imp hm fun i hi y hy => by
        cases fuel with
        | zero => cases hy
        | succ fuel =>
          obtain ⟨z, hz, _⟩ := trod_int hk hy
          rw [hz] at hy ⊢
          simp only [DataW.trod, hk] at hy ⊢
          exact hy]
       rfl
     · cases hb
   · cases hb
theorem flds_kept {W W' : World} (hW : ∀ i, i < W.heap.size → W'.heap[i]? = W.heap[i]?) : ∀ (ty : Ty) (fs : List Field) (fuel o : Nat), fldB P ty fs o = true → ∀ f ∈ fs, ∀ (cs : List Value) (y : DataW H × List MemPlace),
  DataW.trod enc P W 0 (fun _ => true) held fuel f.type cs = some y → DataW.trod enc P W' 0 (fun b => decide (b < W.heap.size)) held fuel f.type cs = some y
 | .nil, [], fuel, o, hb, f, hf, cs, y, h => by cases hf
 | .nil, _ :: _, fuel, o, hb, f, hf, cs, y, h => by cases hb
 | .bool, fs, fuel, o, hb, f, hf, cs, y, h => by cases fs <;> cases hb
 | .int k, fs, fuel, o, hb, f, hf, cs, y, h => by cases fs <;> cases hb
 | .str, fs, fuel, o, hb, f, hf, cs, y, h => by cases fs <;> cases hb
 | .sl e, fs, fuel, o, hb, f, hf, cs, y, h => by cases fs <;> cases hb
 | .arr n k, fs, fuel, o, hb, f, hf, cs, y, h => by cases fs <;> cases hb
 | .cons a b, [], fuel, o, hb, f, hf, cs, y, h => by cases hb
 | .cons a b, g :: rest, fuel, o, hb, f, hf, cs, y, h => by
   rw [fldB] at hb
   simp only [Bool.and_eq_true, decide_eq_true_eq] at hb
   obtain ⟨ho, hfa, hta, hrest⟩ := hb
   rcases List.mem_cons.1 hf with rfl | hf
   · exact trod_kept hW a _ _ fuel y hta h
   · exact flds_kept hW b rest fuel _ hrest f hf cs y h
end
def Ty.arg : Ty → List V → V
 | .cons _ _, vs => .g vs
 | .arr _ _, vs => .g vs
 | _, v :: _ => v
 | _, [] => undef
def ArgsR (F : RO) (C : Nat) : List Ty → List V → Prop
 | [], as0 => as0 = []
 | ty :: r, as0 => ∃ vs x a', as0 = ty.arg vs :: a' ∧ Rp F .e C ty vs x ∧ ArgsR F C r a'
def tysB (P : Program) : List Ty → List TypeId → Bool
 | [], [] => true
 | ty :: r, t :: ts => tyB P ty t && tysB P r ts
 | _, _ => false
theorem okV_cell {base : Nat} {u : TypeId} {v : Value} (h : Cell.okWide P W .any base u v) (hC : W.heap.size ≤ C) : okV C v := by
 unfold okV
 split
 · rename_i a
   have key : W.has P .any base a 0 0 ∨ ∃ e n, W.has P .any base a e n := by
    unfold Cell.okWide at h
    split at h <;> first | (rename_i e; cases e; done) | skip
    · rename_i hne
      unfold Cell.ok at h
      split at h <;> first | (rename_i e; cases e; done) | skip
      all_goals first
       | exact h.elim
       | skip
      all_goals (rename_i e1 e2; first | cases e2 | skip)
      exact .inr ⟨_, _, h.2.2⟩
   have : ∃ e n, W.has P .any base a e n := by
    rcases key with h | h
    · exact ⟨0, 0, h⟩
    · exact h
   obtain ⟨e, n, _, h1, row, cells, h2, _⟩ := this
   refine .inl ⟨h1, ?_⟩
   unfold World.shape? at h2
   split at h2
   · rename_i hh
     exact Nat.lt_of_lt_of_le (Array.getElem?_eq_some_iff.1 hh).1 hC
   · cases h2
 · trivial
theorem okV_val {base : Nat} {t : TypeId} {v : Value} (h : Value.okWide P W .any base t v) (hC : W.heap.size ≤ C) : ∀ x ∈ v.cells.toList, okV C x := by
 intro x hx
 unfold Value.okWide at h
 have agg : (∃ cs, v = .agg cs ∧ cs.size = P.cellsOf t ∧ Row.okWide P W .any base t cs) → okV C x := by
  rintro ⟨cs, rfl, _, ts, _, _, hcell⟩
  obtain ⟨i, hi, rfl⟩ := List.getElem_of_mem hx
  obtain ⟨u, _, hu⟩ := hcell i _ (by
   show cs[i]? = some _
   rw [Array.getElem?_eq_getElem (by simpa [Value.cells] using hi)])
  exact okV_cell hu hC
 split at h
 · exact agg h
 · exact agg h
 · have hv : v.cells = #[v] ∨ ∃ cs, v = .agg cs := by
    cases v <;> first | exact .inl rfl | exact .inr ⟨_, rfl⟩
   rcases hv with hv | ⟨cs, rfl⟩
   · rw [hv] at hx
     obtain rfl : x = v := by simpa using hx
     exact okV_cell h hC
   · exfalso
     unfold Cell.okWide at h
     split at h <;> first | (rename_i e1 e2; cases e2; done) | skip
     unfold Cell.ok at h
     split at h <;> first | (rename_i e1 e2; cases e2; done) | exact h
theorem agg_of {base : Nat} {t : TypeId} {v : Value} {fs : Array Field} (h : Value.okWide P W .any base t v) (hu : P.underlying t = some (.struct fs)) : ∃ cs, v = .agg cs := by
 unfold Value.okWide at h
 rw [hu] at h
 obtain ⟨cs, e, _⟩ := h
 exact ⟨cs, e⟩
theorem agg_ofA {base : Nat} {t e : TypeId} {n : Nat} {v : Value} (h : Value.okWide P W .any base t v) (hu : P.underlying t = some (.array n e)) : ∃ cs, v = .agg cs := by
 unfold Value.okWide at h
 rw [hu] at h
 obtain ⟨cs, e, _⟩ := h
 exact ⟨cs, e⟩
theorem cell_of {ty : Ty} {t : TypeId} {base : Nat} {v : Value} (h : Value.okWide P W .any base t v) (hb : tyB P ty t = true) (hn : ∀ a b, ty ≠ .cons a b) (hna : ∀ n k, ty ≠ .arr n k) : v.cells = #[v] := by
 have hu : ∀ fs, P.underlying t ≠ some (.struct fs) := by
  intro fs hu
  cases ty with
  | cons a b => exact hn a b rfl
  | arr n k => exact hna n k rfl
  | nil => cases hb
  | _ => rw [tyB, hu] at hb; cases hb
 have hu2 : ∀ n e, P.underlying t ≠ some (.array n e) := by
  intro n e hu
  cases ty with
  | cons a b => exact hn a b rfl
  | arr n k => exact hna n k rfl
  | nil => cases hb
  | _ => rw [tyB, hu] at hb; cases hb
 unfold Value.okWide at h
 split at h
 · exact (hu _ (by assumption)).elim
 · exact (hu2 _ _ (by assumption)).elim
 · cases v <;> first | rfl | skip
   exfalso
   unfold Cell.okWide at h
   split at h <;> first | (rename_i e1 e2; cases e2; done) | skip
   unfold Cell.ok at h
   split at h <;> first | (rename_i e1 e2; cases e2; done) | exact h
theorem arg_of (hsp : ∀ b, sp b = true) {ty : Ty} {t : TypeId} {base : Nat} {v : Value} {d : DataW H} {ps : List MemPlace} (hb : tyB P ty t = true) (h : DataW.Trod enc P W 0 sp held t v d ps) (hv : Value.okWide P W .any base t v) (hC : W.heap.size ≤ C)
  (hd : ty.deep = true → ∀ a x, W.cell? a = some x → okV C x) (B : Nat) : ∃ vs x, conc E0 (ty.arg vs) = v ∧ bd (· < C) (ty.arg vs) ∧ Rp (heapF W C) .e C ty vs x ∧ (WOk P B t d → Sz B ty x) := by
 obtain ⟨fuel, h⟩ := h
 obtain ⟨vs, x, h1, h2⟩ := rp_trod (B := B) hsp hC ty t _ fuel _ hb h (fun _ => okV_val hv hC) hd
 obtain ⟨c1, c2⟩ := h1.conc
 refine ⟨vs, x, ?_, ?_, h2⟩
 · cases ty with
   | cons a b =>
     rw [tyB] at hb
     split at hb
     · rename_i fs hu
       obtain ⟨cs, rfl⟩ := agg_of hv hu
       show Value.agg (concs E0 vs).toArray = _
       rw [c1]
       simp [Value.cells]
     · cases hb
   | arr n k =>
     rw [tyB] at hb
     split at hb
     · rename_i n' e hu
       obtain ⟨cs, rfl⟩ := agg_ofA hv hu
       show Value.agg (concs E0 vs).toArray = _
       rw [c1]
       simp [Value.cells]
     · cases hb
   | nil => cases hb
   | _ =>
     have hc := cell_of hv hb (by intro a b e; cases e) (by intro a b e; cases e)
     rw [hc] at c1 h1
     have hl := h1.len
     match vs, hl with
     | [w], _ =>
       have : [conc E0 w] = [v] := c1
       injection this
 · cases ty with
   | cons a b => exact c2
   | arr n k => exact c2
   | nil => cases hb
   | _ =>
     cases vs with
     | nil => trivial
     | cons w r => exact c2.1
theorem args_of (hsp : ∀ b, sp b = true) {base : Nat} (hC : W.heap.size ≤ C) : ∀ {tys : List Ty} {ts : List TypeId} {vs : List Value} {ds : List (DataW H)} {ps : List MemPlace}, tysB P tys ts = true → DataW.TrodAll enc P W 0 sp held ts vs ds ps →
  (∀ (j : Nat) t v, ts[j]? = some t → vs[j]? = some v → Value.okWide P W .any base t v) → (tys.any Ty.deep = true → ∀ a x, W.cell? a = some x → okV C x) → ∃ as0, concs E0 as0 = vs ∧ bds (· < C) as0 ∧ ArgsR (heapF W C) C tys as0
 | [], [], [], ds, ps, hb, h, hv, hd => ⟨[], rfl, trivial, rfl⟩
 | [], [], _ :: _, ds, ps, hb, h, hv, hd => by cases ds <;> cases h
 | [], _ :: _, vs, ds, ps, hb, h, hv, hd => by cases hb
 | _ :: _, [], vs, ds, ps, hb, h, hv, hd => by cases hb
 | ty :: tys, t :: ts, [], ds, ps, hb, h, hv, hd => by cases ds <;> cases h
 | ty :: tys, t :: ts, v :: vs, [], ps, hb, h, hv, hd => by cases h
 | ty :: tys, t :: ts, v :: vs, d :: ds, ps, hb, h, hv, hd => by
   have hb' : (tyB P ty t && tysB P tys ts) = true := hb
   rw [Bool.and_eq_true] at hb'
   obtain ⟨p, q, h1, h2, _⟩ := h
   obtain ⟨ws, x, g1, g2, g3, _⟩ := arg_of hsp hb'.1 h1 (hv 0 t v rfl rfl) hC (fun hh => hd (by rw [List.any_cons, hh]; rfl)) 0
   obtain ⟨as0, a1, a2, a3⟩ := args_of hsp hC hb'.2 h2 (fun j t v ht hv' => hv (j + 1) t v ht hv') (fun hh => hd (by rw [List.any_cons, hh]; simp))
   exact ⟨ty.arg ws :: as0, by rw [concs, g1, a1], ⟨g2, a2⟩, ws, x, as0, rfl, g3, a3⟩
theorem all_kept {W' : World} (hW : ∀ i, i < W.heap.size → W'.heap[i]? = W.heap[i]?) : ∀ {tys : List Ty} {ts : List TypeId} {vs : List Value} {ds : List (DataW H)} {ps : List MemPlace}, tysB P tys ts = true →
  DataW.TrodAll enc P W 0 (fun _ => true) held ts vs ds ps → DataW.TrodAll enc P W' 0 (fun b => decide (b < W.heap.size)) held ts vs ds ps
 | [], [], [], [], ps, hb, h => h
 | [], [], [], _ :: _, ps, hb, h => by cases h
 | [], [], _ :: _, ds, ps, hb, h => by cases ds <;> cases h
 | [], _ :: _, vs, ds, ps, hb, h => by cases hb
 | _ :: _, [], vs, ds, ps, hb, h => by cases hb
 | ty :: tys, t :: ts, [], ds, ps, hb, h => by cases ds <;> cases h
 | ty :: tys, t :: ts, v :: vs, [], ps, hb, h => by cases h
 | ty :: tys, t :: ts, v :: vs, d :: ds, ps, hb, h => by
   have hb' : (tyB P ty t && tysB P tys ts) = true := hb
   rw [Bool.and_eq_true] at hb'
   obtain ⟨p, q, ⟨fuel, h1⟩, h2, e⟩ := h
   exact ⟨p, q, ⟨fuel, trod_kept hW ty t _ fuel _ hb'.1 h1⟩, all_kept hW hb'.2 h2, e⟩
def bndV : Value → Nat
 | .slice (some a) 0 0 => adE a + 1
 | _ => 0
theorem bnd_vals : ∀ l : List Value, ∃ B, ∀ x ∈ l, bndV x ≤ B
 | [] => ⟨0, fun x hx => by cases hx⟩
 | v :: l => by
   obtain ⟨B, hB⟩ := bnd_vals l
   refine ⟨max (bndV v) B, fun x hx => ?_⟩
   rcases List.mem_cons.1 hx with rfl | hx
   · exact Nat.le_max_left _ _
   · exact Nat.le_trans (hB x hx) (Nat.le_max_right _ _)
theorem bnd_objs : ∀ l : List Obj, ∃ B, ∀ cs t f, Obj.cells cs t f ∈ l → ∀ x ∈ cs.toList, bndV x ≤ B
 | [] => ⟨0, fun cs t f h => by cases h⟩
 | o :: l => by
   obtain ⟨B, hB⟩ := bnd_objs l
   obtain ⟨B', hB'⟩ : ∃ B', ∀ cs t f, o = Obj.cells cs t f → ∀ x ∈ cs.toList, bndV x ≤ B' := by
    cases o with
    | cells cs t f =>
      obtain ⟨B', h⟩ := bnd_vals cs.toList
      exact ⟨B', fun cs' t' f' e => by injection e with e1 e2 e3; subst e1; exact h⟩
    | _ => exact ⟨0, fun cs t f e => by cases e⟩
   refine ⟨max B B', fun cs t f h x hx => ?_⟩
   rcases List.mem_cons.1 h with h | h
   · exact Nat.le_trans (hB' cs t f h.symm x hx) (Nat.le_max_right _ _)
   · exact Nat.le_trans (hB cs t f h x hx) (Nat.le_max_left _ _)
theorem deep_C (W : World) : ∃ C, 1000 ≤ C ∧ W.heap.size ≤ C ∧ ∀ a x, W.cell? a = some x → okV C x := by
 obtain ⟨B, hB⟩ := bnd_objs W.heap.toList
 refine ⟨max 1000 (max W.heap.size B), Nat.le_max_left _ _, Nat.le_trans (Nat.le_max_left _ _) (Nat.le_max_right _ _), fun a x hx => ?_⟩
 unfold World.cell? at hx
 split at hx
 · rename_i cs t f hh
   split at hx
   · cases hx
   · have hm : Obj.cells cs t f ∈ W.heap.toList := by
      obtain ⟨h1, h2⟩ := Array.getElem?_eq_some_iff.1 hh
      rw [← h2]; exact Array.getElem_mem_toList h1
     have hxm : x ∈ cs.toList := by
      obtain ⟨h1, h2⟩ := Array.getElem?_eq_some_iff.1 hx
      rw [← h2]; exact Array.getElem_mem_toList h1
     have hb := hB cs t f hm x hxm
     unfold okV
     split
     · rename_i a'
       have hb' : adE a' + 1 ≤ B := hb
       right
       have := Nat.le_max_right 1000 (max W.heap.size B)
       have := Nat.le_max_right W.heap.size B
       omega
     · trivial
 · cases hx
end
end
end Go.Proofs.YtpokoiicogheaaaGreatDoor.Ev
