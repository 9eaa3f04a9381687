/- What is proved here: pieces of the evaluator's soundness: if the evaluator comes to a value, the model's run comes to it, for every world and tape; no conditions beyond the hypotheses of each theorem. -/
import Derived.Test.YtggfpgcnpdlnlaaDoorEv3
import Derived.Lib.UnsafeStr
import Derived.RangeFuncRecord
import Derived.LoopNIn
set_option linter.unusedSimpArgs false
set_option linter.unusedVariables false
namespace Go.Proofs.YtggfpgcnpdlnlaaDoor.Ev
open Go

section
variable {P : Program} {E : Env} {F : RO} {M : Mem} {c : Nat → Prop} {w : World} {t : T} {a : Act}

/-- what an operation on values leaves -/
abbrev EVal (P : Program) (F : RO) (E : Env) (M : Mem) (c : Nat → Prop) (ct : Nat) (w : World) (s : Sem Value) (v : V) (M' : Mem) (ct' : Nat) : Prop :=
  ∃ E' w' c', s.run P w = .ok (conc E' v) w' ∧ Stp P F E M c w E' M' c' w' ∧ bd c' v ∧ Grow c ct c' ct'

theorem room_iff {len by_ : Nat} (h : room len by_ = true) : (3 * len + 2000) * by_ ≤ 281474976710656 ∧ len ≤ 1099511627776 := by
  unfold room at h
  rw [bleN, bleN] at h
  simpa using h

theorem grown_some {M0 : Mem} {ct e by_ len fz : Nat} {str : Bool} {vs : List V} {v : V} {M' : Mem} {ct' : Nat} (h : grown M0 ct e by_ len fz str vs = .k v M' ct') :
    room len by_ = true ∧ v = .u ct 0 len 0 len ∧ M' = M0.set ct (.cells e vs.length false fz str [] (listTr vs 0 .e)) ∧ ct' = ct + 1 := by
  unfold grown at h
  cases hr : room len by_ with
  | false => rw [hr] at h; cases h
  | true =>
    rw [hr, cond_true, Tr.force_eq, fN_eq, fN_eq] at h
    injection h with h1 h2 h3
    exact ⟨rfl, h1.symm, h2.symm, h3.symm⟩

theorem grow_one (c : Nat → Prop) (ct : Nat) : Grow c ct (fun b => c b ∨ b = ct) (ct + 1) := ⟨by omega, fun b hb => hb.elim .inl fun h => .inr (by omega)⟩

/-- A NEW ROW HAS GROWN -/
theorem grown_new (h : Cx P E F M c w t a) {ct : Nat} (hf : Fresh c ct) {M0 : Mem} (hM0 : Stp P F E M c w E M0 c w) {ats : Array TypeId} {rty ty e : TypeId} {i : TypeInfo} (hat : ats[0]? = some ty) (hu : P.underlying ty = some (.slice e)) (hzs : ZerosOk P ats) (hi : P.info? e = some i) (hzo : zOk P e i.size = true)
    {X : Value} {base : Option Addr} {sLen sCap n fz : Nat} {str : Bool} {old new : List V} (hlen : (Builtin.lenOf X).run P w = .ok n w) (hold : (Builtin.firstCells i.size sLen (.slice base sLen sCap)).run P w.drew = .ok (concs E old).toArray w.drew)
    (hnew : (Builtin.firstCells i.size n X).run P w.drew = .ok (concs E new).toArray w.drew) (hbo : bds c old) (hbn : bds c new) (hlo : old.length = sLen * i.size) (hln : new.length = n * i.size) (hg : sCap < sLen + n)
    {v : V} {M' : Mem} {ct' : Nat} (hgr : grown M0 ct e i.bytes (sLen + n) fz str (old ++ new) = .k v M' ct') :
    EVal P F E M c ct w (Builtin.append_ ats rty #[.slice base sLen sCap, X]) v M' ct' := by
  obtain ⟨hr, rfl, rfl, rfl⟩ := grown_some hgr
  obtain ⟨hr1, hr2⟩ := room_iff hr
  obtain ⟨z, hz, hzc⟩ := zOk_zero hi hzo
  have h2 := nextslicecap_le hg
  have h48 : Builtin.nextslicecap (sLen + n) sCap * i.bytes ≤ 281474976710656 := by
    have h3 : Builtin.nextslicecap (sLen + n) sCap * i.bytes ≤ (3 * (sLen + n) + 2000) * i.bytes := Nat.mul_le_mul_right _ (by omega)
    omega
  have hrun := append_grow_run (w := w) (rty := rty) hat hu hzs hi hz hlen hold hnew hg (by omega) h48
  have hcap : sLen + n ≤ grownCap w (sLen + n) sCap e := by simp [grownCap, Question.cut]
  have hco : P.cellsOf e = i.size := by unfold Program.cellsOf; rw [hi]; rfl
  have hbd := bds_append hbo hbn
  have harr : (concs E old).toArray ++ (concs E new).toArray = (concs E (old ++ new)).toArray := by rw [concs_append]; simp
  rw [harr] at hrun
  obtain ⟨E', hS, hE, hρ, hβ, hκ⟩ := hM0.rel.alloc (.cells e (old ++ new).length false fz str [] (listTr (old ++ new) 0 .e)) (.cells ((concs E (old ++ new)).toArray ++ Builtin.zeroCells z.cells (grownCap w (sLen + n) sCap e - (sLen + n))) e) ct
    (grownCap w (sLen + n) sCap e - (sLen + n)) (fun b => c b ∨ b = ct) (hf ct (Nat.le_refl _)) (.inr rfl) (fun _ h => .inl h) (list_bd hbd fun _ h => .inl h)
    (w.drew.alloc (.cells ((concs E (old ++ new)).toArray ++ Builtin.zeroCells z.cells (grownCap w (sLen + n) sCap e - (sLen + n))) e)) rfl rfl rfl rfl
    (fun E' he _ hβ hκ => grown_rel he hbd hβ hκ (by rw [List.length_append, hlo, hln, hco, Nat.add_mul]) hcap (by rw [hzc, hco]))
  refine ⟨E', _, _, ?_, hM0.trans hS, .inr rfl, grow_one c ct⟩
  rw [hrun]
  simp only [conc, hρ, hβ, hκ]
  congr 2
  omega

/-- A ROW HAS GROWN IN ITS PLACE -/
theorem grown_in (h : Cx P E F M c w t a) {ct : Nat} (hf : Fresh c ct) {b n' fz o kn sLen n : Nat} {str : Bool} {d : List V} {cs : T} {e : TypeId} {i : TypeInfo} (hi : P.info? e = some i) (hM : M.get b = some (.cells e n' false fz str d cs))
    (hn' : n' = o + kn * i.size) (hfz : fz ≤ o + sLen * i.size) {old new : List V} (hold : ∀ j v, old[j]? = some v → cell n' d cs (o + j) = some v) (hbo : bds c old) (hbn : bds c new) (h1 : allOne new = true) (hlo : old.length = sLen * i.size) (hln : new.length = n * i.size)
    (hle : sLen + n ≤ kn + E.κ b) {by_ : Nat} {v : V} {M' : Mem} {ct' : Nat} (hgr : grown (M.del b) ct e by_ (sLen + n) fz str (old ++ new) = .k v M' ct') :
    ∃ E' w' c', (storeCells ⟨E.ρ b, E.β b + o + sLen * i.size, none⟩ (concs E new)).run P w = .ok () w' ∧ Stp P F E M c w E' M' c' w' ∧ bd c' v ∧ Grow c ct c' ct' ∧ conc E' v = .slice (some ⟨E.ρ b, E.β b + o, none⟩) (sLen + n) (kn + E.κ b) := by
  obtain ⟨hr, rfl, rfl, rfl⟩ := grown_some hgr
  obtain ⟨arr, fr, ho, hrel⟩ := h.cells (look_some_M hM)
  have hco : P.cellsOf e = i.size := by unfold Program.cellsOf; rw [hi]; rfl
  have hsz := hrel.size
  simp only [Bool.false_eq_true, if_false] at hsz
  rw [hco] at hsz
  have hlen : (concs E new).length = n * i.size := by simp [concs_map, hln]
  have hone : ∀ v ∈ concs E new, v.oneCell' = true := by
    intro v hv
    rw [concs_map, List.mem_map] at hv
    obtain ⟨x, hx, rfl⟩ := hv
    exact isOne_conc (allOne_mem h1 x hx)
  have hmul : (sLen + n) * i.size ≤ (kn + E.κ b) * i.size := Nat.mul_le_mul_right _ hle
  rw [Nat.add_mul, Nat.add_mul] at hmul
  have hrun := storeCells_run (P := P) (E.ρ b) (E.β b + o + sLen * i.size) e fr (concs E new) 0 arr w ho (fun k hk hk' => hrel.free k (by omega) hk') (by rw [hlen]; omega) hone
  have hsp := foldSet (E.β b + o + sLen * i.size) (concs E new) 0 arr
  have hbd := bds_append hbo hbn
  obtain ⟨E', hS, hρ, hβ, hκ⟩ := h.rel.take b ct _ (.cells e (old ++ new).length false fz str [] (listTr (old ++ new) 0 .e)) hM (.cells (splice arr (E.β b + o + sLen * i.size) (concs E new) 0) e fr) (E.β b + o) (kn + E.κ b - (sLen + n)) (fun x => c x ∨ x = ct)
    (hf ct (Nat.le_refl _)) (.inr rfl) (fun _ h => .inl h) (list_bd hbd fun _ h => .inl h) { w with heap := w.heap.setIfInBounds (E.ρ b) (.cells (splice arr (E.β b + o + sLen * i.size) (concs E new) 0) e fr) } rfl rfl rfl rfl (fun E' he hρ hβ hκ => by
      refine ⟨_, _, rfl, ⟨fun k v hk => ?_, ?_, ?_, ?_⟩⟩
      · have hk' := cell_list hk
        have hlt : k < (old ++ new).length := (List.getElem?_eq_some_iff.1 hk').1
        rw [List.length_append, hlo, hln] at hlt
        rw [hβ, conc_ext he v (bds_get hbd hk')]
        unfold splice
        rw [hsp.2 (E.β b + o + k) (by omega), hlen, Nat.add_zero]
        by_cases hko : k < sLen * i.size
        · rw [if_neg (by omega)]
          rw [List.getElem?_append_left (by omega)] at hk'
          rw [Nat.add_assoc]
          exact hrel.cell (o + k) v (hold k v hk')
        · rw [if_pos (by omega), show E.β b + o + k - (E.β b + o + sLen * i.size) = k - old.length by omega]
          rw [List.getElem?_append_right (by omega)] at hk'
          exact concs_get hk'
      · simp only [Bool.false_eq_true, if_false]
        unfold splice
        rw [hsp.1, hβ, hκ, hco, List.length_append, hlo, hln, hsz, Nat.sub_mul, Nat.add_mul, Nat.add_mul]
        omega
      · unfold splice
        rw [hsp.1, hβ]
        intro k hk hk'
        exact hrel.free k (by omega) hk'
      · intro hs
        rw [hβ]
        rcases hrel.plain hs with hp | ⟨hp, hp'⟩
        · exact .inl hp
        · exact .inr ⟨hp, by omega⟩)
  refine ⟨E', _, _, hrun, hS, .inr rfl, grow_one c ct, ?_⟩
  simp only [conc, hρ, hβ, hκ]
  congr 1
  omega

theorem mayWrite_some {b ty o e fz : Nat} {str : Bool} (h : mayWrite M b ty o e = some (fz, str)) : ∃ n d cs, M.get b = some (.cells ty n false fz str d cs) ∧ n = e ∧ fz ≤ o ∧ o ≤ e := by
  unfold mayWrite at h
  split at h
  · rename_i ty' n fz' str' d cs hM
    rw [beqN, beqN, bleN, bleN] at h
    by_cases hc : (decide (ty' = ty) && decide (n = e) && decide (fz' ≤ o) && decide (o ≤ e)) = true
    · rw [hc, cond_true] at h
      simp only [Option.some.injEq, Prod.mk.injEq] at h
      obtain ⟨rfl, rfl⟩ := h
      simp only [Bool.and_eq_true, decide_eq_true_eq] at hc
      obtain ⟨⟨⟨rfl, rfl⟩, h3⟩, h4⟩ := hc
      exact ⟨_, _, _, hM, rfl, h3, h4⟩
    · rw [Bool.not_eq_true] at hc
      rw [hc] at h; cases h
  · cases h

theorem appIn_some {ct b o sz len n : Nat} {new : List V} {f : Nat → V} {v : V} {M' : Mem} {ct' : Nat} (h : appIn ct b o sz len n M new f = .k v M' ct') : storeN M b (o + len * sz) new = some M' ∧ v = f (len + n) ∧ ct' = ct := by
  unfold appIn at h
  split at h
  · rename_i M'' hs
    rw [fN_eq] at h
    injection h with h1 h2 h3
    subst h2
    exact ⟨hs, h1.symm, h3.symm⟩
  · cases h

theorem grownL_some {M0 : Mem} {ct e by_ len fz : Nat} {str : Bool} {new : List V} {r : Option (List V × Option Nat)} {v : V} {M' : Mem} {ct' : Nat} (h : grownL M0 ct e by_ len fz str new r = .k v M' ct') : ∃ old q, r = some (old, q) ∧ grown M0 ct e by_ len fz str (old ++ new) = .k v M' ct' := by
  unfold grownL at h
  split at h
  · exact ⟨_, _, rfl, h⟩
  · cases h

theorem readB_cell {sz n b o n' ty fz : Nat} {ex str : Bool} {d : List V} {cs : T} {vs : List V} {r : Option Nat} (hM : M.get b = some (.cells ty n' ex fz str d cs)) (h : readB F M sz n b o = some (vs, r)) : ∀ j v, vs[j]? = some v → cell n' d cs (o + j) = some v := by
  unfold Ev.readB at h
  rw [beqN] at h
  by_cases hn : n = 0
  · rw [decide_eq_true hn, cond_true] at h
    simp only [Option.some.injEq, Prod.mk.injEq] at h
    obtain ⟨rfl, rfl⟩ := h
    intro j v hj; simp at hj
  · rw [decide_eq_false hn, cond_false] at h
    split at h
    · rename_i l hl
      simp only [Option.some.injEq, Prod.mk.injEq] at h
      obtain ⟨rfl, rfl⟩ := h
      obtain ⟨ty', m, ex', fz', str', d', cs', hb, hg⟩ := asCells_some (f := none) hl (by simp)
      rw [look_some_M hM] at hb
      injection hb with hb
      injection hb with h1 h2 h3 h4 h5 h6 h7
      subst h2 h6 h7
      exact (cellsAt_get _ _ _ hg).2
    · cases h

theorem firstCells_drew {sz n b o len cap : Nat} (h : Cx P E F M c w t a) {old : List V} {r : Option Nat} (hr : readB F M sz n b o = some (old, r)) : (Builtin.firstCells sz n (.slice (some ⟨E.ρ b, E.β b + o, none⟩) len cap)).run P w.drew = .ok (concs E old).toArray w.drew := by
  simp only [Builtin.firstCells]
  exact ((h.world (w' := w.drew) rfl).readB hr).1

/-- APPEND -/
theorem app_run (h : Cx P E F M c w t a) {ct : Nat} (hf : Fresh c ct) {ats : Array TypeId} {rty ty e : TypeId} {i : TypeInfo} (hat : ats[0]? = some ty) (hu : P.underlying ty = some (.slice e)) (hzs : ZerosOk P ats) (hi : P.info? e = some i) (hpos : i.size ≠ 0) (hzo : zOk P e i.size = true)
    {x y : V} {n : Nat} {new : List V} (hs : splitSrc F M i.size y = some (n, new)) (hbx : bd c x) (h1 : allOne new = true) (hln : new.length = n * i.size)
    {v : V} {M' : Mem} {ct' : Nat} (ha : app F M ct e i.size i.bytes x n new = .k v M' ct') : EVal P F E M c ct w (Builtin.append_ ats rty #[conc E x, conc E y]) v M' ct' := by
  obtain ⟨hlen, hfc, hbn⟩ := srcRun h hs
  obtain ⟨_, hfcd, _⟩ := srcRun (h.world (w' := w.drew) rfl) hs
  unfold app at ha
  rw [beqN] at ha
  by_cases hn0 : n = 0
  · subst hn0
    rw [decide_eq_true rfl, cond_true] at ha
    have hnil : new = [] := List.eq_nil_of_length_eq_zero (by omega)
    subst hnil
    cases hlk : lenOk x with
    | false => rw [hlk] at ha; cases ha
    | true =>
      rw [hlk, cond_true] at ha
      injection ha with g1 g2 g3
      subst g1 g2 g3
      have hsl : ∃ base sLen sCap, conc E x = .slice base sLen sCap ∧ sLen ≤ sCap := by
        cases x <;> first
          | cases (show false = true from hlk)
          | (refine ⟨_, _, _, rfl, ?_⟩
             first
               | exact Nat.le_refl _
               | exact Nat.zero_le _
               | (have : Nat.ble _ _ = true := hlk
                  rw [bleN] at this
                  have := of_decide_eq_true this
                  first
                    | exact this
                    | exact Nat.le_trans this (Nat.le_add_right _ _)))
      obtain ⟨base, sLen, sCap, hcx, hle⟩ := hsl
      refine ⟨E, w, c, ?_, .refl h.rel, hbx, .refl _ _⟩
      rw [hcx]
      exact append_zero_run hat hu hzs hi hlen hfc hle
  · rw [decide_eq_false hn0, cond_false] at ha
    have fin : ∀ {b o len n' cap : Nat} {M'' : Mem}, storeN M b (o + len * i.size) new = some M'' → len + n ≤ cap → c b → ∃ w', (Builtin.append_ ats rty #[.slice (some ⟨E.ρ b, E.β b + o, none⟩) len cap, conc E y]).run P w = .ok (.slice (some ⟨E.ρ b, E.β b + o, none⟩) (len + n) cap) w' ∧ Stp P F E M c w E M'' c w' := by
      intro b o len n' cap M'' hst hcap hb
      obtain ⟨w', hrun, hS⟩ := h.store hst hbn
      refine ⟨w', append_in_run hat hu hzs hi hlen hfc hcap ?_, hS⟩
      rw [Addr.add_eq, Nat.add_assoc]
      exact hrun
    cases x with
    | l0 =>
      exact grown_new h hf (.refl h.rel) hat hu hzs hi hzo (old := []) hlen (by simp [Builtin.firstCells, concs]) hfcd trivial hbn (by simp) hln (by omega) (by simpa using ha)
    | l b o len cap =>
      have ha' : app_l F M ct e i.size i.bytes b o len cap n new = .k v M' ct' := ha
      unfold app_l at ha'
      rw [bleN] at ha'
      by_cases hcap : len + n ≤ cap
      · rw [decide_eq_true (show Nat.add len n ≤ cap from hcap), cond_true] at ha'
        obtain ⟨hst, rfl, rfl⟩ := appIn_some ha'
        obtain ⟨w', hrun, hS⟩ := fin (n' := 0) hst hcap hbx
        exact ⟨E, w', c, hrun, hS, hbx, .refl _ _⟩
      · rw [decide_eq_false (show ¬ Nat.add len n ≤ cap from hcap), cond_false] at ha'
        obtain ⟨old, q, hr, hgr⟩ := grownL_some ha'
        have hrb := h.readB hr
        exact grown_new h hf (.refl h.rel) hat hu hzs hi hzo hlen (firstCells_drew h hr) hfcd hrb.2.1 hbn hrb.2.2 hln (by omega) hgr
    | u b o len el kn =>
      have ha' : app_u F M ct e i.size i.bytes b o len el kn n new = .k v M' ct' := ha
      unfold app_u at ha'
      rw [bleN] at ha'
      by_cases hcap : el + len + n ≤ kn
      · rw [decide_eq_true (show Nat.add (Nat.add el len) n ≤ kn from hcap), cond_true] at ha'
        obtain ⟨hst, rfl, rfl⟩ := appIn_some ha'
        obtain ⟨w', hrun, hS⟩ := fin (n' := 0) (cap := kn - el + E.κ b) hst (by omega) hbx
        exact ⟨E, w', c, hrun, hS, hbx, .refl _ _⟩
      · rw [decide_eq_false (show ¬ Nat.add (Nat.add el len) n ≤ kn from hcap), cond_false] at ha'
        split at ha'
        · rename_i fz str hmw
          obtain ⟨n', d, cs, hM, hn', hfz, _⟩ := mayWrite_some hmw
          obtain ⟨old, q, hr, hgr⟩ := grownL_some ha'
          have hrb := h.readB hr
          by_cases hroom : len + n ≤ kn - el + E.κ b
          · obtain ⟨E', w', c', hrun, hS, hb', hG, hcv⟩ := grown_in h hf hi hM (o := o) (kn := kn - el) (sLen := len) hn' hfz (readB_cell hM hr) hrb.2.1 hbn h1 hrb.2.2 hln hroom hgr
            refine ⟨E', w', c', ?_, hS, hb', hG⟩
            rw [hcv]
            refine append_in_run hat hu hzs hi hlen hfc hroom ?_
            rw [Addr.add_eq]
            exact hrun
          · exact grown_new h hf (h.rel.drop b) hat hu hzs hi hzo hlen (firstCells_drew h hr) hfcd hrb.2.1 hbn hrb.2.2 hln (by omega) hgr
        · cases ha'
    | ue b o0 o =>
      have ha' : (match mayWrite M b e o o with
        | some (fz, str) => grown (M.del b) ct e i.bytes n fz str new
        | none => .f) = .k v M' ct' := ha
      split at ha'
      · rename_i fz str hmw
        obtain ⟨n', d, cs, hM, hn', hfz, _⟩ := mayWrite_some hmw
        by_cases hroom : n ≤ E.κ b
        · have hκ : E.κ b ≠ 0 := by omega
          obtain ⟨E', w', c', hrun, hS, hb', hG, hcv⟩ := grown_in h hf hi hM (o := o) (kn := 0) (sLen := 0) (old := []) (n := n) (by simpa using hn') (by simpa using hfz) (fun j v hj => by simp at hj) trivial hbn h1 (by simp) hln (by omega) (by simpa using ha')
          refine ⟨E', w', c', ?_, hS, hb', hG⟩
          rw [hcv]
          simp only [conc, if_neg hκ]
          have := append_in_run (w := w) (rty := rty) (sLen := 0) (sCap := E.κ b) (ad := ⟨E.ρ b, E.β b + o, none⟩) hat hu hzs hi hlen hfc (by omega) (w' := w') (by rw [Addr.add_eq]; exact hrun)
          simpa using this
        · have := grown_new (rty := rty) (base := some (if E.κ b = 0 then ⟨E.ρ b, E.β b + o0, none⟩ else ⟨E.ρ b, E.β b + o, none⟩)) (sLen := 0) (sCap := E.κ b) (old := []) h hf (h.rel.drop b) hat hu hzs hi hzo hlen (by simp [Builtin.firstCells, concs, loadCells, loadCellsFrom]) hfcd trivial hbn (by simp) hln (by omega) (by simpa using ha')
          exact this
      · cases ha'
    | _ => cases (show RC.f = .k v M' ct' from ha)

end
end Go.Proofs.YtggfpgcnpdlnlaaDoor.Ev

namespace Go.Proofs.YtggfpgcnpdlnlaaDoor.Ev
open Go

section
variable {P : Program} {E : Env} {F : RO} {M : Mem} {c : Nat → Prop} {w : World} {t : T} {a : Act}

theorem EVal.op {o : Oper} {cl : Call} {b : Builtin} (hop : o.op = .call cl) (hb : cl.callee = .builtin b) {l : List Operand} (hl : cl.args.toList = l) {s : Sem Value} {v : V} {M' : Mem} {ct ct' : Nat}
    (he : ∀ fs, builtin b cl.argTypes o.type fs (l.map a.eval).toArray = (s >>= fun v => pure (Next.value v))) (h : EVal P F E M c ct w s v M' ct') : EOk P F E M c ct w a o v M' ct' := by
  obtain ⟨E', w', c', hr, hS, hb', hG⟩ := h
  exact ⟨E', w', .value (conc E' v), c', exec_builtin hop hb hl (by rw [he]; exact val_run hr), .inl rfl, hS, hb', hG⟩

theorem e_append (h : Cx P E F M c w t a) {ct : Nat} (hf : Fresh c ct) {o : Oper} {cl : Call} (hop : o.op = .call cl) (hb : cl.callee = .builtin .append) {y z : Operand} (hargs : cl.args.toList = [y, z]) {ty e : TypeId} (hat : cl.argTypes[0]? = some ty) (hzs : ZerosOk P cl.argTypes)
    (hu : P.underlying ty = some (.slice e)) {sz by_ : Nat} (hsz : szOf P e = some sz) (hby : byOf P e = some by_) (hpos : sz ≠ 0) (hzo : zOk P e sz = true) {xx xy : X} (h1 : compX y = some xx) (h2 : compX z = some xy)
    {k : Kn} (hk : k.F = F) {v : V} {M' : Mem} {ct' : Nat} (he : doE (.app e sz by_ xx xy) k M ct t = .k v M' ct') : EOk P F E M c ct w a o v M' ct' := by
  have he' : e_app1 k.F M ct e sz by_ (xx.ev t) (splitSrc k.F M sz (xy.ev t)) = .k v M' ct' := he
  rw [hk] at he'
  obtain ⟨i, hi, rfl⟩ := szOf_info hsz
  have hby' : i.bytes = by_ := by
    unfold byOf at hby; rw [hi] at hby; simpa using hby
  subst hby'
  have e1 := h.ev h1
  have e2 := h.ev h2
  cases hs : splitSrc F M i.size (xy.ev t) with
  | none => rw [hs] at he'; cases (show RC.f = .k v M' ct' from he')
  | some r =>
    obtain ⟨n, new⟩ := r
    rw [hs] at he'
    have he2 : (bif allOne new && Nat.beq new.length (Nat.mul n i.size) then app F M ct e i.size i.bytes (xx.ev t) n new else .f) = .k v M' ct' := he'
    rw [beqN] at he2
    by_cases hc1 : allOne new = true
    · by_cases hc2 : new.length = n * i.size
      · rw [hc1, decide_eq_true (show new.length = Nat.mul n i.size from hc2)] at he2
        have he3 : app F M ct e i.size i.bytes (xx.ev t) n new = .k v M' ct' := he2
        have := app_run (rty := o.type) h hf hat hu hzs hi hpos hzo hs e1.2 hc1 hc2 he3
        refine EVal.op hop hb hargs (s := Builtin.append_ cl.argTypes o.type #[conc E (xx.ev t), conc E (xy.ev t)]) (fun fs => ?_) this
        simp only [builtin, List.map_cons, List.map_nil, e1.1, e2.1]
      · rw [hc1, decide_eq_false (show ¬ new.length = Nat.mul n i.size from hc2)] at he2; cases he2
    · rw [Bool.not_eq_true] at hc1
      rw [hc1] at he2; cases he2

theorem cpySrc_run (h : Cx P E F M c w t a) {sz n m : Nat} {y : V} {vs : List V} (hl : lenV y = some m) (hn : n ≤ m) (hs : cpySrc F M sz n y = some vs) :
    (Builtin.lenOf (conc E y)).run P w = .ok m w ∧ (Builtin.firstCells sz n (conc E y)).run P w = .ok (concs E vs).toArray w ∧ bds c vs := by
  unfold cpySrc at hs
  split at hs
  · rename_i m' x
    obtain rfl : m' = m := Option.some.inj hl
    rw [beqN] at hs
    by_cases h1 : sz = 1
    · rw [decide_eq_true h1, cond_true] at hs
      obtain rfl := Option.some.inj hs
      refine ⟨by simp [conc, Builtin.lenOf, ba_size], ?_, byteCells_bd _ _⟩
      simp only [conc, Builtin.firstCells, Sem.run_pure, byteCells_conc]
      congr 1
      apply Array.ext'
      simp only [ba, Array.toList_map, ByteArray.data_extract, Array.toList_extract, List.extract_eq_take_drop, Nat.sub_zero, List.drop_zero]
      congr 1
      have e := bl_mod m' x
      rw [← bl_take n m' _ hn]
      show List.take n (bl m' x) = List.take n (bl m' (x % 256 ^ m'))
      rw [e]
    · rw [decide_eq_false h1] at hs; cases hs
  · rename_i y' hne
    obtain ⟨⟨vs', r⟩, hr, rfl⟩ := Option.map_eq_some_iff.1 hs
    obtain ⟨⟨ad, len, cap, hcv, hld⟩, hb, _⟩ := h.readL hr
    rcases lenV_slice (E := E) hl with ⟨ad', cap', hcv'⟩ | ⟨x, hx⟩
    · rw [hcv] at hcv'
      injection hcv' with e1 e2 e3
      subst e1 e2 e3
      rw [hcv]
      refine ⟨by simp [Builtin.lenOf], ?_, hb⟩
      cases ad with
      | none => simp only at hld; subst hld; simp [Builtin.firstCells, concs]
      | some ad => simp only [Builtin.firstCells]; exact hld
    · exact absurd hx (hne _ _)

theorem lenOf_run (w : World) {y : V} {m : Nat} (hl : lenV y = some m) : (Builtin.lenOf (conc E y)).run P w = .ok m w := by
  rcases lenV_slice (E := E) hl with ⟨ad, cap, h⟩ | ⟨x, rfl⟩
  · rw [h]; simp [Builtin.lenOf]
  · simp [conc, Builtin.lenOf, ba_size]

theorem e_copy (h : Cx P E F M c w t a) {o : Oper} {cl : Call} (hop : o.op = .call cl) (hb : cl.callee = .builtin .copy) {y z : Operand} (hargs : cl.args.toList = [y, z]) {ty e : TypeId} (hat : cl.argTypes[0]? = some ty)
    (hu : P.underlying ty = some (.slice e)) {sz : Nat} (hsz : szOf P e = some sz) {xx xy : X} (h1 : compX y = some xx) (h2 : compX z = some xy)
    {k : Kn} (hk : k.F = F) {v : V} {M' : Mem} {ct ct' : Nat} (he : doE (.cpy sz xx xy) k M ct t = .k v M' ct') : EOk P F E M c ct w a o v M' ct' := by
  have he' : e_cpy sz xx xy k.F M ct t = .k v M' ct' := he
  rw [hk] at he'
  have e1 := h.ev h1
  have e2 := h.ev h2
  unfold e_cpy at he'
  split at he'
  · cases he'
  · rename_i x hne
    unfold e_cpy1 at he'
    split at he'
    · rename_i dn sn hd hs
      rw [fN_eq, bleN] at he'
      have hmin : (bif decide (sn ≤ dn) then sn else dn) = Nat.min sn dn := by
        by_cases hh : sn ≤ dn
        · rw [decide_eq_true hh, cond_true]; exact (Nat.min_eq_left hh).symm
        · rw [decide_eq_false hh, cond_false]; exact (Nat.min_eq_right (by omega)).symm
      rw [hmin, beqN] at he'
      rcases lenV_slice (E := E) hd with ⟨ad, cap, hcx⟩ | ⟨x, hx⟩
      case inr => exact absurd hx (hne _ _)
      refine EVal.op hop hb hargs (s := Builtin.copy_ cl.argTypes o.type #[conc E (xx.ev t), conc E (xy.ev t)]) (fun fs => by simp only [builtin, List.map_cons, List.map_nil, e1.1, e2.1]) ?_
      have hlo := lenOf_run (P := P) (E := E) w hs
      by_cases h0 : Nat.min sn dn = 0
      · rw [decide_eq_true h0, cond_true] at he'
        injection he' with g1 g2 g3
        subst g1 g2 g3
        refine ⟨E, w, c, ?_, .refl h.rel, trivial, .refl _ _⟩
        have hfc : (Builtin.firstCells sz 0 (conc E (xy.ev t))).run P w = .ok #[] w := by
          rcases lenV_slice (E := E) hs with ⟨ad', cap', hcy⟩ | ⟨x, hx⟩
          · rw [hcy]; cases ad' <;> simp [Builtin.firstCells, loadCells, loadCellsFrom]
          · rw [hx]; simp [conc, Builtin.firstCells]
        rw [hcx]
        cases ad <;> simp [Builtin.copy_, hat, run_und hu, hlo, h0, run_sz hsz, hfc, storeCells, conc, goInt]
      · rw [decide_eq_false h0, cond_false] at he'
        cases hsrc : cpySrc F M sz (Nat.min sn dn) (xy.ev t) with
        | none => rw [hsrc] at he'; cases (show RC.f = .k v M' ct' from he')
        | some vs =>
          rw [hsrc] at he'
          obtain ⟨_, hfc, hbv⟩ := cpySrc_run h hs (Nat.min_le_left _ _) hsrc
          have fin : ∀ b off, conc E (xx.ev t) = .slice (some ⟨E.ρ b, E.β b + off, none⟩) dn cap → (match storeN M b off vs with
              | some M => RC.k (.i .i64 (.ofNat (Nat.min sn dn))) M ct
              | none => .f) = .k v M' ct' → EVal P F E M c ct w (Builtin.copy_ cl.argTypes o.type #[conc E (xx.ev t), conc E (xy.ev t)]) v M' ct' := by
            intro b off hcx' hg
            split at hg
            · rename_i M'' hst
              injection hg with g1 g2 g3
              subst g1 g2 g3
              obtain ⟨w', hrun, hS⟩ := h.store hst hbv
              refine ⟨E, w', c, ?_, hS, trivial, .refl _ _⟩
              rw [hcx']
              simp [Builtin.copy_, hat, run_und hu, hlo, run_sz hsz, hfc, hrun, conc, goInt]
            · cases hg
          cases hv : xx.ev t with
          | l b off len cp =>
            rw [hv] at he' hcx fin
            have hcx' : Value.slice (some ⟨E.ρ b, E.β b + off, none⟩) len cp = .slice ad dn cap := hcx
            injection hcx' with q1 q2 q3
            subst q1 q2 q3
            exact fin b off rfl he'
          | u b off len el kn =>
            rw [hv] at he' hcx fin
            have hcx' : Value.slice (some ⟨E.ρ b, E.β b + off, none⟩) len (kn - el + E.κ b) = .slice ad dn cap := hcx
            injection hcx' with q1 q2 q3
            subst q1 q2 q3
            exact fin b off rfl he'
          | _ => rw [hv] at he'; cases (show RC.f = .k v M' ct' from he')
    · cases he'

theorem lies_bytes {e : TypeId} (hc : P.cellsOf e = 1) (count off n : Nat) (hn : off + n ≤ count) : liesAt P P.depth e count off e n = true := by
  have hd : P.depth = (2 * (P.types.size + Made.depth) + 1) + 1 := rfl
  rw [hd]
  simp only [liesAt, Bool.or_eq_true]
  left
  rw [hd]
  simp [rowAt, hc, hn, sameLayout, Nat.mod_one]

theorem freezeM_some {b o n : Nat} {M' : Mem} (h : freezeM M b o n = some M') : ∃ ty m ex fz d cs, M.get b = some (.cells ty m ex fz false d cs) ∧ M' = M.set b (.cells ty m ex (if fz ≤ o + n then o + n else fz) false d cs) := by
  unfold freezeM at h
  split at h
  · rename_i ty m ex fz str d cs hM
    cases str with
    | true => cases h
    | false =>
      rw [cond_false, fN_eq, bleN] at h
      obtain rfl := Option.some.inj h
      refine ⟨_, _, _, _, _, _, hM, ?_⟩
      congr 2
      by_cases hh : fz ≤ o + n
      · rw [decide_eq_true (show fz ≤ Nat.add o n from hh), if_pos hh]; rfl
      · rw [decide_eq_false (show ¬ fz ≤ Nat.add o n from hh), if_neg hh]; rfl
  · cases h

theorem loadBytes_run (r : Nat) : ∀ (ns : List Nat) (off : Nat) (acc : ByteArray), (∀ j (hj : j < ns.length), w.cell? ⟨r, off + j, none⟩ = some (.int .u8 (ns[j] : Int))) →
    (loadBytes ⟨r, off, none⟩ acc ns.length).run P w = .ok ⟨acc.data ++ (ns.map fun c => UInt8.ofNat c).toArray⟩ w
  | [], off, acc, _ => by simp [loadBytes]
  | x :: l, off, acc, h => by
    have h0 : w.cell? ⟨r, off, none⟩ = some (.int .u8 (x : Int)) := h 0 (by simp)
    have ih := loadBytes_run r l (off + 1) (acc.push x.toUInt8) (fun j hj => by
      have := h (j + 1) (by simpa using hj)
      rw [show off + 1 + j = off + (j + 1) by omega]
      simpa using this)
    simp only [List.length_cons, loadBytes, Sem.run_bind, run_load, h0, Result.andThen, Int.toNat_natCast, Addr.add_eq]
    rw [ih]
    congr 1
    apply ByteArray.ext
    simp [ByteArray.push]

theorem us_nil {ats : Array TypeId} {rty pt : TypeId} (hat : ats[0]? = some pt) (p : Option Addr) (k : IntKind) : (Builtin.unsafeString_ ats rty #[.pointer p, .int k 0]).run P w = .ok (.string .empty) w := by
  have hmax : IntKind.i64.max = 9223372036854775807 := rfl
  conv => lhs; arg 2; whnf
  cases p <;> simp [asInt, asIntOf, hmax, hat]

theorem us_some {ats : Array TypeId} {rty pt e : TypeId} (hat : ats[0]? = some pt) (hu : P.underlying pt = some (.pointer e)) (ad : Addr) (k : IntKind) {n : Nat} (h0 : n ≠ 0) (hn : n ≤ 1099511627776) (hv : (variablesAt ad e n).run P w = .ok true w) {s : ByteArray} (hl : (loadBytes ad .empty n).run P w = .ok s w) :
    (Builtin.unsafeString_ ats rty #[.pointer (some ad), .int k n]).run P w = .ok (.string s) (w.freeze ad n) := by
  have hmax : IntKind.i64.max = 9223372036854775807 := rfl
  have h1 : ¬ ((n : Int) < 0) := by omega
  have h2 : ¬ ((9223372036854775807 : Int) < (n : Int)) := by omega
  have h3 : ¬ ((n : Int) = 0) := by omega
  conv => lhs; arg 2; whnf
  simp [asInt, asIntOf, hmax, hat, h1, h2, h3, h0, elemOf, run_und hu, hv, hl, run_freeze]

theorem e_unsafeString (h : Cx P E F M c w t a) {o : Oper} {cl : Call} (hop : o.op = .call cl) (hb : cl.callee = .builtin .unsafeString) {y z : Operand} (hargs : cl.args.toList = [y, z]) {pt e : TypeId} (hat : cl.argTypes[0]? = some pt)
    (hu : P.underlying pt = some (.pointer e)) (hsz : szOf P e = some 1) {xx xy : X} (h1 : compX y = some xx) (h2 : compX z = some xy)
    {k : Kn} (hk : k.F = F) {v : V} {M' : Mem} {ct ct' : Nat} (he : doE (.us e xx xy) k M ct t = .k v M' ct') : EOk P F E M c ct w a o v M' ct' := by
  have he' : e_us e xx xy k.F M ct t = .k v M' ct' := he
  rw [hk] at he'
  have e1 := h.ev h1
  have e2 := h.ev h2
  have hmax : IntKind.i64.max = 9223372036854775807 := rfl
  unfold e_us at he'
  split at he'
  · rename_i n hn
    obtain ⟨ik, hy⟩ := asN_some hn
    rw [hy] at e2
    refine EVal.op hop hb hargs (s := Builtin.unsafeString_ cl.argTypes o.type #[conc E (xx.ev t), .int ik n]) (fun fs => by simp only [builtin, List.map_cons, List.map_nil, e1.1, e2.1, conc]) ?_
    have hz : (conc E (.s 0 0)) = .string .empty := by simp only [conc]; rfl
    split at he'
    · rename_i hv
      rw [beqN] at he'
      by_cases h0 : n = 0
      · subst h0
        rw [decide_eq_true rfl, cond_true] at he'
        injection he' with g1 g2 g3
        subst g1 g2 g3
        refine ⟨E, w, c, ?_, .refl h.rel, trivial, .refl _ _⟩
        rw [hv, hz]; exact us_nil hat none ik
      · rw [decide_eq_false h0] at he'; cases he'
    · rename_i b off hv
      unfold e_us1 at he'
      rw [beqN] at he'
      by_cases h0 : n = 0
      · subst h0
        rw [decide_eq_true rfl, cond_true] at he'
        injection he' with g1 g2 g3
        subst g1 g2 g3
        refine ⟨E, w, c, ?_, .refl h.rel, trivial, .refl _ _⟩
        rw [hv, hz]; exact us_nil hat _ ik
      · rw [decide_eq_false h0, cond_false, bleN] at he'
        cases hty : tyIs M b e with
        | false => rw [hty] at he'; cases he'
        | true =>
          by_cases hnb : n ≤ 1099511627776
          · rw [hty, decide_eq_true hnb] at he'
            simp only [Bool.and_self, cond_true] at he'
            split at he'
            · rename_i vs hld
              unfold e_us2 at he'
              split at he'
              · rename_i n' s hbv
                split at he'
                · rename_i M'' hfz
                  rw [fN_eq, fN_eq] at he'
                  injection he' with g1 g2 g3
                  subst g1 g2 g3
                  obtain ⟨ty, m, ex, fz, d, cs, hM, rfl⟩ := freezeM_some hfz
                  obtain ⟨arr, fr, ho, hr⟩ := h.cells (look_some_M hM)
                  have hte : ty = e := by
                    unfold tyIs at hty; rw [hM] at hty; simp only [beqN] at hty; exact of_decide_eq_true hty
                  subst hte
                  have hl := h.loadN hld
                  obtain ⟨ns, rfl, rfl, hbb⟩ := bytesV_spec _ _ _ hbv
                  have hnl : ns.length = n := by simpa using hl.2.2
                  have hcells : ∀ j (hj : j < ns.length), w.cell? ⟨E.ρ b, E.β b + off + j, none⟩ = some (.int .u8 (ns[j] : Int)) := by
                    intro j hjn
                    obtain ⟨ty', m', ex', fz', str', d', cs', hb', hg⟩ := asCells_some (f := none) hld (by simp)
                    rw [look_some_M hM] at hb'
                    injection hb' with hb'
                    injection hb' with q1 q2 q3 q4 q5 q6 q7
                    subst q2 q6 q7
                    have hcell := (cellsAt_get _ _ _ hg).2 j (.i .u8 (.ofNat ns[j])) (by simp [hjn])
                    have := hr.cell _ _ hcell
                    simp only [World.cell?, ho, Option.isSome_none, Bool.false_eq_true, if_false]
                    rw [Nat.add_assoc, this]
                    rfl
                  have hsize : E.β b + off + n ≤ arr.size := by
                    have := hcells (n - 1) (by omega)
                    simp only [World.cell?, ho, Option.isSome_none, Bool.false_eq_true, if_false] at this
                    have := (Array.getElem?_eq_some_iff.1 this).1
                    omega
                  have hlb := loadBytes_run (P := P) (w := w) (E.ρ b) ns (E.β b + off) .empty hcells
                  have hba : (⟨ByteArray.empty.data ++ (ns.map fun c => UInt8.ofNat c).toArray⟩ : ByteArray) = ba ns.length s := by
                    unfold ba; rw [hbb]; apply ByteArray.ext; simp
                  rw [hba] at hlb
                  have hco := cellsOf_sz hsz
                  have hva : (variablesAt ⟨E.ρ b, E.β b + off, none⟩ ty n).run P w = .ok true w := by
                    have hsh : w.shape? (E.ρ b) = some (ty, arr.size) := by simp [World.shape?, ho]
                    simp [variablesAt, run_shape, hsh, hco, lies_bytes hco arr.size (E.β b + off) n hsize]
                  subst hnl
                  have hrun := us_some (w := w) (rty := o.type) hat hu ⟨E.ρ b, E.β b + off, none⟩ ik h0 hnb hva hlb
                  have hfw : w.freeze ⟨E.ρ b, E.β b + off, none⟩ ns.length = { w with heap := w.heap.setIfInBounds (E.ρ b) (.cells arr ty (if fr.1 == fr.2 then (E.β b + off, E.β b + off + ns.length) else (min fr.1 (E.β b + off), max fr.2 (E.β b + off + ns.length)))) } := by
                    unfold World.freeze
                    rw [if_neg h0, modify_eq _ ho]
                  rw [hfw] at hrun
                  generalize hnf : (if fr.1 == fr.2 then (E.β b + off, E.β b + off + ns.length) else (min fr.1 (E.β b + off), max fr.2 (E.β b + off + ns.length))) = nf at hrun
                  refine ⟨E, { w with heap := w.heap.setIfInBounds (E.ρ b) (.cells arr ty nf) }, c, ?_, h.rel.write b _ _ hM (.cells arr ty nf) ?_ { w with heap := w.heap.setIfInBounds (E.ρ b) (.cells arr ty nf) } rfl rfl rfl rfl ?_, trivial, .refl _ _⟩
                  · rw [hv]; exact hrun
                  · exact (h.rel.has _ _ (look_some_M hM)).2.1
                  · subst hnf
                    have hhi : (if fr.1 == fr.2 then (E.β b + off, E.β b + off + ns.length) else (min fr.1 (E.β b + off), max fr.2 (E.β b + off + ns.length))).2 ≤ E.β b + (if fz ≤ off + ns.length then off + ns.length else fz) := by
                      by_cases hfe : fr.1 = fr.2
                      · rw [if_pos (by simpa using hfe)]
                        simp only
                        split <;> omega
                      · rw [if_neg (by simpa using hfe)]
                        simp only
                        rcases hr.plain rfl with hp | ⟨hp, hp'⟩
                        · exact absurd hp hfe
                        · split <;> omega
                    refine ⟨arr, _, rfl, ⟨hr.cell, hr.size, fun k hk hk' hf => ?_, fun _ => .inr ⟨?_, hhi⟩⟩⟩
                    · have := hf.2
                      omega
                    · split <;> omega
                · cases he'
              · cases he'
            · cases he'
          · rw [decide_eq_false hnb, Bool.and_false] at he'; cases he'
    · cases he'
  · cases he'

end
end Go.Proofs.YtggfpgcnpdlnlaaDoor.Ev

namespace Go.Proofs.YtggfpgcnpdlnlaaDoor.Ev
open Go

section
variable {P : Program} {E : Env} {F : RO} {M : Mem} {c : Nat → Prop} {w : World} {t : T} {a : Act}

theorem run_getObj_other {r : Nat} {o : Obj} (h : w.heap[r]? = some o) (hn : ∀ x y z, o ≠ .cells x y z) : (getObj r).run P w = .ok o w := by
  simp only [getObj, Sem.run, h]

theorem ba_get {n s i : Nat} (h : i < n) : ((ba n s).get! i).toNat = s / 256 ^ i % 256 := by
  have hb := bl_get n s i h
  have : (ba n s).get! i = UInt8.ofNat (s / 256 ^ i % 256) := by
    show (bl n s).toArray[i]! = _
    simp [hb]
  rw [this]
  simp [UInt8.toNat_ofNat']

theorem e_nextS (h : Cx P E F M c w t a) {o : Oper} {y : Operand} (hop : o.op = .next y true) {x : X} (hx : compX y = some x) {k : Kn} {v : V} {M' : Mem} {ct ct' : Nat} (he : doE (.nxs x) k M ct t = .k v M' ct') : EOk P F E M c ct w a o v M' ct' := by
  have he' : e_nxs x k.F M ct t = .k v M' ct' := he
  have e := h.ev hx
  unfold e_nxs at he'
  split at he'
  · rename_i b hv
    rw [hv] at e
    unfold nxsIn at he'
    split at he'
    · rename_i n s pos hM
      obtain ⟨_, _, ob, hob, hβ, rfl⟩ := h.rel.has _ _ (look_some_M hM)
      have hgo := run_getObj_other (P := P) hob (by intros; simp)
      have hpt : a.eval y = .pointer (some ⟨E.ρ b, 0, none⟩) := by rw [e.1]; simp [conc, hβ]
      rw [bltN] at he'
      by_cases hp : pos < n
      · rw [decide_eq_true hp, cond_true, fN_eq, bltN] at he'
        by_cases hch : s / 256 ^ pos % 256 < 128
        · rw [decide_eq_true (show Nat.mod (Nat.div s (p256 pos)) 256 < 128 from hch), cond_true, fN_eq, setM_eq] at he'
          injection he' with g1 g2 g3
          subst g1 g2 g3
          have hdec : Utf8.decode (ba n s) pos = (s / 256 ^ pos % 256, 1) := by
            have := ba_get (s := s) hp
            simp only [Utf8.decode, Nat.add_zero, this, if_pos hch]
          have hso := run_setObj (P := P) (o' := .stringIter (ba n s) (pos + 1)) hob (by intros; simp)
          refine ⟨E, _, .value (.tuple #[.bool true, goInt pos, .int .i32 (s / 256 ^ pos % 256 : Nat)]), c, ?_, .inl rfl, h.rel.write b _ (.siter n s (pos + 1)) hM (.stringIter (ba n s) (pos + 1)) trivial { w with heap := w.heap.setIfInBounds (E.ρ b) (.stringIter (ba n s) (pos + 1)) } rfl rfl rfl rfl ⟨hβ, rfl⟩, ⟨trivial, trivial, trivial, trivial⟩, .refl _ _⟩
          simp only [execOp, hop]
          refine val_run ?_
          rw [hpt]
          simp only [Instr.next, Sem.run_bind, hgo, Result.andThen_ok, ba_size, hp, if_true, hdec, hso, Sem.run_pure, Sem.run_ite]
        · rw [decide_eq_false (show ¬ Nat.mod (Nat.div s (p256 pos)) 256 < 128 from hch)] at he'; cases he'
      · rw [decide_eq_false hp, cond_false] at he'
        injection he' with g1 g2 g3
        subst g1 g2 g3
        refine ⟨E, w, .value (.tuple #[.bool false]), c, ?_, .inl rfl, .refl h.rel, ⟨trivial, trivial⟩, .refl _ _⟩
        simp only [execOp, hop]
        refine val_run ?_
        rw [hpt]
        simp only [Instr.next, Sem.run_bind, hgo, Result.andThen_ok, ba_size, hp, if_false, Sem.run_pure, Sem.run_ite]
    · cases he'
  · cases he'

theorem e_rangeM (h : Cx P E F M c w t a) {ct : Nat} (hf : Fresh c ct) {o : Oper} {ty kt et : TypeId} {y : Operand} (hop : o.op = .range ty y) (hu : P.underlying ty = some (.map kt et)) {x : X} (hx : compX y = some x) {k : Kn} (hk : k.F = F) {v : V} {M' : Mem} {ct' : Nat} (he : doE (.rgm x) k M ct t = .k v M' ct') : EOk P F E M c ct w a o v M' ct' := by
  have he' : e_rgm x k.F M ct t = .k v M' ct' := he
  rw [hk] at he'
  have e := h.ev hx
  unfold e_rgm at he'
  split at he'
  · rename_i hv
    rw [fN_eq, setM_eq] at he'
    injection he' with g1 g2 g3
    subst g1 g2 g3
    rw [hv] at e
    obtain ⟨E', hS, hE, hρ, hβ, _⟩ := h.rel.alloc (.miter none 0 [] 0) (.mapIter none 0 #[] 0) ct 0 (fun b => c b ∨ b = ct) (hf ct (Nat.le_refl _)) (.inr rfl) (fun _ h => .inl h) (fun b hb => by cases hb) { w with heap := w.heap.push (.mapIter none 0 #[] 0) } rfl rfl rfl rfl (fun E' _ _ hβ _ => ⟨hβ, rfl⟩)
    refine ⟨E', _, .value (conc E' (.p ct 0)), _, ?_, .inl rfl, hS, .inr rfl, grow_one c ct⟩
    simp only [execOp, hop]
    refine val_run ?_
    rw [e.1]
    simp [Instr.range, run_und hu, conc, hρ, hβ]
  · rename_i b hv
    obtain ⟨es, clock, hM, hg⟩ := asMap_rc he'
    rw [fN_eq, setM_eq] at hg
    injection hg with g1 g2 g3
    subst g1 g2 g3
    rw [hv] at e
    obtain ⟨ho, hbd⟩ := h.map hM
    obtain ⟨E', hS, hE, hρ, hβ, _⟩ := h.rel.alloc (.miter (some b) clock [] clock) (.mapIter (some (E.ρ b)) clock #[] clock) ct 0 (fun b => c b ∨ b = ct) (hf ct (Nat.le_refl _)) (.inr rfl) (fun _ h => .inl h) (fun b' hb' => by cases hb'; exact .inl e.2) { w with heap := w.heap.push (.mapIter (some (E.ρ b)) clock #[] clock) } rfl rfl rfl rfl (fun E' he _ hβ _ => ⟨hβ, by simp [he.ρ b e.2]⟩)
    refine ⟨E', _, .value (conc E' (.p ct 0)), _, ?_, .inl rfl, hS, .inr rfl, grow_one c ct⟩
    simp only [execOp, hop]
    refine val_run ?_
    rw [e.1]
    simp [Instr.range, run_und hu, conc, hρ, hβ, run_getObj_map ho]
  · cases he'

theorem memN_eq (k : Nat) : ∀ l : List Nat, memN k l = l.contains k
  | [] => rfl
  | h :: r => by
    have : memN k (h :: r) = (bif Nat.beq h k then true else memN k r) := rfl
    rw [this, beqN, memN_eq k r, List.contains_cons]
    by_cases e : h = k
    · subst e; simp
    · rw [decide_eq_false e, cond_false, show (k == h) = false by simp; exact fun e' => e e'.symm]; rfl

theorem leftE_eq (seen : List Nat) : ∀ es, leftE seen es = es.filter fun e => !seen.contains e.2.2
  | [] => rfl
  | h :: r => by
    have : leftE seen (h :: r) = (bif memN h.2.2 seen then leftE seen r else h :: leftE seen r) := rfl
    rw [this, memN_eq, leftE_eq seen r, List.filter_cons]
    cases seen.contains h.2.2 <;> rfl

theorem allOld_iff (since : Nat) : ∀ es : List (V × V × Nat), allOld since es = true → ∀ e ∈ es, e.2.2 < since
  | [], _, e, he => by cases he
  | h :: r, ha, e, he => by
    have h' : (Nat.blt h.2.2 since && allOld since r) = true := by rw [← ha]; rfl
    rw [bltN, Bool.and_eq_true] at h'
    cases he with
    | head => exact of_decide_eq_true h'.1
    | tail _ hm => exact allOld_iff since r h'.2 e hm

theorem nextM_run {ty r m : Nat} {esr left : List MapEntry} {clock since st : Nat} {seen : List Nat} (hr : w.heap[r]? = some (.mapIter (some m) since seen.toArray st)) (hm : w.heap[m]? = some (.map esr.toArray clock))
    (hold : ∀ e ∈ esr, e.born < since) (hst : since ≤ st) (hl : esr.filter (fun e => !seen.contains e.born) = left) :
    (left = [] → (Instr.next (.pointer (some ⟨r, 0, none⟩)) false ty).run P w = .ok (.tuple #[.bool false]) w) ∧
    (∀ e, left = [e] → (Instr.next (.pointer (some ⟨r, 0, none⟩)) false ty).run P w = .ok (.tuple #[.bool true, e.key, e.val]) { w with heap := w.heap.setIfInBounds r (.mapIter (some m) since (seen.toArray.push e.born) clock) }) := by
  have hgo := run_getObj_other (P := P) hr (by intros; simp)
  have hgm := run_getObj_map (P := P) hm
  have hc : (!seen.toArray.isEmpty && !esr.toArray.isEmpty && esr.toArray.all (fun e => decide (e.born ≥ st))) = false := by
    cases esr with
    | nil => simp
    | cons h0 r0 =>
      have := hold h0 (by simp)
      simp
      intro _ h1; omega
  have hleft : esr.toArray.filter (fun e => !seen.toArray.contains e.born) = left.toArray := by
    rw [List.filter_toArray', ← hl]
    · simp
    · simp
  have hlold : ∀ e ∈ left, e.born < since := by
    intro e he
    rw [← hl] at he
    exact hold e (List.mem_filter.1 he).1
  have h1 : left.toArray.filter (fun e => decide (e.born < since)) = left.toArray := by
    rw [List.filter_toArray' (by simp)]
    congr 1
    exact List.filter_eq_self.2 fun e he => by simpa using hlold e he
  have h2 : left.toArray.filter (fun e => decide (e.born ≥ since)) = #[] := by
    rw [List.filter_toArray' (by simp)]
    rw [List.filter_eq_nil_iff.2]
    intro e he; have := hlold e he; simp; omega
  constructor
  · intro e0
    subst e0
    simp only [Instr.next, Sem.run_bind, hgo, hgm, Result.andThen_ok, hc, Bool.false_eq_true, if_false, Sem.run_ite, Sem.run_pure, hleft, h1, h2]
    simp [Question.forced]
  · intro e e0
    subst e0
    have hso := run_setObj (P := P) (o' := .mapIter (some m) since (seen.toArray.push e.born) clock) hr (by intros; simp)
    simp only [Instr.next, Sem.run_bind, hgo, hgm, Result.andThen_ok, hc, Bool.false_eq_true, if_false, Sem.run_ite, Sem.run_pure, hleft, h1, h2]
    simp only [List.push_toArray] at hso ⊢
    simp [Question.forced, hso]

theorem e_nextM (h : Cx P E F M c w t a) {o : Oper} {y : Operand} (hop : o.op = .next y false) {x : X} (hx : compX y = some x) {k : Kn} (hk : k.F = F) {v : V} {M' : Mem} {ct ct' : Nat} (he : doE (.nxm x) k M ct t = .k v M' ct') : EOk P F E M c ct w a o v M' ct' := by
  have he' : e_nxm x k.F M ct t = .k v M' ct' := he
  rw [hk] at he'
  have e := h.ev hx
  unfold e_nxm at he'
  split at he'
  · rename_i b hv
    rw [hv] at e
    unfold nxmIn at he'
    split at he'
    · rename_i i1 i2 i3 hM
      injection he' with g1 g2 g3
      subst g1 g2 g3
      obtain ⟨_, _, ob, hob, hβ, rfl⟩ := h.rel.has _ _ (look_some_M hM)
      have hgo := run_getObj_other (P := P) hob (by intros; simp)
      have hpt : a.eval y = .pointer (some ⟨E.ρ b, 0, none⟩) := by rw [e.1]; simp [conc, hβ]
      refine ⟨E, w, .value (.tuple #[.bool false]), c, ?_, .inl rfl, .refl h.rel, ⟨trivial, trivial⟩, .refl _ _⟩
      simp only [execOp, hop]
      refine val_run ?_
      rw [hpt]
      simp [Instr.next, hgo]
    · rename_i m since seen st hM
      obtain ⟨_, hbb, ob, hob, hβ, rfl⟩ := h.rel.has _ _ (look_some_M hM)
      have hgo := run_getObj_other (P := P) hob (by intros; simp)
      have hpt : a.eval y = .pointer (some ⟨E.ρ b, 0, none⟩) := by rw [e.1]; simp [conc, hβ]
      obtain ⟨es, clock, hm, hg⟩ := asMap_rc he'
      obtain ⟨ho, hbd⟩ := h.map hm
      have hgm := run_getObj_map (P := P) ho
      by_cases hal : allOld since es = true
      · by_cases hst : since ≤ st
        · rw [hal, bleN, decide_eq_true hst] at hg
          simp only [Bool.and_self, cond_true] at hg
          have hold := allOld_iff since es hal
          have hold' : ∀ e ∈ es.map (entry E), e.born < since := by
            intro e' he'
            obtain ⟨e0, h0, rfl⟩ := List.mem_map.1 he'
            exact hold e0 h0
          have hl : (es.map (entry E)).filter (fun e => !seen.contains e.born) = (leftE seen es).map (entry E) := by
            rw [leftE_eq, List.filter_map]; rfl
          have key := nextM_run (P := P) (ty := o.type) (r := E.ρ b) (m := E.ρ m) hob ho hold' hst hl
          split at hg
          · rename_i hle
            injection hg with g1 g2 g3
            subst g1 g2 g3
            refine ⟨E, w, .value (.tuple #[.bool false]), c, ?_, .inl rfl, .refl h.rel, ⟨trivial, trivial⟩, .refl _ _⟩
            simp only [execOp, hop]
            refine val_run ?_
            rw [hpt]
            exact key.1 (by rw [hle]; rfl)
          · rename_i k0 v0 born hle
            rw [setM_eq] at hg
            injection hg with g1 g2 g3
            subst g1 g2 g3
            have hin : (k0, v0, born) ∈ es := by
              have : (k0, v0, born) ∈ leftE seen es := by rw [hle]; simp
              rw [leftE_eq] at this
              exact (List.mem_filter.1 this).1
            refine ⟨E, _, .value (.tuple #[.bool true, conc E k0, conc E v0]), c, ?_, .inl rfl, h.rel.write b _ (.miter (some m) since (seen ++ [born]) clock) hM (.mapIter (some (E.ρ m)) since (seen.toArray.push born) clock) hbb { w with heap := w.heap.setIfInBounds (E.ρ b) (.mapIter (some (E.ρ m)) since (seen.toArray.push born) clock) } rfl rfl rfl rfl ⟨hβ, by simp⟩, ⟨trivial, (hbd _ hin).1, (hbd _ hin).2, trivial⟩, .refl _ _⟩
            simp only [execOp, hop]
            refine val_run ?_
            rw [hpt]
            exact key.2 (entry E (k0, v0, born)) (by rw [hle]; rfl)
          · cases hg
        · rw [hal, bleN, decide_eq_false hst] at hg; cases hg
      · rw [Bool.not_eq_true] at hal
        rw [hal] at hg; cases hg
    · cases he'
  · cases he'

end
end Go.Proofs.YtggfpgcnpdlnlaaDoor.Ev

namespace Go.Proofs.YtggfpgcnpdlnlaaDoor.Ev
open Go

section
variable {P : Program} {E : Env} {F : RO} {M : Mem} {c : Nat → Prop} {w : World} {t : T} {a : Act}

def EO.plain : EO → Bool
  | .call _ _ | .cv _ _ => false
  | _ => true

theorem at0 {α : Type} {x : Array α} {y : α} {l : List α} (h : x.toList = y :: l) : x[0]? = some y := by rw [arr_of_list h]; rfl
theorem at1 {α : Type} {x : Array α} {y z : α} {l : List α} (h : x.toList = y :: z :: l) : x[1]? = some z := by rw [arr_of_list h]; rfl
theorem at1n {α : Type} {x : Array α} {y : α} (h : x.toList = [y]) : x[1]? = none := by rw [arr_of_list h]; rfl

/-- EVERY EFFECT BUT A CALL IS SOUND -/
theorem e_all (h : Cx P E F M c w t a) {ct : Nat} (hf : Fresh c ct) {o : Oper} {eo : EO} (hc : compOp P o.op = some (.e eo)) (hp : eo.plain = true) {k : Kn} (hk : k.F = F) {v : V} {M' : Mem} {ct' : Nat} (he : doE eo k M ct t = .k v M' ct') : EOk P F E M c ct w a o v M' ct' := by
  cases hop : o.op with
  | store ty y z => exact e_store h hop hc hk he
  | mapUpdate ty m y z => exact e_mapUpdate h (.inl hop) hc hk he
  | insert ty m y z => exact e_mapUpdate h (.inr hop) hc hk he
  | next y b =>
    rw [hop] at hc
    cases b with
    | true =>
      obtain ⟨x, hx, e⟩ := Option.map_eq_some_iff.1 hc
      obtain rfl : EO.nxs x = eo := by simpa using e
      exact e_nextS h hop hx he
    | false =>
      obtain ⟨x, hx, e⟩ := Option.map_eq_some_iff.1 hc
      obtain rfl : EO.nxm x = eo := by simpa using e
      exact e_nextM h hop hx hk he
  | range ty y =>
    rw [hop] at hc
    simp only [compOp] at hc
    split at hc
    · cases hc
    · rename_i kt et x hu hx
      obtain rfl : EO.rgm x = eo := by simpa using hc
      exact e_rangeM h hf hop hu hx hk he
    · cases hc
  | convert s d y =>
    rw [hop] at hc
    simp only [compOp] at hc
    split at hc
    · cases hc
    · cases hc
    · split at hc <;> cases hc
    · split at hc <;> cases hc
    · rename_i e0 el x h1 h2 hx
      split at hc
      · rename_i hcond
        obtain rfl : EO.ms x = eo := by simpa using hc
        rw [Bool.and_eq_true] at hcond
        have hsd : s = d := by simpa using hcond.1
        subst hsd
        have hel : P.underlying el = some (.int .u8) := by
          have := hcond.2
          unfold isU8 at this
          split at this
          · assumption
          · cases this
        exact e_mark h hop h2 hel hx he
      · cases hc
    · split at hc <;> cases hc
    · split at hc <;> cases hc
    · cases hc
  | call cl =>
    rw [hop] at hc
    simp only [compOp] at hc
    split at hc
    · rename_i b' hcal
      unfold compBuiltin at hc
      split at hc
      · split at hc <;> first | cases hc | (split at hc <;> cases hc)
      · split at hc <;> cases hc
      · rename_i y z ty t2 ts hargs htys
        split at hc
        · rename_i el x1 x2 hu h1 h2
          split at hc
          · rename_i sz by_ d hsz hby hd
            split at hc
            · cases hc
            · rename_i hnd
              split at hc
              · cases hc
              · rename_i hcond
                obtain rfl : EO.app el sz by_ x1 x2 = eo := by simpa using hc
                rw [Bool.not_eq_true, Bool.or_eq_false_iff] at hcond
                have hpos : sz ≠ 0 := by simpa using hcond.1
                have hzo : zOk P el sz = true := by simpa using hcond.2
                exact e_append h hf hop hcal hargs (at0 htys) (.inl ⟨t2, d, at1 htys, hd, fun k e => hnd k e⟩) hu hsz hby hpos hzo h1 h2 hk he
          · cases hc
        · cases hc
      · rename_i y z ty hargs htys
        split at hc
        · rename_i el x1 x2 hu h1 h2
          split at hc
          · rename_i sz by_ hsz hby
            split at hc
            · cases hc
            · rename_i hcond
              obtain rfl : EO.app el sz by_ x1 x2 = eo := by simpa using hc
              rw [Bool.not_eq_true, Bool.or_eq_false_iff] at hcond
              have hpos : sz ≠ 0 := by simpa using hcond.1
              have hzo : zOk P el sz = true := by simpa using hcond.2
              exact e_append h hf hop hcal hargs (at0 htys) (.inr (at1n htys)) hu hsz hby hpos hzo h1 h2 hk he
          · cases hc
        · cases hc
      · rename_i y z ty ts hargs htys
        split at hc
        · rename_i el x1 x2 hu h1 h2
          split at hc
          · rename_i sz hsz
            split at hc
            · cases hc
            · obtain rfl : EO.cpy sz x1 x2 = eo := by simpa using hc
              exact e_copy h hop hcal hargs (at0 htys) hu hsz h1 h2 hk he
          · cases hc
        · cases hc
      · split at hc <;> cases hc
      · split at hc <;> cases hc
      · rename_i m y ty ts hargs htys
        split at hc
        · rename_i kt et xm xk hu h1 h2
          obtain ⟨sh, hks, e⟩ := Option.map_eq_some_iff.1 hc
          obtain rfl : EO.del sh xm xk = eo := by simpa using e
          exact e_delete h hop hcal hargs htys hu hks h1 h2 he
        · cases hc
      · rename_i y z ty ts hargs htys
        split at hc
        · rename_i el x1 x2 hu h1 h2
          split at hc
          · rename_i hcond
            obtain rfl : EO.us el x1 x2 = eo := by simpa using hc
            rw [Bool.and_eq_true] at hcond
            exact e_unsafeString h hop hcal hargs (at0 htys) hu (by simpa using hcond.2) h1 h2 hk he
          · cases hc
        · cases hc
      · obtain ⟨z, _, e⟩ := Option.bind_eq_some_iff.1 hc; cases e
      · cases hc
    · rename_i f hcal
      split at hc
      · rename_i fn hf0
        split at hc
        · unfold compExtern at hc
          split at hc
          · cases hc
          · split at hc
            · split at hc
              · split at hc <;> cases hc
              · split at hc
                · split at hc <;> cases hc
                · cases hc
            · split at hc
              · obtain ⟨z, _, e⟩ := Option.bind_eq_some_iff.1 hc; cases e
              · split at hc
                · split at hc
                  · split at hc
                    · split at hc <;> cases hc
                    · cases hc
                  · cases hc
                · cases hc
            · cases hc
        · obtain ⟨z, _, e⟩ := Option.map_eq_some_iff.1 hc
          obtain rfl : EO.call f z = eo := by simpa using e
          cases hp
      · cases hc
    · split at hc
      · rename_i x xs h1 h2
        obtain rfl : EO.cv x xs = eo := by simpa using hc
        cases hp
      · cases hc
    · cases hc
  | alloc ty => rw [hop] at hc; obtain ⟨z, _, e⟩ := Option.map_eq_some_iff.1 hc; cases e
  | box ty y => rw [hop] at hc; simp only [compOp] at hc; split at hc <;> cases hc
  | buildSlice ty n ps =>
    rw [hop] at hc; simp only [compOp] at hc
    split at hc
    · split at hc
      · split at hc
        · cases hc
        · obtain ⟨z, _, e⟩ := Option.map_eq_some_iff.1 hc; cases e
      · cases hc
    · cases hc
  | makeMap ty r =>
    cases r with
    | none => rw [hop] at hc; cases hc
    | some z => rw [hop] at hc; cases hc
  | makeSlice ty l k' =>
    rw [hop] at hc; simp only [compOp] at hc
    split at hc
    · split at hc
      · split at hc <;> cases hc
      · cases hc
    · cases hc
  | move y => rw [hop] at hc; obtain ⟨z, _, e⟩ := Option.bind_eq_some_iff.1 hc; cases e
  | assign y => rw [hop] at hc; obtain ⟨z, _, e⟩ := Option.bind_eq_some_iff.1 hc; cases e
  | pick p y z => rw [hop] at hc; simp only [compOp] at hc; split at hc <;> cases hc
  | build ty ps =>
    rw [hop] at hc; simp only [compOp] at hc
    split at hc
    · split at hc
      · obtain ⟨z, _, e⟩ := Option.bind_eq_some_iff.1 hc; cases e
      · cases hc
    · split at hc
      · obtain ⟨z, _, e⟩ := Option.bind_eq_some_iff.1 hc; cases e
      · cases hc
    · cases hc
  | load ty y => rw [hop] at hc; simp only [compOp] at hc; split at hc <;> cases hc
  | nilCheck y => rw [hop] at hc; obtain ⟨z, _, e⟩ := Option.bind_eq_some_iff.1 hc; cases e
  | binOp op ty y z ty' =>
    rw [hop] at hc; simp only [compOp] at hc
    split at hc
    · cases hc
    · cases hc
    · split at hc
      · obtain ⟨z, _, e⟩ := Option.bind_eq_some_iff.1 hc; cases e
      · obtain ⟨z, _, e⟩ := Option.bind_eq_some_iff.1 hc; cases e
      · cases hc
    · cases hc
  | unOp op ty y => rw [hop] at hc; obtain ⟨z, _, e⟩ := Option.bind_eq_some_iff.1 hc; cases e
  | makeInterface ty y => rw [hop] at hc; simp only [compOp] at hc; split at hc <;> cases hc
  | makeFunc fn l1 l2 =>
    cases fn with
    | func f => rw [hop] at hc; simp only [compOp] at hc; split at hc <;> cases hc
    | _ => rw [hop] at hc; cases hc
  | slice ty y lo hi mx =>
    rw [hop] at hc; simp only [compOp] at hc
    split at hc
    · split at hc
      · split at hc <;> cases hc
      · obtain ⟨z, _, e⟩ := Option.bind_eq_some_iff.1 hc; split at e <;> cases e
      · obtain ⟨z, _, e⟩ := Option.bind_eq_some_iff.1 hc; split at e <;> cases e
      · split at hc
        · obtain ⟨z, _, e⟩ := Option.bind_eq_some_iff.1 hc; split at e <;> cases e
        · cases hc
      · cases hc
    · cases hc
  | fieldAddr ty y f =>
    rw [hop] at hc; simp only [compOp] at hc
    split at hc
    · split at hc
      · split at hc <;> cases hc
      · cases hc
    · cases hc
  | field ty y f =>
    rw [hop] at hc; simp only [compOp] at hc
    split at hc
    · split at hc
      · split at hc <;> cases hc
      · cases hc
    · cases hc
  | indexAddr ty y i =>
    rw [hop] at hc; simp only [compOp] at hc
    split at hc
    · obtain ⟨z, _, e⟩ := Option.bind_eq_some_iff.1 hc; cases e
    · obtain ⟨z, _, e⟩ := Option.bind_eq_some_iff.1 hc; cases e
    · cases hc
  | index ty y i =>
    rw [hop] at hc; simp only [compOp] at hc
    split at hc
    · split at hc <;> cases hc
    · cases hc
    · cases hc
  | lookup ty y i ok =>
    rw [hop] at hc; simp only [compOp] at hc
    split at hc
    · split at hc <;> cases hc
    · cases hc
  | typeAssert y ty ty' ok => rw [hop] at hc; simp only [compOp] at hc; split at hc <;> cases hc
  | extract y i => rw [hop] at hc; obtain ⟨z, _, e⟩ := Option.bind_eq_some_iff.1 hc; cases e
  | _ => rw [hop] at hc; cases hc

end
end Go.Proofs.YtggfpgcnpdlnlaaDoor.Ev

namespace Go.Proofs.YtggfpgcnpdlnlaaDoor.Ev
open Go

def fence (E : Env) (rd : Option Nat) : Fence := { fn := fun _ => True, depth := none, alive := false, round := rd.map E.ρ }

structure SR (P : Program) (F : RO) (rd : Option Nat) (nt : Nat) (E : Env) (c : Nat → Prop) (w : World) (a : Act) (t : T) (d : List Nat) (M : Mem) (ct : Nat) : Prop where
  cx : Cx P E F M c w t a
  fr : Fresh c ct
  df : a.defers = d.map fun b => { target := .collected (E.ρ b), args := #[] }
  dc : ∀ b ∈ d, c b
  sz : nt ≤ a.tmps.size
  rd : ∀ l, rd = some l → c l

/-- what a piece of code has come to -/
def Res (P : Program) (F : RO) (rd : Option Nat) (nt : Nat) (E : Env) (c : Nat → Prop) (w : World) (M : Mem) (ct : Nat) (t' : T) (d' : List Nat) (M' : Mem) (ct' : Nat) (a' : Act) (w' : World) : Prop :=
  ∃ E' c', Stp P F E M c w E' M' c' w' ∧ Grow c ct c' ct' ∧ SR P F rd nt E' c' w' a' t' d' M' ct'

section
variable {P : Program} {E E' : Env} {F : RO} {M M' : Mem} {c c' : Nat → Prop} {ct ct' nt : Nat} {w w' : World} {t : T} {d : List Nat} {a : Act} {rd : Option Nat}

theorem setT_none (t : T) (v : V) : setT t none v = t := rfl
theorem setT_some (t : T) (p : Pos) (v : V) : setT t (some p) v = t.setP p v := rfl
theorem getT_of {p : Pos} {v : V} (h : t.getP p = some v) : getT t p = v := by unfold getT; rw [h]
theorem getT_none {p : Pos} (h : t.getP p = none) : getT t p = undef := by unfold getT; rw [h]

theorem getT_setP (t : T) (k j : Nat) (v : V) : getT (t.setP (posOf k) v) (posOf j) = if j = k then v else getT t (posOf j) := by
  have := getP_setP_posOf t k j v
  by_cases h : j = k
  · rw [if_pos h] at this ⊢; exact getT_of this
  · rw [if_neg h] at this ⊢; unfold getT; rw [this]

theorem getT_setP' (t : T) (p q : Pos) (v : V) : getT (t.setP p v) q = v ∨ getT (t.setP p v) q = getT t q := by
  by_cases h : q = p
  · subst h; exact .inl (getT_of (Tr.getP_setP_same q v t))
  · right; unfold getT; rw [Tr.getP_setP_ne p v q t h]

theorem bdT_put {dst : Option Pos} {v : V} (h : bdT c t) (hv : bd c v) : bdT c (setT t dst v) := by
  cases dst with
  | none => exact h
  | some p =>
    intro q
    rw [setT_some]
    rcases getT_setP' t p q v with e | e
    · rw [e]; exact hv
    · rw [e]; exact h q

theorem TRel_put {dst : Option Nat} {v : V} {val : Value} (h : TRel E t a.tmps) (hd : ∀ k, dst = some k → k < a.tmps.size) (hv : val = conc E v) : TRel E (setT t (dst.map posOf) v) (a.put dst val).tmps := by
  cases dst with
  | none => exact h
  | some k =>
    intro n
    have hk := hd k rfl
    rw [Option.map_some, setT_some, getT_setP]
    show (a.tmps.setIfInBounds k val).getD n Go.undef = _
    by_cases e : n = k
    · subst e
      rw [if_pos rfl, hv]
      simp [Array.getD_eq_getD_getElem?, hk]
    · rw [if_neg e, ← h n]
      simp [Array.getD_eq_getD_getElem?, Array.getElem?_setIfInBounds_ne (Ne.symm e)]

theorem Act.put_defers (a : Act) (dst : Option Tmp) (v : Value) : (a.put dst v).defers = a.defers := by cases dst <;> rfl
theorem Act.put_size (a : Act) (dst : Option Tmp) (v : Value) : (a.put dst v).tmps.size = a.tmps.size := by cases dst <;> simp [Act.put]

theorem SR.put (h : SR P F rd nt E c w a t d M ct) {dst : Option Nat} (hd : dstOk nt dst = true) {v : V} {val : Value} (hv : val = conc E v) (hb : bd c v) : SR P F rd nt E c w (a.put dst val) (setT t (dst.map posOf) v) d M ct := by
  refine ⟨⟨h.cx.rel, h.cx.glob, h.cx.big, TRel_put h.cx.tr (fun k hk => ?_) hv, bdT_put h.cx.bt hb⟩, h.fr, by rw [Act.put_defers]; exact h.df, h.dc, by rw [Act.put_size]; exact h.sz, h.rd⟩
  subst hk
  have : k < nt := by simpa [dstOk] using hd
  exact Nat.lt_of_lt_of_le this h.sz

theorem SR.stp (h : SR P F rd nt E c w a t d M ct) (hS : Stp P F E M c w E' M' c' w') (hG : Grow c ct c' ct') : SR P F rd nt E' c' w' a t d M' ct' := by
  refine ⟨⟨hS.rel, fun g hg => ?_, fun g hg => hS.le g (h.cx.big g hg), h.cx.tr.ext hS.ext h.cx.bt, fun p => bd_mono hS.le _ (h.cx.bt p)⟩, h.fr.grow hG, ?_, fun b hb => hS.le b (h.dc b hb), h.sz, fun l hl => hS.le l (h.rd l hl)⟩
  · rw [hS.ext.ρ g (h.cx.big g hg), hS.ext.β g (h.cx.big g hg)]; exact h.cx.glob g hg
  · rw [h.df]
    apply List.map_congr_left
    intro b hb
    rw [hS.ext.ρ b (h.dc b hb)]

theorem SR.res (h : SR P F rd nt E c w a t d M ct) : Res P F rd nt E c w M ct t d M ct a w := ⟨E, c, .refl h.cx.rel, .refl _ _, h⟩

theorem fence_ext (h : Ext c E E') (hr : ∀ l, rd = some l → c l) : fence E' rd = fence E rd := by
  cases rd with
  | none => rfl
  | some l => unfold fence; simp only [Option.map_some]; rw [h.ρ l (hr l rfl)]

/-- the guard says the same -/
theorem guard_ok (h : TRel E t a.tmps) {ops : Array Oper} {o : Oper} {g : Option (Pos × Bool)} (hg : (match o.guard with
    | none => some none
    | some (j, want) => match (ops[j]?).bind (·.dst) with
      | some d => some (some (posOf d, want))
      | none => none) = some g) : Region.wanted o (yielded ops a.tmps) = wanted t g := by
  unfold Region.wanted
  cases ho : o.guard with
  | none => rw [ho] at hg; obtain rfl := Option.some.inj hg; rfl
  | some jw =>
    obtain ⟨j, want⟩ := jw
    rw [ho] at hg
    simp only at hg
    cases hd : (ops[j]?).bind (·.dst) with
    | none => rw [hd] at hg; cases hg
    | some dn =>
      rw [hd] at hg
      obtain rfl := Option.some.inj hg
      simp only [yielded, hd, Option.bind_some]
      show _ = wanted1 want (getT t (posOf dn))
      have hn := h dn
      rw [Array.getD_eq_getD_getElem?] at hn
      cases hv : a.tmps[dn]? with
      | none =>
        rw [hv] at hn
        have hn' : conc E (getT t (posOf dn)) = .tuple #[] := hn.symm
        cases hx : getT t (posOf dn) <;> rw [hx] at hn' <;> first | rfl | (simp [conc] at hn')
      | some val =>
        rw [hv] at hn
        have hn' : val = conc E (getT t (posOf dn)) := hn
        cases hx : getT t (posOf dn) with
        | b x =>
          rw [hx] at hn'
          rw [hn']
          show (some x == some want) = Bool.rec (motive := fun _ => Bool) (notB want) want x
          cases x <;> cases want <;> rfl
        | _ => rw [hx] at hn'; rw [hn']; rfl

/-- what calls come to -/
def CallOk (P : Program) (k : Kn) : Prop := ∀ (F : RO) (f : Nat) (args : List V) (M : Mem) (ct : Nat) (v : V) (M' : Mem) (ct' : Nat), callF (knF k F) f args M ct = .k v M' ct' →
  ∀ (E : Env) (c : Nat → Prop) (w : World), Rel P E F M c w → (∀ g, g < 1000 → E.ρ g = g ∧ E.β g = 0) → (∀ g, g < 1000 → c g) → Fresh c ct → bds c args →
    ∃ fn, P.funcs[f]? = some fn ∧ fn.body.isNone = false ∧ (fn.name == "runtime.NumGoroutine") = false ∧
    Calls P f (concs E args).toArray w fun e w' => ∃ E' c', e = .returned (conc E' v) ∧ Stp P F E M c w E' M' c' w' ∧ bd c' v ∧ Grow c ct c' ct'

def YieldOk (P : Program) (k : Kn) : Prop := ∀ (F : RO) (l : Nat) (args : List V) (M : Mem) (ct : Nat) (v : V) (M' : Mem) (ct' : Nat), callY (knF k F) l args M ct (loopOf (M.get l)) = .k v M' ct' →
  ∀ (E : Env) (c : Nat → Prop) (w : World) (rd : Option Nat), Rel P E F M c w → (∀ g, g < 1000 → E.ρ g = g ∧ E.β g = 0) → (∀ g, g < 1000 → c g) → Fresh c ct → bds c args →
    ∃ fn tmps asg body, (Instr.yield (E.ρ l) (concs E args).toArray).run P w = .ok (.round (E.ρ l) fn tmps asg body) w ∧
    RoundIn (fence E rd) 0 P (E.ρ l) fn tmps asg body w fun e w' => ∃ E' c', e = .returned (conc E' v) ∧ Stp P F E M c w E' M' c' w' ∧ bd c' v ∧ Grow c ct c' ct'

theorem callsIn_any {n : Nat} {f : FuncId} {args : Array Value} {R : Ending → World → Prop} (h : Calls P f args w R) : CallsIn (fence E rd) n P f args w R := callsIn_wide.2 h

theorem compOp_noDefer {o : Op} {op : OK} (h : compOp P o = some op) : ∀ cl, o ≠ .defer cl := by
  intro cl e; subst e; cases h

theorem builtin_plain {b : Builtin} {as : List Operand} {ats : List TypeId} {x : EO} (hc : compBuiltin P b as ats = some (.e x)) : x.plain = true := by
  unfold compBuiltin at hc
  split at hc
  · split at hc <;> first | cases hc | (split at hc <;> cases hc)
  · split at hc <;> cases hc
  · split at hc
    · split at hc
      · split at hc
        · cases hc
        · split at hc
          · cases hc
          · obtain rfl := OK.e.inj (Option.some.inj hc); rfl
      · cases hc
    · cases hc
  · split at hc
    · split at hc
      · split at hc
        · cases hc
        · obtain rfl := OK.e.inj (Option.some.inj hc); rfl
      · cases hc
    · cases hc
  · split at hc
    · split at hc
      · split at hc
        · cases hc
        · obtain rfl := OK.e.inj (Option.some.inj hc); rfl
      · cases hc
    · cases hc
  · split at hc <;> cases hc
  · split at hc <;> cases hc
  · split at hc
    · obtain ⟨z, _, e⟩ := Option.map_eq_some_iff.1 hc
      obtain rfl := OK.e.inj e; rfl
    · cases hc
  · split at hc
    · split at hc
      · obtain rfl := OK.e.inj (Option.some.inj hc); rfl
      · cases hc
    · cases hc
  · obtain ⟨z, _, e⟩ := Option.bind_eq_some_iff.1 hc; cases e
  · cases hc

theorem notcall_plain {o : Op} (hn : ∀ cl, o ≠ .call cl) {x : EO} (hc : compOp P o = some (.e x)) : x.plain = true := by
  cases hx : x.plain with
  | true => rfl
  | false =>
    exfalso
    unfold compOp at hc
    split at hc
    all_goals first
      | exact absurd rfl (hn _)
      | (cases hc; done)
      | (obtain ⟨z, _, e⟩ := Option.bind_eq_some_iff.1 hc; cases e; done)
      | (obtain ⟨z, _, e⟩ := Option.map_eq_some_iff.1 hc; cases e; done)
      | (obtain ⟨z, _, e⟩ := Option.map_eq_some_iff.1 hc; obtain rfl := OK.e.inj e; cases hx; done)
      | skip
    all_goals (repeat' (first | (cases hc; done) | (obtain ⟨z, _, e⟩ := Option.bind_eq_some_iff.1 hc; cases e; done) | (obtain ⟨z, _, e⟩ := Option.bind_eq_some_iff.1 hc; split at e <;> cases e; done) | (obtain ⟨z, _, e⟩ := Option.map_eq_some_iff.1 hc; cases e; done) | (obtain ⟨z, _, e⟩ := Option.map_eq_some_iff.1 hc; obtain rfl := OK.e.inj e; cases hx; done) | (obtain rfl := OK.e.inj (Option.some.inj hc); cases hx; done) | split at hc))

/-- one operation's run, in the walk's words -/
def OpOk (P : Program) (F : RO) (rd : Option Nat) (E : Env) (M : Mem) (c : Nat → Prop) (ct : Nat) (w : World) (a : Act) (o : Oper) (v : V) (M' : Mem) (ct' : Nat) : Prop :=
  ∀ (next : Act → World → Prop) (Q : Exit → Act → World → Prop), (∀ E' c' w', Stp P F E M c w E' M' c' w' → Grow c ct c' ct' → bd c' v → next (a.put o.dst (conc E' v)) w') → o.wpIn (fence E rd) 0 P a w next Q

theorem EOk.op {o : Oper} (hd : ∀ cl, o.op ≠ .defer cl) {v : V} (h : EOk P F E M c ct w a o v M' ct') : OpOk P F rd E M c ct w a o v M' ct' := by
  intro next Q hn
  obtain ⟨E', w', nx, c', hr, hnv, hS, hb, hG⟩ := h
  refine ⟨fun _ _ => trivial, ?_⟩
  rw [Oper.semAt_eq _ _ _ hd, hr]
  rcases hnv with rfl | ⟨rfl, hv⟩
  · exact hn E' c' w' hS hG hb
  · have := hn E' c' w' hS hG hb
    rw [hv] at this
    exact this

theorem q_op (h : Cx P E F M c w t a) {o : Oper} {q : QO} (hc : compOp P o.op = some (.q q)) {x : V} (hx : (qop q F M t).val = some x) : OpOk P F rd E M c ct w a o x M ct := by
  intro next Q hn
  obtain ⟨hr, hb⟩ := q_all h hc hx
  refine ⟨fun _ _ => trivial, ?_⟩
  rw [Oper.semAt_eq _ _ _ (compOp_noDefer hc), hr]
  exact hn E c w (.refl h.rel) (.refl _ _) hb

theorem a_op (h : Cx P E F M c w t a) (hf : Fresh c ct) {o : Oper} {ao : AO} (hc : compOp P o.op = some (.a ao)) {v : V} {blk : Blk} (ha : aop ao ct t = some (v, blk)) : OpOk P F rd E M c ct w a o v (M.set ct blk) (ct + 1) := by
  intro next Q hn
  obtain ⟨E', w', hr, hS, _, hb⟩ := a_all h hc (hf ct (Nat.le_refl _)) (c' := fun b => c b ∨ b = ct) (.inr rfl) (fun _ h => .inl h) ha
  refine ⟨fun _ _ => trivial, ?_⟩
  rw [Oper.semAt_eq _ _ _ (compOp_noDefer hc), hr]
  exact hn E' _ w' hS (grow_one c ct) hb

theorem knF_F (k : Kn) (F : RO) : (knF k F).F = F := by cases k; rfl
theorem knF_self (k : Kn) : knF k k.F = k := by cases k; rfl

theorem e_op {k : Kn} (hcall : CallOk P k) (hy : YieldOk P k) (h : Cx P E F M c w t a) (hf : Fresh c ct) {o : Oper} {eo : EO} (hc : compOp P o.op = some (.e eo)) {v : V} (he : doE eo (knF k F) M ct t = .k v M' ct') : OpOk P F rd E M c ct w a o v M' ct' := by
  cases hp : eo.plain with
  | true => exact EOk.op (compOp_noDefer hc) (e_all h hf hc hp (knF_F k F) he)
  | false =>
    have hnd := compOp_noDefer hc
    -- a call
    have fin : ∀ (f : Nat) (args : List V), (execOp a.eval o).run P w = (callFunc f (concs E args).toArray).run P w → bds c args → callF (knF k F) f args M ct = .k v M' ct' → OpOk P F rd E M c ct w a o v M' ct' := by
      intro f args hrun hba hcf next Q hn
      obtain ⟨fn, hfn, hbo, hnm, hC⟩ := hcall F f args M ct v M' ct' hcf E c w h.rel h.glob h.big hf hba
      refine ⟨fun _ _ => trivial, ?_⟩
      rw [Oper.semAt_eq _ _ _ hnd, hrun]
      have hcfn : (callFunc f (concs E args).toArray).run P w = .ok (.enter f (concs E args).toArray) w := by
        have h1 : ¬ fn.name = "runtime.NumGoroutine" := by simpa using hnm
        have h2 : ¬ fn.body = none := fun e => by rw [e] at hbo; cases hbo
        simp [callFunc, hfn, h1, h2]
      rw [hcfn, Oper.uponIn_enter]
      refine ⟨fun hd => by simp [fence] at hd, callsIn_any (hC.mono ?_)⟩
      rintro e w' ⟨E', c', rfl, hS, hb, hG⟩
      exact hn E' c' w' hS hG hb
    cases hop : o.op with
    | call cl =>
      rw [hop] at hc
      simp only [compOp] at hc
      split at hc
      · -- a builtin
        rename_i b' hcal
        exfalso
        have hq : ∀ x, compBuiltin P b' cl.args.toList cl.argTypes.toList = some (.e x) → x.plain = true := fun x hx => builtin_plain hx
        rw [hq eo hc] at hp; cases hp
      · rename_i f hcal
        split at hc
        · rename_i fn hf0
          split at hc
          · exfalso
            unfold compExtern at hc
            split at hc
            · cases hc
            · split at hc
              · split at hc
                · split at hc <;> cases hc
                · split at hc
                  · split at hc <;> cases hc
                  · cases hc
              · split at hc
                · obtain ⟨z, _, e⟩ := Option.bind_eq_some_iff.1 hc; cases e
                · split at hc
                  · split at hc
                    · split at hc
                      · split at hc <;> cases hc
                      · cases hc
                    · cases hc
                  · cases hc
              · cases hc
          · obtain ⟨xs, hxs, e⟩ := Option.map_eq_some_iff.1 hc
            obtain rfl : EO.call f xs = eo := by simpa using e
            have ev := h.evs hxs
            have hm : cl.args.map a.eval = (concs E (evs xs t)).toArray := by
              rw [← ev.1]; apply Array.ext'; simp
            refine fin f (evs xs t) ?_ ev.2 he
            simp only [execOp, hop, resolve, hcal, hm, Act.eval, Deferred.ofValue, Sem.run_bind, Sem.run_pure, Result.andThen_ok, invoke, Array.empty_append, Array.append_empty]
        · cases hc
      · rename_i y hny hcal
        split at hc
        · rename_i x xs hx hxs
          obtain rfl : EO.cv x xs = eo := by simpa using hc
          have ev := h.evs hxs
          have e1 := h.ev hx
          have hm : cl.args.map a.eval = (concs E (evs xs t)).toArray := by
            rw [← ev.1]; apply Array.ext'; simp
          have he' : callV (knF k F) (x.ev t) (evs xs t) M ct = .k v M' ct' := he
          cases hv : x.ev t with
          | f f first caps =>
            rw [hv] at he' e1
            have he2 : callF (knF k F) f (first ++ (evs xs t ++ caps)) M ct = .k v M' ct' := he'
            refine fin f _ ?_ (bds_append e1.2.1 (bds_append ev.2 e1.2.2)) he2
            simp only [execOp, hop, resolve, hcal, hm, e1.1, conc, Deferred.ofValue, Sem.run_bind, Sem.run_pure, Result.andThen_ok, invoke]
            congr 2
            rw [concs_append, concs_append]; simp
          | y l =>
            rw [hv] at he' e1
            have he2 : callY (knF k F) l (evs xs t) M ct (loopOf (M.get l)) = .k v M' ct' := he'
            intro next Q hn
            obtain ⟨fn, tmps, asg, body, hyr, hR⟩ := hy F l (evs xs t) M ct v M' ct' he2 E c w rd h.rel h.glob h.big hf ev.2
            refine ⟨fun _ _ => trivial, ?_⟩
            rw [Oper.semAt_eq _ _ _ hnd]
            have hrun : (execOp a.eval o).run P w = .ok (.round (E.ρ l) fn tmps asg body) w := by
              simp only [execOp, hop, resolve, hcal, hm, e1.1, conc, Deferred.ofValue, Sem.run_bind, Sem.run_pure, Result.andThen_ok, invoke, Array.empty_append, hyr]
            rw [hrun, Oper.uponIn_round]
            refine ⟨fun hd => by simp [fence] at hd, hR.mono ?_⟩
            rintro e w' ⟨E', c', rfl, hS, hb, hG⟩
            exact hn E' c' w' hS hG hb
          | _ => rw [hv] at he'; cases (show RC.f = .k v M' ct' from he')
        · cases hc
      · cases hc
    | _ =>
      exfalso
      have := notcall_plain (by rw [hop]; intro cl; simp) hc
      rw [this] at hp; cases hp

end
end Go.Proofs.YtggfpgcnpdlnlaaDoor.Ev

namespace Go.Proofs.YtggfpgcnpdlnlaaDoor.Ev
open Go

section
variable {P : Program} {E E' : Env} {F : RO} {M M' : Mem} {c c' : Nat → Prop} {ct ct' nt : Nat} {w w' : World} {t t' : T} {d d' : List Nat} {a : Act} {rd : Option Nat}

theorem Res.trans {E₁ : Env} {c₁ : Nat → Prop} {w₁ : World} {M₁ : Mem} {ct₁ : Nat} (hS : Stp P F E M c w E₁ M₁ c₁ w₁) (hG : Grow c ct c₁ ct₁) {a' : Act} (h : Res P F rd nt E₁ c₁ w₁ M₁ ct₁ t' d' M' ct' a' w') : Res P F rd nt E c w M ct t' d' M' ct' a' w' := by
  obtain ⟨E', c', hS', hG', hR⟩ := h
  exact ⟨E', c', hS.trans hS', hG.trans hG', hR⟩

theorem putS_eq (dst : Option Pos) (d : List Nat) (M : Mem) (ct : Nat) (t : T) (v : V) : putS dst d M ct t v = some (.mk (setT t dst v) d M ct) := by
  unfold putS; rw [Tr.force_eq]

theorem seqOp_eq (dst : Option Pos) (op : OK) (g : Option (Pos × Bool)) (k : Kn) (t : T) (d : List Nat) (M : Mem) (ct : Nat) :
    seqOp (.mk dst op g) k (.mk t d M ct) = if wanted t g then sop op k dst t d M ct else some (.mk (setT t dst undef) d M ct) := by
  cases g with
  | none => rfl
  | some g =>
    show (Bool.rec (motive := fun _ => Option St) (putS dst d M ct t undef) (sop op k dst t d M ct) (wanted t (some g))) = _
    rw [bb, putS_eq]

theorem seqOps_nil (k : Kn) (s : St) : seqOps [] k s = some s := rfl
theorem seqOps_cons (o : CO) (r : List CO) (k : Kn) (s : St) : seqOps (o :: r) k s = (seqOp o k s).bind fun s => seqOps r k s := by
  show Option.rec (motive := fun _ => Option St) none (fun s => seqOps r k s) (seqOp o k s) = _
  cases seqOp o k s <;> rfl

/-- an operation of a region in order -/
theorem sop_ok {k : Kn} (hcall : CallOk P k) (hy : YieldOk P k) (h : SR P F rd nt E c w a t d M ct) {o : Oper} (hd : dstOk nt o.dst = true) {op : OK} (hc : compOp P o.op = some op) {s' : St} (hs : sop op (knF k F) (o.dst.map posOf) t d M ct = some s') :
    ∃ v M' ct', s' = .mk (setT t (o.dst.map posOf) v) d M' ct' ∧ OpOk P F rd E M c ct w a o v M' ct' := by
  cases op with
  | q q =>
    have hs' : s_q1 (o.dst.map posOf) t d M ct (qop q (knF k F).F M t) = some s' := hs
    rw [knF_F] at hs'
    cases hq : qop q F M t with
    | f => rw [hq] at hs'; cases (show (none : Option St) = some s' from hs')
    | v x =>
      rw [hq] at hs'
      have hs2 : putS (o.dst.map posOf) d M ct t x = some s' := hs'
      rw [putS_eq] at hs2
      exact ⟨x, M, ct, (Option.some.inj hs2).symm, q_op h.cx hc (by rw [hq]; rfl)⟩
    | r x b =>
      rw [hq] at hs'
      have hs2 : putS (o.dst.map posOf) d M ct t x = some s' := hs'
      rw [putS_eq] at hs2
      exact ⟨x, M, ct, (Option.some.inj hs2).symm, q_op h.cx hc (by rw [hq]; rfl)⟩
  | a ao =>
    have hs' : s_a1 (o.dst.map posOf) t d M ct (aop ao ct t) = some s' := hs
    cases ha : aop ao ct t with
    | none => rw [ha] at hs'; cases (show (none : Option St) = some s' from hs')
    | some p =>
      obtain ⟨v, blk⟩ := p
      rw [ha] at hs'
      have hs2 : s_a2 (o.dst.map posOf) t d M ct v blk = some s' := hs'
      unfold s_a2 at hs2
      rw [Tr.force_eq, fN_eq, putS_eq] at hs2
      exact ⟨v, M.set ct blk, ct + 1, (Option.some.inj hs2).symm, a_op h.cx h.fr hc ha⟩
  | e eo =>
    have hs' : s_e1 (o.dst.map posOf) t d (doE eo (knF k F) M ct t) = some s' := hs
    cases he : doE eo (knF k F) M ct t with
    | f => rw [he] at hs'; cases (show (none : Option St) = some s' from hs')
    | k v M' ct' =>
      rw [he] at hs'
      have hs2 : putS (o.dst.map posOf) d M' ct' t v = some s' := hs'
      rw [putS_eq] at hs2
      exact ⟨v, M', ct', (Option.some.inj hs2).symm, e_op hcall hy h.cx h.fr hc he⟩

theorem compO_some {ops : Array Oper} {o : Oper} {co : CO} (h : compO P nt ops o = some co) : dstOk nt o.dst = true ∧ ∃ g op, co = .mk (o.dst.map posOf) op g ∧
    (match o.guard with
    | none => some none
    | some (j, want) => match (ops[j]?).bind (·.dst) with
      | some d => some (some (posOf d, want))
      | none => none) = some g ∧ (compOp P o.op = some op ∨ op = .q .bad) := by
  unfold compO at h
  split at h
  · cases h
  · rename_i hd
    have hd' : dstOk nt o.dst = true := by simpa using hd
    split at h
    · cases h
    · rename_i g hg
      split at h
      · rename_i op hop
        obtain rfl := Option.some.inj h
        exact ⟨hd', g, op, rfl, hg, .inl hop⟩
      · obtain rfl := Option.some.inj h
        exact ⟨hd', g, _, rfl, hg, .inr rfl⟩

theorem seq_ok {k : Kn} (hcall : CallOk P k) (hy : YieldOk P k) {ops : Array Oper} {Q : Exit → Act → World → Prop} : ∀ (l : List Oper) (cos : List CO) (i : Nat) (E : Env) (c : Nat → Prop) (w : World) (a : Act) (t : T) (M : Mem) (ct : Nat), ops.toList.drop i = l → compOs P nt ops l = some cos →
    seqOps cos (knF k F) (.mk t d M ct) = some (.mk t' d' M' ct') → SR P F rd nt E c w a t d M ct → (∀ a' w', Res P F rd nt E c w M ct t' d' M' ct' a' w' → Q .normal a' w') → wpOpsIn (fence E rd) 0 P ops Q (List.range' i l.length) a w
  | [], cos, i, E, c, w, a, t, M, ct, hl, hc, hs, h, hQ => by
    obtain rfl := Option.some.inj hc
    have hs' : some (St.mk t d M ct) = some (.mk t' d' M' ct') := hs
    injection hs' with hs'
    injection hs' with e1 e2 e3 e4
    subst e1 e2 e3 e4
    exact hQ a w h.res
  | o :: l, cos, i, E, c, w, a, t, M, ct, hl, hc, hs, h, hQ => by
    rw [compOs] at hc
    split at hc
    · rename_i co cr h1 h2
      obtain rfl := Option.some.inj hc
      have hi : ops[i]? = some o := by
        have : (ops.toList.drop i)[0]? = some o := by rw [hl]; rfl
        simpa using this
      have hl' : ops.toList.drop (i + 1) = l := by
        rw [← List.drop_drop, hl]; rfl
      obtain ⟨hd, g, op, rfl, hg, hop⟩ := compO_some h1
      rw [seqOps_cons, seqOp_eq] at hs
      rw [List.length_cons, List.range'_succ]
      simp only [wpOpsIn, hi]
      rw [guard_ok h.cx.tr hg]
      by_cases hw : wanted t g = true
      · rw [if_pos hw] at hs
        rw [if_pos hw]
        obtain ⟨s1, hs1, hs2⟩ := Option.bind_eq_some_iff.1 hs
        rcases hop with hop | rfl
        · obtain ⟨v, M1, ct1, rfl, hO⟩ := sop_ok hcall hy h hd hop hs1
          refine hO _ _ fun E1 c1 w1 hS hG hb => ?_
          have h1 := (h.stp hS hG).put hd rfl hb
          rw [← fence_ext hS.ext h.rd]
          exact seq_ok hcall hy l cr (i + 1) E1 c1 w1 _ _ M1 ct1 hl' h2 hs2 h1 fun a' w' hr => hQ a' w' (hr.trans hS hG)
        · cases (show (none : Option St) = some s1 from hs1)
      · rw [if_neg hw] at hs
        rw [if_neg hw]
        refine ⟨fun _ _ => trivial, ?_⟩
        have h1 := h.put hd (v := undef) (val := Go.undef) rfl trivial
        exact seq_ok hcall hy l cr (i + 1) E c w _ _ M ct hl' h2 hs h1 hQ
    · cases hc

end
end Go.Proofs.YtggfpgcnpdlnlaaDoor.Ev

namespace Go.Proofs.YtggfpgcnpdlnlaaDoor.Ev
open Go

def exOf : Ex → Exit
  | .nrm => .normal
  | .ret => .ret
  | .ext id => .exit id
  | .gto l => .goto l

/-- what code comes to -/
def ExOk (P : Program) (ex : ExF) : Prop := ∀ (rd : Option Nat) (fn : Nat) (F : RO) (cc : CC) (t : T) (d : List Nat) (M : Mem) (ct : Nat) (e : Ex) (t' : T) (d' : List Nat) (M' : Mem) (ct' : Nat),
  ex rd fn F cc (.mk t d M ct) = .k e (.mk t' d' M' ct') → ∀ (nt : Nat) (code : Code), Sim P nt code cc → ∀ (E : Env) (c : Nat → Prop) (w : World) (a : Act), SR P F rd nt E c w a t d M ct →
    ∀ Q : Exit → Act → World → Prop, (∀ a' w', Res P F rd nt E c w M ct t' d' M' ct' a' w' → Q (exOf e) a' w') → code.wpIn (fence E rd) 0 P Q a w

/-- what loops come to -/
def LpOk (P : Program) (ex : ExF) (m : Nat) : Prop := ∀ (rd : Option Nat) (fn : Nat) (F : RO) (b : CC) (t : T) (d : List Nat) (M : Mem) (ct : Nat) (e : Ex) (t' : T) (d' : List Nat) (M' : Mem) (ct' : Nat),
  ex rd fn F (.loop b) (.mk t d M ct) = .k e (.mk t' d' M' ct') → ∀ (nt : Nat) (code : Code), Sim P nt code b → ∀ (E : Env) (c : Nat → Prop) (w : World) (a : Act), SR P F rd nt E c w a t d M ct →
    ∀ Q : Exit → Act → World → Prop, (∀ a' w', Res P F rd nt E c w M ct t' d' M' ct' a' w' → Q (exOf e) a' w') → Code.roundsIn (fence E rd) 0 P code Q m a w

/-- the code table is the program's -/
def PhiOk (P : Program) (Φ : Nat → Option CF) : Prop := ∀ f cf, Φ f = some cf → ∃ fn, P.funcs[f]? = some fn ∧ comp P fn = some cf

section
variable {P : Program} {E E' : Env} {F : RO} {M M' : Mem} {c c' : Nat → Prop} {ct ct' nt : Nat} {w w' : World} {t t' : T} {d d' : List Nat} {a : Act} {rd : Option Nat}

theorem argTr_rel (E : Env) (args : List V) (n : Nat) : TRel E (argTr args) ((concs E args).toArray ++ Array.replicate n Go.undef) := by
  intro k
  have hg : (argTr args).getP (posOf k) = args[k]? := by
    rw [getP_posOf]
    show (listTr args 0 .e).get k = _
    rw [listTr_get]
    by_cases h : k < args.length
    · rw [if_pos (by omega)]; rfl
    · rw [if_neg (by omega), List.getElem?_eq_none (by omega)]; rfl
  rw [Array.getD_eq_getD_getElem?]
  by_cases h : k < args.length
  · have hv : args[k]? = some args[k] := List.getElem?_eq_getElem h
    rw [getT_of (hg.trans hv)]
    rw [Array.getElem?_append_left (by simpa [concs_map] using h)]
    simp [concs_map, h]
  · have hv : args[k]? = none := List.getElem?_eq_none (by omega)
    rw [getT_none (hg.trans hv)]
    rw [Array.getElem?_append_right (by simp [concs_map]; omega)]
    by_cases h2 : k - (concs E args).toArray.size < n
    · rw [Array.getElem?_replicate, if_pos h2]; rfl
    · rw [Array.getElem?_replicate, if_neg h2]; rfl

theorem pos_eq {p q : Pos} (h : ∀ t : Tr Unit, t.getP p = t.getP q) : p = q := by
  by_cases e : q = p
  · exact e.symm
  · have := h (Tr.e.setP p ())
    rw [Tr.getP_setP_same, Tr.getP_setP_ne p () q _ e, Tr.getP_e] at this
    cases this

theorem posOf_odd (k : Nat) : posOf (2 * k + 1) = .l (posOf k) := pos_eq fun t => by
  rw [getP_posOf]
  cases t with
  | e => rw [Tr.getP_e]; rfl
  | n l v r => rw [Tr.getP_l, getP_posOf, Tr.get_n, if_neg (by omega), if_neg (by omega), show (2 * k + 1) / 2 = k by omega]
theorem posOf_even (k : Nat) : posOf (2 * k + 2) = .r (posOf k) := pos_eq fun t => by
  rw [getP_posOf]
  cases t with
  | e => rw [Tr.getP_e]; rfl
  | n l v r => rw [Tr.getP_r, getP_posOf, Tr.get_n, if_neg (by omega), if_pos (by omega), show (2 * k + 2) / 2 - 1 = k by omega]
theorem posOf_surj : ∀ p : Pos, ∃ k, posOf k = p
  | .h => ⟨0, rfl⟩
  | .l p => let ⟨k, hk⟩ := posOf_surj p; ⟨2 * k + 1, by rw [posOf_odd, hk]⟩
  | .r p => let ⟨k, hk⟩ := posOf_surj p; ⟨2 * k + 2, by rw [posOf_even, hk]⟩

theorem argTr_bd {args : List V} (h : bds c args) : bdT c (argTr args) := by
  intro p
  have key : ∀ (vs : List V) (k : Nat) (t : T), bds c vs → bdT c t → bdT c (listTr vs k t) := by
    intro vs
    induction vs with
    | nil => intro k t _ ht; exact ht
    | cons v vs ih =>
      intro k t hv ht
      rw [listTr_cons]
      refine ih (k + 1) _ hv.2 ?_
      intro q
      obtain ⟨j, rfl⟩ := posOf_surj q
      have hg : (t.set k v).getP (posOf j) = if j = k then some v else t.getP (posOf j) := by
        rw [getP_posOf, getP_posOf, Tr.get_set]
      by_cases e : j = k
      · rw [if_pos e] at hg; rw [getT_of hg]; exact hv.1
      · rw [if_neg e] at hg
        have := ht (posOf j)
        unfold getT at this ⊢
        rw [hg]; exact this
  refine key args 0 .e h ?_ p
  intro q
  rw [getT_none (Tr.getP_e q)]; trivial

end
end Go.Proofs.YtggfpgcnpdlnlaaDoor.Ev

namespace Go.Proofs.YtggfpgcnpdlnlaaDoor.Ev
open Go

section
variable {P : Program} {E E' : Env} {F : RO} {M M' : Mem} {c c' : Nat → Prop} {ct ct' nt : Nat} {w w' : World} {t t' : T} {d d' : List Nat} {a : Act} {rd : Option Nat}

theorem resV_cons (r : RV) (l : List RV) : resV F M t (r :: l) = (resV1 F M t r).bind fun v => (resV F M t l).map (v :: ·) := by
  show Option.rec (motive := fun _ => Option (List V)) none (fun v => resC v (resV F M t l)) (resV1 F M t r) = _
  cases resV1 F M t r with
  | none => rfl
  | some v =>
    show resC v (resV F M t l) = (resV F M t l).map (v :: ·)
    unfold resC
    cases resV F M t l <;> rfl

def resS (tmps : Array Value) : ResultVar → Sem Value
  | .tmp n => pure (tmps.getD n Go.undef)
  | .cell ad ty => do loadVar ty (← asAddr (tmps.getD ad Go.undef))

/-- one result -/
theorem resV1_ok (h : Cx P E F M c w t a) {x : ResultVar} {r : RV} (hc : compR P x = some r) {v : V} (hv : resV1 F M t r = some v) :
    (resS a.tmps x).run P w = .ok (conc E v) w ∧ bd c v := by
  unfold resS
  cases x with
  | tmp n =>
    obtain rfl := Option.some.inj hc
    obtain rfl : getT t (posOf n) = v := Option.some.inj hv
    exact ⟨by simp [h.tr n], h.bt _⟩
  | cell ad ty =>
    have hn := h.tr ad
    have hc' : (match isAg P ty, szOf P ty with
      | some true, some n => some (RV.cn (posOf ad) n)
      | some false, some _ => some (RV.c1 (posOf ad))
      | _, _ => none) = some r := hc
    replace hc := hc'
    clear hc'
    · split at hc
      · rename_i n h1 h2
        obtain rfl := Option.some.inj hc
        have hv' : (onP (getT t (posOf ad)) none fun b o => Option.rec (motive := fun _ => Option V) none (fun l => some (.g l)) (loadN F M b o n)) = some v := hv
        cases hg : getT t (posOf ad) with
        | p b o =>
          rw [hg] at hv' hn
          have hv2 : Option.rec (motive := fun _ => Option V) none (fun l => some (.g l)) (loadN F M b o n) = some v := hv'
          cases hl : loadN F M b o n with
          | none => rw [hl] at hv2; cases hv2
          | some l =>
            rw [hl] at hv2
            obtain rfl : V.g l = v := Option.some.inj hv2
            have hL := h.loadN hl
            refine ⟨?_, hL.2.1⟩
            simp only [hn, conc, asAddr, loadVar, Sem.run_bind, Sem.run_pure, Result.andThen_ok, isAg_run h1, Sem.run_ite, if_true, run_sz h2, hL.1]
        | _ => rw [hg] at hv'; cases (show (none : Option V) = some v from hv')
      · rename_i n h1 h2
        obtain rfl := Option.some.inj hc
        have hv' : (onP (getT t (posOf ad)) none fun b o => load1 F M b o) = some v := hv
        cases hg : getT t (posOf ad) with
        | p b o =>
          rw [hg] at hv' hn
          have hL := h.load1 (show Ev.load1 F M b o = some v from hv')
          refine ⟨?_, hL.2⟩
          simp only [hn, conc, asAddr, loadVar, Sem.run_bind, Sem.run_pure, Result.andThen_ok, isAg_run h1, Sem.run_ite, Bool.false_eq_true, if_false, run_load, hL.1]
        | _ => rw [hg] at hv'; cases (show (none : Option V) = some v from hv')
      · cases hc

theorem resV_ok (h : Cx P E F M c w t a) : ∀ {xs : List ResultVar} {rs : List RV} {vs : List V}, compRs P xs = some rs → resV F M t rs = some vs →
    (xs.mapM (resS a.tmps)).run P w = .ok (concs E vs) w ∧ bds c vs
  | [], rs, vs, hc, hv => by
    obtain rfl := Option.some.inj hc
    obtain rfl : [] = vs := Option.some.inj hv
    exact ⟨rfl, trivial⟩
  | x :: xs, rs, vs, hc, hv => by
    rw [compRs] at hc
    split at hc
    · rename_i r rr h1 h2
      obtain rfl := Option.some.inj hc
      rw [resV_cons] at hv
      obtain ⟨v, hv1, hv2⟩ := Option.bind_eq_some_iff.1 hv
      obtain ⟨vs', hv3, rfl⟩ := Option.map_eq_some_iff.1 hv2
      have e1 := resV1_ok h h1 hv1
      have e2 := resV_ok h h2 hv3
      refine ⟨?_, e1.2, e2.2⟩
      simp only [List.mapM_cons, Sem.run_bind, e1.1, e2.1, Result.andThen_ok, Sem.run_pure, concs]
    · cases hc

theorem results_ok (h : Cx P E F M c w t a) {fn : Func} {rs : List RV} {vs : List V} (hc : compRs P fn.results.toList = some rs) (hv : resV F M t rs = some vs) :
    (results fn a.tmps).run P w = .ok (conc E (oneV vs)) w ∧ bd c (oneV vs) := by
  have e := resV_ok h hc hv
  have hm : (fn.results.mapM (resS a.tmps)).run P w = .ok (concs E vs).toArray w := by
    rw [← Array.toArray_toList (xs := fn.results), List.mapM_toArray]
    simp [e.1]
  show (bind (fn.results.mapM (resS a.tmps)) _).run P w = _ ∧ _
  rw [Sem.run_bind, hm]
  match vs, e.2 with
  | [], _ => exact ⟨rfl, trivial⟩
  | [v], hb => exact ⟨rfl, hb.1⟩
  | v :: v' :: l, hb =>
    refine ⟨?_, hb⟩
    show Result.ok _ w = _
    congr 1

end
end Go.Proofs.YtggfpgcnpdlnlaaDoor.Ev

