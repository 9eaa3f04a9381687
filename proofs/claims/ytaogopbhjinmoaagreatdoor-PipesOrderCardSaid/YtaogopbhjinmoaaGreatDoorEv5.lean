/- What is proved here: pieces of the evaluator's soundness: if the evaluator comes to a value, the model's run comes to it, for every world and tape; no conditions beyond the hypotheses of each theorem. -/
import Derived.Test.YtaogopbhjinmoaaGreatDoorEv4
import Derived.Lib.UnsafeStr
set_option linter.unusedSimpArgs false
set_option linter.unusedVariables false
set_option linter.defProp false
namespace Go.Proofs.YtaogopbhjinmoaaGreatDoor.Ev
open Go
section
variable {P : Program} {E : Env} {F : RO} {M : Mem} {c : Nat → Prop} {w : World} {t : T} {a : Act}
abbrev EVal (P : Program) (F : RO) (E : Env) (M : Mem) (c : Nat → Prop) (ct : Nat) (w : World) (s : Sem Value) (v : V) (M' : Mem) (ct' : Nat) : Prop :=
  ∃ E' w' c', s.run P w = .ok (conc E' v) w' ∧ Stp P F E M c w E' M' c' w' ∧ bd c' v ∧ Grow c ct c' ct'
theorem room_iff {len by_ : Nat} (h : room len by_ = true) : (3 * len + 2000) * by_ ≤ 281474976710656 ∧ len ≤ 1099511627776 := by
  unfold room at h
  rw [bleN, bleN] at h
  simpa using h
theorem grown_some {M0 : Mem} {ct e by_ len fz : Nat} {str : Bool} {vs : List V} {v : V} {M' : Mem} {ct' : Nat} (h : grown M0 ct e by_ len fz str vs = .k v M' ct') :
    room len by_ = true ∧ v = .u ct 0 len 0 len ∧ M' = M0.set ct (.cells e vs.length false fz str [] (listTr vs 0 .e)) ∧ ct' = ct + 1 := by
  unfold grown at h
  cases hr : room len by_ with
  | false => rw [hr] at h; cases h
  | true =>
    rw [hr, cond_true, Tr.force_eq, fN_eq, fN_eq] at h
    injection h with h1 h2 h3
    exact ⟨rfl, h1.symm, h2.symm, h3.symm⟩
theorem grow_one (c : Nat → Prop) (ct : Nat) : Grow c ct (fun b => c b ∨ b = ct) (ct + 1) := ⟨by omega, fun b hb => hb.elim .inl fun h => .inr (by omega)⟩
theorem grown_new (h : Cx P E F M c w t a) {ct : Nat} (hf : Fresh c ct) {M0 : Mem} (hM0 : Stp P F E M c w E M0 c w) {ats : Array TypeId} {rty ty e : TypeId} {i : TypeInfo} (hat : ats[0]? = some ty) (hu : P.underlying ty = some (.slice e)) (hzs : ZerosOk P ats) (hi : P.info? e = some i) (hzo : zOk P e i.size = true)
    {X : Value} {base : Option Addr} {sLen sCap n fz : Nat} {str : Bool} {old new : List V} (hlen : (Builtin.lenOf X).run P w = .ok n w) (hold : (Builtin.firstCells i.size sLen (.slice base sLen sCap)).run P w.drew = .ok (concs E old).toArray w.drew)
    (hnew : (Builtin.firstCells i.size n X).run P w.drew = .ok (concs E new).toArray w.drew) (hbo : bds c old) (hbn : bds c new) (hlo : old.length = sLen * i.size) (hln : new.length = n * i.size) (hg : sCap < sLen + n)
    {v : V} {M' : Mem} {ct' : Nat} (hgr : grown M0 ct e i.bytes (sLen + n) fz str (old ++ new) = .k v M' ct') :
    EVal P F E M c ct w (Builtin.append_ ats rty #[.slice base sLen sCap, X]) v M' ct' := by
  obtain ⟨hr, rfl, rfl, rfl⟩ := grown_some hgr
  obtain ⟨hr1, hr2⟩ := room_iff hr
  obtain ⟨z, hz, hzc⟩ := zOk_zero hi hzo
  have h2 := nextslicecap_le hg
  have h48 : Builtin.nextslicecap (sLen + n) sCap * i.bytes ≤ 281474976710656 := by
    have h3 : Builtin.nextslicecap (sLen + n) sCap * i.bytes ≤ (3 * (sLen + n) + 2000) * i.bytes := Nat.mul_le_mul_right _ (by omega)
    omega
  have hrun := append_grow_run (w := w) (rty := rty) hat hu hzs hi hz hlen hold hnew hg (by omega) h48
  have hcap : sLen + n ≤ grownCap w (sLen + n) sCap e := by simp [grownCap, Question.cut]
  have hco : P.cellsOf e = i.size := by unfold Program.cellsOf; rw [hi]; rfl
  have hbd := bds_append hbo hbn
  have harr : (concs E old).toArray ++ (concs E new).toArray = (concs E (old ++ new)).toArray := by rw [concs_append]; simp
  rw [harr] at hrun
  obtain ⟨E', hS, hE, hρ, hβ, hκ⟩ := hM0.rel.alloc (.cells e (old ++ new).length false fz str [] (listTr (old ++ new) 0 .e)) (.cells ((concs E (old ++ new)).toArray ++ Builtin.zeroCells z.cells (grownCap w (sLen + n) sCap e - (sLen + n))) e) ct
    (grownCap w (sLen + n) sCap e - (sLen + n)) (fun b => c b ∨ b = ct) (hf ct (Nat.le_refl _)) (.inr rfl) (fun _ h => .inl h) (list_bd hbd fun _ h => .inl h)
    (w.drew.alloc (.cells ((concs E (old ++ new)).toArray ++ Builtin.zeroCells z.cells (grownCap w (sLen + n) sCap e - (sLen + n))) e)) rfl rfl rfl rfl
    (fun E' he _ hβ hκ => grown_rel he hbd hβ hκ (by rw [List.length_append, hlo, hln, hco, Nat.add_mul]) hcap (by rw [hzc, hco]))
  refine ⟨E', _, _, ?_, hM0.trans hS, .inr rfl, grow_one c ct⟩
  rw [hrun]
  simp only [conc, hρ, hβ, hκ]
  congr 2
  omega
theorem grown_in (h : Cx P E F M c w t a) {ct : Nat} (hf : Fresh c ct) {b n' fz o kn sLen n : Nat} {str : Bool} {d : List V} {cs : T} {e : TypeId} {i : TypeInfo} (hi : P.info? e = some i) (hM : M.get b = some (.cells e n' false fz str d cs))
    (hn' : n' = o + kn * i.size) (hfz : fz ≤ o + sLen * i.size) {old new : List V} (hold : ∀ j v, old[j]? = some v → cell n' d cs (o + j) = some v) (hbo : bds c old) (hbn : bds c new) (h1 : allOne new = true) (hlo : old.length = sLen * i.size) (hln : new.length = n * i.size)
    (hle : sLen + n ≤ kn + E.κ b) {by_ : Nat} {v : V} {M' : Mem} {ct' : Nat} (hgr : grown (M.del b) ct e by_ (sLen + n) fz str (old ++ new) = .k v M' ct') :
    ∃ E' w' c', (storeCells ⟨E.ρ b, E.β b + o + sLen * i.size, none⟩ (concs E new)).run P w = .ok () w' ∧ Stp P F E M c w E' M' c' w' ∧ bd c' v ∧ Grow c ct c' ct' ∧ conc E' v = .slice (some ⟨E.ρ b, E.β b + o, none⟩) (sLen + n) (kn + E.κ b) := by
  obtain ⟨hr, rfl, rfl, rfl⟩ := grown_some hgr
  obtain ⟨arr, fr, ho, hrel⟩ := h.cells (look_some_M hM)
  have hco : P.cellsOf e = i.size := by unfold Program.cellsOf; rw [hi]; rfl
  have hsz := hrel.size
  simp only [Bool.false_eq_true, if_false] at hsz
  rw [hco] at hsz
  have hlen : (concs E new).length = n * i.size := by simp [concs_map, hln]
  have hone : ∀ v ∈ concs E new, v.oneCell' = true := by
    intro v hv
    rw [concs_map, List.mem_map] at hv
    obtain ⟨x, hx, rfl⟩ := hv
    exact isOne_conc (allOne_mem h1 x hx)
  have hmul : (sLen + n) * i.size ≤ (kn + E.κ b) * i.size := Nat.mul_le_mul_right _ hle
  rw [Nat.add_mul, Nat.add_mul] at hmul
  have hrun := storeCells_run (P := P) (E.ρ b) (E.β b + o + sLen * i.size) e fr (concs E new) 0 arr w ho (fun k hk hk' => hrel.free k (by omega) hk') (by rw [hlen]; omega) hone
  have hsp := foldSet (E.β b + o + sLen * i.size) (concs E new) 0 arr
  have hbd := bds_append hbo hbn
  obtain ⟨E', hS, hρ, hβ, hκ⟩ := h.rel.take b ct _ (.cells e (old ++ new).length false fz str [] (listTr (old ++ new) 0 .e)) hM (.cells (splice arr (E.β b + o + sLen * i.size) (concs E new) 0) e fr) (E.β b + o) (kn + E.κ b - (sLen + n)) (fun x => c x ∨ x = ct)
    (hf ct (Nat.le_refl _)) (.inr rfl) (fun _ h => .inl h) (list_bd hbd fun _ h => .inl h) { w with heap := w.heap.setIfInBounds (E.ρ b) (.cells (splice arr (E.β b + o + sLen * i.size) (concs E new) 0) e fr) } rfl rfl rfl rfl (fun E' he hρ hβ hκ => by
      refine ⟨_, _, rfl, ⟨fun k v hk => ?_, ?_, ?_, ?_⟩⟩
      · have hk' := cell_list hk
        have hlt : k < (old ++ new).length := (List.getElem?_eq_some_iff.1 hk').1
        rw [List.length_append, hlo, hln] at hlt
        rw [hβ, conc_ext he v (bds_get hbd hk')]
        unfold splice
        rw [hsp.2 (E.β b + o + k) (by omega), hlen, Nat.add_zero]
        by_cases hko : k < sLen * i.size
        · rw [if_neg (by omega)]
          rw [List.getElem?_append_left (by omega)] at hk'
          rw [Nat.add_assoc]
          exact hrel.cell (o + k) v (hold k v hk')
        · rw [if_pos (by omega), show E.β b + o + k - (E.β b + o + sLen * i.size) = k - old.length by omega]
          rw [List.getElem?_append_right (by omega)] at hk'
          exact concs_get hk'
      · simp only [Bool.false_eq_true, if_false]
        unfold splice
        rw [hsp.1, hβ, hκ, hco, List.length_append, hlo, hln, hsz, Nat.sub_mul, Nat.add_mul, Nat.add_mul]
        omega
      · unfold splice
        rw [hsp.1, hβ]
        intro k hk hk'
        exact hrel.free k (by omega) hk'
      · intro hs
        rw [hβ]
        rcases hrel.plain hs with hp | ⟨hp, hp'⟩
        · exact .inl hp
        · exact .inr ⟨hp, by omega⟩)
  refine ⟨E', _, _, hrun, hS, .inr rfl, grow_one c ct, ?_⟩
  simp only [conc, hρ, hβ, hκ]
  congr 1
  omega
theorem cell_more {m : Nat} {d : List V} {cs : T} {new : List V} {k : Nat} {v : V} (h : cell (m + new.length) d (listTr new m cs) k = some v) : (k < m ∧ cell m d cs k = some v) ∨ (m ≤ k ∧ new[k - m]? = some v) := by
  rw [cell_eq, listTr_get] at h
  split at h
  · rename_i hk
    by_cases hm : m ≤ k
    · right
      rw [if_pos ⟨hm, hk⟩, List.getElem?_eq_getElem (by omega)] at h
      exact ⟨hm, by rw [List.getElem?_eq_getElem (by omega)]; exact h⟩
    · left
      rw [if_neg (by omega)] at h
      exact ⟨by omega, by rw [cell_eq, if_pos (by omega)]; exact h⟩
  · cases h
theorem more_bd {m e fz : Nat} {d : List V} {cs : T} {new : List V} {c' : Nat → Prop} {ex str : Bool} (ho : bdBlk c (.cells e m ex fz str d cs)) (hn : bds c new) (hc : ∀ b, c b → c' b) : bdBlk c' (.cells e (m + new.length) false fz str d (listTr new m cs)) := fun k v hk => by
  rcases cell_more hk with ⟨_, h⟩ | ⟨_, h⟩
  · exact bd_mono hc v (ho k v h)
  · exact bd_mono hc v (bds_get hn h)
theorem grownT_some {M0 : Mem} {ct e by_ len fz m : Nat} {str : Bool} {new d : List V} {cs : T} {v : V} {M' : Mem} {ct' : Nat} (h : grownT M0 ct e by_ len fz str new m d cs = .k v M' ct') :
    room len by_ = true ∧ v = .u ct 0 len 0 len ∧ M' = M0.set ct (.cells e (m + new.length) false fz str d (listTr new m cs)) ∧ ct' = ct + 1 := by
  unfold grownT at h
  cases hr : room len by_ with
  | false => rw [hr] at h; cases h
  | true =>
    rw [hr, cond_true, Tr.force_eq, fN_eq, Tr.force_eq, fN_eq, fN_eq] at h
    injection h with h1 h2 h3
    exact ⟨rfl, h1.symm, h2.symm, h3.symm⟩
theorem grownT_new (h : Cx P E F M c w t a) {ct : Nat} (hf : Fresh c ct) {ats : Array TypeId} {rty ty e : TypeId} {i : TypeInfo} (hat : ats[0]? = some ty) (hu : P.underlying ty = some (.slice e)) (hzs : ZerosOk P ats) (hi : P.info? e = some i) (hzo : zOk P e i.size = true)
    {X : Value} {b m sLen sCap n fz : Nat} {str : Bool} {d new : List V} {cs : T} (hM : M.get b = some (.cells e m false fz str d cs)) (hm : m = sLen * i.size) (hlen : (Builtin.lenOf X).run P w = .ok n w)
    (hnew : (Builtin.firstCells i.size n X).run P w.drew = .ok (concs E new).toArray w.drew) (hbn : bds c new) (hln : new.length = n * i.size) (hg : sCap < sLen + n)
    {v : V} {M' : Mem} {ct' : Nat} (hgr : grownT (M.del b) ct e i.bytes (sLen + n) fz str new m d cs = .k v M' ct') :
    EVal P F E M c ct w (Builtin.append_ ats rty #[.slice (some ⟨E.ρ b, E.β b + 0, none⟩) sLen sCap, X]) v M' ct' := by
  obtain ⟨hr, rfl, rfl, rfl⟩ := grownT_some hgr
  obtain ⟨hr1, hr2⟩ := room_iff hr
  obtain ⟨z, hz, hzc⟩ := zOk_zero hi hzo
  obtain ⟨arr, fr, ho, hrel⟩ := h.cells (look_some_M hM)
  have hbo := (h.rel.has _ _ (look_some_M hM)).2.1
  have hM0 := h.rel.drop b
  have hle := hrel.le
  obtain ⟨ol, hol⟩ : ∃ ol, ol = (arr.toList.drop (E.β b)).take m := ⟨_, rfl⟩
  have hll : ol.length = m := by rw [hol, List.length_take, List.length_drop, Array.length_toList]; omega
  have hget : ∀ j, j < m → ol[j]? = arr[E.β b + j]? := fun j hj => by rw [hol, List.getElem?_take_of_lt hj, List.getElem?_drop, Array.getElem?_toList]
  have hold : (Builtin.firstCells i.size sLen (.slice (some ⟨E.ρ b, E.β b + 0, none⟩) sLen sCap)).run P w.drew = .ok ol.toArray w.drew := by
    simp only [Builtin.firstCells]
    have := run_loadCells_list (P := P) w.drew ⟨E.ρ b, E.β b + 0, none⟩ ol (fun j v hj => by
      rw [Addr.add_eq]
      have hjm : j < m := by rw [← hll]; exact (List.getElem?_eq_some_iff.1 hj).1
      have ho' : w.drew.heap[E.ρ b]? = some (.cells arr e fr) := ho
      simp only [World.cell?, ho', Option.isSome_none, Bool.false_eq_true, if_false]
      rw [Nat.add_zero, ← hget j hjm]; exact hj)
    rwa [hll, hm] at this
  have h2 := nextslicecap_le hg
  have h48 : Builtin.nextslicecap (sLen + n) sCap * i.bytes ≤ 281474976710656 := by
    have h3 : Builtin.nextslicecap (sLen + n) sCap * i.bytes ≤ (3 * (sLen + n) + 2000) * i.bytes := Nat.mul_le_mul_right _ (by omega)
    omega
  have hrun := append_grow_run (w := w) (rty := rty) hat hu hzs hi hz hlen hold hnew hg (by omega) h48
  have hcap : sLen + n ≤ grownCap w (sLen + n) sCap e := by simp [grownCap, Question.cut]
  have hco : P.cellsOf e = i.size := by unfold Program.cellsOf; rw [hi]; rfl
  have harr : ol.toArray ++ (concs E new).toArray = (ol ++ concs E new).toArray := by simp
  rw [harr] at hrun
  obtain ⟨E', hS, hE, hρ, hβ, hκ⟩ := hM0.rel.alloc (.cells e (m + new.length) false fz str d (listTr new m cs)) (.cells ((ol ++ concs E new).toArray ++ Builtin.zeroCells z.cells (grownCap w (sLen + n) sCap e - (sLen + n))) e) ct
    (grownCap w (sLen + n) sCap e - (sLen + n)) (fun b => c b ∨ b = ct) (hf ct (Nat.le_refl _)) (.inr rfl) (fun _ h => .inl h) (more_bd hbo hbn fun _ h => .inl h)
    (w.drew.alloc (.cells ((ol ++ concs E new).toArray ++ Builtin.zeroCells z.cells (grownCap w (sLen + n) sCap e - (sLen + n))) e)) rfl rfl rfl rfl
    (fun E' he _ hβ hκ => by
      have hcl : (concs E new).length = n * i.size := by simp [concs_map, hln]
      refine ⟨_, _, rfl, ⟨fun k v hk => ?_, ?_, ?_, fun _ => .inl rfl⟩⟩
      · rw [hβ, Nat.zero_add]
        rcases cell_more hk with ⟨h1, h2⟩ | ⟨h1, h2⟩
        · rw [conc_ext he v (hbo k v h2), Array.getElem?_append_left (by simp [hll]; omega)]
          have : (ol ++ concs E new).toArray[k]? = ol[k]? := by rw [List.getElem?_toArray, List.getElem?_append_left (by omega)]
          rw [this, hget k h1]
          exact hrel.cell k v h2
        · have hlt : k - m < new.length := (List.getElem?_eq_some_iff.1 h2).1
          rw [conc_ext he v (bds_get hbn h2), Array.getElem?_append_left (by simp [hll, hcl]; omega)]
          have : (ol ++ concs E new).toArray[k]? = (concs E new)[k - m]? := by rw [List.getElem?_toArray, List.getElem?_append_right (by omega), hll]
          rw [this]
          exact concs_get h2
      · simp only [Bool.false_eq_true, if_false]
        rw [Array.size_append, zeroCells_size, hβ, hκ, hzc, hco]
        simp [hll, hcl, hln]
      · intro o _ ho hf
        have h1 := hf.1
        have h2 := hf.2
        simp only at h1 h2
        omega)
  refine ⟨E', _, _, ?_, hM0.trans hS, .inr rfl, grow_one c ct⟩
  rw [hrun]
  simp only [conc, hρ, hβ, hκ]
  congr 2
  omega
theorem grownT_in (h : Cx P E F M c w t a) {ct : Nat} (hf : Fresh c ct) {b m fz sLen n : Nat} {str : Bool} {d : List V} {cs : T} {e : TypeId} {i : TypeInfo} (hi : P.info? e = some i) (hM : M.get b = some (.cells e m false fz str d cs))
    (hm : m = sLen * i.size) (hfz : fz ≤ sLen * i.size) {new : List V} (hbn : bds c new) (h1 : allOne new = true) (hln : new.length = n * i.size)
    (hle : sLen + n ≤ sLen + E.κ b) {by_ : Nat} {v : V} {M' : Mem} {ct' : Nat} (hgr : grownT (M.del b) ct e by_ (sLen + n) fz str new m d cs = .k v M' ct') :
    ∃ E' w' c', (storeCells ⟨E.ρ b, E.β b + 0 + sLen * i.size, none⟩ (concs E new)).run P w = .ok () w' ∧ Stp P F E M c w E' M' c' w' ∧ bd c' v ∧ Grow c ct c' ct' ∧ conc E' v = .slice (some ⟨E.ρ b, E.β b + 0, none⟩) (sLen + n) (sLen + E.κ b) := by
  obtain ⟨hr, rfl, rfl, rfl⟩ := grownT_some hgr
  obtain ⟨arr, fr, ho, hrel⟩ := h.cells (look_some_M hM)
  have hbo := (h.rel.has _ _ (look_some_M hM)).2.1
  have hco : P.cellsOf e = i.size := by unfold Program.cellsOf; rw [hi]; rfl
  have hsz := hrel.size
  simp only [Bool.false_eq_true, if_false] at hsz
  rw [hco] at hsz
  have hlen : (concs E new).length = n * i.size := by simp [concs_map, hln]
  have hone : ∀ v ∈ concs E new, v.oneCell' = true := by
    intro v hv
    rw [concs_map, List.mem_map] at hv
    obtain ⟨x, hx, rfl⟩ := hv
    exact isOne_conc (allOne_mem h1 x hx)
  have hmul : (sLen + n) * i.size ≤ (sLen + E.κ b) * i.size := Nat.mul_le_mul_right _ hle
  rw [Nat.add_mul, Nat.add_mul] at hmul
  have hrun := storeCells_run (P := P) (E.ρ b) (E.β b + 0 + sLen * i.size) e fr (concs E new) 0 arr w ho (fun k hk hk' => hrel.free k (by omega) hk') (by rw [hlen]; omega) hone
  have hsp := foldSet (E.β b + 0 + sLen * i.size) (concs E new) 0 arr
  obtain ⟨E', hS, hρ, hβ, hκ⟩ := h.rel.take b ct _ (.cells e (m + new.length) false fz str d (listTr new m cs)) hM (.cells (splice arr (E.β b + 0 + sLen * i.size) (concs E new) 0) e fr) (E.β b + 0) (sLen + E.κ b - (sLen + n)) (fun x => c x ∨ x = ct)
    (hf ct (Nat.le_refl _)) (.inr rfl) (fun _ h => .inl h) (more_bd hbo hbn fun _ h => .inl h) { w with heap := w.heap.setIfInBounds (E.ρ b) (.cells (splice arr (E.β b + 0 + sLen * i.size) (concs E new) 0) e fr) } rfl rfl rfl rfl (fun E' he hρ hβ hκ => by
      refine ⟨_, _, rfl, ⟨fun k v hk => ?_, ?_, ?_, ?_⟩⟩
      · rw [hβ]
        unfold splice
        rcases cell_more hk with ⟨k1, k2⟩ | ⟨k1, k2⟩
        · rw [conc_ext he v (hbo k v k2), hsp.2 (E.β b + 0 + k) (by omega), hlen, Nat.add_zero, if_neg (by omega)]
          exact hrel.cell k v k2
        · have hlt : k - m < new.length := (List.getElem?_eq_some_iff.1 k2).1
          rw [conc_ext he v (bds_get hbn k2), hsp.2 (E.β b + 0 + k) (by omega), hlen, Nat.add_zero, if_pos (by omega), show E.β b + 0 + k - (E.β b + 0 + sLen * i.size) = k - m by omega]
          exact concs_get k2
      · simp only [Bool.false_eq_true, if_false]
        unfold splice
        rw [hsp.1, hβ, hκ, hco, hln, hsz, Nat.sub_mul, Nat.add_mul, Nat.add_mul]
        omega
      · unfold splice
        rw [hsp.1, hβ]
        intro k hk hk'
        exact hrel.free k (by omega) hk'
      · intro hs
        rw [hβ]
        rcases hrel.plain hs with hp | ⟨hp, hp'⟩
        · exact .inl hp
        · exact .inr ⟨hp, by omega⟩)
  refine ⟨E', _, _, hrun, hS, .inr rfl, grow_one c ct, ?_⟩
  simp only [conc, hρ, hβ, hκ]
  congr 1
  omega
theorem mayWrite_some {b ty o e fz : Nat} {str : Bool} (h : mayWrite M b ty o e = some (fz, str)) : ∃ n d cs, M.get b = some (.cells ty n false fz str d cs) ∧ n = e ∧ fz ≤ o ∧ o ≤ e := by
  unfold mayWrite at h
  split at h
  · rename_i ty' n fz' str' d cs hM
    rw [beqN, beqN, bleN, bleN] at h
    by_cases hc : (decide (ty' = ty) && decide (n = e) && decide (fz' ≤ o) && decide (o ≤ e)) = true
    · rw [hc, cond_true] at h
      simp only [Option.some.injEq, Prod.mk.injEq] at h
      obtain ⟨rfl, rfl⟩ := h
      simp only [Bool.and_eq_true, decide_eq_true_eq] at hc
      obtain ⟨⟨⟨rfl, rfl⟩, h3⟩, h4⟩ := hc
      exact ⟨_, _, _, hM, rfl, h3, h4⟩
    · rw [Bool.not_eq_true] at hc
      rw [hc] at h; cases h
  · cases h
theorem appIn_some {ct b o sz len n : Nat} {new : List V} {f : Nat → V} {v : V} {M' : Mem} {ct' : Nat} (h : appIn ct b o sz len n M new f = .k v M' ct') : storeN M b (o + len * sz) new = some M' ∧ v = f (len + n) ∧ ct' = ct := by
  unfold appIn at h
  split at h
  · rename_i M'' hs
    rw [fN_eq] at h
    injection h with h1 h2 h3
    subst h2
    exact ⟨hs, h1.symm, h3.symm⟩
  · cases h
theorem grownL_some {M0 : Mem} {ct e by_ len fz : Nat} {str : Bool} {new : List V} {r : Option (List V × Option Nat)} {v : V} {M' : Mem} {ct' : Nat} (h : grownL M0 ct e by_ len fz str new r = .k v M' ct') : ∃ old q, r = some (old, q) ∧ grown M0 ct e by_ len fz str (old ++ new) = .k v M' ct' := by
  unfold grownL at h
  split at h
  · exact ⟨_, _, rfl, h⟩
  · cases h
theorem readB_cell {sz n b o n' ty fz : Nat} {ex str : Bool} {d : List V} {cs : T} {vs : List V} {r : Option Nat} (hM : M.get b = some (.cells ty n' ex fz str d cs)) (h : readB F M sz n b o = some (vs, r)) : ∀ j v, vs[j]? = some v → cell n' d cs (o + j) = some v := by
  unfold Ev.readB at h
  rw [beqN] at h
  by_cases hn : n = 0
  · rw [decide_eq_true hn, cond_true] at h
    simp only [Option.some.injEq, Prod.mk.injEq] at h
    obtain ⟨rfl, rfl⟩ := h
    intro j v hj; simp at hj
  · rw [decide_eq_false hn, cond_false] at h
    split at h
    · rename_i l hl
      simp only [Option.some.injEq, Prod.mk.injEq] at h
      obtain ⟨rfl, rfl⟩ := h
      obtain ⟨ty', m, ex', fz', str', d', cs', hb, hg⟩ := asCells_some (f := none) hl (by simp)
      rw [look_some_M hM] at hb
      injection hb with hb
      injection hb with h1 h2 h3 h4 h5 h6 h7
      subst h2 h6 h7
      exact (cellsAt_get _ _ _ hg).2
    · cases h
theorem firstCells_drew {sz n b o len cap : Nat} (h : Cx P E F M c w t a) {old : List V} {r : Option Nat} (hr : readB F M sz n b o = some (old, r)) : (Builtin.firstCells sz n (.slice (some ⟨E.ρ b, E.β b + o, none⟩) len cap)).run P w.drew = .ok (concs E old).toArray w.drew := by
  simp only [Builtin.firstCells]
  exact ((h.world (w' := w.drew) rfl).readB hr).1
theorem app_run (h : Cx P E F M c w t a) {ct : Nat} (hf : Fresh c ct) {ats : Array TypeId} {rty ty e : TypeId} {i : TypeInfo} (hat : ats[0]? = some ty) (hu : P.underlying ty = some (.slice e)) (hzs : ZerosOk P ats) (hi : P.info? e = some i) (hpos : i.size ≠ 0) (hzo : zOk P e i.size = true)
    {x y : V} {n : Nat} {new : List V} (hs : splitSrc F M i.size y = some (n, new)) (hbx : bd c x) (h1 : allOne new = true) (hln : new.length = n * i.size)
    {v : V} {M' : Mem} {ct' : Nat} (ha : app F M ct e i.size i.bytes x n new = .k v M' ct') : EVal P F E M c ct w (Builtin.append_ ats rty #[conc E x, conc E y]) v M' ct' := by
  obtain ⟨hlen, hfc, hbn⟩ := srcRun h hs
  obtain ⟨_, hfcd, _⟩ := srcRun (h.world (w' := w.drew) rfl) hs
  unfold app at ha
  rw [beqN] at ha
  by_cases hn0 : n = 0
  · subst hn0
    rw [decide_eq_true rfl, cond_true] at ha
    have hnil : new = [] := List.eq_nil_of_length_eq_zero (by omega)
    subst hnil
    cases hlk : lenOk x with
    | false => rw [hlk] at ha; cases ha
    | true =>
      rw [hlk, cond_true] at ha
      injection ha with g1 g2 g3
      subst g1 g2 g3
      have hsl : ∃ base sLen sCap, conc E x = .slice base sLen sCap ∧ sLen ≤ sCap := by
        cases x <;> first
          | cases (show false = true from hlk)
          | (refine ⟨_, _, _, rfl, ?_⟩
             first
               | exact Nat.le_refl _
               | exact Nat.zero_le _
               | (have : Nat.ble _ _ = true := hlk
                  rw [bleN] at this
                  have := of_decide_eq_true this
                  first
                    | exact this
                    | exact Nat.le_trans this (Nat.le_add_right _ _)))
      obtain ⟨base, sLen, sCap, hcx, hle⟩ := hsl
      refine ⟨E, w, c, ?_, .refl h.rel, hbx, .refl _ _⟩
      rw [hcx]
      exact append_zero_run hat hu hzs hi hlen hfc hle
  · rw [decide_eq_false hn0, cond_false] at ha
    have fin : ∀ {b o len n' cap : Nat} {M'' : Mem}, storeN M b (o + len * i.size) new = some M'' → len + n ≤ cap → c b → ∃ w', (Builtin.append_ ats rty #[.slice (some ⟨E.ρ b, E.β b + o, none⟩) len cap, conc E y]).run P w = .ok (.slice (some ⟨E.ρ b, E.β b + o, none⟩) (len + n) cap) w' ∧ Stp P F E M c w E M'' c w' := by
      intro b o len n' cap M'' hst hcap hb
      obtain ⟨w', hrun, hS⟩ := h.store hst hbn
      refine ⟨w', append_in_run hat hu hzs hi hlen hfc hcap ?_, hS⟩
      rw [Addr.add_eq, Nat.add_assoc]
      exact hrun
    cases x with
    | l0 =>
      exact grown_new h hf (.refl h.rel) hat hu hzs hi hzo (old := []) hlen (by simp [Builtin.firstCells, concs]) hfcd trivial hbn (by simp) hln (by omega) (by simpa using ha)
    | l b o len cap =>
      have ha' : app_l F M ct e i.size i.bytes b o len cap n new = .k v M' ct' := ha
      unfold app_l at ha'
      rw [bleN] at ha'
      by_cases hcap : len + n ≤ cap
      · rw [decide_eq_true (show Nat.add len n ≤ cap from hcap), cond_true] at ha'
        obtain ⟨hst, rfl, rfl⟩ := appIn_some ha'
        obtain ⟨w', hrun, hS⟩ := fin (n' := 0) hst hcap hbx
        exact ⟨E, w', c, hrun, hS, hbx, .refl _ _⟩
      · rw [decide_eq_false (show ¬ Nat.add len n ≤ cap from hcap), cond_false] at ha'
        obtain ⟨old, q, hr, hgr⟩ := grownL_some ha'
        have hrb := h.readB hr
        exact grown_new h hf (.refl h.rel) hat hu hzs hi hzo hlen (firstCells_drew h hr) hfcd hrb.2.1 hbn hrb.2.2 hln (by omega) hgr
    | u b o len el kn =>
      have ha' : app_u F M ct e i.size i.bytes b o len el kn n new = .k v M' ct' := ha
      unfold app_u at ha'
      rw [bleN] at ha'
      by_cases hcap : el + len + n ≤ kn
      · rw [decide_eq_true (show Nat.add (Nat.add el len) n ≤ kn from hcap), cond_true] at ha'
        obtain ⟨hst, rfl, rfl⟩ := appIn_some ha'
        obtain ⟨w', hrun, hS⟩ := fin (n' := 0) (cap := kn - el + E.κ b) hst (by omega) hbx
        exact ⟨E, w', c, hrun, hS, hbx, .refl _ _⟩
      · rw [decide_eq_false (show ¬ Nat.add (Nat.add el len) n ≤ kn from hcap), cond_false] at ha'
        split at ha'
        · rename_i fz str hmw
          obtain ⟨n', d, cs, hM, hn', hfz, _⟩ := mayWrite_some hmw
          cases hw : Nat.beq o 0 && Nat.beq (Nat.sub kn el) len with
          | true =>
            rw [hw, cond_true, hM] at ha'
            rw [Bool.and_eq_true, beqN, beqN] at hw
            obtain rfl : o = 0 := of_decide_eq_true hw.1
            have hkl : kn - el = len := of_decide_eq_true hw.2
            have ha2 : grownT (M.del b) ct e i.bytes (len + n) fz str new n' d cs = .k v M' ct' := ha'
            have hm : n' = len * i.size := by
              have : n' = 0 + (kn - el) * i.size := hn'
              rw [this, hkl, Nat.zero_add]
            have hcx : conc E (.u b 0 len el kn) = .slice (some ⟨E.ρ b, E.β b + 0, none⟩) len (kn - el + E.κ b) := rfl
            rw [hcx]
            by_cases hroom : len + n ≤ kn - el + E.κ b
            · rw [hkl] at hroom ⊢
              obtain ⟨E', w', c', hrun, hS, hb', hG, hcv⟩ := grownT_in h hf hi hM hm (by have : fz ≤ 0 + len * i.size := hfz; omega) hbn h1 hln hroom ha2
              refine ⟨E', w', c', ?_, hS, hb', hG⟩
              rw [hcv]
              refine append_in_run hat hu hzs hi hlen hfc hroom ?_
              rw [Addr.add_eq]
              exact hrun
            · exact grownT_new h hf hat hu hzs hi hzo hM hm hlen hfcd hbn hln (by omega) ha2
          | false =>
          rw [hw, cond_false] at ha'
          obtain ⟨old, q, hr, hgr⟩ := grownL_some ha'
          have hrb := h.readB hr
          by_cases hroom : len + n ≤ kn - el + E.κ b
          · obtain ⟨E', w', c', hrun, hS, hb', hG, hcv⟩ := grown_in h hf hi hM (o := o) (kn := kn - el) (sLen := len) hn' hfz (readB_cell hM hr) hrb.2.1 hbn h1 hrb.2.2 hln hroom hgr
            refine ⟨E', w', c', ?_, hS, hb', hG⟩
            rw [hcv]
            refine append_in_run hat hu hzs hi hlen hfc hroom ?_
            rw [Addr.add_eq]
            exact hrun
          · exact grown_new h hf (h.rel.drop b) hat hu hzs hi hzo hlen (firstCells_drew h hr) hfcd hrb.2.1 hbn hrb.2.2 hln (by omega) hgr
        · cases ha'
    | ue b o0 o =>
      have ha' : (match mayWrite M b e o o with
        | some (fz, str) => grown (M.del b) ct e i.bytes n fz str new
        | none => .f) = .k v M' ct' := ha
      split at ha'
      · rename_i fz str hmw
        obtain ⟨n', d, cs, hM, hn', hfz, _⟩ := mayWrite_some hmw
        by_cases hroom : n ≤ E.κ b
        · have hκ : E.κ b ≠ 0 := by omega
          obtain ⟨E', w', c', hrun, hS, hb', hG, hcv⟩ := grown_in h hf hi hM (o := o) (kn := 0) (sLen := 0) (old := []) (n := n) (by simpa using hn') (by simpa using hfz) (fun j v hj => by simp at hj) trivial hbn h1 (by simp) hln (by omega) (by simpa using ha')
          refine ⟨E', w', c', ?_, hS, hb', hG⟩
          rw [hcv]
          simp only [conc, if_neg hκ]
          have := append_in_run (w := w) (rty := rty) (sLen := 0) (sCap := E.κ b) (ad := ⟨E.ρ b, E.β b + o, none⟩) hat hu hzs hi hlen hfc (by omega) (w' := w') (by rw [Addr.add_eq]; exact hrun)
          simpa using this
        · have := grown_new (rty := rty) (base := some (if E.κ b = 0 then (if o < o0 then adD b else ⟨E.ρ b, E.β b + o0, none⟩) else ⟨E.ρ b, E.β b + o, none⟩)) (sLen := 0) (sCap := E.κ b) (old := []) h hf (h.rel.drop b) hat hu hzs hi hzo hlen (by simp [Builtin.firstCells, concs, loadCells, loadCellsFrom]) hfcd trivial hbn (by simp) hln (by omega) (by simpa using ha')
          exact this
      · cases ha'
    | _ => cases (show RC.f = .k v M' ct' from ha)
end
end Go.Proofs.YtaogopbhjinmoaaGreatDoor.Ev
namespace Go.Proofs.YtaogopbhjinmoaaGreatDoor.Ev
open Go
section
variable {P : Program} {E : Env} {F : RO} {M : Mem} {c : Nat → Prop} {w : World} {t : T} {a : Act}
theorem EVal.op {o : Oper} {cl : Call} {b : Builtin} (hop : o.op = .call cl) (hb : cl.callee = .builtin b) {l : List Operand} (hl : cl.args.toList = l) {s : Sem Value} {v : V} {M' : Mem} {ct ct' : Nat}
    (he : ∀ fs, builtin b cl.argTypes o.type fs (l.map a.eval).toArray = (s >>= fun v => pure (Next.value v))) (h : EVal P F E M c ct w s v M' ct') : EOk P F E M c ct w a o v M' ct' := by
  obtain ⟨E', w', c', hr, hS, hb', hG⟩ := h
  exact ⟨E', w', .value (conc E' v), c', exec_builtin hop hb hl (by rw [he]; exact val_run hr), .inl rfl, hS, hb', hG⟩
theorem e_append (h : Cx P E F M c w t a) {ct : Nat} (hf : Fresh c ct) {o : Oper} {cl : Call} (hop : o.op = .call cl) (hb : cl.callee = .builtin .append) {y z : Operand} (hargs : cl.args.toList = [y, z]) {ty e : TypeId} (hat : cl.argTypes[0]? = some ty) (hzs : ZerosOk P cl.argTypes)
    (hu : P.underlying ty = some (.slice e)) {sz by_ : Nat} (hsz : szOf P e = some sz) (hby : byOf P e = some by_) (hpos : sz ≠ 0) (hzo : zOk P e sz = true) {xx xy : X} (h1 : compX y = some xx) (h2 : compX z = some xy)
    {k : Kn} (hk : k.F = F) {v : V} {M' : Mem} {ct' : Nat} (he : doE (.app e sz by_ xx xy) k M ct t = .k v M' ct') : EOk P F E M c ct w a o v M' ct' := by
  have he' : e_app1 k.F M ct e sz by_ (xx.ev t) (splitSrc k.F M sz (xy.ev t)) = .k v M' ct' := he
  rw [hk] at he'
  obtain ⟨i, hi, rfl⟩ := szOf_info hsz
  have hby' : i.bytes = by_ := by
    unfold byOf at hby; rw [hi] at hby; simpa using hby
  subst hby'
  have e1 := h.ev h1
  have e2 := h.ev h2
  cases hs : splitSrc F M i.size (xy.ev t) with
  | none => rw [hs] at he'; cases (show RC.f = .k v M' ct' from he')
  | some r =>
    obtain ⟨n, new⟩ := r
    rw [hs] at he'
    have he2 : (bif allOne new && Nat.beq new.length (Nat.mul n i.size) then app F M ct e i.size i.bytes (xx.ev t) n new else .f) = .k v M' ct' := he'
    rw [beqN] at he2
    by_cases hc1 : allOne new = true
    · by_cases hc2 : new.length = n * i.size
      · rw [hc1, decide_eq_true (show new.length = Nat.mul n i.size from hc2)] at he2
        have he3 : app F M ct e i.size i.bytes (xx.ev t) n new = .k v M' ct' := he2
        have := app_run (rty := o.type) h hf hat hu hzs hi hpos hzo hs e1.2 hc1 hc2 he3
        refine EVal.op hop hb hargs (s := Builtin.append_ cl.argTypes o.type #[conc E (xx.ev t), conc E (xy.ev t)]) (fun fs => ?_) this
        simp only [builtin, List.map_cons, List.map_nil, e1.1, e2.1]
      · rw [hc1, decide_eq_false (show ¬ new.length = Nat.mul n i.size from hc2)] at he2; cases he2
    · rw [Bool.not_eq_true] at hc1
      rw [hc1] at he2; cases he2
theorem zc_cons (n : Nat) : Builtin.zeroCells #[Value.int .u8 0] n = (List.replicate n (Value.int .u8 0)).toArray := by
  apply Array.ext'
  simp only [Builtin.zeroCells]
  apply List.ext_getElem
  · simp
  · intro i h1 h2
    simp [Nat.mod_one]
theorem bl_zero (n : Nat) : bl n 0 = List.replicate n 0 := by
  induction n with
  | zero => rfl
  | succ n ih => rw [bl, Nat.zero_div, ih]; rfl
theorem fc_zero (n : Nat) : Builtin.firstCells 1 n (.string (ba n 0)) = pure (Builtin.zeroCells #[Value.int .u8 0] n) := by
  show (pure (((ba n 0).extract 0 n).data.map fun b => Value.int .u8 b.toNat) : Sem (Array Value)) = _
  congr 1
  rw [zc_cons]
  apply Array.ext'
  have e : ((ba n 0).extract 0 n) = ba n 0 := by
    apply ByteArray.ext
    simp [ByteArray.data_extract, ba, List.take_of_length_le, bl_length]
  rw [e]
  show ((bl n 0).toArray.map fun b => Value.int .u8 b.toNat).toList = _
  rw [bl_zero]
  simp
theorem appendZ_eq {ats : Array TypeId} {rty ty t2 e : TypeId} {ik : IntKind} {i : TypeInfo} (hat : ats[0]? = some ty) (hat1 : ats[1]? = some t2) (hu : P.underlying ty = some (.slice e)) (hu2 : P.underlying t2 = some (.int ik)) (hi : P.info? e = some i) (hz : i.zero = some (.int .u8 0)) (hs : i.size = 1) (hby : i.bytes = 1)
    {base : Option Addr} {sLen sCap n : Nat} {k : IntKind} (hn : sLen + n ≤ 1099511627776) :
    (Builtin.append_ ats rty #[.slice base sLen sCap, .int k n]).run P w = (Builtin.append_ #[ty] rty #[.slice base sLen sCap, .string (ba n 0)]).run P w := by
  have hm : IntKind.i64.max = 9223372036854775807 := rfl
  have hw : IntKind.i64.wrap (n : Int) = (n : Int) := by rw [show IntKind.i64.wrap (n : Int) = ((n : Int) + 9223372036854775808) % 18446744073709551616 - 9223372036854775808 from (by simp [IntKind.wrap, IntKind.bits, IntKind.signed]; split <;> omega)]; omega
  have hlen : (Builtin.lenOf (.string (ba n 0))).run P w = .ok n w := by
    show Result.ok (ba n 0).size w = _
    rw [ba_size]
  have hfc := fc_zero n
  have h48 : ¬ (281474976710656 < (n : Int)) := by omega
  have h0 : ¬ ((n : Int) < 0) := by omega
  have hzr : n = 0 → Builtin.zeroCells #[Value.int .u8 0] n = #[] := fun e => by subst e; rw [zc_cons]; rfl
  have hzc : Value.cells (.int .u8 0) = #[Value.int .u8 0] := rfl
  have h63 : ¬ (9223372036854775807 < (sLen : Int) + (n : Int)) := by omega
  by_cases hc : sLen + n ≤ sCap
  · simp [Builtin.append_, hat, hat1, run_underlying hu, run_underlying hu2, Go.sizeOf, typeInfo, zeroValue, hi, hz, hs, hby, hw, h48, h0, asInt, asIntOf, hlen, hfc, hc, hzc, h63, Question.forced]
    intro hn0
    rw [hzr hn0]
  · have hle := nextslicecap_le (need := sLen + n) (old := sCap) (by omega)
    have h48b : ¬ (281474976710656 < Builtin.nextslicecap (sLen + n) sCap) := by omega
    simp [Builtin.append_, hat, hat1, run_underlying hu, run_underlying hu2, Go.sizeOf, typeInfo, zeroValue, hi, hz, hs, hby, hw, h48, h0, asInt, asIntOf, hlen, hfc, hc, hzc, h63, h48b, Question.forced]
    by_cases hn0 : n = 0
    · simp only [if_pos hn0, hzr hn0]
      simp
    · simp only [if_neg hn0]
theorem EVal.op2 {o : Oper} {cl : Call} {b : Builtin} (hop : o.op = .call cl) (hb : cl.callee = .builtin b) {l : List Operand} (hl : cl.args.toList = l) {s : Sem Value} {v : V} {M' : Mem} {ct ct' : Nat}
    (he : ∀ fs, (builtin b cl.argTypes o.type fs (l.map a.eval).toArray).run P w = (s >>= fun v => pure (Next.value v)).run P w) (h : EVal P F E M c ct w s v M' ct') : EOk P F E M c ct w a o v M' ct' := by
  obtain ⟨E', w', c', hr, hS, hb', hG⟩ := h
  exact ⟨E', w', .value (conc E' v), c', exec_builtin hop hb hl (by rw [he]; exact val_run hr), .inl rfl, hS, hb', hG⟩
theorem lenV_le {x : V} {m : Nat} (h : lenV x = some m) (hx : ∀ a b, x ≠ .s a b) : ∃ base cap, conc E x = .slice base m cap := by
  rcases lenV_slice (E := E) h with ⟨ad, cap, e⟩ | ⟨y, e⟩
  · exact ⟨_, _, e⟩
  · exact absurd e (hx _ _)
theorem e_appendZ (h : Cx P E F M c w t a) {ct : Nat} (hf : Fresh c ct) {o : Oper} {cl : Call} (hop : o.op = .call cl) (hb : cl.callee = .builtin .append) {y z : Operand} (hargs : cl.args.toList = [y, z]) {ty t2 e : TypeId} (hat : cl.argTypes[0]? = some ty) (hat1 : cl.argTypes[1]? = some t2)
    {ik : IntKind} (hd : P.underlying t2 = some (.int ik)) (hu : P.underlying ty = some (.slice e)) (hsz : szOf P e = some 1) (hby : byOf P e = some 1) (hzv : zeroV P e = some (.i .u8 (.ofNat 0))) (hzo : zOk P e 1 = true) {xx xy : X} (h1 : compX y = some xx) (h2 : compX z = some xy)
    {k : Kn} (hk : k.F = F) {v : V} {M' : Mem} {ct' : Nat} (he : doE (.apz e 1 xx xy) k M ct t = .k v M' ct') : EOk P F E M c ct w a o v M' ct' := by
  have he' : e_apz e 1 xx xy k.F M ct t = .k v M' ct' := he
  rw [hk] at he'
  obtain ⟨i, hi, hs1⟩ := szOf_info hsz
  have hby' : i.bytes = 1 := by
    unfold byOf at hby; rw [hi] at hby; simpa using hby
  have e1 := h.ev h1
  have e2 := h.ev h2
  unfold e_apz at he'
  split at he'
  · rename_i n hn
    obtain ⟨kk, hy⟩ := asN_some hn
    rw [hy] at e2
    split at he'
    · cases he'
    · rename_i vv hv
      unfold apz1 at he'
      split at he'
      · rename_i m hm
        rw [bleN] at he'
        by_cases hmn : m + n ≤ 1099511627776
        · rw [decide_eq_true (show Nat.add m n ≤ 1099511627776 from hmn), cond_true] at he'
          cases hs : splitSrc F M 1 (.s n 0) with
          | none => rw [hs] at he'; cases (show RC.f = .k v M' ct' from he')
          | some r =>
            obtain ⟨n', new⟩ := r
            rw [hs] at he'
            have he2 : (bif allOne new && Nat.beq new.length (Nat.mul n' 1) then app F M ct e 1 1 (xx.ev t) n' new else .f) = .k v M' ct' := he'
            rw [beqN] at he2
            by_cases hc1 : allOne new = true
            · by_cases hc2 : new.length = n' * 1
              · rw [hc1, decide_eq_true (show new.length = Nat.mul n' 1 from hc2)] at he2
                have he3 : app F M ct e 1 1 (xx.ev t) n' new = .k v M' ct' := he2
                obtain ⟨zv, hzz, hz1⟩ : ∃ zv, i.zero = some zv ∧ zv = .int .u8 0 := by
                  unfold zeroV at hzv
                  rw [hi] at hzv
                  obtain ⟨zv, g1, g2⟩ := Option.bind_eq_some_iff.1 hzv
                  exact ⟨zv, by simpa using g1, (toV_conc E c _ zv _ g2).1.symm⟩
                subst hz1
                rw [← hs1] at hs hc2 he3 hzo
                have he4 : app F M ct e i.size i.bytes (xx.ev t) n' new = .k v M' ct' := by rw [hby']; rw [hs1] at he3 ⊢; exact he3
                have := app_run (ats := #[ty]) (rty := o.type) h hf (by rfl) hu (.inr rfl) hi (by omega) hzo hs e1.2 hc1 hc2 he4
                obtain ⟨base, cap, hcx⟩ := lenV_le (E := E) hm hv
                refine EVal.op2 hop hb hargs (s := Builtin.append_ #[ty] o.type #[conc E (xx.ev t), conc E (.s n 0)]) (fun fs => ?_) this
                simp only [builtin, List.map_cons, List.map_nil, e1.1, e2.1, hcx, conc]
                have hq := appendZ_eq (P := P) (w := w) (rty := o.type) hat hat1 hu hd hi hzz hs1 hby' (base := base) (sCap := cap) (k := kk) hmn
                simp only [Sem.run_bind, List.map_cons, List.map_nil] at hq ⊢
                rw [hq]
              · rw [hc1, decide_eq_false (show ¬ new.length = Nat.mul n' 1 from hc2)] at he2; cases he2
            · rw [Bool.not_eq_true] at hc1
              rw [hc1] at he2; cases he2
        · rw [decide_eq_false (show ¬ Nat.add m n ≤ 1099511627776 from hmn)] at he'; cases he'
      · cases he'
  · cases he'
theorem cpySrc_run (h : Cx P E F M c w t a) {sz n m : Nat} {y : V} {vs : List V} (hl : lenV y = some m) (hn : n ≤ m) (hs : cpySrc F M sz n y = some vs) :
    (Builtin.lenOf (conc E y)).run P w = .ok m w ∧ (Builtin.firstCells sz n (conc E y)).run P w = .ok (concs E vs).toArray w ∧ bds c vs := by
  unfold cpySrc at hs
  split at hs
  · rename_i m' x
    obtain rfl : m' = m := Option.some.inj hl
    rw [beqN] at hs
    by_cases h1 : sz = 1
    · rw [decide_eq_true h1, cond_true] at hs
      obtain rfl := Option.some.inj hs
      refine ⟨by simp [conc, Builtin.lenOf, ba_size], ?_, byteCells_bd _ _⟩
      simp only [conc, Builtin.firstCells, Sem.run_pure, byteCells_conc]
      congr 1
      apply Array.ext'
      simp only [ba, Array.toList_map, ByteArray.data_extract, Array.toList_extract, List.extract_eq_take_drop, Nat.sub_zero, List.drop_zero]
      congr 1
      have e := bl_mod m' x
      rw [← bl_take n m' _ hn]
      show List.take n (bl m' x) = List.take n (bl m' (x % 256 ^ m'))
      rw [e]
    · rw [decide_eq_false h1] at hs; cases hs
  · rename_i y' hne
    obtain ⟨⟨vs', r⟩, hr, rfl⟩ := Option.map_eq_some_iff.1 hs
    obtain ⟨⟨ad, len, cap, hcv, hld⟩, hb, _⟩ := h.readL hr
    rcases lenV_slice (E := E) hl with ⟨ad', cap', hcv'⟩ | ⟨x, hx⟩
    · rw [hcv] at hcv'
      injection hcv' with e1 e2 e3
      subst e1 e2 e3
      rw [hcv]
      refine ⟨by simp [Builtin.lenOf], ?_, hb⟩
      cases ad with
      | none => simp only at hld; subst hld; simp [Builtin.firstCells, concs]
      | some ad => simp only [Builtin.firstCells]; exact hld
    · exact absurd hx (hne _ _)
theorem lenOf_run (w : World) {y : V} {m : Nat} (hl : lenV y = some m) : (Builtin.lenOf (conc E y)).run P w = .ok m w := by
  rcases lenV_slice (E := E) hl with ⟨ad, cap, h⟩ | ⟨x, rfl⟩
  · rw [h]; simp [Builtin.lenOf]
  · simp [conc, Builtin.lenOf, ba_size]
theorem e_copy (h : Cx P E F M c w t a) {o : Oper} {cl : Call} (hop : o.op = .call cl) (hb : cl.callee = .builtin .copy) {y z : Operand} (hargs : cl.args.toList = [y, z]) {ty e : TypeId} (hat : cl.argTypes[0]? = some ty)
    (hu : P.underlying ty = some (.slice e)) {sz : Nat} (hsz : szOf P e = some sz) {xx xy : X} (h1 : compX y = some xx) (h2 : compX z = some xy)
    {k : Kn} (hk : k.F = F) {v : V} {M' : Mem} {ct ct' : Nat} (he : doE (.cpy sz xx xy) k M ct t = .k v M' ct') : EOk P F E M c ct w a o v M' ct' := by
  have he' : e_cpy sz xx xy k.F M ct t = .k v M' ct' := he
  rw [hk] at he'
  have e1 := h.ev h1
  have e2 := h.ev h2
  unfold e_cpy at he'
  split at he'
  · cases he'
  · rename_i x hne
    unfold e_cpy1 at he'
    split at he'
    · rename_i dn sn hd hs
      rw [fN_eq, bleN] at he'
      have hmin : (bif decide (sn ≤ dn) then sn else dn) = Nat.min sn dn := by
        by_cases hh : sn ≤ dn
        · rw [decide_eq_true hh, cond_true]; exact (Nat.min_eq_left hh).symm
        · rw [decide_eq_false hh, cond_false]; exact (Nat.min_eq_right (by omega)).symm
      rw [hmin, beqN] at he'
      rcases lenV_slice (E := E) hd with ⟨ad, cap, hcx⟩ | ⟨x, hx⟩
      case inr => exact absurd hx (hne _ _)
      refine EVal.op hop hb hargs (s := Builtin.copy_ cl.argTypes o.type #[conc E (xx.ev t), conc E (xy.ev t)]) (fun fs => by simp only [builtin, List.map_cons, List.map_nil, e1.1, e2.1]) ?_
      have hlo := lenOf_run (P := P) (E := E) w hs
      by_cases h0 : Nat.min sn dn = 0
      · rw [decide_eq_true h0, cond_true] at he'
        injection he' with g1 g2 g3
        subst g1 g2 g3
        refine ⟨E, w, c, ?_, .refl h.rel, trivial, .refl _ _⟩
        have hfc : (Builtin.firstCells sz 0 (conc E (xy.ev t))).run P w = .ok #[] w := by
          rcases lenV_slice (E := E) hs with ⟨ad', cap', hcy⟩ | ⟨x, hx⟩
          · rw [hcy]; cases ad' <;> simp [Builtin.firstCells, loadCells, loadCellsFrom]
          · rw [hx]; simp [conc, Builtin.firstCells]
        rw [hcx]
        cases ad <;> simp [Builtin.copy_, hat, run_und hu, hlo, h0, run_sz hsz, hfc, storeCells, conc, goInt]
      · rw [decide_eq_false h0, cond_false] at he'
        cases hsrc : cpySrc F M sz (Nat.min sn dn) (xy.ev t) with
        | none => rw [hsrc] at he'; cases (show RC.f = .k v M' ct' from he')
        | some vs =>
          rw [hsrc] at he'
          obtain ⟨_, hfc, hbv⟩ := cpySrc_run h hs (Nat.min_le_left _ _) hsrc
          have fin : ∀ b off, conc E (xx.ev t) = .slice (some ⟨E.ρ b, E.β b + off, none⟩) dn cap → (match storeN M b off vs with
              | some M => RC.k (.i .i64 (.ofNat (Nat.min sn dn))) M ct
              | none => .f) = .k v M' ct' → EVal P F E M c ct w (Builtin.copy_ cl.argTypes o.type #[conc E (xx.ev t), conc E (xy.ev t)]) v M' ct' := by
            intro b off hcx' hg
            split at hg
            · rename_i M'' hst
              injection hg with g1 g2 g3
              subst g1 g2 g3
              obtain ⟨w', hrun, hS⟩ := h.store hst hbv
              refine ⟨E, w', c, ?_, hS, trivial, .refl _ _⟩
              rw [hcx']
              simp [Builtin.copy_, hat, run_und hu, hlo, run_sz hsz, hfc, hrun, conc, goInt]
            · cases hg
          cases hv : xx.ev t with
          | l b off len cp =>
            rw [hv] at he' hcx fin
            have hcx' : Value.slice (some ⟨E.ρ b, E.β b + off, none⟩) len cp = .slice ad dn cap := hcx
            injection hcx' with q1 q2 q3
            subst q1 q2 q3
            exact fin b off rfl he'
          | u b off len el kn =>
            rw [hv] at he' hcx fin
            have hcx' : Value.slice (some ⟨E.ρ b, E.β b + off, none⟩) len (kn - el + E.κ b) = .slice ad dn cap := hcx
            injection hcx' with q1 q2 q3
            subst q1 q2 q3
            exact fin b off rfl he'
          | _ => rw [hv] at he'; cases (show RC.f = .k v M' ct' from he')
    · cases he'
theorem zeroCells_rep (E : Env) (z : Array Value) (zs : List V) (hz : z = (concs E zs).toArray) (n : Nat) : (Builtin.zeroCells z n).toList = concs E (repV zs n) := by
  subst hz
  have hsz : (concs E zs).length = zs.length := by simp [concs_map]
  by_cases h0 : zs.length = 0
  · have hz0 : zs = [] := List.eq_nil_of_length_eq_zero h0
    subst hz0
    have : ∀ n, repV [] n = [] := by intro n; induction n with | zero => rfl | succ n ih => simp [repV, ih]
    rw [this]
    simp [Builtin.zeroCells, concs]
  · induction n with
    | zero => simp [Builtin.zeroCells, repV, concs]
    | succ n ih =>
      rw [repV, concs_map E (zs ++ repV zs n), List.map_append, ← concs_map, ← concs_map, ← ih]
      apply List.ext_getElem?
      intro i
      simp only [Builtin.zeroCells, Array.toList_map, Array.toList_range, List.getElem?_map, List.size_toArray, hsz]
      by_cases hi : i < zs.length
      · rw [List.getElem?_append_left (by omega), List.getElem?_range (by rw [Nat.succ_mul]; omega)]
        simp only [Option.map_some, Nat.mod_eq_of_lt hi]
        rw [List.getElem?_eq_getElem (by omega)]
        simp [hsz, hi]
      · rw [List.getElem?_append_right (by omega), hsz, List.getElem?_map]
        by_cases h2 : i < (n + 1) * zs.length
        · rw [List.getElem?_range h2, List.getElem?_range (by rw [Nat.succ_mul] at h2; omega)]
          simp only [Option.map_some]
          have : (i - zs.length) % zs.length = i % zs.length := (Nat.mod_eq_sub_mod (by omega)).symm
          rw [this]
        · rw [List.getElem?_eq_none (by simp; omega), List.getElem?_eq_none (by rw [Nat.succ_mul] at h2; simp; omega)]
theorem repV_bd {zs : List V} (h : bds c zs) (n : Nat) : bds c (repV zs n) := by
  induction n with
  | zero => exact trivial
  | succ n ih =>
    rw [bds_iff] at *
    intro v hv
    rw [repV, List.mem_append] at hv
    rcases hv with hv | hv
    · exact h v hv
    · exact ih v hv
theorem e_clear (h : Cx P E F M c w t a) {o : Oper} {cl : Call} (hop : o.op = .call cl) (hb : cl.callee = .builtin .clear) {y : Operand} (hargs : cl.args.toList = [y]) {ty e : TypeId} (hat : cl.argTypes[0]? = some ty)
    (hu : P.underlying ty = some (.slice e)) {z : V} (hz : zeroV P e = some z) {xx : X} (h1 : compX y = some xx)
    {k : Kn} {v : V} {M' : Mem} {ct ct' : Nat} (he : doE (.clr (cellsOfV z) xx) k M ct t = .k v M' ct') : EOk P F E M c ct w a o v M' ct' := by
  have he' : e_clr (cellsOfV z) xx k.F M ct t = .k v M' ct' := he
  have e1 := h.ev h1
  have hz' := zeroV_run (P := P) (E := E) (c := c) (w := w) hz
  have hcell : (conc E z).cells = (concs E (cellsOfV z)).toArray := by rw [flatten_cells, cellsOfV_eq]
  have hbd : bds c (cellsOfV z) := by rw [cellsOfV_eq]; exact flatten_bd hz'.2
  refine EVal.op hop hb hargs (s := Builtin.clear_ cl.argTypes o.type #[conc E (xx.ev t)]) (fun fs => by simp only [builtin, List.map_cons, List.map_nil, e1.1]) ?_
  have nothing : ∀ {ad : Option Addr} {cap : Nat}, conc E (xx.ev t) = .slice ad 0 cap → RC.k undef M ct = .k v M' ct' → EVal P F E M c ct w (Builtin.clear_ cl.argTypes o.type #[conc E (xx.ev t)]) v M' ct' := by
    intro ad cap hcx hg
    injection hg with g1 g2 g3
    subst g1 g2 g3
    refine ⟨E, w, c, ?_, .refl h.rel, trivial, .refl _ _⟩
    rw [hcx]
    cases ad <;> simp [Builtin.clear_, hat, run_und hu, conc, undef, concs]
  have fin : ∀ b off n cap, conc E (xx.ev t) = .slice (some ⟨E.ρ b, E.β b + off, none⟩) n cap → clrW M ct b off n (cellsOfV z) = .k v M' ct' → EVal P F E M c ct w (Builtin.clear_ cl.argTypes o.type #[conc E (xx.ev t)]) v M' ct' := by
    intro b off n cap hcx hg
    unfold clrW at hg
    rw [beqN] at hg
    by_cases h0 : n = 0
    · subst h0
      rw [decide_eq_true rfl, cond_true] at hg
      exact nothing hcx hg
    · rw [decide_eq_false h0, cond_false] at hg
      cases hst : storeN M b off (repV (cellsOfV z) n) with
      | none => rw [hst] at hg; cases (show RC.f = .k v M' ct' from hg)
      | some M2 =>
        rw [hst] at hg
        have hg' : RC.k undef M2 ct = .k v M' ct' := hg
        injection hg' with g1 g2 g3
        subst g1 g2 g3
        obtain ⟨w', hrun, hS⟩ := h.store hst (repV_bd hbd n)
        refine ⟨E, w', c, ?_, hS, trivial, .refl _ _⟩
        rw [hcx]
        have hzc := zeroCells_rep E _ _ hcell n
        obtain ⟨m, rfl⟩ : ∃ m, n = m + 1 := ⟨n - 1, by omega⟩
        simp [Builtin.clear_, hat, run_und hu, hz'.1, hzc, hrun, conc, undef, concs]
  unfold e_clr at he'
  split at he'
  · rename_i hv
    exact nothing (ad := none) (cap := 0) (by rw [hv]; rfl) he'
  · rename_i b o0 off hv
    exact nothing (by rw [hv]; rfl) he'
  · rename_i b off n cp hv
    exact fin b off n cp (by rw [hv]; rfl) he'
  · rename_i b off n el kn hv
    exact fin b off n _ (by rw [hv]; rfl) he'
  · cases he'
theorem lies_bytes {e : TypeId} (hc : P.cellsOf e = 1) (count off n : Nat) (hn : off + n ≤ count) : liesAt P P.depth e count off e n = true := by
  have hd : P.depth = (2 * (P.types.size + Made.depth) + 1) + 1 := rfl
  rw [hd]
  simp only [liesAt, Bool.or_eq_true]
  left
  rw [hd]
  simp [rowAt, hc, hn, sameLayout, Nat.mod_one]
theorem freezeM_some {b o n : Nat} {M' : Mem} (h : freezeM M b o n = some M') : ∃ ty m ex fz d cs, M.get b = some (.cells ty m ex fz false d cs) ∧ M' = M.set b (.cells ty m ex (if fz ≤ o + n then o + n else fz) false d cs) := by
  unfold freezeM at h
  split at h
  · rename_i ty m ex fz str d cs hM
    cases str with
    | true => cases h
    | false =>
      rw [cond_false, fN_eq, bleN] at h
      obtain rfl := Option.some.inj h
      refine ⟨_, _, _, _, _, _, hM, ?_⟩
      congr 2
      by_cases hh : fz ≤ o + n
      · rw [decide_eq_true (show fz ≤ Nat.add o n from hh), if_pos hh]; rfl
      · rw [decide_eq_false (show ¬ fz ≤ Nat.add o n from hh), if_neg hh]; rfl
  · cases h
theorem loadBytes_run (r : Nat) : ∀ (ns : List Nat) (off : Nat) (acc : ByteArray), (∀ j (hj : j < ns.length), w.cell? ⟨r, off + j, none⟩ = some (.int .u8 (ns[j] : Int))) →
    (loadBytes ⟨r, off, none⟩ acc ns.length).run P w = .ok ⟨acc.data ++ (ns.map fun c => UInt8.ofNat c).toArray⟩ w
  | [], off, acc, _ => by simp [loadBytes]
  | x :: l, off, acc, h => by
    have h0 : w.cell? ⟨r, off, none⟩ = some (.int .u8 (x : Int)) := h 0 (by simp)
    have ih := loadBytes_run r l (off + 1) (acc.push x.toUInt8) (fun j hj => by
      have := h (j + 1) (by simpa using hj)
      rw [show off + 1 + j = off + (j + 1) by omega]
      simpa using this)
    simp only [List.length_cons, loadBytes, Sem.run_bind, run_load, h0, Result.andThen, Int.toNat_natCast, Addr.add_eq]
    rw [ih]
    congr 1
    apply ByteArray.ext
    simp [ByteArray.push]
theorem us_nil {ats : Array TypeId} {rty pt : TypeId} (hat : ats[0]? = some pt) (p : Option Addr) (k : IntKind) : (Builtin.unsafeString_ ats rty #[.pointer p, .int k 0]).run P w = .ok (.string .empty) w := by
  have hmax : IntKind.i64.max = 9223372036854775807 := rfl
  conv => lhs; arg 2; whnf
  cases p <;> simp [asInt, asIntOf, hmax, hat]
theorem us_some {ats : Array TypeId} {rty pt e : TypeId} (hat : ats[0]? = some pt) (hu : P.underlying pt = some (.pointer e)) (ad : Addr) (k : IntKind) {n : Nat} (h0 : n ≠ 0) (hn : n ≤ 1099511627776) (hv : (variablesAt ad e n).run P w = .ok true w) {s : ByteArray} (hl : (loadBytes ad .empty n).run P w = .ok s w) :
    (Builtin.unsafeString_ ats rty #[.pointer (some ad), .int k n]).run P w = .ok (.string s) (w.freeze ad n) := by
  have hmax : IntKind.i64.max = 9223372036854775807 := rfl
  have h1 : ¬ ((n : Int) < 0) := by omega
  have h2 : ¬ ((9223372036854775807 : Int) < (n : Int)) := by omega
  have h3 : ¬ ((n : Int) = 0) := by omega
  conv => lhs; arg 2; whnf
  simp [asInt, asIntOf, hmax, hat, h1, h2, h3, h0, elemOf, run_und hu, hv, hl, run_freeze]
theorem e_unsafeString (h : Cx P E F M c w t a) {o : Oper} {cl : Call} (hop : o.op = .call cl) (hb : cl.callee = .builtin .unsafeString) {y z : Operand} (hargs : cl.args.toList = [y, z]) {pt e : TypeId} (hat : cl.argTypes[0]? = some pt)
    (hu : P.underlying pt = some (.pointer e)) (hsz : szOf P e = some 1) {xx xy : X} (h1 : compX y = some xx) (h2 : compX z = some xy)
    {k : Kn} (hk : k.F = F) {v : V} {M' : Mem} {ct ct' : Nat} (he : doE (.us e xx xy) k M ct t = .k v M' ct') : EOk P F E M c ct w a o v M' ct' := by
  have he' : e_us e xx xy k.F M ct t = .k v M' ct' := he
  rw [hk] at he'
  have e1 := h.ev h1
  have e2 := h.ev h2
  have hmax : IntKind.i64.max = 9223372036854775807 := rfl
  unfold e_us at he'
  split at he'
  · rename_i n hn
    obtain ⟨ik, hy⟩ := asN_some hn
    rw [hy] at e2
    refine EVal.op hop hb hargs (s := Builtin.unsafeString_ cl.argTypes o.type #[conc E (xx.ev t), .int ik n]) (fun fs => by simp only [builtin, List.map_cons, List.map_nil, e1.1, e2.1, conc]) ?_
    have hz : (conc E (.s 0 0)) = .string .empty := by simp only [conc]; rfl
    split at he'
    · rename_i hv
      rw [beqN] at he'
      by_cases h0 : n = 0
      · subst h0
        rw [decide_eq_true rfl, cond_true] at he'
        injection he' with g1 g2 g3
        subst g1 g2 g3
        refine ⟨E, w, c, ?_, .refl h.rel, trivial, .refl _ _⟩
        rw [hv, hz]; exact us_nil hat none ik
      · rw [decide_eq_false h0] at he'; cases he'
    · rename_i b off hv
      unfold e_us1 at he'
      rw [beqN] at he'
      by_cases h0 : n = 0
      · subst h0
        rw [decide_eq_true rfl, cond_true] at he'
        injection he' with g1 g2 g3
        subst g1 g2 g3
        refine ⟨E, w, c, ?_, .refl h.rel, trivial, .refl _ _⟩
        rw [hv, hz]; exact us_nil hat _ ik
      · rw [decide_eq_false h0, cond_false, bleN] at he'
        cases hty : tyIs M b e with
        | false => rw [hty] at he'; cases he'
        | true =>
          by_cases hnb : n ≤ 1099511627776
          · rw [hty, decide_eq_true hnb] at he'
            simp only [Bool.and_self, cond_true] at he'
            split at he'
            · rename_i vs hld
              unfold e_us2 at he'
              split at he'
              · rename_i n' s hbv
                split at he'
                · rename_i M'' hfz
                  rw [fN_eq, fN_eq] at he'
                  injection he' with g1 g2 g3
                  subst g1 g2 g3
                  obtain ⟨ty, m, ex, fz, d, cs, hM, rfl⟩ := freezeM_some hfz
                  obtain ⟨arr, fr, ho, hr⟩ := h.cells (look_some_M hM)
                  have hte : ty = e := by
                    unfold tyIs at hty; rw [hM] at hty; simp only [beqN] at hty; exact of_decide_eq_true hty
                  subst hte
                  have hl := h.loadN hld
                  obtain ⟨ns, rfl, rfl, hbb⟩ := bytesV_spec _ _ _ hbv
                  have hnl : ns.length = n := by simpa using hl.2.2
                  have hcells : ∀ j (hj : j < ns.length), w.cell? ⟨E.ρ b, E.β b + off + j, none⟩ = some (.int .u8 (ns[j] : Int)) := by
                    intro j hjn
                    obtain ⟨ty', m', ex', fz', str', d', cs', hb', hg⟩ := asCells_some (f := none) hld (by simp)
                    rw [look_some_M hM] at hb'
                    injection hb' with hb'
                    injection hb' with q1 q2 q3 q4 q5 q6 q7
                    subst q2 q6 q7
                    have hcell := (cellsAt_get _ _ _ hg).2 j (.i .u8 (.ofNat ns[j])) (by simp [hjn])
                    have := hr.cell _ _ hcell
                    simp only [World.cell?, ho, Option.isSome_none, Bool.false_eq_true, if_false]
                    rw [Nat.add_assoc, this]
                    rfl
                  have hsize : E.β b + off + n ≤ arr.size := by
                    have := hcells (n - 1) (by omega)
                    simp only [World.cell?, ho, Option.isSome_none, Bool.false_eq_true, if_false] at this
                    have := (Array.getElem?_eq_some_iff.1 this).1
                    omega
                  have hlb := loadBytes_run (P := P) (w := w) (E.ρ b) ns (E.β b + off) .empty hcells
                  have hba : (⟨ByteArray.empty.data ++ (ns.map fun c => UInt8.ofNat c).toArray⟩ : ByteArray) = ba ns.length s := by
                    unfold ba; rw [hbb]; apply ByteArray.ext; simp
                  rw [hba] at hlb
                  have hco := cellsOf_sz hsz
                  have hva : (variablesAt ⟨E.ρ b, E.β b + off, none⟩ ty n).run P w = .ok true w := by
                    have hsh : w.shape? (E.ρ b) = some (ty, arr.size) := by simp [World.shape?, ho]
                    simp [variablesAt, run_shape, hsh, hco, lies_bytes hco arr.size (E.β b + off) n hsize]
                  subst hnl
                  have hrun := us_some (w := w) (rty := o.type) hat hu ⟨E.ρ b, E.β b + off, none⟩ ik h0 hnb hva hlb
                  have hfw : w.freeze ⟨E.ρ b, E.β b + off, none⟩ ns.length = { w with heap := w.heap.setIfInBounds (E.ρ b) (.cells arr ty (if fr.1 == fr.2 then (E.β b + off, E.β b + off + ns.length) else (min fr.1 (E.β b + off), max fr.2 (E.β b + off + ns.length)))) } := by
                    unfold World.freeze
                    rw [if_neg h0, modify_eq _ ho]
                  rw [hfw] at hrun
                  generalize hnf : (if fr.1 == fr.2 then (E.β b + off, E.β b + off + ns.length) else (min fr.1 (E.β b + off), max fr.2 (E.β b + off + ns.length))) = nf at hrun
                  refine ⟨E, { w with heap := w.heap.setIfInBounds (E.ρ b) (.cells arr ty nf) }, c, ?_, h.rel.write b _ _ hM (.cells arr ty nf) ?_ { w with heap := w.heap.setIfInBounds (E.ρ b) (.cells arr ty nf) } rfl rfl rfl rfl ?_, trivial, .refl _ _⟩
                  · rw [hv]; exact hrun
                  · exact (h.rel.has _ _ (look_some_M hM)).2.1
                  · subst hnf
                    have hhi : (if fr.1 == fr.2 then (E.β b + off, E.β b + off + ns.length) else (min fr.1 (E.β b + off), max fr.2 (E.β b + off + ns.length))).2 ≤ E.β b + (if fz ≤ off + ns.length then off + ns.length else fz) := by
                      by_cases hfe : fr.1 = fr.2
                      · rw [if_pos (by simpa using hfe)]
                        simp only
                        split <;> omega
                      · rw [if_neg (by simpa using hfe)]
                        simp only
                        rcases hr.plain rfl with hp | ⟨hp, hp'⟩
                        · exact absurd hp hfe
                        · split <;> omega
                    refine ⟨arr, _, rfl, ⟨hr.cell, hr.size, fun k hk hk' hf => ?_, fun _ => .inr ⟨?_, hhi⟩⟩⟩
                    · have := hf.2
                      omega
                    · split <;> omega
                · cases he'
              · cases he'
            · cases he'
          · rw [decide_eq_false hnb, Bool.and_false] at he'; cases he'
    · cases he'
  · cases he'
end
end Go.Proofs.YtaogopbhjinmoaaGreatDoor.Ev
namespace Go.Proofs.YtaogopbhjinmoaaGreatDoor.Ev
open Go
section
variable {P : Program} {E : Env} {F : RO} {M : Mem} {c : Nat → Prop} {w : World} {t : T} {a : Act}
theorem run_getObj_other {r : Nat} {o : Obj} (h : w.heap[r]? = some o) (hn : ∀ x y z, o ≠ .cells x y z) : (getObj r).run P w = .ok o w := by
  simp only [getObj, Sem.run, h]
theorem ba_get {n s i : Nat} (h : i < n) : ((ba n s).get! i).toNat = s / 256 ^ i % 256 := by
  have hb := bl_get n s i h
  have : (ba n s).get! i = UInt8.ofNat (s / 256 ^ i % 256) := by
    show (bl n s).toArray[i]! = _
    simp [hb]
  rw [this]
  simp [UInt8.toNat_ofNat']
theorem e_nextS (h : Cx P E F M c w t a) {o : Oper} {y : Operand} (hop : o.op = .next y true) {x : X} (hx : compX y = some x) {k : Kn} {v : V} {M' : Mem} {ct ct' : Nat} (he : doE (.nxs x) k M ct t = .k v M' ct') : EOk P F E M c ct w a o v M' ct' := by
  have he' : e_nxs x k.F M ct t = .k v M' ct' := he
  have e := h.ev hx
  unfold e_nxs at he'
  split at he'
  · rename_i b hv
    rw [hv] at e
    unfold nxsIn at he'
    split at he'
    · rename_i n s pos hM
      obtain ⟨_, _, ob, hob, hβ, rfl⟩ := h.rel.has _ _ (look_some_M hM)
      have hgo := run_getObj_other (P := P) hob (by intros; simp)
      have hpt : a.eval y = .pointer (some ⟨E.ρ b, 0, none⟩) := by rw [e.1]; simp [conc, hβ]
      rw [bltN] at he'
      by_cases hp : pos < n
      · rw [decide_eq_true hp, cond_true, fN_eq, bltN] at he'
        by_cases hch : s / 256 ^ pos % 256 < 128
        · rw [decide_eq_true (show Nat.mod (Nat.div s (p256 pos)) 256 < 128 from hch), cond_true, fN_eq, setM_eq] at he'
          injection he' with g1 g2 g3
          subst g1 g2 g3
          have hdec : Utf8.decode (ba n s) pos = (s / 256 ^ pos % 256, 1) := by
            have := ba_get (s := s) hp
            simp only [Utf8.decode, Nat.add_zero, this, if_pos hch]
          have hso := run_setObj (P := P) (o' := .stringIter (ba n s) (pos + 1)) hob (by intros; simp)
          refine ⟨E, _, .value (.tuple #[.bool true, goInt pos, .int .i32 (s / 256 ^ pos % 256 : Nat)]), c, ?_, .inl rfl, h.rel.write b _ (.siter n s (pos + 1)) hM (.stringIter (ba n s) (pos + 1)) trivial { w with heap := w.heap.setIfInBounds (E.ρ b) (.stringIter (ba n s) (pos + 1)) } rfl rfl rfl rfl ⟨hβ, rfl⟩, ⟨trivial, trivial, trivial, trivial⟩, .refl _ _⟩
          simp only [execOp, hop]
          refine val_run ?_
          rw [hpt]
          simp only [Instr.next, Sem.run_bind, hgo, Result.andThen_ok, ba_size, hp, if_true, hdec, hso, Sem.run_pure, Sem.run_ite]
        · rw [decide_eq_false (show ¬ Nat.mod (Nat.div s (p256 pos)) 256 < 128 from hch), cond_false] at he'
          unfold nxsU at he'
          rw [fN_eq, fN_eq, setM_eq] at he'
          injection he' with g1 g2 g3
          subst g1 g2 g3
          have hso := run_setObj (P := P) (o' := .stringIter (ba n s) (pos + (Utf8.decode (ba n s) pos).2)) hob (by intros; simp)
          refine ⟨E, _, .value (.tuple #[.bool true, goInt pos, .int .i32 ((Utf8.decode (ba n s) pos).1 : Nat)]), c, ?_, .inl rfl, h.rel.write b _ (.siter n s (pos + (Utf8.decode (ba n s) pos).2)) hM (.stringIter (ba n s) (pos + (Utf8.decode (ba n s) pos).2)) trivial { w with heap := w.heap.setIfInBounds (E.ρ b) (.stringIter (ba n s) (pos + (Utf8.decode (ba n s) pos).2)) } rfl rfl rfl rfl ⟨hβ, rfl⟩, ⟨trivial, trivial, trivial, trivial⟩, .refl _ _⟩
          simp only [execOp, hop]
          refine val_run ?_
          rw [hpt]
          simp only [Instr.next, Sem.run_bind, hgo, Result.andThen_ok, ba_size, hp, if_true, hso, Sem.run_pure, Sem.run_ite]
      · rw [decide_eq_false hp, cond_false] at he'
        injection he' with g1 g2 g3
        subst g1 g2 g3
        refine ⟨E, w, .value (.tuple #[.bool false]), c, ?_, .inl rfl, .refl h.rel, ⟨trivial, trivial⟩, .refl _ _⟩
        simp only [execOp, hop]
        refine val_run ?_
        rw [hpt]
        simp only [Instr.next, Sem.run_bind, hgo, Result.andThen_ok, ba_size, hp, if_false, Sem.run_pure, Sem.run_ite]
    · cases he'
  · cases he'
theorem e_rangeM (h : Cx P E F M c w t a) {ct : Nat} (hf : Fresh c ct) {o : Oper} {ty kt et : TypeId} {y : Operand} (hop : o.op = .range ty y) (hu : P.underlying ty = some (.map kt et)) {x : X} (hx : compX y = some x) {k : Kn} (hk : k.F = F) {v : V} {M' : Mem} {ct' : Nat} (he : doE (.rgm x) k M ct t = .k v M' ct') : EOk P F E M c ct w a o v M' ct' := by
  have he' : e_rgm x k.F M ct t = .k v M' ct' := he
  rw [hk] at he'
  have e := h.ev hx
  unfold e_rgm at he'
  split at he'
  · rename_i hv
    rw [fN_eq, setM_eq] at he'
    injection he' with g1 g2 g3
    subst g1 g2 g3
    rw [hv] at e
    obtain ⟨E', hS, hE, hρ, hβ, _⟩ := h.rel.alloc (.miter none 0 [] 0) (.mapIter none 0 #[] 0) ct 0 (fun b => c b ∨ b = ct) (hf ct (Nat.le_refl _)) (.inr rfl) (fun _ h => .inl h) (fun b hb => by cases hb) { w with heap := w.heap.push (.mapIter none 0 #[] 0) } rfl rfl rfl rfl (fun E' _ _ hβ _ => ⟨hβ, rfl⟩)
    refine ⟨E', _, .value (conc E' (.p ct 0)), _, ?_, .inl rfl, hS, .inr rfl, grow_one c ct⟩
    simp only [execOp, hop]
    refine val_run ?_
    rw [e.1]
    simp [Instr.range, run_und hu, conc, hρ, hβ]
  · rename_i b hv
    obtain ⟨es, clock, hM, hg⟩ := asMap_rc he'
    rw [fN_eq, setM_eq] at hg
    injection hg with g1 g2 g3
    subst g1 g2 g3
    rw [hv] at e
    obtain ⟨ho, hbd⟩ := h.map hM
    obtain ⟨E', hS, hE, hρ, hβ, _⟩ := h.rel.alloc (.miter (some b) clock [] clock) (.mapIter (some (E.ρ b)) clock #[] clock) ct 0 (fun b => c b ∨ b = ct) (hf ct (Nat.le_refl _)) (.inr rfl) (fun _ h => .inl h) (fun b' hb' => by cases hb'; exact .inl e.2) { w with heap := w.heap.push (.mapIter (some (E.ρ b)) clock #[] clock) } rfl rfl rfl rfl (fun E' he _ hβ _ => ⟨hβ, by simp [he.ρ b e.2]⟩)
    refine ⟨E', _, .value (conc E' (.p ct 0)), _, ?_, .inl rfl, hS, .inr rfl, grow_one c ct⟩
    simp only [execOp, hop]
    refine val_run ?_
    rw [e.1]
    simp [Instr.range, run_und hu, conc, hρ, hβ, run_getObj_map ho]
  · cases he'
theorem leftE_eq (seen : List Nat) : ∀ es, leftE seen es = es.filter fun e => !seen.contains e.2.2
  | [] => rfl
  | h :: r => by
    have : leftE seen (h :: r) = (bif memN h.2.2 seen then leftE seen r else h :: leftE seen r) := rfl
    rw [this, memN_eq, leftE_eq seen r, List.filter_cons]
    cases seen.contains h.2.2 <;> rfl
theorem allOld_iff (since : Nat) : ∀ es : List (V × V × Nat), allOld since es = true → ∀ e ∈ es, e.2.2 < since
  | [], _, e, he => by cases he
  | h :: r, ha, e, he => by
    have h' : (Nat.blt h.2.2 since && allOld since r) = true := by rw [← ha]; rfl
    rw [bltN, Bool.and_eq_true] at h'
    cases he with
    | head => exact of_decide_eq_true h'.1
    | tail _ hm => exact allOld_iff since r h'.2 e hm
theorem nextM_run {ty r m : Nat} {esr left : List MapEntry} {clock since st : Nat} {seen : List Nat} (hr : w.heap[r]? = some (.mapIter (some m) since seen.toArray st)) (hm : w.heap[m]? = some (.map esr.toArray clock))
    (hold : ∀ e ∈ esr, e.born < since) (hst : since ≤ st) (hl : esr.filter (fun e => !seen.contains e.born) = left) :
    (left = [] → (Instr.next (.pointer (some ⟨r, 0, none⟩)) false ty).run P w = .ok (.tuple #[.bool false]) w) ∧
    (∀ e, left = [e] → (Instr.next (.pointer (some ⟨r, 0, none⟩)) false ty).run P w = .ok (.tuple #[.bool true, e.key, e.val]) { w with heap := w.heap.setIfInBounds r (.mapIter (some m) since (seen.toArray.push e.born) clock) }) := by
  have hgo := run_getObj_other (P := P) hr (by intros; simp)
  have hgm := run_getObj_map (P := P) hm
  have hc : (!seen.toArray.isEmpty && !esr.toArray.isEmpty && esr.toArray.all (fun e => decide (e.born ≥ st))) = false := by
    cases esr with
    | nil => simp
    | cons h0 r0 =>
      have := hold h0 (by simp)
      simp
      intro _ h1; omega
  have hleft : esr.toArray.filter (fun e => !seen.toArray.contains e.born) = left.toArray := by
    rw [List.filter_toArray', ← hl]
    · simp
    · simp
  have hlold : ∀ e ∈ left, e.born < since := by
    intro e he
    rw [← hl] at he
    exact hold e (List.mem_filter.1 he).1
  have h1 : left.toArray.filter (fun e => decide (e.born < since)) = left.toArray := by
    rw [List.filter_toArray' (by simp)]
    congr 1
    exact List.filter_eq_self.2 fun e he => by simpa using hlold e he
  have h2 : left.toArray.filter (fun e => decide (e.born ≥ since)) = #[] := by
    rw [List.filter_toArray' (by simp)]
    rw [List.filter_eq_nil_iff.2]
    intro e he; have := hlold e he; simp; omega
  constructor
  · intro e0
    subst e0
    simp only [Instr.next, Sem.run_bind, hgo, hgm, Result.andThen_ok, hc, Bool.false_eq_true, if_false, Sem.run_ite, Sem.run_pure, hleft, h1, h2]
    simp [Question.forced]
  · intro e e0
    subst e0
    have hso := run_setObj (P := P) (o' := .mapIter (some m) since (seen.toArray.push e.born) clock) hr (by intros; simp)
    simp only [Instr.next, Sem.run_bind, hgo, hgm, Result.andThen_ok, hc, Bool.false_eq_true, if_false, Sem.run_ite, Sem.run_pure, hleft, h1, h2]
    simp only [List.push_toArray] at hso ⊢
    simp [Question.forced, hso]
theorem e_nextM (h : Cx P E F M c w t a) {o : Oper} {y : Operand} (hop : o.op = .next y false) {x : X} (hx : compX y = some x) {k : Kn} (hk : k.F = F) {v : V} {M' : Mem} {ct ct' : Nat} (he : doE (.nxm x) k M ct t = .k v M' ct') : EOk P F E M c ct w a o v M' ct' := by
  have he' : e_nxm x k.F M ct t = .k v M' ct' := he
  rw [hk] at he'
  have e := h.ev hx
  unfold e_nxm at he'
  split at he'
  · rename_i b hv
    rw [hv] at e
    unfold nxmIn at he'
    split at he'
    · rename_i i1 i2 i3 hM
      injection he' with g1 g2 g3
      subst g1 g2 g3
      obtain ⟨_, _, ob, hob, hβ, rfl⟩ := h.rel.has _ _ (look_some_M hM)
      have hgo := run_getObj_other (P := P) hob (by intros; simp)
      have hpt : a.eval y = .pointer (some ⟨E.ρ b, 0, none⟩) := by rw [e.1]; simp [conc, hβ]
      refine ⟨E, w, .value (.tuple #[.bool false]), c, ?_, .inl rfl, .refl h.rel, ⟨trivial, trivial⟩, .refl _ _⟩
      simp only [execOp, hop]
      refine val_run ?_
      rw [hpt]
      simp [Instr.next, hgo]
    · rename_i m since seen st hM
      obtain ⟨_, hbb, ob, hob, hβ, rfl⟩ := h.rel.has _ _ (look_some_M hM)
      have hgo := run_getObj_other (P := P) hob (by intros; simp)
      have hpt : a.eval y = .pointer (some ⟨E.ρ b, 0, none⟩) := by rw [e.1]; simp [conc, hβ]
      obtain ⟨es, clock, hm, hg⟩ := asMap_rc he'
      obtain ⟨ho, hbd⟩ := h.map hm
      have hgm := run_getObj_map (P := P) ho
      by_cases hal : allOld since es = true
      · by_cases hst : since ≤ st
        · rw [hal, bleN, decide_eq_true hst] at hg
          simp only [Bool.and_self, cond_true] at hg
          have hold := allOld_iff since es hal
          have hold' : ∀ e ∈ es.map (entry E), e.born < since := by
            intro e' he'
            obtain ⟨e0, h0, rfl⟩ := List.mem_map.1 he'
            exact hold e0 h0
          have hl : (es.map (entry E)).filter (fun e => !seen.contains e.born) = (leftE seen es).map (entry E) := by
            rw [leftE_eq, List.filter_map]; rfl
          have key := nextM_run (P := P) (ty := o.type) (r := E.ρ b) (m := E.ρ m) hob ho hold' hst hl
          split at hg
          · rename_i hle
            injection hg with g1 g2 g3
            subst g1 g2 g3
            refine ⟨E, w, .value (.tuple #[.bool false]), c, ?_, .inl rfl, .refl h.rel, ⟨trivial, trivial⟩, .refl _ _⟩
            simp only [execOp, hop]
            refine val_run ?_
            rw [hpt]
            exact key.1 (by rw [hle]; rfl)
          · rename_i k0 v0 born hle
            rw [setM_eq] at hg
            injection hg with g1 g2 g3
            subst g1 g2 g3
            have hin : (k0, v0, born) ∈ es := by
              have : (k0, v0, born) ∈ leftE seen es := by rw [hle]; simp
              rw [leftE_eq] at this
              exact (List.mem_filter.1 this).1
            refine ⟨E, _, .value (.tuple #[.bool true, conc E k0, conc E v0]), c, ?_, .inl rfl, h.rel.write b _ (.miter (some m) since (seen ++ [born]) clock) hM (.mapIter (some (E.ρ m)) since (seen.toArray.push born) clock) hbb { w with heap := w.heap.setIfInBounds (E.ρ b) (.mapIter (some (E.ρ m)) since (seen.toArray.push born) clock) } rfl rfl rfl rfl ⟨hβ, by simp⟩, ⟨trivial, (hbd _ hin).1, (hbd _ hin).2, trivial⟩, .refl _ _⟩
            simp only [execOp, hop]
            refine val_run ?_
            rw [hpt]
            exact key.2 (entry E (k0, v0, born)) (by rw [hle]; rfl)
          · cases hg
        · rw [hal, bleN, decide_eq_false hst] at hg; cases hg
      · rw [Bool.not_eq_true] at hal
        rw [hal] at hg; cases hg
    · cases he'
  · cases he'
theorem lastN_eq : ∀ l : List Nat, lastN l = l.getLast?
  | [] => rfl
  | [a] => rfl
  | a :: b :: l => by rw [lastN, lastN_eq (b :: l)]; simp
theorem findBorn_eq (s : Nat) : ∀ es : List (V × V × Nat), ((es.map (entry E)).find? fun e => e.born == s) = (findBorn s es).map fun p => ({ key := conc E p.1, val := conc E p.2, born := s } : MapEntry)
  | [] => rfl
  | (k, v, b) :: r => by
    rw [List.map_cons, List.find?_cons, findBorn, beqN]
    show (match b == s with | true => some (entry E (k, v, b)) | false => _) = _
    by_cases e : b = s
    · subst e
      simp [entry]
    · rw [show (b == s) = false by simpa using e, show decide ((k, v, b).2.2 = s) = false by simpa using e]
      exact findBorn_eq s r
theorem findBorn_mem {s : Nat} {k v : V} : ∀ {es : List (V × V × Nat)}, findBorn s es = some (k, v) → ∃ e ∈ es, e.1 = k ∧ e.2.1 = v
  | h :: r, hf => by
    rw [findBorn] at hf
    cases hb : Nat.beq h.2.2 s with
    | true =>
      rw [hb, cond_true] at hf
      have := Option.some.inj hf
      injection this with e1 e2
      exact ⟨h, by simp, e1, e2⟩
    | false =>
      rw [hb, cond_false] at hf
      obtain ⟨e, he, h1⟩ := findBorn_mem hf
      exact ⟨e, by simp [he], h1⟩
theorem e_entry (h : Cx P E F M c w t a) {o : Oper} {y : Operand} (hop : o.op = .entry y) {x : X} (hx : compX y = some x) {k : Kn} (hk : k.F = F) {v : V} {M' : Mem} {ct ct' : Nat} (he : doE (.ent x) k M ct t = .k v M' ct') : EOk P F E M c ct w a o v M' ct' := by
  have he' : e_ent x k.F M ct t = .k v M' ct' := he
  rw [hk] at he'
  have e := h.ev hx
  unfold e_ent at he'
  split at he'
  · rename_i b hv
    rw [hv] at e
    unfold entIn at he'
    split at he'
    · rename_i m since seen st hM
      obtain ⟨_, hbb, ob, hob, hβ, rfl⟩ := h.rel.has _ _ (look_some_M hM)
      have hgo := run_getObj_other (P := P) hob (by intros; simp)
      have hpt : a.eval y = .pointer (some ⟨E.ρ b, 0, none⟩) := by rw [e.1]; simp [conc, hβ]
      obtain ⟨es, clock, hm, hg⟩ := asMap_rc he'
      obtain ⟨ho, hbd⟩ := h.map hm
      have hgm := run_getObj_map (P := P) ho
      rw [beqN] at hg
      by_cases hcl : clock = st
      · subst hcl
        rw [decide_eq_true rfl, cond_true] at hg
        cases hl : lastN seen with
        | none => rw [hl] at hg; cases (show RC.f = .k v M' ct' from hg)
        | some s =>
          rw [hl] at hg
          have hg2 : entOut M ct (findBorn s es) = .k v M' ct' := hg
          cases hf : findBorn s es with
          | none => rw [hf] at hg2; cases (show RC.f = .k v M' ct' from hg2)
          | some kv =>
            obtain ⟨k0, v0⟩ := kv
            rw [hf] at hg2
            have hg3 : RC.k (.t [k0, v0]) M ct = .k v M' ct' := hg2
            injection hg3 with g1 g2 g3
            subst g1 g2 g3
            obtain ⟨e0, he0, r1, r2⟩ := findBorn_mem hf
            have hb0 := hbd _ he0
            rw [r1, r2] at hb0
            have hback : seen.toArray.back? = some s := by rw [List.back?_toArray, ← lastN_eq, hl]
            have hfind := findBorn_eq (E := E) s es
            rw [hf] at hfind
            refine ⟨E, w, .value (.tuple #[conc E k0, conc E v0]), c, ?_, .inl rfl, .refl h.rel, ⟨hb0.1, hb0.2, trivial⟩, .refl _ _⟩
            simp only [execOp, hop]
            refine val_run ?_
            rw [hpt]
            simp [Instr.entry, hgo, hgm, hback, hfind]
      · rw [decide_eq_false hcl] at hg; cases hg
    · cases he'
  · cases he'
theorem nx_mc : Extern.allNextRows.lookup "maps.clone" = none := by kernel_rfl
theorem ge_mc : Extern.allGenericRows.lookup "maps.clone" = none := by kernel_rfl
theorem ty_mc : Extern.allTypedRows.lookup "maps.clone" = none := by kernel_rfl
theorem al_mc : Extern.allRows.lookup "maps.clone" = some Extern.MapsClone.clone := by kernel_rfl
theorem mclone_run {r : Nat} {es : Array MapEntry} {clock : Nat} (t : TypeId) (hb : w.heap[r]? = some (.map es clock)) :
    (Extern.MapsClone.clone #[.iface t (.map (some r))]).run P w = .ok (.iface t (.map (some w.heap.size))) { w with heap := w.heap.push (.map es clock) } := by
  have e : Extern.MapsClone.clone #[.iface t (.map (some r))] = (getObj r >>= fun o => match o with
      | .map entries clock => (newObj (.map entries clock) >>= fun n => pure (.iface t (.map (some n))))
      | _ => stuck "maps.clone: a map expected") := rfl
  rw [e]
  simp [run_getObj_map (P := P) hb, newObj]
  rfl
theorem e_mclone (h : Cx P E F M c w t a) {ct : Nat} (hf : Fresh c ct) {o : Oper} {cl : Call} {f : FuncId} {fn : Func} (hop : o.op = .call cl) (hcal : cl.callee = .value (.func f)) (hf0 : P.funcs[f]? = some fn) (hb : fn.body.isNone = true) (hor : fn.origin = "") (hnm : fn.name = "maps.clone") {y : Operand} (hargs : cl.args.toList = [y])
    {x : X} (hx : compX y = some x) {k : Kn} (hk : k.F = F) {v : V} {M' : Mem} {ct' : Nat} (he : doE (.mcl x) k M ct t = .k v M' ct') : EOk P F E M c ct w a o v M' ct' := by
  have he' : e_mcl x k.F M ct t = .k v M' ct' := he
  rw [hk] at he'
  have e := h.ev hx
  unfold e_mcl at he'
  split at he'
  · rename_i ty b hv
    obtain ⟨es, clock, hM, hg⟩ := asMap_rc he'
    rw [fN_eq, setM_eq] at hg
    injection hg with g1 g2 g3
    subst g1 g2 g3
    rw [hv] at e
    obtain ⟨ho, hbd⟩ := h.map hM
    obtain ⟨E', hS, hE, hρ, hβ, _⟩ := h.rel.alloc (.map es clock) (.map (es.map (entry E)).toArray clock) ct 0 (fun b => c b ∨ b = ct) (hf ct (Nat.le_refl _)) (.inr rfl) (fun _ h => .inl h) (fun e he => ⟨bd_mono (fun _ h => .inl h) _ (hbd e he).1, bd_mono (fun _ h => .inl h) _ (hbd e he).2⟩) { w with heap := w.heap.push (.map (es.map (entry E)).toArray clock) } rfl rfl rfl rfl (fun E' he _ hβ _ => BlkRel.ext (P := P) (b := b) (blk := .map es clock) rfl he e.2 hbd)
    refine ⟨E', _, .value (conc E' (.a ty (.m ct))), _, ?_, .inl rfl, hS, .inr rfl, grow_one c ct⟩
    refine exec_extern hop hcal hf0 hb (by rw [hnm]; decide) (next_none hnm hor nx_mc nx_empty) (find_plain hnm ge_mc ty_mc al_mc) hargs ?_
    simp only [List.map_cons, List.map_nil, e.1, conc]
    rw [mclone_run ty ho, hρ]
  · cases he'
end
end Go.Proofs.YtaogopbhjinmoaaGreatDoor.Ev
namespace Go.Proofs.YtaogopbhjinmoaaGreatDoor.Ev
open Go
section
variable {P : Program} {E : Env} {F : RO} {M : Mem} {c : Nat → Prop} {w : World} {t : T} {a : Act}
def EO.plain : EO → Bool
  | .call _ _ | .cv _ _ | .inv _ _ _ => false
  | _ => true
theorem at0 {α : Type} {x : Array α} {y : α} {l : List α} (h : x.toList = y :: l) : x[0]? = some y := by rw [arr_of_list h]; rfl
theorem at1 {α : Type} {x : Array α} {y z : α} {l : List α} (h : x.toList = y :: z :: l) : x[1]? = some z := by rw [arr_of_list h]; rfl
theorem at1n {α : Type} {x : Array α} {y : α} (h : x.toList = [y]) : x[1]? = none := by rw [arr_of_list h]; rfl
theorem e_all (h : Cx P E F M c w t a) {ct : Nat} (hf : Fresh c ct) {o : Oper} {eo : EO} (hc : compOp P o.op = some (.e eo)) (hp : eo.plain = true) {k : Kn} (hk : k.F = F) {v : V} {M' : Mem} {ct' : Nat} (he : doE eo k M ct t = .k v M' ct') : EOk P F E M c ct w a o v M' ct' := by
  cases hop : o.op with
  | store ty y z => exact e_store h hop hc hk he
  | mapUpdate ty m y z => exact e_mapUpdate h (.inl hop) hc hk he
  | insert ty m y z => exact e_mapUpdate h (.inr hop) hc hk he
  | next y b =>
    rw [hop] at hc
    cases b with
    | true =>
      obtain ⟨x, hx, e⟩ := Option.map_eq_some_iff.1 hc
      obtain rfl : EO.nxs x = eo := by simpa using e
      exact e_nextS h hop hx he
    | false =>
      obtain ⟨x, hx, e⟩ := Option.map_eq_some_iff.1 hc
      obtain rfl : EO.nxm x = eo := by simpa using e
      exact e_nextM h hop hx hk he
  | entry y =>
    rw [hop] at hc
    obtain ⟨x, hx, e⟩ := Option.map_eq_some_iff.1 hc
    obtain rfl : EO.ent x = eo := by simpa using e
    exact e_entry h hop hx hk he
  | range ty y =>
    rw [hop] at hc
    simp only [compOp] at hc
    split at hc
    · cases hc
    · rename_i kt et x hu hx
      obtain rfl : EO.rgm x = eo := by simpa using hc
      exact e_rangeM h hf hop hu hx hk he
    · cases hc
  | convert s d y =>
    rw [hop] at hc
    simp only [compOp] at hc
    split at hc
    · cases hc
    · cases hc
    · split at hc <;> cases hc
    · split at hc <;> cases hc
    · rename_i e0 el x h1 h2 hx
      split at hc
      · rename_i hcond
        obtain rfl : EO.ms x = eo := by simpa using hc
        rw [Bool.and_eq_true] at hcond
        have hsd : s = d := by simpa using hcond.1
        subst hsd
        have hel : P.underlying el = some (.int .u8) := by
          have := hcond.2
          unfold isU8 at this
          split at this
          · assumption
          · cases this
        exact e_mark h hop h2 hel hx he
      · cases hc
    · split at hc <;> cases hc
    · split at hc <;> cases hc
    · cases hc
  | call cl =>
    rw [hop] at hc
    simp only [compOp] at hc
    split at hc
    · rename_i b' hcal
      unfold compBuiltin at hc
      split at hc
      · split at hc <;> first | cases hc | (split at hc <;> cases hc)
      · split at hc <;> cases hc
      · rename_i y z ty t2 ts hargs htys
        split at hc
        · rename_i el x1 x2 hu h1 h2
          split at hc
          · rename_i sz by_ d hsz hby hd
            split at hc
            · rename_i ik
              split at hc
              · rename_i hz
                split at hc
                · rename_i hcond
                  obtain rfl : EO.apz el by_ x1 x2 = eo := by simpa using hc
                  rw [Bool.and_eq_true, Bool.and_eq_true, Bool.and_eq_true] at hcond
                  obtain ⟨hu8, h3, h4, hzo⟩ := hcond
                  obtain rfl : sz = 1 := by simpa using h3
                  obtain rfl : by_ = 1 := by simpa using h4
                  exact e_appendZ h hf hop hcal hargs (at0 htys) (at1 htys) hd hu hsz hby hz hzo h1 h2 hk he
                · cases hc
              · cases hc
            · rename_i hnd
              split at hc
              · cases hc
              · rename_i hcond
                obtain rfl : EO.app el sz by_ x1 x2 = eo := by simpa using hc
                rw [Bool.not_eq_true, Bool.or_eq_false_iff] at hcond
                have hpos : sz ≠ 0 := by simpa using hcond.1
                have hzo : zOk P el sz = true := by simpa using hcond.2
                exact e_append h hf hop hcal hargs (at0 htys) (.inl ⟨t2, d, at1 htys, hd, fun k e => hnd k e⟩) hu hsz hby hpos hzo h1 h2 hk he
          · cases hc
        · cases hc
      · rename_i y z ty hargs htys
        split at hc
        · rename_i el x1 x2 hu h1 h2
          split at hc
          · rename_i sz by_ hsz hby
            split at hc
            · cases hc
            · rename_i hcond
              obtain rfl : EO.app el sz by_ x1 x2 = eo := by simpa using hc
              rw [Bool.not_eq_true, Bool.or_eq_false_iff] at hcond
              have hpos : sz ≠ 0 := by simpa using hcond.1
              have hzo : zOk P el sz = true := by simpa using hcond.2
              exact e_append h hf hop hcal hargs (at0 htys) (.inr (at1n htys)) hu hsz hby hpos hzo h1 h2 hk he
          · cases hc
        · cases hc
      · rename_i y z ty ts hargs htys
        split at hc
        · rename_i el x1 x2 hu h1 h2
          split at hc
          · rename_i sz hsz
            split at hc
            · cases hc
            · obtain rfl : EO.cpy sz x1 x2 = eo := by simpa using hc
              exact e_copy h hop hcal hargs (at0 htys) hu hsz h1 h2 hk he
          · cases hc
        · cases hc
      · split at hc <;> cases hc
      · split at hc <;> cases hc
      · rename_i m y ty ts hargs htys
        split at hc
        · rename_i kt et xm xk hu h1 h2
          obtain ⟨sh, hks, e⟩ := Option.map_eq_some_iff.1 hc
          obtain rfl : EO.del sh xm xk = eo := by simpa using e
          exact e_delete h hop hcal hargs htys hu hks h1 h2 he
        · cases hc
      · rename_i y z ty ts hargs htys
        split at hc
        · rename_i el x1 x2 hu h1 h2
          split at hc
          · rename_i hcond
            obtain rfl : EO.us el x1 x2 = eo := by simpa using hc
            rw [Bool.and_eq_true] at hcond
            exact e_unsafeString h hop hcal hargs (at0 htys) hu (by simpa using hcond.2) h1 h2 hk he
          · cases hc
        · cases hc
      · obtain ⟨z, _, e⟩ := Option.bind_eq_some_iff.1 hc; cases e
      · rename_i y ty ts hargs htys
        split at hc
        · rename_i el x1 hu h1
          obtain ⟨z, hz, e⟩ := Option.map_eq_some_iff.1 hc
          obtain rfl : EO.clr (cellsOfV z) x1 = eo := by simpa using e
          exact e_clear h hop hcal hargs (at0 htys) hu hz h1 he
        · cases hc
      · cases hc
    · rename_i f hcal
      split at hc
      · rename_i fn hf0
        split at hc
        · unfold compExtern at hc
          split at hc
          · cases hc
          · split at hc
            · split at hc
              · split at hc <;> cases hc
              · split at hc
                · split at hc <;> cases hc
                · split at hc
                  · split at hc <;> cases hc
                  · split at hc
                    · split at hc <;> cases hc
                    · cases hc
            · split at hc
              · obtain ⟨z, _, e⟩ := Option.bind_eq_some_iff.1 hc; cases e
              · split at hc
                · split at hc
                  · split at hc
                    · split at hc <;> cases hc
                    · cases hc
                  · cases hc
                · split at hc
                  · rename_i hnm
                    obtain ⟨x, hx, e⟩ := Option.map_eq_some_iff.1 hc
                    obtain rfl : EO.mcl x = eo := by simpa using e
                    exact e_mclone h hf hop hcal hf0 (by assumption) (by simpa using ‹¬ fn.origin ≠ ""›) (by simpa using hnm) (by assumption) hx hk he
                  · cases hc
            · cases hc
        · obtain ⟨z, _, e⟩ := Option.map_eq_some_iff.1 hc
          obtain rfl : EO.call f z = eo := by simpa using e
          cases hp
      · cases hc
    · split at hc
      · rename_i x xs h1 h2
        obtain rfl : EO.cv x xs = eo := by simpa using hc
        cases hp
      · cases hc
    · split at hc
      · rename_i x xs h1 h2
        obtain rfl : EO.inv _ x xs = eo := by simpa using hc
        cases hp
      · cases hc
  | alloc ty => rw [hop] at hc; obtain ⟨z, _, e⟩ := Option.map_eq_some_iff.1 hc; cases e
  | box ty y => rw [hop] at hc; simp only [compOp] at hc; split at hc <;> cases hc
  | buildSlice ty n ps =>
    rw [hop] at hc; simp only [compOp] at hc
    split at hc
    · split at hc
      · split at hc
        · cases hc
        · obtain ⟨z, _, e⟩ := Option.map_eq_some_iff.1 hc; cases e
      · cases hc
    · cases hc
  | makeMap ty r =>
    cases r with
    | none => rw [hop] at hc; cases hc
    | some z => rw [hop] at hc; cases hc
  | makeSlice ty l k' =>
    rw [hop] at hc; simp only [compOp] at hc
    split at hc
    · split at hc
      · split at hc <;> cases hc
      · cases hc
    · cases hc
  | move y => rw [hop] at hc; obtain ⟨z, _, e⟩ := Option.bind_eq_some_iff.1 hc; cases e
  | assign y => rw [hop] at hc; obtain ⟨z, _, e⟩ := Option.bind_eq_some_iff.1 hc; cases e
  | pick p y z => rw [hop] at hc; simp only [compOp] at hc; split at hc <;> cases hc
  | build ty ps =>
    rw [hop] at hc; simp only [compOp] at hc
    split at hc
    · split at hc
      · obtain ⟨z, _, e⟩ := Option.bind_eq_some_iff.1 hc; cases e
      · cases hc
    · split at hc
      · obtain ⟨z, _, e⟩ := Option.bind_eq_some_iff.1 hc; cases e
      · cases hc
    · cases hc
  | load ty y => rw [hop] at hc; simp only [compOp] at hc; split at hc <;> cases hc
  | nilCheck y => rw [hop] at hc; obtain ⟨z, _, e⟩ := Option.bind_eq_some_iff.1 hc; cases e
  | binOp op ty y z ty' =>
    rw [hop] at hc; simp only [compOp] at hc
    split at hc
    · cases hc
    · cases hc
    · split at hc
      · obtain ⟨z, _, e⟩ := Option.bind_eq_some_iff.1 hc; cases e
      · obtain ⟨z, _, e⟩ := Option.bind_eq_some_iff.1 hc; cases e
      · cases hc
    · cases hc
  | unOp op ty y => rw [hop] at hc; obtain ⟨z, _, e⟩ := Option.bind_eq_some_iff.1 hc; cases e
  | makeInterface ty y => rw [hop] at hc; simp only [compOp] at hc; split at hc <;> cases hc
  | makeFunc fn l1 l2 =>
    cases fn with
    | func f => rw [hop] at hc; simp only [compOp] at hc; split at hc <;> cases hc
    | _ => rw [hop] at hc; cases hc
  | slice ty y lo hi mx =>
    rw [hop] at hc; simp only [compOp] at hc
    split at hc
    · split at hc
      · split at hc <;> cases hc
      · obtain ⟨z, _, e⟩ := Option.bind_eq_some_iff.1 hc; split at e <;> cases e
      · obtain ⟨z, _, e⟩ := Option.bind_eq_some_iff.1 hc; split at e <;> cases e
      · split at hc
        · obtain ⟨z, _, e⟩ := Option.bind_eq_some_iff.1 hc; split at e <;> cases e
        · cases hc
      · cases hc
    · cases hc
  | fieldAddr ty y f =>
    rw [hop] at hc; simp only [compOp] at hc
    split at hc
    · split at hc
      · split at hc <;> cases hc
      · cases hc
    · cases hc
  | field ty y f =>
    rw [hop] at hc; simp only [compOp] at hc
    split at hc
    · split at hc
      · split at hc <;> cases hc
      · cases hc
    · cases hc
  | indexAddr ty y i =>
    rw [hop] at hc; simp only [compOp] at hc
    split at hc
    · obtain ⟨z, _, e⟩ := Option.bind_eq_some_iff.1 hc; cases e
    · obtain ⟨z, _, e⟩ := Option.bind_eq_some_iff.1 hc; cases e
    · cases hc
  | index ty y i =>
    rw [hop] at hc; simp only [compOp] at hc
    split at hc
    · split at hc <;> cases hc
    · cases hc
    · cases hc
  | lookup ty y i ok =>
    rw [hop] at hc; simp only [compOp] at hc
    split at hc
    · split at hc <;> cases hc
    · cases hc
  | typeAssert y ty ty' ok => rw [hop] at hc; simp only [compOp] at hc; split at hc <;> cases hc
  | extract y i => rw [hop] at hc; obtain ⟨z, _, e⟩ := Option.bind_eq_some_iff.1 hc; cases e
  | sliceToArrayPointer d y => rw [hop] at hc; simp only [compOp] at hc; split at hc <;> cases hc
  | _ => rw [hop] at hc; cases hc
end
end Go.Proofs.YtaogopbhjinmoaaGreatDoor.Ev
