/- What is proved here: pieces of the evaluator's soundness: if the evaluator comes to a value, the model's run comes to it, for every world and tape; no conditions beyond the hypotheses of each theorem. -/
import Derived.Test.YtmbfboidfbaeiaaGreatDoorEv7
import GoSem.ClaimChange
set_option linter.unusedSimpArgs false
set_option linter.unusedVariables false
namespace Go.Proofs.YtmbfboidfbaeiaaGreatDoor.Ev
open Go
theorem dregC_some {ops : Array Oper} {cos : List CO} {n : Nat} {l : List (Nat × Nat × CO)} (h : dregC ops cos = .dreg n l) :
    n = ops.size ∧ l = canon (Region.before ops).toList cos ops.size 0 ∧ regOk ops.toList (Region.before ops).toList ops.size l = true := by
  unfold dregC dregD at h
  cases hr : regOk ops.toList (Region.before ops).toList ops.size (canon (Region.before ops).toList cos ops.size 0) with
  | false => rw [hr] at h; cases h
  | true =>
    rw [hr, cond_true] at h
    injection h with h1 h2
    subst h1 h2
    exact ⟨rfl, rfl, hr⟩
theorem canon_len (ms : List Nat) (cos : List CO) : ∀ (fuel done : Nat), (canon ms cos fuel done).length ≤ fuel
  | 0, _ => Nat.le_refl _
  | fuel + 1, done => by
    rw [canon]
    split
    · rw [List.length_cons]
      have := canon_len ms cos fuel
      exact Nat.succ_le_succ (this _)
    · simp
theorem canon_mem (ms : List Nat) (cos : List CO) : ∀ (fuel done : Nat) (i m : Nat) (o : CO), (i, m, o) ∈ canon ms cos fuel done → cos[i]? = some o ∧ ms[i]? = some m
  | 0, _, _, _, _, h => by cases h
  | fuel + 1, done, i, m, o, h => by
    rw [canon] at h
    split at h
    · rename_i o' m' i' hpick
      rcases List.mem_cons.1 h with h | h
      · injection h with h1 h2; injection h2 with h2 h3
        subst h1 h2 h3
        have hmem : ((o, m), i) ∈ (cos.zip ms).zipIdx := by
          split at hpick
          · rename_i r hr
            obtain rfl := Option.some.inj hpick
            exact (List.mem_filter.1 (List.mem_of_find?_eq_some hr)).1
          · exact (List.mem_filter.1 (List.mem_of_mem_head? hpick)).1
        have h1 := List.mem_zipIdx_iff_getElem?.1 hmem
        have h2 : (cos.zip ms)[i]? = some (o, m) := h1
        rw [List.getElem?_zip_eq_some] at h2
        exact h2
      · exact canon_mem ms cos fuel _ i m o h
    · cases h
theorem compOs_get {P : Program} {nt : Nat} {ops : Array Oper} : ∀ (l : List Oper) (cos : List CO), compOs P nt ops l = some cos → ∀ (i : Nat) (co : CO), cos[i]? = some co → ∃ o, l[i]? = some o ∧ compO P nt ops o = some co
  | [], cos, h, i, co, hi => by
    obtain rfl := Option.some.inj h
    cases hi
  | o :: l, cos, h, i, co, hi => by
    rw [compOs] at h
    split at h
    · rename_i c r h1 h2
      obtain rfl := Option.some.inj h
      cases i with
      | zero => exact ⟨o, rfl, by simp at hi; rw [← hi]; exact h1⟩
      | succ i => exact compOs_get l r h2 i co (by simpa using hi)
    · cases h
theorem elemsOk_mem {ms : List Nat} {n : Nat} {ops : List Oper} : ∀ {l : List (Nat × Nat × CO)}, elemsOk ms n ops l = true → ∀ x ∈ l, elemOk ms n ops x = true
  | [], _, _, h => by cases h
  | z :: r, h, y, hy => by
    simp only [elemsOk, Bool.and_eq_true] at h
    rcases List.mem_cons.1 hy with rfl | hy
    · exact h.1
    · exact elemsOk_mem h.2 y hy
theorem elemOk_some {ms : List Nat} {n : Nat} {ops : List Oper} {x : Nat × Nat × CO} (h : elemOk ms n ops x = true) : ∃ o, ops[x.1]? = some o ∧ x.2.1 = mask1 ms o.after.toList ∧ testBit x.2.1 x.1 = false ∧ x.2.1 < 2 ^ n := by
  unfold elemOk at h
  split at h
  · cases h
  · rename_i o ho
    rw [beqN, bltN] at h
    simp only [Bool.and_eq_true, Bool.not_eq_true', decide_eq_true_eq] at h
    exact ⟨o, ho, h.1, h.2.1, h.2.2⟩
theorem hasIdx_mem {i : Nat} : ∀ {l : List (Nat × Nat × CO)}, hasIdx i l = true → ∃ m o, (i, m, o) ∈ l
  | [], h => by cases h
  | (j, m, o) :: r, h => by
    rw [hasIdx, beqN] at h
    by_cases e : j = i
    · exact ⟨m, o, by rw [e]; simp⟩
    · simp [e] at h
      obtain ⟨m', o', h'⟩ := hasIdx_mem h
      exact ⟨m', o', List.mem_cons_of_mem _ h'⟩
theorem coversOk_mem {l : List (Nat × Nat × CO)} : ∀ {n : Nat}, coversOk l n = true → ∀ i, i < n → hasIdx i l = true
  | 0, _, _, h => by omega
  | n + 1, h, i, hi => by
    simp only [coversOk, Bool.and_eq_true] at h
    by_cases e : i = n
    · rw [e]; exact h.1
    · exact coversOk_mem h.2 i (by omega)
theorem drOk_of {P : Program} (hm : P.follows .mixedOrders = true) {k : Kn} (hcall : CallOk P k) (hy : YieldOk P k) : DrOk P k := by
  intro F rd nt id ops cos hcos n l hd t d M ct e t' d' M' ct' hx Bd E c w a h Q hQ
  obtain ⟨rfl, hl, hreg⟩ := dregC_some hd
  unfold regOk at hreg
  rw [Bool.and_eq_true, Bool.and_eq_true] at hreg
  obtain ⟨hel, hcov, hpairs⟩ := hreg
  have hx' : dEnd d (dOps (knF k F) ct l (.mk t M (ct + ops.size) [] [])) = .k e (.mk t' d' M' ct') := by
    have : fN (Nat.add ct ops.size) (fun c' => dEnd d (dOps (knF k F) ct l (.mk t M c' [] []))) = .k e (.mk t' d' M' ct') := hx
    rwa [fN_eq] at this
  cases hdo : dOps (knF k F) ct l (.mk t M (ct + ops.size) [] []) with
  | none => rw [hdo] at hx'; cases hx'
  | some ds =>
    obtain ⟨t2, M2, c2, p2, r2⟩ := ds
    rw [hdo, dEnd, Tr.force_eq] at hx'
    injection hx' with g1 g2; injection g2 with g2 g3 g4 g5
    subst g1 g2 g3 g4 g5
    have hkF : (knF k F).F = F := knF_F k F
    have hI0 : DInv ct (knF k F).F M [] := ⟨fun _ _ _ h => (by cases h), .nil, fun _ _ _ h => (by cases h)⟩
    obtain ⟨L, hL, hC, hPW, hI, _⟩ := dOps_chain l t M (ct + ops.size) [] [] t2 M2 c2 p2 r2 hdo hpairs hI0 (fun q hq => by cases hq)
    have hLl : ∀ x ∈ L, x.trip ∈ l := fun x hx => by rw [← hL]; exact List.mem_map_of_mem hx
    have hlab : ∀ x ∈ L, ∃ o, LabOk P nt ops (Region.before ops).toList x o := by
      intro x hx
      have hm1 := hLl x hx
      obtain ⟨o, ho, hmask, hself, hlt⟩ := elemOk_some (elemsOk_mem hel _ hm1)
      have hcm := canon_mem _ _ _ _ _ _ _ (by rw [← hl]; exact hm1)
      obtain ⟨o2, ho2, hco⟩ := compOs_get _ _ hcos x.i x.co hcm.1
      have : o2 = o := by rw [show ops.toList[x.i]? = some o from ho] at ho2; exact (Option.some.inj ho2).symm
      subst this
      have ho3 : ops.toList[x.i]? = some o2 := ho
      exact ⟨o2, by simpa using ho3, hco, hmask, hself, hlt⟩
    have hms : ∀ (j : Nat) (o : Oper), ops[j]? = some o → (Region.before ops).toList[j]? = some (mask1 (Region.before ops).toList o.after.toList) := by
      intro j o hj
      obtain ⟨m, co, hmem⟩ := hasIdx_mem (coversOk_mem hcov j (Array.getElem?_eq_some_iff.1 hj).1)
      obtain ⟨o2, ho2, hmask, _, _⟩ := elemOk_some (elemsOk_mem hel _ hmem)
      have hcm := canon_mem _ _ _ _ _ _ _ (by rw [← hl]; exact hmem)
      have : o2 = o := by
        have h1 : ops.toList[j]? = some o2 := ho2
        have h2 : ops.toList[j]? = some o := by simpa using hj
        rw [h1] at h2; exact Option.some.inj h2
      subst this
      rw [hcm.2]
      exact congrArg some hmask
    have hidx : ∀ j, (∃ x ∈ L, x.i = j) ↔ j < ops.size := by
      intro j
      constructor
      · rintro ⟨x, hx, rfl⟩
        obtain ⟨o, ho⟩ := hlab x hx
        exact (Array.getElem?_eq_some_iff.1 ho.op).1
      · intro hj
        obtain ⟨m, co, hmem⟩ := hasIdx_mem (coversOk_mem hcov j hj)
        rw [← hL] at hmem
        obtain ⟨x, hx, hxe⟩ := List.mem_map.1 hmem
        exact ⟨x, hx, by injection hxe⟩
    have hlen : L.length ≤ ops.size := by
      have : L.length = l.length := by rw [← hL]; simp
      rw [this, hl]; exact canon_len _ _ _ _
    refine wpIn_region_any hm ?_
    have hmem0 : ∀ b, (ssOf t M (ct + ops.size) []).m b = M.get b := fun b => rfl
    have hrel0 : RelM P E F (ssOf t M (ct + ops.size) []).m c { w with drawn := w.drawn + 1 } := RelM.of (h.cx.rel.world (w' := { w with drawn := w.drawn + 1 }) rfl) hmem0
    have hSM : SM P Bd (knF k F).F rd nt ct d E c { w with drawn := w.drawn + 1 } a (ssOf t M (ct + ops.size) []) (fun j => ∃ x ∈ L, x.i = j) := by
      rw [hkF]
      refine ⟨hrel0, h.cx.glob, h.cx.big, h.cx.tr, h.cx.bt, fun b hb => h.fr b ?_, Nat.le_add_right _ _, fun i hi => ?_, h.df, h.dc, h.sz, h.rd⟩
      · have : ct + ops.size ≤ b := hb
        omega
      · have h1 := (hidx i).1 hi
        exact ⟨h.fr _ (Nat.le_add_right _ _), by show ct + i < ct + ops.size; omega⟩
    have hcall' : CallOk P (knF k F) := by
      intro F' f args M ct v M' ct' hc
      exact hcall F' f args M ct v M' ct' (by cases k; exact hc)
    have hy' : YieldOk P (knF k F) := by
      intro F' l args M ct v M' ct' hc
      exact hy F' l args M ct v M' ct' (by cases k; exact hc)
    refine any_ok hcall' hy' hms ops.size L (Array.replicate ops.size false) E c _ a _ hlen hC hPW hSM (by simp) ?_ ?_ hlab ?_ ?_
    · intro j hj
      rw [hidx j]
      simp [Array.getD, hj]
    · intro j o hj hl'
      exfalso
      have hjs := (Array.getElem?_eq_some_iff.1 hj).1
      simp [Array.getD, hjs] at hl'
    · intro E' c' a' w' hS hnew hct hSM'
      rw [hkF] at hS hSM'
      refine hQ a' w' ⟨E', c', ?_, ?_, ?_⟩
      · have hfin : ∀ b, (ssOf t2 M2 c2 p2).m b = (mergeAll p2 M2).get b := fun b => (mergeAll_spec p2 M2 hI.nd b).symm
        refine ⟨hS.ext, hS.le, Rel.ofM hS.rel hfin, ?_, ?_, hS.size, hS.os, hS.output, hS.tape⟩
        · intro b hb
          rcases hS.own b (by rw [hfin b]; intro e; rw [e] at hb; cases hb) with ⟨b0, h0, e0⟩ | h0
          · refine .inl ⟨b0, ?_, e0⟩
            have h1 : M.get b0 ≠ none := h0
            cases hM : M.get b0 with
            | none => exact absurd hM h1
            | some _ => rfl
          · exact .inr h0
        · intro r hr hn
          refine hS.frame r hr fun b hb => hn b ?_
          have h1 : M.get b ≠ none := hb
          cases hM : M.get b with
          | none => exact absurd hM h1
          | some _ => rfl
      · refine ⟨?_, hnew⟩
        have : ct + ops.size ≤ c2 := hct
        omega
      · have hfin : ∀ b, (ssOf t2 M2 c2 p2).m b = (mergeAll p2 M2).get b := fun b => (mergeAll_spec p2 M2 hI.nd b).symm
        exact ⟨⟨Rel.ofM hS.rel hfin, hSM'.glob, hSM'.big, hSM'.tr, hSM'.bt⟩, hSM'.fr, hSM'.df, hSM'.dc, hSM'.sz, hSM'.rd⟩
    · rw [hkF]
      exact ⟨.refl _ _, fun _ h => h, hrel0, fun b hb => .inl ⟨b, hb, rfl⟩, fun _ _ _ => rfl, Nat.le_refl _, rfl, rfl, rfl⟩
theorem exec_sound {P : Program} (hm : P.follows .mixedOrders = true) {Φ : Nat → Option CF} (hΦ : PhiOk P Φ) (n : Nat) : ExOk P (exec Φ n) :=
  (exec_ok hΦ (fun ex hex rd fn F => drOk_of hm (callOk_of hΦ hex rd fn F) (yieldOk_of hex rd fn F)) n).1
end Go.Proofs.YtmbfboidfbaeiaaGreatDoor.Ev
namespace Go.Proofs.YtmbfboidfbaeiaaGreatDoor.Ev
open Go
def E0 : Env := ⟨fun b => b, fun _ => 0, fun _ => 0⟩
def c0 (b : Nat) : Prop := b < 1000
def isT : RC → Bool
  | .k (.b true) _ _ => true
  | _ => false
noncomputable def runF (Φ : Nat → Option CF) (fuel : Nat) (F : RO) (f : Nat) (args : List V) : RC := callC (exec Φ fuel) F f args .e 1000 (Φ f)
theorem isT_some {r : RC} (h : isT r = true) : ∃ M c, r = .k (.b true) M c := by
  unfold isT at h
  split at h
  · exact ⟨_, _, rfl⟩
  · cases h
theorem kept_of {P : Program} {F : RO} {E E' : Env} {c c' : Nat → Prop} {w w' : World} {M' : Mem} (h : Stp P F E .e c w E' M' c' w') (may : MemPlace → Prop) : w.keptBut w' may := by
  refine ⟨h.os, h.output, fun i hi => ?_⟩
  have e : w'.heap[i]? = w.heap[i]? := h.frame i hi (fun b hb => by cases hb)
  rw [e]
  cases w.heap[i]? with
  | none => rfl
  | some o =>
    cases o with
    | cells a t fr => exact ⟨rfl, rfl, rfl, fun _ _ => rfl⟩
    | map es cl => exact .inr ⟨rfl, rfl⟩
    | _ => rfl
theorem closed_calls {P : Program} (hm : P.follows .mixedOrders = true) {Φ : Nat → Option CF} (hΦ : PhiOk P Φ) {fuel f : Nat} {F : RO} (h : isT (runF Φ fuel F f []) = true) {W : World} (hr : Rel P E0 F .e c0 W) :
    Calls P f #[] W fun e W' => e = .returned (.bool true) ∧ ∀ may, W.keptBut W' may := by
  obtain ⟨M', ct', hk⟩ := isT_some h
  have hc := callOk_of hΦ (exec_sound hm hΦ fuel) none 0 F
  obtain ⟨_, _, _, _, hC⟩ := hc F f [] .e 1000 (.b true) M' ct' hk E0 c0 W hr (fun g _ => ⟨rfl, rfl⟩) (fun g hg => hg) (fun b hb hc => Nat.lt_irrefl _ (Nat.lt_of_lt_of_le hc hb)) trivial
  refine hC.mono ?_
  rintro e W' ⟨E', c', rfl, hS, _, _⟩
  exact ⟨rfl, fun may => kept_of hS may⟩
theorem rel_none {P : Program} {W : World} : Rel P E0 [] .e c0 W :=
  ⟨fun b blk hb => (by cases hb), fun b b' _ _ e => e, fun b hb => (by cases hb)⟩
def TrAll (p : Nat → CF → Prop) : Tr CF → Prop
  | .e => True
  | .n l v r => (match v with | none => True | some c => p 0 c) ∧ TrAll (fun j => p (2 * j + 1)) l ∧ TrAll (fun j => p (2 * j + 2)) r
theorem TrAll.get : ∀ (t : Tr CF) (p : Nat → CF → Prop), TrAll p t → ∀ k c, t.get k = some c → p k c
  | .e, p, _, k, c, h => by cases h
  | .n l v r, p, ht, k, c, h => by
    rw [Tr.get_n] at h
    obtain ⟨h0, h1, h2⟩ := ht
    by_cases e : k = 0
    · rw [if_pos e] at h
      subst e
      rw [h] at h0
      exact h0
    · rw [if_neg e] at h
      by_cases e2 : k % 2 = 0
      · rw [if_pos e2] at h
        have := TrAll.get r _ h2 _ _ h
        rw [show 2 * (k / 2 - 1) + 2 = k by omega] at this
        exact this
      · rw [if_neg e2] at h
        have := TrAll.get l _ h1 _ _ h
        rw [show 2 * (k / 2) + 1 = k by omega] at this
        exact this
abbrev OkF (P : Program) (k : Nat) (cf : CF) : Prop := CfOk P k cf
theorem phiOk_of {P : Program} {t : Tr CF} (h : TrAll (OkF P) t) : PhiOk P (fun k => t.get k) := fun k c hk => TrAll.get t _ h k c hk
end Go.Proofs.YtmbfboidfbaeiaaGreatDoor.Ev
namespace Go.Proofs.YtmbfboidfbaeiaaGreatDoor.Ev
open Go
section
variable {Φ : Nat → Option CF} {ex ex' : ExF} {rd : Option Nat} {fn : Nat} {F : RO}
end
section
variable {Φ : Nat → Option CF} {ex : Nat → ExF} {ex' : ExF} {rd : Option Nat} {fn : Nat} {F : RO}
end
open Classical in
noncomputable def den (Φ : Nat → Option CF) : ExF := fun rd fn F c s => if h : ∃ n, exec Φ n rd fn F c s ≠ .f then exec Φ (Classical.choose h) rd fn F c s else .f
end Go.Proofs.YtmbfboidfbaeiaaGreatDoor.Ev
namespace Go.Proofs.YtmbfboidfbaeiaaGreatDoor.Ev
open Go
structure SubMem (F0 : RO) (M0 : Mem) (F : RO) (M : Mem) : Prop where
  m : ∀ b blk, M0.get b = some blk → M.get b = some blk
  f : ∀ b blk, roGet F0 b = some blk → look F M b = some blk
  ap : ∀ b, (roGet F0 b).isSome → M0.get b = none
theorem SubMem.look {F0 : RO} {M0 : Mem} {F : RO} {M : Mem} (h : SubMem F0 M0 F M) {b : Nat} {blk : Blk} (hb : look F0 M0 b = some blk) : look F M b = some blk := by
  cases hm : M0.get b with
  | some x =>
    rw [look_some_M hm] at hb
    obtain rfl := Option.some.inj hb
    exact look_some_M (h.m b _ hm)
  | none =>
    rw [look_none_M hm] at hb
    exact h.f b blk hb
theorem SubMem.rel {P : Program} {E : Env} {F0 F : RO} {M0 M : Mem} {c : Nat → Prop} {w : World} (h : SubMem F0 M0 F M) (hr : Rel P E F M c w) : Rel P E F0 M0 c w where
  has := fun b blk hb => hr.has b blk (h.look hb)
  inj := by
    intro b b' h1 h2 e
    obtain ⟨x, hx⟩ := Option.isSome_iff_exists.1 h1
    obtain ⟨y, hy⟩ := Option.isSome_iff_exists.1 h2
    exact hr.inj b b' (by rw [h.look hx]; rfl) (by rw [h.look hy]; rfl) e
  apart := h.ap
theorem Rel.lt {P : Program} {E : Env} {F : RO} {M : Mem} {c : Nat → Prop} {w : World} (h : Rel P E F M c w) {b : Nat} (hb : (look F M b).isSome) : E.ρ b < w.heap.size := by
  obtain ⟨x, hx⟩ := Option.isSome_iff_exists.1 hb
  obtain ⟨_, _, o', ho', _⟩ := h.has b x hx
  exact (Array.getElem?_eq_some_iff.1 ho').1
theorem Stp.framed {P : Program} {E E' : Env} {F0 F : RO} {M0 M M1 N : Mem} {c c' : Nat → Prop} {w w' : World} (hsub : SubMem F0 M0 F M) (hr : Rel P E F M c w) (hS : Stp P F0 E M0 c w E' M1 c' w')
    (hN : ∀ b blk, N.get b = some blk → M1.get b = some blk ∨ (M.get b = some blk ∧ M0.get b = none)) : Stp P F E M c w E' N c' w' := by
  have old : ∀ b blk, look F M b = some blk → M0.get b = none → c b ∧ bdBlk c blk ∧ E'.ρ b = E.ρ b ∧ ∃ o, w'.heap[E'.ρ b]? = some o ∧ BlkRel P E' b blk o := by
    intro b blk hb h0
    obtain ⟨hcb, hbd, o, ho, hB⟩ := hr.has b blk hb
    have e := hS.ext.ρ b hcb
    refine ⟨hcb, hbd, e, o, ?_, hB.ext hS.ext hcb hbd⟩
    rw [e, hS.frame _ (Array.getElem?_eq_some_iff.1 ho).1, ho]
    intro b0 hb0 e0
    obtain ⟨x0, hx0⟩ := Option.isSome_iff_exists.1 hb0
    have : b0 = b := hr.inj b0 b (by rw [look_some_M (hsub.m b0 x0 hx0)]; rfl) (by rw [hb]; rfl) e0
    subst this
    rw [h0] at hx0; cases hx0
  have new_old : ∀ b b' blk', (M1.get b).isSome → look F M b' = some blk' → M0.get b' = none → E'.ρ b ≠ E.ρ b' := by
    intro b b' blk' h1 h2 h0 e
    rcases hS.own b h1 with ⟨b0, hb0, e0⟩ | hge
    · obtain ⟨x0, hx0⟩ := Option.isSome_iff_exists.1 hb0
      have : b0 = b' := hr.inj b0 b' (by rw [look_some_M (hsub.m b0 x0 hx0)]; rfl) (by rw [h2]; rfl) (e0.trans e)
      subst this
      rw [h0] at hx0; cases hx0
    · have := hr.lt (b := b') (by rw [h2]; rfl)
      omega
  have fM0 : ∀ b, (roGet F b).isSome → M0.get b = none := by
    intro b hb
    cases h : M0.get b with
    | none => rfl
    | some x => have := hr.apart b hb; rw [hsub.m b x h] at this; cases this
  have fM : ∀ b blk, roGet F b = some blk → look F M b = some blk := fun b blk hb => by rw [look_none_M (hr.apart b (by rw [hb]; rfl))]; exact hb
  have nocommon : ∀ b blk', look F M b = some blk' → M0.get b = none → M1.get b = none := by
    intro b blk' h2 h0
    cases h1 : M1.get b with
    | none => rfl
    | some x =>
      exfalso
      have := new_old b b blk' (by rw [h1]; rfl) h2 h0
      exact this (old b blk' h2 h0).2.2.1
  have lookN : ∀ b blk, look F N b = some blk → M1.get b = some blk ∨ (look F M b = some blk ∧ M0.get b = none) := by
    intro b blk hb
    cases h : N.get b with
    | some x =>
      rw [look_some_M h] at hb
      obtain rfl := Option.some.inj hb
      rcases hN b _ h with h1 | ⟨h1, h2⟩
      · exact .inl h1
      · exact .inr ⟨look_some_M h1, h2⟩
    | none =>
      rw [look_none_M h] at hb
      exact .inr ⟨fM b blk hb, fM0 b (by rw [hb]; rfl)⟩
  refine ⟨hS.ext, hS.le, ⟨?_, ?_, ?_⟩, ?_, ?_, hS.size, hS.os, hS.output, hS.tape⟩
  · intro b blk hb
    rcases lookN b blk hb with h1 | ⟨h1, h2⟩
    · exact hS.rel.has b blk (look_some_M h1)
    · obtain ⟨a1, a2, _, a3⟩ := old b blk h1 h2
      exact ⟨hS.le b a1, bdBlk_mono hS.le _ a2, a3⟩
  · intro b b' h1 h2 e
    obtain ⟨x, hx⟩ := Option.isSome_iff_exists.1 h1
    obtain ⟨y, hy⟩ := Option.isSome_iff_exists.1 h2
    rcases lookN b x hx with g1 | ⟨g1, g0⟩
    · rcases lookN b' y hy with k1 | ⟨k1, k0⟩
      · exact hS.rel.inj b b' (look_isSome_M (by rw [g1]; rfl)) (look_isSome_M (by rw [k1]; rfl)) e
      · exfalso
        exact new_old b b' y (by rw [g1]; rfl) k1 k0 (e.trans (old b' y k1 k0).2.2.1)
    · rcases lookN b' y hy with k1 | ⟨k1, k0⟩
      · exfalso
        exact new_old b' b x (by rw [k1]; rfl) g1 g0 (e.symm.trans (old b x g1 g0).2.2.1)
      · refine hr.inj b b' (by rw [g1]; rfl) (by rw [k1]; rfl) ?_
        rw [← (old b x g1 g0).2.2.1, ← (old b' y k1 k0).2.2.1]; exact e
  · intro b hb
    obtain ⟨x, hx⟩ := Option.isSome_iff_exists.1 hb
    cases h : N.get b with
    | none => rfl
    | some y =>
      exfalso
      have := nocommon b x (fM b x hx) (fM0 b hb)
      rcases hN b y h with h1 | ⟨h1, h2⟩
      · rw [this] at h1; cases h1
      · have := hr.apart b hb; rw [h1] at this; cases this
  · intro b hb
    obtain ⟨x, hx⟩ := Option.isSome_iff_exists.1 hb
    rcases hN b x hx with h1 | ⟨h1, h2⟩
    · rcases hS.own b (by rw [h1]; rfl) with ⟨b0, hb0, e0⟩ | hge
      · obtain ⟨x0, hx0⟩ := Option.isSome_iff_exists.1 hb0
        exact .inl ⟨b0, by rw [hsub.m b0 x0 hx0]; rfl, e0⟩
      · exact .inr hge
    · exact .inl ⟨b, by rw [h1]; rfl, ((old b x (look_some_M h1) h2).2.2.1).symm⟩
  · intro r hr' hn
    refine hS.frame r hr' fun b hb => ?_
    obtain ⟨x, hx⟩ := Option.isSome_iff_exists.1 hb
    exact hn b (by rw [hsub.m b x hx]; rfl)
def upd (Φ : Nat → Option CF) (f : Nat) (cf : CF) : Nat → Option CF := fun k => if k = f then some cf else Φ k
theorem upd_ok {P : Program} {Φ : Nat → Option CF} (hΦ : PhiOk P Φ) {f : Nat} {g : RO → List V → Mem → Nat → RC} (hg : OrcOk P f g) : PhiOk P (upd Φ f (.orc g)) := by
  intro k cf hk
  unfold upd at hk
  split at hk
  · rename_i e
    subst e
    obtain rfl := Option.some.inj hk
    exact hg
  · exact hΦ k cf hk
theorem orc_closed {P : Program} (hm : P.follows .mixedOrders = true) {Φ : Nat → Option CF} (hΦ : PhiOk P Φ) {fuel f : Nat} (h : isT (runF Φ fuel [] f []) = true) :
    OrcOk P f (fun _ args M ct => match args with | [] => .k (.b true) M ct | _ => .f) := by
  intro F args M ct v N ct' hg E c w hr hglob hbig hf ha
  cases args with
  | cons a r => cases hg
  | nil =>
    have hg' : RC.k (.b true) M ct = .k v N ct' := hg
    injection hg' with e1 e2 e3
    subst e1 e2 e3
    obtain ⟨M', ct2, hk⟩ := isT_some h
    obtain ⟨fn, h1, h2, h3, hC⟩ := callOk_of (rd := none) (fn := 0) (F₀ := []) hΦ (exec_sound hm hΦ fuel) [] f [] .e 1000 (.b true) M' ct2 hk E0 c0 w rel_none (fun g _ => ⟨rfl, rfl⟩) (fun g hg => hg) (fun b hb hc => Nat.lt_irrefl _ (Nat.lt_of_lt_of_le hc hb)) trivial
    refine ⟨fn, h1, h2, h3, hC.mono ?_⟩
    rintro e w' ⟨E', c', rfl, hS, hb, hG⟩
    have hfr : ∀ r, r < w.heap.size → w'.heap[r]? = w.heap[r]? := fun r hr' => hS.frame r hr' (fun b hb => by cases hb)
    have hhas : ∀ b blk, look F M b = some blk → c b ∧ bdBlk c blk ∧ ∃ o, w'.heap[E.ρ b]? = some o ∧ BlkRel P E b blk o := by
      intro b blk hb
      obtain ⟨g1, g2, o, ho, g3⟩ := hr.has b blk hb
      exact ⟨g1, g2, o, by rw [hfr _ (Array.getElem?_eq_some_iff.1 ho).1]; exact ho, g3⟩
    exact ⟨E, c, rfl, ⟨.refl c E, fun _ h => h, ⟨hhas, hr.inj, hr.apart⟩, fun b hb => .inl ⟨b, hb, rfl⟩, fun r hr' _ => hfr r hr', hS.size, hS.os, hS.output, hS.tape⟩, trivial, .refl _ _⟩
end Go.Proofs.YtmbfboidfbaeiaaGreatDoor.Ev
namespace Go.Proofs.YtmbfboidfbaeiaaGreatDoor.Ev
open Go
section
variable {Φ : Nat → Option CF} {rd : Option Nat} {fn : Nat} {F : RO}
noncomputable abbrev K (Φ : Nat → Option CF) (rd : Option Nat) (fn : Nat) (F : RO) : Kn := .mk Φ (den Φ) rd fn F
def Wp (c : CC) (k : Kn) (s : St) (Q : Ex → St → Prop) : Prop := ∃ e s', execC c k s = .k e s' ∧ Q e s'
theorem Wp.mono {c : CC} {k : Kn} {s : St} {Q Q' : Ex → St → Prop} (h : Wp c k s Q) (hq : ∀ e s', Q e s' → Q' e s') : Wp c k s Q' := by
  obtain ⟨e, s', h1, q⟩ := h
  exact ⟨e, s', h1, hq e s' q⟩
def QR.to {β : Type} (r : QR) (f : β) (g : V → β) : β := match r with
  | .f => f
  | .v x => g x
  | .r x _ => g x
noncomputable def Q (n : Nat) : Pos := posOf n
end
end Go.Proofs.YtmbfboidfbaeiaaGreatDoor.Ev
namespace Go.Proofs.YtmbfboidfbaeiaaGreatDoor.Ev
open Go
section
variable {Φ : Nat → Option CF} {rd : Option Nat} {fn : Nat} {F : RO}
end
end Go.Proofs.YtmbfboidfbaeiaaGreatDoor.Ev
