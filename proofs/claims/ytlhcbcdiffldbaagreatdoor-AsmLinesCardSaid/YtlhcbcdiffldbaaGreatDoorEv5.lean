/- What is proved here: pieces of the evaluator's soundness: if the evaluator comes to a value, the model's run comes to it, for every world and tape; no conditions beyond the hypotheses of each theorem. -/
import Derived.Test.YtlhcbcdiffldbaaGreatDoorEv4
import Derived.Stop.LaidErr
set_option linter.unusedSimpArgs false
set_option linter.unusedVariables false
set_option linter.defProp false
set_option maxRecDepth 10000
set_option maxHeartbeats 16000000
namespace Go.Proofs.YtlhcbcdiffldbaaGreatDoor.Ev
open Go Go.RowKit Go.ChangeShapes
noncomputable section
section
variable {Φ : Nat → Option CF} {rd : Option Nat} {fn : Nat} {F : RO}
def QV (r : QR) : Prop := r = .f ∨ ∃ y, r = .v y
def PutDA (o : Option (V × Blk)) (base i : Nat) (p : Pos) (r : List (Nat × Nat × CO)) (k : Kn) (t : T) (M : Mem) (c : Nat) (pend : List (Nat × Nat × Blk)) (reads : List (Nat × Nat)) (R : DS → Prop) : Prop := match o with
 | some x => WpD base r k (.mk (t.setP p x.1) M c ((i, base + i, x.2) :: pend) reads) R
 | none => False
theorem putDA (v : V) (b : Blk) (base i : Nat) (p : Pos) (r : List (Nat × Nat × CO)) (k : Kn) (t : T) (M : Mem) (c : Nat) (pend : List (Nat × Nat × Blk)) (reads : List (Nat × Nat)) (R : DS → Prop) :
  PutDA (some (v, b)) base i p r k t M c pend reads R = WpD base r k (.mk (t.setP p v) M c ((i, base + i, b) :: pend) reads) R := Eq.trans rfl (Eq.refl _)
theorem wd_a (base i mask : Nat) (p : Pos) (o : AO) (r : List (Nat × Nat × CO)) (t : T) (M : Mem) (c : Nat) (pend : List (Nat × Nat × Blk)) (reads : List (Nat × Nat)) (R : DS → Prop) (hl : (look F M (base + i)).isNone = true) (hr : readFree (base + i) reads = true) :
  WpD base ((i, mask, .mk (some p) (.a o) none) :: r) (K Φ rd fn F) (.mk t M c pend reads) R = PutDA (aop o (base + i) t) base i p r (K Φ rd fn F) t M c pend reads R := by
 have he : dOp (K Φ rd fn F) base (i, mask, .mk (some p) (.a o) none) (.mk t M c pend reads) = d_a1 i (base + i) (some p) t M c pend reads (aop o (base + i) t) := by
  show (fN (Nat.add base i) fun b => bif (look F M b).isNone && readFree b reads then d_a1 i b (some p) t M c pend reads (aop o b t) else none) = _
  rw [fN_eq]
  show (bif (look F M (base + i)).isNone && readFree (base + i) reads then d_a1 i (base + i) (some p) t M c pend reads (aop o (base + i) t) else none) = _
  rw [hl, hr]; rfl
 apply propext
 rw [wd_cons, he]
 cases aop o (base + i) t with
 | none => exact ⟨fun ⟨s', h, _⟩ => (by cases h), False.elim⟩
 | some x =>
   have h2 : d_a1 i (base + i) (some p) t M c pend reads (some x) = some (.mk (t.setP p x.1) M c ((i, base + i, x.2) :: pend) reads) := by
    show ((setT t (some p) x.1).force fun t => some (DS.mk t M c ((i, base + i, x.2) :: pend) reads)) = _
    rw [Tr.force_eq]; rfl
   rw [h2]
   constructor
   · rintro ⟨s', h, q⟩; obtain rfl := Option.some.inj h; exact q
   · exact fun q => ⟨_, rfl, q⟩
theorem mergeAll_cons (i b : Nat) (x : Blk) (r : List (Nat × Nat × Blk)) (M : Mem) : mergeAll ((i, b, x) :: r) M = mergeAll r (M.set b x) := by
 show (M.set b x).force (fun M => mergeAll r M) = _
 rw [Tr.force_eq]
theorem readFree_nil (b : Nat) : readFree b [] = true := Eq.trans rfl (Eq.refl _)
theorem readFree_cons (b i b' : Nat) (r : List (Nat × Nat)) (h : b' ≠ b) : readFree b ((i, b') :: r) = readFree b r := by
 show (bif Nat.beq b' b then false else readFree b r) = _
 rw [beqN, decide_eq_false h]; rfl
def rowP (ty n : Nat) (row : List V) : Blk := .cells ty n false 0 false [] (rowT row)
def BufAt (M : Mem) (c0 c b : Nat) (v : V) (l : List UInt8) : Prop :=
 (l = [] ∧ v = .l0) ∨ (c0 ≤ b ∧ b < c ∧ ∃ n, (l.length ≤ n ∧ 0 < n) ∧ v = .u b 0 l.length 0 n ∧ M.get b = some (rowP 5 n (l.map bV)))
theorem BufAt.up {M M' : Mem} {c0 c c' b : Nat} {v : V} {l : List UInt8} (h : BufAt M c0 c b v l) (hc : c ≤ c') (hb : b < c → M'.get b = M.get b) : BufAt M' c0 c' b v l := by
 rcases h with h | ⟨h1, h2, n, h3, h4, h5⟩
 · exact .inl h
 · exact .inr ⟨h1, by omega, n, h3, h4, by rw [hb h2]; exact h5⟩
def cpyE (F : RO) (M : Mem) (c sz : Nat) (x y : V) : RC := e_cpy sz (.c x) (.c y) F M c .e
theorem x_cpy_eq (sz : Nat) (x y : X) (M : Mem) (c : Nat) (t : T) : doE (.cpy sz x y) (K Φ rd fn F) M c t = cpyE F M c sz (x.ev t) (y.ev t) := Eq.trans rfl (Eq.refl _)
end
def siB (s : List UInt8) (pos : Nat) : Blk := .siter s.length (strN s) pos
def rgsA (v : V) (b : Nat) : Option (V × Blk) := onS v none fun n s => some (.p b 0, .siter n s 0)
theorem a_rgs_w (x : X) (b : Nat) (t : T) : aop (.rgs x) b t = rgsA (x.ev t) b := Eq.trans rfl (Eq.refl _)
theorem rgsA_s (l : List UInt8) (b : Nat) : rgsA (sV l) b = some (.p b 0, siB l 0) := Eq.trans rfl (Eq.refl _)
theorem rune_hi (s : ByteArray) (i : Nat) (h : 128 ≤ (s.get! i).toNat) : 128 ≤ (Utf8.decode s i).1 := by
 unfold Utf8.decode
 simp only [Nat.add_zero, Utf8.runeError]
 rw [if_neg (by omega)]
 repeat' split
 all_goals first | omega | (simp_all; done) | (simp_all; omega)
def nxsE (M : Mem) (c : Nat) : V → RC
 | .p b 0 => nxsIn M c b (M.get b)
 | _ => .f
theorem x_nxs_w {Φ : Nat → Option CF} {rd : Option Nat} {fn : Nat} {F : RO} (x : X) (M : Mem) (c : Nat) (t : T) : doE (.nxs x) (K Φ rd fn F) M c t = nxsE M c (x.ev t) := Eq.trans rfl (Eq.refl _)
theorem nxs_end {M : Mem} {b : Nat} {l : List UInt8} (c : Nat) (h : M.get b = some (siB l l.length)) : nxsE M c (.p b 0) = .k (.t [.b false]) M c := by
 show nxsIn M c b (M.get b) = _
 rw [h]
 show (bif Nat.blt l.length l.length then _ else RC.k (.t [.b false]) M c) = _
 rw [bltN, decide_eq_false (Nat.lt_irrefl _), cond_false]
theorem nxs_lo {M : Mem} {b : Nat} {l : List UInt8} {i : Nat} (c : Nat) (h : M.get b = some (siB l i)) (hi : i < l.length) (hc : l[i].toNat < 128) : nxsE M c (.p b 0) = .k (.t [.b true, .i .i64 (i : Int), .i .i32 (l[i].toNat : Int)]) (M.set b (siB l (i + 1))) c := by
 show nxsIn M c b (M.get b) = _
 rw [h]
 show (bif Nat.blt i l.length then (fN (Nat.mod (Nat.div (strN l) (p256 i)) 256) fun ch => bif Nat.blt ch 128 then _ else _) else _) = _
 rw [bltN, decide_eq_true hi, cond_true, fN_eq, show Nat.mod (Nat.div (strN l) (p256 i)) 256 = l[i].toNat from strN_get l i hi, bltN, decide_eq_true hc, cond_true, fN_eq, setM_eq]; rfl
theorem nxs_hi {M : Mem} {b : Nat} {l : List UInt8} {i : Nat} (c : Nat) (h : M.get b = some (siB l i)) (hi : i < l.length) (hc : 128 ≤ l[i].toNat) : ∃ r p : Nat, 128 ≤ r ∧ nxsE M c (.p b 0) = .k (.t [.b true, .i .i64 (i : Int), .i .i32 (r : Int)]) (M.set b (siB l p)) c := by
 refine ⟨(Utf8.decode (ba l.length (strN l)) i).1, i + (Utf8.decode (ba l.length (strN l)) i).2, rune_hi _ _ (by rw [ba_get hi, strN_get l i hi]; exact hc), ?_⟩
 show nxsIn M c b (M.get b) = _
 rw [h]
 show (bif Nat.blt i l.length then (fN (Nat.mod (Nat.div (strN l) (p256 i)) 256) fun ch => bif Nat.blt ch 128 then _ else nxsU M c b l.length (strN l) i (Utf8.decode (ba l.length (strN l)) i)) else _) = _
 rw [bltN, decide_eq_true hi, cond_true, fN_eq, show Nat.mod (Nat.div (strN l) (p256 i)) 256 = l[i].toNat from strN_get l i hi, bltN, decide_eq_false (by omega), cond_false]
 unfold nxsU
 rw [fN_eq, fN_eq, setM_eq]; rfl
theorem wd_em {Φ : Nat → Option CF} {rd : Option Nat} {fn : Nat} {F : RO} (base i mask j b : Nat) (blk : Blk) (dst : Option Pos) (o : EO) (r : List (Nat × Nat × CO)) (t : T) (M : Mem) (c : Nat) (reads : List (Nat × Nat)) (R : DS → Prop) (hj : (mask / 2 ^ j % 2 == 1) = true) (hb : befB mask reads = true) :
  WpD base ((i, mask, .mk dst (.e o) none) :: r) (K Φ rd fn F) (.mk t M c [(j, b, blk)] reads) R = PutDE (doE o (K Φ rd fn F) (M.set b blk) c t) F dst base r (K Φ rd fn F) t reads R := by
 have hp := befB_protect hb
 have hj' : testBit mask j = true := by
  show Nat.beq (Nat.mod (Nat.div mask (Nat.pow 2 j)) 2) 1 = true
  rw [beqN]; exact decide_eq_true (show mask / 2 ^ j % 2 = 1 by simpa using hj)
 have hmg : merge mask [(j, b, blk)] M = (M.set b blk, []) := by
  show (bif testBit mask j then (M.set b blk).force (fun M => merge mask [] M) else _) = _
  rw [hj', cond_true, Tr.force_eq]; rfl
 have he : dOp (K Φ rd fn F) base (i, mask, .mk dst (.e o) none) (.mk t M c [(j, b, blk)] reads) = d_e2 F dst t [] reads [] (doE o (K Φ rd fn F) (M.set b blk) c t) := by
  show d_e0 o (K Φ rd fn F) mask dst t c reads (merge mask [(j, b, blk)] M) = _
  rw [hmg]
  show d_e1 o (K Φ rd fn F) dst t c [] reads (protect mask reads F (M.set b blk) []) = _
  rw [hp]; rfl
 apply propext
 rw [wd_cons, he]
 cases hd : doE o (K Φ rd fn F) (M.set b blk) c t with
 | f => exact ⟨fun ⟨s', h, _⟩ => (by cases h), False.elim⟩
 | k v M' c' =>
   have h2 : d_e2 F dst t [] reads [] (.k v M' c') = if roFree M' F = true then some (DS.mk (setT t dst v) M' c' [] reads) else none := by
    show (bif roFree M' F && pendFree F M' [] then (unprotect [] M').force fun M => (setT t dst v).force fun t => some (DS.mk t M c' [] reads) else none) = _
    cases hr : roFree M' F with
    | false => rfl
    | true =>
      show ((unprotect [] M').force fun M => (setT t dst v).force fun t => some (DS.mk t M c' [] reads)) = _
      rw [Tr.force_eq, Tr.force_eq]; rfl
   rw [h2]
   show _ ↔ (roFree M' F = true ∧ WpD base r (K Φ rd fn F) (.mk (setT t dst v) M' c' [] reads) R)
   cases hr : roFree M' F with
   | false => exact ⟨fun ⟨s', h, _⟩ => (by simp at h), fun h => (by cases h.1)⟩
   | true =>
     constructor
     · rintro ⟨s', h, q⟩
       simp only [if_true] at h
       obtain rfl := Option.some.inj h; exact ⟨rfl, q⟩
     · exact fun h => ⟨_, rfl, h.2⟩
theorem wd_cp {Φ : Nat → Option CF} {rd : Option Nat} {fn : Nat} {F : RO} {f : Nat} {h : List V → Option V} (hf : Φ f = some (.orc (pureO h))) (base i mask : Nat) (dst : Option Pos) (as : List X) (r : List (Nat × Nat × CO)) (t : T) (M : Mem) (c : Nat) (R : DS → Prop) :
  WpD base ((i, mask, .mk dst (.e (.call f as)) none) :: r) (K Φ rd fn F) (.mk t M c [] []) R = PutDE (ofO (h (evs as t)) M c) F dst base r (K Φ rd fn F) t [] R := by
 rw [wd_e1 base i mask dst (.call f as) r t M c [] R (befB_nil mask)]
 congr 1
 show callC (den Φ) F f (evs as t) M c (Φ f) = _
 rw [hf]; rfl
def ErrVar (F : RO) (g : Nat) : Prop := ∃ t b o, ∀ M : Mem, M.get g = none → load1 F M g 0 = some (.a t (.p b o))
theorem cell_plain {W : World} {a : Addr} {v : Value} (h : W.cell? a = some v) : ∃ r o, a = ⟨r, o, none⟩ ∧ r < W.heap.size := by
 obtain ⟨r, o, sp⟩ := a
 unfold World.cell? at h
 split at h
 · rename_i cs ty fr hh
   have hlt : r < W.heap.size := (Array.getElem?_eq_some_iff.1 hh).1
   cases sp with
   | none => exact ⟨r, o, rfl, hlt⟩
   | some k => simp at h
 · cases h
def errQ (F : RO) (g : Nat) : Option (Nat × Nat × Nat × Nat) := match roGet F g with
 | some (.cells ty n false fz true d c) => bif Nat.beq n 1 && Nat.beq fz 1 then (match cell 1 d c 0 with
   | some (.a t (.p b o)) => some (ty, t, b, o)
   | _ => none) else none
 | _ => none
theorem errQ_some {F : RO} {g ty t b o : Nat} (h : errQ F g = some (ty, t, b, o)) : ∃ d c, roGet F g = some (.cells ty 1 false 1 true d c) ∧ cell 1 d c 0 = some (.a t (.p b o)) := by
 unfold errQ at h
 split at h
 · rename_i ty' n fz d c hF
   cases hh : Nat.beq n 1 && Nat.beq fz 1 with
   | false => rw [hh] at h; cases h
   | true =>
     rw [hh, cond_true] at h
     rw [Bool.and_eq_true, beqN, beqN] at hh
     obtain rfl := of_decide_eq_true hh.1
     obtain rfl := of_decide_eq_true hh.2
     split at h
     · rename_i t' b' o' hc
       injection h with h; injection h with h1 h; injection h with h2 h; injection h with h3 h4
       subst h1 h2 h3 h4
       exact ⟨d, c, hF, hc⟩
     · cases h
 · cases h
def errsIn (F : RO) : List Nat → Bool
 | [] => true
 | g :: r => Nat.blt g 1000 && ((errQ F g).isSome && errsIn F r)
theorem errsIn_mem {F : RO} : ∀ {L : List Nat}, errsIn F L = true → ∀ g ∈ L, g < 1000 ∧ ∃ ty t b o, errQ F g = some (ty, t, b, o)
 | [], _, g, hg => by cases hg
 | x :: r, h, g, hg => by
   have h' : (Nat.blt x 1000 && ((errQ F x).isSome && errsIn F r)) = true := h
   rw [Bool.and_eq_true, Bool.and_eq_true, bltN] at h'
   rcases List.mem_cons.1 hg with e | hg'
   · subst e
     obtain ⟨⟨ty, t, b, o⟩, hq⟩ := Option.isSome_iff_exists.1 h'.2.1
     exact ⟨of_decide_eq_true h'.1, ty, t, b, o, hq⟩
   · exact errsIn_mem h'.2.2 g hg'
theorem errVar_in {F : RO} {g : Nat} (h : (errQ F g).isSome = true) : ErrVar F g := by
 obtain ⟨⟨ty, t, b, o⟩, hq⟩ := Option.isSome_iff_exists.1 h
 obtain ⟨d, c, hF, hc⟩ := errQ_some hq
 refine ⟨t, b, o, fun M hM => ?_⟩
 unfold Ev.load1
 rw [look_none_M hM, hF]
 exact hc
def errBlk (ty t k o : Nat) : Blk := .cells ty 1 false 1 true [.a t (.p k o)] .e
def errF (F : RO) (q : Nat → Nat × Nat × Nat) : List Nat → Nat → RO
 | [], _ => F
 | g :: r, k => (g, errBlk (q g).1 (q g).2.1 k (q g).2.2) :: errF F q r (Nat.succ k)
theorem errF_get {F : RO} {q : Nat → Nat × Nat × Nat} : ∀ {L : List Nat} {k b : Nat} {blk : Blk}, roGet (errF F q L k) b = some blk → roGet F b = some blk ∨ ∃ i, L[i]? = some b ∧ blk = errBlk (q b).1 (q b).2.1 (k + i) (q b).2.2
 | [], k, b, blk, h => .inl h
 | g :: r, k, b, blk, h => by
   have h' : Bool.rec (motive := fun _ => Option Blk) (roGet (errF F q r (k + 1)) b) (some (errBlk (q g).1 (q g).2.1 k (q g).2.2)) (Nat.beq g b) = some blk := h
   rw [bb, beqN] at h'
   by_cases e : g = b
   · rw [if_pos (by simpa using e)] at h'
     subst e
     exact .inr ⟨0, rfl, (Option.some.inj h').symm⟩
   · rw [if_neg (by simpa using e)] at h'
     rcases errF_get h' with h | ⟨i, h1, h2⟩
     · exact .inl h
     · exact .inr ⟨i + 1, h1, by rw [h2, show k + 1 + i = k + (i + 1) by omega]⟩
def errN (F : RO) (L : List Nat) (i : Nat) : Nat := match L[i]? with
 | some g => (match errQ F g with | some (_, _, b, _) => b | none => 0)
 | none => 0
def errE (E : Env) (F : RO) (L : List Nat) : Env := ⟨fun x => if x < 1000 then E.ρ x else E.ρ (errN F L (x - 1000)), fun x => if x < 1000 then E.β x else E.β (errN F L (x - 1000)), fun x => if x < 1000 then E.κ x else E.κ (errN F L (x - 1000))⟩
theorem errE_ext (E : Env) (F : RO) (L : List Nat) : Ext (fun x => x < 1000) E (errE E F L) := ⟨fun b hb => if_pos hb, fun b hb => if_pos hb, fun b hb => if_pos hb⟩
theorem rel_errs {P : Program} {E : Env} {F : RO} {M : Mem} {c : Nat → Prop} {w : World} {L : List Tab} {gs : List Nat} (hr : Rel P E F M c w) (hglob : ∀ g, g < 1000 → E.ρ g = g ∧ E.β g = 0) (h : tabsIn F L = true) (he : errsIn F gs = true) :
  ∃ ty q, Rel P (errE E F gs) (errF (tabF L ty) q gs 1000) .e (fun x => x < 1000 + gs.length) w := by
 obtain ⟨ty, hT⟩ := rel_tabsIn hr hglob h
 have hall := errsIn_mem he
 have hgl : ∀ g, g < 1000 → (errE E F gs).ρ g = g := fun g hg => ((errE_ext E F gs).ρ g hg).trans (hglob g hg).1
 refine ⟨ty, fun g => match errQ F g with | some (ty, t, _, o) => (ty, t, o) | none => (0, 0, 0), ⟨?_, ?_, fun b hb => rfl⟩⟩
 · intro b blk hb
   rw [look_none_M (show (Tr.e : Mem).get b = none from rfl)] at hb
   rcases errF_get hb with hb | ⟨i, hi, rfl⟩
   · obtain ⟨h1, h2, o, h3, h4⟩ := hT.has b blk (by rw [look_none_M (show (Tr.e : Mem).get b = none from rfl)]; exact hb)
     have h1' : b < 1000 := h1
     exact ⟨Nat.lt_of_lt_of_le h1' (Nat.le_add_right _ _), bdBlk_mono (fun x (hx : x < 1000) => Nat.lt_of_lt_of_le hx (Nat.le_add_right _ _)) blk h2, o, by rw [hgl b h1', ← (hglob b h1').1]; exact h3, h4.ext (errE_ext E F gs) h1' h2⟩
   · have hm := List.mem_of_getElem? hi
     obtain ⟨hb1, ty', t, b', o, hq⟩ := hall b hm
     obtain ⟨d, cc, hF, hc⟩ := errQ_some hq
     have hl : look F M b = some (.cells ty' 1 false 1 true d cc) := by
      rw [look_none_M (hr.apart b (by rw [hF]; rfl))]; exact hF
     obtain ⟨_, hbd, obj, ho, arr, fr, rfl, hC⟩ := hr.has _ _ hl
     have hil : i < gs.length := (List.getElem?_eq_some_iff.1 hi).1
     have hn : errN F gs i = b' := by unfold errN; rw [hi]; simp only [hq]
     simp only [hq]
     refine ⟨Nat.lt_of_lt_of_le hb1 (Nat.le_add_right _ _), ?_, _, by rw [hgl b hb1, ← (hglob b hb1).1]; exact ho, arr, fr, rfl, ?_, ?_, ?_, fun hh => by cases hh⟩
     · intro k v hv
       rw [cell_eq] at hv
       split at hv
       · obtain rfl : k = 0 := by omega
         obtain rfl := Option.some.inj hv
         show 1000 + i < 1000 + gs.length
         omega
       · cases hv
     · intro k v hv
       rw [cell_eq] at hv
       split at hv
       · obtain rfl : k = 0 := by omega
         obtain rfl := Option.some.inj hv
         have := hC.cell 0 _ hc
         rw [(errE_ext E F gs).β b hb1, this]
         show some (Value.iface t (.pointer (some ⟨E.ρ b', E.β b' + o, none⟩))) = some (Value.iface t (.pointer (some ⟨(errE E F gs).ρ (1000 + i), (errE E F gs).β (1000 + i) + o, none⟩)))
         have e1 : (errE E F gs).ρ (1000 + i) = E.ρ b' := by
          show (if 1000 + i < 1000 then _ else E.ρ (errN F gs (1000 + i - 1000))) = _
          rw [if_neg (by omega), show 1000 + i - 1000 = i by omega, hn]
         have e2 : (errE E F gs).β (1000 + i) = E.β b' := by
          show (if 1000 + i < 1000 then _ else E.β (errN F gs (1000 + i - 1000))) = _
          rw [if_neg (by omega), show 1000 + i - 1000 = i by omega, hn]
         rw [e1, e2]
       · cases hv
     · have := hC.size
       show arr.size = (errE E F gs).β b + 1 + (errE E F gs).κ b * _
       rw [(errE_ext E F gs).β b hb1, (errE_ext E F gs).κ b hb1]
       exact this
     · rw [(errE_ext E F gs).β b hb1]; exact hC.free
 · intro b b' h1 h2 e
   have lt : ∀ x, (look (errF (tabF L ty) (fun g => match errQ F g with | some (ty, t, _, o) => (ty, t, o) | none => (0, 0, 0)) gs 1000) .e x).isSome → x < 1000 := by
    intro x hx
    obtain ⟨y, hy⟩ := Option.isSome_iff_exists.1 hx
    rw [look_none_M (show (Tr.e : Mem).get x = none from rfl)] at hy
    rcases errF_get hy with hy | ⟨i, hi, _⟩
    · exact (hT.has x y (by rw [look_none_M (show (Tr.e : Mem).get x = none from rfl)]; exact hy)).1
    · exact (hall x (List.mem_of_getElem? hi)).1
   rw [hgl b (lt b h1), hgl b' (lt b' h2)] at e
   exact e
def knownE (L : List Tab) (gs : List Nat) : RO → List V → Mem → Nat → RC := fun F args M ct => match args with | [] => bif tabsIn F L && errsIn F gs then .k (.b true) M ct else .f | _ => .f
theorem knownE_nil {F : RO} {L : List Tab} {gs : List Nat} (h : tabsIn F L = true) (h' : errsIn F gs = true) (M : Mem) (c : Nat) : knownE L gs F [] M c = .k (.b true) M c := by
 show (bif tabsIn F L && errsIn F gs then RC.k (.b true) M c else .f) = _
 rw [h, h']; rfl
def runE (Φ : Nat → Option CF) (fuel : Nat) (F : RO) (f n : Nat) : RC := callC (exec Φ fuel) F f [] .e n (Φ f)
theorem orc_closed_errs {P : Program} (hm : P.follows .mixedOrders = true) {Φ : Nat → Option CF} (hΦ : PhiOk P Φ) {fuel f n : Nat} {L : List Tab} {gs : List Nat} (hn : 1000 + gs.length = n) (h : ∀ ty q, isT (runE Φ fuel (errF (tabF L ty) q gs 1000) f n) = true) :
  OrcOk P f (knownE L gs) := by
 subst hn
 intro F args M ct v N ct' hg E c w hr hglob hbig hf ha
 cases args with
 | cons a r => cases hg
 | nil =>
   have hg' : (bif tabsIn F L && errsIn F gs then RC.k (.b true) M ct else .f) = .k v N ct' := hg
   cases ht : tabsIn F L && errsIn F gs with
   | false => rw [ht] at hg'; cases hg'
   | true =>
     rw [ht] at hg'
     rw [Bool.and_eq_true] at ht
     have hg2 : RC.k (.b true) M ct = .k v N ct' := hg'
     injection hg2 with e1 e2 e3
     subst e1 e2 e3
     obtain ⟨ty, q, hrel⟩ := rel_errs hr hglob ht.1 ht.2
     obtain ⟨M', ct2, hk⟩ := isT_some (h ty q)
     have hgl : ∀ g, g < 1000 → (errE E F gs).ρ g = g ∧ (errE E F gs).β g = 0 := fun g hg => ⟨((errE_ext E F gs).ρ g hg).trans (hglob g hg).1, ((errE_ext E F gs).β g hg).trans (hglob g hg).2⟩
     obtain ⟨fn, h1, h2, h3, hC⟩ := callOk_of (rd := none) (fn := 0) (F₀ := []) hΦ (exec_sound hm hΦ fuel) (errF (tabF L ty) q gs 1000) f [] .e (1000 + gs.length) (.b true) M' ct2 hk (errE E F gs) (fun x => x < 1000 + gs.length) w hrel hgl (fun g hg => Nat.lt_of_lt_of_le hg (Nat.le_add_right _ _)) (fun b hb hc => Nat.lt_irrefl _ (Nat.lt_of_lt_of_le hc hb)) trivial
     refine ⟨fn, h1, h2, h3, hC.mono ?_⟩
     rintro e w' ⟨E', c', rfl, hS, hb, hG⟩
     have hfr : ∀ r, r < w.heap.size → w'.heap[r]? = w.heap[r]? := fun r hr' => hS.frame r hr' (fun b hb => by cases hb)
     have hhas : ∀ b blk, look F M b = some blk → c b ∧ bdBlk c blk ∧ ∃ o, w'.heap[E.ρ b]? = some o ∧ BlkRel P E b blk o := by
      intro b blk hb
      obtain ⟨g1, g2, o, ho, g3⟩ := hr.has b blk hb
      exact ⟨g1, g2, o, by rw [hfr _ (Array.getElem?_eq_some_iff.1 ho).1]; exact ho, g3⟩
     exact ⟨E, c, rfl, ⟨.refl c E, fun _ h => h, ⟨hhas, hr.inj, hr.apart⟩, fun b hb => .inl ⟨b, hb, rfl⟩, fun r hr' _ => hfr r hr', hS.size, hS.os, hS.output, hS.tape⟩, trivial, .refl _ _⟩
theorem errQ_of {P : Program} {n nm : String} {text : List UInt8} {r : List (String × DataW Unit)} {W : World} {C g : Nat} {ti tp te ts : TypeId} {ms : Array (String × TypeId)} {f : Field}
  (hC : W.heap.size ≤ C) (h : laidMet P ((n, .iface nm (.ptr (.agg [.lit (.string text)]))) :: r) W)
  (hg : P.globalNamed n = some g) (ht : (P.globals[g]?).map (·.type) = some ti) (hi : P.underlying ti = some (.interface ms)) (hrow : ∀ u, P.typeName? 3 u = some nm → u = tp)
  (hp : P.underlying tp = some (.pointer te)) (he : P.underlying te = some (.struct #[f])) (hft : f.type = ts) (hfo : f.offset = 0) (hs : P.underlying ts = some .string) (hc : P.cellsOf te = 1) (hcs : P.cellsOf ts = 1) :
  (errQ (heapF W C) g).isSome = true := by
 obtain ⟨a, s, hv, hca, _, _⟩ := laid_sentinel h hg ht hi hrow hp he hft hfo hs hc hcs
 obtain ⟨rb, o, rfl, hlt⟩ := cell_plain hca
 have hv2 : vOf C (.iface tp (.pointer (some ⟨rb, o, none⟩))) = some (.a tp (.p rb o)) := if_pos (Nat.lt_of_lt_of_le hlt hC)
 unfold World.var? at hv
 rw [hg] at hv
 simp only [Option.bind_some] at hv
 split at hv
 · rename_i cs ty fr hh
   obtain rfl := Option.some.inj hv
   have hcell : cell (#[Value.iface tp (.pointer (some ⟨rb, o, none⟩))]).size [] (optTr ((#[Value.iface tp (.pointer (some ⟨rb, o, none⟩))]).toList.map (vOf C)) 0 .e) 0 = some (.a tp (.p rb o)) := (heap_cell (ty := ty)).2 ⟨_, rfl, hv2⟩
   unfold errQ
   rw [heapF_get]
   have hh' : W.heap[g]? = some (.cells #[Value.iface tp (.pointer (some ⟨rb, o, none⟩))] ty fr) := hh
   rw [hh']
   show Option.isSome (bif Nat.beq 1 1 && Nat.beq 1 1 then (match cell 1 [] (optTr ((#[Value.iface tp (.pointer (some ⟨rb, o, none⟩))]).toList.map (vOf C)) 0 .e) 0 with
    | some (.a t (.p b o)) => some (ty, t, b, o)
    | _ => none) else none) = true
   have hcell' : cell 1 [] (optTr ((#[Value.iface tp (.pointer (some ⟨rb, o, none⟩))]).toList.map (vOf C)) 0 .e) 0 = some (.a tp (.p rb o)) := hcell
   rw [hcell']
   rfl
 · cases hv
theorem i64_of {F : RO} {M : Mem} {c : Nat} {vs : List V} {x : (Ty.int .i64).D} (h : Rp F M c (.int .i64) vs x) : ∃ z : Int, vs = [.i .i64 z] ∧ -9223372036854775808 ≤ z ∧ z ≤ 9223372036854775807 := by
 have key : ∀ z : Int, vs = [.i .i64 z] ∧ IntKind.i64.min ≤ z ∧ z ≤ IntKind.i64.max → ∃ z : Int, vs = [.i .i64 z] ∧ -9223372036854775808 ≤ z ∧ z ≤ 9223372036854775807 := fun z h => ⟨z, h⟩
 exact key x h
theorem setParams_two (p q : Pos) (x y : V) (t : T) : setParams [p, q] [x, y] t = some ((t.setP p x).setP q y) := by
 show (t.setP p x).force (fun t => (t.setP q y).force fun t => some t) = _
 rw [Tr.force_eq, Tr.force_eq]
def b102_1 : CC := (.reg [(qq a4 (.mv (x6 0)))])
def b102_2 : CC := (.reg [(qq a5 (.mv z0)), (qq a6 (.mv z1)), (qq a7 (.xib z5 z6)), (qq a4 (.mv z7))])
def c102 : CF := .mk 4 [.t a4] (.seq b102_1 (.seq b102_2 .ret))
theorem e102 (v0 v1 : V) : argTr 4 [v0, v1] = (.n (.n sk2 (some v1) sk2) (some v0) sk3) := rfl
def B102 := ai @e102 (ai (wu b102_1.eq_1) (wu b102_2.eq_1))
def b64_1 : CC := (.reg [(qq a4 (.mv (x6 0)))])
def b64_2 : CC := (.reg [(qq a14 (.mv z1)), (qq a15 (.ln .str z14)), (qq a5 (.mv z15))])
def b64_3 : CC := (.reg [(qq a17 (.mv z5)), (qq a18 (.bi .eql z17 (x6 0))), (qq a19 (.mv z18)), ⟨(some a20), .q (.mv z1), (some (a19, false))⟩, ⟨(some a21), .q (.mv z0), (some (a19, false))⟩, ⟨(some a22), .q (.bi .eql z20 z21), (some (a19, false))⟩, (qq a23 (.pk z19 xT z22)), (qq a16 (.mv z23))])
def b64_4 : CC := (.reg [(qq a4 (.mv (x6 0)))])
def b64_5 : CC := (.reg [(qq a25 (.mv z5)), (qq a26 (.bi .eql z25 (x6 1))), (qq a24 (.mv z26))])
def b64_6 : CC := (.reg [(qq a27 (.mv z0)), (qq a28 (.mv z1)), (qq a29 (.ixS z28 (x6 0))), (ee a30 (.call 102 [z27, z29])), (qq a4 (.mv z30))])
def b64_7 : CC := (.reg [(qq a32 (.mv z5)), (qq a33 (.mv z0)), (qq a34 (.ln .str z33)), (qq a35 (.bi .geq z32 z34)), (qq a31 (.mv z35))])
def b64_8 : CC := (.reg [(qq a4 (.mv (x6 (-1))))])
def b64_9 : CC := (.reg [(qq a37 (.mv z5)), (qq a38 (.ld1 (.c (.p 0 0)))), (qq a39 (.bi .leq z37 z38)), (qq a40 (.mv z39)), ⟨(some a41), .q (.mv z0), (some (a40, true))⟩, ⟨(some a42), .q (.ln .str z41), (some (a40, true))⟩, ⟨(some a43), .q (.bi .leq z42 (x6 64)), (some (a40, true))⟩, (qq a44 (.pk z40 z43 xF)), (qq a36 (.mv z44))])
def b64_10 : CC := (.reg [(qq a45 (.mv z0)), (qq a46 (.mv z1)), (qq a47 (.bad)), (qq a4 (.mv z47))])
def b64_11 : CC := (.cond z36 (.seq b64_10 .ret) .skip)
def b64_12 : CC := (.cond z31 (.seq b64_8 .ret) (.seq b64_9 b64_11))
def b64_13 : CC := (.cond z24 (.seq b64_6 .ret) (.seq b64_7 b64_12))
def b64_14 : CC := (.cond z16 (.seq b64_4 .ret) (.seq b64_5 b64_13))
def b64_15 : CC := (.reg [(qq a48 (.mv z1)), (qq a49 (.ixS z48 (x6 0))), (qq a6 (.mv z49))])
def b64_16 : CC := (.reg [(qq a50 (.mv z1)), (qq a51 (.ixS z50 (x6 1))), (qq a7 (.mv z51))])
def b64_17 : CC := (.reg [(qq a8 (.mv (x6 0)))])
def b64_18 : CC := (.reg [(qq a52 (.mv z0)), (qq a53 (.ln .str z52)), (qq a54 (.mv z5)), (qq a55 (.bi .sub z53 z54)), (qq a56 (.bi .add z55 (x6 1))), (qq a9 (.mv z56))])
def b64_19 : CC := (.reg [(qq a10 (.mv (x6 0)))])
def b64_20 : CC := (.reg [(qq a57 (.mv z8)), (qq a58 (.mv z9)), (qq a59 (.bi .lss z57 z58))])
def b64_21 : CC := (.seq b64_20 (.cond z59 .skip (.exit 1)))
def b64_22 : CC := (.reg [(qq a60 (.mv z0)), (qq a61 (.mv z8)), (qq a62 (.ixS z60 z61)), (qq a63 (.mv z6)), (qq a64 (.bi .neq z62 z63))])
def b64_23 : CC := (.reg [(qq a65 (.mv z0)), (qq a66 (.mv z8)), (qq a67 (.bi .add z66 (x6 1))), (qq a68 (.mv z9)), (qq a69 (.slS z65 (some z67) (some z68))), (qq a70 (.mv z6)), (ee a71 (.call 102 [z69, z70])), (qq a11 (.mv z71))])
def b64_24 : CC := (.reg [(qq a72 (.mv z11)), (qq a73 (.bi .lss z72 (x6 0)))])
def b64_25 : CC := (.reg [(qq a4 (.mv (x6 (-1))))])
def b64_26 : CC := (.cond z73 (.seq b64_25 .ret) .skip)
def b64_27 : CC := (.reg [(qq a74 (.mv z8)), (qq a75 (.mv z11)), (qq a76 (.bi .add z75 (x6 1))), (qq a77 (.bi .add z74 z76)), (qq a8 (.mv z77))])
def b64_28 : CC := (.cond z64 (.seq b64_23 (.seq (.seq b64_24 b64_26) b64_27)) .skip)
def b64_29 : CC := (.reg [(qq a78 (.mv z0)), (qq a79 (.mv z8)), (qq a80 (.bi .add z79 (x6 1))), (qq a81 (.ixS z78 z80)), (qq a82 (.mv z7)), (qq a83 (.bi .eql z81 z82)), (qq a84 (.mv z83)), ⟨(some a85), .q (.mv z0), (some (a84, true))⟩, ⟨(some a86), .q (.mv z8), (some (a84, true))⟩, ⟨(some a87), .q (.mv z8), (some (a84, true))⟩, ⟨(some a88), .q (.mv z5), (some (a84, true))⟩, ⟨(some a89), .q (.bi .add z87 z88), (some (a84, true))⟩, ⟨(some a90), .q (.slS z85 (some z86) (some z89)), (some (a84, true))⟩, ⟨(some a91), .q (.mv z1), (some (a84, true))⟩, ⟨(some a92), .q (.bi .eql z90 z91), (some (a84, true))⟩, (qq a93 (.pk z84 z92 xF))])
def b64_30 : CC := (.reg [(qq a94 (.mv z8)), (qq a4 (.mv z94))])
def b64_31 : CC := (.cond z93 (.seq b64_30 .ret) .skip)
def b64_32 : CC := (.reg [(qq a95 (.mv z8)), (qq a96 (.bi .add z95 (x6 1))), (qq a8 (.mv z96))])
def b64_33 : CC := (.reg [(qq a97 (.mv z10)), (qq a98 (.bi .add z97 (x6 1))), (qq a10 (.mv z98))])
def b64_34 : CC := (.reg [(qq a99 (.mv z5)), (qq a100 (.ld1 (.c (.p 0 0)))), (qq a101 (.bi .leq z99 z100)), (qq a102 (.mv z101)), ⟨(some a103), .q (.mv z10), (some (a102, true))⟩, ⟨(some a104), .q (.mv z8), (some (a102, true))⟩, ⟨(some a105), .e (.call 104 [z104]), (some (a102, true))⟩, ⟨(some a106), .q (.bi .gtr z103 z105), (some (a102, true))⟩, (qq a107 (.pk z102 z106 xF))])
def b64_35 : CC := (.reg [(qq a108 (.mv z0)), (qq a109 (.mv z8)), (qq a110 (.slS z108 (some z109) none)), (qq a111 (.mv z1)), (qq a112 (.bad)), (qq a12 (.mv z112))])
def b64_36 : CC := (.reg [(qq a113 (.mv z12)), (qq a114 (.bi .geq z113 (x6 0)))])
def b64_37 : CC := (.reg [(qq a115 (.mv z12)), (qq a116 (.mv z8)), (qq a117 (.bi .add z115 z116)), (qq a4 (.mv z117))])
def b64_38 : CC := (.cond z114 (.seq b64_37 .ret) .skip)
def b64_39 : CC := (.reg [(qq a4 (.mv (x6 (-1))))])
def b64_40 : CC := (.seq b64_35 (.seq (.seq b64_36 b64_38) (.seq b64_39 .ret)))
def b64_41 : CC := (.reg [(qq a118 (.mv z5)), (qq a119 (.ld1 (.c (.p 0 0)))), (qq a120 (.bi .gtr z118 z119)), (qq a121 (.mv z120)), ⟨(some a122), .q (.mv z10), (some (a121, true))⟩, ⟨(some a123), .q (.mv z8), (some (a121, true))⟩, ⟨(some a124), .q (.bi .shr z123 (.c (.i .u64 4))), (some (a121, true))⟩, ⟨(some a125), .q (.bi .add (x6 4) z124), (some (a121, true))⟩, ⟨(some a126), .q (.bi .geq z122 z125), (some (a121, true))⟩, (qq a127 (.pk z121 z126 xF)), (qq a128 (.mv z127)), ⟨(some a129), .q (.mv z8), (some (a128, true))⟩, ⟨(some a130), .q (.mv z9), (some (a128, true))⟩, ⟨(some a131), .q (.bi .lss z129 z130), (some (a128, true))⟩, (qq a132 (.pk z128 z131 xF))])
def b64_42 : CC := (.reg [(qq a133 (.mv z0)), (qq a134 (.mv z8)), (qq a135 (.slS z133 (some z134) none)), (qq a136 (.mv z1)), (ee a137 (.call 105 [z135, z136])), (qq a13 (.mv z137))])
def b64_43 : CC := (.reg [(qq a138 (.mv z13)), (qq a139 (.bi .lss z138 (x6 0)))])
def b64_44 : CC := (.reg [(qq a4 (.mv (x6 (-1))))])
def b64_45 : CC := (.cond z139 (.seq b64_44 .ret) .skip)
def b64_46 : CC := (.reg [(qq a140 (.mv z8)), (qq a141 (.mv z13)), (qq a142 (.bi .add z140 z141)), (qq a4 (.mv z142))])
def b64_47 : CC := (.seq b64_42 (.seq (.seq b64_43 b64_45) (.seq b64_46 .ret)))
def b64_48 : CC := (.cond z132 b64_47 .skip)
def b64_49 : CC := (.cond z107 b64_40 (.seq b64_41 b64_48))
def b64_50 : CC := (.seq (.seq b64_29 b64_31) (.seq b64_32 (.seq b64_33 (.seq b64_34 b64_49))))
def b64_51 : CC := (.loop (.seq b64_21 (.block 2 (.seq (.seq b64_22 b64_28) b64_50))))
def b64_52 : CC := (.reg [(qq a4 (.mv (x6 (-1))))])
def b64_53 : CC := (.seq b64_18 (.seq b64_19 (.seq (.block 1 b64_51) (.seq b64_52 .ret))))
def b64_54 : CC := (.seq (.block 0 (.seq b64_3 b64_14)) (.seq b64_15 (.seq b64_16 (.seq b64_17 b64_53))))
def c64 : CF := .mk 8 [.t a4] (.seq b64_1 (.seq b64_2 b64_54))
theorem e64 (v0 v1 : V) : argTr 8 [v0, v1] = (.n (.n sk6 (some v1) sk6) (some v0) sk7) := rfl
def B64 := ai @e64 (ai (wu b64_1.eq_1) (ai (wu b64_2.eq_1) (ai (wu b64_3.eq_1) (ai (wu b64_4.eq_1) (ai (wu b64_5.eq_1) (ai (wu b64_6.eq_1) (ai (wu b64_7.eq_1) (ai (wu b64_8.eq_1) (ai (wu b64_9.eq_1) (ai (wu b64_10.eq_1) (ai (wu b64_11.eq_1) (ai (wu b64_12.eq_1) (ai (wu b64_13.eq_1) (ai (wu b64_14.eq_1) (ai (wu b64_15.eq_1) (ai (wu b64_16.eq_1) (ai (wu b64_17.eq_1) (ai (wu b64_18.eq_1) (ai (wu b64_19.eq_1) (ai (wu b64_20.eq_1) (ai (wu b64_21.eq_1) (ai (wu b64_22.eq_1) (ai (wu b64_23.eq_1) (ai (wu b64_24.eq_1) (ai (wu b64_25.eq_1) (ai (wu b64_26.eq_1) (ai (wu b64_27.eq_1) (ai (wu b64_28.eq_1) (ai (wu b64_29.eq_1) (ai (wu b64_30.eq_1) (ai (wu b64_31.eq_1) (ai (wu b64_32.eq_1) (ai (wu b64_33.eq_1) (ai (wu b64_34.eq_1) (ai (wu b64_35.eq_1) (ai (wu b64_36.eq_1) (ai (wu b64_37.eq_1) (ai (wu b64_38.eq_1) (ai (wu b64_39.eq_1) (ai (wu b64_40.eq_1) (ai (wu b64_41.eq_1) (ai (wu b64_42.eq_1) (ai (wu b64_43.eq_1) (ai (wu b64_44.eq_1) (ai (wu b64_45.eq_1) (ai (wu b64_46.eq_1) (ai (wu b64_47.eq_1) (ai (wu b64_48.eq_1) (ai (wu b64_49.eq_1) (ai (wu b64_50.eq_1) (ai (wu b64_51.eq_1) (ai (wu b64_52.eq_1) (ai (wu b64_53.eq_1) (wu b64_54.eq_1))))))))))))))))))))))))))))))))))))))))))))))))))))))
def b39_1 : CC := (.reg [(qq a4 (.mv (.c (.s 0 0)))), (qq a5 (.mv (.c (.s 0 0)))), (qq a6 (.mv xF))])
def b39_2 : CC := (.reg [(qq a8 (.mv z0)), (qq a9 (.mv z1)), (ee a10 (.call 64 [z8, z9])), (qq a7 (.mv z10))])
def b39_3 : CC := (.reg [(qq a11 (.mv z7)), (qq a12 (.bi .geq z11 (x6 0)))])
def b39_4 : CC := (.dreg 12 [(0, 0, (qq a13 (.mv z0))), (1, 0, (qq a14 (.mv z7))), (2, 3, (qq a15 (.slS z13 none (some z14)))), (3, 0, (qq a16 (.mv z0))), (4, 0, (qq a17 (.mv z7))), (5, 0, (qq a18 (.mv z1))), (6, 32, (qq a19 (.ln .str z18))), (7, 112, (qq a20 (.bi .add z17 z19))), (8, 248, (qq a21 (.slS z16 (some z20) none))), (9, 7, (qq a4 (.mv z15))), (10, 1023, (qq a5 (.mv z21))), (11, 2047, (qq a6 (.mv xT)))])
def b39_5 : CC := (.seq b39_3 (.cond z12 (.seq b39_4 .ret) .skip))
def b39_6 : CC := (.reg [(qq a22 (.mv z0)), (qq a4 (.mv z22)), (qq a5 (.mv (.c (.s 0 0)))), (qq a6 (.mv xF))])
def c39 : CF := .mk 5 [.t a4, .t a5, .t a6] (.seq b39_1 (.seq (.seq b39_2 b39_5) (.seq b39_6 .ret)))
theorem e39 (v0 v1 : V) : argTr 5 [v0, v1] = (.n (.n sk3 (some v1) sk3) (some v0) sk4) := rfl
def B39 := ai @e39 (ai (wu b39_1.eq_1) (ai (wu b39_2.eq_1) (ai (wu b39_3.eq_1) (ai (wu b39_4.eq_1) (ai (wu b39_5.eq_1) (wu b39_6.eq_1))))))
def b17_1 : CC := (.reg [(qq a4 (.mv (.c (.s 0 0)))), (qq a5 (.mv (.c (.s 0 0)))), (qq a6 (.mv xF))])
def b17_2 : CC := (.reg [(qq a7 (.mv z0)), (qq a8 (.mv z1)), (ee a9 (.call 39 [z7, z8])), (qq a10 (.ex 0 z9)), (qq a11 (.ex 1 z9)), (qq a12 (.ex 2 z9)), (qq a4 (.mv z10)), (qq a5 (.mv z11)), (qq a6 (.mv z12))])
def c17 : CF := .mk 4 [.t a4, .t a5, .t a6] (.seq b17_1 (.seq b17_2 .ret))
theorem e17 (v0 v1 : V) : argTr 4 [v0, v1] = (.n (.n sk2 (some v1) sk2) (some v0) sk3) := rfl
def B17 := ai @e17 (ai (wu b17_1.eq_1) (wu b17_2.eq_1))
def b123_1 : CC := (.reg [(qq a4 (.mv xF))])
def b123_2 : CC := (.reg [(qq a5 (.mv z0)), (qq a6 (.ln .str z5)), (qq a7 (.mv z1)), (qq a8 (.ln .str z7)), (qq a9 (.bi .geq z6 z8)), (qq a10 (.mv z9)), ⟨(some a11), .q (.mv z0), (some (a10, true))⟩, ⟨(some a12), .q (.mv z1), (some (a10, true))⟩, ⟨(some a13), .q (.ln .str z12), (some (a10, true))⟩, ⟨(some a14), .q (.slS z11 none (some z13)), (some (a10, true))⟩, ⟨(some a15), .q (.mv z1), (some (a10, true))⟩, ⟨(some a16), .q (.bi .eql z14 z15), (some (a10, true))⟩, (qq a17 (.pk z10 z16 xF)), (qq a4 (.mv z17))])
def c123 : CF := .mk 5 [.t a4] (.seq b123_1 (.seq b123_2 .ret))
def b109_1 : CC := (.reg [(qq a4 (.mv (.c (.s 0 0))))])
def b109_2 : CC := (.reg [(qq a5 (.mv z0)), (qq a6 (.mv z1)), (ee a7 (.call 123 [z5, z6]))])
def b109_3 : CC := (.reg [(qq a8 (.mv z0)), (qq a9 (.mv z1)), (qq a10 (.ln .str z9)), (qq a11 (.slS z8 (some z10) none)), (qq a4 (.mv z11))])
def b109_4 : CC := (.seq b109_2 (.cond z7 (.seq b109_3 .ret) .skip))
def b109_5 : CC := (.reg [(qq a12 (.mv z0)), (qq a4 (.mv z12))])
def c109 : CF := .mk 4 [.t a4] (.seq b109_1 (.seq b109_4 (.seq b109_5 .ret)))
def b78_1 : CC := (.reg [(qq a4 (.mv (.c (.s 0 0))))])
def b78_2 : CC := (.reg [(qq a5 (.mv z0)), (qq a6 (.mv z1)), (ee a7 (.call 109 [z5, z6])), (qq a4 (.mv z7))])
def c78 : CF := .mk 4 [.t a4] (.seq b78_1 (.seq b78_2 .ret))
def asS : V → Option (List UInt8)
 | .s n x => if strN (bl n x) = x then some (bl n x) else none
 | _ => none
theorem asS_s (l : List UInt8) : asS (sV l) = some l := by
 show (if strN (bl l.length (strN l)) = strN l then some (bl l.length (strN l)) else none) = _
 rw [strN_bl, if_pos rfl]
theorem of_asS {v : V} {l : List UInt8} (h : asS v = some l) : v = sV l := by
 unfold asS at h
 split at h
 · rename_i n x
   split at h
   · rename_i hx
     obtain rfl := Option.some.inj h
     show V.s n x = V.s (bl n x).length (strN (bl n x))
     rw [hx, bl_length]
   · cases h
 · cases h
def fnd (c : UInt8) : List UInt8 → Nat → Option Nat
 | [], _ => none
 | x :: r, i => if x = c then some i else fnd c r (i + 1)
theorem fnd_lt {c : UInt8} : ∀ {l : List UInt8} {i k : Nat}, fnd c l i = some k → i ≤ k ∧ k < i + l.length
 | [], i, k, h => by cases h
 | x :: r, i, k, h => by
   unfold fnd at h
   split at h
   · obtain rfl := Option.some.inj h; simp
   · have := fnd_lt h; rw [List.length_cons]; omega
theorem findB_s (c : UInt8) : ∀ (l : List UInt8) (i : Nat), findB c.toNat l.length (strN l) i = fnd c l i
 | [], i => rfl
 | x :: r, i => by
   have hx := UInt8.toNat_lt x
   show (bif Nat.beq ((x.toNat + 256 * strN r) % 256) c.toNat then some i else findB c.toNat r.length ((x.toNat + 256 * strN r) / 256) (Nat.succ i)) = _
   rw [show (x.toNat + 256 * strN r) % 256 = x.toNat by omega, show (x.toNat + 256 * strN r) / 256 = strN r by omega, beqN, fnd]
   by_cases h : x = c
   · subst h; rw [decide_eq_true rfl, if_pos rfl]; rfl
   · rw [decide_eq_false (fun e => h (UInt8.toNat_inj.1 e)), if_neg h, cond_false]
     exact findB_s c r (i + 1)
def xibV (x c : V) : Option V := (qop (.xib (.c x) (.c c)) [] .e .e).val
theorem v_xib {F : RO} (x c : X) (M : Mem) (t : T) : (qop (.xib x c) F M t).val = xibV (x.ev t) (c.ev t) := Eq.trans rfl (Eq.refl _)
def idxZ : Option Nat → Int
 | some k => (k : Int)
 | none => -1
theorem xibV_s (l : List UInt8) (c : UInt8) : xibV (sV l) (bV c) = some (.i .i64 (idxZ (fnd c l 0))) := by
 show (q_xib1 (findB (Nat.mod c.toNat 256) l.length (strN l) 0)).val = _
 have := UInt8.toNat_lt c
 rw [show Nat.mod c.toNat 256 = c.toNat from Nat.mod_eq_of_lt (by omega), findB_s]
 cases fnd c l 0 <;> rfl
theorem t102 (Φ : Nat → Option CF) (h : Φ 102 = some c102) (l : List UInt8) (b : UInt8) (ct : Nat) : To Φ 102 [sV l, bV b] ct (.i .i64 (idxZ (fnd b l 0))) := by
 refine to_walk h ?_
 simp only [WX, Nat.reducePow, Nat.reduceDiv, Nat.reduceMod, Nat.reduceBEq, Nat.reduceEqDiff, Int.reduceEq, Int.reduceLT, Int.reduceLE, reduceIte, reduceCtorEq, Nat.reduceAdd, Nat.reduceLeDiff, wd_e1, B102, v_xib, xibV_s]
def asB : V → Option UInt8
 | .i .u8 (.ofNat n) => if n < 256 then some (UInt8.ofNat n) else none
 | _ => none
theorem asB_b (b : UInt8) : asB (bV b) = some b := by
 have := UInt8.toNat_lt b
 show (if b.toNat < 256 then some (UInt8.ofNat b.toNat) else none) = _
 rw [if_pos (by omega), UInt8.ofNat_toNat]
theorem of_asB {v : V} {b : UInt8} (h : asB v = some b) : v = bV b := by
 unfold asB at h
 split at h
 · rename_i n
   split at h
   · obtain rfl := Option.some.inj h
     show V.i .u8 (n : Int) = V.i .u8 ((UInt8.ofNat n).toNat : Int)
     rw [UInt8.toNat_ofNat', Nat.mod_eq_of_lt (by omega)]
   · cases h
 · cases h
def h102 : List V → Option V
 | [v, w] => (asS v).bind fun l => (asB w).bind fun b => some (.i .i64 (idxZ (fnd b l 0)))
 | _ => none
theorem h102_eq (l : List UInt8) (b : UInt8) : h102 [sV l, bV b] = some (.i .i64 (idxZ (fnd b l 0))) := by
 show (asS (sV l)).bind (fun l => (asB (bV b)).bind fun b => some (V.i .i64 (idxZ (fnd b l 0)))) = _
 rw [asS_s, Option.bind_some, asB_b, Option.bind_some]
theorem ixS0 (b : UInt8) : ixSV (sV [b]) (.i .i64 0) = some (bV b) := ixSs [b] .i64 0 (by simp)
theorem t64 (Φ : Nat → Option CF) (h : Φ 64 = some c64) (h102 : Φ 102 = some (.orc (pureO h102))) (l : List UInt8) (b : UInt8) (ct : Nat) : To Φ 64 [sV l, sV [b]] ct (.i .i64 (idxZ (fnd b l 0))) := by
 refine to_walk h ?_
 have e : ((([b] : List UInt8).length : Nat) : Int) = 1 := rfl
 have d0 : decide (((([b] : List UInt8).length : Nat) : Int) = 0) = false := rfl
 have d1 : decide (((([b] : List UInt8).length : Nat) : Int) = 1) = true := rfl
 by_cases hl : [b] = l
 · have dl : decide ([b] = l) = true := decide_eq_true hl
   have hf : fnd b l 0 = some 0 := by rw [← hl]; simp [fnd]
   simp only [WX, Nat.reducePow, Nat.reduceDiv, Nat.reduceMod, Nat.reduceBEq, Nat.reduceEqDiff, Int.reduceEq, Int.reduceLT, Int.reduceLE, reduceIte, reduceCtorEq, Nat.reduceAdd, Nat.reduceLeDiff, wd_e1, B64, Int.ofNat_one, dl, hf]
   rfl
 · have dl : decide ([b] = l) = false := decide_eq_false hl
   simp only [WX, Nat.reducePow, Nat.reduceDiv, Nat.reduceMod, Nat.reduceBEq, Nat.reduceEqDiff, Int.reduceEq, Int.reduceLT, Int.reduceLE, reduceIte, reduceCtorEq, Nat.reduceAdd, Nat.reduceLeDiff, wd_e1, B64, Int.ofNat_one, dl, h102, ixS0, h102_eq]
def h64 : List V → Option V
 | [v, w] => (asS v).bind fun l => (asS w).bind fun s => match s with | [b] => some (.i .i64 (idxZ (fnd b l 0))) | _ => none
 | _ => none
theorem h64_eq (l : List UInt8) (b : UInt8) : h64 [sV l, sV [b]] = some (.i .i64 (idxZ (fnd b l 0))) := by
 show (asS (sV l)).bind (fun l => (asS (sV [b])).bind fun s => match s with | [b] => some (V.i .i64 (idxZ (fnd b l 0))) | _ => none) = _
 rw [asS_s, Option.bind_some, asS_s, Option.bind_some]
def cutV (c : UInt8) (l : List UInt8) : V := match fnd c l 0 with
 | some k => .t [sV (l.take k), sV (l.drop (k + 1)), .b true]
 | none => .t [sV l, .s 0 0, .b false]
theorem oneV_three (a b c : V) : oneV [a, b, c] = .t [a, b, c] := Eq.trans rfl (Eq.refl _)
theorem dq_slS {F : RO} (x : X) (lo hi : Option X) (M : Mem) (t : T) : dqR (.slS x lo hi) F M t = oV (slSV (x.ev t) (lo.map fun x => x.ev t) (hi.map fun x => x.ev t)) := by
 refine (dq_of ?_).trans (congrArg oV (v_slS (F := F) x lo hi M t))
 intro F' M'
 refine qv_oV ?_
 show ((onS (x.ev t) QR.f fun n s => q_slS1 n s (optN t 0 lo) (optN t n hi)) = .f ∨ ∃ y, (onS (x.ev t) QR.f fun n s => q_slS1 n s (optN t 0 lo) (optN t n hi)) = .v y)
 cases x.ev t with
 | s n s =>
   show QV (q_slS1 n s (optN t 0 lo) (optN t n hi))
   generalize optN t 0 lo = a
   generalize optN t n hi = b
   cases a with
   | none => exact .inl rfl
   | some a =>
     cases b with
     | none => exact .inl rfl
     | some b =>
       show QV (Bool.rec (motive := fun _ => QR) .f (Bool.rec (motive := fun _ => QR) .f (vS (b - a) (s / 256 ^ a % 256 ^ (b - a))) (Nat.ble b n)) (Nat.ble a b))
       cases Nat.ble a b with
       | false => exact .inl rfl
       | true =>
         cases Nat.ble b n with
         | false => exact .inl rfl
         | true => exact .inr ⟨_, by show vS _ _ = _; unfold vS; rw [fN_eq, fN_eq]⟩
 | _ => exact .inl rfl
theorem t39 (Φ : Nat → Option CF) (h : Φ 39 = some c39) (h64 : Φ 64 = some (.orc (pureO h64))) (l : List UInt8) (b : UInt8) (hl : l.length ≤ 1073741824) (ct : Nat) : To Φ 39 [sV l, sV [b]] ct (cutV b l) := by
 refine to_walk h ?_
 unfold cutV
 cases hf : fnd b l 0 with
 | none =>
   have d : decide ((0 : Int) ≤ idxZ none) = false := rfl
   simp only [WX, Nat.reducePow, Nat.reduceDiv, Nat.reduceMod, Nat.reduceBEq, Nat.reduceEqDiff, Int.reduceEq, Int.reduceLT, Int.reduceLE, reduceIte, reduceCtorEq, Nat.reduceAdd, Nat.reduceLeDiff, wd_e1, B39, h64, h64_eq, hf, d, oneV_three]
 | some k =>
   have hk := (fnd_lt hf).2
   have d : decide ((0 : Int) ≤ (k : Int)) = true := decide_eq_true (by omega)
   have hz : idxZ (some k) = (k : Int) := rfl
   have e : ((([b] : List UInt8).length : Nat) : Int) = 1 := rfl
   have q1 : biV .add (.i .i64 (k : Int)) (.i .i64 1) = some (.i .i64 ((k + 1 : Nat) : Int)) := by rw [i64_add _ _ (by omega) (by omega)]; simp
   have s1 := sl_nh l .i64 k (by omega)
   have s2 := sl_ln l .i64 (k + 1) (by omega)
   simp only [WX, Nat.reducePow, Nat.reduceDiv, Nat.reduceMod, Nat.reduceBEq, Nat.reduceEqDiff, Int.reduceEq, Int.reduceLT, Int.reduceLE, reduceIte, reduceCtorEq, Nat.reduceAdd, Nat.reduceLeDiff, wd_e1, B39, h64, h64_eq, hf, d, hz, Int.ofNat_one, q1, s1, s2, dq_slS, oneV_three]
def h39 : List V → Option V
 | [v, w] => (asS v).bind fun l => (asS w).bind fun s => match s with | [b] => if l.length ≤ 1073741824 then some (cutV b l) else none | _ => none
 | _ => none
theorem h39_eq (l : List UInt8) (b : UInt8) (hl : l.length ≤ 1073741824) : h39 [sV l, sV [b]] = some (cutV b l) := by
 show (asS (sV l)).bind (fun l => (asS (sV [b])).bind fun s => match s with | [b] => if l.length ≤ 1073741824 then some (cutV b l) else none | _ => none) = _
 rw [asS_s, Option.bind_some, asS_s, Option.bind_some]
 exact if_pos hl
theorem cutV_t (b : UInt8) (l : List UInt8) : ∃ x y z, cutV b l = .t [x, y, z] := by
 unfold cutV
 cases fnd b l 0 <;> exact ⟨_, _, _, rfl⟩
theorem t17 (Φ : Nat → Option CF) (h : Φ 17 = some c17) (h39 : Φ 39 = some (.orc (pureO h39))) (l : List UInt8) (b : UInt8) (hl : l.length ≤ 1073741824) (ct : Nat) : To Φ 17 [sV l, sV [b]] ct (cutV b l) := by
 refine to_walk h ?_
 have h1 := h39_eq l b hl
 obtain ⟨x, y, z, hc⟩ := cutV_t b l
 rw [hc] at h1 ⊢
 simp only [WX, Nat.reducePow, Nat.reduceDiv, Nat.reduceMod, Nat.reduceBEq, Nat.reduceEqDiff, Int.reduceEq, Int.reduceLT, Int.reduceLE, reduceIte, reduceCtorEq, Nat.reduceAdd, Nat.reduceLeDiff, wd_e1, B17, h39, h1, oneV_three]
def b59_1 : CC := (.reg [(aa a2 (.al 119 [(.b false), (.b false), (.b false), (.b false)]))])
def b59_2 : CC := (.reg [(qq a5 (.bi .eql z3 (x6 1))), (qq a4 (.mv z5))])
def b59_3 : CC := (.reg [(qq a6 (.bld [(.b false), (.b false), (.b false), (.b false)] [(3, 1, xT)])), (ez (.st 4 z2 z6))])
def b59_4 : CC := (.reg [(qq a8 (.bi .eql z3 (x6 2))), (qq a7 (.mv z8))])
def b59_5 : CC := (.reg [(qq a9 (.bld [(.b false), (.b false), (.b false), (.b false)] [(1, 1, xT)])), (ez (.st 4 z2 z9))])
def b59_6 : CC := (.reg [(qq a11 (.bi .eql z3 (x6 3))), (qq a10 (.mv z11))])
def b59_7 : CC := (.reg [(qq a12 (.bld [(.b false), (.b false), (.b false), (.b false)] [(0, 1, xT), (3, 1, xT)])), (ez (.st 4 z2 z12))])
def b59_8 : CC := (.reg [(qq a14 (.bi .eql z3 (x6 4))), (qq a13 (.mv z14))])
def b59_9 : CC := (.reg [(qq a15 (.bld [(.b false), (.b false), (.b false), (.b false)] [(0, 1, xT), (1, 1, xT)])), (ez (.st 4 z2 z15))])
def b59_10 : CC := (.reg [(qq a17 (.bi .eql z3 (x6 5))), (qq a16 (.mv z17))])
def b59_11 : CC := (.reg [(qq a18 (.bld [(.b false), (.b false), (.b false), (.b false)] [(0, 1, xT), (1, 1, xT), (2, 1, xT)])), (ez (.st 4 z2 z18))])
def b59_12 : CC := (.reg [(qq a20 (.bi .eql z3 (x6 6))), (qq a19 (.mv z20))])
def b59_13 : CC := (.reg [(qq a21 (.bld [(.b false), (.b false), (.b false), (.b false)] [(0, 1, xT), (1, 1, xT), (3, 1, xT)])), (ez (.st 4 z2 z21))])
def b59_14 : CC := (.cond z19 (.seq b59_13 .ret) .skip)
def b59_15 : CC := (.cond z16 (.seq b59_11 .ret) (.seq b59_12 b59_14))
def b59_16 : CC := (.cond z13 (.seq b59_9 .ret) (.seq b59_10 b59_15))
def b59_17 : CC := (.cond z10 (.seq b59_7 .ret) (.seq b59_8 b59_16))
def b59_18 : CC := (.cond z7 (.seq b59_5 .ret) (.seq b59_6 b59_17))
def b59_19 : CC := (.cond z4 (.seq b59_3 .ret) (.seq b59_4 b59_18))
def b59_20 : CC := (.seq (.reg [(qq a3 (.mv z0))]) (.block 0 (.seq b59_2 b59_19)))
def b59_21 : CC := (.reg [(qq a22 (.bld [(.b false), (.b false), (.b false), (.b false)] [])), (ez (.st 4 z2 z22))])
def c59 : CF := .mk 5 [.cn a2 4] (.seq b59_1 (.seq b59_20 (.seq b59_21 .ret)))
def b96_1 : CC := (.reg [(qq a3 (.mv z0)), (qq a4 (.bi .geq z3 (x6 0))), (qq a5 (.mv z4)), ⟨(some a6), .q (.mv z0), (some (a5, true))⟩, ⟨(some a7), .q (.bi .lss z6 (x6 16)), (some (a5, true))⟩, (qq a8 (.pk z5 z7 xF)), (qq a2 (.mv z8))])
def b96_2 : CC := (.seq (.reg [(qq a2 (.mv xF))]) (.seq b96_1 .ret))
def c96 : CF := .mk 4 [.t a2] b96_2
def b95_1 : CC := (.reg [(qq a3 (.mv z0)), (qq a4 (.bi .eql z3 (x6 3))), (qq a5 (.mv z4)), ⟨(some a6), .q (.mv z0), (some (a5, false))⟩, ⟨(some a7), .q (.bi .eql z6 (x6 6)), (some (a5, false))⟩, (qq a8 (.pk z5 xT z7)), (qq a2 (.mv z8))])
def b95_2 : CC := (.seq (.reg [(qq a2 (.mv xF))]) (.seq b95_1 .ret))
def c95 : CF := .mk 4 [.t a2] b95_2
def b72_1 : CC := (.reg [(aa a0 (.al 132 [(.s 0 0), (.s 0 0), (.s 0 0), (.s 0 0), (.s 0 0), (.s 0 0), (.s 0 0), (.s 0 0), (.s 0 0), (.s 0 0), (.s 0 0), (.s 0 0), (.s 0 0), (.s 0 0), (.s 0 0), (.s 0 0), (.s 0 0), (.s 0 0), (.s 0 0), (.s 0 0), (.s 0 0), (.s 0 0), (.s 0 0), (.s 0 0), (.s 0 0), (.s 0 0), (.s 0 0), (.s 0 0), (.s 0 0)]))])
def b72_2 : CC := (.reg [(qq a1 (.bld [(.s 0 0), (.s 0 0), (.s 0 0), (.s 0 0), (.s 0 0), (.s 0 0), (.s 0 0), (.s 0 0), (.s 0 0), (.s 0 0), (.s 0 0), (.s 0 0), (.s 0 0), (.s 0 0), (.s 0 0), (.s 0 0), (.s 0 0), (.s 0 0), (.s 0 0), (.s 0 0), (.s 0 0), (.s 0 0), (.s 0 0), (.s 0 0), (.s 0 0), (.s 0 0), (.s 0 0), (.s 0 0), (.s 0 0)] [(0, 1, (.c (.s 0 0))), (1, 1, (.c (.s 3 7368558))), (2, 1, (.c (.s 4 1886352499))), (3, 1, (.c (.s 4 1819042147))), (4, 1, (.c (.s 4 1801675106))), (5, 1, (.c (.s 5 500152823651))), (6, 1, (.c (.s 4 1751607656))), (7, 1, (.c (.s 4 2037411683))), (8, 1, (.c (.s 3 6579297))), (9, 1, (.c (.s 3 6452595))), (10, 1, (.c (.s 3 7107949))), (11, 1, (.c (.s 3 7760228))), (12, 1, (.c (.s 3 6582125))), (13, 1, (.c (.s 3 6581857))), (14, 1, (.c (.s 2 29295))), (15, 1, (.c (.s 3 7499640))), (16, 1, (.c (.s 3 7104627))), (17, 1, (.c (.s 3 7497843))), (18, 1, (.c (.s 4 1768186977))), (19, 1, (.c (.s 4 1684107116))), (20, 1, (.c (.s 5 435711603827))), (21, 1, (.c (.s 5 422590902124))), (22, 1, (.c (.s 6 108187851125875))), (23, 1, (.c (.s 4 1886221674))), (24, 1, (.c (.s 5 491512493418))), (25, 1, (.c (.s 4 1802398060))), (26, 1, (.c (.s 3 7431522))), (27, 1, (.c (.s 3 6647394))), (28, 1, (.c (.s 3 7629922)))])), (ez (.st 29 z0 z1))])
def c72 : CF := .mk 2 [.cn a0 29] (.seq b72_1 (.seq b72_2 .ret))
theorem e72 : argTr 2 [] = sk2 := rfl
def B72 := ai @e72 (ai (wu b72_1.eq_1) (wu b72_2.eq_1))
def names53 : List V := [(.s 0 0), (.s 3 7368558), (.s 4 1886352499), (.s 4 1819042147), (.s 4 1801675106), (.s 5 500152823651), (.s 4 1751607656), (.s 4 2037411683), (.s 3 6579297), (.s 3 6452595), (.s 3 7107949), (.s 3 7760228), (.s 3 6582125), (.s 3 6581857), (.s 2 29295), (.s 3 7499640), (.s 3 7104627), (.s 3 7497843), (.s 4 1768186977), (.s 4 1684107116), (.s 5 435711603827), (.s 5 422590902124), (.s 6 108187851125875), (.s 4 1886221674), (.s 5 491512493418), (.s 4 1802398060), (.s 3 7431522), (.s 3 6647394), (.s 3 7629922)]
theorem t72 (Φ : Nat → Option CF) (h : Φ 72 = some c72) (ct : Nat) : To Φ 72 [] ct (.g names53) := by
 refine to_walk h ?_
 simp only [WX, Nat.reducePow, Nat.reduceDiv, Nat.reduceMod, Nat.reduceBEq, Nat.reduceEqDiff, Int.reduceEq, Int.reduceLT, Int.reduceLE, reduceIte, reduceCtorEq, Nat.reduceAdd, Nat.reduceLeDiff, wd_e1, B72]
 rfl
def b61_1 : CC := (.reg [(qq a3 (.mv z0)), (qq a4 (.bi .lss z3 (x6 1))), (qq a5 (.mv z4)), ⟨(some a6), .q (.mv z0), (some (a5, false))⟩, ⟨(some a7), .q (.bi .gtr z6 (x6 28)), (some (a5, false))⟩, (qq a8 (.pk z5 xT z7))])
def b61_2 : CC := (.seq (.reg [(qq a2 (.mv (.c (.s 0 0))))]) .ret)
def b61_3 : CC := (.reg [(ee a9 (.call 72 [])), (qq a10 (.mv z0)), (qq a11 (.ixA1 29 1 z9 z10)), (qq a2 (.mv z11))])
def b61_4 : CC := (.seq (.seq b61_1 (.cond z8 b61_2 .skip)) (.seq b61_3 .ret))
def b61_5 : CC := (.seq (.reg [(qq a2 (.mv (.c (.s 0 0))))]) b61_4)
def c61 : CF := .mk 4 [.t a2] b61_5
def h72 : List V → Option V
 | [] => some (.g names53)
 | _ => none
theorem h72_eq : h72 [] = some (.g names53) := rfl
def b23_1 : CC := (.reg [(aa a1 (.bsl 9 29 1 [(.s 0 0)] [(0, (.c (.s 0 0))), (1, (.c (.s 3 7368558))), (2, (.c (.s 4 1886352499))), (3, (.c (.s 4 1819042147))), (4, (.c (.s 4 1801675106))), (5, (.c (.s 5 500152823651))), (6, (.c (.s 4 1751607656))), (7, (.c (.s 4 2037411683))), (8, (.c (.s 3 6579297))), (9, (.c (.s 3 6452595))), (10, (.c (.s 3 7107949))), (11, (.c (.s 3 7760228))), (12, (.c (.s 3 6582125))), (13, (.c (.s 3 6581857))), (14, (.c (.s 2 29295))), (15, (.c (.s 3 7499640))), (16, (.c (.s 3 7104627))), (17, (.c (.s 3 7497843))), (18, (.c (.s 4 1768186977))), (19, (.c (.s 4 1684107116))), (20, (.c (.s 5 435711603827))), (21, (.c (.s 5 422590902124))), (22, (.c (.s 6 108187851125875))), (23, (.c (.s 4 1886221674))), (24, (.c (.s 5 491512493418))), (25, (.c (.s 4 1802398060))), (26, (.c (.s 3 7431522))), (27, (.c (.s 3 6647394))), (28, (.c (.s 3 7629922)))])), (qq a0 (.mv z1))])
def b23_2 : CC := (.seq (.reg [(qq a0 (.mv (.c .l0)))]) (.seq b23_1 .ret))
def c23 : CF := .mk 2 [.t a0] b23_2
theorem e23 : argTr 2 [] = sk2 := rfl
def B23 := ai @e23 (ai (wu b23_1.eq_1) (wu b23_2.eq_1))
def b42_1 : CC := (.seq (.reg [(qq a0 (.mv (.c (.f 71 [] []))))]) .ret)
def c42 : CF := .mk 1 [.t a0] (.seq (.reg [(qq a0 (.mv (.c .f0)))]) b42_1)
theorem e42 : argTr 1 [] = sk1 := rfl
def B42 := ai @e42 (wu b42_1.eq_1)
def b71_1 : CC := (.reg [(ee a4 (.call 72 [])), (qq a5 (.mv (x6 0)))])
def b71_2 : CC := (.reg [(qq a6 (.bi .lss z5 (x6 29)))])
def b71_3 : CC := (.reg [(qq a7 (.mv z5)), (qq a8 (.ixA1 29 1 z4 z5)), (qq a2 (.mv z7)), (qq a3 (.mv z8))])
def b71_4 : CC := (.reg [(qq a9 (.mv z2)), (qq a10 (.bi .gtr z9 (x6 0))), (qq a11 (.mv z10)), ⟨(some a12), .q (.mv z0), (some (a11, true))⟩, ⟨(some a13), .q (.mv z2), (some (a11, true))⟩, ⟨(some a14), .q (.mv z3), (some (a11, true))⟩, ⟨(some a15), .e (.cv z12 [z13, z14]), (some (a11, true))⟩, ⟨(some a16), .q (.un .not z15), (some (a11, true))⟩, (qq a17 (.pk z11 z16 xF))])
def b71_5 : CC := (.seq b71_3 (.seq b71_4 (.cond z17 .ret .skip)))
def b71_6 : CC := (.reg [(qq a18 (.bi .add z5 (x6 1))), (qq a5 (.mv z18))])
def b71_7 : CC := (.seq (.cond z6 .skip (.exit 0)) (.seq (.block 1 b71_5) b71_6))
def c71 : CF := .mk 5 [] (.seq b71_1 (.block 0 (.loop (.seq b71_2 b71_7))))
theorem e71 (v0 : V) : argTr 5 [v0] = (.n sk4 (some v0) sk4) := rfl
def B71 := ai @e71 (ai (wu b71_1.eq_1) (ai (wu b71_2.eq_1) (ai (wu b71_3.eq_1) (ai (wu b71_4.eq_1) (ai (wu b71_5.eq_1) (ai (wu b71_6.eq_1) (wu b71_7.eq_1)))))))
def nameL : List (List UInt8) := [[], [110, 111, 112], [115, 116, 111, 112], [99, 97, 108, 108], [98, 97, 99, 107], [99, 111, 110, 115, 116], [104, 105, 103, 104], [99, 111, 112, 121], [97, 100, 100], [115, 117, 98], [109, 117, 108], [100, 105, 118], [109, 111, 100], [97, 110, 100], [111, 114], [120, 111, 114], [115, 104, 108], [115, 104, 114], [97, 100, 100, 105], [108, 111, 97, 100], [115, 116, 111, 114, 101], [108, 111, 97, 100, 98], [115, 116, 111, 114, 101, 98], [106, 117, 109, 112], [106, 117, 109, 112, 114], [108, 105, 110, 107], [98, 101, 113], [98, 110, 101], [98, 108, 116]]
theorem names_eq : names53 = nameL.map sV := rfl
theorem nameL_len : nameL.length = 29 := rfl
theorem names_get {k : Nat} (h : k < 29) : names53[k]? = some (sV (nameL[k]'h)) := by
 rw [names_eq, List.getElem?_map, List.getElem?_eq_getElem (show k < nameL.length from h)]; rfl
theorem r23 (Φ : Nat → Option CF) (h : Φ 23 = some c23) {F : RO} {M : Mem} {c : Nat} : Calls Φ F 23 [] M c fun r M' c' => ∃ x, M' = M.set c x ∧ c' = c + 1 ∧ SlAt F M' c' 1 r (nameL.map fun s => [sV s]) := by
 refine calls_walk h ?_
 simp only [WX, Nat.reducePow, Nat.reduceDiv, Nat.reduceMod, Nat.reduceBEq, Nat.reduceEqDiff, Int.reduceEq, Int.reduceLT, Int.reduceLE, reduceIte, reduceCtorEq, Nat.reduceAdd, Nat.reduceLeDiff, wd_e1, B23]
 refine ⟨_, rfl, ?_⟩
 exact slD (es := nameL.map fun s => [sV s]) ((get_same _ _ _).trans (by rfl)) (by omega) (by intro e he; obtain ⟨x, _, rfl⟩ := List.mem_map.1 he; rfl) rfl
theorem t42 (Φ : Nat → Option CF) (h : Φ 42 = some c42) (ct : Nat) : To Φ 42 [] ct (.f 71 [] []) := by
 refine to_walk h ?_
 simp only [WX, Nat.reducePow, Nat.reduceDiv, Nat.reduceMod, Nat.reduceBEq, Nat.reduceEqDiff, Int.reduceEq, Int.reduceLT, Int.reduceLE, reduceIte, reduceCtorEq, Nat.reduceAdd, Nat.reduceLeDiff, wd_e1, B42]
def h42 : List V → Option V
 | [] => some (.f 71 [] [])
 | _ => none
theorem h42_eq : h42 [] = some (.f 71 [] []) := rfl
theorem r71 (Φ : Nat → Option CF) (h : Φ 71 = some c71) (h72 : Φ 72 = some (.orc (pureO h72))) {F : RO} {M : Mem} {c y : Nat} {I : Nat → Mem → Nat → Prop} {J : Mem → Nat → Prop} (h0 : I 1 M c)
  (hY : ∀ k M c, (hk : k < 29) → 1 ≤ k → I k M c → RTo (callV (K Φ none 71 F) (.y y) [.i .i64 (k : Int), sV (nameL[k]'hk)] M c) fun r M' c' => (r = .b true ∧ I (k + 1) M' c') ∨ (r = .b false ∧ J M' c')) :
  Calls Φ F 71 [.y y] M c fun _ M' c' => I 29 M' c' ∨ J M' c' := by
 refine calls_walk h ?_
 simp only [WX, Nat.reducePow, Nat.reduceDiv, Nat.reduceMod, Nat.reduceBEq, Nat.reduceEqDiff, Int.reduceEq, Int.reduceLT, Int.reduceLE, reduceIte, reduceCtorEq, Nat.reduceAdd, Nat.reduceLeDiff, wd_e1, B71, h72, h72_eq]
 obtain ⟨Iv, hIv⟩ : ∃ Iv : Nat → St → Prop, ∀ n s, Iv n s ↔ (∃ (k : Nat) (M1 : Mem) (c1 : Nat) (u : List (Option V)), n = 29 - k ∧ k ≤ 29 ∧ s = .mk ((.n (.n (uv7 u 15 7 23 3 19 11 27) (uO u 1) (.n (uv3 u 17 9 25) (some (.i .i64 (k : Int))) (uv3 u 21 13 29))) (some (.y y)) (.n (.n (uv3 u 16 8 24) (some (.g names53)) (uv3 u 20 12 28)) (uO u 2) (uv7 u 18 10 26 6 22 14 30)))) [] M1 c1 ∧ I (max k 1) M1 c1) := ⟨fun n s => _, fun _ _ => Iff.rfl⟩
 refine wp_while Iv ?_ 29 _ ((hIv _ _).2 ⟨0, _, _, [none, _, _, _, none, none, _, _, _, _, _, _, _, _, _, _, _, _, _, _, _, _, _, _, _, _, _, _, _, _, _], rfl, Nat.zero_le _, rfl, h0⟩)
 intro n s hIs
 obtain ⟨k, M1, c1, u, rfl, hk, rfl, hi⟩ := (hIv _ _).1 hIs
 clear hIs
 have q8 : biV .add (.i .i64 (k : Int)) (.i .i64 1) = some (.i .i64 ((k + 1 : Nat) : Int)) := by rw [i64_add _ _ (by omega) (by omega)]; simp
 by_cases hlt : k < 29
 · have hd : decide ((k : Int) < 29) = true := decide_eq_true (by omega)
   have hix : ixA1V 29 1 (.g names53) (.i .i64 (k : Int)) = some (sV (nameL[k]'hlt)) := by
    rw [ixA1_g, if_pos (by omega)]
    exact names_get hlt
   by_cases h1 : 1 ≤ k
   · have hd1 : decide (0 < (k : Int)) = true := decide_eq_true (by omega)
     rw [show max k 1 = k by omega] at hi
     simp only [WX, Nat.reducePow, Nat.reduceDiv, Nat.reduceMod, Nat.reduceBEq, Nat.reduceEqDiff, Int.reduceEq, Int.reduceLT, Int.reduceLE, reduceIte, reduceCtorEq, Nat.reduceAdd, Nat.reduceLeDiff, wd_e1, B71, hd, hix, hd1]
     refine putE_to ((hY k M1 c1 hlt h1 hi).mono ?_)
     rintro r M3 c1003 (⟨rfl, hi3⟩ | ⟨rfl, hj⟩)
     · simp only [WX, Nat.reducePow, Nat.reduceDiv, Nat.reduceMod, Nat.reduceBEq, Nat.reduceEqDiff, Int.reduceEq, Int.reduceLT, Int.reduceLE, reduceIte, reduceCtorEq, Nat.reduceAdd, Nat.reduceLeDiff, wd_e1, B71, q8]
       exact ⟨29 - (k + 1), by omega, (hIv _ _).2 ⟨k + 1, M3, c1003, [none, _, _, _, none, none, _, _, _, _, _, _, _, _, _, _, _, _, _, _, _, _, _, _, _, _, _, _, _, _, _], rfl, by omega, rfl, by rw [show max (k + 1) 1 = k + 1 by omega]; exact hi3⟩⟩
     · simp only [WX, Nat.reducePow, Nat.reduceDiv, Nat.reduceMod, Nat.reduceBEq, Nat.reduceEqDiff, Int.reduceEq, Int.reduceLT, Int.reduceLE, reduceIte, reduceCtorEq, Nat.reduceAdd, Nat.reduceLeDiff, wd_e1, B71]
       exact .inr hj
   · obtain rfl : k = 0 := by omega
     have hd1 : decide (0 < ((0 : Nat) : Int)) = false := rfl
     simp only [WX, Nat.reducePow, Nat.reduceDiv, Nat.reduceMod, Nat.reduceBEq, Nat.reduceEqDiff, Int.reduceEq, Int.reduceLT, Int.reduceLE, reduceIte, reduceCtorEq, Nat.reduceAdd, Nat.reduceLeDiff, wd_e1, B71, hd, hix, q8, hd1]
     exact ⟨28, by omega, (hIv _ _).2 ⟨1, M1, c1, [none, _, _, _, none, none, _, _, _, _, _, _, _, _, _, _, _, _, _, _, _, _, _, _, _, _, _, _, _, _, _], rfl, by omega, rfl, hi⟩⟩
 · have hd : decide ((k : Int) < 29) = false := decide_eq_false (by omega)
   obtain rfl : k = 29 := by omega
   simp only [WX, Nat.reducePow, Nat.reduceDiv, Nat.reduceMod, Nat.reduceBEq, Nat.reduceEqDiff, Int.reduceEq, Int.reduceLT, Int.reduceLE, reduceIte, reduceCtorEq, Nat.reduceAdd, Nat.reduceLeDiff, wd_e1, B71, hd]
   exact .inl hi
def b20_1 : CC := (.reg [(aa a1 (.bx 9 1 z0)), (aa a2 (.al 58 [(.i .i64 0)])), (aa a3 (.al 4 [(.b false)]))])
def b20_2 : CC := (.reg [(qq a4 (.mv z7))])
def b20_3 : CC := (.reg [(qq a5 (.mv z8))])
def b20_4 : CC := (.reg [(qq a9 (.mv z5)), (qq a10 (.ld1 z1)), (qq a11 (.bi .eql z9 z10))])
def b20_5 : CC := (.reg [(qq a12 (.mv z4)), (ez (.st 1 z2 z12)), (ez (.st 1 z3 xT))])
def b20_6 : CC := (.seq b20_4 (.cond z11 (.seq b20_5 .ret) .skip))
def b20_7 : CC := (.rf z6 [a7, a8] (.seq b20_2 b20_3) (.block 1 b20_6))
def b20_8 : CC := (.seq (.reg [(ee a6 (.call 42 []))]) (.block 0 b20_7))
def b20_9 : CC := (.reg [(ez (.st 1 z2 (x6 0))), (ez (.st 1 z3 xF))])
def c20 : CF := .mk 4 [.c1 a2, .c1 a3] (.seq b20_1 (.seq b20_8 (.seq b20_9 .ret)))
theorem e20 (v0 : V) : argTr 4 [v0] = (.n sk3 (some v0) sk3) := rfl
def B20 := ai @e20 (ai (wu b20_1.eq_1) (ai (wu b20_2.eq_1) (ai (wu b20_3.eq_1) (ai (wu b20_4.eq_1) (ai (wu b20_5.eq_1) (ai (wu b20_6.eq_1) (ai (wu b20_7.eq_1) (ai (wu b20_8.eq_1) (wu b20_9.eq_1)))))))))
def IsN (s : List UInt8) (k : Nat) : Prop := 1 ≤ k ∧ nameL[k]? = some s
def FoundN (s : List UInt8) (n : Int) (b : Bool) : Prop := (∃ k, IsN s k ∧ n = (k : Int) ∧ b = true) ∨ ((∀ k, ¬ IsN s k) ∧ n = 0 ∧ b = false)
theorem r20 (Φ : Nat → Option CF) (h : Φ 20 = some c20) (h42 : Φ 42 = some (.orc (pureO h42))) (h72 : Φ 72 = some (.orc (pureO h72))) (h71 : Φ 71 = some c71) {F : RO} {M : Mem} {c : Nat} (s : List UInt8) (ok : Okm F M c) :
  Calls Φ F 20 [sV s] M c fun r M' c' => (∃ n b, r = .t [.i .i64 n, .b b] ∧ FoundN s n b) ∧ Gr c M c' M' := by
 refine calls_walk h ?_
 have f1 : flatten (sV s) = [sV s] := rfl
 have f2 : isOne (sV s) = true := rfl
 simp only [WX, Nat.reducePow, Nat.reduceDiv, Nat.reduceMod, Nat.reduceBEq, Nat.reduceEqDiff, Int.reduceEq, Int.reduceLT, Int.reduceLE, reduceIte, reduceCtorEq, Nat.reduceAdd, Nat.reduceLeDiff, wd_e1, B20, f1, f2, h42, h42_eq]
 refine wp_rf0 ?_
 simp only [WX, Nat.reducePow, Nat.reduceDiv, Nat.reduceMod, Nat.reduceBEq, Nat.reduceEqDiff, Int.reduceEq, Int.reduceLT, Int.reduceLE, reduceIte, reduceCtorEq, Nat.reduceAdd, Nat.reduceLeDiff, wd_e1, B20, callI_f]
 obtain ⟨BL, hBL⟩ : ∃ BL : LS → Pend → Blk, BL = fun st p => Blk.loop st p 20 ((.n (.n (.n sk1 (some (.p (c + 2) 0)) sk1) (some (.p c 0)) sk2) (some (sV s)) (.n sk2 (some (.p (c + 1) 0)) (.n sk1 (some (.f 71 [] [])) sk1)))) [(.l (.l (.l .h))), (.r (.l (.l .h)))] (b20_2.seq b20_3) (.block 1 b20_6) (c + 3) := ⟨_, rfl⟩
 obtain ⟨Ik, hIk⟩ : ∃ I : Nat → Mem → Nat → Prop, ∀ k M' cc, I k M' cc ↔ (Gr c M cc M' ∧ c + 5 ≤ cc ∧ M'.get c = some (rowB 9 [sV s]) ∧ M'.get (c + 1) = some (rowB 58 [.i .i64 0]) ∧ M'.get (c + 2) = some (rowB 4 [.b false]) ∧ M'.get (c + 3) = some (.defs false) ∧ M'.get (c + 4) = some (BL .ready .none) ∧ ∀ j, j < k → ¬ IsN s j) := ⟨fun k M' cc => _, fun _ _ _ => Iff.rfl⟩
 obtain ⟨J, hJ⟩ : ∃ J : Mem → Nat → Prop, ∀ M' cc, J M' cc ↔ (∃ k, IsN s k ∧ Gr c M cc M' ∧ c + 5 ≤ cc ∧ M'.get (c + 1) = some (rowB 58 [.i .i64 (k : Int)]) ∧ M'.get (c + 2) = some (rowB 4 [.b true]) ∧ M'.get (c + 3) = some (.defs false) ∧ M'.get (c + 4) = some (BL .done .ret)) := ⟨fun M' cc => _, fun _ _ => Iff.rfl⟩
 refine (r71 Φ h71 h72 (y := c + 4) (I := Ik) (J := J) ?_ ?_).mono ?_
 · refine (hIk _ _ _).2 ⟨(((((Gr.refl ok).set (c2 := c + 1) c _ (Nat.le_refl _) (by omega) (by omega)).set (c2 := c + 2) (c + 1) _ (by omega) (by omega) (by omega)).set (c2 := c + 3) (c + 2) _ (by omega) (by omega) (by omega)).set (c2 := c + 4) (c + 3) _ (by omega) (by omega) (by omega)).set (c + 4) _ (by omega) (by omega) (by omega), by omega, ?_, ?_, ?_, ?_, ?_, fun j hj hn => by have := hn.1; omega⟩
   · rw [get_ne _ _ (by omega), get_ne _ _ (by omega), get_ne _ _ (by omega), get_ne _ _ (by omega)]; exact get_same _ _ _
   · rw [get_ne _ _ (by omega), get_ne _ _ (by omega), get_ne _ _ (by omega)]; exact get_same _ _ _
   · rw [get_ne _ _ (by omega), get_ne _ _ (by omega)]; exact get_same _ _ _
   · rw [get_ne _ _ (by omega)]; exact get_same _ _ _
   · rw [hBL]; exact get_same _ _ _
 · intro k M2 cc hk hk1 hi
   obtain ⟨a1, a2, a3, a4, a5, a6, a7, a8⟩ := (hIk _ _ _).1 hi
   have hl5 := a7
   rw [hBL] at hl5
   refine yield_of hl5 (setParams_two _ _ _ _ _) ?_
   simp only [WX, Nat.reducePow, Nat.reduceDiv, Nat.reduceMod, Nat.reduceBEq, Nat.reduceEqDiff, Int.reduceEq, Int.reduceLT, Int.reduceLE, reduceIte, reduceCtorEq, Nat.reduceAdd, Nat.reduceLeDiff, wd_e1, B20]
   refine asgQ_of hl5 ?_
   rw [show Blk.loop LS.busy _ _ _ _ _ _ _ = BL .busy .none by rw [hBL]]
   have gMB := a1.set (c2 := cc) (c + 4) (BL .busy .none) (by omega) (by omega) (Nat.le_refl _)
   have m3 : (M2.set (c + 4) (BL .busy .none)).get c = some (rowB 9 [sV s]) := (get_ne _ _ (by omega)).trans a3
   have m4 : (M2.set (c + 4) (BL .busy .none)).get (c + 1) = some (rowB 58 [.i .i64 0]) := (get_ne _ _ (by omega)).trans a4
   have m5 : (M2.set (c + 4) (BL .busy .none)).get (c + 2) = some (rowB 4 [.b false]) := (get_ne _ _ (by omega)).trans a5
   have m6 : (M2.set (c + 4) (BL .busy .none)).get (c + 3) = some (.defs false) := (get_ne _ _ (by omega)).trans a6
   have m7 : (M2.set (c + 4) (BL .busy .none)).get (c + 4) = some (BL .busy .none) := get_same _ _ _
   generalize M2.set (c + 4) (BL .busy .none) = MB at gMB m3 m4 m5 m6 m7 ⊢
   have l1003 : load1 F MB c 0 = some (sV s) := load_row m3 0
   by_cases he : nameL[k]'hk = s
   · have d1 : decide (nameL[k]'hk = s) = true := decide_eq_true he
     have hs1 := store_row m4 0 [.i .i64 (k : Int)] (by simp) rfl
     have m5' : (MB.set (c + 1) (rowB 58 [.i .i64 (k : Int)])).get (c + 2) = some (rowB 4 [.b false]) := (get_ne _ _ (by omega)).trans m5
     have hs2 := store_row m5' 0 [.b true] (by simp) rfl
     simp only [WX, Nat.reducePow, Nat.reduceDiv, Nat.reduceMod, Nat.reduceBEq, Nat.reduceEqDiff, Int.reduceEq, Int.reduceLT, Int.reduceLE, reduceIte, reduceCtorEq, Nat.reduceAdd, Nat.reduceLeDiff, wd_e1, B20, l1003, d1, hs1, hs2]
     have hly : ((MB.set (c + 1) (rowB 58 [V.i .i64 (k : Int)])).set (c + 2) (rowB 4 [V.b true])).get (c + 4) = some (BL .busy .none) := by rw [get_ne _ _ (by omega), get_ne _ _ (by omega)]; exact m7
     rw [hBL] at hly
     refine yq_ret hly ?_
     refine Or.inr ⟨rfl, (hJ _ _).2 ⟨k, ⟨hk1, ?_⟩, ((gMB.set (c + 1) _ (by omega) (by omega) (Nat.le_refl _)).set (c + 2) _ (by omega) (by omega) (Nat.le_refl _)).set (c + 4) _ (by omega) (by omega) (Nat.le_refl _), a2, ?_, ?_, ?_, ?_⟩⟩
     · exact (List.getElem?_eq_getElem (show k < nameL.length from hk)).trans (congrArg some he)
     · rw [get_ne _ _ (by omega), get_ne _ _ (by omega)]; exact get_same _ _ _
     · rw [get_ne _ _ (by omega)]; exact get_same _ _ _
     · rw [get_ne _ _ (by omega), get_ne _ _ (by omega), get_ne _ _ (by omega)]; exact m6
     · rw [hBL]; exact get_same _ _ _
   · have d1 : decide (nameL[k]'hk = s) = false := decide_eq_false he
     simp only [WX, Nat.reducePow, Nat.reduceDiv, Nat.reduceMod, Nat.reduceBEq, Nat.reduceEqDiff, Int.reduceEq, Int.reduceLT, Int.reduceLE, reduceIte, reduceCtorEq, Nat.reduceAdd, Nat.reduceLeDiff, wd_e1, B20, l1003, d1]
     have hly := m7
     rw [hBL] at hly
     refine yq_nrm hly ?_
     refine Or.inl ⟨rfl, (hIk _ _ _).2 ⟨gMB.set (c + 4) _ (by omega) (by omega) (Nat.le_refl _), a2, ?_, ?_, ?_, ?_, ?_, fun j hj hn => ?_⟩⟩
     · rw [get_ne _ _ (by omega)]; exact m3
     · rw [get_ne _ _ (by omega)]; exact m4
     · rw [get_ne _ _ (by omega)]; exact m5
     · rw [get_ne _ _ (by omega)]; exact m6
     · rw [hBL]; exact get_same _ _ _
     · by_cases hjk : j = k
       · subst hjk
         have := hn.2
         rw [List.getElem?_eq_getElem (show j < nameL.length from hk)] at this
         exact he (Option.some.inj this)
       · exact a8 j (by omega) hn
 · rintro v' M2 cc (hi | hj)
   · obtain ⟨a1, a2, a3, a4, a5, a6, a7, a8⟩ := (hIk _ _ _).1 hi
     have hl5 := a7
     rw [hBL] at hl5
     refine ⟨_, _, _, _, _, _, _, _, hl5, (by intro h; cases h), ?_⟩
     rw [show Blk.loop LS.exhausted _ _ _ _ _ _ _ = BL .exhausted .none by rw [hBL]]
     have gMB := a1.set (c2 := cc) (c + 4) (BL .exhausted .none) (by omega) (by omega) (Nat.le_refl _)
     have m4 : (M2.set (c + 4) (BL .exhausted .none)).get (c + 1) = some (rowB 58 [.i .i64 0]) := (get_ne _ _ (by omega)).trans a4
     have m5 : (M2.set (c + 4) (BL .exhausted .none)).get (c + 2) = some (rowB 4 [.b false]) := (get_ne _ _ (by omega)).trans a5
     have m6 : (M2.set (c + 4) (BL .exhausted .none)).get (c + 3) = some (.defs false) := (get_ne _ _ (by omega)).trans a6
     generalize M2.set (c + 4) (BL .exhausted .none) = MB at gMB m4 m5 m6 ⊢
     have hs1 := store_row m4 0 [.i .i64 0] (by simp) rfl
     have m5' : (MB.set (c + 1) (rowB 58 [.i .i64 0])).get (c + 2) = some (rowB 4 [.b false]) := (get_ne _ _ (by omega)).trans m5
     have hs2 := store_row m5' 0 [.b false] (by simp) rfl
     have ht1 : takeDefs [c + 3] ((MB.set (c + 1) (rowB 58 [V.i .i64 0])).set (c + 2) (rowB 4 [V.b false])) = some (((MB.set (c + 1) (rowB 58 [V.i .i64 0])).set (c + 2) (rowB 4 [V.b false])).set (c + 3) (.defs true)) := by
      rw [takeDefs_one (by rw [get_ne _ _ (by omega), get_ne _ _ (by omega)]; exact m6)]; rfl
     simp only [WX, Nat.reducePow, Nat.reduceDiv, Nat.reduceMod, Nat.reduceBEq, Nat.reduceEqDiff, Int.reduceEq, Int.reduceLT, Int.reduceLE, reduceIte, reduceCtorEq, Nat.reduceAdd, Nat.reduceLeDiff, wd_e1, B20, pendEx_none, hs1, hs2, endQ_ret1, endQ_nrm1, ht1, endD_some, resV_c1, ne_add0, ne_add1]
     refine ⟨⟨0, false, rfl, .inr ⟨fun j hj => ?_, rfl, rfl⟩⟩, ((gMB.set (c + 1) _ (by omega) (by omega) (Nat.le_refl _)).set (c + 2) _ (by omega) (by omega) (Nat.le_refl _)).set (c + 3) _ (by omega) (by omega) (Nat.le_refl _)⟩
     by_cases hj29 : j < 29
     · exact a8 j hj29 hj
     · have := hj.2
       rw [List.getElem?_eq_none (show nameL.length ≤ j by rw [nameL_len]; omega)] at this
       cases this
   · obtain ⟨k, hk, a1, a2, a4, a5, a6, a7⟩ := (hJ _ _).1 hj
     have hl5 := a7
     rw [hBL] at hl5
     refine ⟨_, _, _, _, _, _, _, _, hl5, (by intro h; cases h), ?_⟩
     rw [show Blk.loop LS.exhausted _ _ _ _ _ _ _ = BL .exhausted .ret by rw [hBL]]
     have gMB := a1.set (c2 := cc) (c + 4) (BL .exhausted .ret) (by omega) (by omega) (Nat.le_refl _)
     have m4 : (M2.set (c + 4) (BL .exhausted .ret)).get (c + 1) = some (rowB 58 [.i .i64 (k : Int)]) := (get_ne _ _ (by omega)).trans a4
     have m5 : (M2.set (c + 4) (BL .exhausted .ret)).get (c + 2) = some (rowB 4 [.b true]) := (get_ne _ _ (by omega)).trans a5
     have m6 : (M2.set (c + 4) (BL .exhausted .ret)).get (c + 3) = some (.defs false) := (get_ne _ _ (by omega)).trans a6
     generalize M2.set (c + 4) (BL .exhausted .ret) = MB at gMB m4 m5 m6 ⊢
     have ht1 : takeDefs [c + 3] MB = some (MB.set (c + 3) (.defs true)) := by
      rw [takeDefs_one m6]; rfl
     have l1004 : load1 F (MB.set (c + 3) (.defs true)) (c + 1) 0 = some (.i .i64 (k : Int)) := load_row ((get_ne _ _ (by omega)).trans m4) 0
     have l1005 : load1 F (MB.set (c + 3) (.defs true)) (c + 2) 0 = some (.b true) := load_row ((get_ne _ _ (by omega)).trans m5) 0
     simp only [WX, Nat.reducePow, Nat.reduceDiv, Nat.reduceMod, Nat.reduceBEq, Nat.reduceEqDiff, Int.reduceEq, Int.reduceLT, Int.reduceLE, reduceIte, reduceCtorEq, Nat.reduceAdd, Nat.reduceLeDiff, wd_e1, B20, pendEx_ret, endQ_ret1, ht1, endD_some, resV_c1, l1004, l1005]
     exact ⟨⟨k, true, rfl, .inl ⟨k, hk, rfl, rfl⟩⟩, gMB.set (c + 3) _ (by omega) (by omega) (Nat.le_refl _)⟩
def b22_1 : CC := (.reg [(qq a3 (.mv z0)), (qq a4 (.bi .lss z3 (.c (.i .i32 97)))), (qq a5 (.mv z4)), ⟨(some a6), .q (.mv z0), (some (a5, false))⟩, ⟨(some a7), .q (.bi .gtr z6 (.c (.i .i32 122))), (some (a5, false))⟩, (qq a8 (.pk z5 xT z7)), (qq a9 (.mv z8)), ⟨(some a10), .q (.mv z0), (some (a9, true))⟩, ⟨(some a11), .q (.bi .lss z10 (.c (.i .i32 48))), (some (a9, true))⟩, ⟨(some a12), .q (.mv z11), (some (a9, true))⟩, ⟨(some a13), .q (.mv z0), (some (a12, false))⟩, ⟨(some a14), .q (.bi .gtr z13 (.c (.i .i32 57))), (some (a12, false))⟩, ⟨(some a15), .q (.pk z12 xT z14), (some (a9, true))⟩, (qq a16 (.pk z9 z15 xF)), (qq a17 (.mv z16)), ⟨(some a18), .q (.mv z0), (some (a17, true))⟩, ⟨(some a19), .q (.bi .neq z18 (.c (.i .i32 95))), (some (a17, true))⟩, (qq a20 (.pk z17 z19 xF)), (qq a2 (.mv z20))])
def b22_2 : CC := (.seq (.reg [(qq a2 (.mv xF))]) (.seq b22_1 .ret))
def c22 : CF := .mk 5 [.t a2] b22_2
theorem e22 (v0 : V) : argTr 5 [v0] = (.n sk4 (some v0) sk4) := rfl
def B22 := ai @e22 (ai (wu b22_1.eq_1) (wu b22_2.eq_1))
def b73_1 : CC := (.reg [(qq a6 (.mv (x6 0)))])
def b73_2 : CC := (.reg [(qq a9 (.mv z0)), (aa a10 (.rgs z9))])
def b73_3 : CC := (.reg [(ee a11 (.nxs z10)), (qq a12 (.ex 0 z11))])
def b73_4 : CC := (.reg [(qq a13 (.ex 1 z11)), (qq a14 (.ex 2 z11)), (qq a7 (.mv z13)), (qq a8 (.mv z14))])
def b73_5 : CC := (.reg [(qq a15 (.mv z1)), (qq a16 (.mv z8)), (ee a17 (.cv z15 [z16])), (qq a18 (.mv z2)), (qq a19 (.eq false .bool false z17 z18))])
def b73_6 : CC := (.reg [(qq a20 (.mv z7)), (qq a6 (.mv z20))])
def b73_7 : CC := (.seq b73_5 (.cond z19 (.seq b73_6 .ret) .skip))
def b73_8 : CC := (.seq (.cond z12 .skip (.exit 0)) (.block 1 (.seq b73_4 b73_7)))
def b73_9 : CC := (.reg [(qq a6 (.mv (x6 (-1))))])
def b73_10 : CC := (.seq (.seq b73_2 (.block 0 (.loop (.seq b73_3 b73_8)))) (.seq b73_9 .ret))
def c73 : CF := .mk 5 [.t a6] (.seq b73_1 b73_10)
theorem e73 (v0 v1 v2 : V) : argTr 5 [v0, v1, v2] = (.n (.n sk3 (some v1) sk3) (some v0) (.n sk3 (some v2) sk3)) := rfl
def B73 := ai @e73 (ai (wu b73_1.eq_1) (ai (wu b73_2.eq_1) (ai (wu b73_3.eq_1) (ai (wu b73_4.eq_1) (ai (wu b73_5.eq_1) (ai (wu b73_6.eq_1) (ai (wu b73_7.eq_1) (ai (wu b73_8.eq_1) (ai (wu b73_9.eq_1) (wu b73_10.eq_1))))))))))
def b43_1 : CC := (.reg [(qq a4 (.mv (x6 0)))])
def b43_2 : CC := (.reg [(qq a5 (.mv z0)), (qq a6 (.mv z1)), (ee a7 (.call 73 [z5, z6, xT])), (qq a4 (.mv z7))])
def c43 : CF := .mk 4 [.t a4] (.seq b43_1 (.seq b43_2 .ret))
theorem e43 (v0 v1 : V) : argTr 4 [v0, v1] = (.n (.n sk2 (some v1) sk2) (some v0) sk3) := rfl
def B43 := ai @e43 (ai (wu b43_1.eq_1) (wu b43_2.eq_1))
def b21_1 : CC := (.reg [(qq a4 (.mv xF))])
def b21_2 : CC := (.reg [(qq a5 (.mv z0)), (qq a6 (.mv z1)), (ee a7 (.call 43 [z5, z6])), (qq a8 (.bi .geq z7 (x6 0))), (qq a4 (.mv z8))])
def c21 : CF := .mk 4 [.t a4] (.seq b21_1 (.seq b21_2 .ret))
theorem e21 (v0 v1 : V) : argTr 4 [v0, v1] = (.n (.n sk2 (some v1) sk2) (some v0) sk3) := rfl
def B21 := ai @e21 (ai (wu b21_1.eq_1) (wu b21_2.eq_1))
def b10_1 : CC := (.reg [(qq a6 (.mv z0)), (ee a7 (.call 20 [z6])), (qq a5 (.mv z7)), (qq a8 (.ex 0 z5)), (qq a9 (.ex 1 z5)), (qq a3 (.mv z8)), (qq a4 (.mv z9))])
def b10_2 : CC := (.reg [(qq a10 (.mv z4)), (qq a11 (.mv z10)), ⟨(some a12), .q (.mv z0), (some (a11, false))⟩, ⟨(some a13), .q (.ln .str z12), (some (a11, false))⟩, ⟨(some a14), .q (.bi .lss z13 (x6 1)), (some (a11, false))⟩, (qq a15 (.pk z11 xT z14)), (qq a16 (.mv z15)), ⟨(some a17), .q (.mv z0), (some (a16, false))⟩, ⟨(some a18), .q (.ln .str z17), (some (a16, false))⟩, ⟨(some a19), .q (.bi .gtr z18 (x6 12)), (some (a16, false))⟩, (qq a20 (.pk z16 xT z19)), (qq a21 (.mv z20)), ⟨(some a22), .q (.mv z0), (some (a21, false))⟩, ⟨(some a23), .q (.ixS z22 (x6 0)), (some (a21, false))⟩, ⟨(some a24), .q (.bi .lss z23 (.c (.i .u8 97))), (some (a21, false))⟩, (qq a25 (.pk z21 xT z24)), (qq a26 (.mv z25)), ⟨(some a27), .q (.mv z0), (some (a26, false))⟩, ⟨(some a28), .q (.ixS z27 (x6 0)), (some (a26, false))⟩, ⟨(some a29), .q (.bi .gtr z28 (.c (.i .u8 122))), (some (a26, false))⟩, (qq a30 (.pk z26 xT z29))])
def b10_3 : CC := (.seq (.reg [(qq a2 (.mv xF))]) .ret)
def b10_4 : CC := (.seq b10_2 (.cond z30 b10_3 .skip))
def b10_5 : CC := (.reg [(qq a31 (.mv z0)), (ee a32 (.call 21 [z31, (.c (.f 22 [] []))])), (qq a33 (.un .not z32)), (qq a2 (.mv z33))])
def b10_6 : CC := (.seq (.reg [(qq a2 (.mv xF))]) (.seq (.seq b10_1 b10_4) (.seq b10_5 .ret)))
def c10 : CF := .mk 6 [.t a2] b10_6
theorem e10 (v0 : V) : argTr 6 [v0] = (.n sk5 (some v0) sk5) := rfl
def B10 := ai @e10 (ai (wu b10_1.eq_1) (ai (wu b10_2.eq_1) (ai (wu b10_3.eq_1) (ai (wu b10_4.eq_1) (ai (wu b10_5.eq_1) (wu b10_6.eq_1))))))
def isAZ (n : Int) : Bool := decide (97 ≤ n) && decide (n ≤ 122)
def is09 (n : Int) : Bool := decide (48 ≤ n) && decide (n ≤ 57)
def rbad (r : Int) : Bool := !isAZ r && (!is09 r && !decide (r = 95))
def okB (c : UInt8) : Bool := !rbad (c.toNat : Int)
def badI : List UInt8 → Nat → Option Nat
 | [], _ => none
 | c :: r, i => if okB c = true then badI r (i + 1) else some i
theorem badI_all : ∀ (l : List UInt8) (i : Nat), (badI l i = none ↔ l.all okB = true)
 | [], i => by simp [badI]
 | c :: r, i => by
   unfold badI
   cases h : okB c with
   | true => simp [h, badI_all r (i + 1)]
   | false => simp [h]
theorem t22 (Φ : Nat → Option CF) (h : Φ 22 = some c22) (r : Int) (ct : Nat) : To Φ 22 [.i .i32 r] ct (.b (rbad r)) := by
 refine to_walk h ?_
 unfold rbad isAZ is09
 have e1 : decide (r < 97) = !decide (97 ≤ r) := by by_cases h : 97 ≤ r <;> simp [h] <;> omega
 have e2 : decide (122 < r) = !decide (r ≤ 122) := by by_cases h : r ≤ 122 <;> simp [h] <;> omega
 have e3 : decide (r < 48) = !decide (48 ≤ r) := by by_cases h : 48 ≤ r <;> simp [h] <;> omega
 have e4 : decide (57 < r) = !decide (r ≤ 57) := by by_cases h : r ≤ 57 <;> simp [h] <;> omega
 cases x1 : decide (97 ≤ r) <;> rw [x1] at e1 <;> cases x2 : decide (r ≤ 122) <;> rw [x2] at e2 <;> cases x3 : decide (48 ≤ r) <;> rw [x3] at e3 <;> cases x4 : decide (r ≤ 57) <;> rw [x4] at e4 <;> simp only [WX, Nat.reducePow, Nat.reduceDiv, Nat.reduceMod, Nat.reduceBEq, Nat.reduceEqDiff, Int.reduceEq, Int.reduceLT, Int.reduceLE, reduceIte, reduceCtorEq, Nat.reduceAdd, Nat.reduceLeDiff, wd_e1, B22, e1, e2, e3, e4, Bool.not_true, Bool.not_false] <;> first | rfl | simp
def h22 : List V → Option V
 | [.i .i32 r] => some (.b (rbad r))
 | _ => none
theorem h22_eq (r : Int) : h22 [.i .i32 r] = some (.b (rbad r)) := rfl
theorem r73 (Φ : Nat → Option CF) (h : Φ 73 = some c73) (h22 : Φ 22 = some (.orc (pureO h22))) {F : RO} {M : Mem} {c : Nat} (ok : Okm F M c) (l : List UInt8) (hl : l.length ≤ 1000000) :
  Calls Φ F 73 [sV l, .f 22 [] [], .b true] M c fun r _ _ => r = .i .i64 (idxZ (badI l 0)) := by
 refine calls_walk h ?_
 simp only [WX, Nat.reducePow, Nat.reduceDiv, Nat.reduceMod, Nat.reduceBEq, Nat.reduceEqDiff, Int.reduceEq, Int.reduceLT, Int.reduceLE, reduceIte, reduceCtorEq, Nat.reduceAdd, Nat.reduceLeDiff, wd_e1, B73, a_rgs_w, rgsA_s]
 obtain ⟨I1, hI1⟩ : ∃ I : Nat → St → Prop, ∀ n s', I n s' ↔ (∃ (i : Nat) (M1 : Mem) (u : List (Option V)), n = l.length - i ∧ i ≤ l.length ∧ s' = .mk ((.n (.n (uv7 u 15 7 23 3 19 11 27) (some (.f 22 [] [])) (uv7 u 17 9 25 5 21 13 29)) (some (sV l)) (.n (uv7 u 16 8 24 4 20 12 28) (some (.b true)) (.n (.n (uv1 u 18) (some (.p c 0)) (uv1 u 26)) (some (.i .i64 0)) (uv3 u 22 14 30))))) [] M1 (c + 1) ∧ M1.get c = some (siB l i) ∧ badI l 0 = badI (l.drop i) i) := ⟨fun n s' => _, fun _ _ => Iff.rfl⟩
 refine wp_while I1 ?_ l.length _ ((hI1 _ _).2 ⟨0, M.set c (siB l 0), [none, none, none, _, _, _, none, _, _, _, none, _, _, _, _, _, _, _, _, _, _, _, _, _, _, _, _, _, _, _, _], rfl, Nat.zero_le _, rfl, get_same _ _ _, by rw [List.drop_zero]⟩)
 intro n s' hIs
 obtain ⟨i, M1, u, rfl, hi, rfl, hg, hb⟩ := (hI1 _ _).1 hIs
 clear hIs
 by_cases hlt : i < l.length
 · have hd : l.drop i = l[i] :: l.drop (i + 1) := List.drop_eq_getElem_cons hlt
   by_cases hc : l[i].toNat < 128
   · have hn := nxs_lo (c + 1) hg hlt hc
     have hr : rbad (l[i].toNat : Int) = !okB l[i] := by unfold okB; rw [Bool.not_not]
     cases ho : okB l[i] with
     | true =>
       rw [ho] at hr
       simp only [WX, Nat.reducePow, Nat.reduceDiv, Nat.reduceMod, Nat.reduceBEq, Nat.reduceEqDiff, Int.reduceEq, Int.reduceLT, Int.reduceLE, reduceIte, reduceCtorEq, Nat.reduceAdd, Nat.reduceLeDiff, wd_e1, B73, x_nxs_w, hn, h22, h22_eq, hr]
       refine ⟨l.length - (i + 1), by omega, (hI1 _ _).2 ⟨i + 1, _, [none, none, none, _, _, _, none, _, _, _, none, _, _, _, _, _, _, _, _, _, _, _, _, _, _, _, _, _, _, _, _], rfl, by omega, rfl, get_same _ _ _, ?_⟩⟩
       rw [hb, hd, badI, if_pos ho]
     | false =>
       rw [ho] at hr
       simp only [WX, Nat.reducePow, Nat.reduceDiv, Nat.reduceMod, Nat.reduceBEq, Nat.reduceEqDiff, Int.reduceEq, Int.reduceLT, Int.reduceLE, reduceIte, reduceCtorEq, Nat.reduceAdd, Nat.reduceLeDiff, wd_e1, B73, x_nxs_w, hn, h22, h22_eq, hr]
       rw [hb, hd, badI, if_neg (by rw [ho]; decide)]; rfl
   · obtain ⟨r, p, h1, hn⟩ := nxs_hi (c + 1) hg hlt (by omega)
     have key : ∀ n : Int, 128 ≤ n → rbad n = true := fun n h => by
      unfold rbad isAZ is09
      rw [decide_eq_false (show ¬ n ≤ 122 by omega), decide_eq_false (show ¬ n ≤ 57 by omega), decide_eq_false (show ¬ n = 95 by omega)]; simp
     have hr : rbad (r : Int) = true := key _ (by omega)
     have ho : okB l[i] = false := by unfold okB; rw [key _ (by omega)]; rfl
     simp only [WX, Nat.reducePow, Nat.reduceDiv, Nat.reduceMod, Nat.reduceBEq, Nat.reduceEqDiff, Int.reduceEq, Int.reduceLT, Int.reduceLE, reduceIte, reduceCtorEq, Nat.reduceAdd, Nat.reduceLeDiff, wd_e1, B73, x_nxs_w, hn, h22, h22_eq, hr]
     rw [hb, hd, badI, if_neg (by rw [ho]; decide)]; rfl
 · obtain rfl : i = l.length := by omega
   have hn := nxs_end (c + 1) hg
   simp only [WX, Nat.reducePow, Nat.reduceDiv, Nat.reduceMod, Nat.reduceBEq, Nat.reduceEqDiff, Int.reduceEq, Int.reduceLT, Int.reduceLE, reduceIte, reduceCtorEq, Nat.reduceAdd, Nat.reduceLeDiff, wd_e1, B73, x_nxs_w, hn]
   rw [hb, List.drop_length]; rfl
def h73 : List V → Option V
 | [v, .f 22 [] [], .b true] => (asS v).bind fun l => if l.length ≤ 1000000 then some (.i .i64 (idxZ (badI l 0))) else none
 | _ => none
theorem h73_eq (l : List UInt8) (hl : l.length ≤ 1000000) : h73 [sV l, .f 22 [] [], .b true] = some (.i .i64 (idxZ (badI l 0))) := by
 show (asS (sV l)).bind (fun l => if l.length ≤ 1000000 then some (V.i .i64 (idxZ (badI l 0))) else none) = _
 rw [asS_s, Option.bind_some]; exact if_pos hl
theorem t43 (Φ : Nat → Option CF) (h : Φ 43 = some c43) (h73 : Φ 73 = some (.orc (pureO h73))) (l : List UInt8) (hl : l.length ≤ 1000000) (ct : Nat) : To Φ 43 [sV l, .f 22 [] []] ct (.i .i64 (idxZ (badI l 0))) := by
 refine to_walk h ?_
 simp only [WX, Nat.reducePow, Nat.reduceDiv, Nat.reduceMod, Nat.reduceBEq, Nat.reduceEqDiff, Int.reduceEq, Int.reduceLT, Int.reduceLE, reduceIte, reduceCtorEq, Nat.reduceAdd, Nat.reduceLeDiff, wd_e1, B43, h73, h73_eq l hl]
def h43 : List V → Option V
 | [v, .f 22 [] []] => (asS v).bind fun l => if l.length ≤ 1000000 then some (.i .i64 (idxZ (badI l 0))) else none
 | _ => none
theorem h43_eq (l : List UInt8) (hl : l.length ≤ 1000000) : h43 [sV l, .f 22 [] []] = some (.i .i64 (idxZ (badI l 0))) := by
 show (asS (sV l)).bind (fun l => if l.length ≤ 1000000 then some (V.i .i64 (idxZ (badI l 0))) else none) = _
 rw [asS_s, Option.bind_some]; exact if_pos hl
theorem bad_le (l : List UInt8) : decide ((0 : Int) ≤ idxZ (badI l 0)) = !l.all okB := by
 have hb := badI_all l 0
 cases hx : badI l 0 with
 | none => rw [hb.1 hx]; rfl
 | some k =>
   have : ¬ l.all okB = true := fun hh => by rw [hb.2 hh] at hx; cases hx
   rw [Bool.not_eq_true] at this
   rw [this]; exact decide_eq_true (by show (0 : Int) ≤ (k : Int); omega)
theorem t21 (Φ : Nat → Option CF) (h : Φ 21 = some c21) (h43 : Φ 43 = some (.orc (pureO h43))) (l : List UInt8) (hl : l.length ≤ 1000000) (ct : Nat) : To Φ 21 [sV l, .f 22 [] []] ct (.b (!l.all okB)) := by
 refine to_walk h ?_
 have hb := bad_le l
 simp only [WX, Nat.reducePow, Nat.reduceDiv, Nat.reduceMod, Nat.reduceBEq, Nat.reduceEqDiff, Int.reduceEq, Int.reduceLT, Int.reduceLE, reduceIte, reduceCtorEq, Nat.reduceAdd, Nat.reduceLeDiff, wd_e1, B21, h43, h43_eq l hl, hb]
def h21 : List V → Option V
 | [v, .f 22 [] []] => (asS v).bind fun l => if l.length ≤ 1000000 then some (.b (!l.all okB)) else none
 | _ => none
theorem h21_eq (l : List UInt8) (hl : l.length ≤ 1000000) : h21 [sV l, .f 22 [] []] = some (.b (!l.all okB)) := by
 show (asS (sV l)).bind (fun l => if l.length ≤ 1000000 then some (V.b (!l.all okB)) else none) = _
 rw [asS_s, Option.bind_some]; exact if_pos hl
def isName (s : List UInt8) : Bool := (nameL.drop 1).contains s
theorem isName_iff (s : List UInt8) : isName s = true ↔ ∃ k, IsN s k := by
 unfold isName IsN
 rw [List.contains_iff_mem, List.mem_iff_getElem?]
 constructor
 · rintro ⟨i, h⟩
   rw [List.getElem?_drop] at h
   exact ⟨1 + i, by omega, h⟩
 · rintro ⟨k, h1, h2⟩
   exact ⟨k - 1, by rw [List.getElem?_drop, show 1 + (k - 1) = k by omega]; exact h2⟩
theorem found_name {s : List UInt8} {n : Int} {b : Bool} (h : FoundN s n b) : b = isName s := by
 rcases h with ⟨k, h1, _, rfl⟩ | ⟨h1, _, rfl⟩
 · exact ((isName_iff s).2 ⟨k, h1⟩).symm
 · cases hx : isName s with
   | false => rfl
   | true => obtain ⟨k, hk⟩ := (isName_iff s).1 hx; exact absurd hk (h1 k)
def azB (s : List UInt8) : Bool := match s with | [] => false | c :: _ => isAZ (c.toNat : Int)
def labelOk (s : List UInt8) : Bool := !isName s && (decide (1 ≤ s.length) && (decide (s.length ≤ 12) && (azB s && s.all okB)))
theorem r10 (Φ : Nat → Option CF) (h : Φ 10 = some c10) (h20 : Φ 20 = some c20) (h42 : Φ 42 = some (.orc (pureO h42))) (h72 : Φ 72 = some (.orc (pureO h72))) (h71 : Φ 71 = some c71) (h21 : Φ 21 = some (.orc (pureO h21))) {F : RO} {M : Mem} {c : Nat} (ok : Okm F M c) (s : List UInt8) (hs : s.length ≤ 1000000) :
  Calls Φ F 10 [sV s] M c fun r _ _ => r = .b (labelOk s) := by
 refine calls_walk h ?_
 simp only [WX, Nat.reducePow, Nat.reduceDiv, Nat.reduceMod, Nat.reduceBEq, Nat.reduceEqDiff, Int.reduceEq, Int.reduceLT, Int.reduceLE, reduceIte, reduceCtorEq, Nat.reduceAdd, Nat.reduceLeDiff, wd_e1, B10]
 refine putE_to ((r20 Φ h20 h42 h72 h71 s ok).mono ?_)
 rintro r M1 c1 ⟨⟨n, b, rfl, hf⟩, _⟩
 obtain rfl := found_name hf
 have e2 : decide ((s.length : Int) < 1) = !decide (1 ≤ s.length) := by by_cases h : 1 ≤ s.length <;> simp [h] <;> omega
 have e3 : decide ((12 : Int) < (s.length : Int)) = !decide (s.length ≤ 12) := by by_cases h : s.length ≤ 12 <;> simp [h] <;> omega
 unfold labelOk
 cases x1 : isName s with
 | true => simp only [WX, Nat.reducePow, Nat.reduceDiv, Nat.reduceMod, Nat.reduceBEq, Nat.reduceEqDiff, Int.reduceEq, Int.reduceLT, Int.reduceLE, reduceIte, reduceCtorEq, Nat.reduceAdd, Nat.reduceLeDiff, wd_e1, B10, x1, Bool.not_true, Bool.false_and]
 | false =>
   cases x2 : decide (1 ≤ s.length) with
   | false => rw [x2] at e2; simp only [WX, Nat.reducePow, Nat.reduceDiv, Nat.reduceMod, Nat.reduceBEq, Nat.reduceEqDiff, Int.reduceEq, Int.reduceLT, Int.reduceLE, reduceIte, reduceCtorEq, Nat.reduceAdd, Nat.reduceLeDiff, wd_e1, B10, x1, lnSs, e2, Bool.not_true, Bool.not_false, Bool.false_and]
   | true =>
     rw [x2] at e2
     cases x3 : decide (s.length ≤ 12) with
     | false => rw [x3] at e3; simp only [WX, Nat.reducePow, Nat.reduceDiv, Nat.reduceMod, Nat.reduceBEq, Nat.reduceEqDiff, Int.reduceEq, Int.reduceLT, Int.reduceLE, reduceIte, reduceCtorEq, Nat.reduceAdd, Nat.reduceLeDiff, wd_e1, B10, x1, lnSs, e2, e3, Bool.not_true, Bool.not_false, Bool.false_and]
     | true =>
       rw [x3] at e3
       have hl : 0 < s.length := by have := of_decide_eq_true x2; omega
       have hix : ixSV (sV s) (.i .i64 0) = some (.i .u8 ((s[0]).toNat : Int)) := ixSs s .i64 0 hl
       have ez : azB s = isAZ ((s[0]).toNat : Int) := by cases s with | nil => cases hl | cons a r => rfl
       rw [ez]
       generalize s[0] = b0 at hix
       unfold isAZ
       have e4 : decide ((b0.toNat : Int) < 97) = !decide ((97 : Int) ≤ (b0.toNat : Int)) := by by_cases h : (97 : Int) ≤ (b0.toNat : Int) <;> simp [h] <;> omega
       have e5 : decide ((122 : Int) < (b0.toNat : Int)) = !decide ((b0.toNat : Int) ≤ 122) := by by_cases h : (b0.toNat : Int) ≤ 122 <;> simp [h] <;> omega
       cases x4 : decide ((97 : Int) ≤ (b0.toNat : Int)) with
       | false => rw [x4] at e4; simp only [WX, Nat.reducePow, Nat.reduceDiv, Nat.reduceMod, Nat.reduceBEq, Nat.reduceEqDiff, Int.reduceEq, Int.reduceLT, Int.reduceLE, reduceIte, reduceCtorEq, Nat.reduceAdd, Nat.reduceLeDiff, wd_e1, B10, x1, lnSs, e2, e3, hix, e4, Bool.not_true, Bool.not_false, Bool.false_and]
       | true =>
         rw [x4] at e4
         cases x5 : decide ((b0.toNat : Int) ≤ 122) with
         | false => rw [x5] at e5; simp only [WX, Nat.reducePow, Nat.reduceDiv, Nat.reduceMod, Nat.reduceBEq, Nat.reduceEqDiff, Int.reduceEq, Int.reduceLT, Int.reduceLE, reduceIte, reduceCtorEq, Nat.reduceAdd, Nat.reduceLeDiff, wd_e1, B10, x1, lnSs, e2, e3, hix, e4, e5, Bool.not_true, Bool.not_false, Bool.false_and]
         | true =>
           rw [x5] at e5
           have hh := h21_eq s hs
           simp only [WX, Nat.reducePow, Nat.reduceDiv, Nat.reduceMod, Nat.reduceBEq, Nat.reduceEqDiff, Int.reduceEq, Int.reduceLT, Int.reduceLE, reduceIte, reduceCtorEq, Nat.reduceAdd, Nat.reduceLeDiff, wd_e1, B10, x1, lnSs, e2, e3, hix, e4, e5, Bool.not_true, Bool.not_false, h21, hh, Bool.not_not]
def b11_1 : CC := (.reg [(qq a3 (.mv (x6 0)))])
def w11_1 := wu b11_1.eq_1
def b11_2 : CC := (.reg [(qq a6 (.mv z3)), (qq a7 (.mv z0)), (qq a8 (.ln .str z7)), (qq a9 (.bi .lss z6 z8))])
def w11_2 := wu b11_2.eq_1
def b11_3 : CC := (.reg [(qq a12 (.mv z0)), (qq a13 (.mv z3)), (qq a14 (.ixS z12 z13)), (qq a4 (.mv z14))])
def w11_3 := wu b11_3.eq_1
def b11_4 : CC := (.reg [(qq a15 (.mv z4)), (qq a16 (.bi .lss z15 (.c (.i .u8 97)))), (qq a17 (.mv z16)), ⟨(some a18), .q (.mv z4), (some (a17, false))⟩, ⟨(some a19), .q (.bi .gtr z18 (.c (.i .u8 122))), (some (a17, false))⟩, (qq a20 (.pk z17 xT z19)), (qq a21 (.mv z20)), ⟨(some a22), .q (.mv z3), (some (a21, true))⟩, ⟨(some a23), .q (.bi .eql z22 (x6 0)), (some (a21, true))⟩, ⟨(some a24), .q (.mv z23), (some (a21, true))⟩, ⟨(some a25), .q (.mv z4), (some (a24, false))⟩, ⟨(some a26), .q (.bi .neq z25 (.c (.i .u8 95))), (some (a24, false))⟩, ⟨(some a27), .q (.mv z26), (some (a24, false))⟩, ⟨(some a28), .q (.mv z4), (some (a27, true))⟩, ⟨(some a29), .q (.bi .lss z28 (.c (.i .u8 48))), (some (a27, true))⟩, ⟨(some a30), .q (.mv z29), (some (a27, true))⟩, ⟨(some a31), .q (.mv z4), (some (a30, false))⟩, ⟨(some a32), .q (.bi .gtr z31 (.c (.i .u8 57))), (some (a30, false))⟩, ⟨(some a33), .q (.pk z30 xT z32), (some (a27, true))⟩, ⟨(some a34), .q (.pk z27 z33 xF), (some (a24, false))⟩, ⟨(some a35), .q (.pk z24 xT z34), (some (a21, true))⟩, (qq a36 (.pk z21 z35 xF))])
def w11_4 := wu b11_4.eq_1
def b11_5 : CC := (.seq (.reg [(qq a2 (.mv xF))]) .ret)
def w11_5 := wu b11_5.eq_1
def b11_6 : CC := (.seq b11_4 (.cond z36 b11_5 .skip))
def w11_6 := wu b11_6.eq_1
def b11_7 : CC := (.reg [(qq a10 (.mv z3)), (qq a11 (.bi .add z10 (x6 1))), (qq a3 (.mv z11))])
def w11_7 := wu b11_7.eq_1
def b11_8 : CC := (.seq (.seq b11_2 (.cond z9 .skip (.exit 0))) (.seq (.block 1 (.seq b11_3 b11_6)) b11_7))
def w11_8 := wu b11_8.eq_1
def b11_9 : CC := (.reg [(qq a5 (.mv (x6 1)))])
def w11_9 := wu b11_9.eq_1
def b11_10 : CC := (.reg [(qq a37 (.mv z5)), (qq a38 (.bi .leq z37 (x6 28)))])
def w11_10 := wu b11_10.eq_1
def b11_11 : CC := (.seq b11_10 (.cond z38 .skip (.exit 2)))
def w11_11 := wu b11_11.eq_1
def b11_12 : CC := (.reg [(ee a41 (.call 23 [])), (qq a42 (.mv z5)), (qq a43 (.iaS 1 z41 z42)), (qq a44 (.ld1 z43)), (qq a45 (.mv z0)), (qq a46 (.bi .eql z44 z45))])
def w11_12 := wu b11_12.eq_1
def b11_13 : CC := (.seq (.reg [(qq a2 (.mv xF))]) .ret)
def w11_13 := wu b11_13.eq_1
def b11_14 : CC := (.seq b11_12 (.cond z46 b11_13 .skip))
def w11_14 := wu b11_14.eq_1
def b11_15 : CC := (.reg [(qq a39 (.mv z5)), (qq a40 (.bi .add z39 (x6 1))), (qq a5 (.mv z40))])
def w11_15 := wu b11_15.eq_1
def b11_16 : CC := (.block 2 (.loop (.seq b11_11 (.seq (.block 3 b11_14) b11_15))))
def w11_16 := wu b11_16.eq_1
def b11_17 : CC := (.reg [(qq a47 (.mv z0)), (qq a48 (.ln .str z47)), (qq a49 (.bi .geq z48 (x6 1))), (qq a50 (.mv z49)), ⟨(some a51), .q (.mv z0), (some (a50, true))⟩, ⟨(some a52), .q (.ln .str z51), (some (a50, true))⟩, ⟨(some a53), .q (.bi .leq z52 (x6 12)), (some (a50, true))⟩, (qq a54 (.pk z50 z53 xF)), (qq a2 (.mv z54))])
def w11_17 := wu b11_17.eq_1
def b11_18 : CC := (.seq (.seq b11_1 (.block 0 (.loop b11_8))) (.seq (.seq b11_9 b11_16) (.seq b11_17 .ret)))
def w11_18 := wu b11_18.eq_1
def b11_19 : CC := (.seq (.reg [(qq a2 (.mv xF))]) b11_18)
def w11_19 := wu b11_19.eq_1
def c11 : CF := .mk 6 [.t a2] b11_19
theorem e11 (v0 : V) : argTr 6 [v0] = (.n sk5 (some v0) sk5) := rfl
def B11 := ai @e11 (ai @w11_1 (ai @w11_2 (ai @w11_3 (ai @w11_4 (ai @w11_5 (ai @w11_6 (ai @w11_7 (ai @w11_8 (ai @w11_9 (ai @w11_10 (ai @w11_11 (ai @w11_12 (ai @w11_13 (ai @w11_14 (ai @w11_15 (ai @w11_16 (ai @w11_17 (ai @w11_18 (@w11_19)))))))))))))))))))
theorem lab_end {s : List UInt8} (h : s.all okB = true) (hz : 1 ≤ s.length → azB s = true) (hn : isName s = false) : labelOk s = (decide ((1 : Int) ≤ (s.length : Int)) && decide ((s.length : Int) ≤ 12)) := by
 unfold labelOk
 rw [h, hn]
 by_cases h1 : 1 ≤ s.length
 · rw [hz h1, decide_eq_true h1, decide_eq_true (show (1 : Int) ≤ (s.length : Int) by omega)]
   have : decide (s.length ≤ 12) = decide ((s.length : Int) ≤ 12) := by congr 1; apply propext; omega
   rw [this]; simp
 · rw [decide_eq_false h1, decide_eq_false (show ¬ (1 : Int) ≤ (s.length : Int) by omega)]; simp
theorem tail11 (Φ : Nat → Option CF) (h23 : Φ 23 = some c23) {F : RO} {M : Mem} {c : Nat} (ok : Okm F M c) (s : List UInt8) (ha : s.all okB = true) (hz : 1 ≤ s.length → azB s = true) (u : List (Option V)) :
  Wp b11_9 (K Φ none 11 F) (.mk ((.n (.n (.n (uv7 u 31 15 47 7 39 23 55) (uO u 3) (uv7 u 35 19 51 11 43 27 59)) (uO u 1) (.n (uv7 u 33 17 49 9 41 25 57) (uO u 5) (uv7 u 37 21 53 13 45 29 61))) (some (sV s)) (.n (.n (uv7 u 32 16 48 8 40 24 56) (uO u 4) (uv7 u 36 20 52 12 44 28 60)) (uO u 2) (.n (uv7 u 34 18 50 10 42 26 58) (uO u 6) (uv7 u 38 22 54 14 46 30 62))))) [] M c) (seqQ b11_16 (K Φ none 11 F) (seqQ (.seq b11_17 .ret) (K Φ none 11 F) (endQ F [.t (.r .h)] fun r _ _ => r = .b (labelOk s)))) := by
 simp only [WX, Nat.reducePow, Nat.reduceDiv, Nat.reduceMod, Nat.reduceBEq, Nat.reduceEqDiff, Int.reduceEq, Int.reduceLT, Int.reduceLE, reduceIte, reduceCtorEq, Nat.reduceAdd, Nat.reduceLeDiff, wd_e1, B11]
 obtain ⟨I1, hI1⟩ : ∃ I : Nat → St → Prop, ∀ n s', I n s' ↔ (∃ (k : Nat) (M1 : Mem) (c1 : Nat) (u : List (Option V)), n = 29 - k ∧ 1 ≤ k ∧ k ≤ 29 ∧ s' = .mk ((.n (.n (.n (uv7 u 31 15 47 7 39 23 55) (uO u 3) (uv7 u 35 19 51 11 43 27 59)) (uO u 1) (.n (uv7 u 33 17 49 9 41 25 57) (some (.i .i64 (k : Int))) (uv7 u 37 21 53 13 45 29 61))) (some (sV s)) (.n (.n (uv7 u 32 16 48 8 40 24 56) (uO u 4) (uv7 u 36 20 52 12 44 28 60)) (uO u 2) (.n (uv7 u 34 18 50 10 42 26 58) (uO u 6) (uv7 u 38 22 54 14 46 30 62))))) [] M1 c1 ∧ (∀ j, j < k → ¬ IsN s j)) := ⟨fun n s' => _, fun _ _ => Iff.rfl⟩
 refine wp_while I1 ?_ 28 _ ((hI1 _ _).2 ⟨1, M, c, [none, _, _, _, _, none, _, _, _, _, _, _, _, _, _, _, _, _, _, _, _, _, _, _, _, _, _, _, _, _, _, _, _, _, _, _, _, _, _, _, _, _, _, _, _, _, _, _, _, _, _, _, _, _, _, _, _, _, _, _, _, _, _], rfl, Nat.le_refl _, by omega, rfl, fun j hj hn => by have := hn.1; omega⟩)
 intro n s' hIs
 obtain ⟨k, M1, c1, u, rfl, hk1, hk, rfl, hb⟩ := (hI1 _ _).1 hIs
 clear hIs
 have q8 : biV .add (.i .i64 (k : Int)) (.i .i64 1) = some (.i .i64 ((k + 1 : Nat) : Int)) := by rw [i64_add _ _ (by omega) (by omega)]; simp
 by_cases hlt : k ≤ 28
 · have d1 : decide ((k : Int) ≤ 28) = true := decide_eq_true (by omega)
   simp only [WX, Nat.reducePow, Nat.reduceDiv, Nat.reduceMod, Nat.reduceBEq, Nat.reduceEqDiff, Int.reduceEq, Int.reduceLT, Int.reduceLE, reduceIte, reduceCtorEq, Nat.reduceAdd, Nat.reduceLeDiff, wd_e1, B11, d1]
   refine putE_to ((r23 Φ h23).mono ?_)
   rintro v4 M4 c4 ⟨x, rfl, rfl, hsN⟩
   have hkl' : k < nameL.length := Nat.lt_succ_of_le hlt
   have hkl : k < (nameL.map fun s => [sV s]).length := by rw [List.length_map]; exact hkl'
   obtain ⟨b1, o1, _, ia1, ld1⟩ := SlAt.one hsN k (x := sV (nameL[k]'hkl')) hkl (by simp)
   have ia1 := ia1 .i64
   by_cases he : nameL[k]'hkl' = s
   · have hd2 : decide (nameL[k]'hkl' = s) = true := decide_eq_true he
     have hn : isName s = true := (isName_iff s).2 ⟨k, hk1, by rw [List.getElem?_eq_getElem hkl', he]⟩
     have hl : labelOk s = false := by unfold labelOk; rw [hn]; rfl
     simp only [WX, Nat.reducePow, Nat.reduceDiv, Nat.reduceMod, Nat.reduceBEq, Nat.reduceEqDiff, Int.reduceEq, Int.reduceLT, Int.reduceLE, reduceIte, reduceCtorEq, Nat.reduceAdd, Nat.reduceLeDiff, wd_e1, B11, ia1, ld1, bi_seq, hd2, hl]
   · have hd2 : decide (nameL[k]'hkl' = s) = false := decide_eq_false he
     simp only [WX, Nat.reducePow, Nat.reduceDiv, Nat.reduceMod, Nat.reduceBEq, Nat.reduceEqDiff, Int.reduceEq, Int.reduceLT, Int.reduceLE, reduceIte, reduceCtorEq, Nat.reduceAdd, Nat.reduceLeDiff, wd_e1, B11, ia1, ld1, bi_seq, hd2, q8]
     refine ⟨29 - (k + 1), by omega, (hI1 _ _).2 ⟨k + 1, _, _, [none, _, _, _, _, none, _, _, _, _, _, _, _, _, _, _, _, _, _, _, _, _, _, _, _, _, _, _, _, _, _, _, _, _, _, _, _, _, _, _, _, _, _, _, _, _, _, _, _, _, _, _, _, _, _, _, _, _, _, _, _, _, _], rfl, by omega, by omega, rfl, fun j hj hn => ?_⟩⟩
     by_cases hjk : j = k
     · subst hjk
       have := hn.2
       rw [List.getElem?_eq_getElem hkl'] at this
       exact he (Option.some.inj this)
     · exact hb j (by omega) hn
 · obtain rfl : k = 29 := by omega
   have d1 : decide (((29 : Nat) : Int) ≤ 28) = false := rfl
   have hn : isName s = false := by
    cases hx : isName s with
    | false => rfl
    | true =>
      obtain ⟨j, hj⟩ := (isName_iff s).1 hx
      by_cases hj9 : j < 29
      · exact absurd hj (hb j hj9)
      · have := hj.2
        rw [List.getElem?_eq_none (show nameL.length ≤ j from Nat.le_of_not_lt hj9)] at this
        cases this
   rw [lab_end ha hz hn]
   cases x1 : decide ((1 : Int) ≤ (s.length : Int)) with
   | false => simp only [WX, Nat.reducePow, Nat.reduceDiv, Nat.reduceMod, Nat.reduceBEq, Nat.reduceEqDiff, Int.reduceEq, Int.reduceLT, Int.reduceLE, reduceIte, reduceCtorEq, Nat.reduceAdd, Nat.reduceLeDiff, wd_e1, B11, d1, lnSs, x1, Bool.false_and]
   | true => simp only [WX, Nat.reducePow, Nat.reduceDiv, Nat.reduceMod, Nat.reduceBEq, Nat.reduceEqDiff, Int.reduceEq, Int.reduceLT, Int.reduceLE, reduceIte, reduceCtorEq, Nat.reduceAdd, Nat.reduceLeDiff, wd_e1, B11, d1, lnSs, x1]
theorem r11 (Φ : Nat → Option CF) (h : Φ 11 = some c11) (h23 : Φ 23 = some c23) {F : RO} {M : Mem} {c : Nat} (ok : Okm F M c) (s : List UInt8) (hs : s.length ≤ 1000000) :
  Calls Φ F 11 [sV s] M c fun r _ _ => r = .b (labelOk s) := by
 refine calls_walk h ?_
 simp only [WX, Nat.reducePow, Nat.reduceDiv, Nat.reduceMod, Nat.reduceBEq, Nat.reduceEqDiff, Int.reduceEq, Int.reduceLT, Int.reduceLE, reduceIte, reduceCtorEq, Nat.reduceAdd, Nat.reduceLeDiff, wd_e1, B11]
 obtain ⟨I1, hI1⟩ : ∃ I : Nat → St → Prop, ∀ n s', I n s' ↔ (∃ (i : Nat) (u : List (Option V)), n = s.length - i ∧ i ≤ s.length ∧ s' = .mk ((.n (.n (.n (uv7 u 31 15 47 7 39 23 55) (some (.i .i64 (i : Int))) (uv7 u 35 19 51 11 43 27 59)) (uO u 1) (.n (uv7 u 33 17 49 9 41 25 57) (uO u 5) (uv7 u 37 21 53 13 45 29 61))) (some (sV s)) (.n (.n (uv7 u 32 16 48 8 40 24 56) (uO u 4) (uv7 u 36 20 52 12 44 28 60)) (uO u 2) (.n (uv7 u 34 18 50 10 42 26 58) (uO u 6) (uv7 u 38 22 54 14 46 30 62))))) [] M c ∧ s.all okB = (s.drop i).all okB ∧ (1 ≤ i → azB s = true)) := ⟨fun n s' => _, fun _ _ => Iff.rfl⟩
 refine wp_while I1 ?_ s.length _ ((hI1 _ _).2 ⟨0, [none, _, _, none, _, _, _, _, _, _, _, _, _, _, _, _, _, _, _, _, _, _, _, _, _, _, _, _, _, _, _, _, _, _, _, _, _, _, _, _, _, _, _, _, _, _, _, _, _, _, _, _, _, _, _, _, _, _, _, _, _, _, _], rfl, Nat.zero_le _, rfl, by rw [List.drop_zero], fun h => by omega⟩)
 intro n s' hIs
 obtain ⟨i, u, rfl, hi, rfl, hb, hz⟩ := (hI1 _ _).1 hIs
 clear hIs
 have q8 : biV .add (.i .i64 (i : Int)) (.i .i64 1) = some (.i .i64 ((i + 1 : Nat) : Int)) := by rw [i64_add _ _ (by omega) (by omega)]; simp
 by_cases hlt : i < s.length
 · have d1 : decide ((i : Int) < (s.length : Int)) = true := decide_eq_true (by omega)
   have hd : s.drop i = s[i] :: s.drop (i + 1) := List.drop_eq_getElem_cons hlt
   have hix : ixSV (sV s) (.i .i64 (i : Int)) = some (.i .u8 ((s[i]).toNat : Int)) := ixSs s .i64 i hlt
   have haz : i = 0 → azB s = isAZ ((s[i]).toNat : Int) := fun h0 => by subst h0; cases s with | nil => cases hlt | cons a r => rfl
   have bad1 : okB s[i] = false → labelOk s = false := fun ho => by
    unfold labelOk; rw [hb, hd, List.all_cons, ho]; simp
   have bad2 : azB s = false → labelOk s = false := fun ho => by unfold labelOk; rw [ho]; simp
   generalize s[i] = b0 at hix hd haz bad1
   have e4 : decide ((b0.toNat : Int) < 97) = !decide ((97 : Int) ≤ (b0.toNat : Int)) := by by_cases h : (97 : Int) ≤ (b0.toNat : Int) <;> simp [h] <;> omega
   have e5 : decide ((122 : Int) < (b0.toNat : Int)) = !decide ((b0.toNat : Int) ≤ 122) := by by_cases h : (b0.toNat : Int) ≤ 122 <;> simp [h] <;> omega
   have e6 : decide ((b0.toNat : Int) < 48) = !decide ((48 : Int) ≤ (b0.toNat : Int)) := by by_cases h : (48 : Int) ≤ (b0.toNat : Int) <;> simp [h] <;> omega
   have e7 : decide ((57 : Int) < (b0.toNat : Int)) = !decide ((b0.toNat : Int) ≤ 57) := by by_cases h : (b0.toNat : Int) ≤ 57 <;> simp [h] <;> omega
   have hok : okB b0 = !(!isAZ (b0.toNat : Int) && (!is09 (b0.toNat : Int) && !decide ((b0.toNat : Int) = 95))) := rfl
   have e8 : decide ((b0.toNat : Int) ≠ 95) = !decide ((b0.toNat : Int) = 95) := by simp
   have hz0 : (isAZ (b0.toNat : Int) = true ∨ i ≠ 0) → (1 ≤ i + 1 → azB s = true) := fun hh _ => by
    rcases hh with hh | hh
    · by_cases h0 : i = 0
      · rw [haz h0]; exact hh
      · exact hz (by omega)
    · exact hz (by omega)
   unfold isAZ is09 at hok
   unfold isAZ at haz hz0
   have d0 : decide ((i : Int) = 0) = decide (i = 0) := by congr 1; apply propext; omega
   cases x1 : (decide ((97 : Int) ≤ (b0.toNat : Int)) && decide ((b0.toNat : Int) ≤ 122)) with
   | true =>
     obtain ⟨y1, y2⟩ := Bool.and_eq_true_iff.1 x1
     rw [y1] at e4; rw [y2] at e5
     have ho : okB b0 = true := by rw [hok, x1]; rfl
     simp only [WX, Nat.reducePow, Nat.reduceDiv, Nat.reduceMod, Nat.reduceBEq, Nat.reduceEqDiff, Int.reduceEq, Int.reduceLT, Int.reduceLE, reduceIte, reduceCtorEq, Nat.reduceAdd, Nat.reduceLeDiff, wd_e1, B11, lnSs, d1, hix, e4, e5, q8, Bool.not_true, Bool.not_false]
     exact ⟨s.length - (i + 1), by omega, (hI1 _ _).2 ⟨i + 1, [none, _, _, none, _, _, _, _, _, _, _, _, _, _, _, _, _, _, _, _, _, _, _, _, _, _, _, _, _, _, _, _, _, _, _, _, _, _, _, _, _, _, _, _, _, _, _, _, _, _, _, _, _, _, _, _, _, _, _, _, _, _, _], rfl, by omega, rfl, by rw [hb, hd, List.all_cons, ho, Bool.true_and], hz0 (.inl x1)⟩⟩
   | false =>
     have x1' : decide ((97 : Int) ≤ (b0.toNat : Int)) = false ∨ (decide ((97 : Int) ≤ (b0.toNat : Int)) = true ∧ decide ((b0.toNat : Int) ≤ 122) = false) := by
      cases hh : decide ((97 : Int) ≤ (b0.toNat : Int)) with
      | false => exact .inl rfl
      | true => rw [hh] at x1; exact .inr ⟨rfl, by simpa using x1⟩
     have FIN : ∀ u, Wp b11_6 (K Φ none 11 F) (.mk ((.n (.n (.n (uv7 u 31 15 47 7 39 23 55) (some (.i .i64 (i : Int))) (uv7 u 35 19 51 11 43 27 59)) (uO u 1) (.n (uv7 u 33 17 49 9 41 25 57) (uO u 5) (uv7 u 37 21 53 13 45 29 61))) (some (sV s)) (.n (.n (uv7 u 32 16 48 8 40 24 56) (some (.i .u8 (b0.toNat : Int))) (uv7 u 36 20 52 12 44 28 60)) (uO u 2) (.n (uv7 u 34 18 50 10 42 26 58) (uO u 6) (uv7 u 38 22 54 14 46 30 62))))) [] M c) (blockQ 1 (seqQ b11_7 (K Φ none 11 F) (roundQ I1 (s.length - i) (blockQ 0 (seqQ (.seq (.seq b11_9 b11_16) (.seq b11_17 .ret)) (K Φ none 11 F) (endQ F [.t (.r .h)] fun r _ _ => r = .b (labelOk s))))))) := by
      intro u
      by_cases h0 : i = 0
      · have d0 : decide ((i : Int) = 0) = true := decide_eq_true (by omega)
        have hl := bad2 (by rw [haz h0]; exact x1)
        rcases x1' with y1 | ⟨y1, y2⟩
        · rw [y1] at e4
          simp only [WX, Nat.reducePow, Nat.reduceDiv, Nat.reduceMod, Nat.reduceBEq, Nat.reduceEqDiff, Int.reduceEq, Int.reduceLT, Int.reduceLE, reduceIte, reduceCtorEq, Nat.reduceAdd, Nat.reduceLeDiff, wd_e1, B11, e4, d0, hl, Bool.not_true, Bool.not_false]
        · rw [y1] at e4; rw [y2] at e5
          simp only [WX, Nat.reducePow, Nat.reduceDiv, Nat.reduceMod, Nat.reduceBEq, Nat.reduceEqDiff, Int.reduceEq, Int.reduceLT, Int.reduceLE, reduceIte, reduceCtorEq, Nat.reduceAdd, Nat.reduceLeDiff, wd_e1, B11, e4, e5, d0, hl, Bool.not_true, Bool.not_false]
      · have d0 : decide ((i : Int) = 0) = false := decide_eq_false (by omega)
        cases y3 : decide ((b0.toNat : Int) = 95) with
        | true =>
          rw [y3] at e8
          have ho : okB b0 = true := by rw [hok, y3]; simp
          have FIN2 : ∀ u, ∃ m, m < s.length - i ∧ I1 m (.mk ((.n (.n (.n (uv7 u 31 15 47 7 39 23 55) (some (.i .i64 ((i + 1 : Nat) : Int))) (uv7 u 35 19 51 11 43 27 59)) (uO u 1) (.n (uv7 u 33 17 49 9 41 25 57) (uO u 5) (uv7 u 37 21 53 13 45 29 61))) (some (sV s)) (.n (.n (uv7 u 32 16 48 8 40 24 56) (uO u 4) (uv7 u 36 20 52 12 44 28 60)) (uO u 2) (.n (uv7 u 34 18 50 10 42 26 58) (uO u 6) (uv7 u 38 22 54 14 46 30 62))))) [] M c) := fun u => ⟨s.length - (i + 1), by omega, (hI1 _ _).2 ⟨i + 1, u, rfl, by omega, rfl, by rw [hb, hd, List.all_cons, ho, Bool.true_and], hz0 (.inr h0)⟩⟩
          rcases x1' with y1 | ⟨y1, y2⟩
          · rw [y1] at e4
            simp only [WX, Nat.reducePow, Nat.reduceDiv, Nat.reduceMod, Nat.reduceBEq, Nat.reduceEqDiff, Int.reduceEq, Int.reduceLT, Int.reduceLE, reduceIte, reduceCtorEq, Nat.reduceAdd, Nat.reduceLeDiff, wd_e1, B11, e4, d0, e8, q8, Bool.not_true, Bool.not_false]
            exact FIN2 [none, _, _, none, _, _, _, _, _, _, _, _, _, _, _, _, _, _, _, _, _, _, _, _, _, _, _, _, _, _, _, _, _, _, _, _, _, _, _, _, _, _, _, _, _, _, _, _, _, _, _, _, _, _, _, _, _, _, _, _, _, _, _]
          · rw [y1] at e4; rw [y2] at e5
            simp only [WX, Nat.reducePow, Nat.reduceDiv, Nat.reduceMod, Nat.reduceBEq, Nat.reduceEqDiff, Int.reduceEq, Int.reduceLT, Int.reduceLE, reduceIte, reduceCtorEq, Nat.reduceAdd, Nat.reduceLeDiff, wd_e1, B11, e4, e5, d0, e8, q8, Bool.not_true, Bool.not_false]
            exact FIN2 [none, _, _, none, _, _, _, _, _, _, _, _, _, _, _, _, _, _, _, _, _, _, _, _, _, _, _, _, _, _, _, _, _, _, _, _, _, _, _, _, _, _, _, _, _, _, _, _, _, _, _, _, _, _, _, _, _, _, _, _, _, _, _]
        | false =>
          rw [y3] at e8
          cases x4 : (decide ((48 : Int) ≤ (b0.toNat : Int)) && decide ((b0.toNat : Int) ≤ 57)) with
          | true =>
            obtain ⟨w1, w2⟩ := Bool.and_eq_true_iff.1 x4
            rw [w1] at e6; rw [w2] at e7
            have ho : okB b0 = true := by rw [hok, x4]; simp
            have FIN2 : ∀ u, ∃ m, m < s.length - i ∧ I1 m (.mk ((.n (.n (.n (uv7 u 31 15 47 7 39 23 55) (some (.i .i64 ((i + 1 : Nat) : Int))) (uv7 u 35 19 51 11 43 27 59)) (uO u 1) (.n (uv7 u 33 17 49 9 41 25 57) (uO u 5) (uv7 u 37 21 53 13 45 29 61))) (some (sV s)) (.n (.n (uv7 u 32 16 48 8 40 24 56) (uO u 4) (uv7 u 36 20 52 12 44 28 60)) (uO u 2) (.n (uv7 u 34 18 50 10 42 26 58) (uO u 6) (uv7 u 38 22 54 14 46 30 62))))) [] M c) := fun u => ⟨s.length - (i + 1), by omega, (hI1 _ _).2 ⟨i + 1, u, rfl, by omega, rfl, by rw [hb, hd, List.all_cons, ho, Bool.true_and], hz0 (.inr h0)⟩⟩
            rcases x1' with y1 | ⟨y1, y2⟩
            · rw [y1] at e4
              simp only [WX, Nat.reducePow, Nat.reduceDiv, Nat.reduceMod, Nat.reduceBEq, Nat.reduceEqDiff, Int.reduceEq, Int.reduceLT, Int.reduceLE, reduceIte, reduceCtorEq, Nat.reduceAdd, Nat.reduceLeDiff, wd_e1, B11, e4, d0, e8, e6, e7, q8, Bool.not_true, Bool.not_false]
              exact FIN2 [none, _, _, none, _, _, _, _, _, _, _, _, _, _, _, _, _, _, _, _, _, _, _, _, _, _, _, _, _, _, _, _, _, _, _, _, _, _, _, _, _, _, _, _, _, _, _, _, _, _, _, _, _, _, _, _, _, _, _, _, _, _, _]
            · rw [y1] at e4; rw [y2] at e5
              simp only [WX, Nat.reducePow, Nat.reduceDiv, Nat.reduceMod, Nat.reduceBEq, Nat.reduceEqDiff, Int.reduceEq, Int.reduceLT, Int.reduceLE, reduceIte, reduceCtorEq, Nat.reduceAdd, Nat.reduceLeDiff, wd_e1, B11, e4, e5, d0, e8, e6, e7, q8, Bool.not_true, Bool.not_false]
              exact FIN2 [none, _, _, none, _, _, _, _, _, _, _, _, _, _, _, _, _, _, _, _, _, _, _, _, _, _, _, _, _, _, _, _, _, _, _, _, _, _, _, _, _, _, _, _, _, _, _, _, _, _, _, _, _, _, _, _, _, _, _, _, _, _, _]
          | false =>
            have hl := bad1 (by rw [hok, x1, x4, y3]; rfl)
            have x4' : decide ((48 : Int) ≤ (b0.toNat : Int)) = false ∨ (decide ((48 : Int) ≤ (b0.toNat : Int)) = true ∧ decide ((b0.toNat : Int) ≤ 57) = false) := by
             cases hh : decide ((48 : Int) ≤ (b0.toNat : Int)) with
             | false => exact .inl rfl
             | true => rw [hh] at x4; exact .inr ⟨rfl, by simpa using x4⟩
            rcases x1' with y1 | ⟨y1, y2⟩ <;> rcases x4' with w1 | ⟨w1, w2⟩
            · rw [y1] at e4; rw [w1] at e6
              simp only [WX, Nat.reducePow, Nat.reduceDiv, Nat.reduceMod, Nat.reduceBEq, Nat.reduceEqDiff, Int.reduceEq, Int.reduceLT, Int.reduceLE, reduceIte, reduceCtorEq, Nat.reduceAdd, Nat.reduceLeDiff, wd_e1, B11, e4, d0, e8, e6, hl, Bool.not_true, Bool.not_false]
            · rw [y1] at e4; rw [w1] at e6; rw [w2] at e7
              simp only [WX, Nat.reducePow, Nat.reduceDiv, Nat.reduceMod, Nat.reduceBEq, Nat.reduceEqDiff, Int.reduceEq, Int.reduceLT, Int.reduceLE, reduceIte, reduceCtorEq, Nat.reduceAdd, Nat.reduceLeDiff, wd_e1, B11, e4, d0, e8, e6, e7, hl, Bool.not_true, Bool.not_false]
            · rw [y1] at e4; rw [y2] at e5; rw [w1] at e6
              simp only [WX, Nat.reducePow, Nat.reduceDiv, Nat.reduceMod, Nat.reduceBEq, Nat.reduceEqDiff, Int.reduceEq, Int.reduceLT, Int.reduceLE, reduceIte, reduceCtorEq, Nat.reduceAdd, Nat.reduceLeDiff, wd_e1, B11, e4, e5, d0, e8, e6, hl, Bool.not_true, Bool.not_false]
            · rw [y1] at e4; rw [y2] at e5; rw [w1] at e6; rw [w2] at e7
              simp only [WX, Nat.reducePow, Nat.reduceDiv, Nat.reduceMod, Nat.reduceBEq, Nat.reduceEqDiff, Int.reduceEq, Int.reduceLT, Int.reduceLE, reduceIte, reduceCtorEq, Nat.reduceAdd, Nat.reduceLeDiff, wd_e1, B11, e4, e5, d0, e8, e6, e7, hl, Bool.not_true, Bool.not_false]
     simp only [WX, Nat.reducePow, Nat.reduceDiv, Nat.reduceMod, Nat.reduceBEq, Nat.reduceEqDiff, Int.reduceEq, Int.reduceLT, Int.reduceLE, reduceIte, reduceCtorEq, Nat.reduceAdd, Nat.reduceLeDiff, wd_e1, e11, w11_1, w11_2, w11_3, w11_4, w11_5, w11_7, w11_8, w11_9, w11_10, w11_11, w11_12, w11_13, w11_14, w11_15, w11_16, w11_17, w11_18, w11_19, lnSs, d1, hix]
     exact FIN [none, _, _, none, none, _, _, _, _, _, _, _, _, _, _, _, _, _, _, _, _, _, _, _, _, _, _, _, _, _, _, _, _, _, _, _, _, _, _, _, _, _, _, _, _, _, _, _, _, _, _, _, _, _, _, _, _, _, _, _, _, _, _]
 · obtain rfl : i = s.length := by omega
   have d1 : decide ((s.length : Int) < (s.length : Int)) = false := decide_eq_false (by omega)
   simp only [WX, Nat.reducePow, Nat.reduceDiv, Nat.reduceMod, Nat.reduceBEq, Nat.reduceEqDiff, Int.reduceEq, Int.reduceLT, Int.reduceLE, reduceIte, reduceCtorEq, Nat.reduceAdd, Nat.reduceLeDiff, wd_e1, e11, w11_1, w11_2, w11_3, w11_4, w11_5, w11_6, w11_7, w11_8, w11_10, w11_11, w11_12, w11_13, w11_14, w11_15, w11_16, w11_17, w11_18, w11_19, lnSs, d1]
   exact tail11 Φ h23 ok s (by rw [hb, List.drop_length]; rfl) hz [none, _, _, _, _, _, _, _, _, _, _, _, _, _, _, _, _, _, _, _, _, _, _, _, _, _, _, _, _, _, _, _, _, _, _, _, _, _, _, _, _, _, _, _, _, _, _, _, _, _, _, _, _, _, _, _, _, _, _, _, _, _, _]
def hexL : List UInt8 := [48, 49, 50, 51, 52, 53, 54, 55, 56, 57, 65, 66, 67, 68, 69, 70]
def hexB (n : Nat) : UInt8 := (hexL[n]?).getD 0
def escB (c : UInt8) : List UInt8 := if 33 ≤ c.toNat ∧ c.toNat ≤ 126 ∧ c.toNat ≠ 37 then [c] else [37, hexB (c.toNat / 16), hexB (c.toNat % 16)]
def wordB (s : List UInt8) : List UInt8 := if s = [] then [37] else s.flatMap escB
theorem ixHex (k : IntKind) (n : Nat) (h : n < 16) : ixSV (sV hexL) (.i k (n : Int)) = some (bV (hexB n)) := by
 have hl : n < hexL.length := h
 have := ixSs hexL k n hl
 rw [this]
 congr 2
 unfold hexB
 rw [List.getElem?_eq_getElem hl]; rfl
theorem u8_shr4 (b : UInt8) : biV .shr (.i .u8 (b.toNat : Int)) (.i .u64 4) = some (.i .u8 ((b.toNat / 16 : Nat) : Int)) := by
 have h := bi_shr .u8 .u64 (b.toNat : Int) 4
 rw [show (((4 : Nat) : Int)) = 4 from rfl, show shCount .u8 4 = 4 from rfl, Int.fdiv_eq_ediv_of_nonneg _ (Int.natCast_nonneg _)] at h
 exact h
theorem u8_and15 (b : UInt8) : biV .and (.i .u8 (b.toNat : Int)) (.i .u8 15) = some (.i .u8 ((b.toNat % 16 : Nat) : Int)) := by
 have hb := UInt8.toNat_lt b
 have h2 : toU .u8 (b.toNat : Int) = b.toNat := by show ((b.toNat : Int) % 256).toNat = _; omega
 rw [bi_and, h2, show toU .u8 15 = 2 ^ 4 - 1 from rfl, Nat.and_two_pow_sub_one_eq_mod, wrap_u8]
 congr 2
 omega
theorem esc_len (c : UInt8) : 1 ≤ (escB c).length ∧ (escB c).length ≤ 3 := by unfold escB; split <;> simp
theorem esc_snoc (s : List UInt8) (i : Nat) (h : i < s.length) : (s.take (i + 1)).flatMap escB = (s.take i).flatMap escB ++ escB s[i] := by
 rw [List.take_succ_eq_append_getElem h, List.flatMap_append]; simp
theorem esc_all_len : ∀ s : List UInt8, (s.flatMap escB).length ≤ 3 * s.length
 | [] => Nat.le_refl _
 | c :: r => by
   have := esc_all_len r
   have := esc_len c
   rw [List.flatMap_cons, List.length_append, List.length_cons]; omega
def bE (l : List UInt8) : List (List V) := l.map fun x => [bV x]
theorem beL (l : List UInt8) : (bE l).length = l.length := List.length_map ..
theorem bE_app (a b : List UInt8) : bE (a ++ b) = bE a ++ bE b := List.map_append
theorem hexS : V.s 16 93405612720827812017303888595717861680 = sV hexL := rfl
def b9_1 : CC := (.reg [(qq a6 (.mv z0)), (qq a7 (.bi .eql z6 (.c (.s 0 0))))])
def w9_1 := wu b9_1.eq_1
def b9_2 : CC := (.seq (.reg [(qq a2 (.mv (.c (.s 1 37))))]) .ret)
def w9_2 := wu b9_2.eq_1
def b9_3 : CC := (.reg [(qq a8 (.mv z0)), (qq a9 (.ln .str z8)), (qq a10 (.mv (x6 0)))])
def w9_3 := wu b9_3.eq_1
def b9_4 : CC := (.reg [(qq a11 (.bi .lss z10 z9))])
def w9_4 := wu b9_4.eq_1
def b9_5 : CC := (.reg [(qq a12 (.mv z10)), (qq a4 (.mv z12))])
def w9_5 := wu b9_5.eq_1
def b9_6 : CC := (.reg [(qq a13 (.mv z0)), (qq a14 (.mv z4)), (qq a15 (.ixS z13 z14)), (qq a5 (.mv z15))])
def w9_6 := wu b9_6.eq_1
def b9_7 : CC := (.reg [(qq a16 (.mv z5)), (qq a17 (.bi .geq z16 (.c (.i .u8 33)))), (qq a18 (.mv z17)), ⟨(some a19), .q (.mv z5), (some (a18, true))⟩, ⟨(some a20), .q (.bi .leq z19 (.c (.i .u8 126))), (some (a18, true))⟩, (qq a21 (.pk z18 z20 xF)), (qq a22 (.mv z21)), ⟨(some a23), .q (.mv z5), (some (a22, true))⟩, ⟨(some a24), .q (.bi .neq z23 (.c (.i .u8 37))), (some (a22, true))⟩, (qq a25 (.pk z22 z24 xF))])
def w9_7 := wu b9_7.eq_1
def b9_8 : CC := (.reg [(qq a26 (.mv z3)), (qq a27 (.mv z5)), (aa a28 (.bsl 5 1 1 [(.i .u8 0)] [(0, z27)])), (ee a29 (.app 5 1 1 z26 z28)), (qq a3 (.mv z29))])
def w9_8 := wu b9_8.eq_1
def b9_9 : CC := (.dreg 10 [(0, 0, (qq a30 (.mv z3))), (1, 0, (qq a31 (.mv z5))), (2, 2, (qq a32 (.bi .shr z31 (.c (.i .u64 4))))), (3, 6, (qq a33 (.ixS (.c (.s 16 93405612720827812017303888595717861680)) z32))), (4, 0, (qq a34 (.mv z5))), (5, 16, (qq a35 (.bi .and z34 (.c (.i .u8 15))))), (6, 48, (qq a36 (.ixS (.c (.s 16 93405612720827812017303888595717861680)) z35))), (7, 126, (aa a37 (.bsl 5 3 1 [(.i .u8 0)] [(0, (.c (.i .u8 37))), (1, z33), (2, z36)]))), (8, 255, (ee a38 (.app 5 1 1 z30 z37))), (9, 511, (qq a3 (.mv z38)))])
def w9_9 := wu b9_9.eq_1
def b9_10 : CC := (.seq b9_6 (.seq b9_7 (.cond z25 b9_8 b9_9)))
def w9_10 := wu b9_10.eq_1
def b9_11 : CC := (.reg [(qq a39 (.bi .add z10 (x6 1))), (qq a10 (.mv z39))])
def w9_11 := wu b9_11.eq_1
def b9_12 : CC := (.seq (.cond z11 .skip (.exit 0)) (.seq (.block 1 (.seq b9_5 b9_10)) b9_11))
def w9_12 := wu b9_12.eq_1
def b9_13 : CC := (.reg [(qq a40 (.mv z3)), (qq a41 (.bs z40)), (qq a2 (.mv z41))])
def w9_13 := wu b9_13.eq_1
def b9_14 : CC := (.seq (.seq b9_3 (.block 0 (.loop (.seq b9_4 b9_12)))) (.seq b9_13 .ret))
def w9_14 := wu b9_14.eq_1
def b9_15 : CC := (.seq (.reg [(qq a3 (.mv (.c .l0)))]) b9_14)
def w9_15 := wu b9_15.eq_1
def b9_16 : CC := (.seq (.seq b9_1 (.cond z7 b9_2 .skip)) b9_15)
def w9_16 := wu b9_16.eq_1
def b9_17 : CC := (.seq (.reg [(qq a2 (.mv (.c (.s 0 0))))]) b9_16)
def w9_17 := wu b9_17.eq_1
def c9 : CF := .mk 6 [.t a2] b9_17
theorem e9 (v0 : V) : argTr 6 [v0] = (.n sk5 (some v0) sk5) := rfl
def B9 := ai @e9 (ai @w9_1 (ai @w9_2 (ai @w9_3 (ai @w9_4 (ai @w9_5 (ai @w9_6 (ai @w9_7 (ai @w9_8 (ai @w9_9 (ai @w9_10 (ai @w9_11 (ai @w9_12 (ai @w9_13 (ai @w9_14 (ai @w9_15 (ai @w9_16 (@w9_17)))))))))))))))))
theorem r9 (Φ : Nat → Option CF) (h : Φ 9 = some c9) {F : RO} {M : Mem} {c : Nat} (ok : Okm F M c) (s : List UInt8) (hs : s.length ≤ 1000000) :
  Calls Φ F 9 [sV s] M c fun r M' c' => r = sV (wordB s) ∧ Gr c M c' M' := by
 refine calls_walk h ?_
 have q0 : biV .eql (sV s) (.s 0 0) = some (.b (decide (s = []))) := bi_seq s []
 by_cases h0 : s = []
 · rw [decide_eq_true h0] at q0
   have e : V.s 1 37 = sV (wordB s) := by rw [h0]; rfl
   simp only [WX, Nat.reducePow, Nat.reduceDiv, Nat.reduceMod, Nat.reduceBEq, Nat.reduceEqDiff, Int.reduceEq, Int.reduceLT, Int.reduceLE, reduceIte, reduceCtorEq, Nat.reduceAdd, Nat.reduceLeDiff, wd_e1, B9, q0]
   exact ⟨e, Gr.refl ok⟩
 · rw [decide_eq_false h0] at q0
   simp only [WX, Nat.reducePow, Nat.reduceDiv, Nat.reduceMod, Nat.reduceBEq, Nat.reduceEqDiff, Int.reduceEq, Int.reduceLT, Int.reduceLE, reduceIte, reduceCtorEq, Nat.reduceAdd, Nat.reduceLeDiff, wd_e1, B9, q0, lnSs]
   obtain ⟨I1, hI1⟩ : ∃ I : Nat → St → Prop, ∀ n s', I n s' ↔ (∃ (i : Nat) (v : V) (M1 : Mem) (c1 b1 : Nat) (u : List (Option V)), n = s.length - i ∧ i ≤ s.length ∧ s' = .mk ((.n (.n (.n (uv7 u 31 15 47 7 39 23 55) (some (v)) (uv7 u 35 19 51 11 43 27 59)) (uO u 1) (.n (.n (uv3 u 33 17 49) (some (.i .i64 (s.length : Int))) (uv3 u 41 25 57)) (uO u 5) (uv7 u 37 21 53 13 45 29 61))) (some (sV s)) (.n (.n (uv7 u 32 16 48 8 40 24 56) (uO u 4) (uv7 u 36 20 52 12 44 28 60)) (uO u 2) (.n (.n (uv3 u 34 18 50) (some (.i .i64 (i : Int))) (uv3 u 42 26 58)) (uO u 6) (uv7 u 38 22 54 14 46 30 62))))) [] M1 c1 ∧ Gr c M c1 M1 ∧ AccAt M1 c c1 b1 5 1 v (bE ((s.take i).flatMap escB))) := ⟨fun n s' => _, fun _ _ => Iff.rfl⟩
   refine wp_while I1 ?_ s.length _ ((hI1 _ _).2 ⟨0, .l0, M, c, 0, [none, _, _, none, _, _, _, _, _, none, none, _, _, _, _, _, _, _, _, _, _, _, _, _, _, _, _, _, _, _, _, _, _, _, _, _, _, _, _, _, _, _, _, _, _, _, _, _, _, _, _, _, _, _, _, _, _, _, _, _, _, _, _], rfl, Nat.zero_le _, rfl, Gr.refl ok, AccAt.nil⟩)
   intro n s' hIs
   obtain ⟨i, v, M1, c1, b1, u, rfl, hi, rfl, gr1, hA⟩ := (hI1 _ _).1 hIs
   clear hIs
   have ok1 := gr1.ok ok
   have q8 : biV .add (.i .i64 (i : Int)) (.i .i64 1) = some (.i .i64 ((i + 1 : Nat) : Int)) := by rw [i64_add _ _ (by omega) (by omega)]; simp
   have hal := esc_all_len (s.take i)
   have htl : (s.take i).length ≤ s.length := by rw [List.length_take]; omega
   by_cases hlt : i < s.length
   · have d1 : decide ((i : Int) < (s.length : Int)) = true := decide_eq_true (by omega)
     have hix : ixSV (sV s) (.i .i64 (i : Int)) = some (.i .u8 ((s[i]).toNat : Int)) := ixSs s .i64 i hlt
     have hsn := esc_snoc s i hlt
     generalize s[i] = b0 at hix hsn
     have f1 : decide ((33 : Int) ≤ (b0.toNat : Int)) = decide (33 ≤ b0.toNat) := by congr 1; apply propext; omega
     have f2 : decide ((b0.toNat : Int) ≤ 126) = decide (b0.toNat ≤ 126) := by congr 1; apply propext; omega
     have f3 : decide ((b0.toNat : Int) ≠ 37) = decide (b0.toNat ≠ 37) := by congr 1; apply propext; omega
     by_cases hp : 33 ≤ b0.toNat ∧ b0.toNat ≤ 126 ∧ b0.toNat ≠ 37
     · rw [decide_eq_true hp.1] at f1; rw [decide_eq_true hp.2.1] at f2; rw [decide_eq_true hp.2.2] at f3
       simp only [WX, Nat.reducePow, Nat.reduceDiv, Nat.reduceMod, Nat.reduceBEq, Nat.reduceEqDiff, Int.reduceEq, Int.reduceLT, Int.reduceLE, reduceIte, reduceCtorEq, Nat.reduceAdd, Nat.reduceLeDiff, wd_e1, B9, d1, hix, f1, f2, f3]
       have he : escB b0 = [b0] := if_pos hp
       have grY := gr1.set c1 (rowD [V.i .u8 0] 5 [V.i .u8 (b0.toNat : Int)]) gr1.le (Nat.lt_succ_self _) (Nat.le_succ _)
       have hy : SlAt F (M1.set c1 (rowD [V.i .u8 0] 5 [V.i .u8 (b0.toNat : Int)])) (c1 + 1) 1 (.l c1 0 1 1) (bE [b0]) := slD (d := [V.i .u8 0]) (ty := 5) (by rw [get_same]; rfl) (by omega) (fun e he => by obtain ⟨x, _, rfl⟩ := List.mem_map.1 he; rfl) rfl
       refine putE_to ((appV_to (bytes := 1) (hA.up (show c1 ≤ c1 + 1 by omega) (fun hx => get_ne _ _ (by omega))) grY Nat.one_pos hy rfl (room_of (by rw [beL, beL, List.length_singleton]; omega) (by rw [beL, beL, List.length_singleton]; omega))).mono ?_)
       rintro v' M2 c2 ⟨b2, hA2, gr2, hle2, _, _⟩
       simp only [WX, Nat.reducePow, Nat.reduceDiv, Nat.reduceMod, Nat.reduceBEq, Nat.reduceEqDiff, Int.reduceEq, Int.reduceLT, Int.reduceLE, reduceIte, reduceCtorEq, Nat.reduceAdd, Nat.reduceLeDiff, wd_e1, B9, q8]
       refine ⟨s.length - (i + 1), by omega, (hI1 _ _).2 ⟨i + 1, v', M2, c2, b2, [none, _, _, none, _, _, _, _, _, none, none, _, _, _, _, _, _, _, _, _, _, _, _, _, _, _, _, _, _, _, _, _, _, _, _, _, _, _, _, _, _, _, _, _, _, _, _, _, _, _, _, _, _, _, _, _, _, _, _, _, _, _, _], rfl, by omega, rfl, gr2, ?_⟩⟩
       rw [hsn, he, bE_app]; exact hA2
     · have he : escB b0 = [37, hexB (b0.toNat / 16), hexB (b0.toNat % 16)] := if_neg hp
       have hb0 := UInt8.toNat_lt b0
       have x1 := ixHex .u8 (b0.toNat / 16) (by omega)
       have x2 := ixHex .u8 (b0.toNat % 16) (by omega)
       have x3 := u8_shr4 b0
       have x4 := u8_and15 b0
       rw [← hexS] at x1 x2
       have lk : (look F M1 (c1 + 7)).isNone = true := by rw [ok1.look (by omega)]; rfl
       have fb : ∀ x, flatten (bV x) = [bV x] := fun _ => rfl
       have ob : ∀ x, isOne (bV x) = true := fun _ => rfl
       have FIN : ∀ u, Wp b9_9 (K Φ none 9 F) (.mk ((.n (.n (.n (uv7 u 31 15 47 7 39 23 55) (some (v)) (uv7 u 35 19 51 11 43 27 59)) (uO u 1) (.n (.n (uv3 u 33 17 49) (some (.i .i64 (s.length : Int))) (uv3 u 41 25 57)) (some (.i .u8 (b0.toNat : Int))) (uv7 u 37 21 53 13 45 29 61))) (some (sV s)) (.n (.n (uv7 u 32 16 48 8 40 24 56) (uO u 4) (uv7 u 36 20 52 12 44 28 60)) (uO u 2) (.n (.n (uv3 u 34 18 50) (some (.i .i64 (i : Int))) (uv3 u 42 26 58)) (uO u 6) (uv7 u 38 22 54 14 46 30 62))))) [] M1 c1) (blockQ 1 (seqQ b9_11 (K Φ none 9 F) (roundQ I1 (s.length - i) (blockQ 0 (seqQ (.seq b9_13 .ret) (K Φ none 9 F) (endQ F [.t (.r .h)] fun r M' c' => r = sV (wordB s) ∧ Gr c M c' M')))))) := by
        intro u
        simp only [WX, Nat.reducePow, Nat.reduceDiv, Nat.reduceMod, Nat.reduceBEq, Nat.reduceEqDiff, Int.reduceEq, Int.reduceLT, Int.reduceLE, reduceIte, reduceCtorEq, Nat.reduceAdd, Nat.reduceLeDiff, wd_e1, B9, x1, x2, x3, x4, lk, wd_a, putDA, readFree_nil, wd_em, fb, ob]
        have grY := (gr1.up (c2 := c1 + 10) (by omega)).set (c2 := c1 + 10) (c1 + 7) (rowD [V.i .u8 0] 5 [V.i .u8 37, bV (hexB (b0.toNat / 16)), bV (hexB (b0.toNat % 16))]) (by have := gr1.le; omega) (by omega) (Nat.le_refl _)
        have hy : SlAt F (M1.set (c1 + 7) (rowD [V.i .u8 0] 5 [V.i .u8 37, bV (hexB (b0.toNat / 16)), bV (hexB (b0.toNat % 16))])) (c1 + 10) 1 (.l (c1 + 7) 0 3 3) (bE [37, hexB (b0.toNat / 16), hexB (b0.toNat % 16)]) := slD (d := [V.i .u8 0]) (ty := 5) (by rw [get_same]; rfl) (by omega) (fun e he => by obtain ⟨x, _, rfl⟩ := List.mem_map.1 he; rfl) rfl
        refine putDE_to ((appV_to (bytes := 1) (hA.up (show c1 ≤ c1 + 10 by omega) (fun hx => get_ne _ _ (by omega))) grY Nat.one_pos hy rfl (room_of (by rw [beL, beL]; simp only [List.length_cons, List.length_nil]; omega) (by rw [beL, beL]; simp only [List.length_cons, List.length_nil]; omega))).mono ?_)
        rintro v' M2 c2 ⟨b2, hA2, gr2, hle2, _, _⟩
        refine ⟨(gr2.ok ok).free, ?_⟩
        simp only [WX, Nat.reducePow, Nat.reduceDiv, Nat.reduceMod, Nat.reduceBEq, Nat.reduceEqDiff, Int.reduceEq, Int.reduceLT, Int.reduceLE, reduceIte, reduceCtorEq, Nat.reduceAdd, Nat.reduceLeDiff, wd_e1, B9, q8]
        refine ⟨s.length - (i + 1), by omega, (hI1 _ _).2 ⟨i + 1, v', M2, c2, b2, [none, _, _, none, _, _, _, _, _, none, none, _, _, _, _, _, _, _, _, _, _, _, _, _, _, _, _, _, _, _, _, _, _, _, _, _, _, _, _, _, _, _, _, _, _, _, _, _, _, _, _, _, _, _, _, _, _, _, _, _, _, _, _], rfl, by omega, rfl, gr2, ?_⟩⟩
        rw [hsn, he, bE_app]; exact hA2
       have hp' : decide (33 ≤ b0.toNat) = false ∨ (decide (33 ≤ b0.toNat) = true ∧ decide (b0.toNat ≤ 126) = false) ∨ (decide (33 ≤ b0.toNat) = true ∧ decide (b0.toNat ≤ 126) = true ∧ decide (b0.toNat ≠ 37) = false) := by
        by_cases g1 : 33 ≤ b0.toNat
        · by_cases g2 : b0.toNat ≤ 126
          · by_cases g3 : b0.toNat ≠ 37
            · exact absurd ⟨g1, g2, g3⟩ hp
            · exact .inr (.inr ⟨decide_eq_true g1, decide_eq_true g2, decide_eq_false g3⟩)
          · exact .inr (.inl ⟨decide_eq_true g1, decide_eq_false g2⟩)
        · exact .inl (decide_eq_false g1)
       rcases hp' with g1 | ⟨g1, g2⟩ | ⟨g1, g2, g3⟩
       · rw [g1] at f1
         simp only [WX, Nat.reducePow, Nat.reduceDiv, Nat.reduceMod, Nat.reduceBEq, Nat.reduceEqDiff, Int.reduceEq, Int.reduceLT, Int.reduceLE, reduceIte, reduceCtorEq, Nat.reduceAdd, Nat.reduceLeDiff, wd_e1, e9, w9_1, w9_2, w9_3, w9_4, w9_5, w9_6, w9_7, w9_8, w9_10, w9_11, w9_12, w9_13, w9_14, w9_15, w9_16, w9_17, d1, hix, f1]
         exact FIN [none, _, _, none, _, none, _, _, _, none, none, _, _, _, _, _, _, _, _, _, _, _, _, _, _, _, _, _, _, _, _, _, _, _, _, _, _, _, _, _, _, _, _, _, _, _, _, _, _, _, _, _, _, _, _, _, _, _, _, _, _, _, _]
       · rw [g1] at f1; rw [g2] at f2
         simp only [WX, Nat.reducePow, Nat.reduceDiv, Nat.reduceMod, Nat.reduceBEq, Nat.reduceEqDiff, Int.reduceEq, Int.reduceLT, Int.reduceLE, reduceIte, reduceCtorEq, Nat.reduceAdd, Nat.reduceLeDiff, wd_e1, e9, w9_1, w9_2, w9_3, w9_4, w9_5, w9_6, w9_7, w9_8, w9_10, w9_11, w9_12, w9_13, w9_14, w9_15, w9_16, w9_17, d1, hix, f1, f2]
         exact FIN [none, _, _, none, _, none, _, _, _, none, none, _, _, _, _, _, _, _, _, _, _, _, _, _, _, _, _, _, _, _, _, _, _, _, _, _, _, _, _, _, _, _, _, _, _, _, _, _, _, _, _, _, _, _, _, _, _, _, _, _, _, _, _]
       · rw [g1] at f1; rw [g2] at f2; rw [g3] at f3
         simp only [WX, Nat.reducePow, Nat.reduceDiv, Nat.reduceMod, Nat.reduceBEq, Nat.reduceEqDiff, Int.reduceEq, Int.reduceLT, Int.reduceLE, reduceIte, reduceCtorEq, Nat.reduceAdd, Nat.reduceLeDiff, wd_e1, e9, w9_1, w9_2, w9_3, w9_4, w9_5, w9_6, w9_7, w9_8, w9_10, w9_11, w9_12, w9_13, w9_14, w9_15, w9_16, w9_17, d1, hix, f1, f2, f3]
         exact FIN [none, _, _, none, _, none, _, _, _, none, none, _, _, _, _, _, _, _, _, _, _, _, _, _, _, _, _, _, _, _, _, _, _, _, _, _, _, _, _, _, _, _, _, _, _, _, _, _, _, _, _, _, _, _, _, _, _, _, _, _, _, _, _]
   · obtain rfl : i = s.length := by omega
     have d1 : decide ((s.length : Int) < (s.length : Int)) = false := decide_eq_false (by omega)
     rw [List.take_length] at hA
     have hsb : bsV F M1 v = some (sV (s.flatMap escB)) := bs_of hA.sl
     simp only [WX, Nat.reducePow, Nat.reduceDiv, Nat.reduceMod, Nat.reduceBEq, Nat.reduceEqDiff, Int.reduceEq, Int.reduceLT, Int.reduceLE, reduceIte, reduceCtorEq, Nat.reduceAdd, Nat.reduceLeDiff, wd_e1, B9, d1, hsb]
     have e : wordB s = s.flatMap escB := if_neg h0
     rw [e]
     exact ⟨rfl, gr1⟩
def b13_1 : CC := (.reg [(qq a5 (.mv z0)), (qq a6 (.bi .eql z5 (.c (.s 0 0))))])
def w13_1 := wu b13_1.eq_1
def b13_2 : CC := (.seq (.reg [(qq a2 (.mv (.c (.s 1 37))))]) .ret)
def w13_2 := wu b13_2.eq_1
def b13_3 : CC := (.reg [(qq a4 (.mv (x6 0)))])
def w13_3 := wu b13_3.eq_1
def b13_4 : CC := (.reg [(qq a7 (.mv z4)), (qq a8 (.mv z0)), (qq a9 (.ln .str z8)), (qq a10 (.bi .lss z7 z9))])
def w13_4 := wu b13_4.eq_1
def b13_5 : CC := (.reg [(qq a13 (.mv z0)), (qq a14 (.mv z4)), (qq a15 (.ixS z13 z14)), (qq a16 (.bi .geq z15 (.c (.i .u8 33)))), (qq a17 (.mv z16)), ⟨(some a18), .q (.mv z0), (some (a17, true))⟩, ⟨(some a19), .q (.mv z4), (some (a17, true))⟩, ⟨(some a20), .q (.ixS z18 z19), (some (a17, true))⟩, ⟨(some a21), .q (.bi .leq z20 (.c (.i .u8 126))), (some (a17, true))⟩, (qq a22 (.pk z17 z21 xF)), (qq a23 (.mv z22)), ⟨(some a24), .q (.mv z0), (some (a23, true))⟩, ⟨(some a25), .q (.mv z4), (some (a23, true))⟩, ⟨(some a26), .q (.ixS z24 z25), (some (a23, true))⟩, ⟨(some a27), .q (.bi .neq z26 (.c (.i .u8 37))), (some (a23, true))⟩, (qq a28 (.pk z23 z27 xF))])
def w13_5 := wu b13_5.eq_1
def b13_6 : CC := (.reg [(qq a29 (.mv z3)), (qq a30 (.mv z0)), (qq a31 (.mv z4)), (qq a32 (.ixS z30 z31)), (aa a33 (.bsl 5 1 1 [(.i .u8 0)] [(0, z32)])), (ee a34 (.app 5 1 1 z29 z33)), (qq a3 (.mv z34))])
def w13_6 := wu b13_6.eq_1
def b13_7 : CC := (.dreg 14 [(0, 0, (qq a35 (.mv z3))), (1, 0, (qq a36 (.mv z0))), (2, 0, (qq a37 (.mv z4))), (3, 6, (qq a38 (.ixS z36 z37))), (4, 14, (qq a39 (.bi .shr z38 (.c (.i .u64 4))))), (5, 30, (qq a40 (.ixS (.c (.s 16 93405612720827812017303888595717861680)) z39))), (6, 0, (qq a41 (.mv z0))), (7, 0, (qq a42 (.mv z4))), (8, 192, (qq a43 (.ixS z41 z42))), (9, 448, (qq a44 (.bi .and z43 (.c (.i .u8 15))))), (10, 960, (qq a45 (.ixS (.c (.s 16 93405612720827812017303888595717861680)) z44))), (11, 2046, (aa a46 (.bsl 5 3 1 [(.i .u8 0)] [(0, (.c (.i .u8 37))), (1, z40), (2, z45)]))), (12, 4095, (ee a47 (.app 5 1 1 z35 z46))), (13, 8191, (qq a3 (.mv z47)))])
def w13_7 := wu b13_7.eq_1
def b13_8 : CC := (.seq b13_5 (.cond z28 b13_6 b13_7))
def w13_8 := wu b13_8.eq_1
def b13_9 : CC := (.reg [(qq a11 (.mv z4)), (qq a12 (.bi .add z11 (x6 1))), (qq a4 (.mv z12))])
def w13_9 := wu b13_9.eq_1
def b13_10 : CC := (.seq (.seq b13_4 (.cond z10 .skip (.exit 0))) (.seq (.block 1 b13_8) b13_9))
def w13_10 := wu b13_10.eq_1
def b13_11 : CC := (.reg [(qq a48 (.mv z3)), (qq a49 (.bs z48)), (qq a2 (.mv z49))])
def w13_11 := wu b13_11.eq_1
def b13_12 : CC := (.seq (.seq b13_3 (.block 0 (.loop b13_10))) (.seq b13_11 .ret))
def w13_12 := wu b13_12.eq_1
def b13_13 : CC := (.seq (.reg [(qq a3 (.mv (.c .l0)))]) b13_12)
def w13_13 := wu b13_13.eq_1
def b13_14 : CC := (.seq (.seq b13_1 (.cond z6 b13_2 .skip)) b13_13)
def w13_14 := wu b13_14.eq_1
def b13_15 : CC := (.seq (.reg [(qq a2 (.mv (.c (.s 0 0))))]) b13_14)
def w13_15 := wu b13_15.eq_1
def c13 : CF := .mk 6 [.t a2] b13_15
theorem e13 (v0 : V) : argTr 6 [v0] = (.n sk5 (some v0) sk5) := rfl
def B13 := ai @e13 (ai @w13_1 (ai @w13_2 (ai @w13_3 (ai @w13_4 (ai @w13_5 (ai @w13_6 (ai @w13_7 (ai @w13_8 (ai @w13_9 (ai @w13_10 (ai @w13_11 (ai @w13_12 (ai @w13_13 (ai @w13_14 (@w13_15)))))))))))))))
theorem r13 (Φ : Nat → Option CF) (h : Φ 13 = some c13) {F : RO} {M : Mem} {c : Nat} (ok : Okm F M c) (s : List UInt8) (hs : s.length ≤ 1000000) :
  Calls Φ F 13 [sV s] M c fun r M' c' => r = sV (wordB s) ∧ Gr c M c' M' := by
 refine calls_walk h ?_
 have q0 : biV .eql (sV s) (.s 0 0) = some (.b (decide (s = []))) := bi_seq s []
 by_cases h0 : s = []
 · rw [decide_eq_true h0] at q0
   have e : V.s 1 37 = sV (wordB s) := by rw [h0]; rfl
   simp only [WX, Nat.reducePow, Nat.reduceDiv, Nat.reduceMod, Nat.reduceBEq, Nat.reduceEqDiff, Int.reduceEq, Int.reduceLT, Int.reduceLE, reduceIte, reduceCtorEq, Nat.reduceAdd, Nat.reduceLeDiff, wd_e1, B13, q0]
   exact ⟨e, Gr.refl ok⟩
 · rw [decide_eq_false h0] at q0
   simp only [WX, Nat.reducePow, Nat.reduceDiv, Nat.reduceMod, Nat.reduceBEq, Nat.reduceEqDiff, Int.reduceEq, Int.reduceLT, Int.reduceLE, reduceIte, reduceCtorEq, Nat.reduceAdd, Nat.reduceLeDiff, wd_e1, B13, q0]
   obtain ⟨I1, hI1⟩ : ∃ I : Nat → St → Prop, ∀ n s', I n s' ↔ (∃ (i : Nat) (v : V) (M1 : Mem) (c1 b1 : Nat) (u : List (Option V)), n = s.length - i ∧ i ≤ s.length ∧ s' = .mk ((.n (.n (.n (uv7 u 31 15 47 7 39 23 55) (some (v)) (uv7 u 35 19 51 11 43 27 59)) (uO u 1) (.n (uv7 u 33 17 49 9 41 25 57) (uO u 5) (uv7 u 37 21 53 13 45 29 61))) (some (sV s)) (.n (.n (uv7 u 32 16 48 8 40 24 56) (some (.i .i64 (i : Int))) (uv7 u 36 20 52 12 44 28 60)) (uO u 2) (.n (uv7 u 34 18 50 10 42 26 58) (uO u 6) (uv7 u 38 22 54 14 46 30 62))))) [] M1 c1 ∧ Gr c M c1 M1 ∧ AccAt M1 c c1 b1 5 1 v (bE ((s.take i).flatMap escB))) := ⟨fun n s' => _, fun _ _ => Iff.rfl⟩
   refine wp_while I1 ?_ s.length _ ((hI1 _ _).2 ⟨0, .l0, M, c, 0, [none, _, _, none, none, _, _, _, _, _, _, _, _, _, _, _, _, _, _, _, _, _, _, _, _, _, _, _, _, _, _, _, _, _, _, _, _, _, _, _, _, _, _, _, _, _, _, _, _, _, _, _, _, _, _, _, _, _, _, _, _, _, _], rfl, Nat.zero_le _, rfl, Gr.refl ok, AccAt.nil⟩)
   intro n s' hIs
   obtain ⟨i, v, M1, c1, b1, u, rfl, hi, rfl, gr1, hA⟩ := (hI1 _ _).1 hIs
   clear hIs
   have ok1 := gr1.ok ok
   have q8 : biV .add (.i .i64 (i : Int)) (.i .i64 1) = some (.i .i64 ((i + 1 : Nat) : Int)) := by rw [i64_add _ _ (by omega) (by omega)]; simp
   have hal := esc_all_len (s.take i)
   have htl : (s.take i).length ≤ s.length := by rw [List.length_take]; omega
   by_cases hlt : i < s.length
   · have d1 : decide ((i : Int) < (s.length : Int)) = true := decide_eq_true (by omega)
     have hix : ixSV (sV s) (.i .i64 (i : Int)) = some (.i .u8 ((s[i]).toNat : Int)) := ixSs s .i64 i hlt
     have hsn := esc_snoc s i hlt
     generalize s[i] = b0 at hix hsn
     have f1 : decide ((33 : Int) ≤ (b0.toNat : Int)) = decide (33 ≤ b0.toNat) := by congr 1; apply propext; omega
     have f2 : decide ((b0.toNat : Int) ≤ 126) = decide (b0.toNat ≤ 126) := by congr 1; apply propext; omega
     have f3 : decide ((b0.toNat : Int) ≠ 37) = decide (b0.toNat ≠ 37) := by congr 1; apply propext; omega
     by_cases hp : 33 ≤ b0.toNat ∧ b0.toNat ≤ 126 ∧ b0.toNat ≠ 37
     · rw [decide_eq_true hp.1] at f1; rw [decide_eq_true hp.2.1] at f2; rw [decide_eq_true hp.2.2] at f3
       simp only [WX, Nat.reducePow, Nat.reduceDiv, Nat.reduceMod, Nat.reduceBEq, Nat.reduceEqDiff, Int.reduceEq, Int.reduceLT, Int.reduceLE, reduceIte, reduceCtorEq, Nat.reduceAdd, Nat.reduceLeDiff, wd_e1, B13, lnSs, d1, hix, f1, f2, f3]
       have he : escB b0 = [b0] := if_pos hp
       have grY := gr1.set c1 (rowD [V.i .u8 0] 5 [V.i .u8 (b0.toNat : Int)]) gr1.le (Nat.lt_succ_self _) (Nat.le_succ _)
       have hy : SlAt F (M1.set c1 (rowD [V.i .u8 0] 5 [V.i .u8 (b0.toNat : Int)])) (c1 + 1) 1 (.l c1 0 1 1) (bE [b0]) := slD (d := [V.i .u8 0]) (ty := 5) (by rw [get_same]; rfl) (by omega) (fun e he => by obtain ⟨x, _, rfl⟩ := List.mem_map.1 he; rfl) rfl
       refine putE_to ((appV_to (bytes := 1) (hA.up (show c1 ≤ c1 + 1 by omega) (fun hx => get_ne _ _ (by omega))) grY Nat.one_pos hy rfl (room_of (by rw [beL, beL, List.length_singleton]; omega) (by rw [beL, beL, List.length_singleton]; omega))).mono ?_)
       rintro v' M2 c2 ⟨b2, hA2, gr2, hle2, _, _⟩
       simp only [WX, Nat.reducePow, Nat.reduceDiv, Nat.reduceMod, Nat.reduceBEq, Nat.reduceEqDiff, Int.reduceEq, Int.reduceLT, Int.reduceLE, reduceIte, reduceCtorEq, Nat.reduceAdd, Nat.reduceLeDiff, wd_e1, B13, q8]
       refine ⟨s.length - (i + 1), by omega, (hI1 _ _).2 ⟨i + 1, v', M2, c2, b2, [none, _, _, none, none, _, _, _, _, _, _, _, _, _, _, _, _, _, _, _, _, _, _, _, _, _, _, _, _, _, _, _, _, _, _, _, _, _, _, _, _, _, _, _, _, _, _, _, _, _, _, _, _, _, _, _, _, _, _, _, _, _, _], rfl, by omega, rfl, gr2, ?_⟩⟩
       rw [hsn, he, bE_app]; exact hA2
     · have he : escB b0 = [37, hexB (b0.toNat / 16), hexB (b0.toNat % 16)] := if_neg hp
       have hb0 := UInt8.toNat_lt b0
       have x1 := ixHex .u8 (b0.toNat / 16) (by omega)
       have x2 := ixHex .u8 (b0.toNat % 16) (by omega)
       have x3 := u8_shr4 b0
       have x4 := u8_and15 b0
       rw [← hexS] at x1 x2
       have lk : (look F M1 (c1 + 11)).isNone = true := by rw [ok1.look (by omega)]; rfl
       have fb : ∀ x, flatten (bV x) = [bV x] := fun _ => rfl
       have ob : ∀ x, isOne (bV x) = true := fun _ => rfl
       have FIN : ∀ u, Wp b13_7 (K Φ none 13 F) (.mk ((.n (.n (.n (uv7 u 31 15 47 7 39 23 55) (some (v)) (uv7 u 35 19 51 11 43 27 59)) (uO u 1) (.n (uv7 u 33 17 49 9 41 25 57) (uO u 5) (uv7 u 37 21 53 13 45 29 61))) (some (sV s)) (.n (.n (uv7 u 32 16 48 8 40 24 56) (some (.i .i64 (i : Int))) (uv7 u 36 20 52 12 44 28 60)) (uO u 2) (.n (uv7 u 34 18 50 10 42 26 58) (uO u 6) (uv7 u 38 22 54 14 46 30 62))))) [] M1 c1) (blockQ 1 (seqQ b13_9 (K Φ none 13 F) (roundQ I1 (s.length - i) (blockQ 0 (seqQ (.seq b13_11 .ret) (K Φ none 13 F) (endQ F [.t (.r .h)] fun r M' c' => r = sV (wordB s) ∧ Gr c M c' M')))))) := by
        intro u
        simp only [WX, Nat.reducePow, Nat.reduceDiv, Nat.reduceMod, Nat.reduceBEq, Nat.reduceEqDiff, Int.reduceEq, Int.reduceLT, Int.reduceLE, reduceIte, reduceCtorEq, Nat.reduceAdd, Nat.reduceLeDiff, wd_e1, B13, hix, x1, x2, x3, x4, lk, wd_a, putDA, readFree_nil, wd_em, fb, ob]
        have grY := (gr1.up (c2 := c1 + 14) (by omega)).set (c2 := c1 + 14) (c1 + 11) (rowD [V.i .u8 0] 5 [V.i .u8 37, bV (hexB (b0.toNat / 16)), bV (hexB (b0.toNat % 16))]) (by have := gr1.le; omega) (by omega) (Nat.le_refl _)
        have hy : SlAt F (M1.set (c1 + 11) (rowD [V.i .u8 0] 5 [V.i .u8 37, bV (hexB (b0.toNat / 16)), bV (hexB (b0.toNat % 16))])) (c1 + 14) 1 (.l (c1 + 11) 0 3 3) (bE [37, hexB (b0.toNat / 16), hexB (b0.toNat % 16)]) := slD (d := [V.i .u8 0]) (ty := 5) (by rw [get_same]; rfl) (by omega) (fun e he => by obtain ⟨x, _, rfl⟩ := List.mem_map.1 he; rfl) rfl
        refine putDE_to ((appV_to (bytes := 1) (hA.up (show c1 ≤ c1 + 14 by omega) (fun hx => get_ne _ _ (by omega))) grY Nat.one_pos hy rfl (room_of (by rw [beL, beL]; simp only [List.length_cons, List.length_nil]; omega) (by rw [beL, beL]; simp only [List.length_cons, List.length_nil]; omega))).mono ?_)
        rintro v' M2 c2 ⟨b2, hA2, gr2, hle2, _, _⟩
        refine ⟨(gr2.ok ok).free, ?_⟩
        simp only [WX, Nat.reducePow, Nat.reduceDiv, Nat.reduceMod, Nat.reduceBEq, Nat.reduceEqDiff, Int.reduceEq, Int.reduceLT, Int.reduceLE, reduceIte, reduceCtorEq, Nat.reduceAdd, Nat.reduceLeDiff, wd_e1, B13, q8]
        refine ⟨s.length - (i + 1), by omega, (hI1 _ _).2 ⟨i + 1, v', M2, c2, b2, [none, _, _, none, none, _, _, _, _, _, _, _, _, _, _, _, _, _, _, _, _, _, _, _, _, _, _, _, _, _, _, _, _, _, _, _, _, _, _, _, _, _, _, _, _, _, _, _, _, _, _, _, _, _, _, _, _, _, _, _, _, _, _], rfl, by omega, rfl, gr2, ?_⟩⟩
        rw [hsn, he, bE_app]; exact hA2
       have hp' : decide (33 ≤ b0.toNat) = false ∨ (decide (33 ≤ b0.toNat) = true ∧ decide (b0.toNat ≤ 126) = false) ∨ (decide (33 ≤ b0.toNat) = true ∧ decide (b0.toNat ≤ 126) = true ∧ decide (b0.toNat ≠ 37) = false) := by
        by_cases g1 : 33 ≤ b0.toNat
        · by_cases g2 : b0.toNat ≤ 126
          · by_cases g3 : b0.toNat ≠ 37
            · exact absurd ⟨g1, g2, g3⟩ hp
            · exact .inr (.inr ⟨decide_eq_true g1, decide_eq_true g2, decide_eq_false g3⟩)
          · exact .inr (.inl ⟨decide_eq_true g1, decide_eq_false g2⟩)
        · exact .inl (decide_eq_false g1)
       rcases hp' with g1 | ⟨g1, g2⟩ | ⟨g1, g2, g3⟩
       · rw [g1] at f1
         simp only [WX, Nat.reducePow, Nat.reduceDiv, Nat.reduceMod, Nat.reduceBEq, Nat.reduceEqDiff, Int.reduceEq, Int.reduceLT, Int.reduceLE, reduceIte, reduceCtorEq, Nat.reduceAdd, Nat.reduceLeDiff, wd_e1, e13, w13_1, w13_2, w13_3, w13_4, w13_5, w13_6, w13_8, w13_9, w13_10, w13_11, w13_12, w13_13, w13_14, w13_15, lnSs, d1, hix, f1]
         exact FIN [none, _, _, none, none, _, _, _, _, _, _, _, _, _, _, _, _, _, _, _, _, _, _, _, _, _, _, _, _, _, _, _, _, _, _, _, _, _, _, _, _, _, _, _, _, _, _, _, _, _, _, _, _, _, _, _, _, _, _, _, _, _, _]
       · rw [g1] at f1; rw [g2] at f2
         simp only [WX, Nat.reducePow, Nat.reduceDiv, Nat.reduceMod, Nat.reduceBEq, Nat.reduceEqDiff, Int.reduceEq, Int.reduceLT, Int.reduceLE, reduceIte, reduceCtorEq, Nat.reduceAdd, Nat.reduceLeDiff, wd_e1, e13, w13_1, w13_2, w13_3, w13_4, w13_5, w13_6, w13_8, w13_9, w13_10, w13_11, w13_12, w13_13, w13_14, w13_15, lnSs, d1, hix, f1, f2]
         exact FIN [none, _, _, none, none, _, _, _, _, _, _, _, _, _, _, _, _, _, _, _, _, _, _, _, _, _, _, _, _, _, _, _, _, _, _, _, _, _, _, _, _, _, _, _, _, _, _, _, _, _, _, _, _, _, _, _, _, _, _, _, _, _, _]
       · rw [g1] at f1; rw [g2] at f2; rw [g3] at f3
         simp only [WX, Nat.reducePow, Nat.reduceDiv, Nat.reduceMod, Nat.reduceBEq, Nat.reduceEqDiff, Int.reduceEq, Int.reduceLT, Int.reduceLE, reduceIte, reduceCtorEq, Nat.reduceAdd, Nat.reduceLeDiff, wd_e1, e13, w13_1, w13_2, w13_3, w13_4, w13_5, w13_6, w13_8, w13_9, w13_10, w13_11, w13_12, w13_13, w13_14, w13_15, lnSs, d1, hix, f1, f2, f3]
         exact FIN [none, _, _, none, none, _, _, _, _, _, _, _, _, _, _, _, _, _, _, _, _, _, _, _, _, _, _, _, _, _, _, _, _, _, _, _, _, _, _, _, _, _, _, _, _, _, _, _, _, _, _, _, _, _, _, _, _, _, _, _, _, _, _]
   · obtain rfl : i = s.length := by omega
     have d1 : decide ((s.length : Int) < (s.length : Int)) = false := decide_eq_false (by omega)
     rw [List.take_length] at hA
     have hsb : bsV F M1 v = some (sV (s.flatMap escB)) := bs_of hA.sl
     simp only [WX, Nat.reducePow, Nat.reduceDiv, Nat.reduceMod, Nat.reduceBEq, Nat.reduceEqDiff, Int.reduceEq, Int.reduceLT, Int.reduceLE, reduceIte, reduceCtorEq, Nat.reduceAdd, Nat.reduceLeDiff, wd_e1, B13, lnSs, d1, hsb]
     have e : wordB s = s.flatMap escB := if_neg h0
     rw [e]
     exact ⟨rfl, gr1⟩
def b65_1 : CC := (.reg [(qq a3 (.mv z0)), (qq a4 (.bi .or z3 (.c (.i .u8 32)))), (qq a2 (.mv z4))])
def b65_2 : CC := (.seq (.reg [(qq a2 (.mv (.c (.i .u8 0))))]) (.seq b65_1 .ret))
def c65 : CF := .mk 3 [.t a2] b65_2
theorem e65 (v0 : V) : argTr 3 [v0] = (.n sk2 (some v0) sk2) := rfl
def B65 := ai @e65 (ai (wu b65_1.eq_1) (wu b65_2.eq_1))
theorem v_mki {F : RO} (ty : Nat) (x : X) (M : Mem) (t : T) : (qop (.mki ty x) F M t).val = some (.a ty (x.ev t)) := Eq.trans rfl (Eq.refl _)
theorem isOne_a (t : Nat) (v : V) : isOne (.a t v) = true := Eq.trans rfl (Eq.refl _)
theorem flatten_a (t : Nat) (v : V) : flatten (.a t v) = [.a t v] := Eq.trans rfl (Eq.refl _)
theorem eqV_if0 {F : RO} (M : Mem) : eqV F M .iface true .a0 .a0 = some true := Eq.trans rfl (Eq.refl _)
theorem eqV_ifa {F : RO} (M : Mem) (lit : Bool) (t : Nat) (v : V) : eqV F M .iface lit (.a t v) .a0 = some false := Eq.trans rfl (Eq.refl _)
theorem eqV_ifs {F : RO} (M : Mem) (lit : Bool) (t : Nat) (L : List Nat) (k : IntKind) (x y : Int) (h : memN t L = true) : eqV F M (.ifs L) lit (.a t (.i k x)) (.a t (.i k y)) = some (decide (x = y)) := by
 show eqIf L (.a t (.i k x)) (.a t (.i k y)) = _
 show (bif Nat.beq t t then (bif memN t L then eqN (.i k x) (.i k y) else none) else some false) = _
 rw [Nat.beq_refl, h]
 show eqN (.i k x) (.i k y) = _
 simp [eqN, sameK_iff, eqI_iff]
def rowSb (ty : Nat) (l : List UInt8) : Blk := .cells ty l.length false 0 true [] (rowT (l.map bV))
def sbA (ty : Nat) (x : V) (b : Nat) : Option (V × Blk) := aop (.sb ty (.c x)) b .e
theorem a_sb_w (ty : Nat) (x : X) (b : Nat) (t : T) : aop (.sb ty x) b t = sbA ty (x.ev t) b := Eq.trans rfl (Eq.refl _)
theorem sbA_s (ty : Nat) (l : List UInt8) (b : Nat) : sbA ty (sV l) b = some (.u b 0 l.length 0 l.length, rowSb ty l) := by
 show some (V.u b 0 l.length 0 l.length, Blk.cells ty l.length false 0 true [] (listTr (byteCells l.length (strN l)) 0 .e)) = _
 rw [byteCells_s]; rfl
theorem slB_sb {F : RO} {M : Mem} {b c ty : Nat} {l : List UInt8} (h : M.get b = some (rowSb ty l)) (hb : b < c) : SlB F M c (.u b 0 l.length 0 l.length) l := by
 have e1 : (l.map fun x => [bV x]).length = l.length := List.length_map ..
 refine ⟨fun e he => by obtain ⟨x, _, rfl⟩ := List.mem_map.1 he; rfl, .inr ⟨b, 0, .inr ⟨0, l.length, by rw [e1]; omega, by rw [e1]⟩, hb, ?_⟩⟩
 rw [flat_bytes]
 refine (rowAt_cells (ty := ty) (fz := 0) (ex := false) (str := true) ?_).cells
 rw [List.length_map]; exact h
theorem t65 (Φ : Nat → Option CF) (h : Φ 65 = some c65) (b : UInt8) (ct : Nat) : To Φ 65 [bV b] ct (bV (b ||| 32)) := by
 refine to_walk h ?_
 have : biV .or (bV b) (.i .u8 32) = some (bV (b ||| 32)) := by
  show biV .or (.i .u8 (b.toNat : Int)) (.i .u8 32) = some (.i .u8 ((b ||| 32).toNat : Int))
  have hb := UInt8.toNat_lt b
  have hlt : b.toNat ||| 32 < 256 := Nat.or_lt_two_pow (n := 8) hb (by decide)
  rw [bi_or, show toU .u8 (b.toNat : Int) = b.toNat by show ((b.toNat : Int) % 256).toNat = _; omega, show toU .u8 32 = 32 from rfl, wrap_u8, UInt8.toNat_or]
  congr 2
  show ((b.toNat ||| 32 : Nat) : Int) % 256 = _
  rw [show (32 : UInt8).toNat = 32 from rfl]
  omega
 simp only [WX, Nat.reducePow, Nat.reduceDiv, Nat.reduceMod, Nat.reduceBEq, Nat.reduceEqDiff, Int.reduceEq, Int.reduceLT, Int.reduceLE, reduceIte, reduceCtorEq, Nat.reduceAdd, Nat.reduceLeDiff, wd_e1, B65, this]
def h65 : List V → Option V
 | [v] => (asB v).bind fun b => some (bV (b ||| 32))
 | _ => none
theorem h65_eq (b : UInt8) : h65 [bV b] = some (bV (b ||| 32)) := by
 show (asB (bV b)).bind (fun b => some (bV (b ||| 32))) = _
 rw [asB_b, Option.bind_some]
def ErrN (e : V) : Prop := e = .a0 ∨ e = .a 127 (.i .i64 1) ∨ e = .a 127 (.i .i64 2)
def b55_1 : CC := (.reg [(qq a2 (.mv z0)), (qq a3 (.nck z2)), (qq a4 (.fa 0 z3)), (qq a5 (.ld1 z4)), (qq a6 (.eq false .ptr true z5 (.c .p0)))])
def b55_2 : CC := (.reg [(qq a7 (.mv z0)), (qq a8 (.mv z0)), (qq a9 (.up z8)), (qq a10 (.mv z9)), (qq a11 (.dn 86 2 z10)), (qq a12 (.nck z7)), (qq a13 (.fa 0 z12)), (ez (.st 1 z13 z11))])
def b55_3 : CC := (.reg [(qq a14 (.mv z0)), (qq a15 (.nck z14)), (qq a16 (.fa 0 z15)), (qq a17 (.ld1 z16)), (qq a18 (.mv z0)), (qq a19 (.eq true .ptr false z17 z18))])
def b55_4 : CC := (.cond z6 b55_2 (.seq b55_3 (.cond z19 .bad .skip)))
def c55 : CF := .mk 5 [] (.seq b55_1 b55_4)
def b94_1 : CC := (.dreg 16 [(0, 0, (qq a5 (.mv z0))), (1, 1, (qq a6 (.nck z5))), (2, 3, (qq a7 (.fa 1 z6))), (3, 7, (qq a8 (.ld1 z7))), (4, 15, (qq a9 (.cp z8))), (5, 31, (qq a10 (.bi .mul (x6 2) z9))), (6, 0, (qq a11 (.mv z1))), (7, 127, (qq a12 (.bi .add z10 z11))), (8, 255, (aa a13 (.nz 5 z12))), (9, 0, (qq a14 (.mv z0))), (10, 512, (qq a15 (.nck z14))), (11, 1536, (qq a16 (.fa 1 z15))), (12, 3584, (qq a17 (.ld1 z16))), (13, 7680, (qq a18 (.ln .slice z17))), (14, 16383, (qq a19 (.slL 1 z13 none (some z18) none))), (15, 32767, (qq a4 (.mv z19)))])
def b94_2 : CC := (.reg [(qq a20 (.mv z4)), (qq a21 (.mv z0)), (qq a22 (.nck z21)), (qq a23 (.fa 1 z22)), (qq a24 (.ld1 z23)), (ee a25 (.cpy 1 z20 z24))])
def b94_3 : CC := (.reg [(qq a26 (.mv z0)), (qq a27 (.mv z4)), (qq a28 (.nck z26)), (qq a29 (.fa 1 z28)), (ez (.st 1 z29 z27))])
def c94 : CF := .mk 5 [] (.seq b94_1 (.seq b94_2 b94_3))
def b56_1 : CC := (.reg [(qq a4 (.mv z0)), (ee a5 (.call 55 [z4]))])
def b56_2 : CC := (.reg [(qq a6 (.mv z1)), (qq a7 (.bi .lss z6 (x6 0)))])
def b56_3 : CC := (.reg [(qq a8 (.mki 9 (.c (.s 36 226187813140227768008177986391742176399534891738691412630441701833056540972817830802547)))), ⟨none, .q (.bad), none⟩])
def b56_4 : CC := (.dreg 13 [(0, 0, (qq a9 (.mv z0))), (1, 1, (qq a10 (.nck z9))), (2, 3, (qq a11 (.fa 1 z10))), (3, 7, (qq a12 (.ld1 z11))), (4, 15, (qq a13 (.cp z12))), (5, 0, (qq a14 (.mv z0))), (6, 32, (qq a15 (.nck z14))), (7, 96, (qq a16 (.fa 1 z15))), (8, 224, (qq a17 (.ld1 z16))), (9, 480, (qq a18 (.ln .slice z17))), (10, 1023, (qq a19 (.bi .sub z13 z18))), (11, 0, (qq a20 (.mv z1))), (12, 4095, (qq a21 (.bi .lss z19 z20)))])
def b56_5 : CC := (.reg [(qq a22 (.mv z0)), (qq a23 (.mv z1)), (ee a24 (.call 94 [z22, z23]))])
def b56_6 : CC := (.seq b56_4 (.cond z21 b56_5 .skip))
def b56_7 : CC := (.seq (.seq b56_2 (.cond z7 b56_3 .skip)) b56_6)
def c56 : CF := .mk 5 [] (.seq b56_1 b56_7)
def b32_1 : CC := (.reg [(qq a4 (.mv (x6 0))), (qq a5 (.mv (.c .a0)))])
def b32_2 : CC := (.reg [(qq a6 (.mv z0)), (ee a7 (.call 55 [z6]))])
def b32_3 : CC := (.reg [(qq a8 (.mv z0)), (qq a9 (.mv z0)), (qq a10 (.nck z9)), (qq a11 (.fa 1 z10)), (qq a12 (.ld1 z11)), (qq a13 (.mv z1)), (ee a14 (.app 5 1 1 z12 z13)), (qq a15 (.nck z8)), (qq a16 (.fa 1 z15)), (ez (.st 1 z16 z14))])
def b32_4 : CC := (.reg [(qq a17 (.mv z1)), (qq a18 (.ln .str z17)), (qq a4 (.mv z18)), (qq a5 (.mv (.c .a0)))])
def c32 : CF := .mk 5 [.t a4, .t a5] (.seq b32_1 (.seq b32_2 (.seq b32_3 (.seq b32_4 .ret))))
def b38_1 : CC := (.dreg 12 [(0, 0, (qq a3 (.mv z0))), (1, 1, (qq a4 (.nck z3))), (2, 3, (qq a5 (.fa 1 z4))), (3, 7, (qq a6 (.ld1 z5))), (4, 15, (qq a7 (.sd z6))), (5, 0, (qq a8 (.mv z0))), (6, 32, (qq a9 (.nck z8))), (7, 96, (qq a10 (.fa 1 z9))), (8, 224, (qq a11 (.ld1 z10))), (9, 480, (qq a12 (.ln .slice z11))), (10, 1023, (ee a13 (.us 5 z7 z12))), (11, 2047, (qq a2 (.mv z13)))])
def b38_2 : CC := (.seq (.reg [(qq a2 (.mv (.c (.s 0 0))))]) (.seq b38_1 .ret))
def c38 : CF := .mk 4 [.t a2] b38_2
def BldAt (M : Mem) (c0 c b bb : Nat) (l : List UInt8) : Prop :=
 c0 ≤ b ∧ b < c ∧ b ≠ bb ∧ ∃ a v, M.get b = some (rowB 86 [a, v]) ∧ (a = .p0 ∨ a = .p b 0) ∧ BufAt M c0 c bb v l
theorem BldAt.up {M M' : Mem} {c0 c c' b bb : Nat} {l : List UInt8} (h : BldAt M c0 c b bb l) (hc : c ≤ c') (hb : ∀ x, x < c → M'.get x = M.get x) : BldAt M' c0 c' b bb l := by
 obtain ⟨h1, h2, h1003, a, v, h1004, h1005, h1006⟩ := h
 exact ⟨h1, by omega, h1003, a, v, by rw [hb b h2]; exact h1004, h1005, h1006.up hc (hb bb)⟩
def usE (F : RO) (M : Mem) (c ty : Nat) (x n : V) : RC := e_us ty (.c x) (.c n) F M c .e
theorem x_us_eq {Φ : Nat → Option CF} {rd : Option Nat} {fn : Nat} {F : RO} (ty : Nat) (x n : X) (M : Mem) (c : Nat) (t : T) : doE (.us ty x n) (K Φ rd fn F) M c t = usE F M c ty (x.ev t) (n.ev t) := Eq.trans rfl (Eq.refl _)
end
end Go.Proofs.YtlhcbcdiffldbaaGreatDoor.Ev
