/- What is proved here: pieces of the evaluator's soundness: if the evaluator comes to a value, the model's run comes to it, for every world and tape; no conditions beyond the hypotheses of each theorem. -/
import Derived.Test.YtaogopbhjinmoaaGreatDoorEv9
set_option linter.unusedSimpArgs false
set_option linter.unusedVariables false
set_option linter.defProp false
namespace Go.Proofs.YtaogopbhjinmoaaGreatDoor.Ev
open Go
noncomputable section
def beqB (a b : Bool) : Bool := bif a then b else !b
mutual
def veq : V → V → Bool
  | .b x, w => match w with | .b y => beqB x y | _ => false
  | .i k n, w => match w with | .i j m => sameK k j && eqI n m | _ => false
  | .s n x, w => match w with | .s m y => Nat.beq n m && Nat.beq x y | _ => false
  | .p b o, w => match w with | .p b' o' => Nat.beq b b' && Nat.beq o o' | _ => false
  | .p0, w => match w with | .p0 => true | _ => false
  | .l b o n k, w => match w with | .l b' o' n' k' => (Nat.beq b b' && Nat.beq o o') && (Nat.beq n n' && Nat.beq k k') | _ => false
  | .u b o n e k, w => match w with | .u b' o' n' e' k' => (Nat.beq b b' && Nat.beq o o') && (Nat.beq n n' && (Nat.beq e e' && Nat.beq k k')) | _ => false
  | .ue b o n, w => match w with | .ue b' o' n' => Nat.beq b b' && (Nat.beq o o' && Nat.beq n n') | _ => false
  | .l0, w => match w with | .l0 => true | _ => false
  | .m b, w => match w with | .m b' => Nat.beq b b' | _ => false
  | .m0, w => match w with | .m0 => true | _ => false
  | .f f a d, w => match w with | .f f' a' d' => Nat.beq f f' && (vseq a a' && vseq d d') | _ => false
  | .y b, w => match w with | .y b' => Nat.beq b b' | _ => false
  | .f0, w => match w with | .f0 => true | _ => false
  | .a t v, w => match w with | .a t' v' => Nat.beq t t' && veq v v' | _ => false
  | .a0, w => match w with | .a0 => true | _ => false
  | .g l, w => match w with | .g l' => vseq l l' | _ => false
  | .t l, w => match w with | .t l' => vseq l l' | _ => false
def vseq : List V → List V → Bool
  | [], w => match w with | [] => true | _ => false
  | x :: r, w => match w with | y :: r' => veq x y && vseq r r' | [] => false
end
theorem beqB_eq {a b : Bool} (h : beqB a b = true) : a = b := by cases a <;> cases b <;> first | rfl | cases h
theorem nbeq {a b : Nat} (h : Nat.beq a b = true) : a = b := Nat.eq_of_beq_eq_true h
theorem an2 {a b : Bool} (h : (a && b) = true) : a = true ∧ b = true := by simpa using h
mutual
theorem veq_eq : ∀ a b : V, veq a b = true → a = b
  | .b x, w, h => by
    rw [veq.eq_def] at h
    dsimp only at h
    split at h
    · rw [beqB_eq h]
    · cases h
  | .i k n, w, h => by
    rw [veq.eq_def] at h
    dsimp only at h
    split at h
    · obtain ⟨h1, h2⟩ := an2 h
      rw [sameK_iff] at h1
      rw [eqI_iff] at h2
      rw [of_decide_eq_true h1, of_decide_eq_true h2]
    · cases h
  | .s n x, w, h => by
    rw [veq.eq_def] at h
    dsimp only at h
    split at h
    · obtain ⟨h1, h2⟩ := an2 h
      rw [nbeq h1, nbeq h2]
    · cases h
  | .p n x, w, h => by
    rw [veq.eq_def] at h
    dsimp only at h
    split at h
    · obtain ⟨h1, h2⟩ := an2 h
      rw [nbeq h1, nbeq h2]
    · cases h
  | .p0, w, h => by
    rw [veq.eq_def] at h
    dsimp only at h
    split at h
    · rfl
    · cases h
  | .l b o n k, w, h => by
    rw [veq.eq_def] at h
    dsimp only at h
    split at h
    · obtain ⟨h1, h2⟩ := an2 h
      obtain ⟨h3, h4⟩ := an2 h1
      obtain ⟨h5, h6⟩ := an2 h2
      rw [nbeq h3, nbeq h4, nbeq h5, nbeq h6]
    · cases h
  | .u b o n e k, w, h => by
    rw [veq.eq_def] at h
    dsimp only at h
    split at h
    · obtain ⟨h1, h2⟩ := an2 h
      obtain ⟨h3, h4⟩ := an2 h1
      obtain ⟨h5, h6⟩ := an2 h2
      obtain ⟨h7, h8⟩ := an2 h6
      rw [nbeq h3, nbeq h4, nbeq h5, nbeq h7, nbeq h8]
    · cases h
  | .ue b o n, w, h => by
    rw [veq.eq_def] at h
    dsimp only at h
    split at h
    · obtain ⟨h1, h2⟩ := an2 h
      obtain ⟨h3, h4⟩ := an2 h2
      rw [nbeq h1, nbeq h3, nbeq h4]
    · cases h
  | .l0, w, h => by
    rw [veq.eq_def] at h
    dsimp only at h
    split at h
    · rfl
    · cases h
  | .m b, w, h => by
    rw [veq.eq_def] at h
    dsimp only at h
    split at h
    · rw [nbeq h]
    · cases h
  | .m0, w, h => by
    rw [veq.eq_def] at h
    dsimp only at h
    split at h
    · rfl
    · cases h
  | .f f a d, w, h => by
    rw [veq.eq_def] at h
    dsimp only at h
    split at h
    · obtain ⟨h1, h2⟩ := an2 h
      obtain ⟨h3, h4⟩ := an2 h2
      rw [nbeq h1, vseq_eq _ _ h3, vseq_eq _ _ h4]
    · cases h
  | .y b, w, h => by
    rw [veq.eq_def] at h
    dsimp only at h
    split at h
    · rw [nbeq h]
    · cases h
  | .f0, w, h => by
    rw [veq.eq_def] at h
    dsimp only at h
    split at h
    · rfl
    · cases h
  | .a t v, w, h => by
    rw [veq.eq_def] at h
    dsimp only at h
    split at h
    · obtain ⟨h1, h2⟩ := an2 h
      rw [nbeq h1, veq_eq _ _ h2]
    · cases h
  | .a0, w, h => by
    rw [veq.eq_def] at h
    dsimp only at h
    split at h
    · rfl
    · cases h
  | .g l, w, h => by
    rw [veq.eq_def] at h
    dsimp only at h
    split at h
    · rw [vseq_eq _ _ h]
    · cases h
  | .t l, w, h => by
    rw [veq.eq_def] at h
    dsimp only at h
    split at h
    · rw [vseq_eq _ _ h]
    · cases h
theorem vseq_eq : ∀ a b : List V, vseq a b = true → a = b
  | [], w, h => by
    rw [vseq.eq_def] at h
    dsimp only at h
    split at h
    · rfl
    · cases h
  | x :: r, w, h => by
    rw [vseq.eq_def] at h
    dsimp only at h
    split at h
    · obtain ⟨h1, h2⟩ := an2 h
      rw [veq_eq _ _ h1, vseq_eq _ _ h2]
    · cases h
end
def oveq : Option V → Option V → Bool
  | none, none => true
  | some x, some y => veq x y
  | _, _ => false
theorem oveq_eq {a b : Option V} (h : oveq a b = true) : a = b := by
  cases a <;> cases b <;> first | rfl | cases h | exact congrArg some (veq_eq _ _ h)
def treq : T → T → Bool
  | .e, w => match w with | .e => true | _ => false
  | .n l v r, w => match w with | .n l' v' r' => oveq v v' && (treq l l' && treq r r') | _ => false
theorem treq_eq : ∀ a b : T, treq a b = true → a = b
  | .e, w, h => by
    rw [treq.eq_def] at h
    dsimp only at h
    split at h
    · rfl
    · cases h
  | .n l v r, w, h => by
    rw [treq.eq_def] at h
    dsimp only at h
    split at h
    · obtain ⟨h1, h2⟩ := an2 h
      obtain ⟨h3, h4⟩ := an2 h2
      rw [oveq_eq h1, treq_eq _ _ h3, treq_eq _ _ h4]
    · cases h
def eseq : List (V × V × Nat) → List (V × V × Nat) → Bool
  | [], w => match w with | [] => true | _ => false
  | x :: r, w => match w with | y :: r' => (veq x.1 y.1 && (veq x.2.1 y.2.1 && Nat.beq x.2.2 y.2.2)) && eseq r r' | [] => false
theorem eseq_eq : ∀ a b, eseq a b = true → a = b
  | [], w, h => by
    rw [eseq.eq_def] at h
    dsimp only at h
    split at h
    · rfl
    · cases h
  | (x1, x2, x3) :: r, w, h => by
    rw [eseq.eq_def] at h
    dsimp only at h
    split at h
    · rename_i y r'
      obtain ⟨y1, y2, y3⟩ := y
      obtain ⟨h1, h2⟩ := an2 h
      obtain ⟨h3, h4⟩ := an2 h1
      obtain ⟨h5, h6⟩ := an2 h4
      have a1 : x1 = y1 := veq_eq _ _ h3
      have a2 : x2 = y2 := veq_eq _ _ h5
      have a3 : x3 = y3 := nbeq h6
      rw [a1, a2, a3, eseq_eq _ _ h2]
    · cases h
def bkeq : Blk → Blk → Bool
  | .cells ty n ex fz str d t, w => match w with | .cells ty' n' ex' fz' str' d' t' => (Nat.beq ty ty' && Nat.beq n n') && ((beqB ex ex' && Nat.beq fz fz') && (beqB str str' && (vseq d d' && treq t t'))) | _ => false
  | .map es k, w => match w with | .map es' k' => Nat.beq k k' && eseq es es' | _ => false
  | _, _ => false
theorem bkeq_eq {a b : Blk} (h : bkeq a b = true) : a = b := by
  cases a with
  | cells ty n ex fz str d t =>
    cases b with
    | cells ty' n' ex' fz' str' d' t' =>
      obtain ⟨h1, h2⟩ := an2 (show ((Nat.beq ty ty' && Nat.beq n n') && ((beqB ex ex' && Nat.beq fz fz') && (beqB str str' && (vseq d d' && treq t t')))) = true from h)
      obtain ⟨h3, h4⟩ := an2 h1
      obtain ⟨h5, h6⟩ := an2 h2
      obtain ⟨h7, h8⟩ := an2 h5
      obtain ⟨h9, h10⟩ := an2 h6
      obtain ⟨h11, h12⟩ := an2 h10
      rw [nbeq h3, nbeq h4, beqB_eq h7, nbeq h8, beqB_eq h9, vseq_eq _ _ h11, treq_eq _ _ h12]
    | _ => cases h
  | map es k =>
    cases b with
    | map es' k' =>
      obtain ⟨h1, h2⟩ := an2 (show (Nat.beq k k' && eseq es es') = true from h)
      rw [nbeq h1, eseq_eq _ _ h2]
    | _ => cases h
  | _ => cases h
structure Snap where
  c : Nat
  args : List V
  m0 : List (Nat × Blk)
  v : V
  m1 : List (Nat × Blk)
  c1 : Nat
def obk (o : Option Blk) (blk : Blk) : Bool := match o with
  | some x => bkeq x blk
  | none => false
theorem obk_eq {o : Option Blk} {blk : Blk} (h : obk o blk = true) : o = some blk := by
  cases o with
  | none => cases h
  | some x => exact congrArg some (bkeq_eq h)
def holds (M : Mem) : List (Nat × Blk) → Bool
  | [] => true
  | (b, blk) :: r => obk (M.get b) blk && holds M r
theorem holds_mem {M : Mem} : ∀ {l : List (Nat × Blk)}, holds M l = true → ∀ b blk, (b, blk) ∈ l → M.get b = some blk
  | [], h, b, blk, hm => by cases hm
  | (b', blk') :: r, h, b, blk, hm => by
    obtain ⟨h1, h2⟩ := an2 (show (obk (M.get b') blk' && holds M r) = true from h)
    rcases List.mem_cons.1 hm with e | e
    · injection e with e1 e2
      subst e1 e2
      exact obk_eq h1
    · exact holds_mem h2 b blk e
def setAll (M : Mem) : List (Nat × Blk) → Mem
  | [] => M
  | (b, blk) :: r => (M.set b blk).force fun M => setAll M r
theorem setAll_get : ∀ (l : List (Nat × Blk)) (M : Mem) (b : Nat) (blk : Blk), (setAll M l).get b = some blk → (b, blk) ∈ l ∨ (M.get b = some blk ∧ ∀ x ∈ l, x.1 ≠ b)
  | [], M, b, blk, h => .inr ⟨h, fun x hx => by cases hx⟩
  | (b', blk') :: r, M, b, blk, h => by
    have h' : (setAll (M.set b' blk') r).get b = some blk := by
      have e : setAll M ((b', blk') :: r) = (M.set b' blk').force fun M => setAll M r := rfl
      rw [e, Tr.force_eq] at h; exact h
    rcases setAll_get r _ b blk h' with h1 | ⟨h1, h2⟩
    · exact .inl (List.mem_cons_of_mem _ h1)
    · rw [Tr.get_set] at h1
      by_cases e : b = b'
      · subst e
        rw [if_pos rfl] at h1
        obtain rfl := Option.some.inj h1
        exact .inl (List.mem_cons_self ..)
      · rw [if_neg e] at h1
        exact .inr ⟨h1, fun x hx => by
          rcases List.mem_cons.1 hx with rfl | hx
          · exact fun e' => e e'.symm
          · exact h2 x hx⟩
def snGo (s : Snap) (args : List V) (M : Mem) : RC := bif vseq s.args args && holds M s.m0 then (setAll M s.m1).force fun M => .k s.v M s.c1 else .f
def snF (c : Nat) (args : List V) (M : Mem) : List Snap → RC
  | [] => .f
  | s :: r => bif Nat.beq s.c c then snGo s args M else snF c args M r
def snO (L : List Snap) (_ : RO) (args : List V) (M : Mem) (c : Nat) : RC := snF c args M L
theorem snF_some {c : Nat} {args : List V} {M N : Mem} {v : V} {ct' : Nat} : ∀ {L : List Snap}, snF c args M L = .k v N ct' → ∃ s ∈ L, s.c = c ∧ snGo s args M = .k v N ct'
  | s :: r, h => by
    have h' : (bif Nat.beq s.c c then snGo s args M else snF c args M r) = .k v N ct' := h
    cases hx : Nat.beq s.c c with
    | true => rw [hx, cond_true] at h'; exact ⟨s, List.mem_cons_self .., nbeq hx, h'⟩
    | false =>
      rw [hx, cond_false] at h'
      obtain ⟨y, hy, e⟩ := snF_some h'
      exact ⟨y, List.mem_cons_of_mem _ hy, e⟩
end
end Go.Proofs.YtaogopbhjinmoaaGreatDoor.Ev
namespace Go.Proofs.YtaogopbhjinmoaaGreatDoor.Ev
open Go
section
variable {P : Program} {Φ : Nat → Option CF} {rd : Option Nat} {fn nt : Nat} {F : RO}
def Sat (P : Program) (rd : Option Nat) (nt : Nat) (F : RO) (code : Code) (t : T) (d : List Nat) (M : Mem) (ct : Nat) (Q : Ex → T → List Nat → Mem → Nat → Prop) : Prop :=
  ∀ (Bd : List Deferred) (E : Env) (c : Nat → Prop) (w : World) (a : Act), SR P Bd F rd nt E c w a t d M ct →
    ∀ Qm : Exit → Act → World → Prop, (∀ e t' d' M' ct', Q e t' d' M' ct' → ∀ a' w', Res P Bd F rd nt E c w M ct t' d' M' ct' a' w' → Qm (exOf e) a' w') → code.wpIn (fence E rd) 0 P Qm a w
theorem Sat.mono {code : Code} {t : T} {d : List Nat} {M : Mem} {ct : Nat} {Q Q' : Ex → T → List Nat → Mem → Nat → Prop} (h : Sat P rd nt F code t d M ct Q) (hQ : ∀ e t' d' M' ct', Q e t' d' M' ct' → Q' e t' d' M' ct') : Sat P rd nt F code t d M ct Q' :=
  fun Bd E c w a hS Qm hm => h Bd E c w a hS Qm fun e t' d' M' ct' hq => hm e t' d' M' ct' (hQ _ _ _ _ _ hq)
theorem Sat.of_den (hm : P.follows .mixedOrders = true) (hΦ : PhiOk P Φ) {code : Code} {cc : CC} (hs : Sim P nt code cc) {t : T} {d : List Nat} {M : Mem} {ct : Nat} {Q : Ex → T → List Nat → Mem → Nat → Prop}
    {e : Ex} {t' : T} {d' : List Nat} {M' : Mem} {ct' : Nat} (h : den Φ rd fn F cc (.mk t d M ct) = .k e (.mk t' d' M' ct')) (hq : Q e t' d' M' ct') : Sat P rd nt F code t d M ct Q := by
  intro Bd E c w a hS Qm hQ
  exact den_ok hm hΦ rd fn F cc t d M ct e t' d' M' ct' h nt code hs E c w a hS Qm fun a' w' hr => hQ e t' d' M' ct' hq a' w' hr
theorem Sat.seq {x y : Code} {t : T} {d : List Nat} {M : Mem} {ct : Nat} {Q1 Q : Ex → T → List Nat → Mem → Nat → Prop} (h1 : Sat P rd nt F x t d M ct Q1)
    (h2 : ∀ t1 d1 M1 c1, Q1 .nrm t1 d1 M1 c1 → Sat P rd nt F y t1 d1 M1 c1 Q) (h3 : ∀ e t1 d1 M1 c1, e ≠ .nrm → Q1 e t1 d1 M1 c1 → Q e t1 d1 M1 c1) : Sat P rd nt F (.seq x y) t d M ct Q := by
  intro Bd E c w a hS Qm hQ
  refine wpIn_seq ?_
  refine h1 Bd E c w a hS _ ?_
  intro e t1 d1 M1 c1 hq a1 w1 hr
  by_cases he : e = .nrm
  · subst he
    obtain ⟨E1, k1, hS1, hG1, hR1⟩ := hr
    show y.wpIn (fence E rd) 0 P Qm a1 w1
    rw [← fence_ext hS1.ext hS.rd]
    exact h2 t1 d1 M1 c1 hq Bd E1 k1 w1 a1 hR1 Qm fun e2 t2 d2 M2 c2 hq2 a2 w2 hr2 => hQ e2 t2 d2 M2 c2 hq2 a2 w2 (hr2.trans hS1 hG1)
  · exact then_of_ne he (hQ e t1 d1 M1 c1 (h3 e t1 d1 M1 c1 he hq) a1 w1 hr)
def inBlk (id : Nat) : Ex → Ex
  | .ext i => if i = id then .nrm else .ext i
  | e => e
theorem inBlk_ok {id : Nat} {e : Ex} {Q : Exit → Act → World → Prop} {a : Act} {w : World} (h : Q (exOf (inBlk id e)) a w) : Exit.inBlock id Q (exOf e) a w := by
  cases e with
  | ext i =>
    simp only [exOf, Exit.inBlock]
    by_cases hi : i = id
    · have e : inBlk id (.ext i) = .nrm := if_pos hi
      rw [e] at h; rw [if_pos hi]; exact h
    · have e : inBlk id (.ext i) = .ext i := if_neg hi
      rw [e] at h; rw [if_neg hi]; exact h
  | nrm => exact h
  | ret => exact h
  | gto l => exact h
theorem Sat.block {id : Nat} {x : Code} {t : T} {d : List Nat} {M : Mem} {ct : Nat} {Q : Ex → T → List Nat → Mem → Nat → Prop} (h : Sat P rd nt F x t d M ct fun e => Q (inBlk id e)) : Sat P rd nt F (.block id x) t d M ct Q := by
  intro Bd E c w a hS Qm hQ
  exact wpIn_block (h Bd E c w a hS _ fun e t1 d1 M1 c1 hq a1 w1 hr => inBlk_ok (hQ _ t1 d1 M1 c1 hq a1 w1 hr))
theorem nextM_any {w : World} {ty r m : Nat} {esr : List MapEntry} {clock since st : Nat} {seen : List Nat} (hr : w.heap[r]? = some (.mapIter (some m) since seen.toArray st)) (hm : w.heap[m]? = some (.map esr.toArray clock))
    (hold : ∀ e ∈ esr, e.born < since) (hst : since ≤ st) :
    (esr.filter (fun e => !seen.contains e.born) = [] → (Instr.next (.pointer (some ⟨r, 0, none⟩)) false ty).run P w = .ok (.tuple #[.bool false]) w) ∧
    (esr.filter (fun e => !seen.contains e.born) ≠ [] → ∃ e ∈ esr.filter (fun e => !seen.contains e.born), ∃ w0 : World, (w0 = w ∨ w0 = w.drew) ∧ (Instr.next (.pointer (some ⟨r, 0, none⟩)) false ty).run P w = .ok (.tuple #[.bool true, e.key, e.val]) { w0 with heap := w.heap.setIfInBounds r (.mapIter (some m) since (seen.toArray.push e.born) clock) }) := by
  have hgo := run_getObj_other (P := P) hr (by intros; simp)
  have hgm := run_getObj_map (P := P) hm
  have hc : (!seen.toArray.isEmpty && !esr.toArray.isEmpty && esr.toArray.all (fun e => decide (e.born ≥ st))) = false := by
    cases esr with
    | nil => simp
    | cons h0 r0 =>
      have := hold h0 (by simp)
      simp
      intro _ h1; omega
  generalize hl : esr.filter (fun e => !seen.contains e.born) = left
  have hleft : esr.toArray.filter (fun e => !seen.toArray.contains e.born) = left.toArray := by
    rw [List.filter_toArray', ← hl]
    · simp
    · simp
  have hlold : ∀ e ∈ left, e.born < since := by
    intro e he
    rw [← hl] at he
    exact hold e (List.mem_filter.1 he).1
  have h1 : left.toArray.filter (fun e => decide (e.born < since)) = left.toArray := by
    rw [List.filter_toArray' (by simp)]
    congr 1
    exact List.filter_eq_self.2 fun e he => by simpa using hlold e he
  have h2 : left.toArray.filter (fun e => decide (e.born ≥ since)) = #[] := by
    rw [List.filter_toArray' (by simp)]
    rw [List.filter_eq_nil_iff.2]
    intro e he; have := hlold e he; simp; omega
  constructor
  · intro e0
    subst e0
    simp only [Instr.next, Sem.run_bind, hgo, hgm, Result.andThen_ok, hc, Bool.false_eq_true, if_false, Sem.run_ite, Sem.run_pure, hleft, h1, h2]
    simp [Question.forced]
  · intro hne
    have hnil : left.toArray.isEmpty = false := by cases left with
      | nil => exact absurd rfl hne
      | cons _ _ => rfl
    have hcand : ((if left.toArray.isEmpty = true then #[none] else #[]) ++ (left.toArray ++ #[]).map some : Array (Option MapEntry)) = (left.map some).toArray := by
      rw [hnil]; simp
    have hsz : ((left.map some).toArray : Array (Option MapEntry)).size = left.length := by simp
    have hpos : 0 < left.length := List.length_pos_iff.2 hne
    have hnx : ∀ w : World, (Instr.next (.pointer (some ⟨r, 0, none⟩)) false ty).run P w = (Instr.next (.pointer (some ⟨r, 0, none⟩)) false ty).run P w := fun _ => rfl
    simp only [Instr.next, Sem.run_bind, hgo, hgm, Result.andThen_ok, hc, Bool.false_eq_true, if_false, Sem.run_ite, Sem.run_pure, hleft, h1, h2, hcand, hsz]
    have hch : ∃ k w0, k < left.length ∧ (w0 = w ∨ w0 = w.drew) ∧ (choose (.mapNext left.length)).run P w = .ok k w0 := by
      by_cases h1 : left.length ≤ 1
      · refine ⟨0, w, hpos, .inl rfl, ?_⟩
        show (if Question.forced (.mapNext left.length) = true then _ else _) = _
        rw [if_pos (by simpa [Question.forced] using h1)]
        rfl
      · refine ⟨(Question.mapNext left.length).cut (w.tape w.drawn (.mapNext left.length)), w.drew, Nat.mod_lt _ hpos, .inr rfl, ?_⟩
        show (if Question.forced (.mapNext left.length) = true then _ else _) = _
        rw [if_neg (by simpa [Question.forced] using h1)]
        rfl
    obtain ⟨k, w0, hk, hw0, hrun⟩ := hch
    have hheap : w0.heap = w.heap := by rcases hw0 with rfl | rfl <;> rfl
    refine ⟨left[k], List.getElem_mem hk, w0, hw0, ?_⟩
    rw [hrun, Result.andThen_ok]
    have hget : (List.map some left).toArray[k]? = some (some left[k]) := by simp [hk]
    have hso := run_setObj (P := P) (w := w0) (o' := .mapIter (some m) since (seen.toArray.push left[k].born) clock) (by rw [hheap]; exact hr) (by intros; simp)
    rw [hget]
    simp only [Sem.run_bind, hso, Result.andThen_ok, Sem.run_pure]
    rw [hheap]
theorem leftE_map (E : Env) (seen : List Nat) (es : List (V × V × Nat)) : (es.map (entry E)).filter (fun e => !seen.contains e.born) = (leftE seen es).map (entry E) := by
  rw [leftE_eq, List.filter_map]; rfl
theorem Sat.mapNextL (hm : P.follows .mixedOrders = true) (hΦ : PhiOk P Φ) {id : Nat} {ops : Array Oper} {o1 : Oper} {l : List Oper} (hops : ops.toList = o1 :: l) {y : Operand} (hop : o1.op = .next y false) {x : X} (hx : compX y = some x) {n1 : Nat} (hd1 : o1.dst = some n1) (hg1 : o1.guard = none) (hn1 : n1 < nt)
    {cos : List CO} (hc2 : compOs P nt ops l = some cos) {t : T} {d : List Nat} {M : Mem} {ct : Nat} {b m since st clock : Nat} {seen : List Nat} {es : List (V × V × Nat)} (hit : x.ev t = .p b 0) (hM : M.get b = some (.miter (some m) since seen st)) (hmap : look F M m = some (.map es clock))
    (hold : allOld since es = true) (hst : since ≤ st) {Q : Ex → T → List Nat → Mem → Nat → Prop}
    (stop : leftE seen es = [] → ∃ t' d' M' ct', seqOps cos (.mk Φ (den Φ) rd fn F) (.mk (t.setP (posOf n1) (.t [.b false])) d M ct) = some (.mk t' d' M' ct') ∧ Q .nrm t' d' M' ct')
    (go : ∀ e ∈ leftE seen es, ∃ t' d' M' ct', seqOps cos (.mk Φ (den Φ) rd fn F) (.mk (t.setP (posOf n1) (.t [.b true, e.1, e.2.1])) d (M.set b (.miter (some m) since (seen ++ [e.2.2]) clock)) ct) = some (.mk t' d' M' ct') ∧ Q .nrm t' d' M' ct') :
    Sat P rd nt F (.region id ops false) t d M ct Q := by
  intro Bd E c w a hS Qm hQ
  have hcall := callOk_of hΦ (den_ok hm hΦ) rd fn F
  have hy := yieldOk_of (Φ := Φ) (den_ok hm hΦ) rd fn F
  refine wpIn_region ?_
  have hsz : ops.size = l.length + 1 := by
    have := congrArg List.length hops
    simpa using this
  have h0 : ops[0]? = some o1 := by
    have : ops.toList[0]? = some o1 := by rw [hops]; rfl
    simpa using this
  rw [hsz, List.range_eq_range', List.range'_succ]
  have hwt : Region.wanted o1 (yielded ops a.tmps) = true := by unfold Region.wanted; rw [hg1]
  simp only [wpOpsIn.eq_2, h0, hwt, if_true]
  refine ⟨fun _ _ => trivial, ?_⟩
  rw [Oper.semAt_eq _ _ _ (fun cl => by rw [hop]; intro h; cases h)]
  have e := hS.cx.ev hx
  rw [hit] at e
  obtain ⟨_, hbb, ob, hob, hβ, rfl⟩ := hS.cx.rel.has _ _ (look_some_M hM)
  have hpt : a.eval y = .pointer (some ⟨E.ρ b, 0, none⟩) := by rw [e.1]; simp [conc, hβ]
  obtain ⟨ho, hbd⟩ := hS.cx.map hmap
  have hold0 := allOld_iff since es hold
  have hold' : ∀ e ∈ es.map (entry E), e.born < since := by
    intro e' he'
    obtain ⟨e0, h0, rfl⟩ := List.mem_map.1 he'
    exact hold0 e0 h0
  have key := nextM_any (P := P) (ty := o1.type) hob ho hold' hst
  rw [leftE_map] at key
  have tail : ∀ (E1 : Env) (c1 : Nat → Prop) (w1 : World) (a1 : Act) (t1 : T) (M1 : Mem), SR P Bd F rd nt E1 c1 w1 a1 t1 d M1 ct → fence E1 rd = fence E rd → Stp P F E M c w E1 M1 c1 w1 → Grow c ct c1 ct → (∃ t' d' M' ct', seqOps cos (.mk Φ (den Φ) rd fn F) (.mk t1 d M1 ct) = some (.mk t' d' M' ct') ∧ Q .nrm t' d' M' ct') →
      wpOpsIn (fence E rd) 0 P ops (fun e a w => Qm e a w) (List.range' (0 + 1) l.length) a1 w1 := by
    rintro E1 c1 w1 a1 t1 M1 hS1 hfe hSt hGr ⟨t', d', M', ct', hs, hq⟩
    have := seq_ok (F := F) (rd := rd) (nt := nt) hcall hy (ops := ops) (Q := fun e a w => Qm e a w) l cos 1 E1 c1 w1 a1 t1 M1 ct (by rw [hops]; rfl) hc2 (by
      have : knF (.mk Φ (den Φ) rd fn F) F = .mk Φ (den Φ) rd fn F := rfl
      rw [this]; exact hs) hS1 fun a' w' hr => hQ .nrm t' d' M' ct' hq a' w' (hr.trans hSt hGr)
    rw [hfe] at this
    exact this
  by_cases hle : leftE seen es = []
  · have hrun := key.1 (by rw [hle]; rfl)
    have hex : (execOp a.eval o1).run P w = .ok (.value (.tuple #[.bool false])) w := by
      simp only [execOp, hop]
      refine val_run ?_
      rw [hpt]; exact hrun
    rw [hex, Oper.uponIn_value, hd1]
    refine tail E c w _ (t.setP (posOf n1) (.t [.b false])) M ?_ rfl (.refl hS.cx.rel) (.refl _ _) (stop hle)
    exact hS.put (dst := some n1) (by simpa [dstOk] using hn1) (v := .t [.b false]) (by simp [conc, concs]) ⟨trivial, trivial⟩
  · obtain ⟨e1, he1, w0, hw0, hrun⟩ := key.2 (by simpa using hle)
    obtain ⟨e0, he0, rfl⟩ := List.mem_map.1 he1
    have hin : e0 ∈ es := by
      rw [leftE_eq] at he0
      exact (List.mem_filter.1 he0).1
    have hex : (execOp a.eval o1).run P w = .ok (.value (.tuple #[.bool true, conc E e0.1, conc E e0.2.1])) { w0 with heap := w.heap.setIfInBounds (E.ρ b) (.mapIter (some (E.ρ m)) since (seen.toArray.push e0.2.2) clock) } := by
      simp only [execOp, hop]
      refine val_run ?_
      rw [hpt]; exact hrun
    have hSt : Stp P F E M c w E (M.set b (.miter (some m) since (seen ++ [e0.2.2]) clock)) c { w0 with heap := w.heap.setIfInBounds (E.ρ b) (.mapIter (some (E.ρ m)) since (seen.toArray.push e0.2.2) clock) } :=
      hS.cx.rel.write b _ (.miter (some m) since (seen ++ [e0.2.2]) clock) hM (.mapIter (some (E.ρ m)) since (seen.toArray.push e0.2.2) clock) hbb _ rfl (by rcases hw0 with rfl | rfl <;> rfl) (by rcases hw0 with rfl | rfl <;> rfl) (by rcases hw0 with rfl | rfl <;> rfl) ⟨hβ, by simp⟩
    rw [hex, Oper.uponIn_value, hd1]
    refine tail E c _ _ (t.setP (posOf n1) (.t [.b true, e0.1, e0.2.1])) (M.set b (.miter (some m) since (seen ++ [e0.2.2]) clock)) ?_ rfl hSt (.refl _ _) (go e0 he0)
    exact (hS.stp hSt (.refl _ _)).put (dst := some n1) (by simpa [dstOk] using hn1) (v := .t [.b true, e0.1, e0.2.1]) (by simp [conc, concs]) ⟨trivial, (hbd _ hin).1, (hbd _ hin).2, trivial⟩
end
end Go.Proofs.YtaogopbhjinmoaaGreatDoor.Ev
namespace Go.Proofs.YtaogopbhjinmoaaGreatDoor.Ev
open Go
noncomputable section
def oneS : Option St → Option (List (Ex × St))
  | some s => some [(.nrm, s)]
  | none => none
def allS : List (Option St) → Option (List (Ex × St))
  | [] => some []
  | o :: r => match o, allS r with
    | some s, some l => some ((.nrm, s) :: l)
    | _, _ => none
def nxE (r : List CO) (k : Kn) (p1 : Pos) (t : T) (d : List Nat) (M : Mem) (c b m since clock : Nat) (seen : List Nat) : List (V × V × Nat) → List (Option St)
  | [] => []
  | e :: l => seqOps r k (.mk (t.setP p1 (.t [.b true, e.1, e.2.1])) d (M.set b (.miter (some m) since (seen ++ [e.2.2]) clock)) c) :: nxE r k p1 t d M c b m since clock seen l
def nxL (r : List CO) (k : Kn) (p1 : Pos) (t : T) (d : List Nat) (M : Mem) (c b m since clock : Nat) (seen : List Nat) : List (V × V × Nat) → Option (List (Ex × St))
  | [] => oneS (seqOps r k (.mk (t.setP p1 (.t [.b false])) d M c))
  | e :: l => allS (nxE r k p1 t d M c b m since clock seen (e :: l))
def nxB (r : List CO) (k : Kn) (F : RO) (p1 : Pos) (t : T) (d : List Nat) (M : Mem) (c b : Nat) : Option Blk → Option (List (Ex × St))
  | some (.miter (some m) since seen st) => asMap (look F M m) none fun es clock => bif allOld since es && Nat.ble since st then nxL r k p1 t d M c b m since clock seen (leftE seen es) else none
  | _ => none
def nxR (r : List CO) (k : Kn) (F : RO) (p1 : Pos) (x : X) (t : T) (d : List Nat) (M : Mem) (c : Nat) : Option (List (Ex × St)) :=
  match x.ev t with
  | .p b 0 => nxB r k F p1 t d M c b (M.get b)
  | _ => none
def oneR : Rs → Option (List (Ex × St))
  | .k e s => some [(e, s)]
  | .f => none
def bindL (f : St → Option (List (Ex × St))) : List (Ex × St) → Option (List (Ex × St))
  | [] => some []
  | (e, s) :: r => match e with
    | .nrm => match f s, bindL f r with
      | some l, some l' => some (l ++ l')
      | _, _ => none
    | e => match bindL f r with
      | some l => some ((e, s) :: l)
      | none => none
def blkL (id : Nat) : List (Ex × St) → List (Ex × St)
  | [] => []
  | (e, s) :: r => (match e with
    | .ext i => bif Nat.beq i id then .nrm else .ext i
    | e => e, s) :: blkL id r
def bind1 (f : List (Ex × St) → Option (List (Ex × St))) : Option (List (Ex × St)) → Option (List (Ex × St))
  | some l => f l
  | none => none
def map1 (f : List (Ex × St) → List (Ex × St)) : Option (List (Ex × St)) → Option (List (Ex × St))
  | some l => some (f l)
  | none => none
def ndx (Φ : Nat → Option CF) (fuel fn : Nat) (F : RO) : Nat → CC → St → Option (List (Ex × St))
  | 0, _, _ => none
  | n + 1, c, s => match c with
    | .seq a b => bind1 (bindL fun s => ndx Φ fuel fn F n b s) (ndx Φ fuel fn F n a s)
    | .block id b => map1 (blkL id) (ndx Φ fuel fn F n b s)
    | .loop b => bind1 (bindL fun s => ndx Φ fuel fn F n (.loop b) s) (ndx Φ fuel fn F n b s)
    | .reg (⟨some p1, .e (.nxm x), none⟩ :: r) => match s with
      | .mk t d M c => nxR r (.mk Φ (exec Φ fuel) none fn F) F p1 x t d M c
    | c => oneR (exec Φ fuel none fn F c s)
end
section
variable {P : Program} {Φ : Nat → Option CF} {rd : Option Nat} {fn nt : Nat} {F : RO}
theorem sim_seq {code : Code} {a b : CC} (h : Sim P nt code (.seq a b)) : ∃ x y, code = .seq x y ∧ Sim P nt x a ∧ Sim P nt y b := by
  obtain ⟨n, h⟩ := h
  cases n with
  | zero => cases h
  | succ n =>
    unfold compC at h
    cases code with
    | seq x y =>
      dsimp only at h
      split at h
      · rename_i a' b' h1 h2
        have h' := Option.some.inj h
        injection h' with e1 e2
        subst e1 e2
        exact ⟨x, y, rfl, ⟨n, h1⟩, ⟨n, h2⟩⟩
      · cases h
    | region id ops dr =>
      cases dr with
      | false => obtain ⟨z, _, e⟩ := Option.map_eq_some_iff.1 h; cases e
      | true =>
        dsimp only at h
        split at h
        · rename_i cos hcos
          have h' := Option.some.inj h
          unfold dregC dregD at h'
          have hb : ∀ (b : Bool) (x y : CC), (bif b then x else y) = x ∨ (bif b then x else y) = y := by intro b; cases b <;> simp
          rcases hb (regOk ops.toList (Region.before ops).toList ops.size (canon (Region.before ops).toList cos ops.size 0)) (.dreg ops.size (canon (Region.before ops).toList cos ops.size 0)) .bad with hh | hh
          · rw [hh] at h'; cases h'
          · rw [hh] at h'; cases h'
        · cases h
    | skip => cases h
    | label l => cases h
    | cond o x y => dsimp only at h; split at h <;> cases h
    | block id x => obtain ⟨z, _, e⟩ := Option.map_eq_some_iff.1 h; cases e
    | loop x => obtain ⟨z, _, e⟩ := Option.map_eq_some_iff.1 h; cases e
    | rangeFunc g ps x y => dsimp only at h; split at h; cases h; split at h <;> cases h
    | exit id => cases h
    | scope x => dsimp only at h; split at h <;> cases h
    | goto l => cases h
    | ret => cases h
    | refuse s => cases h
theorem sim_block {code : Code} {id : Nat} {b : CC} (h : Sim P nt code (.block id b)) : ∃ y, code = .block id y ∧ Sim P nt y b := by
  obtain ⟨n, h⟩ := h
  cases n with
  | zero => cases h
  | succ n =>
    unfold compC at h
    cases code with
    | block id x =>
      obtain ⟨z, hz, e⟩ := Option.map_eq_some_iff.1 h
      injection e with e1 e2
      subst e1 e2
      exact ⟨x, rfl, n, hz⟩
    | region id ops dr =>
      cases dr with
      | false => obtain ⟨z, _, e⟩ := Option.map_eq_some_iff.1 h; cases e
      | true =>
        dsimp only at h
        split at h
        · rename_i cos hcos
          have h' := Option.some.inj h
          unfold dregC dregD at h'
          have hb : ∀ (b : Bool) (x y : CC), (bif b then x else y) = x ∨ (bif b then x else y) = y := by intro b; cases b <;> simp
          rcases hb (regOk ops.toList (Region.before ops).toList ops.size (canon (Region.before ops).toList cos ops.size 0)) (.dreg ops.size (canon (Region.before ops).toList cos ops.size 0)) .bad with hh | hh
          · rw [hh] at h'; cases h'
          · rw [hh] at h'; cases h'
        · cases h
    | skip => cases h
    | label l => cases h
    | cond o x y => dsimp only at h; split at h <;> cases h
    | seq x y => dsimp only at h; split at h <;> cases h
    | loop x => obtain ⟨z, _, e⟩ := Option.map_eq_some_iff.1 h; cases e
    | rangeFunc g ps x y => dsimp only at h; split at h; cases h; split at h <;> cases h
    | exit id => cases h
    | scope x => dsimp only at h; split at h <;> cases h
    | goto l => cases h
    | ret => cases h
    | refuse s => cases h
theorem sim_loop {code : Code} {b : CC} (h : Sim P nt code (.loop b)) : ∃ y, code = .loop y ∧ Sim P nt y b := by
  obtain ⟨n, h⟩ := h
  cases n with
  | zero => cases h
  | succ n =>
    unfold compC at h
    cases code with
    | loop x =>
      obtain ⟨z, hz, e⟩ := Option.map_eq_some_iff.1 h
      injection e with e1
      subst e1
      exact ⟨x, rfl, n, hz⟩
    | region id ops dr =>
      cases dr with
      | false => obtain ⟨z, _, e⟩ := Option.map_eq_some_iff.1 h; cases e
      | true =>
        dsimp only at h
        split at h
        · rename_i cos hcos
          have h' := Option.some.inj h
          unfold dregC dregD at h'
          have hb : ∀ (b : Bool) (x y : CC), (bif b then x else y) = x ∨ (bif b then x else y) = y := by intro b; cases b <;> simp
          rcases hb (regOk ops.toList (Region.before ops).toList ops.size (canon (Region.before ops).toList cos ops.size 0)) (.dreg ops.size (canon (Region.before ops).toList cos ops.size 0)) .bad with hh | hh
          · rw [hh] at h'; cases h'
          · rw [hh] at h'; cases h'
        · cases h
    | skip => cases h
    | label l => cases h
    | cond o x y => dsimp only at h; split at h <;> cases h
    | seq x y => dsimp only at h; split at h <;> cases h
    | block id x => obtain ⟨z, _, e⟩ := Option.map_eq_some_iff.1 h; cases e
    | rangeFunc g ps x y => dsimp only at h; split at h; cases h; split at h <;> cases h
    | exit id => cases h
    | scope x => dsimp only at h; split at h <;> cases h
    | goto l => cases h
    | ret => cases h
    | refuse s => cases h
theorem sim_reg {code : Code} {cos : List CO} (h : Sim P nt code (.reg cos)) : ∃ id ops, code = .region id ops false ∧ compOs P nt ops ops.toList = some cos := by
  obtain ⟨n, h⟩ := h
  cases n with
  | zero => cases h
  | succ n =>
    unfold compC at h
    cases code with
    | region id ops dr =>
      cases dr with
      | false =>
        obtain ⟨z, hz, e⟩ := Option.map_eq_some_iff.1 h
        injection e with e1
        subst e1
        exact ⟨id, ops, rfl, hz⟩
      | true =>
        dsimp only at h
        split at h
        · rename_i cos hcos
          have h' := Option.some.inj h
          unfold dregC dregD at h'
          have hb : ∀ (b : Bool) (x y : CC), (bif b then x else y) = x ∨ (bif b then x else y) = y := by intro b; cases b <;> simp
          rcases hb (regOk ops.toList (Region.before ops).toList ops.size (canon (Region.before ops).toList cos ops.size 0)) (.dreg ops.size (canon (Region.before ops).toList cos ops.size 0)) .bad with hh | hh
          · rw [hh] at h'; cases h'
          · rw [hh] at h'; cases h'
        · cases h
    | skip => cases h
    | label l => cases h
    | cond o x y => dsimp only at h; split at h <;> cases h
    | seq x y => dsimp only at h; split at h <;> cases h
    | block id x => obtain ⟨z, _, e⟩ := Option.map_eq_some_iff.1 h; cases e
    | loop x => obtain ⟨z, _, e⟩ := Option.map_eq_some_iff.1 h; cases e
    | rangeFunc g ps x y => dsimp only at h; split at h; cases h; split at h <;> cases h
    | exit id => cases h
    | scope x => dsimp only at h; split at h <;> cases h
    | goto l => cases h
    | ret => cases h
    | refuse s => cases h
theorem compOp_nxm {op : Op} {x : X} (h : compOp P op = some (.e (.nxm x))) : ∃ y, op = .next y false ∧ compX y = some x := by
  cases op with
  | next y b =>
    cases b with
    | false =>
      obtain ⟨z, hz, e⟩ := Option.map_eq_some_iff.1 h
      injection e with e; injection e with e; subst e
      exact ⟨y, rfl, hz⟩
    | true => obtain ⟨z, hz, e⟩ := Option.map_eq_some_iff.1 h; cases e
  | makeFunc fn l1 l2 =>
    exfalso
    cases fn with
    | func f => simp only [compOp] at h; split at h <;> cases h
    | _ => cases h
  | makeMap ty r => cases r <;> cases h
  | _ =>
    exfalso
    simp only [compOp] at h
    first
      | (cases h; done)
      | (unfold compBuiltin compExtern at h
         repeat' first | (cases h; done) | split at h
         all_goals first
           | (obtain ⟨z, _, e⟩ := Option.bind_eq_some_iff.1 h; first | (cases e; done) | (split at e <;> cases e; done))
           | (obtain ⟨z, _, e⟩ := Option.map_eq_some_iff.1 h; cases e; done))
      | (repeat' first | (cases h; done) | split at h
         all_goals first
           | (obtain ⟨z, _, e⟩ := Option.bind_eq_some_iff.1 h; first | (cases e; done) | (split at e <;> cases e; done))
           | (obtain ⟨z, _, e⟩ := Option.map_eq_some_iff.1 h; cases e; done))
theorem asMap_some {α : Type} {o : Option Blk} {g : List (V × V × Nat) → Nat → Option α} {x : α} (h : asMap o none g = some x) : ∃ es k, o = some (.map es k) ∧ g es k = some x := by
  cases o with
  | none => cases (show (none : Option α) = some x from h)
  | some b => cases b with
    | map es k => exact ⟨es, k, rfl, h⟩
    | _ => cases (show (none : Option α) = some x from h)
theorem compOs_cons {ops : Array Oper} {o : Oper} {l : List Oper} {cos : List CO} (h : compOs P nt ops (o :: l) = some cos) : ∃ co cr, compO P nt ops o = some co ∧ compOs P nt ops l = some cr ∧ cos = co :: cr := by
  rw [compOs] at h
  split at h
  · rename_i co cr h1 h2
    exact ⟨co, cr, h1, h2, (Option.some.inj h).symm⟩
  · cases h
theorem allS_mem : ∀ {l : List (Option St)} {L : List (Ex × St)}, allS l = some L → ∀ o ∈ l, ∃ s, o = some s ∧ (Ex.nrm, s) ∈ L
  | [], L, h, o, ho => by cases ho
  | o' :: r, L, h, o, ho => by
    cases o' with
    | none => cases h
    | some s =>
      cases hr : allS r with
      | none =>
        have h' : (match (some s : Option St), allS r with
          | some s, some l => some ((Ex.nrm, s) :: l)
          | _, _ => none) = some L := h
        rw [hr] at h'; cases h'
      | some l =>
        have h' : (match (some s : Option St), allS r with
          | some s, some l => some ((Ex.nrm, s) :: l)
          | _, _ => none) = some L := h
        rw [hr] at h'
        have h'' := Option.some.inj h'
        subst h''
        rcases List.mem_cons.1 ho with rfl | ho
        · exact ⟨s, rfl, List.mem_cons_self ..⟩
        · obtain ⟨s', e, hm⟩ := allS_mem hr o ho
          exact ⟨s', e, List.mem_cons_of_mem _ hm⟩
theorem nxE_mem {r : List CO} {k : Kn} {p1 : Pos} {t : T} {d : List Nat} {M : Mem} {c b m since clock : Nat} {seen : List Nat} : ∀ {l : List (V × V × Nat)}, ∀ e ∈ l, seqOps r k (.mk (t.setP p1 (.t [.b true, e.1, e.2.1])) d (M.set b (.miter (some m) since (seen ++ [e.2.2]) clock)) c) ∈ nxE r k p1 t d M c b m since clock seen l
  | e' :: l, e, he => by
    rcases List.mem_cons.1 he with rfl | he
    · exact List.mem_cons_self ..
    · exact List.mem_cons_of_mem _ (nxE_mem e he)
theorem bindL_mem {f : St → Option (List (Ex × St))} : ∀ {l L : List (Ex × St)}, bindL f l = some L → ∀ e s, (e, s) ∈ l → (e = .nrm → ∃ l', f s = some l' ∧ ∀ x ∈ l', x ∈ L) ∧ (e ≠ .nrm → (e, s) ∈ L)
  | [], L, h, e, s, hm => by cases hm
  | (e', s') :: r, L, h, e, s, hm => by
    have nonrm : ∀ e'', (match bindL f r with
        | some l => some ((e'', s') :: l)
        | none => none) = some L → e'' = e' → e' ≠ .nrm → (e = .nrm → ∃ l', f s = some l' ∧ ∀ x ∈ l', x ∈ L) ∧ (e ≠ .nrm → (e, s) ∈ L) := by
      intro e'' h' he' hne
      subst he'
      cases hr : bindL f r with
      | none => rw [hr] at h'; cases h'
      | some l =>
        rw [hr] at h'
        have h'' := Option.some.inj h'
        subst h''
        rcases List.mem_cons.1 hm with h1 | h1
        · injection h1 with e1 e2
          subst e1 e2
          exact ⟨fun hn => absurd hn hne, fun _ => List.mem_cons_self ..⟩
        · have ih := bindL_mem hr e s h1
          exact ⟨fun hn => (ih.1 hn).imp fun l' hl => ⟨hl.1, fun x hx => List.mem_cons_of_mem _ (hl.2 x hx)⟩, fun hn => List.mem_cons_of_mem _ (ih.2 hn)⟩
    cases e' with
    | nrm =>
      have h' : (match f s', bindL f r with
        | some l, some l' => some (l ++ l')
        | _, _ => none) = some L := h
      cases hf : f s' with
      | none => rw [hf] at h'; cases h'
      | some l1 =>
        cases hr : bindL f r with
        | none => rw [hf, hr] at h'; cases h'
        | some l =>
          rw [hf, hr] at h'
          have h'' := Option.some.inj h'
          subst h''
          rcases List.mem_cons.1 hm with h1 | h1
          · injection h1 with e1 e2
            subst e1 e2
            exact ⟨fun _ => ⟨l1, hf, fun x hx => List.mem_append_left _ hx⟩, fun hn => absurd rfl hn⟩
          · have ih := bindL_mem hr e s h1
            exact ⟨fun hn => (ih.1 hn).imp fun l' hl => ⟨hl.1, fun x hx => List.mem_append_right _ (hl.2 x hx)⟩, fun hn => List.mem_append_right _ (ih.2 hn)⟩
    | ret => exact nonrm .ret h rfl (by intro h; cases h)
    | ext id => exact nonrm (.ext id) h rfl (by intro h; cases h)
    | gto l => exact nonrm (.gto l) h rfl (by intro h; cases h)
theorem blkL_mem {id : Nat} : ∀ {l : List (Ex × St)} {e : Ex} {s : St}, (e, s) ∈ l → (inBlk id e, s) ∈ blkL id l
  | (e', s') :: r, e, s, hm => by
    rcases List.mem_cons.1 hm with h | h
    · injection h with e1 e2
      subst e1 e2
      cases e with
      | ext i =>
        have : (inBlk id (.ext i), s) ∈ ((bif Nat.beq i id then Ex.nrm else .ext i, s) :: blkL id r) := by
          rw [beqN]
          by_cases hi : i = id
          · rw [decide_eq_true hi, show inBlk id (.ext i) = .nrm from if_pos hi]; exact List.mem_cons_self ..
          · rw [decide_eq_false hi, show inBlk id (.ext i) = .ext i from if_neg hi]; exact List.mem_cons_self ..
        exact this
      | nrm => exact List.mem_cons_self ..
      | ret => exact List.mem_cons_self ..
      | gto l => exact List.mem_cons_self ..
    · exact List.mem_cons_of_mem _ (blkL_mem h)
abbrev inL (L : List (Ex × St)) (e : Ex) (t : T) (d : List Nat) (M : Mem) (c : Nat) : Prop := (e, .mk t d M c) ∈ L
def SatN (P : Program) (nt : Nat) (F : RO) (m : Nat) (y : Code) (t : T) (d : List Nat) (M : Mem) (ct : Nat) (Q : Ex → T → List Nat → Mem → Nat → Prop) : Prop :=
  ∀ (Bd : List Deferred) (E : Env) (c : Nat → Prop) (w : World) (a : Act), SR P Bd F none nt E c w a t d M ct →
    ∀ Qm : Exit → Act → World → Prop, (∀ e t' d' M' ct', Q e t' d' M' ct' → ∀ a' w', Res P Bd F none nt E c w M ct t' d' M' ct' a' w' → Qm (exOf e) a' w') → Code.roundsIn (fence E none) 0 P y Qm m a w
theorem ndx_sat2 (hm : P.follows .mixedOrders = true) (hΦ : PhiOk P Φ) {fuel : Nat} : ∀ (n : Nat), (∀ (cc : CC) (t : T) (d : List Nat) (M : Mem) (ct : Nat) (L : List (Ex × St)), ndx Φ fuel fn F n cc (.mk t d M ct) = some L →
    ∀ code, Sim P nt code cc → Sat P none nt F code t d M ct (inL L)) ∧ (∀ (b : CC) (t : T) (d : List Nat) (M : Mem) (ct : Nat) (L : List (Ex × St)), ndx Φ fuel fn F n (.loop b) (.mk t d M ct) = some L → ∀ y, Sim P nt y b → SatN P nt F n y t d M ct (inL L)) := by
  intro n
  induction n with
  | zero => exact ⟨fun cc t d M ct L h => (by cases h), fun cc t d M ct L h => (by cases h)⟩
  | succ n ih2 =>
    obtain ⟨ih, ihB⟩ := ih2
    have hB : ∀ (b : CC) (t : T) (d : List Nat) (M : Mem) (ct : Nat) (L : List (Ex × St)), ndx Φ fuel fn F (n + 1) (.loop b) (.mk t d M ct) = some L → ∀ y, Sim P nt y b → SatN P nt F (n + 1) y t d M ct (inL L) := by
      intro b t d M ct L h y hy
      have h' : bind1 (bindL fun s => ndx Φ fuel fn F n (.loop b) s) (ndx Φ fuel fn F n b (.mk t d M ct)) = some L := h
      cases ha : ndx Φ fuel fn F n b (.mk t d M ct) with
      | none => rw [ha] at h'; cases h'
      | some La =>
        rw [ha] at h'
        have hb := bindL_mem (show bindL (fun s => ndx Φ fuel fn F n (.loop b) s) La = some L from h')
        intro Bd E c w a hS Qm hQ
        rw [roundsIn_succ]
        refine ih b t d M ct La ha y hy Bd E c w a hS _ ?_
        intro e t1 d1 M1 c1 hq a1 w1 hr
        by_cases he : e = .nrm
        · subst he
          obtain ⟨l', hl, hsub⟩ := (hb _ _ hq).1 rfl
          obtain ⟨E1, k1, hS1, hG1, hR1⟩ := hr
          show Code.roundsIn (fence E none) 0 P y Qm n a1 w1
          exact ihB b t1 d1 M1 c1 l' hl y hy Bd E1 k1 w1 a1 hR1 Qm fun e2 t2 d2 M2 c2 hq2 a2 w2 hr2 => hQ e2 t2 d2 M2 c2 (hsub _ hq2) a2 w2 (hr2.trans hS1 hG1)
        · exact then_of_ne he (hQ e t1 d1 M1 c1 ((hb _ _ hq).2 he) a1 w1 hr)
    refine ⟨?_, hB⟩
    intro cc t d M ct L h code hs
    have dflt : oneR (exec Φ fuel none fn F cc (.mk t d M ct)) = some L → Sat P none nt F code t d M ct (inL L) := by
      intro h'
      cases hx : exec Φ fuel none fn F cc (.mk t d M ct) with
      | f => rw [hx] at h'; cases h'
      | k e s1 =>
        obtain ⟨t1, d1, M1, c1⟩ := s1
        rw [hx] at h'
        have h'' := Option.some.inj (show some [(e, St.mk t1 d1 M1 c1)] = some L from h')
        subst h''
        have hd : den Φ none fn F cc (.mk t d M ct) = .k e (.mk t1 d1 M1 c1) := by rw [den_of (n := fuel) (by rw [hx]; exact fun h => by cases h), hx]
        exact Sat.of_den (Q := inL _) hm hΦ hs hd (List.mem_cons_self ..)
    cases cc with
    | seq a b =>
      obtain ⟨x, y, rfl, hx, hy⟩ := sim_seq hs
      have h' : bind1 (bindL fun s => ndx Φ fuel fn F n b s) (ndx Φ fuel fn F n a (.mk t d M ct)) = some L := h
      cases ha : ndx Φ fuel fn F n a (.mk t d M ct) with
      | none => rw [ha] at h'; cases h'
      | some La =>
        rw [ha] at h'
        have hb := bindL_mem (show bindL (fun s => ndx Φ fuel fn F n b s) La = some L from h')
        refine Sat.seq (ih a t d M ct La ha x hx) ?_ ?_
        · intro t1 d1 M1 c1 hq
          obtain ⟨l', hl, hsub⟩ := (hb _ _ hq).1 rfl
          exact (ih b t1 d1 M1 c1 l' hl y hy).mono fun e t' d' M' c' hq => hsub _ hq
        · intro e t1 d1 M1 c1 hne hq
          exact (hb _ _ hq).2 hne
    | block id b =>
      obtain ⟨y, rfl, hy⟩ := sim_block hs
      have h' : map1 (blkL id) (ndx Φ fuel fn F n b (.mk t d M ct)) = some L := h
      cases ha : ndx Φ fuel fn F n b (.mk t d M ct) with
      | none => rw [ha] at h'; cases h'
      | some La =>
        rw [ha] at h'
        have h'' := Option.some.inj (show some (blkL id La) = some L from h')
        subst h''
        exact Sat.block ((ih b t d M ct La ha y hy).mono fun e t' d' M' c' hq => blkL_mem hq)
    | loop b =>
      obtain ⟨y, rfl, hy⟩ := sim_loop hs
      intro Bd E c w a hS Qm hQ
      exact wpIn_loop_rounds (n + 1) (hB b t d M ct L h y hy Bd E c w a hS Qm hQ)
    | reg ops =>
      cases ops with
      | nil => exact dflt h
      | cons o r =>
        obtain ⟨dst, op, g⟩ := o
        cases dst with
        | none => exact dflt h
        | some p1 =>
          cases g with
          | some g => cases op with
            | e eo => cases eo <;> exact dflt h
            | q o => exact dflt h
            | a o => exact dflt h
          | none => cases op with
            | q o => exact dflt h
            | a o => exact dflt h
            | e eo => cases eo with
              | nxm x =>
                have h' : nxR r (.mk Φ (exec Φ fuel) none fn F) F p1 x t d M ct = some L := h
                obtain ⟨id, ops, rfl, hcos⟩ := sim_reg hs
                have lift : ∀ (s : St) (s1 : St), seqOps r (.mk Φ (exec Φ fuel) none fn F) s = some s1 → seqOps r (.mk Φ (den Φ) none fn F) s = some s1 := by
                  intro s s1 h1
                  rcases seqOps_le (Φ := Φ) (rd := none) (fn := fn) (F := F) (exec_den Φ fuel) r s with e | e
                  · rw [e] at h1; cases h1
                  · rw [← e]; exact h1
                unfold nxR at h'
                split at h'
                · rename_i b hv
                  unfold nxB at h'
                  split at h'
                  · rename_i m since seen st hM
                    obtain ⟨es, clock, hmap, hg⟩ := asMap_some h'
                    cases hok : allOld since es && Nat.ble since st with
                    | false => rw [hok] at hg; cases hg
                    | true =>
                      rw [hok, cond_true] at hg
                      rw [Bool.and_eq_true, bleN] at hok
                      cases hlo : ops.toList with
                      | nil => rw [hlo] at hcos; cases hcos
                      | cons o1 l =>
                        rw [hlo] at hcos
                        obtain ⟨co, cr, g1, g2, g3⟩ := compOs_cons hcos
                        injection g3 with e1 e2
                        subst e1 e2
                        obtain ⟨hdst, gg, op', hco, hgd, hop⟩ := compO_some g1
                        injection hco with q1 q2 q3
                        subst q3
                        have hop' : compOp P o1.op = some (.e (.nxm x)) := by
                          rcases hop with hop | hop
                          · rw [← q2] at hop; exact hop
                          · rw [← q2] at hop; cases hop
                        obtain ⟨y, hy1, hy2⟩ := compOp_nxm hop'
                        obtain ⟨n1, hd1⟩ : ∃ n1, o1.dst = some n1 := by
                          cases hdd : o1.dst with
                          | none => rw [hdd] at q1; cases q1
                          | some n1 => exact ⟨n1, rfl⟩
                        have hp1 : p1 = posOf n1 := by rw [hd1] at q1; exact Option.some.inj q1
                        have hg0 : o1.guard = none := by
                          cases hgg : o1.guard with
                          | none => rfl
                          | some jw =>
                            obtain ⟨j, want⟩ := jw
                            rw [hgg] at hgd
                            simp only at hgd
                            split at hgd <;> cases hgd
                        have hn1 : n1 < nt := by rw [hd1] at hdst; simpa [dstOk] using hdst
                        subst hp1
                        refine Sat.mapNextL (fn := fn) hm hΦ hlo hy1 hy2 hd1 hg0 hn1 g2 hv hM hmap hok.1 (of_decide_eq_true hok.2) ?_ ?_
                        · intro hl
                          rw [hl] at hg
                          have hg' : oneS (seqOps r (.mk Φ (exec Φ fuel) none fn F) (.mk (t.setP (posOf n1) (.t [.b false])) d M ct)) = some L := hg
                          cases hs1 : seqOps r (.mk Φ (exec Φ fuel) none fn F) (.mk (t.setP (posOf n1) (.t [.b false])) d M ct) with
                          | none => rw [hs1] at hg'; cases hg'
                          | some s1 =>
                            obtain ⟨t1, d1, M1, c1⟩ := s1
                            rw [hs1] at hg'
                            have h'' := Option.some.inj (show some [(Ex.nrm, St.mk t1 d1 M1 c1)] = some L from hg')
                            subst h''
                            exact ⟨t1, d1, M1, c1, lift _ _ hs1, List.mem_cons_self ..⟩
                        · intro e he
                          cases hl : leftE seen es with
                          | nil => rw [hl] at he; cases he
                          | cons e0 l0 =>
                            rw [hl] at hg he
                            have hg' : allS (nxE r (.mk Φ (exec Φ fuel) none fn F) (posOf n1) t d M ct b m since clock seen (e0 :: l0)) = some L := hg
                            obtain ⟨s1, hs1, hL⟩ := allS_mem hg' _ (nxE_mem e he)
                            obtain ⟨t1, d1, M1, c1⟩ := s1
                            exact ⟨t1, d1, M1, c1, lift _ _ hs1, hL⟩
                  · cases h'
                · cases h'
              | _ => exact dflt h
    | skip => exact dflt h
    | dreg n ops => exact dflt h
    | cond x a b => exact dflt h
    | rf f ps a b => exact dflt h
    | exit id => exact dflt h
    | scope b tb => exact dflt h
    | tab l c r => exact dflt h
    | goto l => exact dflt h
    | ret => exact dflt h
    | bad => exact dflt h
theorem ndx_sat (hm : P.follows .mixedOrders = true) (hΦ : PhiOk P Φ) {fuel n : Nat} {cc : CC} {t : T} {d : List Nat} {M : Mem} {ct : Nat} {L : List (Ex × St)} (h : ndx Φ fuel fn F n cc (.mk t d M ct) = some L) {code : Code} (hs : Sim P nt code cc) : Sat P none nt F code t d M ct (inL L) :=
  (ndx_sat2 hm hΦ n).1 cc t d M ct L h code hs
end
end Go.Proofs.YtaogopbhjinmoaaGreatDoor.Ev
namespace Go.Proofs.YtaogopbhjinmoaaGreatDoor.Ev
open Go
noncomputable section
def isPtr : Option (List V) → Bool
  | some [.p _ 0] => true
  | _ => false
def opFin (res : List RV) (m0 : List (Nat × Blk)) (t : T) : Option Mem → Bool
  | some M => isPtr (resV [] M t res) && holds M m0
  | none => false
def opAll (res : List RV) (m0 : List (Nat × Blk)) : List (Ex × St) → Bool
  | [] => true
  | (e, .mk t d M _) :: r => (isEnd e && opFin res m0 t (takeDefs d M)) && opAll res m0 r
def opChk (res : List RV) (m0 : List (Nat × Blk)) : Option (List (Ex × St)) → Bool
  | some L => opAll res m0 L
  | none => false
abbrev OCall := Nat × List V × List (Nat × Blk)
def opRun (Φ : Nat → Option CF) (fuel N f n : Nat) (res : List RV) (body : CC) (s : OCall) : Bool :=
  opChk res s.2.2 (ndx Φ fuel f [] N body (.mk (argTr n s.2.1) [] (setAll .e s.2.2) s.1))
def opS (s : OCall) : Snap := ⟨s.1, s.2.1, s.2.2, .p s.1 0, s.2.2, s.1 + 1⟩
def opO (L : List OCall) : RO → List V → Mem → Nat → RC := snO (L.map opS)
end
theorem isPtr_some {o : Option (List V)} (h : isPtr o = true) : ∃ x, o = some [.p x 0] := by
  unfold isPtr at h
  split at h
  · exact ⟨_, rfl⟩
  · cases h
theorem opAll_mem {res : List RV} {m0 : List (Nat × Blk)} : ∀ {L : List (Ex × St)}, opAll res m0 L = true → ∀ e t d M c, (e, .mk t d M c) ∈ L → isEnd e = true ∧ ∃ M2 x, takeDefs d M = some M2 ∧ resV [] M2 t res = some [.p x 0] ∧ holds M2 m0 = true
  | (e', .mk t' d' M' c') :: r, h, e, t, d, M, c, hm => by
    obtain ⟨h1, h2⟩ := an2 (show ((isEnd e' && opFin res m0 t' (takeDefs d' M')) && opAll res m0 r) = true from h)
    rcases List.mem_cons.1 hm with hh | hh
    · injection hh with e1 e2
      injection e2 with e2 e3 e4 e5
      subst e1 e2 e3 e4 e5
      obtain ⟨h3, h4⟩ := an2 h1
      refine ⟨h3, ?_⟩
      cases ht : takeDefs d M with
      | none => rw [ht] at h4; cases h4
      | some M2 =>
        rw [ht] at h4
        obtain ⟨h5, h6⟩ := an2 (show (isPtr (resV [] M2 t res) && holds M2 m0) = true from h4)
        obtain ⟨x, hx⟩ := isPtr_some h5
        exact ⟨M2, x, rfl, hx, h6⟩
    · exact opAll_mem h2 e t d M c hh
theorem orc_opq {P : Program} (hm : P.follows .mixedOrders = true) {Φ : Nat → Option CF} (hΦ : PhiOk P Φ) {fuel N f n : Nat} {fn : Func} (hf : P.funcs[f]? = some fn) {res : List RV} {body : CC} (hcomp : comp P fn = some (.mk n res body)) {L : List OCall} (hL : ∀ s ∈ L, opRun Φ fuel N f n res body s = true) : OrcOk P f (opO L) := by
  intro F args M ct v N' ct' hg E c w hr hglob hbig hfr ha
  obtain ⟨s', hs', hc, hgo⟩ := snF_some (show snF ct args M (L.map opS) = .k v N' ct' from hg)
  obtain ⟨s, hs, rfl⟩ := List.mem_map.1 hs'
  obtain ⟨c0, as, m0⟩ := s
  have hrun := hL _ hs
  unfold snGo at hgo
  cases h1 : vseq (opS (c0, as, m0)).args args && holds M (opS (c0, as, m0)).m0 with
  | false => rw [h1] at hgo; cases hgo
  | true =>
    rw [h1, cond_true, Tr.force_eq] at hgo
    injection hgo with e1 e2 e3
    obtain ⟨h2, h3⟩ := an2 h1
    have hargs : as = args := vseq_eq _ _ h2
    have h3' : holds M m0 = true := h3
    have hc' : c0 = ct := hc
    subst e1 e2 e3 hargs hc'
    have hrun' : opChk res m0 (ndx Φ fuel f [] N body (.mk (argTr n as) [] (setAll .e m0) c0)) = true := hrun
    cases hx : ndx Φ fuel f [] N body (.mk (argTr n as) [] (setAll .e m0) c0) with
    | none => rw [hx] at hrun'; cases hrun'
    | some Lo =>
      rw [hx] at hrun'
      have hall := opAll_mem (show opAll res m0 Lo = true from hrun')
      obtain ⟨hnm, b, hb, hsim, hres⟩ := comp_some hcomp
      have hsub : SubMem [] (setAll .e m0) F M := by
        refine ⟨fun b blk hb => ?_, fun b blk hb => (by cases hb), fun b hb => (by cases hb)⟩
        rcases setAll_get _ _ b blk hb with h | ⟨h, _⟩
        · exact holds_mem h3' b blk h
        · cases h
      have hNM : ∀ b blk, (setAll M m0).get b = some blk → M.get b = some blk := by
        intro b blk hb
        rcases setAll_get _ _ b blk hb with h | ⟨h, _⟩
        · exact holds_mem h3' b blk h
        · exact h
      refine ⟨fn, hf, by rw [hb]; rfl, hnm, ?_⟩
      refine (callsIn_wide (n := 0)).1 (callsIn_of_wp_marks hf hb trivial ?_)
      have hSR : SR P [] [] none fn.ntmps E c w { tmps := (concs E as).toArray ++ Array.replicate (fn.ntmps - (concs E as).toArray.size) Go.undef, defers := [] } (argTr n as) [] (setAll .e m0) c0 :=
        ⟨⟨hsub.rel hr, hglob, hbig, argTr_rel E as _ _, argTr_bd ha⟩, hfr, rfl, fun b hb => by simp at hb, by simp; omega, fun l hl => by cases hl⟩
      refine ndx_sat (F := []) (fn := f) hm hΦ hx hsim [] E c w _ hSR _ ?_
      intro e t1 d1 M1 c1 hin a1 w1 hR0
      obtain ⟨E1, k1, hS1, hG1, hR1⟩ := hR0
      obtain ⟨he, M2, x, htk, hrv, hh⟩ := hall e t1 d1 M1 c1 hin
      have key : LeavesInM Fence.wide 0 P fn a1.tmps (fun e w' => ∃ E' c', e = .returned (conc E' (.p c0 0)) ∧ Stp P F E M c w E' (setAll M m0) c' w' ∧ bd c' (.p c0 0) ∧ Grow c c0 c' (c0 + 1)) a1.defers .returning w1 := by
        rw [hR1.df]
        refine leaves_ok (t := t1) d1 M1 w1 htk hR1.cx.rel fun w2 hS2 => ?_
        have hcx : Cx P E1 [] M2 k1 w2 t1 a1 := ⟨hS2.rel, hR1.cx.glob, hR1.cx.big, hR1.cx.tr, hR1.cx.bt⟩
        have hres' := results_ok hcx hres hrv
        have hS := hS1.trans hS2
        have hN : ∀ b blk, (setAll M m0).get b = some blk → M2.get b = some blk ∨ (M.get b = some blk ∧ (setAll .e m0 : Mem).get b = none) := by
          intro b blk hb
          rcases setAll_get _ _ b blk hb with h | ⟨h, hno⟩
          · exact .inl (holds_mem hh b blk h)
          · refine .inr ⟨h, ?_⟩
            cases hm0 : (setAll .e m0 : Mem).get b with
            | none => rfl
            | some y =>
              exfalso
              rcases setAll_get _ _ b y hm0 with h' | ⟨h', _⟩
              · exact hno _ h' rfl
              · cases h'
        have hSf := hS.framed hsub hr (N := setAll M m0) hN
        have hnc : ∀ b, c b → b ≠ c0 := fun b hb e => hfr c0 (Nat.le_refl _) (e ▸ hb)
        let E2 : Env := ⟨fun b => if b = c0 then E1.ρ x else E1.ρ b, fun b => if b = c0 then E1.β x else E1.β b, fun b => if b = c0 then E1.κ x else E1.κ b⟩
        have hE2 : Ext c E1 E2 := ⟨fun b hb => if_neg (hnc b hb), fun b hb => if_neg (hnc b hb), fun b hb => if_neg (hnc b hb)⟩
        have hlook : ∀ b blk, look F (setAll M m0) b = some blk → look F M b = some blk := by
          intro b blk hb
          cases hq : (setAll M m0).get b with
          | some y =>
            rw [look_some_M hq] at hb
            obtain rfl := Option.some.inj hb
            exact look_some_M (hNM b _ hq)
          | none =>
            rw [look_none_M hq] at hb
            rw [look_none_M (hr.apart b (by rw [hb]; rfl))]; exact hb
        refine ⟨_, hres'.1, E2, fun b => c b ∨ b = c0, ?_, ⟨?_, fun b hb => .inl hb, ⟨?_, ?_, ?_⟩, ?_, hSf.frame, hSf.size, hSf.os, hSf.output, hSf.tape⟩, .inr rfl, ⟨Nat.le_succ _, fun b hb => ?_⟩⟩
        · show Ending.returned (conc E1 (oneV [.p x 0])) = Ending.returned (conc E2 (.p c0 0))
          simp [oneV, conc, E2]
        · exact ⟨fun b hb => (hE2.ρ b hb).trans (hSf.ext.ρ b hb), fun b hb => (hE2.β b hb).trans (hSf.ext.β b hb), fun b hb => (hE2.κ b hb).trans (hSf.ext.κ b hb)⟩
        · intro b blk hb
          obtain ⟨g1, g2, _⟩ := hr.has b blk (hlook b blk hb)
          obtain ⟨_, _, o, ho, hB⟩ := hSf.rel.has b blk hb
          refine ⟨.inl g1, bdBlk_mono (fun _ h => .inl h) _ g2, o, ?_, hB.ext hE2 g1 g2⟩
          rw [hE2.ρ b g1]; exact ho
        · intro b b' h1 h2 e
          obtain ⟨y, hy⟩ := Option.isSome_iff_exists.1 h1
          obtain ⟨z, hz⟩ := Option.isSome_iff_exists.1 h2
          have q1 := (hr.has b y (hlook b y hy)).1
          have q2 := (hr.has b' z (hlook b' z hz)).1
          rw [hE2.ρ b q1, hE2.ρ b' q2] at e
          exact hSf.rel.inj b b' h1 h2 e
        · exact hSf.rel.apart
        · intro b hb
          obtain ⟨y, hy⟩ := Option.isSome_iff_exists.1 hb
          have q0 := hNM b y hy
          have q1 := (hr.has b y (look_some_M q0)).1
          exact .inl ⟨b, by rw [q0]; rfl, ((hE2.ρ b q1).trans (hSf.ext.ρ b q1)).symm⟩
        · rcases hb with hb | rfl
          · exact .inl hb
          · exact .inr ⟨Nat.le_refl _, Nat.lt_succ_self _⟩
      cases e with
      | nrm => exact key
      | ret => exact key
      | _ => cases he
end Go.Proofs.YtaogopbhjinmoaaGreatDoor.Ev
namespace Go.Proofs.YtaogopbhjinmoaaGreatDoor.Ev
open Go
section
variable {Φ : Nat → Option CF} {rd : Option Nat} {fn : Nat} {F : RO}
def ofO (o : Option V) (M : Mem) (c : Nat) : RC := match o with
  | some v => .k v M c
  | none => .f
theorem pureO_of (h : List V → Option V) (F : RO) (args : List V) (M : Mem) (c : Nat) : pureO h F args M c = ofO (h args) M c := rfl
theorem ofO_some (v : V) (M : Mem) (c : Nat) : ofO (some v) M c = .k v M c := rfl
theorem flatten_b (x : Bool) : flatten (.b x) = [.b x] := rfl
theorem flatten_i (k : IntKind) (x : Int) : flatten (.i k x) = [.i k x] := rfl
theorem flatten_s (n x : Nat) : flatten (.s n x) = [.s n x] := rfl
theorem flatten_p (b o : Nat) : flatten (.p b o) = [.p b o] := rfl
theorem flatten_p0 : flatten .p0 = [.p0] := rfl
theorem flatten_l (b o n c : Nat) : flatten (.l b o n c) = [.l b o n c] := rfl
theorem flatten_u (b o n e k : Nat) : flatten (.u b o n e k) = [.u b o n e k] := rfl
theorem flatten_l0 : flatten .l0 = [.l0] := rfl
theorem flatten_m (b : Nat) : flatten (.m b) = [.m b] := rfl
theorem flatten_m0 : flatten .m0 = [.m0] := rfl
theorem flatten_f (f : Nat) (a b : List V) : flatten (.f f a b) = [.f f a b] := rfl
theorem flatten_f0 : flatten .f0 = [.f0] := rfl
theorem flatten_g (l : List V) : flatten (.g l) = l := rfl
theorem allOne_nil : allOne [] = true := rfl
theorem allOne_cons (v : V) (l : List V) : allOne (v :: l) = (isOne v && allOne l) := by
  show Bool.rec (motive := fun _ => Bool) false (allOne l) (isOne v) = _
  cases isOne v <;> rfl
theorem isOne_b (x : Bool) : isOne (.b x) = true := rfl
theorem isOne_i (k : IntKind) (x : Int) : isOne (.i k x) = true := rfl
theorem isOne_s (n x : Nat) : isOne (.s n x) = true := rfl
theorem isOne_p (b o : Nat) : isOne (.p b o) = true := rfl
theorem isOne_p0 : isOne .p0 = true := rfl
theorem isOne_l (b o n c : Nat) : isOne (.l b o n c) = true := rfl
theorem isOne_u (b o n e k : Nat) : isOne (.u b o n e k) = true := rfl
theorem isOne_l0 : isOne .l0 = true := rfl
theorem isOne_m (b : Nat) : isOne (.m b) = true := rfl
theorem isOne_f (f : Nat) (a b : List V) : isOne (.f f a b) = true := rfl
theorem isOne_f0 : isOne .f0 = true := rfl
def fillV (cs : List V) : List (Nat × Nat × List V) → Option (List V)
  | [] => some cs
  | (o, n, vs) :: r => if vs.length = n then (match replL cs o vs with | some cs => fillV cs r | none => none) else none
theorem replL_over : ∀ (o : Nat) (l vs : List V), o + vs.length ≤ l.length → replL l o vs = some (over l o vs)
  | 0, l, [], h => by cases l <;> rfl
  | 0, [], v :: r, h => by simp at h
  | 0, x :: l, v :: r, h => by
    have key : ∀ (r l : List V) (v : V), over (v :: l) 1 r = v :: over l 0 r := by
      have gen : ∀ (r l : List V) (v : V) (i : Nat), over (v :: l) (i + 1) r = v :: over l i r := by
        intro r
        induction r with
        | nil => intro l v i; rfl
        | cons a r ih => intro l v i; rw [over, over, List.set_cons_succ, ih]
      exact fun r l v => gen r l v 0
    rw [replL, replL_over 0 l r (by simp at h; omega), over, List.set_cons_zero, key]
  | o + 1, [], vs, h => by simp at h
  | o + 1, x :: l, vs, h => by
    have gen : ∀ (r l : List V) (v : V) (i : Nat), over (v :: l) (i + 1) r = v :: over l i r := by
      intro r
      induction r with
      | nil => intro l v i; rfl
      | cons a r ih => intro l v i; rw [over, over, List.set_cons_succ, ih]
    rw [replL, replL_over o l vs (by simp at h; omega), gen]
noncomputable def evP (t : T) : List (Nat × Nat × X) → List (Nat × Nat × List V)
  | [] => []
  | (o, n, x) :: r => (o, n, flatten (x.ev t)) :: evP t r
theorem evP_nil (t : T) : evP t [] = [] := rfl
theorem evP_cons (t : T) (o n : Nat) (x : X) (r : List (Nat × Nat × X)) : evP t ((o, n, x) :: r) = (o, n, flatten (x.ev t)) :: evP t r := rfl
theorem fillV_nil (cs : List V) : fillV cs [] = some cs := rfl
theorem fillV_cons (cs : List V) (o n : Nat) (vs : List V) (r : List (Nat × Nat × List V)) : fillV cs ((o, n, vs) :: r) = if vs.length = n then (match replL cs o vs with | some cs => fillV cs r | none => none) else none := rfl
theorem over_nil (l : List V) (i : Nat) : over l i [] = l := rfl
theorem over_cons (l : List V) (i : Nat) (v : V) (r : List V) : over l i (v :: r) = over (l.set i v) (i + 1) r := rfl
theorem fillParts_eq (t : T) : ∀ (ps : List (Nat × Nat × X)) (cs : List V), fillParts t cs ps = fillV cs (evP t ps)
  | [], cs => rfl
  | (o, n, x) :: ps, cs => by
    rw [evP_cons, fillV_cons, fillParts, beqN]
    by_cases hc : (flatten (x.ev t)).length = n
    · rw [decide_eq_true hc, cond_true, if_pos hc]
      cases replL cs o (flatten (x.ev t)) with
      | none => rfl
      | some cs' => exact fillParts_eq t ps cs'
    · rw [decide_eq_false hc, cond_false, if_neg hc]
theorem v_bld (zero : List V) (ps : List (Nat × Nat × X)) (M : Mem) (t : T) : (qop (.bld zero ps) F M t).val = (fillV zero (evP t ps)).map .g := by
  show (qg (fillParts t zero ps)).val = _
  rw [fillParts_eq]
  cases fillV zero (evP t ps) <;> rfl
theorem v_fl1 (off : Nat) (x : X) (M : Mem) (t : T) : (qop (.fl1 off x) F M t).val = match x.ev t with | .g cs => cs[off]? | _ => none := by
  show (onG (x.ev t) .f fun cs => qr (nth cs off)).val = _
  cases x.ev t with
  | g cs =>
    show (qr (nth cs off)).val = cs[off]?
    rw [nth_eq]
    cases cs[off]? <;> rfl
  | _ => rfl
theorem v_fln (off n : Nat) (x : X) (M : Mem) (t : T) : (qop (.fln off n x) F M t).val = match x.ev t with | .g cs => (takeL n (dropL off cs)).map .g | _ => none := by
  show (onG (x.ev t) .f fun cs => qg (takeL n (dropL off cs))).val = _
  cases x.ev t with
  | g cs =>
    show (qg (takeL n (dropL off cs))).val = (takeL n (dropL off cs)).map .g
    cases takeL n (dropL off cs) <;> rfl
  | _ => rfl
theorem v_ex (i : Nat) (x : X) (M : Mem) (t : T) : (qop (.ex i x) F M t).val = match x.ev t with | .t cs => cs[i]? | _ => none := by
  show (q_ex i x F M t).val = _
  unfold q_ex
  cases x.ev t with
  | t cs =>
    show (qr (nth cs i)).val = cs[i]?
    rw [nth_eq]
    cases cs[i]? <;> rfl
  | _ => rfl
theorem v_ci (k : IntKind) (x : X) (M : Mem) (t : T) : (qop (.ci k x) F M t).val = match x.ev t with | .i _ n => some (.i k (k.wrap n)) | _ => none := by
  show (onI (x.ev t) .f fun _ n => vI k (wr k n)).val = _
  cases x.ev t with
  | i k' n =>
    show (vI k (wr k n)).val = _
    rw [vI_eq, wr_eq]; rfl
  | _ => rfl
def andO : Option Bool → Option Bool → Option Bool
  | some b, r => if b = true then r else some false
  | none, _ => none
theorem andO_some (b c : Bool) : andO (some b) (some c) = some (b && c) := by cases b <;> rfl
noncomputable def eqAt (F : RO) (M : Mem) (sh : Sh) (x y : Option V) : Option Bool := match x, y with
  | some x, some y => eq1 F M sh false x y
  | _, _ => none
theorem eqAt_some (M : Mem) (sh : Sh) (x y : V) : eqAt F M sh (some x) (some y) = eq1 F M sh false x y := rfl
theorem eqAll_nil (M : Mem) (xs ys : List V) : eqAll F M xs ys [] = some true := rfl
theorem eqAll_cons (M : Mem) (xs ys : List V) (o : Nat) (sh : Sh) (r : List (Nat × Sh)) : eqAll F M xs ys ((o, sh) :: r) = andO (eqAt F M sh (xs[o]?) (ys[o]?)) (eqAll F M xs ys r) := by
  rw [eqAll, nth_eq, nth_eq]
  cases xs[o]? with
  | none => rfl
  | some x =>
    cases ys[o]? with
    | none => rfl
    | some y =>
      show (match eq1 F M sh false x y with | some true => eqAll F M xs ys r | r => r) = andO (eq1 F M sh false x y) _
      cases eq1 F M sh false x y with
      | none => rfl
      | some b => cases b <;> rfl
def negO (neg : Bool) : Option Bool → Option V
  | some r => some (.b (bif neg then !r else r))
  | none => none
theorem negO_F (r : Bool) : negO false (some r) = some (.b r) := rfl
theorem negO_T (r : Bool) : negO true (some r) = some (.b (!r)) := rfl
theorem v_eq (neg : Bool) (sh : Sh) (lit : Bool) (x y : X) (M : Mem) (t : T) : (qop (.eq neg sh lit x y) F M t).val = negO neg (eqV F M sh lit (x.ev t) (y.ev t)) := by
  show (q_eqr neg (eqV F M sh lit (x.ev t) (y.ev t))).val = _
  cases eqV F M sh lit (x.ev t) (y.ev t) with
  | none => rfl
  | some r =>
    show (vB (bif neg then !r else r)).val = _
    rw [vB_eq]; rfl
theorem eqV_agg (ks : List (Nat × Sh)) (lit : Bool) (M : Mem) (xs ys : List V) : eqV F M (.agg ks) lit (.g xs) (.g ys) = eqAll F M xs ys ks := rfl
theorem eqV_int (lit : Bool) (M : Mem) (k : IntKind) (a b : Int) : eqV F M .int lit (.i k a) (.i k b) = some (decide (a = b)) := by
  show eqN (.i k a) (.i k b) = _
  simp [eqN, sameK_iff, eqI_iff]
theorem eq1_int (lit : Bool) (M : Mem) (k : IntKind) (a b : Int) : eq1 F M .int lit (.i k a) (.i k b) = some (decide (a = b)) := by
  show eqN (.i k a) (.i k b) = _
  simp [eqN, sameK_iff, eqI_iff]
theorem eq1_bool (lit : Bool) (M : Mem) (a b : Bool) : eq1 F M .bool lit (.b a) (.b b) = some (decide (a = b)) := by
  show eqB (.b a) (.b b) = _
  cases a <;> cases b <;> rfl
theorem xo_cv (x : X) (as : List X) (M : Mem) (c : Nat) (t : T) : doE (.cv x as) (K Φ rd fn F) M c t = callV (K Φ rd fn F) (x.ev t) (evs as t) M c := rfl
theorem callV_f (f : Nat) (first caps args : List V) (M : Mem) (c : Nat) : callV (K Φ rd fn F) (.f f first caps) args M c = callC (den Φ) F f (first ++ (args ++ caps)) M c (Φ f) := rfl
theorem v_mkf (f : Nat) (first caps : List X) (M : Mem) (t : T) : (qop (.mkf f first caps) F M t).val = some (.f f (evs first t) (evs caps t)) := rfl
theorem resV_cn (M : Mem) (t : T) (p : Pos) (sz : Nat) (r : List RV) : resV F M t (.cn p sz :: r) = match getT t p with
    | .p b o => match loadN F M b o sz with | some l => consO (.g l) (resV F M t r) | none => none
    | _ => none := by
  show Option.rec (motive := fun _ => Option (List V)) none (fun v => resC v (resV F M t r)) (resV1 F M t (.cn p sz)) = _
  show Option.rec (motive := fun _ => Option (List V)) none (fun v => resC v (resV F M t r)) (onP (getT t p) none fun b o => Option.rec (motive := fun _ => Option V) none (fun l => some (.g l)) (loadN F M b o sz)) = _
  cases getT t p with
  | p b o =>
    show Option.rec (motive := fun _ => Option (List V)) none (fun v => resC v (resV F M t r)) (Option.rec (motive := fun _ => Option V) none (fun l => some (.g l)) (loadN F M b o sz)) = _
    simp only
    cases loadN F M b o sz with
    | none => rfl
    | some l =>
      show resC (.g l) (resV F M t r) = consO (.g l) (resV F M t r)
      cases resV F M t r <;> rfl
  | _ => rfl
theorem resV_c1 (M : Mem) (t : T) (p : Pos) (r : List RV) : resV F M t (.c1 p :: r) = match getT t p with
    | .p b o => match load1 F M b o with | some v => consO v (resV F M t r) | none => none
    | _ => none := by
  show Option.rec (motive := fun _ => Option (List V)) none (fun v => resC v (resV F M t r)) (onP (getT t p) none fun b o => load1 F M b o) = _
  cases getT t p with
  | p b o =>
    show Option.rec (motive := fun _ => Option (List V)) none (fun v => resC v (resV F M t r)) (load1 F M b o) = _
    simp only
    cases load1 F M b o with
    | none => rfl
    | some v =>
      show resC v (resV F M t r) = consO v (resV F M t r)
      cases resV F M t r <;> rfl
  | _ => rfl
noncomputable def ixA1V (len sz : Nat) (x i : V) : Option V := (qop (.ixA1 len sz (.c x) (.c i)) [] .e .e).val
theorem v_ixA1 (len sz : Nat) (x i : X) (M : Mem) (t : T) : (qop (.ixA1 len sz x i) F M t).val = ixA1V len sz (x.ev t) (i.ev t) := rfl
theorem ixA1_g (len : Nat) (cs : List V) (k : IntKind) (n : Int) : ixA1V len 1 (.g cs) (.i k n) = if 0 ≤ n ∧ n < len then cs[n.toNat]? else none := by
  show (onG (V.g cs) QR.f fun cs => ixOne len 1 cs (asN (.i k n))).val = _
  show (ixOne len 1 cs (asN (.i k n))).val = _
  cases n with
  | ofNat m =>
    show (bif Nat.blt m len then qr (nth cs (Nat.mul m 1)) else QR.f).val = _
    rw [bltN]
    by_cases h : m < len
    · rw [decide_eq_true h, cond_true, if_pos ⟨Int.natCast_nonneg m, Int.ofNat_lt.2 h⟩]
      show (qr (nth cs (Nat.mul m 1))).val = _
      rw [nth_eq, show Nat.mul m 1 = m from Nat.mul_one m]
      show _ = cs[m]?
      cases cs[m]? <;> rfl
    · rw [decide_eq_false h, cond_false, if_neg (fun hh => h (Int.ofNat_lt.1 hh.2))]; rfl
  | negSucc m =>
    rw [if_neg (fun hh => by have := hh.1; exact absurd this (by simp))]
    rfl
theorem getD_some {l : List V} {i : Nat} (h : i < l.length) (d : V) : l[i]? = some ((l[i]?).getD d) := by
  rw [List.getElem?_eq_getElem h]; rfl
noncomputable def mapS (b : Nat) (x : Blk) : Option Mem → Option Mem
  | some M => some (M.set b x)
  | none => none
theorem mapS_some (b : Nat) (x : Blk) (M : Mem) : mapS b x (some M) = some (M.set b x) := rfl
theorem storeN_ne' (M : Mem) {b b' : Nat} (o : Nat) (x : Blk) (vs : List V) (h : b' ≠ b) : storeN (M.set b x) b' o vs = mapS b x (storeN M b' o vs) := by
  cases hs : storeN M b' o vs with
  | some M' => rw [storeN_ne M o x vs h hs]; rfl
  | none =>
    cases hs2 : storeN (M.set b x) b' o vs with
    | none => rfl
    | some M2 =>
      exfalso
      obtain ⟨ty, n, ex, fz, str, d, cs, hM, h1, h2, h3, _⟩ := storeN_some hs2
      rw [Tr.get_set, if_neg h] at hM
      have : storeN M b' o vs = some (M.set b' (.cells ty n ex fz str d (listTr vs o cs))) := by
        show Option.rec (motive := fun _ => Option Mem) none (fun blk => storeIn M b' o vs blk) (M.get b') = _
        rw [hM]
        show (Bool.rec (motive := fun _ => Option Mem) none (Bool.rec (motive := fun _ => Option Mem) none (Bool.rec (motive := fun _ => Option Mem) none (storeIn2 M b' o vs ty n ex fz str d cs) (allOne vs)) (Nat.ble fz o)) (Nat.ble (Nat.add o vs.length) n)) = _
        rw [bb, bb, bb, bleN, bleN, decide_eq_true (show Nat.add o vs.length ≤ n from h1), decide_eq_true h2, h3]
        simp only [if_true]
        unfold storeIn2
        rw [Tr.force_eq, Tr.force_eq]
      rw [hs] at this; cases this
theorem ne_add0 (c n : Nat) : (c ≠ c + (n + 1)) = True := eq_true (by omega)
theorem ne_add1 (c n : Nat) : (c + (n + 1) ≠ c) = True := eq_true (by omega)
theorem ne_add (c i j : Nat) (h : (i == j) = false) : (c + i ≠ c + j) = True := eq_true (fun e => by
  have : i = j := by omega
  rw [beq_eq_false_iff_ne] at h
  exact h this)
end
end Go.Proofs.YtaogopbhjinmoaaGreatDoor.Ev
namespace Go.Proofs.YtaogopbhjinmoaaGreatDoor.Ev
open Go
theorem wrap_i64 {n : Int} (h1 : -9223372036854775808 ≤ n) (h2 : n < 9223372036854775808) : IntKind.i64.wrap n = n := by
  rw [wrap_s .i64 n 18446744073709551616 9223372036854775808 rfl rfl rfl]
  split <;> omega
theorem bi_and (k : IntKind) (a b : Int) : biV .and (.i k a) (.i k b) = some (.i k (k.wrap ((toU k a &&& toU k b : Nat) : Int))) := by
  show _ = some (V.i k (k.wrap ((Nat.land (toU k a) (toU k b) : Nat) : Int)))
  cases k <;> simp [biV, q_bii, q_bi0, binI, i_and, sameK, knum, b_bit_eq, QR.val]
theorem i64_add (a b : Int) (h1 : -9223372036854775808 ≤ a + b) (h2 : a + b < 9223372036854775808) : biV .add (.i .i64 a) (.i .i64 b) = some (.i .i64 (a + b)) := by
  rw [bi_add, wrap_i64 h1 h2]
end Go.Proofs.YtaogopbhjinmoaaGreatDoor.Ev
