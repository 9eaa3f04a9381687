/- What is proved here: pieces of the evaluator's soundness: if the evaluator comes to a value, the model's run comes to it, for every world and tape; no conditions beyond the hypotheses of each theorem. -/
import Derived.Test.YtpokoiicogheaaaGreatDoorEv5
import Derived.Handed
import Derived.Shelf.Vars
import Derived.DefersIn
set_option linter.unusedSimpArgs false
set_option linter.unusedVariables false
set_option linter.defProp false
set_option maxRecDepth 10000
set_option maxHeartbeats 4000000
namespace Go.Proofs.YtpokoiicogheaaaGreatDoor.Ev
open Go Go.RowKit Go.ChangeShapes
noncomputable section
section
variable {P : Program} {E E' : Env} {F : RO} {M M' : Mem} {c c' : Nat → Prop} {ct ct' nt : Nat} {w w' : World} {t t' : T} {d d' : List Nat} {a : Act} {rd : Option Nat} {Bd : List Deferred}
end
noncomputable section
def beqB (a b : Bool) : Bool := bif a then b else !b
mutual
def veq : V → V → Bool
 | .b x, w => match w with | .b y => beqB x y | _ => false
 | .i k n, w => match w with | .i j m => sameK k j && eqI n m | _ => false
 | .s n x, w => match w with | .s m y => Nat.beq n m && Nat.beq x y | _ => false
 | .p b o, w => match w with | .p b' o' => Nat.beq b b' && Nat.beq o o' | _ => false
 | .p0, w => match w with | .p0 => true | _ => false
 | .l b o n k, w => match w with | .l b' o' n' k' => (Nat.beq b b' && Nat.beq o o') && (Nat.beq n n' && Nat.beq k k') | _ => false
 | .u b o n e k, w => match w with | .u b' o' n' e' k' => (Nat.beq b b' && Nat.beq o o') && (Nat.beq n n' && (Nat.beq e e' && Nat.beq k k')) | _ => false
 | .ue b o n, w => match w with | .ue b' o' n' => Nat.beq b b' && (Nat.beq o o' && Nat.beq n n') | _ => false
 | .l0, w => match w with | .l0 => true | _ => false
 | .m b, w => match w with | .m b' => Nat.beq b b' | _ => false
 | .m0, w => match w with | .m0 => true | _ => false
 | .f f a d, w => match w with | .f f' a' d' => Nat.beq f f' && (vseq a a' && vseq d d') | _ => false
 | .y b, w => match w with | .y b' => Nat.beq b b' | _ => false
 | .f0, w => match w with | .f0 => true | _ => false
 | .a t v, w => match w with | .a t' v' => Nat.beq t t' && veq v v' | _ => false
 | .a0, w => match w with | .a0 => true | _ => false
 | .g l, w => match w with | .g l' => vseq l l' | _ => false
 | .t l, w => match w with | .t l' => vseq l l' | _ => false
def vseq : List V → List V → Bool
 | [], w => match w with | [] => true | _ => false
 | x :: r, w => match w with | y :: r' => veq x y && vseq r r' | [] => false
end
theorem beqB_eq {a b : Bool} (h : beqB a b = true) : a = b := by cases a <;> cases b <;> first | rfl | cases h
theorem nbeq {a b : Nat} (h : Nat.beq a b = true) : a = b := Nat.eq_of_beq_eq_true h
theorem an2 {a b : Bool} (h : (a && b) = true) : a = true ∧ b = true := by simpa using h
mutual
theorem veq_eq : ∀ a b : V, veq a b = true → a = b
 | .b x, w, h => by
   rw [veq.eq_def] at h
   dsimp only at h
   split at h
   · rw [beqB_eq h]
   · cases h
 | .i k n, w, h => by
   rw [veq.eq_def] at h
   dsimp only at h
   split at h
   · obtain ⟨h1, h2⟩ := an2 h
     rw [sameK_iff] at h1
     rw [eqI_iff] at h2
     rw [of_decide_eq_true h1, of_decide_eq_true h2]
   · cases h
 | .s n x, w, h => by
   rw [veq.eq_def] at h
   dsimp only at h
   split at h
   · obtain ⟨h1, h2⟩ := an2 h
     rw [nbeq h1, nbeq h2]
   · cases h
 | .p n x, w, h => by
   rw [veq.eq_def] at h
   dsimp only at h
   split at h
   · obtain ⟨h1, h2⟩ := an2 h
     rw [nbeq h1, nbeq h2]
   · cases h
 | .p0, w, h => by
   rw [veq.eq_def] at h
   dsimp only at h
   split at h
   · rfl
   · cases h
 | .l b o n k, w, h => by
   rw [veq.eq_def] at h
   dsimp only at h
   split at h
   · obtain ⟨h1, h2⟩ := an2 h
     obtain ⟨h3, h4⟩ := an2 h1
     obtain ⟨h5, h6⟩ := an2 h2
     rw [nbeq h3, nbeq h4, nbeq h5, nbeq h6]
   · cases h
 | .u b o n e k, w, h => by
   rw [veq.eq_def] at h
   dsimp only at h
   split at h
   · obtain ⟨h1, h2⟩ := an2 h
     obtain ⟨h3, h4⟩ := an2 h1
     obtain ⟨h5, h6⟩ := an2 h2
     obtain ⟨h7, h8⟩ := an2 h6
     rw [nbeq h3, nbeq h4, nbeq h5, nbeq h7, nbeq h8]
   · cases h
 | .ue b o n, w, h => by
   rw [veq.eq_def] at h
   dsimp only at h
   split at h
   · obtain ⟨h1, h2⟩ := an2 h
     obtain ⟨h3, h4⟩ := an2 h2
     rw [nbeq h1, nbeq h3, nbeq h4]
   · cases h
 | .l0, w, h => by
   rw [veq.eq_def] at h
   dsimp only at h
   split at h
   · rfl
   · cases h
 | .m b, w, h => by
   rw [veq.eq_def] at h
   dsimp only at h
   split at h
   · rw [nbeq h]
   · cases h
 | .m0, w, h => by
   rw [veq.eq_def] at h
   dsimp only at h
   split at h
   · rfl
   · cases h
 | .f f a d, w, h => by
   rw [veq.eq_def] at h
   dsimp only at h
   split at h
   · obtain ⟨h1, h2⟩ := an2 h
     obtain ⟨h3, h4⟩ := an2 h2
     rw [nbeq h1, vseq_eq _ _ h3, vseq_eq _ _ h4]
   · cases h
 | .y b, w, h => by
   rw [veq.eq_def] at h
   dsimp only at h
   split at h
   · rw [nbeq h]
   · cases h
 | .f0, w, h => by
   rw [veq.eq_def] at h
   dsimp only at h
   split at h
   · rfl
   · cases h
 | .a t v, w, h => by
   rw [veq.eq_def] at h
   dsimp only at h
   split at h
   · obtain ⟨h1, h2⟩ := an2 h
     rw [nbeq h1, veq_eq _ _ h2]
   · cases h
 | .a0, w, h => by
   rw [veq.eq_def] at h
   dsimp only at h
   split at h
   · rfl
   · cases h
 | .g l, w, h => by
   rw [veq.eq_def] at h
   dsimp only at h
   split at h
   · rw [vseq_eq _ _ h]
   · cases h
 | .t l, w, h => by
   rw [veq.eq_def] at h
   dsimp only at h
   split at h
   · rw [vseq_eq _ _ h]
   · cases h
theorem vseq_eq : ∀ a b : List V, vseq a b = true → a = b
 | [], w, h => by
   rw [vseq.eq_def] at h
   dsimp only at h
   split at h
   · rfl
   · cases h
 | x :: r, w, h => by
   rw [vseq.eq_def] at h
   dsimp only at h
   split at h
   · obtain ⟨h1, h2⟩ := an2 h
     rw [veq_eq _ _ h1, vseq_eq _ _ h2]
   · cases h
end
def oveq : Option V → Option V → Bool
 | none, none => true
 | some x, some y => veq x y
 | _, _ => false
theorem oveq_eq {a b : Option V} (h : oveq a b = true) : a = b := by
 cases a <;> cases b <;> first | rfl | cases h | exact congrArg some (veq_eq _ _ h)
def treq : T → T → Bool
 | .e, w => match w with | .e => true | _ => false
 | .n l v r, w => match w with | .n l' v' r' => oveq v v' && (treq l l' && treq r r') | _ => false
theorem treq_eq : ∀ a b : T, treq a b = true → a = b
 | .e, w, h => by
   rw [treq.eq_def] at h
   dsimp only at h
   split at h
   · rfl
   · cases h
 | .n l v r, w, h => by
   rw [treq.eq_def] at h
   dsimp only at h
   split at h
   · obtain ⟨h1, h2⟩ := an2 h
     obtain ⟨h3, h4⟩ := an2 h2
     rw [oveq_eq h1, treq_eq _ _ h3, treq_eq _ _ h4]
   · cases h
def eseq : List (V × V × Nat) → List (V × V × Nat) → Bool
 | [], w => match w with | [] => true | _ => false
 | x :: r, w => match w with | y :: r' => (veq x.1 y.1 && (veq x.2.1 y.2.1 && Nat.beq x.2.2 y.2.2)) && eseq r r' | [] => false
theorem eseq_eq : ∀ a b, eseq a b = true → a = b
 | [], w, h => by
   rw [eseq.eq_def] at h
   dsimp only at h
   split at h
   · rfl
   · cases h
 | (x1, x2, x3) :: r, w, h => by
   rw [eseq.eq_def] at h
   dsimp only at h
   split at h
   · rename_i y r'
     obtain ⟨y1, y2, y3⟩ := y
     obtain ⟨h1, h2⟩ := an2 h
     obtain ⟨h3, h4⟩ := an2 h1
     obtain ⟨h5, h6⟩ := an2 h4
     have a1 : x1 = y1 := veq_eq _ _ h3
     have a2 : x2 = y2 := veq_eq _ _ h5
     have a3 : x3 = y3 := nbeq h6
     rw [a1, a2, a3, eseq_eq _ _ h2]
   · cases h
def bkeq : Blk → Blk → Bool
 | .cells ty n ex fz str d t, w => match w with | .cells ty' n' ex' fz' str' d' t' => (Nat.beq ty ty' && Nat.beq n n') && ((beqB ex ex' && Nat.beq fz fz') && (beqB str str' && (vseq d d' && treq t t'))) | _ => false
 | .map es k, w => match w with | .map es' k' => Nat.beq k k' && eseq es es' | _ => false
 | _, _ => false
theorem bkeq_eq {a b : Blk} (h : bkeq a b = true) : a = b := by
 cases a with
 | cells ty n ex fz str d t =>
   cases b with
   | cells ty' n' ex' fz' str' d' t' =>
     obtain ⟨h1, h2⟩ := an2 (show ((Nat.beq ty ty' && Nat.beq n n') && ((beqB ex ex' && Nat.beq fz fz') && (beqB str str' && (vseq d d' && treq t t')))) = true from h)
     obtain ⟨h3, h4⟩ := an2 h1
     obtain ⟨h5, h6⟩ := an2 h2
     obtain ⟨h7, h8⟩ := an2 h5
     obtain ⟨h9, h10⟩ := an2 h6
     obtain ⟨h11, h12⟩ := an2 h10
     rw [nbeq h3, nbeq h4, beqB_eq h7, nbeq h8, beqB_eq h9, vseq_eq _ _ h11, treq_eq _ _ h12]
   | _ => cases h
 | map es k =>
   cases b with
   | map es' k' =>
     obtain ⟨h1, h2⟩ := an2 (show (Nat.beq k k' && eseq es es') = true from h)
     rw [nbeq h1, eseq_eq _ _ h2]
   | _ => cases h
 | _ => cases h
def obk (o : Option Blk) (blk : Blk) : Bool := match o with
 | some x => bkeq x blk
 | none => false
def holds (M : Mem) : List (Nat × Blk) → Bool
 | [] => true
 | (b, blk) :: r => obk (M.get b) blk && holds M r
def setAll (M : Mem) : List (Nat × Blk) → Mem
 | [] => M
 | (b, blk) :: r => (M.set b blk).force fun M => setAll M r
theorem setAll_get : ∀ (l : List (Nat × Blk)) (M : Mem) (b : Nat) (blk : Blk), (setAll M l).get b = some blk → (b, blk) ∈ l ∨ (M.get b = some blk ∧ ∀ x ∈ l, x.1 ≠ b)
 | [], M, b, blk, h => .inr ⟨h, fun x hx => by cases hx⟩
 | (b', blk') :: r, M, b, blk, h => by
   have h' : (setAll (M.set b' blk') r).get b = some blk := by
    have e : setAll M ((b', blk') :: r) = (M.set b' blk').force fun M => setAll M r := rfl
    rw [e, Tr.force_eq] at h; exact h
   rcases setAll_get r _ b blk h' with h1 | ⟨h1, h2⟩
   · exact .inl (List.mem_cons_of_mem _ h1)
   · rw [Tr.get_set] at h1
     by_cases e : b = b'
     · subst e
       rw [if_pos rfl] at h1
       obtain rfl := Option.some.inj h1
       exact .inl (List.mem_cons_self ..)
     · rw [if_neg e] at h1
       exact .inr ⟨h1, fun x hx => by
        rcases List.mem_cons.1 hx with rfl | hx
        · exact fun e' => e e'.symm
        · exact h2 x hx⟩
end
section
variable {P : Program} {Φ : Nat → Option CF} {rd : Option Nat} {fn nt : Nat} {F : RO}
def Sat (P : Program) (rd : Option Nat) (nt : Nat) (F : RO) (code : Code) (t : T) (d : List Nat) (M : Mem) (ct : Nat) (Q : Ex → T → List Nat → Mem → Nat → Prop) : Prop :=
 ∀ (Bd : List Deferred) (E : Env) (c : Nat → Prop) (w : World) (a : Act), SR P Bd F rd nt E c w a t d M ct →
  ∀ Qm : Exit → Act → World → Prop, (∀ e t' d' M' ct', Q e t' d' M' ct' → ∀ a' w', Res P Bd F rd nt E c w M ct t' d' M' ct' a' w' → Qm (exOf e) a' w') → code.wpIn (fence E rd) 0 P Qm a w
theorem Sat.mono {code : Code} {t : T} {d : List Nat} {M : Mem} {ct : Nat} {Q Q' : Ex → T → List Nat → Mem → Nat → Prop} (h : Sat P rd nt F code t d M ct Q) (hQ : ∀ e t' d' M' ct', Q e t' d' M' ct' → Q' e t' d' M' ct') : Sat P rd nt F code t d M ct Q' :=
 fun Bd E c w a hS Qm hm => h Bd E c w a hS Qm fun e t' d' M' ct' hq => hm e t' d' M' ct' (hQ _ _ _ _ _ hq)
theorem Sat.of_den (hm : P.follows .mixedOrders = true) (hΦ : PhiOk P Φ) {code : Code} {cc : CC} (hs : Sim P nt code cc) {t : T} {d : List Nat} {M : Mem} {ct : Nat} {Q : Ex → T → List Nat → Mem → Nat → Prop}
  {e : Ex} {t' : T} {d' : List Nat} {M' : Mem} {ct' : Nat} (h : den Φ rd fn F cc (.mk t d M ct) = .k e (.mk t' d' M' ct')) (hq : Q e t' d' M' ct') : Sat P rd nt F code t d M ct Q := by
 intro Bd E c w a hS Qm hQ
 exact den_ok hm hΦ rd fn F cc t d M ct e t' d' M' ct' h nt code hs E c w a hS Qm fun a' w' hr => hQ e t' d' M' ct' hq a' w' hr
theorem Sat.seq {x y : Code} {t : T} {d : List Nat} {M : Mem} {ct : Nat} {Q1 Q : Ex → T → List Nat → Mem → Nat → Prop} (h1 : Sat P rd nt F x t d M ct Q1)
  (h2 : ∀ t1 d1 M1 c1, Q1 .nrm t1 d1 M1 c1 → Sat P rd nt F y t1 d1 M1 c1 Q) (h3 : ∀ e t1 d1 M1 c1, e ≠ .nrm → Q1 e t1 d1 M1 c1 → Q e t1 d1 M1 c1) : Sat P rd nt F (.seq x y) t d M ct Q := by
 intro Bd E c w a hS Qm hQ
 refine wpIn_seq ?_
 refine h1 Bd E c w a hS _ ?_
 intro e t1 d1 M1 c1 hq a1 w1 hr
 by_cases he : e = .nrm
 · subst he
   obtain ⟨E1, k1, hS1, hG1, hR1⟩ := hr
   show y.wpIn (fence E rd) 0 P Qm a1 w1
   rw [← fence_ext hS1.ext hS.rd]
   exact h2 t1 d1 M1 c1 hq Bd E1 k1 w1 a1 hR1 Qm fun e2 t2 d2 M2 c2 hq2 a2 w2 hr2 => hQ e2 t2 d2 M2 c2 hq2 a2 w2 (hr2.trans hS1 hG1)
 · exact then_of_ne he (hQ e t1 d1 M1 c1 (h3 e t1 d1 M1 c1 he hq) a1 w1 hr)
def inBlk (id : Nat) : Ex → Ex
 | .ext i => if i = id then .nrm else .ext i
 | e => e
theorem inBlk_ok {id : Nat} {e : Ex} {Q : Exit → Act → World → Prop} {a : Act} {w : World} (h : Q (exOf (inBlk id e)) a w) : Exit.inBlock id Q (exOf e) a w := by
 cases e with
 | ext i =>
   simp only [exOf, Exit.inBlock]
   by_cases hi : i = id
   · have e : inBlk id (.ext i) = .nrm := if_pos hi
     rw [e] at h; rw [if_pos hi]; exact h
   · have e : inBlk id (.ext i) = .ext i := if_neg hi
     rw [e] at h; rw [if_neg hi]; exact h
 | nrm => exact h
 | ret => exact h
 | gto l => exact h
theorem Sat.block {id : Nat} {x : Code} {t : T} {d : List Nat} {M : Mem} {ct : Nat} {Q : Ex → T → List Nat → Mem → Nat → Prop} (h : Sat P rd nt F x t d M ct fun e => Q (inBlk id e)) : Sat P rd nt F (.block id x) t d M ct Q := by
 intro Bd E c w a hS Qm hQ
 exact wpIn_block (h Bd E c w a hS _ fun e t1 d1 M1 c1 hq a1 w1 hr => inBlk_ok (hQ _ t1 d1 M1 c1 hq a1 w1 hr))
theorem Sat.rounds {x : Code} {Q : Ex → T → List Nat → Mem → Nat → Prop} (I : Nat → T → List Nat → Mem → Nat → Prop)
  (h : ∀ n t d M ct, I n t d M ct → Sat P rd nt F x t d M ct fun e t' d' M' ct' => (e = .nrm ∧ ∃ m, m < n ∧ I m t' d' M' ct') ∨ (e ≠ .nrm ∧ Q e t' d' M' ct')) :
  ∀ n t d M ct, I n t d M ct → Sat P rd nt F (.loop x) t d M ct Q := by
 intro n t d M ct hI Bd E c w a hS Qm hQ
 refine wpIn_loop_rounds (n + 1) ?_
 have key : ∀ k n t d M ct, n < k → I n t d M ct → ∀ (E : Env) (c : Nat → Prop) (w : World) (a : Act), SR P Bd F rd nt E c w a t d M ct → (∀ e t' d' M' ct', Q e t' d' M' ct' → ∀ a' w', Res P Bd F rd nt E c w M ct t' d' M' ct' a' w' → Qm (exOf e) a' w') → Code.roundsIn (fence E rd) 0 P x Qm k a w := by
  intro k
  induction k with
  | zero => intro n t d M ct hn; omega
  | succ k ih =>
    intro n t d M ct hn hI E c w a hS hQ
    rw [roundsIn_succ]
    refine h n t d M ct hI Bd E c w a hS _ ?_
    rintro e t1 d1 M1 c1 (⟨rfl, m, hm, hI1⟩ | ⟨he, hq⟩) a1 w1 hr
    · obtain ⟨E1, k1, hS1, hG1, hR1⟩ := hr
      show Code.roundsIn (fence E rd) 0 P x Qm k a1 w1
      rw [← fence_ext hS1.ext hS.rd]
      exact ih m t1 d1 M1 c1 (by omega) hI1 E1 k1 w1 a1 hR1 fun e2 t2 d2 M2 c2 hq2 a2 w2 hr2 => hQ e2 t2 d2 M2 c2 hq2 a2 w2 (hr2.trans hS1 hG1)
    · exact then_of_ne he (hQ e t1 d1 M1 c1 hq a1 w1 hr)
 exact key (n + 1) n t d M ct (Nat.lt_succ_self n) hI E c w a hS hQ
theorem nextM_any {w : World} {ty r m : Nat} {esr : List MapEntry} {clock since st : Nat} {seen : List Nat} (hr : w.heap[r]? = some (.mapIter (some m) since seen.toArray st)) (hm : w.heap[m]? = some (.map esr.toArray clock))
  (hold : ∀ e ∈ esr, e.born < since) (hst : since ≤ st) :
  (esr.filter (fun e => !seen.contains e.born) = [] → (Instr.next (.pointer (some ⟨r, 0, none⟩)) false ty).run P w = .ok (.tuple #[.bool false]) w) ∧
  (esr.filter (fun e => !seen.contains e.born) ≠ [] → ∃ e ∈ esr.filter (fun e => !seen.contains e.born), ∃ w0 : World, (w0 = w ∨ w0 = w.drew) ∧ (Instr.next (.pointer (some ⟨r, 0, none⟩)) false ty).run P w = .ok (.tuple #[.bool true, e.key, e.val]) { w0 with heap := w.heap.setIfInBounds r (.mapIter (some m) since (seen.toArray.push e.born) clock) }) := by
 have hgo := run_getObj_other (P := P) hr (by intros; simp)
 have hgm := run_getObj_map (P := P) hm
 have hc : (!seen.toArray.isEmpty && !esr.toArray.isEmpty && esr.toArray.all (fun e => decide (e.born ≥ st))) = false := by
  cases esr with
  | nil => simp
  | cons h0 r0 =>
    have := hold h0 (by simp)
    simp
    intro _ h1; omega
 generalize hl : esr.filter (fun e => !seen.contains e.born) = left
 have hleft : esr.toArray.filter (fun e => !seen.toArray.contains e.born) = left.toArray := by
  rw [List.filter_toArray', ← hl]
  · simp
  · simp
 have hlold : ∀ e ∈ left, e.born < since := by
  intro e he
  rw [← hl] at he
  exact hold e (List.mem_filter.1 he).1
 have h1 : left.toArray.filter (fun e => decide (e.born < since)) = left.toArray := by
  rw [List.filter_toArray' (by simp)]
  congr 1
  exact List.filter_eq_self.2 fun e he => by simpa using hlold e he
 have h2 : left.toArray.filter (fun e => decide (e.born ≥ since)) = #[] := by
  rw [List.filter_toArray' (by simp)]
  rw [List.filter_eq_nil_iff.2]
  intro e he; have := hlold e he; simp; omega
 constructor
 · intro e0
   subst e0
   simp only [Instr.next, Sem.run_bind, hgo, hgm, Result.andThen_ok, hc, Bool.false_eq_true, if_false, Sem.run_ite, Sem.run_pure, hleft, h1, h2]
   simp [Question.forced]
 · intro hne
   have hnil : left.toArray.isEmpty = false := by cases left with
    | nil => exact absurd rfl hne
    | cons _ _ => rfl
   have hcand : ((if left.toArray.isEmpty = true then #[none] else #[]) ++ (left.toArray ++ #[]).map some : Array (Option MapEntry)) = (left.map some).toArray := by
    rw [hnil]; simp
   have hsz : ((left.map some).toArray : Array (Option MapEntry)).size = left.length := by simp
   have hpos : 0 < left.length := List.length_pos_iff.2 hne
   have hnx : ∀ w : World, (Instr.next (.pointer (some ⟨r, 0, none⟩)) false ty).run P w = (Instr.next (.pointer (some ⟨r, 0, none⟩)) false ty).run P w := fun _ => rfl
   simp only [Instr.next, Sem.run_bind, hgo, hgm, Result.andThen_ok, hc, Bool.false_eq_true, if_false, Sem.run_ite, Sem.run_pure, hleft, h1, h2, hcand, hsz]
   have hch : ∃ k w0, k < left.length ∧ (w0 = w ∨ w0 = w.drew) ∧ (choose (.mapNext left.length)).run P w = .ok k w0 := by
    by_cases h1 : left.length ≤ 1
    · refine ⟨0, w, hpos, .inl rfl, ?_⟩
      show (if Question.forced (.mapNext left.length) = true then _ else _) = _
      rw [if_pos (by simpa [Question.forced] using h1)]
      rfl
    · refine ⟨(Question.mapNext left.length).cut (w.tape w.drawn (.mapNext left.length)), w.drew, Nat.mod_lt _ hpos, .inr rfl, ?_⟩
      show (if Question.forced (.mapNext left.length) = true then _ else _) = _
      rw [if_neg (by simpa [Question.forced] using h1)]
      rfl
   obtain ⟨k, w0, hk, hw0, hrun⟩ := hch
   have hheap : w0.heap = w.heap := by rcases hw0 with rfl | rfl <;> rfl
   refine ⟨left[k], List.getElem_mem hk, w0, hw0, ?_⟩
   rw [hrun, Result.andThen_ok]
   have hget : (List.map some left).toArray[k]? = some (some left[k]) := by simp [hk]
   have hso := run_setObj (P := P) (w := w0) (o' := .mapIter (some m) since (seen.toArray.push left[k].born) clock) (by rw [hheap]; exact hr) (by intros; simp)
   rw [hget]
   simp only [Sem.run_bind, hso, Result.andThen_ok, Sem.run_pure]
   rw [hheap]
theorem leftE_map (E : Env) (seen : List Nat) (es : List (V × V × Nat)) : (es.map (entry E)).filter (fun e => !seen.contains e.born) = (leftE seen es).map (entry E) := by
 rw [leftE_eq, List.filter_map]; rfl
theorem Sat.mapNextL (hm : P.follows .mixedOrders = true) (hΦ : PhiOk P Φ) {id : Nat} {ops : Array Oper} {o1 : Oper} {l : List Oper} (hops : ops.toList = o1 :: l) {y : Operand} (hop : o1.op = .next y false) {x : X} (hx : compX y = some x) {n1 : Nat} (hd1 : o1.dst = some n1) (hg1 : o1.guard = none) (hn1 : n1 < nt)
  {cos : List CO} (hc2 : compOs P nt ops l = some cos) {t : T} {d : List Nat} {M : Mem} {ct : Nat} {b m since st clock : Nat} {seen : List Nat} {es : List (V × V × Nat)} (hit : x.ev t = .p b 0) (hM : M.get b = some (.miter (some m) since seen st)) (hmap : look F M m = some (.map es clock)) (hord : ordd clock = true)
  (hold : allOld since es = true) (hst : since ≤ st) {Q : Ex → T → List Nat → Mem → Nat → Prop}
  (stop : leftE seen es = [] → ∃ t' d' M' ct', seqOps cos (.mk Φ (den Φ) rd fn F) (.mk (t.setP (posOf n1) (.t [.b false])) d M ct) = some (.mk t' d' M' ct') ∧ Q .nrm t' d' M' ct')
  (go : ∀ e ∈ leftE seen es, ∃ t' d' M' ct', seqOps cos (.mk Φ (den Φ) rd fn F) (.mk (t.setP (posOf n1) (.t [.b true, e.1, e.2.1])) d (M.set b (.miter (some m) since (seen ++ [e.2.2]) clock)) ct) = some (.mk t' d' M' ct') ∧ Q .nrm t' d' M' ct') :
  Sat P rd nt F (.region id ops false) t d M ct Q := by
 intro Bd E c w a hS Qm hQ
 have hcall := callOk_of hΦ (den_ok hm hΦ) rd fn F
 have hy := yieldOk_of (Φ := Φ) (den_ok hm hΦ) rd fn F
 refine wpIn_region ?_
 have hsz : ops.size = l.length + 1 := by
  have := congrArg List.length hops
  simpa using this
 have h0 : ops[0]? = some o1 := by
  have : ops.toList[0]? = some o1 := by rw [hops]; rfl
  simpa using this
 rw [hsz, List.range_eq_range', List.range'_succ]
 have hwt : Region.wanted o1 (yielded ops a.tmps) = true := by unfold Region.wanted; rw [hg1]
 simp only [wpOpsIn.eq_2, h0, hwt, if_true]
 refine ⟨fun _ _ => trivial, ?_⟩
 rw [Oper.semAt_eq _ _ _ (fun cl => by rw [hop]; intro h; cases h)]
 have e := hS.cx.ev hx
 rw [hit] at e
 obtain ⟨_, hbb, ob, hob, hβ, rfl⟩ := hS.cx.rel.has _ _ (look_some_M hM)
 have hpt : a.eval y = .pointer (some ⟨E.ρ b, 0, none⟩) := by rw [e.1]; simp [conc, hβ]
 obtain ⟨ho, hbd⟩ := hS.cx.mapO hmap hord
 have hold0 := allOld_iff since es hold
 have hold' : ∀ e ∈ es.map (entry E), e.born < since := by
  intro e' he'
  obtain ⟨e0, h0, rfl⟩ := List.mem_map.1 he'
  exact hold0 e0 h0
 have key := nextM_any (P := P) (ty := o1.type) hob ho hold' hst
 rw [leftE_map] at key
 have tail : ∀ (E1 : Env) (c1 : Nat → Prop) (w1 : World) (a1 : Act) (t1 : T) (M1 : Mem), SR P Bd F rd nt E1 c1 w1 a1 t1 d M1 ct → fence E1 rd = fence E rd → Stp P F E M c w E1 M1 c1 w1 → Grow c ct c1 ct → (∃ t' d' M' ct', seqOps cos (.mk Φ (den Φ) rd fn F) (.mk t1 d M1 ct) = some (.mk t' d' M' ct') ∧ Q .nrm t' d' M' ct') →
   wpOpsIn (fence E rd) 0 P ops (fun e a w => Qm e a w) (List.range' (0 + 1) l.length) a1 w1 := by
  rintro E1 c1 w1 a1 t1 M1 hS1 hfe hSt hGr ⟨t', d', M', ct', hs, hq⟩
  have := seq_ok (F := F) (rd := rd) (nt := nt) hcall hy (ops := ops) (Q := fun e a w => Qm e a w) l cos 1 E1 c1 w1 a1 t1 M1 ct (by rw [hops]; rfl) hc2 (by
   have : knF (.mk Φ (den Φ) rd fn F) F = .mk Φ (den Φ) rd fn F := rfl
   rw [this]; exact hs) hS1 fun a' w' hr => hQ .nrm t' d' M' ct' hq a' w' (hr.trans hSt hGr)
  rw [hfe] at this
  exact this
 by_cases hle : leftE seen es = []
 · have hrun := key.1 (by rw [hle]; rfl)
   have hex : (execOp a.eval o1).run P w = .ok (.value (.tuple #[.bool false])) w := by
    simp only [execOp, hop]
    refine val_run ?_
    rw [hpt]; exact hrun
   rw [hex, Oper.uponIn_value, hd1]
   refine tail E c w _ (t.setP (posOf n1) (.t [.b false])) M ?_ rfl (.refl hS.cx.rel) (.refl _ _) (stop hle)
   exact hS.put (dst := some n1) (by simpa [dstOk] using hn1) (v := .t [.b false]) (by simp [conc, concs]) ⟨trivial, trivial⟩
 · obtain ⟨e1, he1, w0, hw0, hrun⟩ := key.2 (by simpa using hle)
   obtain ⟨e0, he0, rfl⟩ := List.mem_map.1 he1
   have hin : e0 ∈ es := by
    rw [leftE_eq] at he0
    exact (List.mem_filter.1 he0).1
   have hex : (execOp a.eval o1).run P w = .ok (.value (.tuple #[.bool true, conc E e0.1, conc E e0.2.1])) { w0 with heap := w.heap.setIfInBounds (E.ρ b) (.mapIter (some (E.ρ m)) since (seen.toArray.push e0.2.2) clock) } := by
    simp only [execOp, hop]
    refine val_run ?_
    rw [hpt]; exact hrun
   have hSt : Stp P F E M c w E (M.set b (.miter (some m) since (seen ++ [e0.2.2]) clock)) c { w0 with heap := w.heap.setIfInBounds (E.ρ b) (.mapIter (some (E.ρ m)) since (seen.toArray.push e0.2.2) clock) } :=
    hS.cx.rel.write b _ (.miter (some m) since (seen ++ [e0.2.2]) clock) hM (.mapIter (some (E.ρ m)) since (seen.toArray.push e0.2.2) clock) hbb _ rfl (by rcases hw0 with rfl | rfl <;> rfl) (by rcases hw0 with rfl | rfl <;> rfl) (by rcases hw0 with rfl | rfl <;> rfl) ⟨hβ, by simp⟩
   rw [hex, Oper.uponIn_value, hd1]
   refine tail E c _ _ (t.setP (posOf n1) (.t [.b true, e0.1, e0.2.1])) (M.set b (.miter (some m) since (seen ++ [e0.2.2]) clock)) ?_ rfl hSt (.refl _ _) (go e0 he0)
   exact (hS.stp hSt (.refl _ _)).put (dst := some n1) (by simpa [dstOk] using hn1) (v := .t [.b true, e0.1, e0.2.1]) (by simp [conc, concs]) ⟨trivial, (hbd _ hin).1, (hbd _ hin).2, trivial⟩
end
noncomputable section
end
section
variable {P : Program} {Φ : Nat → Option CF} {rd : Option Nat} {fn nt : Nat} {F : RO}
theorem sim_seq {code : Code} {a b : CC} (h : Sim P nt code (.seq a b)) : ∃ x y, code = .seq x y ∧ Sim P nt x a ∧ Sim P nt y b := by
 obtain ⟨n, h⟩ := h
 cases n with
 | zero => cases h
 | succ n =>
   unfold compC at h
   cases code with
   | seq x y =>
     dsimp only at h
     split at h
     · rename_i a' b' h1 h2
       have h' := Option.some.inj h
       injection h' with e1 e2
       subst e1 e2
       exact ⟨x, y, rfl, ⟨n, h1⟩, ⟨n, h2⟩⟩
     · cases h
   | region id ops dr =>
     cases dr with
     | false => obtain ⟨z, _, e⟩ := Option.map_eq_some_iff.1 h; cases e
     | true =>
       dsimp only at h
       split at h
       · rename_i cos hcos
         have h' := Option.some.inj h
         unfold dregC dregD at h'
         have hb : ∀ (b : Bool) (x y : CC), (bif b then x else y) = x ∨ (bif b then x else y) = y := by intro b; cases b <;> simp
         rcases hb (regOk ops.toList (Region.before ops).toList ops.size (canon (Region.before ops).toList cos ops.size 0)) (.dreg ops.size (canon (Region.before ops).toList cos ops.size 0)) .bad with hh | hh
         · rw [hh] at h'; cases h'
         · rw [hh] at h'; cases h'
       · cases h
   | skip => cases h
   | label l => cases h
   | cond o x y => dsimp only at h; split at h <;> cases h
   | block id x => obtain ⟨z, _, e⟩ := Option.map_eq_some_iff.1 h; cases e
   | loop x => obtain ⟨z, _, e⟩ := Option.map_eq_some_iff.1 h; cases e
   | rangeFunc g ps x y => dsimp only at h; split at h; cases h; split at h <;> cases h
   | exit id => cases h
   | scope x => dsimp only at h; split at h <;> cases h
   | goto l => cases h
   | ret => cases h
   | refuse s => cases h
theorem sim_block {code : Code} {id : Nat} {b : CC} (h : Sim P nt code (.block id b)) : ∃ y, code = .block id y ∧ Sim P nt y b := by
 obtain ⟨n, h⟩ := h
 cases n with
 | zero => cases h
 | succ n =>
   unfold compC at h
   cases code with
   | block id x =>
     obtain ⟨z, hz, e⟩ := Option.map_eq_some_iff.1 h
     injection e with e1 e2
     subst e1 e2
     exact ⟨x, rfl, n, hz⟩
   | region id ops dr =>
     cases dr with
     | false => obtain ⟨z, _, e⟩ := Option.map_eq_some_iff.1 h; cases e
     | true =>
       dsimp only at h
       split at h
       · rename_i cos hcos
         have h' := Option.some.inj h
         unfold dregC dregD at h'
         have hb : ∀ (b : Bool) (x y : CC), (bif b then x else y) = x ∨ (bif b then x else y) = y := by intro b; cases b <;> simp
         rcases hb (regOk ops.toList (Region.before ops).toList ops.size (canon (Region.before ops).toList cos ops.size 0)) (.dreg ops.size (canon (Region.before ops).toList cos ops.size 0)) .bad with hh | hh
         · rw [hh] at h'; cases h'
         · rw [hh] at h'; cases h'
       · cases h
   | skip => cases h
   | label l => cases h
   | cond o x y => dsimp only at h; split at h <;> cases h
   | seq x y => dsimp only at h; split at h <;> cases h
   | loop x => obtain ⟨z, _, e⟩ := Option.map_eq_some_iff.1 h; cases e
   | rangeFunc g ps x y => dsimp only at h; split at h; cases h; split at h <;> cases h
   | exit id => cases h
   | scope x => dsimp only at h; split at h <;> cases h
   | goto l => cases h
   | ret => cases h
   | refuse s => cases h
theorem sim_loop {code : Code} {b : CC} (h : Sim P nt code (.loop b)) : ∃ y, code = .loop y ∧ Sim P nt y b := by
 obtain ⟨n, h⟩ := h
 cases n with
 | zero => cases h
 | succ n =>
   unfold compC at h
   cases code with
   | loop x =>
     obtain ⟨z, hz, e⟩ := Option.map_eq_some_iff.1 h
     injection e with e1
     subst e1
     exact ⟨x, rfl, n, hz⟩
   | region id ops dr =>
     cases dr with
     | false => obtain ⟨z, _, e⟩ := Option.map_eq_some_iff.1 h; cases e
     | true =>
       dsimp only at h
       split at h
       · rename_i cos hcos
         have h' := Option.some.inj h
         unfold dregC dregD at h'
         have hb : ∀ (b : Bool) (x y : CC), (bif b then x else y) = x ∨ (bif b then x else y) = y := by intro b; cases b <;> simp
         rcases hb (regOk ops.toList (Region.before ops).toList ops.size (canon (Region.before ops).toList cos ops.size 0)) (.dreg ops.size (canon (Region.before ops).toList cos ops.size 0)) .bad with hh | hh
         · rw [hh] at h'; cases h'
         · rw [hh] at h'; cases h'
       · cases h
   | skip => cases h
   | label l => cases h
   | cond o x y => dsimp only at h; split at h <;> cases h
   | seq x y => dsimp only at h; split at h <;> cases h
   | block id x => obtain ⟨z, _, e⟩ := Option.map_eq_some_iff.1 h; cases e
   | rangeFunc g ps x y => dsimp only at h; split at h; cases h; split at h <;> cases h
   | exit id => cases h
   | scope x => dsimp only at h; split at h <;> cases h
   | goto l => cases h
   | ret => cases h
   | refuse s => cases h
theorem sim_reg {code : Code} {cos : List CO} (h : Sim P nt code (.reg cos)) : ∃ id ops, code = .region id ops false ∧ compOs P nt ops ops.toList = some cos := by
 obtain ⟨n, h⟩ := h
 cases n with
 | zero => cases h
 | succ n =>
   unfold compC at h
   cases code with
   | region id ops dr =>
     cases dr with
     | false =>
       obtain ⟨z, hz, e⟩ := Option.map_eq_some_iff.1 h
       injection e with e1
       subst e1
       exact ⟨id, ops, rfl, hz⟩
     | true =>
       dsimp only at h
       split at h
       · rename_i cos hcos
         have h' := Option.some.inj h
         unfold dregC dregD at h'
         have hb : ∀ (b : Bool) (x y : CC), (bif b then x else y) = x ∨ (bif b then x else y) = y := by intro b; cases b <;> simp
         rcases hb (regOk ops.toList (Region.before ops).toList ops.size (canon (Region.before ops).toList cos ops.size 0)) (.dreg ops.size (canon (Region.before ops).toList cos ops.size 0)) .bad with hh | hh
         · rw [hh] at h'; cases h'
         · rw [hh] at h'; cases h'
       · cases h
   | skip => cases h
   | label l => cases h
   | cond o x y => dsimp only at h; split at h <;> cases h
   | seq x y => dsimp only at h; split at h <;> cases h
   | block id x => obtain ⟨z, _, e⟩ := Option.map_eq_some_iff.1 h; cases e
   | loop x => obtain ⟨z, _, e⟩ := Option.map_eq_some_iff.1 h; cases e
   | rangeFunc g ps x y => dsimp only at h; split at h; cases h; split at h <;> cases h
   | exit id => cases h
   | scope x => dsimp only at h; split at h <;> cases h
   | goto l => cases h
   | ret => cases h
   | refuse s => cases h
theorem compOp_nxm {op : Op} {x : X} (h : compOp P op = some (.e (.nxm x))) : ∃ y, op = .next y false ∧ compX y = some x := by
 cases op with
 | next y b =>
   cases b with
   | false =>
     obtain ⟨z, hz, e⟩ := Option.map_eq_some_iff.1 h
     injection e with e; injection e with e; subst e
     exact ⟨y, rfl, hz⟩
   | true => obtain ⟨z, hz, e⟩ := Option.map_eq_some_iff.1 h; cases e
 | makeFunc fn l1 l2 =>
   exfalso
   cases fn with
   | func f => simp only [compOp] at h; split at h <;> cases h
   | _ => cases h
 | makeMap ty r => cases r <;> cases h
 | _ =>
   exfalso
   simp only [compOp] at h
   first
    | (cases h; done)
    | (unfold compBuiltin compExtern at h
       repeat' first | (cases h; done) | split at h
       all_goals first
        | (obtain ⟨z, _, e⟩ := Option.bind_eq_some_iff.1 h; first | (cases e; done) | (split at e <;> cases e; done))
        | (obtain ⟨z, _, e⟩ := Option.map_eq_some_iff.1 h; cases e; done))
    | (repeat' first | (cases h; done) | split at h
       all_goals first
        | (obtain ⟨z, _, e⟩ := Option.bind_eq_some_iff.1 h; first | (cases e; done) | (split at e <;> cases e; done))
        | (obtain ⟨z, _, e⟩ := Option.map_eq_some_iff.1 h; cases e; done))
theorem compOs_cons {ops : Array Oper} {o : Oper} {l : List Oper} {cos : List CO} (h : compOs P nt ops (o :: l) = some cos) : ∃ co cr, compO P nt ops o = some co ∧ compOs P nt ops l = some cr ∧ cos = co :: cr := by
 rw [compOs] at h
 split at h
 · rename_i co cr h1 h2
   exact ⟨co, cr, h1, h2, (Option.some.inj h).symm⟩
 · cases h
end
noncomputable section
end
def BW (b0 b1 : Blk) : Prop := b0 = b1 ∨ ∃ ty n ex fz str d0 d c0 c, b0 = .cells ty n ex fz str d0 c0 ∧ b1 = .cells ty n ex fz str d c ∧ ∀ k v, cell n d c k = some v → cell n d0 c0 k = some v
theorem BW.rel {P : Program} {E : Env} {b : Nat} {b0 b1 : Blk} (h : BW b0 b1) {o : Obj} (hr : BlkRel P E b b0 o) : BlkRel P E b b1 o := by
 rcases h with rfl | ⟨ty, n, ex, fz, str, d0, d, c0, c, rfl, rfl, h⟩
 · exact hr
 · obtain ⟨arr, fr, rfl, hc⟩ := hr
   exact ⟨arr, fr, rfl, fun k v hk => hc.cell k v (h k v hk), hc.size, hc.free, hc.plain⟩
theorem BW.bd {p : Nat → Prop} {b0 b1 : Blk} (h : BW b0 b1) (hb : bdBlk p b0) : bdBlk p b1 := by
 rcases h with rfl | ⟨ty, n, ex, fz, str, d0, d, c0, c, rfl, rfl, h⟩
 · exact hb
 · exact fun k v hk => hb k v (h k v hk)
theorem orc_self {P : Program} (hm : P.follows .mixedOrders = true) {Φ : Nat → Option CF} (hΦ : PhiOk P Φ) {f : Nat} : OrcOk P f (fun F args M ct => callC (den Φ) F f args M ct (Φ f)) :=
 fun F args M ct v M' ct' h E c w hr hglob hbig hf ha => callOk_of (rd := none) (fn := 0) (F₀ := []) hΦ (den_ok hm hΦ) F f args M ct v M' ct' h E c w hr hglob hbig hf ha
def Env.re (E : Env) (τ : Nat → Nat) : Env := ⟨fun b => E.ρ (τ b), fun b => E.β (τ b), fun b => E.κ (τ b)⟩
theorem re_ext {E : Env} {τ : Nat → Nat} {c : Nat → Prop} (h : ∀ b, c b → τ b = b) : Ext c E (E.re τ) :=
 ⟨fun b hb => congrArg E.ρ (h b hb), fun b hb => congrArg E.β (h b hb), fun b hb => congrArg E.κ (h b hb)⟩
def ReV (τ : Nat → Nat) (v1 v : V) : Prop := (∀ E : Env, conc (E.re τ) v = conc E v1) ∧ ∀ k : Nat → Prop, bd k v1 → bd (fun b => k (τ b)) v
theorem ReV.p {τ : Nat → Nat} (b o : Nat) : ReV τ (.p (τ b) o) (.p b o) := ⟨fun E => rfl, fun k h => h⟩
theorem ReV.m {τ : Nat → Nat} (b : Nat) : ReV τ (.m (τ b)) (.m b) := ⟨fun E => rfl, fun k h => h⟩
theorem ReV.i {τ : Nat → Nat} (k : IntKind) (n : Int) : ReV τ (.i k n) (.i k n) := ⟨fun E => rfl, fun k h => h⟩
theorem ReV.b {τ : Nat → Nat} (x : Bool) : ReV τ (.b x) (.b x) := ⟨fun E => rfl, fun k h => h⟩
theorem ReV.s {τ : Nat → Nat} (n x : Nat) : ReV τ (.s n x) (.s n x) := ⟨fun E => rfl, fun k h => h⟩
theorem ReV.l0 {τ : Nat → Nat} : ReV τ .l0 .l0 := ⟨fun E => rfl, fun k h => h⟩
theorem ReV.u {τ : Nat → Nat} (b o n el kn : Nat) : ReV τ (.u (τ b) o n el kn) (.u b o n el kn) := ⟨fun E => rfl, fun k h => h⟩
theorem ReV.l {τ : Nat → Nat} (b o n c : Nat) : ReV τ (.l (τ b) o n c) (.l b o n c) := ⟨fun E => rfl, fun k h => h⟩
def ReB (P : Program) (τ : Nat → Nat) (b : Nat) (b1 b2 : Blk) : Prop := (∀ E o, BlkRel P E (τ b) b1 o → BlkRel P (E.re τ) b b2 o) ∧ ∀ k : Nat → Prop, bdBlk k b1 → bdBlk (fun b => k (τ b)) b2
theorem ReB.cells {P : Program} {τ : Nat → Nat} {b ty n fz : Nat} {ex str : Bool} {d1 d2 : List V} {c1 c2 : T} (h : ∀ k v, cell n d2 c2 k = some v → ∃ v1, cell n d1 c1 k = some v1 ∧ ReV τ v1 v) : ReB P τ b (.cells ty n ex fz str d1 c1) (.cells ty n ex fz str d2 c2) := by
 refine ⟨fun E o hr => ?_, fun k hb i v hv => ?_⟩
 · obtain ⟨arr, fr, rfl, hc⟩ := hr
   refine ⟨arr, fr, rfl, fun k v hk => ?_, hc.size, hc.free, hc.plain⟩
   obtain ⟨v1, h1, h2⟩ := h k v hk
   rw [h2.1]
   exact hc.cell k v1 h1
 · obtain ⟨v1, h1, h2⟩ := h i v hv
   exact h2.2 k (hb i v1 h1)
def ReE (τ : Nat → Nat) (e1 e2 : V × V × Nat) : Prop := ReV τ e1.1 e2.1 ∧ ReV τ e1.2.1 e2.2.1
theorem re_entry {E : Env} {τ : Nat → Nat} {e1 e2 : V × V × Nat} (h : ReE τ e1 e2) (hb : e1.2.2 = e2.2.2) : entry (E.re τ) e2 = entry E e1 := by
 unfold entry; rw [h.1.1, h.2.1, hb]
theorem ReB.map {P : Program} {τ : Nat → Nat} {b k : Nat} {es : List (V × V × Nat)} (hk : ordd k = true) (h : ∀ e ∈ es, ReE τ e e) : ReB P τ b (.map es k) (.map es k) := by
 refine ⟨fun E o hr => ?_, fun c hb e he => ⟨(h e he).1.2 c (hb e he).1, (h e he).2.2 c (hb e he).2⟩⟩
 rcases hr with ⟨h1, rfl⟩ | ⟨h1, _⟩
 · exact .inl ⟨hk, by rw [show es.map (entry (E.re τ)) = es.map (entry E) from List.map_congr_left fun e he => re_entry (h e he) rfl]⟩
 · rw [hk] at h1; cases h1
theorem re_list {τ : Nat → Nat} : ∀ {l1 l2 : List (V × V × Nat)}, l1.length = l2.length → (∀ i (h1 : i < l1.length) (h2 : i < l2.length), ReE τ l1[i] l2[i] ∧ l1[i].2.2 = l2[i].2.2) → ∀ E : Env, l2.map (entry (E.re τ)) = l1.map (entry E)
 | [], [], _, _, _ => rfl
 | [], _ :: _, h, _, _ => by cases h
 | _ :: _, [], h, _, _ => by cases h
 | a :: l1, b :: l2, hl, h, E => by
   have h0 := h 0 (by simp) (by simp)
   rw [List.map_cons, List.map_cons, re_list (by simpa using hl) (fun i h1 h2 => h (i + 1) (by simpa using h1) (by simpa using h2)) E]
   congr 1
   exact re_entry h0.1 h0.2
theorem ReB.umap {P : Program} {τ : Nat → Nat} {b k k2 : Nat} {l1 l2 es : List (V × V × Nat)} (hk : ordd k = true) (hk2 : ordd k2 = false) (hK : KeysI es) (hl : l1.length = l2.length) (h : ∀ i (h1 : i < l1.length) (h2 : i < l2.length), ReE τ l1[i] l2[i] ∧ l1[i].2.2 = l2[i].2.2) (hp : (kvE l2).Perm (kvE es)) : ReB P τ b (.map l1 k) (.map es k2) := by
 refine ⟨fun E o hr => ?_, fun c hb e he => ?_⟩
 · rcases hr with ⟨h1, rfl⟩ | ⟨h1, _⟩
   · exact .inr ⟨hk2, hK, l2, k, by rw [re_list hl h E], hp⟩
   · rw [hk] at h1; cases h1
 · refine perm_sub hp.symm (Q := fun x y => bd (fun b => c (τ b)) x ∧ bd (fun b => c (τ b)) y) ?_ e he
   intro e2 he2
   obtain ⟨i, hi, rfl⟩ := List.mem_iff_getElem.1 he2
   have h3 := h i (by omega) hi
   have h4 := hb l1[i] (List.getElem_mem _)
   exact ⟨h3.1.1.2 c h4.1, h3.1.2.2 c h4.2⟩
structure ReN (P : Program) (τ : Nat → Nat) (M M1 N : Mem) (ct ct' : Nat) (v1 v : V) : Prop where
 fix : ∀ b, b < ct → τ b = b
 le : ct ≤ ct'
 val : ReV τ v1 v
 vb : bd (fun b => b < ct') v
 blk : ∀ b blk, N.get b = some blk → (b < ct ∧ M.get b = some blk ∧ M1.get b = some blk) ∨ (ct ≤ b ∧ b < ct' ∧ bdBlk (fun b => b < ct') blk ∧ ∃ b1, M1.get (τ b) = some b1 ∧ ReB P τ b b1 blk)
 inj : ∀ b b', (b < ct ∨ (N.get b).isSome) → (b' < ct ∨ (N.get b').isSome) → τ b = τ b' → b = b'
theorem ReN.stp {P : Program} {F : RO} {E E1 : Env} {M M1 N : Mem} {c k1 : Nat → Prop} {w w1 : World} {τ : Nat → Nat} {ct ct' c1 : Nat} {v1 v : V} (h : ReN P τ M M1 N ct ct' v1 v) (hr : Rel P E F M c w) (hf : Fresh c ct) (hS : Stp P F E M c w E1 M1 k1 w1) (hG : Grow c ct k1 c1) :
  Stp P F E M c w (E1.re τ) N (fun b => k1 (τ b) ∧ b < ct') w1 ∧ Grow c ct (fun b => k1 (τ b) ∧ b < ct') ct' := by
 have hlt : ∀ b, c b → b < ct := fun b hb => Nat.lt_of_not_le fun h' => hf b h' hb
 have hE2 : Ext c E1 (E1.re τ) := re_ext fun b hb => h.fix b (hlt b hb)
 have hcc : ∀ b, c b → (k1 (τ b) ∧ b < ct') := fun b hb => ⟨by rw [h.fix b (hlt b hb)]; exact hS.le b hb, Nat.lt_of_lt_of_le (hlt b hb) h.le⟩
 have hro : ∀ b, (roGet F b).isSome → c b := by
  intro b hb
  obtain ⟨x, hx⟩ := Option.isSome_iff_exists.1 hb
  exact (hr.has b x (by rw [look_none_M (hr.apart b hb)]; exact hx)).1
 have hM1 : ∀ b, (look F N b).isSome → (b < ct ∨ (N.get b).isSome) ∧ (look F M1 (τ b)).isSome := by
  intro b hb
  cases hn : N.get b with
  | some blk =>
    refine ⟨.inr rfl, ?_⟩
    rcases h.blk b blk hn with ⟨h1, _, h3⟩ | ⟨_, _, _, b1, h3, _⟩
    · rw [h.fix b h1]; exact look_isSome_M (by rw [h3]; rfl)
    · exact look_isSome_M (by rw [h3]; rfl)
  | none =>
    rw [look_none_M hn] at hb
    have hb' := hlt b (hro b hb)
    refine ⟨.inl hb', ?_⟩
    rw [h.fix b hb', look_none_M (hS.rel.apart b hb)]; exact hb
 refine ⟨⟨?_, hcc, ⟨?_, ?_, ?_⟩, ?_, hS.frame, hS.size, hS.os, hS.output, hS.tape⟩, h.le, fun b hb => ?_⟩
 · exact ⟨fun b hb => (hE2.ρ b hb).trans (hS.ext.ρ b hb), fun b hb => (hE2.β b hb).trans (hS.ext.β b hb), fun b hb => (hE2.κ b hb).trans (hS.ext.κ b hb)⟩
 · intro b blk hb
   cases hn : N.get b with
   | some x =>
     rw [look_some_M hn] at hb
     obtain rfl := Option.some.inj hb
     rcases h.blk b x hn with ⟨h1, h2, h3⟩ | ⟨h1, h2, h3, b1, h4, h5⟩
     · obtain ⟨g1, g2, _⟩ := hr.has b x (look_some_M h2)
       obtain ⟨_, _, o, ho, hB⟩ := hS.rel.has b x (look_some_M h3)
       refine ⟨hcc b g1, bdBlk_mono hcc _ g2, o, ?_, hB.ext hE2 g1 g2⟩
       rw [hE2.ρ b g1]; exact ho
     · obtain ⟨g1, g2, o, ho, hB⟩ := hS.rel.has (τ b) b1 (look_some_M h4)
       exact ⟨⟨g1, h2⟩, bdBlk_and _ (h5.2 k1 g2) h3, o, ho, h5.1 E1 o hB⟩
   | none =>
     rw [look_none_M hn] at hb
     have hb0 : (roGet F b).isSome := by rw [hb]; rfl
     have g1 := hro b hb0
     obtain ⟨_, g2, _⟩ := hr.has b blk (by rw [look_none_M (hr.apart b hb0)]; exact hb)
     obtain ⟨_, _, o, ho, hB⟩ := hS.rel.has b blk (by rw [look_none_M (hS.rel.apart b hb0)]; exact hb)
     refine ⟨hcc b g1, bdBlk_mono hcc _ g2, o, ?_, hB.ext hE2 g1 g2⟩
     rw [hE2.ρ b g1]; exact ho
 · intro b b' h1 h2 e
   have q1 := hM1 b h1
   have q2 := hM1 b' h2
   exact h.inj b b' q1.1 q2.1 (hS.rel.inj _ _ q1.2 q2.2 e)
 · intro b hb
   cases hn : N.get b with
   | none => rfl
   | some x =>
     exfalso
     have g1 := hlt b (hro b hb)
     rcases h.blk b x hn with ⟨_, _, h3⟩ | ⟨h3, _⟩
     · rw [hS.rel.apart b hb] at h3; cases h3
     · omega
 · intro b hb
   obtain ⟨x, hx⟩ := Option.isSome_iff_exists.1 hb
   rcases h.blk b x hx with ⟨h1, _, h3⟩ | ⟨_, _, _, b1, h3, _⟩
   · have := hS.own b (by rw [h3]; rfl)
     show (∃ b0, (M.get b0).isSome ∧ E.ρ b0 = E1.ρ (τ b)) ∨ w.heap.size ≤ E1.ρ (τ b)
     rw [h.fix b h1]; exact this
   · exact hS.own (τ b) (by rw [h3]; rfl)
 · rcases Nat.lt_or_ge b ct with hb1 | hb1
   · rw [h.fix b hb1] at hb
     rcases hG.new b hb.1 with h1 | ⟨h1, _⟩
     · exact .inl h1
     · omega
   · exact .inr ⟨hb1, hb.2⟩
theorem orc_sat {P : Program} {f n : Nat} {fn : Func} (hf : P.funcs[f]? = some fn) {res : List RV} {body : CC} (hcomp : comp P fn = some (.mk n res body)) {g : RO → List V → Mem → Nat → RC}
  (h : ∀ F args M ct v N ct', g F args M ct = .k v N ct' → Wf F M ct args → ∀ code, Sim P fn.ntmps code body → Sat P none fn.ntmps F code (argTr n args) [] M ct fun e t d M1 c1 => isEnd e = true ∧ d = [] ∧ ∃ v1 τ, resV F M1 t res = some [v1] ∧ ReN P τ M M1 N ct ct' v1 v) : OrcOk P f g := by
 intro F args M ct v N ct' hg E c w hr hglob hbig hfr ha
 obtain ⟨hnm, b, hb, hsim, hres⟩ := comp_some hcomp
 refine ⟨fn, hf, by rw [hb]; rfl, hnm, ?_⟩
 refine (callsIn_wide (n := 0)).1 (callsIn_of_wp_marks hf hb trivial ?_)
 have hSR : SR P [] F none fn.ntmps E c w { tmps := (concs E args).toArray ++ Array.replicate (fn.ntmps - (concs E args).toArray.size) Go.undef, defers := [] } (argTr n args) [] M ct :=
  ⟨⟨hr, hglob, hbig, argTr_rel E args _ _, argTr_bd ha⟩, hfr, rfl, fun b hb => by simp at hb, by simp; omega, fun l hl => by cases hl⟩
 refine h F args M ct v N ct' hg (wf_of hr hbig hfr ha) b hsim [] E c w _ hSR _ ?_
 rintro e t1 d1 M1 c1 ⟨he, rfl, v1, τ, hrv, hN⟩ a1 w1 ⟨E1, k1, hS1, hG1, hR1⟩
 have key : LeavesInM Fence.wide 0 P fn a1.tmps (fun e w' => ∃ E' c', e = .returned (conc E' v) ∧ Stp P F E M c w E' N c' w' ∧ bd c' v ∧ Grow c ct c' ct') a1.defers .returning w1 := by
  rw [hR1.df]
  refine leaves_ok (t := t1) [] M1 w1 rfl hR1.cx.rel fun w2 hS2 => ?_
  have hcx : Cx P E1 F M1 k1 w2 t1 a1 := ⟨hS2.rel, hR1.cx.glob, hR1.cx.big, hR1.cx.tr, hR1.cx.bt⟩
  have hres' := results_ok hcx hres hrv
  have hS := hS1.trans hS2
  obtain ⟨q1, q2⟩ := hN.stp hr hfr hS hG1
  have hv1 : bd k1 v1 := hres'.2
  refine ⟨_, hres'.1, E1.re τ, _, ?_, q1, bd_and v (hN.val.2 k1 hv1) hN.vb, q2⟩
  rw [hN.val.1 E1]; rfl
 cases e with
 | nrm => exact key
 | ret => exact key
 | _ => cases he
section
variable {P : Program} {Φ : Nat → Option CF} {rd : Option Nat} {fn nt : Nat} {F : RO}
theorem Sat.of_wp (hm : P.follows .mixedOrders = true) (hΦ : PhiOk P Φ) {code : Code} {cc : CC} (hs : Sim P nt code cc) {t : T} {d : List Nat} {M : Mem} {ct : Nat} {Q : Ex → St → Prop} (h : Wp cc (K Φ rd fn F) (.mk t d M ct) Q) : Sat P rd nt F code t d M ct fun e t' d' M' ct' => Q e (.mk t' d' M' ct') := by
 obtain ⟨e, s', h1, h2⟩ := h
 cases s' with
 | mk t' d' M' ct' => exact Sat.of_den (Q := fun e t' d' M' ct' => Q e (.mk t' d' M' ct')) hm hΦ hs (fn := fn) (by rw [den_eq]; exact h1) h2
theorem Sat.nxt (hm : P.follows .mixedOrders = true) (hΦ : PhiOk P Φ) {code : Code} {p1 : Pos} {x : X} {r : List CO} (hs : Sim P nt code (.reg (⟨some p1, .e (.nxm x), none⟩ :: r))) {t : T} {d : List Nat} {M : Mem} {ct : Nat} {b m since st clock : Nat} {seen : List Nat} {es : List (V × V × Nat)} (hit : x.ev t = .p b 0) (hM : M.get b = some (.miter (some m) since seen st)) (hmap : look F M m = some (.map es clock)) (hord : ordd clock = true)
  (hold : allOld since es = true) (hst : since ≤ st) {Q : Ex → T → List Nat → Mem → Nat → Prop}
  (stop : leftE seen es = [] → WpO r (K Φ rd fn F) (.mk (t.setP p1 (.t [.b false])) d M ct) fun s => match s with | .mk t' d' M' ct' => Q .nrm t' d' M' ct')
  (go : ∀ e ∈ leftE seen es, WpO r (K Φ rd fn F) (.mk (t.setP p1 (.t [.b true, e.1, e.2.1])) d (M.set b (.miter (some m) since (seen ++ [e.2.2]) clock)) ct) fun s => match s with | .mk t' d' M' ct' => Q .nrm t' d' M' ct') :
  Sat P rd nt F code t d M ct Q := by
 obtain ⟨id, ops, rfl, hcos⟩ := sim_reg hs
 cases hlo : ops.toList with
 | nil => rw [hlo] at hcos; cases hcos
 | cons o1 l =>
   rw [hlo] at hcos
   obtain ⟨co, cr, g1, g2, g3⟩ := compOs_cons hcos
   injection g3 with e1 e2
   subst e1 e2
   obtain ⟨hdst, gg, op', hco, hgd, hop⟩ := compO_some g1
   injection hco with q1 q2 q3
   subst q3
   have hop' : compOp P o1.op = some (.e (.nxm x)) := by
    rcases hop with hop | hop
    · rw [← q2] at hop; exact hop
    · rw [← q2] at hop; cases hop
   obtain ⟨y, hy1, hy2⟩ := compOp_nxm hop'
   obtain ⟨n1, hd1⟩ : ∃ n1, o1.dst = some n1 := by
    cases hdd : o1.dst with
    | none => rw [hdd] at q1; cases q1
    | some n1 => exact ⟨n1, rfl⟩
   have hp1 : p1 = posOf n1 := by rw [hd1] at q1; exact Option.some.inj q1
   have hg0 : o1.guard = none := by
    cases hgg : o1.guard with
    | none => rfl
    | some jw =>
      obtain ⟨j, want⟩ := jw
      rw [hgg] at hgd
      simp only at hgd
      split at hgd <;> cases hgd
   have hn1 : n1 < nt := by rw [hd1] at hdst; simpa [dstOk] using hdst
   subst hp1
   refine Sat.mapNextL (fn := fn) hm hΦ hlo hy1 hy2 hd1 hg0 hn1 g2 hit hM hmap hord hold hst ?_ ?_
   · intro hl
     obtain ⟨s', h1, h2⟩ := stop hl
     cases s' with
     | mk t' d' M' ct' => exact ⟨t', d', M', ct', h1, h2⟩
   · intro e he
     obtain ⟨s', h1, h2⟩ := go e he
     cases s' with
     | mk t' d' M' ct' => exact ⟨t', d', M', ct', h1, h2⟩
end
structure Cs where
 c0 : Nat
 t0 : T
 m0 : List (Nat × Blk)
 e : Ex
 t1 : T
 m1 : List (Nat × Blk)
 c1 : Nat
noncomputable section
def exeq : Ex → Ex → Bool
 | .nrm, .nrm => true
 | .ret, .ret => true
 | .ext i, .ext j => Nat.beq i j
 | .gto i, .gto j => Nat.beq i j
 | _, _ => false
theorem exeq_eq {a b : Ex} (h : exeq a b = true) : a = b := by
 cases a <;> cases b <;> first | rfl | cases h | exact congrArg _ (nbeq h)
end
def Has (M : Mem) (m : List (Nat × Blk)) : Prop := ∀ b blk, (b, blk) ∈ m → M.get b = some blk
def Over (M : Mem) (m : List (Nat × Blk)) (N : Mem) : Prop := Has N m ∧ ∀ b, (∀ x ∈ m, x.1 ≠ b) → N.get b = M.get b
def Nin (l r : List (Nat × Blk)) : Prop := ∀ x ∈ r, ∃ y ∈ l, y.1 = x.1
theorem Over.trans {M N N2 : Mem} {m1 m2 : List (Nat × Blk)} (h1 : Over M m1 N) (h2 : Over N m2 N2) (hn : Nin m2 m1) : Over M m2 N2 := by
 refine ⟨h2.1, fun b hb => ?_⟩
 rw [h2.2 b hb]
 exact h1.2 b fun x hx e => by
  obtain ⟨y, hy, e'⟩ := hn x hx
  exact hb y hy (e'.trans e)
section
variable {P : Program} {E E' : Env} {F : RO} {M M' N : Mem} {c c' : Nat → Prop} {ct ct' nt : Nat} {w w' : World} {t t' : T} {a : Act}
theorem look_eq2 {F : RO} {M N : Mem} (h : ∀ b, M.get b = N.get b) (b : Nat) : look F M b = look F N b := by
 cases hm : M.get b with
 | none => rw [look_none_M hm, look_none_M ((h b).symm.trans hm)]
 | some x => rw [look_some_M hm, look_some_M ((h b).symm.trans hm)]
theorem Rel.congr (hr : Rel P E F M c w) (h : ∀ b, M.get b = N.get b) : Rel P E F N c w where
 has := fun b blk hb => hr.has b blk (by rw [look_eq2 h]; exact hb)
 inj := fun b b' h1 h2 e => hr.inj b b' (by rw [look_eq2 h]; exact h1) (by rw [look_eq2 h]; exact h2) e
 apart := fun b hb => (h b).symm.trans (hr.apart b hb)
theorem Stp.congr (hS : Stp P F E M c w E' N c' w') {N2 : Mem} (h : ∀ b, N.get b = N2.get b) : Stp P F E M c w E' N2 c' w' :=
 ⟨hS.ext, hS.le, hS.rel.congr h, fun b hb => hS.own b (by rw [h b]; exact hb), hS.frame, hS.size, hS.os, hS.output, hS.tape⟩
end
def join (s1 s2 : Cs) : Cs := ⟨s1.c0, s1.t0, s1.m0, s2.e, s2.t1, s2.m1, s2.c1⟩
section
variable {P : Program} {nt : Nat}
noncomputable section
end
end
noncomputable section
structure Ws where
 t : T
 m : List (Nat × Blk)
 c : Nat
 ks : List Nat
def shp (ks : List Nat) : Mem := List.rec .e (fun k _ M => Tr.del (Tr.set M k (.cells 0 0 true 0 false [] .e)) k) ks
def Ws.mem (s : Ws) : Mem := setAll (shp s.ks) s.m
def Ws.st (s : Ws) : St := .mk s.t [] s.mem s.c
end
section
variable {Φ : Nat → Option CF} {fuel fn : Nat} {F : RO}
def pre : Nat → CC → CC
 | 0, .seq a _ => a
 | k + 1, .seq a b => .seq a (pre k b)
 | _, c => c
end
noncomputable section
end
theorem Ext.symm {c : Nat → Prop} {E E' : Env} (h : Ext c E E') : Ext c E' E := ⟨fun b hb => (h.ρ b hb).symm, fun b hb => (h.β b hb).symm, fun b hb => (h.κ b hb).symm⟩
theorem callC_denE {Φ : Nat → Option CF} {n : Nat} {F : RO} {f : Nat} {args : List V} {M : Mem} {c : Nat} {cf : Option CF} (h : callC (exec Φ n) F f args M c cf ≠ .f) : callC (den Φ) F f args M c cf = callC (exec Φ n) F f args M c cf := by
 cases cf with
 | none => rfl
 | some cf =>
   cases cf with
   | orc g => rfl
   | mk n' res body =>
     have hx : exec Φ n none f F body (.mk (argTr n' args) [] M c) ≠ .f := by
      intro e
      apply h
      show finish res F (delay (exec Φ n none f F body (.mk (argTr n' args) [] M c))) = .f
      rw [e]; rfl
     show finish res F (delay (den Φ none f F body (.mk (argTr n' args) [] M c))) = finish res F (delay (exec Φ n none f F body (.mk (argTr n' args) [] M c)))
     rw [den_of hx]
noncomputable section
end
noncomputable section
end
noncomputable section
end
noncomputable section
end
structure Cv where
 c0 : Nat
 t0 : T
 d0 : List Nat
 m0 : List (Nat × Blk)
 e : Ex
 t1 : T
 d1 : List Nat
 m1 : List (Nat × Blk)
 c1 : Nat
noncomputable section
def bkeq2 : Blk → Blk → Bool
 | .defs a, w => match w with | .defs b => beqB a b | _ => false
 | x, w => bkeq x w
def obk2 (o : Option Blk) (blk : Blk) : Bool := match o with
 | some x => bkeq2 x blk
 | none => false
def holds2 (M : Mem) : List (Nat × Blk) → Bool
 | [] => true
 | (b, blk) :: r => obk2 (M.get b) blk && holds2 M r
def nseq : List Nat → List Nat → Bool
 | [], [] => true
 | x :: r, y :: s => Nat.beq x y && nseq r s
 | _, _ => false
def cvChk (s : Cv) : Rs → Bool
 | .k e (.mk t d M c) => (exeq s.e e && (treq s.t1 t && (Nat.beq s.c1 c && nseq s.d1 d))) && holds2 M s.m1
 | _ => false
def cvRun (Φ : Nat → Option CF) (fuel fn : Nat) (F : RO) (cc : CC) (s : Cv) : Bool := cvChk s (exec Φ fuel none fn F cc (.mk s.t0 s.d0 (setAll .e s.m0) s.c0))
def lnk : Nat → CC → List CC
 | 0, .seq a _ => [a]
 | k + 1, .seq a b => a :: lnk k b
 | _, _ => []
def lsuf : Nat → CC → Option CC
 | 0, .seq _ b => some b
 | k + 1, .seq _ b => lsuf k b
 | _, _ => none
def execL (Φ : Nat → Option CF) (fuel fn : Nat) (F : RO) (l : List CC) : Rs → Rs := List.rec (motive := fun _ => Rs → Rs) (fun r => r) (fun x _ ih r => match r with
 | .k .nrm (.mk t d M c) => ih (exec Φ fuel none fn F x (.mk t d M c))
 | _ => .f) l
def cvLnk (Φ : Nat → Option CF) (fuel fn : Nat) (F : RO) (k : Nat) (cc : CC) (s : Cv) : Bool := cvChk s (execL Φ fuel fn F (lnk k cc) (.k .nrm (.mk s.t0 s.d0 (setAll .e s.m0) s.c0)))
def cvRds (Φ : Nat → Option CF) (fuel fn : Nat) (F : RO) (b : CC) : Nat → Rs → Rs
 | 0, r => r
 | k + 1, r => match r with
   | .k .nrm (.mk t d M c) => cvRds Φ fuel fn F b k (exec Φ fuel none fn F b (.mk t d M c))
   | _ => .f
def cvRnd (Φ : Nat → Option CF) (fuel fn : Nat) (F : RO) (b : CC) (k : Nat) (s : Cv) : Bool := cvChk s (cvRds Φ fuel fn F b k (.k .nrm (.mk s.t0 s.d0 (setAll .e s.m0) s.c0)))
def pvEnd (F : RO) (res : List RV) (s : Cv) (v : V) : Bool := isEnd s.e && (match takeDefs s.d1 (setAll .e s.m1) with
 | some M => (match resV F M s.t1 res with
   | some vs => veq (oneV vs) v
   | none => false)
 | none => false)
end
theorem bkeq2_eq {a b : Blk} (h : bkeq2 a b = true) : a = b := by
 cases a with
 | defs x =>
   cases b with
   | defs y => exact congrArg _ (beqB_eq h)
   | _ => cases h
 | _ => exact bkeq_eq h
theorem holds2_mem {M : Mem} : ∀ {l : List (Nat × Blk)}, holds2 M l = true → ∀ b blk, (b, blk) ∈ l → M.get b = some blk
 | (b', blk') :: r, h, b, blk, hm => by
   obtain ⟨h1, h2⟩ := an2 (show (obk2 (M.get b') blk' && holds2 M r) = true from h)
   rcases List.mem_cons.1 hm with e | e
   · injection e with e1 e2
     subst e1 e2
     unfold obk2 at h1
     split at h1
     · rename_i x hx; rw [hx, bkeq2_eq h1]
     · cases h1
   · exact holds2_mem h2 b blk e
theorem nseq_eq : ∀ {a b : List Nat}, nseq a b = true → a = b
 | [], [], _ => rfl
 | x :: r, y :: s, h => by
   obtain ⟨h1, h2⟩ := an2 (show (Nat.beq x y && nseq r s) = true from h)
   rw [nbeq h1, nseq_eq h2]
theorem cvChk_some {s : Cv} {r : Rs} (h : cvChk s r = true) : ∃ M, r = .k s.e (.mk s.t1 s.d1 M s.c1) ∧ holds2 M s.m1 = true := by
 unfold cvChk at h
 split at h
 · rename_i e t d M c
   obtain ⟨h1, h2⟩ := an2 h
   obtain ⟨h3, h4⟩ := an2 h1
   obtain ⟨h5, h6⟩ := an2 h4
   obtain ⟨h7, h8⟩ := an2 h6
   refine ⟨M, ?_, h2⟩
   rw [exeq_eq h3, treq_eq _ _ h5, nbeq h7, nseq_eq h8]
 · cases h
section
variable {P : Program} {nt : Nat} {F : RO}
theorem stp_cut {E E' : Env} {c c' : Nat → Prop} {w w' : World} {M M1 : Mem} {m1 : List (Nat × Blk)} (hr : Rel P E F M c w) (hS : Stp P F E M c w E' M1 c' w') (h : holds2 M1 m1 = true) : Stp P F E M c w E' (setAll .e m1) c' w' := by
 have hsub : SubMem F M F M := ⟨fun _ _ h => h, fun b blk hb => by rw [look_none_M (hr.apart b (by rw [hb]; rfl))]; exact hb, fun b hb => hr.apart b hb⟩
 refine hS.framed hsub hr fun b blk hN => .inl ?_
 rcases setAll_get _ _ b blk hN with h1 | ⟨h1, _⟩
 · exact holds2_mem h b blk h1
 · cases h1
theorem sr_cut {E : Env} {c : Nat → Prop} {w : World} {a : Act} {M N : Mem} {t : T} {d : List Nat} {ct : Nat} (h : SR P [] F none nt E c w a t d M ct) (hr : Rel P E F N c w) : SR P [] F none nt E c w a t d N ct :=
 ⟨⟨hr, h.cx.glob, h.cx.big, h.cx.tr, h.cx.bt⟩, h.fr, h.df, h.dc, h.sz, h.rd⟩
def Pv (P : Program) (F : RO) (nt : Nat) (cc : CC) (s : Cv) : Prop := ∀ (code : Code), Sim P nt code cc → ∀ (E : Env) (c : Nat → Prop) (w : World) (a : Act), SR P [] F none nt E c w a s.t0 s.d0 (setAll .e s.m0) s.c0 →
 ∀ Q : Exit → Act → World → Prop, (∀ E' c' a' w', Stp P F E (setAll .e s.m0) c w E' (setAll .e s.m1) c' w' → Grow c s.c0 c' s.c1 → SR P [] F none nt E' c' w' a' s.t1 s.d1 (setAll .e s.m1) s.c1 → Q (exOf s.e) a' w') → code.wpIn (fence E none) 0 P Q a w
def PvL (P : Program) (F : RO) (nt : Nat) (b : CC) (s : Cv) : Prop := ∃ m, ∀ (code : Code), Sim P nt code b → ∀ (E : Env) (c : Nat → Prop) (w : World) (a : Act), SR P [] F none nt E c w a s.t0 s.d0 (setAll .e s.m0) s.c0 →
 ∀ Q : Exit → Act → World → Prop, (∀ E' c' a' w', Stp P F E (setAll .e s.m0) c w E' (setAll .e s.m1) c' w' → Grow c s.c0 c' s.c1 → SR P [] F none nt E' c' w' a' s.t1 s.d1 (setAll .e s.m1) s.c1 → Q (exOf s.e) a' w') → Code.roundsIn (fence E none) 0 P code Q m a w
theorem pv_den (hm : P.follows .mixedOrders = true) {Φ : Nat → Option CF} (hΦ : PhiOk P Φ) {fn : Nat} {cc : CC} {s : Cv} (h : ∃ r, den Φ none fn F cc (.mk s.t0 s.d0 (setAll .e s.m0) s.c0) = r ∧ cvChk s r = true) : Pv P F nt cc s := by
 obtain ⟨r, hr, hc⟩ := h
 obtain ⟨M1, hx, h1⟩ := cvChk_some hc
 rw [hx] at hr
 intro code hs E c w a hSR Q hQ
 refine den_ok hm hΦ none fn F cc s.t0 s.d0 (setAll .e s.m0) s.c0 s.e s.t1 s.d1 M1 s.c1 hr nt code hs E c w a hSR Q ?_
 rintro a' w' ⟨E', c', hS, hG, hR⟩
 have hS' := stp_cut hSR.cx.rel hS h1
 exact hQ E' c' a' w' hS' hG (sr_cut hR hS'.rel)
theorem pv_run (hm : P.follows .mixedOrders = true) {Φ : Nat → Option CF} (hΦ : PhiOk P Φ) {fuel fn : Nat} {cc : CC} {s : Cv} (h : cvRun Φ fuel fn F cc s = true) : Pv P F nt cc s := by
 refine pv_den hm hΦ (fn := fn) ⟨exec Φ fuel none fn F cc (.mk s.t0 s.d0 (setAll .e s.m0) s.c0), ?_, h⟩
 obtain ⟨M1, hx, _⟩ := cvChk_some h
 exact den_of (by rw [hx]; exact fun e => by cases e)
def jn (s1 s2 : Cv) : Cv := ⟨s1.c0, s1.t0, s1.d0, s1.m0, s2.e, s2.t1, s2.d1, s2.m1, s2.c1⟩
theorem pv_seq {x y : CC} {s1 s2 : Cv} (h1 : Pv P F nt x s1) (h2 : Pv P F nt y s2) (he : s1.e = .nrm) (ht : s2.t0 = s1.t1) (hd : s2.d0 = s1.d1) (hmm : s2.m0 = s1.m1) (hc : s2.c0 = s1.c1) : Pv P F nt (.seq x y) (jn s1 s2) := by
 intro code hs E c w a hSR Q hQ
 obtain ⟨cx, cy, rfl, hx, hy⟩ := sim_seq hs
 refine wpIn_seq (h1 cx hx E c w a hSR _ ?_)
 intro E1 c1 a1 w1 hS1 hG1 hR1
 rw [he]
 show cy.wpIn (fence E none) 0 P Q a1 w1
 have hR1' : SR P [] F none nt E1 c1 w1 a1 s2.t0 s2.d0 (setAll .e s2.m0) s2.c0 := by rw [ht, hd, hc, hmm]; exact hR1
 refine h2 cy hy E1 c1 w1 a1 hR1' Q ?_
 intro E2 c2 a2 w2 hS2 hG2 hR2
 exact hQ E2 c2 a2 w2 (hS1.trans (hmm ▸ hS2)) (hG1.trans (hc ▸ hG2)) hR2
theorem pv_block {id : Nat} {x : CC} {s : Cv} (h : Pv P F nt x s) {e : Ex} (he : s.e = .ext id ∧ e = .nrm ∨ (∀ i, s.e ≠ .ext i) ∧ e = s.e) : Pv P F nt (.block id x) ⟨s.c0, s.t0, s.d0, s.m0, e, s.t1, s.d1, s.m1, s.c1⟩ := by
 intro code hs E c w a hSR Q hQ
 obtain ⟨cx, rfl, hx⟩ := sim_block hs
 refine wpIn_block (h cx hx E c w a hSR _ ?_)
 intro E1 c1 a1 w1 hS1 hG1 hR1
 have hq := hQ E1 c1 a1 w1 hS1 hG1 hR1
 rcases he with ⟨he, rfl⟩ | ⟨hn, rfl⟩
 · rw [he]
   show Exit.inBlock id Q (.exit id) a1 w1
   unfold Exit.inBlock
   simp only [if_true]
   exact hq
 · cases hse : s.e with
   | nrm => rw [hse] at hq; exact hq
   | ret => rw [hse] at hq; exact hq
   | gto l => rw [hse] at hq; exact hq
   | ext i => exact absurd hse (hn i)
theorem pv_loop {b : CC} {s : Cv} (h : PvL P F nt b s) : Pv P F nt (.loop b) s := by
 intro code hs E c w a hSR Q hQ
 obtain ⟨cx, rfl, hx⟩ := sim_loop hs
 obtain ⟨m, hL⟩ := h
 exact wpIn_loop_rounds m (hL cx hx E c w a hSR Q hQ)
theorem pvl_run (hm : P.follows .mixedOrders = true) {Φ : Nat → Option CF} (hΦ : PhiOk P Φ) {fuel fn : Nat} {b : CC} {s : Cv} (h : cvRun Φ fuel fn F (.loop b) s = true) : PvL P F nt b s := by
 obtain ⟨M1, hx, h1⟩ := cvChk_some h
 refine ⟨fuel, fun code hs E c w a hSR Q hQ => ?_⟩
 have hlp := (exec_ok hΦ (fun ex hex rd fn F => drOk_of hm (callOk_of hΦ hex rd fn F) (yieldOk_of hex rd fn F)) fuel).2.1
 refine hlp none fn F b s.t0 s.d0 (setAll .e s.m0) s.c0 s.e s.t1 s.d1 M1 s.c1 hx nt code hs E c w a hSR Q ?_
 rintro a' w' ⟨E', c', hS, hG, hR⟩
 have hS' := stp_cut hSR.cx.rel hS h1
 exact hQ E' c' a' w' hS' hG (sr_cut hR hS'.rel)
theorem cvRds_ok (hm : P.follows .mixedOrders = true) {Φ : Nat → Option CF} (hΦ : PhiOk P Φ) {fuel fn : Nat} {b : CC} {code : Code} (hs : Sim P nt code b) {m : Nat} {Q : Exit → Act → World → Prop} {t' : T} {d' : List Nat} {M' : Mem} {ct' : Nat} : ∀ (k : Nat) (E : Env) (c : Nat → Prop) (w : World) (a : Act) (t : T) (d : List Nat) (M : Mem) (ct : Nat), SR P [] F none nt E c w a t d M ct →
  cvRds Φ fuel fn F b k (.k .nrm (.mk t d M ct)) = .k .nrm (.mk t' d' M' ct') → (∀ E' c' a' w', Stp P F E M c w E' M' c' w' → Grow c ct c' ct' → SR P [] F none nt E' c' w' a' t' d' M' ct' → Code.roundsIn (fence E none) 0 P code Q m a' w') → Code.roundsIn (fence E none) 0 P code Q (m + k) a w
 | 0, E, c, w, a, t, d, M, ct, h, hx, hQ => by
   have hx' : Rs.k .nrm (St.mk t d M ct) = .k .nrm (.mk t' d' M' ct') := hx
   injection hx' with _ hx'
   injection hx' with e1 e2 e3 e4
   subst e1 e2 e3 e4
   exact hQ E c a w (.refl h.cx.rel) (.refl _ _) h
 | k + 1, E, c, w, a, t, d, M, ct, h, hx, hQ => by
   have hx' : cvRds Φ fuel fn F b k (exec Φ fuel none fn F b (.mk t d M ct)) = .k .nrm (.mk t' d' M' ct') := hx
   cases hr : exec Φ fuel none fn F b (.mk t d M ct) with
   | f => rw [hr] at hx'; cases k <;> cases hx'
   | k e s1 =>
     obtain ⟨t1, d1, M1, ct1⟩ := s1
     rw [hr] at hx'
     have he : e = .nrm := by
      cases k with
      | zero =>
        have h0 : Rs.k e (St.mk t1 d1 M1 ct1) = .k .nrm (.mk t' d' M' ct') := hx'
        injection h0 with h1 h2
      | succ k =>
        cases e with
        | nrm => rfl
        | _ => cases hx'
     subst he
     show code.wpIn (fence E none) 0 P (Exit.then (Code.roundsIn (fence E none) 0 P code Q (m + k)) Q) a w
     refine exec_sound hm hΦ fuel none fn F b t d M ct .nrm t1 d1 M1 ct1 hr nt code hs E c w a h _ ?_
     rintro a1 w1 ⟨E1, c1, hS1, hG1, hR1⟩
     show Code.roundsIn (fence E1 none) 0 P code Q (m + k) a1 w1
     exact cvRds_ok hm hΦ hs k E1 c1 w1 a1 t1 d1 M1 ct1 hR1 hx' fun E2 c2 a2 w2 hS2 hG2 hR2 => hQ E2 c2 a2 w2 (hS1.trans hS2) (hG1.trans hG2) hR2
theorem pvl_rds (hm : P.follows .mixedOrders = true) {Φ : Nat → Option CF} (hΦ : PhiOk P Φ) {fuel fn k : Nat} {b : CC} {s1 s2 : Cv} (h : cvRnd Φ fuel fn F b k s1 = true) (he : s1.e = .nrm) (h2 : PvL P F nt b s2) (ht : s2.t0 = s1.t1) (hd : s2.d0 = s1.d1) (hmm : s2.m0 = s1.m1) (hc : s2.c0 = s1.c1) : PvL P F nt b (jn s1 s2) := by
 obtain ⟨M1, hx, h1⟩ := cvChk_some h
 rw [he] at hx
 obtain ⟨m, hL⟩ := h2
 refine ⟨m + k, fun code hs E c w a hSR Q hQ => ?_⟩
 refine cvRds_ok hm hΦ hs k E c w a s1.t0 s1.d0 (setAll .e s1.m0) s1.c0 hSR hx ?_
 intro E1 c1 a1 w1 hS1 hG1 hR1
 have hS1' := stp_cut hSR.cx.rel hS1 h1
 have hR1' : SR P [] F none nt E1 c1 w1 a1 s2.t0 s2.d0 (setAll .e s2.m0) s2.c0 := by rw [ht, hd, hc, hmm]; exact sr_cut hR1 hS1'.rel
 refine hL code hs E1 c1 w1 a1 hR1' Q ?_
 intro E2 c2 a2 w2 hS2 hG2 hR2
 exact hQ E2 c2 a2 w2 (hS1'.trans (hmm ▸ hS2)) (hG1.trans (hc ▸ hG2)) hR2
theorem lnk_ok (hm : P.follows .mixedOrders = true) {Φ : Nat → Option CF} (hΦ : PhiOk P Φ) {fuel fn : Nat} {Q : Exit → Act → World → Prop} {t' : T} {d' : List Nat} {M' : Mem} {ct' : Nat} {y : CC} : ∀ (k : Nat) (cc : CC) (code : Code), Sim P nt code cc → lsuf k cc = some y → ∀ (E : Env) (c : Nat → Prop) (w : World) (a : Act) (t : T) (d : List Nat) (M : Mem) (ct : Nat), SR P [] F none nt E c w a t d M ct →
  execL Φ fuel fn F (lnk k cc) (.k .nrm (.mk t d M ct)) = .k .nrm (.mk t' d' M' ct') → (∀ cy, Sim P nt cy y → ∀ E' c' a' w', Stp P F E M c w E' M' c' w' → Grow c ct c' ct' → SR P [] F none nt E' c' w' a' t' d' M' ct' → cy.wpIn (fence E none) 0 P Q a' w') → code.wpIn (fence E none) 0 P Q a w
 | 0, .seq x z, code, hs, hl, E, c, w, a, t, d, M, ct, h, hx, hQ => by
   obtain ⟨cx, cy, rfl, h1, h2⟩ := sim_seq hs
   obtain rfl := Option.some.inj (show some z = some y from hl)
   have hx' : exec Φ fuel none fn F x (.mk t d M ct) = .k .nrm (.mk t' d' M' ct') := hx
   refine wpIn_seq ?_
   refine exec_sound hm hΦ fuel none fn F x t d M ct .nrm t' d' M' ct' hx' nt cx h1 E c w a h _ ?_
   rintro a1 w1 ⟨E1, c1, hS1, hG1, hR1⟩
   exact hQ cy h2 E1 c1 a1 w1 hS1 hG1 hR1
 | k + 1, .seq x z, code, hs, hl, E, c, w, a, t, d, M, ct, h, hx, hQ => by
   obtain ⟨cx, cy, rfl, h1, h2⟩ := sim_seq hs
   have hx' : execL Φ fuel fn F (lnk k z) (exec Φ fuel none fn F x (.mk t d M ct)) = .k .nrm (.mk t' d' M' ct') := hx
   have hne : lnk k z ≠ [] := by
    cases z <;> cases k <;> first | (cases (show none = some y from hl)) | exact List.cons_ne_nil _ _
   cases hr : exec Φ fuel none fn F x (.mk t d M ct) with
   | f => rw [hr] at hx'; cases hk : lnk k z with
     | nil => exact absurd hk hne
     | cons _ _ => rw [hk] at hx'; cases hx'
   | k e s1 =>
     obtain ⟨t1, d1, M1, ct1⟩ := s1
     rw [hr] at hx'
     have he : e = .nrm := by
      cases hk : lnk k z with
      | nil => exact absurd hk hne
      | cons _ _ =>
        rw [hk] at hx'
        cases e with
        | nrm => rfl
        | _ => cases hx'
     subst he
     refine wpIn_seq ?_
     refine exec_sound hm hΦ fuel none fn F x t d M ct .nrm t1 d1 M1 ct1 hr nt cx h1 E c w a h _ ?_
     rintro a1 w1 ⟨E1, c1, hS1, hG1, hR1⟩
     show cy.wpIn (fence E1 none) 0 P Q a1 w1
     exact lnk_ok hm hΦ k z cy h2 hl E1 c1 w1 a1 t1 d1 M1 ct1 hR1 hx' fun cy' hy' E2 c2 a2 w2 hS2 hG2 hR2 => hQ cy' hy' E2 c2 a2 w2 (hS1.trans hS2) (hG1.trans hG2) hR2
theorem pv_lnk (hm : P.follows .mixedOrders = true) {Φ : Nat → Option CF} (hΦ : PhiOk P Φ) {fuel fn k : Nat} {cc y : CC} {s1 s2 : Cv} (h : cvLnk Φ fuel fn F k cc s1 = true) (hl : lsuf k cc = some y) (he : s1.e = .nrm) (h2 : Pv P F nt y s2) (ht : s2.t0 = s1.t1) (hd : s2.d0 = s1.d1) (hmm : s2.m0 = s1.m1) (hc : s2.c0 = s1.c1) : Pv P F nt cc (jn s1 s2) := by
 obtain ⟨M1, hx, h1⟩ := cvChk_some h
 rw [he] at hx
 intro code hs E c w a hSR Q hQ
 refine lnk_ok hm hΦ k cc code hs hl E c w a s1.t0 s1.d0 (setAll .e s1.m0) s1.c0 hSR hx ?_
 intro cy hy E1 c1 a1 w1 hS1 hG1 hR1
 have hS1' := stp_cut hSR.cx.rel hS1 h1
 have hR1' : SR P [] F none nt E1 c1 w1 a1 s2.t0 s2.d0 (setAll .e s2.m0) s2.c0 := by rw [ht, hd, hc, hmm]; exact sr_cut hR1 hS1'.rel
 show cy.wpIn (fence E1 none) 0 P Q a1 w1
 refine h2 cy hy E1 c1 w1 a1 hR1' Q ?_
 intro E2 c2 a2 w2 hS2 hG2 hR2
 exact hQ E2 c2 a2 w2 (hS1'.trans (hmm ▸ hS2)) (hG1.trans (hc ▸ hG2)) hR2
end
theorem orc_pv_0 {P : Program} (hm : P.follows .mixedOrders = true) {f n : Nat} {fn : Func} (hf : P.funcs[f]? = some fn) {res : List RV} {body : CC} (hcomp : comp P fn = some (.mk n res body)) 
  (h : ∃ s : Cv, s.c0 = 1000 ∧ s.m0 = [] ∧ s.d0 = [] ∧ treq (argTr n []) s.t0 = true ∧ pvEnd [] res s (.b true) = true ∧ Pv P [] fn.ntmps body s) : OrcOk P f (knownO []) := by
 intro F args M ct v N ct' hg E c w hr hglob hbig hf' ha
 cases args with
 | cons a r => cases hg
 | nil =>
   have hg' : (bif tabsIn F [] then RC.k (.b true) M ct else .f) = .k v N ct' := hg
   cases ht : tabsIn F [] with
   | false => rw [ht] at hg'; cases hg'
   | true =>
     rw [ht] at hg'
     have hg2 : RC.k (.b true) M ct = .k v N ct' := hg'
     injection hg2 with e1 e2 e3
     subst e1 e2 e3
     obtain ⟨ty, hrel⟩ := rel_tabsIn hr hglob ht
     have hrel : Rel P E [] .e c0 w := hrel
     obtain ⟨s, hc0, hm0, hd0, ht0, hend, hpv⟩ := h
     have hgl := hglob
     obtain ⟨hnm, b, hb, hsim, hres⟩ := comp_some hcomp
     refine ⟨fn, hf, by rw [hb]; rfl, hnm, ?_⟩
     refine (callsIn_wide (n := 0)).1 (callsIn_of_wp_marks hf hb trivial ?_)
     have hSR : SR P [] [] none fn.ntmps E c0 w { tmps := (concs E []).toArray ++ Array.replicate (fn.ntmps - (concs E []).toArray.size) Go.undef, defers := [] } s.t0 s.d0 (setAll .e s.m0) s.c0 := by
      rw [← treq_eq _ _ ht0, hm0, hc0, hd0]
      exact ⟨⟨hrel, hgl, fun g hg => hg, argTr_rel E [] _ _, argTr_bd trivial⟩, fun b hb hc => Nat.lt_irrefl _ (Nat.lt_of_lt_of_le hc hb), rfl, fun b hb => by simp at hb, by simp; omega, fun l hl => by cases hl⟩
     refine hpv b hsim E _ w _ hSR _ ?_
     intro E' c' a' w' hS hG hR
     obtain ⟨he, hv⟩ := an2 hend
     split at hv
     rotate_left
     · cases hv
     rename_i M2 hm2
     split at hv
     rotate_left
     · cases hv
     rename_i vs hvs
     have ev := veq_eq _ _ hv
     rw [hm0] at hS
     have key : LeavesInM Fence.wide 0 P fn a'.tmps (fun e w' => ∃ E' c', e = .returned (conc E' (.b true)) ∧ Stp P F E M c w E' M c' w' ∧ bd c' (.b true) ∧ Grow c ct c' ct) a'.defers .returning w' := by
      rw [hR.df]
      refine leaves_ok (t := s.t1) s.d1 (setAll .e s.m1) w' hm2 hR.cx.rel fun w2 hS2 => ?_
      have hcx : Cx P E' [] M2 c' w2 s.t1 a' := ⟨hS2.rel, hR.cx.glob, hR.cx.big, hR.cx.tr, hR.cx.bt⟩
      have hres' := results_ok hcx hres hvs
      have hST := hS.trans hS2
      have hfr : ∀ r, r < w.heap.size → w2.heap[r]? = w.heap[r]? := fun r hr' => hST.frame r hr' (fun b hb => by cases hb)
      have hhas : ∀ b blk, look F M b = some blk → c b ∧ bdBlk c blk ∧ ∃ o, w2.heap[E.ρ b]? = some o ∧ BlkRel P E b blk o := by
       intro b blk hb
       obtain ⟨g1, g2, o, ho, g3⟩ := hr.has b blk hb
       exact ⟨g1, g2, o, by rw [hfr _ (Array.getElem?_eq_some_iff.1 ho).1]; exact ho, g3⟩
      exact ⟨_, hres'.1, E, c, by rw [ev]; rfl, ⟨.refl c E, fun _ h => h, ⟨hhas, hr.inj, hr.apart⟩, fun b hb => .inl ⟨b, hb, rfl⟩, fun r hr' _ => hfr r hr', hST.size, hST.os, hST.output, hST.tape⟩, trivial, .refl _ _⟩
     cases hse : s.e with
     | nrm => exact key
     | ret => exact key
     | ext i => rw [hse] at he; cases he
     | gto l => rw [hse] at he; cases he
theorem l_known0 {Φ : Nat → Option CF} {f : Nat} (h : Φ f = some (.orc (knownO []))) {F : RO} {M : Mem} {c : Nat} (ht : tabsIn F [] = true) : Calls Φ F f [] M c fun r _ _ => r = .b true := by
 refine ⟨.b true, M, c, ?_, rfl⟩
 rw [h]
 exact knownO_nil ht M c
def b15_1 : CC := (.reg [(qq a3 (.mv z0)), (qq a4 (.eq true .ptr true z3 (.c .p0))), (qq a5 (.mv z4)), ⟨(some a6), .q (.mv z0), (some (a5, true))⟩, ⟨(some a7), .q (.nck z6), (some (a5, true))⟩, ⟨(some a8), .q (.fa 0 z7), (some (a5, true))⟩, ⟨(some a9), .q (.ld1 z8), (some (a5, true))⟩, ⟨(some a10), .q (.eq true .map true z9 (.c .m0)), (some (a5, true))⟩, (qq a11 (.pk z5 z10 xF)), (qq a2 (.mv z11))])
def b15_2 : CC := (.seq (.reg [(qq a2 (.mv xF))]) (.seq b15_1 .ret))
def c15 : CF := .mk 4 [.t a2] b15_2
theorem e15 (v0 : V) : argTr 4 [v0] = (.n sk3 (some v0) sk3) := rfl
def B15 := ai @e15 (ai (wu b15_1.eq_1) (wu b15_2.eq_1))
def b17_1 : CC := (.reg [(qq a3 (.mv z0)), (qq a4 (.eq false .slice true z3 (.c .l0)))])
def b17_2 : CC := (.seq (.reg [(qq a2 (.mv (.c .l0)))]) .ret)
def b17_3 : CC := (.reg [(aa a5 (.bsl 5 0 1 [(.i .u8 0)] [])), (qq a6 (.mv z0)), (ee a7 (.app 5 1 1 z5 z6)), (qq a2 (.mv z7))])
def b17_4 : CC := (.seq (.seq b17_1 (.cond z4 b17_2 .skip)) (.seq b17_3 .ret))
def b17_5 : CC := (.seq (.reg [(qq a2 (.mv (.c .l0)))]) b17_4)
def c17 : CF := .mk 4 [.t a2] b17_5
theorem e17 (v0 : V) : argTr 4 [v0] = (.n sk3 (some v0) sk3) := rfl
def B17 := ai @e17 (ai (wu b17_1.eq_1) (ai (wu b17_2.eq_1) (ai (wu b17_3.eq_1) (ai (wu b17_4.eq_1) (wu b17_5.eq_1)))))
def b18_1 : CC := (.reg [(qq a3 (.mv z0)), (qq a4 (.eq false .map true z3 (.c .m0)))])
def b18_2 : CC := (.seq (.reg [(qq a2 (.mv (.c .m0)))]) .ret)
def b18_3 : CC := (.reg [(qq a5 (.mv z0)), (qq a6 (.mki 46 z5)), (ee a7 (.mcl z6)), (qq a8 (.ta 46 .m0 false z7)), (qq a2 (.mv z8))])
def b18_4 : CC := (.seq (.seq b18_1 (.cond z4 b18_2 .skip)) (.seq b18_3 .ret))
def b18_5 : CC := (.seq (.reg [(qq a2 (.mv (.c .m0)))]) b18_4)
def c18 : CF := .mk 4 [.t a2] b18_5
theorem e18 (v0 : V) : argTr 4 [v0] = (.n sk3 (some v0) sk3) := rfl
def B18 := ai @e18 (ai (wu b18_1.eq_1) (ai (wu b18_2.eq_1) (ai (wu b18_3.eq_1) (ai (wu b18_4.eq_1) (wu b18_5.eq_1)))))
theorem nil_sl {F : RO} {M : Mem} {c sz : Nat} {v : V} {es : List (List V)} (h : SlAt F M c sz v es) : (v = .l0 ∧ es = []) ∨ (v ≠ .l0 ∧ nilL v = some false) := by
 rcases h with ⟨_, ⟨rfl, rfl | ⟨b, o0, o, rfl⟩⟩ | ⟨b, o, ⟨cap, _, rfl⟩ | ⟨el, kn, _, rfl⟩, _⟩⟩
 · exact .inl ⟨rfl, rfl⟩
 · exact .inr ⟨(by intro h; cases h), rfl⟩
 · exact .inr ⟨(by intro h; cases h), rfl⟩
 · exact .inr ⟨(by intro h; cases h), rfl⟩
theorem eqV_nilT {F : RO} (lit : Bool) (M : Mem) : eqV F M .slice lit .l0 .l0 = some true := rfl
theorem eqV_nilF {F : RO} {v : V} (h : nilL v = some false) (lit : Bool) (M : Mem) : eqV F M .slice lit v .l0 = some false := by
 show nilEq true (nilL v) (nilL .l0) = _
 rw [h]; rfl
theorem appV_00 {F : RO} {M0 M : Mem} {c0 c b ty sz bytes : Nat} {y : V} {ns : List (List V)} (hg : Gr c0 M0 c M) (hsz : 0 < sz) (hy : SlAt F M c sz y ns) (h1 : allOne ns.flatten = true) (hr : room ns.length bytes = true) (hb : b < c) :
  RTo (appV F M c ty sz bytes (.l b 0 0 0) y) fun v' M' c' => SlOwn F M' b c' sz v' ns ∧ Gr c0 M0 c' M' ∧ c ≤ c' ∧ v' ≠ .l0 := by
 unfold appV
 rw [split_sl hsz hy]
 have hnl := flat_len hy.1
 have e1 : e_app1 F M c ty sz bytes (.l b 0 0 0) (some (ns.length, ns.flatten)) = app F M c ty sz bytes (.l b 0 0 0) ns.length ns.flatten := by
  show (bif allOne ns.flatten && Nat.beq ns.flatten.length (Nat.mul ns.length sz) then _ else _) = _
  rw [h1, beqN, decide_eq_true (show ns.flatten.length = Nat.mul ns.length sz from hnl)]; rfl
 rw [e1]
 by_cases hz : ns = []
 · subst hz
   refine ⟨.l b 0 0 0, M, c, rfl, fun M' _ => ⟨fun e he => (by cases he), .inr ⟨b, 0, .inl ⟨0, Nat.le_refl _, rfl⟩, hb, fun k hk => (by cases hk)⟩⟩, hg, Nat.le_refl _, (by intro h; cases h)⟩
 · have hn0 : ns.length ≠ 0 := fun e => hz (List.length_eq_zero_iff.1 e)
   have e2 : app F M c ty sz bytes (.l b 0 0 0) ns.length ns.flatten = grown M c ty bytes ns.length 0 false ns.flatten := by
    unfold app
    rw [beqN, decide_eq_false hn0, cond_false]
    show app_l F M c ty sz bytes b 0 0 0 ns.length ns.flatten = _
    unfold app_l
    rw [bleN, decide_eq_false (show ¬ Nat.add 0 ns.length ≤ 0 by show ¬ 0 + ns.length ≤ 0; omega), cond_false]
    show grownL M c ty bytes (0 + ns.length) 0 false ns.flatten (some ([], none)) = _
    rw [Nat.zero_add]; rfl
   refine ⟨_, _, _, e2.trans (grown_eq M c ty bytes ns.length ns.flatten hr), fun M' hM' => ⟨hy.1, .inr ⟨c, 0, .inr ⟨0, ns.length, by omega, rfl⟩, by omega, (rowAt_U (by rw [hM' c (by omega) (by omega)]; exact get_same _ _ _)).cells⟩⟩, hg.set c _ hg.le (by omega) (by omega), by omega, (by intro h; cases h)⟩
theorem v_mki {F : RO} (ty : Nat) (x : X) (M : Mem) (t : T) : (qop (.mki ty x) F M t).val = some (.a ty (x.ev t)) := Eq.trans rfl (Eq.refl _)
def taV (want : Nat) (zero : V) (ok : Bool) (v : V) : Option V := (q_ta want zero ok (.c v) [] .e .e).val
theorem v_ta {F : RO} (want : Nat) (zero : V) (ok : Bool) (x : X) (M : Mem) (t : T) : (qop (.ta want zero ok x) F M t).val = taV want zero ok (x.ev t) := Eq.trans rfl (Eq.refl _)
theorem taV_a (want : Nat) (zero v : V) : taV want zero false (.a want v) = some v := by
 show (bif Nat.beq want want then QR.v v else .f).val = _
 rw [beqN, decide_eq_true rfl]; rfl
theorem eqV_ptr {F : RO} (b : Nat) (lit : Bool) (M : Mem) : eqV F M .ptr lit (.p b 0) .p0 = some false := rfl
theorem eqV_map {F : RO} (b : Nat) (lit : Bool) (M : Mem) : eqV F M .map lit (.m b) .m0 = some false := rfl
def mclE (F : RO) (M : Mem) (c : Nat) (v : V) : RC := e_mcl (.c v) F M c .e
theorem x_mcl_eq {Φ : Nat → Option CF} {rd : Option Nat} {fn : Nat} {F : RO} (x : X) (M : Mem) (c : Nat) (t : T) : doE (.mcl x) (K Φ rd fn F) M c t = mclE F M c (x.ev t) := Eq.trans rfl (Eq.refl _)
theorem mclE_m {F : RO} {M : Mem} {b c t k : Nat} {es : List (V × V × Nat)} (h : look F M b = some (.map es k)) (ho : ordd k = true) : mclE F M c (.a t (.m b)) = .k (.a t (.m c)) (M.set c (.map es k)) (c + 1) := by
 show asMap (look F M b) .f (fun es clock => bif ordd clock then fN (Nat.succ c) fun c' => setM M c' c (.map es clock) (.a t (.m c)) else .f) = _
 rw [h]
 show (bif ordd k then fN (Nat.succ c) fun c' => setM M c' c (.map es k) (.a t (.m c)) else .f) = _
 rw [ho, cond_true, fN_eq, setM_eq]
theorem r15 {Φ : Nat → Option CF} (h : Φ 15 = some c15) {F : RO} {M : Mem} {c tb mb : Nat} (l0 : load1 F M tb 0 = some (.m mb)) :
  Calls Φ F 15 [.p tb 0] M c fun r M' c' => r = .b true ∧ M' = M ∧ c' = c := by
 refine calls_walk h ?_
 simp only [WX, Nat.reducePow, Nat.reduceDiv, Nat.reduceMod, Nat.reduceBEq, Nat.reduceEqDiff, Int.reduceEq, Int.reduceLT, Int.reduceLE, reduceIte, reduceCtorEq, Nat.reduceAdd, Nat.reduceLeDiff, wd_e1, B15, l0, eqV_map, eqV_ptr, v_nck, nckV_p]
theorem r17 {Φ : Nat → Option CF} (h : Φ 17 = some c17) {F : RO} {M : Mem} {c : Nat} {v : V} {l : List UInt8} (ok : Okm F M c) (hs : SlB F M c v l) (hl : l.length ≤ 9000) :
  Calls Φ F 17 [v] M c fun r M' c' => SlOwn F M' c c' 1 r (l.map fun x => [bV x]) ∧ Gr c M c' M' := by
 refine calls_walk h ?_
 rcases nil_sl hs with ⟨rfl, hn⟩ | ⟨hv, hn⟩
 · simp only [WX, Nat.reducePow, Nat.reduceDiv, Nat.reduceMod, Nat.reduceBEq, Nat.reduceEqDiff, Int.reduceEq, Int.reduceLT, Int.reduceLE, reduceIte, reduceCtorEq, Nat.reduceAdd, Nat.reduceLeDiff, wd_e1, B17, eqV_nilT]
   exact ⟨fun M' _ => ⟨hs.1, .inl ⟨hn, .inl rfl⟩⟩, Gr.refl ok⟩
 · have q := fun lit M => eqV_nilF (F := F) hn lit M
   simp only [WX, Nat.reducePow, Nat.reduceDiv, Nat.reduceMod, Nat.reduceBEq, Nat.reduceEqDiff, Int.reduceEq, Int.reduceLT, Int.reduceLE, reduceIte, reduceCtorEq, Nat.reduceAdd, Nat.reduceLeDiff, wd_e1, B17, q]
   have hg := fun x => (Gr.refl ok).set c x (Nat.le_refl _) (Nat.lt_succ_self _) (Nat.le_succ _)
   refine putE_to ((appV_00 (M0 := M) (c0 := c) (hg _) Nat.one_pos (hs.grow (hg _)) (allOne_sl l) (room_of (by simp; omega) (by simp; omega)) (Nat.lt_succ_self _)).mono ?_)
   rintro v1 M1 c1 ⟨h1, h2, _, _⟩
   simp only [WX, Nat.reducePow, Nat.reduceDiv, Nat.reduceMod, Nat.reduceBEq, Nat.reduceEqDiff, Int.reduceEq, Int.reduceLT, Int.reduceLE, reduceIte, reduceCtorEq, Nat.reduceAdd, Nat.reduceLeDiff, wd_e1, B17]
   exact ⟨h1, h2⟩
theorem r18 {Φ : Nat → Option CF} (h : Φ 18 = some c18) {F : RO} {M : Mem} {c nm nk : Nat} {ns : List (V × V × Nat)} (hM : look F M nm = some (.map ns nk)) (ho : ordd nk = true) :
  Calls Φ F 18 [.m nm] M c fun r M' c' => r = .m c ∧ M' = M.set c (.map ns nk) ∧ c' = c + 1 := by
 refine calls_walk h ?_
 simp only [WX, Nat.reducePow, Nat.reduceDiv, Nat.reduceMod, Nat.reduceBEq, Nat.reduceEqDiff, Int.reduceEq, Int.reduceLT, Int.reduceLE, reduceIte, reduceCtorEq, Nat.reduceAdd, Nat.reduceLeDiff, wd_e1, B18, eqV_map, x_mcl_eq, mclE_m hM ho, v_mki, v_ta, taV_a]
end
end Go.Proofs.YtpokoiicogheaaaGreatDoor.Ev
