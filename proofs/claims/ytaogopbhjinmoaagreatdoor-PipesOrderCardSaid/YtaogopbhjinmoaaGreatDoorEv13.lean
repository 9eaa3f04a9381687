/- What is proved here: pieces of the evaluator's soundness: if the evaluator comes to a value, the model's run comes to it, for every world and tape; no conditions beyond the hypotheses of each theorem. -/
import Derived.Test.YtaogopbhjinmoaaGreatDoorEv12
import GoSem.ClaimChange
set_option linter.unusedSimpArgs false
set_option linter.unusedVariables false
set_option linter.defProp false
namespace Go.Proofs.YtaogopbhjinmoaaGreatDoor.Ev
open Go
inductive Ty where
  | bool | int (k : IntKind) | str | sl (e : Ty) | nil | cons (a b : Ty) | arr (n : Nat) (k : IntKind)
def Ty.D : Ty → Type
  | .bool => Bool
  | .int _ => Int
  | .str => List UInt8
  | .sl e => List e.D
  | .nil => Unit
  | .cons a b => a.D × b.D
  | .arr _ _ => List Int
def Ty.size : Ty → Nat
  | .nil => 0
  | .cons a b => a.size + b.size
  | .arr n _ => n
  | _ => 1
def Ty.hasSl : Ty → Bool
  | .sl _ => true
  | .cons a b => a.hasSl || b.hasSl
  | _ => false
def Ty.deep : Ty → Bool
  | .sl e => e.hasSl
  | .cons a b => a.deep || b.deep
  | _ => false
def Rp (F : RO) (M : Mem) (c : Nat) : (t : Ty) → List V → t.D → Prop
  | .bool, vs, x => vs = [.b x]
  | .int k, vs, n => (fun z : Int => vs = [.i k z] ∧ k.min ≤ z ∧ z ≤ k.max) n
  | .str, vs, x => (fun l : List UInt8 => vs = [sV l] ∧ l.length ≤ Go.maxLen) x
  | .sl e, vs, x => (fun l : List e.D => ∃ v es, vs = [v] ∧ SlAt F M c e.size v es ∧ l.length ≤ Go.maxLen ∧ es.length = l.length ∧ ∀ i (h : i < es.length) (h' : i < l.length), Rp F M c e es[i] l[i]) x
  | .nil, vs, _ => vs = []
  | .cons a b, vs, x => ∃ v1 v2, vs = v1 ++ v2 ∧ Rp F M c a v1 x.1 ∧ Rp F M c b v2 x.2
  | .arr n k, vs, x => (fun l : List Int => vs = l.map (V.i k) ∧ l.length = n ∧ ∀ z ∈ l, k.min ≤ z ∧ z ≤ k.max) x
theorem Rp.len {F : RO} {M : Mem} {c : Nat} : ∀ {t : Ty} {vs : List V} {x : t.D}, Rp F M c t vs x → vs.length = t.size
  | .bool, vs, x, h => by obtain rfl : vs = [.b x] := h; rfl
  | .int k, vs, x, h => by obtain ⟨rfl, _⟩ := h; rfl
  | .str, vs, x, h => by obtain ⟨rfl, _⟩ := h; rfl
  | .sl e, vs, x, h => by obtain ⟨v, es, rfl, _⟩ := h; rfl
  | .nil, vs, x, h => by obtain rfl : vs = [] := h; rfl
  | .cons a b, vs, x, h => by
    obtain ⟨v1, v2, rfl, h1, h2⟩ := h
    rw [List.length_append, h1.len, h2.len]; rfl
  | .arr n k, vs, x, h => by
    obtain ⟨rfl, hl, _⟩ := h
    exact (show ((x : List Int).map (V.i k)).length = _ from List.length_map _).trans hl
def Sz (B : Nat) : (t : Ty) → t.D → Prop
  | .str, x => (fun l : List UInt8 => l.length ≤ B) x
  | .sl e, x => (fun l : List e.D => l.length ≤ B ∧ ∀ y ∈ l, Sz B e y) x
  | .cons a b, x => Sz B a x.1 ∧ Sz B b x.2
  | _, _ => True
mutual
def tyB (P : Program) : Ty → TypeId → Bool
  | .bool, t => match P.underlying t with | some .bool => true | _ => false
  | .int k, t => match P.underlying t with | some (.int k') => decide (k' = k) | _ => false
  | .str, t => match P.underlying t with | some .string => true | _ => false
  | .sl e, t => match P.underlying t with | some (.slice te) => decide (P.cellsOf te = e.size ∧ 0 < P.bytesOf te) && tyB P e te | _ => false
  | .nil, _ => false
  | .cons a b, t => match P.underlying t with
    | some (.struct fs) => decide (P.cellsOf t = a.size + b.size) && match fs.toList with
      | f :: r => decide (f.offset = 0) && (decide (P.cellsOf f.type = a.size) && (tyB P a f.type && fldB P b r a.size))
      | [] => false
    | _ => false
  | .arr n k, t => match P.underlying t with
    | some (.array n' e) => decide (n' = n ∧ 0 < n ∧ P.cellsOf e = 1 ∧ P.cellsOf t = n) && match P.underlying e with | some (.int k') => decide (k' = k) | _ => false
    | _ => false
def fldB (P : Program) : Ty → List Field → Nat → Bool
  | .nil, [], _ => true
  | .cons a b, f :: r, o => decide (f.offset = o) && (decide (P.cellsOf f.type = a.size) && (tyB P a f.type && fldB P b r (o + a.size)))
  | _, _, _ => false
end
theorem mapM_some {α β : Type} {f : α → Option β} : ∀ {l : List α} {r : List β}, l.mapM f = some r → r.length = l.length ∧ ∀ i (h : i < l.length) (h' : i < r.length), f l[i] = some r[i]
  | [], r, h => by
    rw [List.mapM_nil] at h
    obtain rfl : [] = r := Option.some.inj h
    exact ⟨rfl, fun i h => by cases h⟩
  | a :: l, r, h => by
    rw [List.mapM_cons] at h
    cases h1 : f a with
    | none => rw [h1] at h; cases h
    | some b =>
      rw [h1] at h
      have h' : (l.mapM f).bind (fun bs => some (b :: bs)) = some r := h
      cases h2 : l.mapM f with
      | none => rw [h2] at h'; cases h'
      | some bs =>
        rw [h2] at h'
        obtain rfl : b :: bs = r := Option.some.inj h'
        obtain ⟨h3, h4⟩ := mapM_some h2
        refine ⟨by simp [h3], fun i hi hi' => ?_⟩
        cases i with
        | zero => exact h1
        | succ i => exact h4 i (by simpa using hi) (by simpa using hi')
def okV (C : Nat) : Value → Prop
  | .slice (some a) 0 0 => (a.spot = none ∧ a.block < C) ∨ adE a < C
  | _ => True
def AsV (C : Nat) (cs : List Value) (vs : List V) : Prop := cs.map (vOf C) = vs.map some
theorem AsV.conc {C : Nat} : ∀ {cs : List Value} {vs : List V}, AsV C cs vs → concs E0 vs = cs ∧ bds (· < C) vs
  | [], [], _ => ⟨rfl, trivial⟩
  | [], _ :: _, h => by cases h
  | _ :: _, [], h => by cases h
  | c :: cs, v :: vs, h => by
    have h' : vOf C c :: cs.map (vOf C) = some v :: vs.map some := h
    injection h' with h1 h2
    obtain ⟨a1, a2⟩ := AsV.conc (cs := cs) (vs := vs) h2
    obtain ⟨b1, b2⟩ := vOf_conc h1
    exact ⟨by rw [concs, a1, b1], b2, a2⟩
theorem AsV.append {C : Nat} {cs cs' : List Value} {vs vs' : List V} (h : AsV C cs vs) (h' : AsV C cs' vs') : AsV C (cs ++ cs') (vs ++ vs') := by
  unfold AsV at *
  rw [List.map_append, List.map_append, h, h']
theorem AsV.len {C : Nat} {cs : List Value} {vs : List V} (h : AsV C cs vs) : cs.length = vs.length := by
  have := congrArg List.length h
  simpa using this
theorem AsV.get {C : Nat} {cs : List Value} {vs : List V} (h : AsV C cs vs) (i : Nat) (hi : i < cs.length) : vOf C cs[i] = vs[i]? := by
  have := congrArg (fun l : List (Option V) => l[i]?) h
  simp only [List.getElem?_map] at this
  rw [List.getElem?_eq_getElem hi, List.getElem?_eq_getElem (by rw [← h.len]; exact hi)] at this
  rw [List.getElem?_eq_getElem (by rw [← h.len]; exact hi)]
  simpa using this
section
variable {H : Type} {enc : TypeId × Value → H} {P : Program} {W : World} {C : Nat} {sp : Nat → Bool} {held : Bool}
theorem row_load {r o : Nat} {cs : List Value} {vs : List V} (h : AsV C cs vs) (hc : ∀ i (hi : i < cs.length), W.cell? ⟨r, o + i, none⟩ = some cs[i]) : CellsAt (heapF W C) .e r o vs := by
  intro k hk
  have hk' : k < cs.length := by rw [h.len]; exact hk
  have := h.get k hk'
  rw [List.getElem?_eq_getElem hk] at this ⊢
  exact heap_load (hc k hk') this
theorem trod_bool {t : TypeId} {cs : List Value} {fuel : Nat} {r : DataW H × List MemPlace} (hu : P.underlying t = some .bool) (h : DataW.trod enc P W 0 sp held fuel t cs = some r) : ∃ b, cs = [.bool b] := by
  cases fuel with
  | zero => cases h
  | succ fuel =>
    unfold DataW.trod at h
    rw [hu] at h
    split at h <;> first | (rename_i e; cases e; done) | cases h | skip
    all_goals simp_all
theorem trod_int {t : TypeId} {k : IntKind} {cs : List Value} {fuel : Nat} {r : DataW H × List MemPlace} (hu : P.underlying t = some (.int k)) (h : DataW.trod enc P W 0 sp held fuel t cs = some r) : ∃ n, cs = [.int k n] ∧ k.min ≤ n ∧ n ≤ k.max := by
  cases fuel with
  | zero => cases h
  | succ fuel =>
    unfold DataW.trod at h
    rw [hu] at h
    split at h <;> first | (rename_i e; cases e; done) | cases h | skip
    rename_i k0 k' n e
    simp only [Option.some.injEq, TypeDesc.int.injEq] at e
    subst e
    split at h
    · rename_i hk
      obtain ⟨rfl, hw⟩ := hk
      have hw' : (decide (k'.min ≤ n) && decide (n ≤ k'.max)) = true := hw
      simp only [Bool.and_eq_true, decide_eq_true_eq] at hw'
      exact ⟨n, rfl, hw'⟩
    · cases h
theorem trod_str {t : TypeId} {cs : List Value} {fuel : Nat} {r : DataW H × List MemPlace} (hu : P.underlying t = some .string) (h : DataW.trod enc P W 0 sp held fuel t cs = some r) : ∃ s : ByteArray, cs = [.string s] ∧ s.data.toList.length ≤ Go.maxLen ∧ r.1 = .lit (.string s.data.toList) := by
  cases fuel with
  | zero => cases h
  | succ fuel =>
    unfold DataW.trod at h
    rw [hu] at h
    split at h <;> first | (rename_i e; cases e; done) | cases h | skip
    rename_i s e
    split at h
    · rename_i hk
      injection h with h
      exact ⟨s, rfl, by simpa using hk, by rw [← h]⟩
    · cases h
def WOk (P : Program) (B : Nat) (t : TypeId) (d : DataW H) : Prop := ∀ n ∈ d.weights P t, n ≤ B
theorem mem_all {P : Program} {e : TypeId} {n : Nat} : ∀ {l : List (DataW H)} {d : DataW H}, d ∈ l → n ∈ d.weights P e → n ∈ DataW.weightsAll P e l
  | [], _, h, _ => by cases h
  | x :: l, d, h, hn => by
    rw [DataW.weightsAll, List.mem_append]
    rcases List.mem_cons.1 h with rfl | h
    · exact .inl hn
    · exact .inr (mem_all h hn)
theorem mem_each {P : Program} {n : Nat} : ∀ {ts : List TypeId} {l : List (DataW H)} {i : Nat} {t : TypeId} {d : DataW H}, ts[i]? = some t → l[i]? = some d → n ∈ d.weights P t → n ∈ DataW.weightsEach P ts l
  | [], _, i, _, _, h, _, _ => by cases i <;> cases h
  | _ :: _, [], i, _, _, _, h, _ => by cases i <;> cases h
  | t :: ts, d :: l, 0, _, _, h1, h2, hn => by
    cases h1; cases h2
    rw [DataW.weightsEach, List.mem_append]; exact .inl hn
  | t :: ts, d :: l, i + 1, _, _, h1, h2, hn => by
    rw [DataW.weightsEach, List.mem_append]; exact .inr (mem_each (i := i) h1 h2 hn)
theorem trod_sl {B : Nat} {t te : TypeId} {cs : List Value} {fuel : Nat} {r : DataW H × List MemPlace} (hu : P.underlying t = some (.slice te)) (h : DataW.trod enc P W 0 sp held fuel t cs = some r) :
    cs = [.slice none 0 0] ∨ ∃ a len cap fuel', cs = [.slice (some a) len cap] ∧ len ≤ cap ∧ cap ≤ Go.maxLen ∧
      (∀ i, i < len → ∃ es x, W.cells? 0 (a.add (i * P.cellsOf te)) (P.cellsOf te) = some es ∧ DataW.trod enc P W 0 sp held fuel' te es = some x ∧ (WOk P B t r.1 → WOk P B te x.1)) ∧ (WOk P B t r.1 → len * P.bytesOf te ≤ B) ∧
      (sp a.block = true → 0 < cap → ∃ es, W.cells? 0 a (P.cellsOf te) = some es) := by
  cases fuel with
  | zero => cases h
  | succ fuel =>
    unfold DataW.trod at h
    rw [hu] at h
    split at h <;> first | (rename_i e; cases e; done) | cases h | skip
    · exact .inl rfl
    · rename_i e0 a len cap e
      simp only [Option.some.injEq, TypeDesc.slice.injEq] at e
      subst e
      simp only at h
      split at h
      · rename_i hk
        obtain ⟨_, h1, h2⟩ := hk
        cases hm : (List.range len).mapM fun i => (W.cells? 0 (a.add (i * P.cellsOf te)) (P.cellsOf te)).bind (DataW.trod enc P W 0 sp held fuel te) with
        | none => rw [hm] at h; cases h
        | some elems =>
          obtain ⟨hl, hget⟩ := mapM_some hm
          obtain ⟨rest, hr⟩ : ∃ rest, r.1 = .slice (elems.map (·.1)) rest := by
            rw [hm] at h
            simp only [Option.bind_some] at h
            rw [Option.map_eq_some_iff] at h
            obtain ⟨rs, _, h⟩ := h
            exact ⟨_, by rw [← h]⟩
          have hw : r.1.weights P t = ((elems.map (·.1)).length + rest.length) * P.bytesOf te :: (DataW.weightsAll P te (elems.map (·.1)) ++ DataW.weightsAll P te rest) := by
            rw [hr, DataW.weights, hu]
          rw [List.length_range] at hl
          have hlen' : WOk P B t r.1 → len * P.bytesOf te ≤ B := fun hW => by
            have := hW _ (by rw [hw]; exact List.mem_cons_self ..)
            rw [List.length_map, hl] at this
            exact Nat.le_trans (Nat.mul_le_mul (Nat.le_add_right _ _) (Nat.le_refl _)) this
          have hel : ∀ i, i < len → ∃ es x, W.cells? 0 (a.add (i * P.cellsOf te)) (P.cellsOf te) = some es ∧ DataW.trod enc P W 0 sp held fuel te es = some x ∧ (WOk P B t r.1 → WOk P B te x.1) := fun i hi => by
            have := hget i (by simpa using hi) (by rw [hl]; exact hi)
            simp only [List.getElem_range] at this
            cases hc : W.cells? 0 (a.add (i * P.cellsOf te)) (P.cellsOf te) with
            | none => rw [hc] at this; cases this
            | some es =>
              rw [hc] at this
              refine ⟨es, _, rfl, this, fun hW n hn => hW n ?_⟩
              rw [hw]
              exact List.mem_cons_of_mem _ (List.mem_append_left _ (mem_all (List.mem_map.2 ⟨_, List.getElem_mem _, rfl⟩) hn))
          refine .inr ⟨a, len, cap, fuel, rfl, h1, h2, hel, hlen', fun hsp h0 => ?_⟩
          by_cases hlen : 0 < len
          · obtain ⟨es, _, he, _⟩ := hel 0 hlen
            rw [Nat.zero_mul] at he
            exact ⟨es, by simpa [Addr.add] using he⟩
          · rw [hm] at h
            simp only [Option.bind_some, if_pos hsp] at h
            cases hm2 : (List.range (cap - len)).mapM fun j => (W.cells? 0 (a.add ((len + j) * P.cellsOf te)) (P.cellsOf te)).bind (DataW.trod enc P W 0 sp held fuel te) with
            | none => rw [hm2] at h; cases h
            | some rest =>
              obtain ⟨g1, g2⟩ := mapM_some hm2
              rw [List.length_range] at g1
              have := g2 0 (by rw [List.length_range]; omega) (by omega)
              simp only [List.getElem_range] at this
              rw [show (len + 0) * P.cellsOf te = 0 by rw [show len = 0 by omega]; simp] at this
              cases hc : W.cells? 0 (a.add 0) (P.cellsOf te) with
              | none => rw [hc] at this; cases this
              | some es => exact ⟨es, by simpa [Addr.add] using hc⟩
      · cases h
theorem trod_st {B : Nat} {t : TypeId} {fs : Array Field} {cs : List Value} {fuel : Nat} {r : DataW H × List MemPlace} (hu : P.underlying t = some (.struct fs)) (h : DataW.trod enc P W 0 sp held fuel t cs = some r) :
    cs.length = P.cellsOf t ∧ ∃ fuel', ∀ f ∈ fs.toList, ∃ x, DataW.trod enc P W 0 sp held fuel' f.type ((cs.drop f.offset).take (P.cellsOf f.type)) = some x ∧ (WOk P B t r.1 → WOk P B f.type x.1) := by
  cases fuel with
  | zero => cases h
  | succ fuel =>
    have key : (if cs.length = P.cellsOf t then (fs.toList.mapM fun f => DataW.trod enc P W 0 sp held fuel f.type ((cs.drop f.offset).take (P.cellsOf f.type))).map fun xs => (DataW.agg (xs.map (·.1)), xs.flatMap (·.2)) else none) = some r := by
      unfold DataW.trod at h
      rw [hu] at h
      split at h <;> first | (rename_i e; cases e; done) | cases h | skip
      · rename_i e
        simp only [Option.some.injEq, TypeDesc.struct.injEq] at e
        subst e
        exact h
      · exact (‹∀ fs_1 : Array Field, some (TypeDesc.struct fs) = some (TypeDesc.struct fs_1) → False› fs rfl).elim
    split at key
    · rename_i hk
      refine ⟨hk, fuel, fun f hf => ?_⟩
      rw [Option.map_eq_some_iff] at key
      obtain ⟨xs, hm, hr⟩ := key
      obtain ⟨hl, hget⟩ := mapM_some hm
      obtain ⟨i, hi, rfl⟩ := List.getElem_of_mem hf
      refine ⟨_, hget i hi (by rw [hl]; exact hi), fun hW n hn => hW n ?_⟩
      rw [← hr, DataW.weights, hu]
      refine mem_each (i := i) (t := fs.toList[i].type) (d := (xs[i]'(by rw [hl]; exact hi)).1) ?_ ?_ hn
      · rw [List.getElem?_map, List.getElem?_eq_getElem hi]; rfl
      · rw [List.getElem?_map, List.getElem?_eq_getElem (by rw [hl]; exact hi)]; rfl
    · cases key
theorem trod_ar {t e : TypeId} {n : Nat} {cs : List Value} {fuel : Nat} {r : DataW H × List MemPlace} (hu : P.underlying t = some (.array n e)) (h : DataW.trod enc P W 0 sp held fuel t cs = some r) :
    cs.length = P.cellsOf t ∧ ∃ fuel', ∀ i, i < n → ∃ x, DataW.trod enc P W 0 sp held fuel' e ((cs.drop (i * P.cellsOf e)).take (P.cellsOf e)) = some x := by
  cases fuel with
  | zero => cases h
  | succ fuel =>
    have key : (if cs.length = P.cellsOf t then ((List.range n).mapM fun i => DataW.trod enc P W 0 sp held fuel e ((cs.drop (i * P.cellsOf e)).take (P.cellsOf e))).map fun xs => (DataW.agg (xs.map (·.1)), xs.flatMap (·.2)) else none) = some r := by
      unfold DataW.trod at h
      rw [hu] at h
      split at h <;> first | (rename_i e; cases e; done) | cases h | skip
      · rename_i e
        simp only [Option.some.injEq, TypeDesc.array.injEq] at e
        obtain ⟨rfl, rfl⟩ := e
        exact h
      · exact (‹∀ (n_1 : Nat) (e_1 : TypeId), some (TypeDesc.array n e) = some (TypeDesc.array n_1 e_1) → False› n e rfl).elim
    split at key
    · rename_i hk
      refine ⟨hk, fuel, fun i hi => ?_⟩
      rw [Option.map_eq_some_iff] at key
      obtain ⟨xs, hm, hr⟩ := key
      obtain ⟨hl, hget⟩ := mapM_some hm
      rw [List.length_range] at hl
      have := hget i (by rw [List.length_range]; exact hi) (by omega)
      rw [List.getElem_range] at this
      exact ⟨_, this⟩
    · cases key
theorem ints_of {k : IntKind} : ∀ {n : Nat} {cs : List Value}, cs.length = n → (∀ i, i < n → ∃ z, (cs.drop i).take 1 = [Value.int k z] ∧ k.min ≤ z ∧ z ≤ k.max) → ∃ zs : List Int, cs = zs.map (Value.int k) ∧ zs.length = n ∧ ∀ z ∈ zs, k.min ≤ z ∧ z ≤ k.max
  | 0, cs, h, _ => ⟨[], List.eq_nil_of_length_eq_zero h, rfl, fun z hz => by cases hz⟩
  | n + 1, [], h, _ => by cases h
  | n + 1, c :: cs, h, hi => by
    obtain ⟨z, h1, h2⟩ := hi 0 (Nat.succ_pos _)
    obtain ⟨zs, e1, e2, e3⟩ := ints_of (k := k) (n := n) (cs := cs) (by simpa using h) fun i hn => by
      have := hi (i + 1) (by omega)
      rwa [List.drop_succ_cons] at this
    have h1' : [c] = [Value.int k z] := h1
    injection h1' with h1'
    subst h1'
    refine ⟨z :: zs, by rw [e1]; rfl, by rw [List.length_cons, e2], fun y hy => ?_⟩
    rcases List.mem_cons.1 hy with rfl | hy
    · exact h2
    · exact e3 y hy
theorem asV_ints (C : Nat) (k : IntKind) (zs : List Int) : AsV C (zs.map (Value.int k)) (zs.map (V.i k)) := by
  unfold AsV
  rw [List.map_map, List.map_map]; rfl
theorem vOf_slice {a : Addr} {n c : Nat} (h1 : a.spot = none) (h2 : a.block < C) : vOf C (.slice (some a) n c) = some (.l a.block a.off n c) := by
  show (if a.spot = none ∧ a.block < C then some (V.l a.block a.off n c) else _) = _
  rw [if_pos ⟨h1, h2⟩]
theorem cells_first {a : Addr} {n : Nat} {cs : List Value} (hc : W.cells? 0 a n = some cs) (hn : 0 < n) : a.spot = none ∧ a.block < W.heap.size := by
  unfold World.cells? at hc
  rw [if_pos (Nat.zero_le _)] at hc
  obtain ⟨h1, h2⟩ := mapM_some hc
  rw [List.length_range] at h1
  have := h2 0 (by rw [List.length_range]; exact hn) (by omega)
  rw [List.getElem_range, show a.add 0 = a from rfl] at this
  unfold World.cell? at this
  split at this
  · rename_i hh
    split at this
    · cases this
    · rename_i hs
      refine ⟨?_, (Array.getElem?_eq_some_iff.1 hh).1⟩
      cases hsp : a.spot with
      | none => rfl
      | some k => rw [hsp] at hs; simp at hs
  · cases this
theorem sl_elems {sz : Nat} {a : Addr} {len cap : Nat} {Q : List Value → List V → Prop} (hs : a.spot = none) (hb : a.block < C) (hlc : len ≤ cap)
    (h : ∀ i, i < len → ∃ cs vs, W.cells? 0 (a.add (i * sz)) sz = some cs ∧ AsV C cs vs ∧ Q cs vs) :
    ∃ es : List (List V), es.length = len ∧ SlAt (heapF W C) .e C sz (.l a.block a.off len cap) es ∧ ∀ i (hi : i < es.length), ∃ cs, Q cs es[i] := by
  obtain ⟨b, o, sp⟩ := a
  obtain rfl : sp = none := hs
  have hget : ∀ i, i < len → ∃ cs vs, AsV C cs vs ∧ Q cs vs ∧ cs.length = sz ∧ ∀ k (hk : k < cs.length), W.cell? ⟨b, o + i * sz + k, none⟩ = some cs[k] := by
    intro i hi
    obtain ⟨cs, vs, h1, h2, h3⟩ := h i hi
    rw [Addr.add_eq] at h1
    unfold World.cells? at h1
    rw [if_pos (Nat.zero_le _)] at h1
    obtain ⟨h4, h5⟩ := mapM_some h1
    rw [List.length_range] at h4
    refine ⟨cs, vs, h2, h3, h4, fun k hk => ?_⟩
    have := h5 k (by rw [List.length_range]; omega) hk
    rw [List.getElem_range, Addr.add_eq] at this
    exact this
  have key : ∀ n, n ≤ len → ∃ es : List (List V), es.length = n ∧ (∀ e ∈ es, e.length = sz) ∧ CellsAt (heapF W C) .e b o es.flatten ∧ ∀ i (hi : i < es.length), ∃ cs, Q cs es[i] := by
    intro n
    induction n with
    | zero => intro _; exact ⟨[], rfl, fun e he => (by cases he), fun k hk => (by simp at hk), fun i hi => (by simp at hi)⟩
    | succ n ih =>
      intro hn
      obtain ⟨es, h1, h2, h3, h4⟩ := ih (by omega)
      obtain ⟨cs, vs, g1, g2, g3, g4⟩ := hget n (by omega)
      have hvl : vs.length = sz := by rw [← g1.len]; exact g3
      have h2' : ∀ e ∈ es ++ [vs], e.length = sz := by
        intro e he
        rw [List.mem_append, List.mem_singleton] at he
        rcases he with he | rfl
        · exact h2 e he
        · exact hvl
      have hfl : es.flatten.length = n * sz := by rw [flat_len h2, h1]
      refine ⟨es ++ [vs], by simp [h1], h2', ?_, fun i hi => ?_⟩
      · intro k hk
        rw [List.flatten_append] at hk ⊢
        simp only [List.flatten_cons, List.flatten_nil, List.append_nil, List.length_append] at hk ⊢
        by_cases hk1 : k < es.flatten.length
        · rw [List.getElem?_append_left hk1]; exact h3 k hk1
        · rw [List.getElem?_append_right (by omega), hfl]
          have hr := row_load (o := o + n * sz) g1 g4 (k - n * sz) (by omega)
          rw [← hr]; congr 1; omega
      · by_cases hi1 : i < es.length
        · rw [List.getElem_append_left hi1]; exact h4 i hi1
        · rw [List.getElem_append_right (by omega)]
          have : i - es.length = 0 := by simp at hi; omega
          simp only [this, List.getElem_cons_zero]
          exact ⟨cs, g2⟩
  obtain ⟨es, h1, h2, h3, h4⟩ := key len (Nat.le_refl _)
  refine ⟨es, h1, ⟨h2, .inr ⟨b, o, .inl ⟨cap, by omega, by rw [h1]⟩, hb, h3⟩⟩, h4⟩
theorem list_of {α : Type} {n : Nat} {Q : Nat → α → Prop} (h : ∀ i, i < n → ∃ x, Q i x) : ∃ l : List α, l.length = n ∧ ∀ i (hi : i < l.length), Q i l[i] := by
  induction n with
  | zero => exact ⟨[], rfl, fun i hi => (by simp at hi)⟩
  | succ n ih =>
    obtain ⟨l, h1, h2⟩ := ih fun i hi => h i (by omega)
    obtain ⟨x, hx⟩ := h n (by omega)
    refine ⟨l ++ [x], by simp [h1], fun i hi => ?_⟩
    by_cases hi1 : i < l.length
    · rw [List.getElem_append_left hi1]; exact h2 i hi1
    · rw [List.getElem_append_right (by omega)]
      have e : i = n := by simp at hi; omega
      subst e
      simp only [h1, Nat.sub_self, List.getElem_cons_zero]
      exact hx
theorem Ty.size_pos {P : Program} {ty : Ty} {t : TypeId} (h : tyB P ty t = true) : 0 < ty.size := by
  induction ty generalizing t with
  | cons a b iha _ =>
    rw [tyB] at h
    split at h
    · simp only [Bool.and_eq_true] at h
      obtain ⟨_, h⟩ := h
      split at h
      · simp only [Bool.and_eq_true] at h
        have := iha h.2.2.1
        show 0 < a.size + b.size
        omega
      · cases h
    · cases h
  | nil => cases h
  | arr n k =>
    rw [tyB] at h
    split at h
    · simp only [Bool.and_eq_true, decide_eq_true_eq] at h
      exact h.1.2.1
    · cases h
  | _ => exact Nat.one_pos
mutual
theorem rp_trod {B : Nat} (hsp : ∀ b, sp b = true) (hC : W.heap.size ≤ C) : ∀ (ty : Ty) (t : TypeId) (cs : List Value) (fuel : Nat) (r : DataW H × List MemPlace), tyB P ty t = true → DataW.trod enc P W 0 sp held fuel t cs = some r →
    (ty.hasSl = true → ∀ v ∈ cs, okV C v) → (ty.deep = true → ∀ a x, W.cell? a = some x → okV C x) → ∃ vs x, AsV C cs vs ∧ Rp (heapF W C) .e C ty vs x ∧ (WOk P B t r.1 → Sz B ty x)
  | .bool, t, cs, fuel, r, hb, h, h1, h2 => by
    rw [tyB] at hb
    split at hb
    · rename_i hu
      obtain ⟨b, rfl⟩ := trod_bool hu h
      exact ⟨[.b b], b, rfl, rfl, fun _ => trivial⟩
    · cases hb
  | .int k, t, cs, fuel, r, hb, h, h1, h2 => by
    rw [tyB] at hb
    split at hb
    · rename_i k' hu
      obtain rfl := of_decide_eq_true hb
      obtain ⟨n, rfl, hn⟩ := trod_int hu h
      exact ⟨[.i k' n], n, rfl, ⟨rfl, hn⟩, fun _ => trivial⟩
    · cases hb
  | .str, t, cs, fuel, r, hb, h, h1, h2 => by
    rw [tyB] at hb
    split at hb
    · rename_i hu
      obtain ⟨s, rfl, hs, hr⟩ := trod_str hu h
      refine ⟨[sV s.data.toList], s.data.toList, rfl, ⟨rfl, hs⟩, fun hW => hW _ ?_⟩
      rw [hr, DataW.weights]
      exact List.mem_singleton.2 rfl
    · cases hb
  | .sl e, t, cs, fuel, r, hb, h, h1, h2 => by
    rw [tyB] at hb
    split at hb
    · rename_i te hu
      simp only [Bool.and_eq_true, decide_eq_true_eq] at hb
      obtain ⟨⟨hsz, hbp⟩, hb⟩ := hb
      have hpos := Ty.size_pos hb
      rcases trod_sl (B := B) hu h with rfl | ⟨a, len, cap, fuel', rfl, hlc, hcap, hel, hlW, hfirst⟩
      · exact ⟨[.l0], [], rfl, ⟨.l0, [], rfl, ⟨fun e he => (by cases he), .inl ⟨rfl, .inl rfl⟩⟩, Nat.zero_le _, rfl, fun i hi => (by cases hi)⟩, fun _ => ⟨Nat.zero_le _, fun y hy => (by cases hy)⟩⟩
      · have hz := h1 rfl _ (List.mem_singleton.2 rfl)
        rw [hsz] at hel hfirst
        have hok : (a.spot = none ∧ a.block < C) ∨ (len = 0 ∧ cap = 0 ∧ adE a < C ∧ ¬ (a.spot = none ∧ a.block < C)) := by
          by_cases h0 : 0 < cap
          · obtain ⟨es, he⟩ := hfirst (hsp _) h0
            obtain ⟨g1, g2⟩ := cells_first he hpos
            exact .inl ⟨g1, Nat.lt_of_lt_of_le g2 hC⟩
          · obtain rfl : cap = 0 := by omega
            obtain rfl : len = 0 := by omega
            by_cases hq : a.spot = none ∧ a.block < C
            · exact .inl hq
            · exact .inr ⟨rfl, rfl, hz.resolve_left hq, hq⟩
        rcases hok with hok | ⟨rfl, rfl, he, hq⟩
        rotate_left
        · refine ⟨[.ue (adE a) 1 0], [], ?_, ⟨.ue (adE a) 1 0, [], rfl, ⟨fun e he => (by cases he), .inl ⟨rfl, .inr ⟨_, _, _, rfl⟩⟩⟩, Nat.zero_le _, rfl, fun i hi => (by cases hi)⟩, fun _ => ⟨Nat.zero_le _, fun y hy => (by cases hy)⟩⟩
          show [vOf C _] = [some _]
          congr 1
          show (if a.spot = none ∧ a.block < C then _ else if 0 = 0 ∧ 0 = 0 ∧ adE a < C then some (V.ue (adE a) 1 0) else none) = _
          rw [if_neg hq, if_pos ⟨rfl, rfl, he⟩]
        obtain ⟨es, hl, hS, hQ⟩ := sl_elems (cap := cap) (C := C) (Q := fun _ vs => ∃ x, Rp (heapF W C) .e C e vs x ∧ (WOk P B t r.1 → Sz B e x)) hok.1 hok.2 hlc (fun i hi => by
          obtain ⟨cs', x, hc, ht, hxW⟩ := hel i hi
          obtain ⟨vs, y, hv, hR, hZ⟩ := rp_trod (B := B) hsp hC e te cs' fuel' x hb ht
            (fun he v hv => by
              obtain ⟨j, hj, rfl⟩ := List.getElem_of_mem hv
              unfold World.cells? at hc
              rw [if_pos (Nat.zero_le _)] at hc
              obtain ⟨h4, h5⟩ := mapM_some hc
              exact h2 he _ _ (h5 j (by rw [List.length_range] at h4 ⊢; omega) hj))
            (fun he => h2 (by
              have key : ∀ t : Ty, t.deep = true → t.hasSl = true := by
                intro t
                induction t with
                | cons a b iha ihb =>
                  intro hd
                  have hd' : (a.deep || b.deep) = true := hd
                  show (a.hasSl || b.hasSl) = true
                  rw [Bool.or_eq_true] at hd' ⊢
                  exact hd'.imp iha ihb
                | sl e _ => intro _; rfl
                | _ => intro hd; cases hd
              exact key e he))
          exact ⟨cs', vs, hc, hv, y, hR, fun hW => hZ (hxW hW)⟩)
        obtain ⟨xs, hxl, hx⟩ := list_of (n := es.length) (Q := fun i x => (∀ h : i < es.length, Rp (heapF W C) .e C e es[i] x) ∧ (WOk P B t r.1 → Sz B e x)) (fun i hi => by
          obtain ⟨_, x, hR, hZ⟩ := hQ i hi
          exact ⟨x, fun _ => hR, hZ⟩)
        refine ⟨[.l a.block a.off len cap], xs, ?_, ⟨.l a.block a.off len cap, es, rfl, hS, ?_, hxl.symm, fun i hi hi' => (hx i hi').1 hi⟩, fun hW => ⟨?_, fun y hy => ?_⟩⟩
        · show [vOf C _] = [some _]
          rw [vOf_slice hok.1 hok.2]
        · show List.length xs ≤ _
          omega
        · show List.length xs ≤ _
          rw [hxl, hl]
          exact Nat.le_trans (Nat.le_mul_of_pos_right _ hbp) (hlW hW)
        · obtain ⟨i, hi, rfl⟩ := List.getElem_of_mem hy
          exact (hx i hi).2 hW
    · cases hb
  | .nil, t, cs, fuel, r, hb, h, h1, h2 => by cases hb
  | .cons a b, t, cs, fuel, r, hb, h, h1, h2 => by
    rw [tyB] at hb
    split at hb
    · rename_i fs hu
      simp only [Bool.and_eq_true, decide_eq_true_eq] at hb
      obtain ⟨hsz, hb⟩ := hb
      obtain ⟨hlen, fuel', hf⟩ := trod_st (B := B) hu h
      split at hb
      · rename_i f rest hfs
        simp only [Bool.and_eq_true, decide_eq_true_eq] at hb
        obtain ⟨ho, hfa, hta, hrest⟩ := hb
        rw [hfs] at hf
        obtain ⟨x, hx, hxW⟩ := hf f (List.mem_cons_self ..)
        rw [ho, hfa] at hx
        have hs : (a.hasSl = true → ∀ v ∈ (cs.drop 0).take a.size, okV C v) := fun ha v hv => h1 (by show (a.hasSl || b.hasSl) = true; rw [ha]; rfl) v (List.mem_of_mem_drop (List.mem_of_mem_take hv))
        obtain ⟨v1, x1, hv1, hR1, hZ1⟩ := rp_trod (B := B) hsp hC a f.type _ fuel' x hta hx hs (fun ha => h2 (by show (a.deep || b.deep) = true; rw [ha]; rfl))
        obtain ⟨v2, x2, hv2, hR2, hZ2⟩ := rp_flds (B := B) (hyp := WOk P B t r.1) hsp hC b rest cs fuel' a.size hrest (by rw [hlen, hsz]) (fun f' hf' => hf f' (List.mem_cons_of_mem _ hf'))
          (fun hb' v hv => h1 (by show (a.hasSl || b.hasSl) = true; rw [hb']; simp) v (List.mem_of_mem_drop hv)) (fun hb' => h2 (by show (a.deep || b.deep) = true; rw [hb']; simp))
        refine ⟨v1 ++ v2, (x1, x2), ?_, ⟨v1, v2, rfl, hR1, hR2⟩, fun hW => ⟨hZ1 (hxW hW), hZ2 hW⟩⟩
        have := hv1.append hv2
        rwa [List.drop_zero, List.take_append_drop] at this
      · cases hb
    · cases hb
  | .arr n k, t, cs, fuel, r, hb, h, h1, h2 => by
    rw [tyB] at hb
    split at hb
    · rename_i n' e hu
      simp only [Bool.and_eq_true, decide_eq_true_eq] at hb
      obtain ⟨⟨rfl, hn, hc1, hct⟩, hb⟩ := hb
      split at hb
      · rename_i k' hk
        obtain rfl := of_decide_eq_true hb
        obtain ⟨hlen, fuel', hel⟩ := trod_ar hu h
        rw [hct] at hlen
        obtain ⟨zs, rfl, hz, hr⟩ := ints_of (k := k') hlen fun i hi => by
          obtain ⟨x, hx⟩ := hel i hi
          rw [hc1, Nat.mul_one] at hx
          exact trod_int hk hx
        exact ⟨zs.map (V.i k'), zs, asV_ints C k' zs, ⟨rfl, hz, hr⟩, fun _ => trivial⟩
      · cases hb
    · cases hb
theorem rp_flds {B : Nat} {hyp : Prop} (hsp : ∀ b, sp b = true) (hC : W.heap.size ≤ C) : ∀ (ty : Ty) (fs : List Field) (cs : List Value) (fuel o : Nat), fldB P ty fs o = true → cs.length = o + ty.size →
    (∀ f ∈ fs, ∃ x, DataW.trod enc P W 0 sp held fuel f.type ((cs.drop f.offset).take (P.cellsOf f.type)) = some x ∧ (hyp → WOk P B f.type x.1)) →
    (ty.hasSl = true → ∀ v ∈ cs.drop o, okV C v) → (ty.deep = true → ∀ a x, W.cell? a = some x → okV C x) → ∃ vs x, AsV C (cs.drop o) vs ∧ Rp (heapF W C) .e C ty vs x ∧ (hyp → Sz B ty x)
  | .nil, [], cs, fuel, o, hb, hl, hf, h1, h2 => by
    refine ⟨[], (), ?_, rfl, fun _ => trivial⟩
    rw [List.drop_eq_nil_of_le (by have : (Ty.nil).size = 0 := rfl; omega)]; rfl
  | .nil, _ :: _, cs, fuel, o, hb, hl, hf, h1, h2 => by cases hb
  | .bool, fs, cs, fuel, o, hb, hl, hf, h1, h2 => by cases fs <;> cases hb
  | .int k, fs, cs, fuel, o, hb, hl, hf, h1, h2 => by cases fs <;> cases hb
  | .str, fs, cs, fuel, o, hb, hl, hf, h1, h2 => by cases fs <;> cases hb
  | .sl e, fs, cs, fuel, o, hb, hl, hf, h1, h2 => by cases fs <;> cases hb
  | .arr n k, fs, cs, fuel, o, hb, hl, hf, h1, h2 => by cases fs <;> cases hb
  | .cons a b, [], cs, fuel, o, hb, hl, hf, h1, h2 => by cases hb
  | .cons a b, f :: rest, cs, fuel, o, hb, hl, hf, h1, h2 => by
    rw [fldB] at hb
    simp only [Bool.and_eq_true, decide_eq_true_eq] at hb
    obtain ⟨ho, hfa, hta, hrest⟩ := hb
    have hl' : cs.length = o + (a.size + b.size) := hl
    obtain ⟨x, hx, hxW⟩ := hf f (List.mem_cons_self ..)
    rw [ho, hfa] at hx
    obtain ⟨v1, x1, hv1, hR1, hZ1⟩ := rp_trod (B := B) hsp hC a f.type _ fuel x hta hx (fun ha v hv => h1 (by show (a.hasSl || b.hasSl) = true; rw [ha]; rfl) v (List.mem_of_mem_take hv)) (fun ha => h2 (by show (a.deep || b.deep) = true; rw [ha]; rfl))
    obtain ⟨v2, x2, hv2, hR2, hZ2⟩ := rp_flds (B := B) (hyp := hyp) hsp hC b rest cs fuel (o + a.size) hrest (by omega) (fun f' hf' => hf f' (List.mem_cons_of_mem _ hf'))
      (fun hb' v hv => h1 (by show (a.hasSl || b.hasSl) = true; rw [hb']; simp) v (by rw [← List.drop_drop] at hv; exact List.mem_of_mem_drop hv)) (fun hb' => h2 (by show (a.deep || b.deep) = true; rw [hb']; simp))
    refine ⟨v1 ++ v2, (x1, x2), ?_, ⟨v1, v2, rfl, hR1, hR2⟩, fun hW => ⟨hZ1 (hxW hW), hZ2 hW⟩⟩
    have := hv1.append hv2
    rwa [← List.drop_drop, List.take_append_drop] at this
end
theorem cells_kept {W W' : World} (h : ∀ i, i < W.heap.size → W'.heap[i]? = W.heap[i]?) {a : Addr} {n : Nat} {cs : List Value} (hc : W.cells? 0 a n = some cs) : W'.cells? 0 a n = some cs := by
  unfold World.cells? at hc ⊢
  rw [if_pos (Nat.zero_le _)] at hc ⊢
  have key : ∀ (l : List Nat) (r : List Value), (l.mapM fun i => W.cell? (a.add i)) = some r → (l.mapM fun i => W'.cell? (a.add i)) = some r := by
    intro l
    induction l with
    | nil => intro r hr; exact hr
    | cons x l ih =>
      intro r hr
      rw [List.mapM_cons] at hr ⊢
      cases h1 : W.cell? (a.add x) with
      | none => rw [h1] at hr; cases hr
      | some v =>
        have e : W'.cell? (a.add x) = some v := by
          unfold World.cell? at h1 ⊢
          split at h1
          · rename_i hh
            rw [h _ (Array.getElem?_eq_some_iff.1 hh).1, hh]
            exact h1
          · cases h1
        rw [h1] at hr
        rw [e]
        cases h2 : l.mapM fun i => W.cell? (a.add i) with
        | none => rw [h2] at hr; cases hr
        | some vs =>
          rw [h2] at hr
          rw [ih vs h2]
          exact hr
  exact key _ _ hc
theorem cells_lt {W : World} {a : Addr} {n : Nat} {cs : List Value} (hc : W.cells? 0 a n = some cs) (hn : 0 < n) : a.block < W.heap.size := by
  unfold World.cells? at hc
  rw [if_pos (Nat.zero_le _)] at hc
  obtain ⟨h1, h2⟩ := mapM_some hc
  rw [List.length_range] at h1
  have := h2 0 (by rw [List.length_range]; exact hn) (by omega)
  rw [List.getElem_range] at this
  unfold World.cell? at this
  split at this
  · rename_i hh
    have := (Array.getElem?_eq_some_iff.1 hh).1
    unfold Addr.add at this
    simpa using this
  · cases this
theorem mapM_imp {α β : Type} {f g : α → Option β} : ∀ {l : List α} {r : List β}, l.mapM f = some r → (∀ x ∈ l, ∀ y, f x = some y → g x = some y) → l.mapM g = some r
  | [], r, h, _ => h
  | a :: l, r, h, hfg => by
    rw [List.mapM_cons] at h ⊢
    cases h1 : f a with
    | none => rw [h1] at h; cases h
    | some b =>
      rw [h1] at h
      rw [hfg a (List.mem_cons_self ..) b h1]
      cases h2 : l.mapM f with
      | none => rw [h2] at h; cases h
      | some bs =>
        rw [h2] at h
        rw [mapM_imp h2 fun x hx => hfg x (List.mem_cons_of_mem _ hx)]
        exact h
theorem trod_st_eq {t : TypeId} {fs : Array Field} {cs : List Value} {fuel : Nat} (hu : P.underlying t = some (.struct fs)) (hlen : cs.length = P.cellsOf t) : DataW.trod enc P W 0 sp held (fuel + 1) t cs =
    (fs.toList.mapM fun f => DataW.trod enc P W 0 sp held fuel f.type ((cs.drop f.offset).take (P.cellsOf f.type))).map fun xs => (DataW.agg (xs.map (·.1)), xs.flatMap (·.2)) := by
  rw [DataW.trod_step]
  unfold DataW.trodStep
  rw [hu]
  clear hu
  split
  all_goals first
    | (rename_i e; simp only [Option.some.injEq, TypeDesc.struct.injEq] at e; subst e; rw [if_pos hlen]; done)
    | (rename_i e; cases e; done)
    | exact (‹∀ fs_1 : Array Field, some (TypeDesc.struct fs) = some (TypeDesc.struct fs_1) → False› fs rfl).elim
    | skip
theorem trod_ar_eq {t e : TypeId} {n : Nat} {cs : List Value} {fuel : Nat} (hu : P.underlying t = some (.array n e)) (hlen : cs.length = P.cellsOf t) : DataW.trod enc P W 0 sp held (fuel + 1) t cs =
    ((List.range n).mapM fun i => DataW.trod enc P W 0 sp held fuel e ((cs.drop (i * P.cellsOf e)).take (P.cellsOf e))).map fun xs => (DataW.agg (xs.map (·.1)), xs.flatMap (·.2)) := by
  rw [DataW.trod_step]
  unfold DataW.trodStep
  rw [hu]
  clear hu
  split
  all_goals first
    | (rename_i e; simp only [Option.some.injEq, TypeDesc.array.injEq] at e; obtain ⟨rfl, rfl⟩ := e; rw [if_pos hlen]; done)
    | (rename_i e; cases e; done)
    | exact (‹∀ (n_1 : Nat) (e_1 : TypeId), some (TypeDesc.array n e) = some (TypeDesc.array n_1 e_1) → False› n e rfl).elim
    | skip
mutual
theorem trod_kept {W W' : World} (hW : ∀ i, i < W.heap.size → W'.heap[i]? = W.heap[i]?) : ∀ (ty : Ty) (t : TypeId) (cs : List Value) (fuel : Nat) (r : DataW H × List MemPlace), tyB P ty t = true →
    DataW.trod enc P W 0 (fun _ => true) held fuel t cs = some r → DataW.trod enc P W' 0 (fun b => decide (b < W.heap.size)) held fuel t cs = some r
  | ty, t, cs, 0, r, hb, h => by cases h
  | .bool, t, cs, fuel + 1, r, hb, h => by
    rw [tyB] at hb
    split at hb
    · rename_i hu
      obtain ⟨b, rfl⟩ := trod_bool hu h
      simp only [DataW.trod, hu] at h ⊢
      exact h
    · cases hb
  | .int k, t, cs, fuel + 1, r, hb, h => by
    rw [tyB] at hb
    split at hb
    · rename_i k' hu
      obtain rfl := of_decide_eq_true hb
      obtain ⟨n, rfl, hn⟩ := trod_int hu h
      simp only [DataW.trod, hu] at h ⊢
      exact h
    · cases hb
  | .str, t, cs, fuel + 1, r, hb, h => by
    rw [tyB] at hb
    split at hb
    · rename_i hu
      obtain ⟨s, rfl, hs⟩ := trod_str hu h
      simp only [DataW.trod, hu] at h ⊢
      exact h
    · cases hb
  | .sl e, t, cs, fuel + 1, r, hb, h => by
    rw [tyB] at hb
    split at hb
    · rename_i te hu
      simp only [Bool.and_eq_true, decide_eq_true_eq] at hb
      obtain ⟨⟨hsz, _⟩, hb⟩ := hb
      have hpos := Ty.size_pos hb
      rcases trod_sl (B := 0) hu h with rfl | ⟨a, len, cap, fuel', rfl, hlc, hcap, hel⟩
      · simp only [DataW.trod, hu] at h ⊢
        exact h
      · simp only [DataW.trod, hu] at h ⊢
        rw [if_pos ⟨Nat.zero_le _, hlc, hcap⟩] at h ⊢
        have elem : ∀ i y, (W.cells? 0 (a.add (i * P.cellsOf te)) (P.cellsOf te)).bind (DataW.trod enc P W 0 (fun _ => true) held fuel te) = some y →
            (W'.cells? 0 (a.add (i * P.cellsOf te)) (P.cellsOf te)).bind (DataW.trod enc P W' 0 (fun b => decide (b < W.heap.size)) held fuel te) = some y := by
          intro i y hy
          cases hc : W.cells? 0 (a.add (i * P.cellsOf te)) (P.cellsOf te) with
          | none => rw [hc] at hy; cases hy
          | some es =>
            rw [hc] at hy
            rw [cells_kept hW hc]
            exact trod_kept hW e te es fuel y hb hy
        cases hm : (List.range len).mapM fun i => (W.cells? 0 (a.add (i * P.cellsOf te)) (P.cellsOf te)).bind (DataW.trod enc P W 0 (fun _ => true) held fuel te) with
        | none => rw [hm] at h; cases h
        | some elems =>
          rw [hm] at h
          rw [mapM_imp hm fun i _ => elem i]
          simp only [Option.bind_some, if_true] at h ⊢
          by_cases hblk : a.block < W.heap.size
          · rw [decide_eq_true hblk]
            simp only [if_true]
            cases hm2 : (List.range (cap - len)).mapM fun j => (W.cells? 0 (a.add ((len + j) * P.cellsOf te)) (P.cellsOf te)).bind (DataW.trod enc P W 0 (fun _ => true) held fuel te) with
            | none => rw [hm2] at h; cases h
            | some rest =>
              rw [hm2] at h
              rw [mapM_imp hm2 fun i _ => elem (len + i)]
              exact h
          · rw [decide_eq_false hblk]
            have h0 : cap - len = 0 := by
              by_cases h0 : cap - len = 0
              · exact h0
              · exfalso
                cases hm2 : (List.range (cap - len)).mapM fun j => (W.cells? 0 (a.add ((len + j) * P.cellsOf te)) (P.cellsOf te)).bind (DataW.trod enc P W 0 (fun _ => true) held fuel te) with
                | none => rw [hm2] at h; cases h
                | some rest =>
                  obtain ⟨g1, g2⟩ := mapM_some hm2
                  rw [List.length_range] at g1
                  have := g2 0 (by rw [List.length_range]; omega) (by omega)
                  cases hc : W.cells? 0 (a.add ((len + (List.range (cap - len))[0]'(by rw [List.length_range]; omega)) * P.cellsOf te)) (P.cellsOf te) with
                  | none => rw [hc] at this; cases this
                  | some es =>
                    have := cells_lt hc (by omega)
                    unfold Addr.add at this
                    split at this <;> exact hblk this
            rw [h0] at h
            simp only [List.range_zero, List.mapM_nil] at h
            exact h
    · cases hb
  | .nil, t, cs, fuel + 1, r, hb, h => by cases hb
  | .cons a b, t, cs, fuel + 1, r, hb, h => by
    rw [tyB] at hb
    split at hb
    · rename_i fs hu
      simp only [Bool.and_eq_true, decide_eq_true_eq] at hb
      obtain ⟨hsz, hb⟩ := hb
      obtain ⟨hlen, _⟩ := trod_st (B := 0) hu h
      rw [trod_st_eq hu hlen] at h ⊢
      split at hb
      · rename_i f rest hfs
        simp only [Bool.and_eq_true, decide_eq_true_eq] at hb
        obtain ⟨ho, hfa, hta, hrest⟩ := hb
        rw [Option.map_eq_some_iff] at h
        obtain ⟨xs, hm, rfl⟩ := h
        rw [hfs] at hm ⊢
        rw [mapM_imp hm fun g hg y hy => by
          rcases List.mem_cons.1 hg with rfl | hg
          · exact trod_kept hW a _ _ fuel y hta hy
          · exact flds_kept hW b rest fuel a.size hrest g hg _ y hy]
        rfl
      · cases hb
    · cases hb
  | .arr n k, t, cs, fuel + 1, r, hb, h => by
    rw [tyB] at hb
    split at hb
    · rename_i n' e hu
      simp only [Bool.and_eq_true, decide_eq_true_eq] at hb
      obtain ⟨_, hb⟩ := hb
      split at hb
      · rename_i k' hk
        obtain ⟨hlen, _⟩ := trod_ar hu h
        rw [trod_ar_eq hu hlen] at h ⊢
        rw [Option.map_eq_some_iff] at h
        obtain ⟨xs, hm, rfl⟩ := h
        rw [mapM_imp hm fun i hi y hy => by
          cases fuel with
          | zero => cases hy
          | succ fuel =>
            obtain ⟨z, hz, _⟩ := trod_int hk hy
            rw [hz] at hy ⊢
            simp only [DataW.trod, hk] at hy ⊢
            exact hy]
        rfl
      · cases hb
    · cases hb
theorem flds_kept {W W' : World} (hW : ∀ i, i < W.heap.size → W'.heap[i]? = W.heap[i]?) : ∀ (ty : Ty) (fs : List Field) (fuel o : Nat), fldB P ty fs o = true → ∀ f ∈ fs, ∀ (cs : List Value) (y : DataW H × List MemPlace),
    DataW.trod enc P W 0 (fun _ => true) held fuel f.type cs = some y → DataW.trod enc P W' 0 (fun b => decide (b < W.heap.size)) held fuel f.type cs = some y
  | .nil, [], fuel, o, hb, f, hf, cs, y, h => by cases hf
  | .nil, _ :: _, fuel, o, hb, f, hf, cs, y, h => by cases hb
  | .bool, fs, fuel, o, hb, f, hf, cs, y, h => by cases fs <;> cases hb
  | .int k, fs, fuel, o, hb, f, hf, cs, y, h => by cases fs <;> cases hb
  | .str, fs, fuel, o, hb, f, hf, cs, y, h => by cases fs <;> cases hb
  | .sl e, fs, fuel, o, hb, f, hf, cs, y, h => by cases fs <;> cases hb
  | .arr n k, fs, fuel, o, hb, f, hf, cs, y, h => by cases fs <;> cases hb
  | .cons a b, [], fuel, o, hb, f, hf, cs, y, h => by cases hb
  | .cons a b, g :: rest, fuel, o, hb, f, hf, cs, y, h => by
    rw [fldB] at hb
    simp only [Bool.and_eq_true, decide_eq_true_eq] at hb
    obtain ⟨ho, hfa, hta, hrest⟩ := hb
    rcases List.mem_cons.1 hf with rfl | hf
    · exact trod_kept hW a _ _ fuel y hta h
    · exact flds_kept hW b rest fuel _ hrest f hf cs y h
end
def Ty.arg : Ty → List V → V
  | .cons _ _, vs => .g vs
  | .arr _ _, vs => .g vs
  | _, v :: _ => v
  | _, [] => undef
def ArgsR (F : RO) (C : Nat) : List Ty → List V → Prop
  | [], as => as = []
  | ty :: r, as => ∃ vs x a', as = ty.arg vs :: a' ∧ Rp F .e C ty vs x ∧ ArgsR F C r a'
def tysB (P : Program) : List Ty → List TypeId → Bool
  | [], [] => true
  | ty :: r, t :: ts => tyB P ty t && tysB P r ts
  | _, _ => false
theorem okV_cell {base : Nat} {u : TypeId} {v : Value} (h : Cell.okWide P W .any base u v) (hC : W.heap.size ≤ C) : okV C v := by
  unfold okV
  split
  · rename_i a
    have key : W.has P .any base a 0 0 ∨ ∃ e n, W.has P .any base a e n := by
      unfold Cell.okWide at h
      split at h <;> first | (rename_i e; cases e; done) | skip
      · rename_i hne
        unfold Cell.ok at h
        split at h <;> first | (rename_i e; cases e; done) | skip
        all_goals first
          | exact h.elim
          | skip
        all_goals (rename_i e1 e2; first | cases e2 | skip)
        exact .inr ⟨_, _, h.2.2⟩
    have : ∃ e n, W.has P .any base a e n := by
      rcases key with h | h
      · exact ⟨0, 0, h⟩
      · exact h
    obtain ⟨e, n, _, h1, row, cells, h2, _⟩ := this
    refine .inl ⟨h1, ?_⟩
    unfold World.shape? at h2
    split at h2
    · rename_i hh
      exact Nat.lt_of_lt_of_le (Array.getElem?_eq_some_iff.1 hh).1 hC
    · cases h2
  · trivial
theorem okV_val {base : Nat} {t : TypeId} {v : Value} (h : Value.okWide P W .any base t v) (hC : W.heap.size ≤ C) : ∀ x ∈ v.cells.toList, okV C x := by
  intro x hx
  unfold Value.okWide at h
  have agg : (∃ cs, v = .agg cs ∧ cs.size = P.cellsOf t ∧ Row.okWide P W .any base t cs) → okV C x := by
    rintro ⟨cs, rfl, _, ts, _, _, hcell⟩
    obtain ⟨i, hi, rfl⟩ := List.getElem_of_mem hx
    obtain ⟨u, _, hu⟩ := hcell i _ (by
      show cs[i]? = some _
      rw [Array.getElem?_eq_getElem (by simpa [Value.cells] using hi)])
    exact okV_cell hu hC
  split at h
  · exact agg h
  · exact agg h
  · have hv : v.cells = #[v] ∨ ∃ cs, v = .agg cs := by
      cases v <;> first | exact .inl rfl | exact .inr ⟨_, rfl⟩
    rcases hv with hv | ⟨cs, rfl⟩
    · rw [hv] at hx
      obtain rfl : x = v := by simpa using hx
      exact okV_cell h hC
    · exfalso
      unfold Cell.okWide at h
      split at h <;> first | (rename_i e1 e2; cases e2; done) | skip
      unfold Cell.ok at h
      split at h <;> first | (rename_i e1 e2; cases e2; done) | exact h
theorem agg_of {base : Nat} {t : TypeId} {v : Value} {fs : Array Field} (h : Value.okWide P W .any base t v) (hu : P.underlying t = some (.struct fs)) : ∃ cs, v = .agg cs := by
  unfold Value.okWide at h
  rw [hu] at h
  obtain ⟨cs, e, _⟩ := h
  exact ⟨cs, e⟩
theorem agg_ofA {base : Nat} {t e : TypeId} {n : Nat} {v : Value} (h : Value.okWide P W .any base t v) (hu : P.underlying t = some (.array n e)) : ∃ cs, v = .agg cs := by
  unfold Value.okWide at h
  rw [hu] at h
  obtain ⟨cs, e, _⟩ := h
  exact ⟨cs, e⟩
theorem cell_of {ty : Ty} {t : TypeId} {base : Nat} {v : Value} (h : Value.okWide P W .any base t v) (hb : tyB P ty t = true) (hn : ∀ a b, ty ≠ .cons a b) (hna : ∀ n k, ty ≠ .arr n k) : v.cells = #[v] := by
  have hu : ∀ fs, P.underlying t ≠ some (.struct fs) := by
    intro fs hu
    cases ty with
    | cons a b => exact hn a b rfl
    | arr n k => exact hna n k rfl
    | nil => cases hb
    | _ => rw [tyB, hu] at hb; cases hb
  have hu2 : ∀ n e, P.underlying t ≠ some (.array n e) := by
    intro n e hu
    cases ty with
    | cons a b => exact hn a b rfl
    | arr n k => exact hna n k rfl
    | nil => cases hb
    | _ => rw [tyB, hu] at hb; cases hb
  unfold Value.okWide at h
  split at h
  · exact (hu _ (by assumption)).elim
  · exact (hu2 _ _ (by assumption)).elim
  · cases v <;> first | rfl | skip
    exfalso
    unfold Cell.okWide at h
    split at h <;> first | (rename_i e1 e2; cases e2; done) | skip
    unfold Cell.ok at h
    split at h <;> first | (rename_i e1 e2; cases e2; done) | exact h
theorem arg_of (hsp : ∀ b, sp b = true) {ty : Ty} {t : TypeId} {base : Nat} {v : Value} {d : DataW H} {ps : List MemPlace} (hb : tyB P ty t = true) (h : DataW.Trod enc P W 0 sp held t v d ps) (hv : Value.okWide P W .any base t v) (hC : W.heap.size ≤ C)
    (hd : ty.deep = true → ∀ a x, W.cell? a = some x → okV C x) (B : Nat) : ∃ vs x, conc E0 (ty.arg vs) = v ∧ bd (· < C) (ty.arg vs) ∧ Rp (heapF W C) .e C ty vs x ∧ (WOk P B t d → Sz B ty x) := by
  obtain ⟨fuel, h⟩ := h
  obtain ⟨vs, x, h1, h2⟩ := rp_trod (B := B) hsp hC ty t _ fuel _ hb h (fun _ => okV_val hv hC) hd
  obtain ⟨c1, c2⟩ := h1.conc
  refine ⟨vs, x, ?_, ?_, h2⟩
  · cases ty with
    | cons a b =>
      rw [tyB] at hb
      split at hb
      · rename_i fs hu
        obtain ⟨cs, rfl⟩ := agg_of hv hu
        show Value.agg (concs E0 vs).toArray = _
        rw [c1]
        simp [Value.cells]
      · cases hb
    | arr n k =>
      rw [tyB] at hb
      split at hb
      · rename_i n' e hu
        obtain ⟨cs, rfl⟩ := agg_ofA hv hu
        show Value.agg (concs E0 vs).toArray = _
        rw [c1]
        simp [Value.cells]
      · cases hb
    | nil => cases hb
    | _ =>
      have hc := cell_of hv hb (by intro a b e; cases e) (by intro a b e; cases e)
      rw [hc] at c1 h1
      have hl := h1.len
      match vs, hl with
      | [w], _ =>
        have : [conc E0 w] = [v] := c1
        injection this
  · cases ty with
    | cons a b => exact c2
    | arr n k => exact c2
    | nil => cases hb
    | _ =>
      cases vs with
      | nil => trivial
      | cons w r => exact c2.1
theorem args_of (hsp : ∀ b, sp b = true) {base : Nat} (hC : W.heap.size ≤ C) : ∀ {tys : List Ty} {ts : List TypeId} {vs : List Value} {ds : List (DataW H)} {ps : List MemPlace}, tysB P tys ts = true → DataW.TrodAll enc P W 0 sp held ts vs ds ps →
    (∀ (j : Nat) t v, ts[j]? = some t → vs[j]? = some v → Value.okWide P W .any base t v) → (tys.any Ty.deep = true → ∀ a x, W.cell? a = some x → okV C x) → ∃ as, concs E0 as = vs ∧ bds (· < C) as ∧ ArgsR (heapF W C) C tys as
  | [], [], [], ds, ps, hb, h, hv, hd => ⟨[], rfl, trivial, rfl⟩
  | [], [], _ :: _, ds, ps, hb, h, hv, hd => by cases ds <;> cases h
  | [], _ :: _, vs, ds, ps, hb, h, hv, hd => by cases hb
  | _ :: _, [], vs, ds, ps, hb, h, hv, hd => by cases hb
  | ty :: tys, t :: ts, [], ds, ps, hb, h, hv, hd => by cases ds <;> cases h
  | ty :: tys, t :: ts, v :: vs, [], ps, hb, h, hv, hd => by cases h
  | ty :: tys, t :: ts, v :: vs, d :: ds, ps, hb, h, hv, hd => by
    have hb' : (tyB P ty t && tysB P tys ts) = true := hb
    rw [Bool.and_eq_true] at hb'
    obtain ⟨p, q, h1, h2, _⟩ := h
    obtain ⟨ws, x, g1, g2, g3, _⟩ := arg_of hsp hb'.1 h1 (hv 0 t v rfl rfl) hC (fun hh => hd (by rw [List.any_cons, hh]; rfl)) 0
    obtain ⟨as, a1, a2, a3⟩ := args_of hsp hC hb'.2 h2 (fun j t v ht hv' => hv (j + 1) t v ht hv') (fun hh => hd (by rw [List.any_cons, hh]; simp))
    exact ⟨ty.arg ws :: as, by rw [concs, g1, a1], ⟨g2, a2⟩, ws, x, as, rfl, g3, a3⟩
theorem all_kept {W' : World} (hW : ∀ i, i < W.heap.size → W'.heap[i]? = W.heap[i]?) : ∀ {tys : List Ty} {ts : List TypeId} {vs : List Value} {ds : List (DataW H)} {ps : List MemPlace}, tysB P tys ts = true →
    DataW.TrodAll enc P W 0 (fun _ => true) held ts vs ds ps → DataW.TrodAll enc P W' 0 (fun b => decide (b < W.heap.size)) held ts vs ds ps
  | [], [], [], [], ps, hb, h => h
  | [], [], [], _ :: _, ps, hb, h => by cases h
  | [], [], _ :: _, ds, ps, hb, h => by cases ds <;> cases h
  | [], _ :: _, vs, ds, ps, hb, h => by cases hb
  | _ :: _, [], vs, ds, ps, hb, h => by cases hb
  | ty :: tys, t :: ts, [], ds, ps, hb, h => by cases ds <;> cases h
  | ty :: tys, t :: ts, v :: vs, [], ps, hb, h => by cases h
  | ty :: tys, t :: ts, v :: vs, d :: ds, ps, hb, h => by
    have hb' : (tyB P ty t && tysB P tys ts) = true := hb
    rw [Bool.and_eq_true] at hb'
    obtain ⟨p, q, ⟨fuel, h1⟩, h2, e⟩ := h
    exact ⟨p, q, ⟨fuel, trod_kept hW ty t _ fuel _ hb'.1 h1⟩, all_kept hW hb'.2 h2, e⟩
theorem okm_heap {W : World} {C : Nat} (hC : W.heap.size ≤ C) (hk : 1000 ≤ C) : Okm (heapF W C) .e C := by
  refine ⟨fun _ _ => rfl, fun b hb => ?_, fun _ _ => rfl, hk⟩
  rw [heapF_get, Array.getElem?_eq_none (by omega)]; rfl
noncomputable def bndV : Value → Nat
  | .slice (some a) 0 0 => adE a + 1
  | _ => 0
theorem bnd_vals : ∀ l : List Value, ∃ B, ∀ x ∈ l, bndV x ≤ B
  | [] => ⟨0, fun x hx => by cases hx⟩
  | v :: l => by
    obtain ⟨B, hB⟩ := bnd_vals l
    refine ⟨max (bndV v) B, fun x hx => ?_⟩
    rcases List.mem_cons.1 hx with rfl | hx
    · exact Nat.le_max_left _ _
    · exact Nat.le_trans (hB x hx) (Nat.le_max_right _ _)
theorem bnd_objs : ∀ l : List Obj, ∃ B, ∀ cs t f, Obj.cells cs t f ∈ l → ∀ x ∈ cs.toList, bndV x ≤ B
  | [] => ⟨0, fun cs t f h => by cases h⟩
  | o :: l => by
    obtain ⟨B, hB⟩ := bnd_objs l
    obtain ⟨B', hB'⟩ : ∃ B', ∀ cs t f, o = Obj.cells cs t f → ∀ x ∈ cs.toList, bndV x ≤ B' := by
      cases o with
      | cells cs t f =>
        obtain ⟨B', h⟩ := bnd_vals cs.toList
        exact ⟨B', fun cs' t' f' e => by injection e with e1 e2 e3; subst e1; exact h⟩
      | _ => exact ⟨0, fun cs t f e => by cases e⟩
    refine ⟨max B B', fun cs t f h x hx => ?_⟩
    rcases List.mem_cons.1 h with h | h
    · exact Nat.le_trans (hB' cs t f h.symm x hx) (Nat.le_max_right _ _)
    · exact Nat.le_trans (hB cs t f h x hx) (Nat.le_max_left _ _)
theorem deep_C (W : World) : ∃ C, 1000 ≤ C ∧ W.heap.size ≤ C ∧ ∀ a x, W.cell? a = some x → okV C x := by
  obtain ⟨B, hB⟩ := bnd_objs W.heap.toList
  refine ⟨max 1000 (max W.heap.size B), Nat.le_max_left _ _, Nat.le_trans (Nat.le_max_left _ _) (Nat.le_max_right _ _), fun a x hx => ?_⟩
  unfold World.cell? at hx
  split at hx
  · rename_i cs t f hh
    split at hx
    · cases hx
    · have hm : Obj.cells cs t f ∈ W.heap.toList := by
        obtain ⟨h1, h2⟩ := Array.getElem?_eq_some_iff.1 hh
        rw [← h2]; exact Array.getElem_mem_toList h1
      have hxm : x ∈ cs.toList := by
        obtain ⟨h1, h2⟩ := Array.getElem?_eq_some_iff.1 hx
        rw [← h2]; exact Array.getElem_mem_toList h1
      have hb := hB cs t f hm x hxm
      unfold okV
      split
      · rename_i a'
        have hb' : adE a' + 1 ≤ B := hb
        right
        have := Nat.le_max_right 1000 (max W.heap.size B)
        have := Nat.le_max_right W.heap.size B
        omega
      · trivial
  · cases hx
theorem bytes_of {F : RO} {M : Mem} {c : Nat} {vs : List V} {x : (Ty.sl (.int .u8)).D} (h : Rp F M c (.sl (.int .u8)) vs x) : ∃ v, ∃ l : List UInt8, vs = [v] ∧ SlB F M c v l ∧ l.length ≤ 9223372036854775807 := by
  obtain ⟨v, es, rfl, hs, hl, he, hr⟩ := h
  have key : ∀ (es : List (List V)) (xs : List Int), es.length = xs.length → (∀ i (h : i < es.length) (h' : i < xs.length), es[i] = [V.i .u8 xs[i]] ∧ IntKind.u8.min ≤ xs[i] ∧ xs[i] ≤ IntKind.u8.max) → ∃ l : List UInt8, es = l.map fun x => [bV x] := by
    intro es
    induction es with
    | nil => intro xs _ _; exact ⟨[], rfl⟩
    | cons e es ih =>
      intro xs hl h
      cases xs with
      | nil => cases hl
      | cons z xs =>
        obtain ⟨l, rfl⟩ := ih xs (by simpa using hl) (fun i hi hi' => h (i + 1) (by simpa using hi) (by simpa using hi'))
        obtain ⟨h1, h2, h3⟩ := h 0 (by simp) (by simp)
        simp only [List.getElem_cons_zero] at h1 h2 h3
        have h2' : 0 ≤ z := h2
        have h3' : z ≤ 255 := h3
        refine ⟨UInt8.ofNat z.toNat :: l, ?_⟩
        rw [List.map_cons, h1]
        congr 1
        unfold bV
        rw [UInt8.toNat_ofNat', Nat.mod_eq_of_lt (by omega)]
        congr 2
        omega
  obtain ⟨l, rfl⟩ := key es x he hr
  refine ⟨v, l, rfl, hs, ?_⟩
  rw [List.length_map] at he
  have hl' : List.length x ≤ 2 ^ 63 - 1 := hl
  have : List.length x = l.length := he.symm
  omega
end
end Go.Proofs.YtaogopbhjinmoaaGreatDoor.Ev
set_option maxRecDepth 100000
namespace Go.Proofs.YtaogopbhjinmoaaGreatDoor.Ev
open Go
theorem ai {a b : Prop} (x : a) (y : b) : a ∧ b := ⟨x, y⟩
def WL := ai @wp_dreg (ai @befB_nil (ai @befB_cons (ai @putDE (ai @roFree_nil (ai @roFree_cons (ai @get_ne (ai @Tr.get_e (ai @isNone_none' (ai @dregQ_eq (ai @mergeAll_nil (ai @wd_nil (ai @wd_q (ai @putD_v (ai @putD_r (ai @oV_some (ai @dq_mv (ai @dq_ci (ai @dq_bi0 (ai @biQ_i (ai @dq_ex (ai @dq_ld0 (ai @ldQ_p (ai @ldR_some (ai @dq_iaS (ai @v_iaS (ai @lnSl (ai @lnL_l (ai @lnL_u (ai @lnL_l0 (ai @lnL_ue (ai @wp_seq (ai @seqQ_nrm (ai @seqQ_ret (ai @seqQ_ext (ai @wp_reg (ai @wp_ret (ai @wp_skip (ai @wp_exit (ai @wp_block (ai @blockQ_nrm (ai @blockQ_ret (ai @blockQ_ext (ai @loopQ_nrm (ai @loopQ_ret (ai @loopQ_ext (ai @wo_nil (ai @xo_q (ai @xo_a (ai @xo_e (ai @xo_e0 (ai @wo_gT (ai @wo_gF (ai @wo_gU (ai @wp_condT (ai @wp_condF (ai @putO (ai @putA (ai @putE (ai @putE0 (ai @setT_some (ai @setT_none (ai @v_mv (ai @v_pk (ai @pkV_T (ai @pkV_F (ai @v_bi (ai @bi_sub (ai @bi_lss (ai @bi_gtr (ai @bi_leq (ai @bi_geq (ai @bi_eql (ai @bi_neq (ai @v_un (ai @un_not (ai @v_ln (ai @lnS (ai @v_ixS (ai @v_ld1 (ai @v_ldn (ai @ld1_p (ai @ldn_p (ai @load1_same (ai @v_fa (ai @e_st_eq (ai @er_some (ai @xo_call (ai @callC_orc (ai @ev_t (ai @ev_c (ai @evs_nil (ai @evs_cons (ai @Tr.setP_h (ai @Tr.setP_l (ai @Tr.setP_r (ai @getT_h (ai @getT_n (ai @getT_l (ai @getT_r (ai @endQ_nrm (ai @endQ_ret (ai @endO (ai @resV_nil' (ai @resV_t (ai @consO_some (ai @oneV_one (ai @oneV_two (ai @Bool.not_true (ai @Bool.not_false (ai @Bool.false_eq_true (ai @Bool.true_eq_false (ai @decide_true (ai @decide_false (ai @pureO_of (ai @ofO_some (ai @flatten_b (ai @flatten_i (ai @flatten_s (ai @flatten_p (ai @flatten_p0 (ai @flatten_l (ai @flatten_u (ai @flatten_l0 (ai @flatten_m (ai @flatten_m0 (ai @flatten_f (ai @flatten_f0 (ai @flatten_g (ai @allOne_nil (ai @allOne_cons (ai @isOne_b (ai @isOne_i (ai @isOne_s (ai @isOne_p (ai @isOne_p0 (ai @isOne_l (ai @isOne_u (ai @isOne_l0 (ai @isOne_m (ai @isOne_f (ai @isOne_f0 (ai @Bool.and_true (ai @Bool.true_and (ai @evP_nil (ai @evP_cons (ai @fillV_nil (ai @fillV_cons (ai @over_nil (ai @over_cons (ai @Nat.zero_add (ai @and_self (ai @and_true (ai @true_and (ai @v_bld (ai @replL_over (ai @v_fl1 (ai @v_fln (ai @v_ex (ai @v_ci (ai @andO_some (ai @eqAt_some (ai @eqAll_nil (ai @eqAll_cons (ai @negO_F (ai @negO_T (ai @v_eq (ai @eqV_agg (ai @eqV_int (ai @eq1_int (ai @eq1_bool (ai @xo_cv (ai @callV_f (ai @v_mkf (ai @resV_cn (ai @resV_c1 (ai @load1_ne (ai @loadN_ne (ai @loadN_same (ai @storeN_same (ai @storeN_ne' (ai @mapS_some (ai @a_al_eq (ai @a_bx_eq (ai @v_ixA1 (ai @ixA1_g (ai @ne_add0 (ai @ne_add1 (ai @ne_add (ai @Nat.add_assoc (ai @x_app_eq (ai @v_slL (ai @v_bs (ai @a_bsl_w (ai @evPs_nil (ai @evPs_cons (ai @partsR_nil (ai @partsR_cons (ai @bslO_some (ai @v_slS (ai @lnSs (ai @bi_seq (ai @bi_sne (ai @eq1_str (ai @eqV_str (ai @wd_gT (ai @wd_gF (ai @wd_gU (ai @dq_ldn0 (ai @ldnQ_p (ai @ldnR_some (ai @dq_pk (ai @dq_lnL (ai @dq_lnS (ai @dq_ixS (ai @dq_un (ai @dq_eq (ai @shOk_agg (ai @shOks_nil (ai @shOks_cons (ai @shOk1_int (ai @shOk1_bool (ai @shOk1_str (ai @eqV_bool (ai @shOk_int (ai @shOk_bool (ai @shOk_str (ai @dq_fa (ai @putDP (ai @a_mks_w (ai @wp_condTc (ai @wp_condFc (ai @roundQ_nrm (ai @roundQ_ret (ai @roundQ_ext (ai @decide_eq_true_eq (ai @or_self (ai @or_true (ai @or_false (ai @true_or (ai @false_or (ai @and_false (@false_and))))))))))))))))))))))))))))))))))))))))))))))))))))))))))))))))))))))))))))))))))))))))))))))))))))))))))))))))))))))))))))))))))))))))))))))))))))))))))))))))))))))))))))))))))))))))))))))))))))))))))))))))))))))))))))))))))))))))))))))))))
def WM := ai @cond_true.{1} (ai @cond_false.{1} (ai @List.getElem?_cons_zero.{0} (ai @List.getElem?_cons_succ.{0} (ai @Option.getD_some.{0} (ai @if_true.{1} (ai @if_false.{1} (ai @ite_true.{1} (ai @ite_false.{1} (ai @List.set_cons_zero.{0} (ai @List.set_cons_succ.{0} (ai @List.length_cons.{0} (ai @List.length_nil.{0} (ai @List.nil_append.{0} (ai @List.append_nil.{0} (ai @List.cons_append.{0} (ai @List.drop_zero.{0} (ai @List.take_succ_cons.{0} (ai @List.take_zero.{0} (ai @List.take_nil.{0} (ai @List.drop_succ_cons.{0} (ai @Option.map_some.{0,0} (ai @Option.isSome_some.{0} (@Option.map_none.{0,0})))))))))))))))))))))))
def WX := ai @WL @WM
end Go.Proofs.YtaogopbhjinmoaaGreatDoor.Ev
