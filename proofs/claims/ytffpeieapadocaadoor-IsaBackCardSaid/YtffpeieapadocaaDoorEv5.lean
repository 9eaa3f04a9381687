/- What is proved here: pieces of the evaluator's soundness: if the evaluator comes to a value, the model's run comes to it, for every world and tape; no conditions beyond the hypotheses of each theorem. -/
import Derived.Test.YtffpeieapadocaaDoorEv4
import Derived.Stop.LaidErr
import Derived.KernelRfl
set_option linter.unusedSimpArgs false
set_option linter.unusedVariables false
set_option linter.defProp false
set_option maxRecDepth 10000
set_option maxHeartbeats 16000000
namespace Go.Proofs.YtffpeieapadocaaDoor.Ev
open Go Go.RowKit Go.ChangeShapes
noncomputable section
section
variable {Φ : Nat → Option CF} {rd : Option Nat} {fn : Nat} {F : RO}
def nckV : V → Option V
 | .p b o => some (.p b o)
 | .f g h c => some (.f g h c)
 | .y l => some (.y l)
 | .a t v => some (.a t v)
 | _ => none
theorem v_nck (x : X) (M : Mem) (t : T) : (qop (.nck x) F M t).val = nckV (x.ev t) := by
 show (q_nck x F M t).val = _
 unfold q_nck
 cases x.ev t <;> rfl
theorem nckV_p (b o : Nat) : nckV (.p b o) = some (.p b o) := Eq.trans rfl (Eq.refl _)
theorem dq_nck (x : X) (M : Mem) (t : T) : dqR (.nck x) F M t = oV (nckV (x.ev t)) := by
 refine (dq_of ?_).trans (congrArg oV (v_nck (F := F) x M t))
 intro F' M'
 refine qv_oV ?_
 show (q_nck x F' M' t = .f ∨ ∃ y, q_nck x F' M' t = .v y)
 unfold q_nck
 cases x.ev t <;> first | exact .inl rfl | exact .inr ⟨_, rfl⟩
def cpV : V → Option V
 | .l0 => some (.i .i64 0)
 | .l _ _ _ c => some (.i .i64 (c : Int))
 | _ => none
theorem v_cp (x : X) (M : Mem) (t : T) : (qop (.cp x) F M t).val = cpV (x.ev t) := by
 show (q_cp x F M t).val = _
 unfold q_cp
 cases x.ev t <;> rfl
theorem cpV_l0 : cpV .l0 = some (.i .i64 0) := Eq.trans rfl (Eq.refl _)
theorem dq_cp (x : X) (M : Mem) (t : T) : dqR (.cp x) F M t = oV (cpV (x.ev t)) := by
 refine (dq_of ?_).trans (congrArg oV (v_cp (F := F) x M t))
 intro F' M'
 refine qv_oV ?_
 show (q_cp x F' M' t = .f ∨ ∃ y, q_cp x F' M' t = .v y)
 unfold q_cp
 cases x.ev t <;> first | exact .inl rfl | exact .inr ⟨_, rfl⟩
def sdV : V → Option V
 | .l0 => some .p0
 | .l b o _ c => if c = 0 then none else some (.p b o)
 | .u b o _ el kn => if el < kn then some (.p b o) else none
 | _ => none
theorem q_sd_eq (x : X) (M : Mem) (t : T) : q_sd x F M t = oV (sdV (x.ev t)) := by
 unfold q_sd
 cases x.ev t with
 | l b o n c =>
   show (bif Nat.beq c 0 then QR.f else .v (.p b o)) = oV (if c = 0 then none else some (.p b o))
   rw [beqN]
   by_cases h : c = 0
   · rw [decide_eq_true h, if_pos h]; rfl
   · rw [decide_eq_false h, if_neg h]; rfl
 | u b o n el kn =>
   show (bif Nat.blt el kn then QR.v (.p b o) else .f) = oV (if el < kn then some (.p b o) else none)
   rw [bltN]
   by_cases h : el < kn
   · rw [decide_eq_true h, if_pos h]; rfl
   · rw [decide_eq_false h, if_neg h]; rfl
 | _ => rfl
theorem oV_val (o : Option V) : (oV o).val = o := by cases o <;> rfl
theorem v_sd (x : X) (M : Mem) (t : T) : (qop (.sd x) F M t).val = sdV (x.ev t) := by
 show (q_sd x F M t).val = _
 rw [q_sd_eq, oV_val]
theorem dq_sd (x : X) (M : Mem) (t : T) : dqR (.sd x) F M t = oV (sdV (x.ev t)) := by
 refine (dq_of ?_).trans (congrArg oV (v_sd (F := F) x M t))
 intro F' M'
 show q_sd x F' M' t = oV (q_sd x [] .e t).val
 rw [q_sd_eq, q_sd_eq, oV_val]
theorem sdV_l0 : sdV .l0 = some .p0 := Eq.trans rfl (Eq.refl _)
theorem sdV_u {b o n el kn : Nat} (h : el < kn) : sdV (.u b o n el kn) = some (.p b o) := if_pos h
def upV (F : RO) (M : Mem) (x : V) : Option V := (qop (.up (.c x)) F M .e).val
theorem v_up (x : X) (M : Mem) (t : T) : (qop (.up x) F M t).val = upV F M (x.ev t) := Eq.trans rfl (Eq.refl _)
theorem upV_row {M : Mem} {b o ty n : Nat} {ex str : Bool} {fz : Nat} {d : List V} {t : T} (h : M.get b = some (.cells ty n ex fz str d t)) (ho : o < n) : upV F M (.p b o) = some (.p b o) := by
 show (asCells (look F M b) QR.f fun n _ _ => bif Nat.blt o n then QR.r (.p b o) b else .f).val = _
 rw [look_some_M h]
 show (bif Nat.blt o n then QR.r (.p b o) b else .f).val = _
 rw [bltN, decide_eq_true ho]; rfl
def dnV (ty sz : Nat) (F : RO) (M : Mem) (x : V) : Option V := (qop (.dn ty sz (.c x)) F M .e).val
theorem v_dn (ty sz : Nat) (x : X) (M : Mem) (t : T) : (qop (.dn ty sz x) F M t).val = dnV ty sz F M (x.ev t) := Eq.trans rfl (Eq.refl _)
theorem dnV_row {M : Mem} {b ty n : Nat} {str : Bool} {fz : Nat} {d : List V} {t : T} (h : M.get b = some (.cells ty n true fz str d t)) : dnV ty n F M (.p b 0) = some (.p b 0) := by
 show (dnIn ty n b (look F M b)).val = _
 rw [look_some_M h]
 show (bif Nat.beq ty ty && Nat.beq n n then QR.r (.p b 0) b else .f).val = _
 rw [Nat.beq_refl, Nat.beq_refl]; rfl
def QV (r : QR) : Prop := r = .f ∨ ∃ y, r = .v y
theorem qv_bif {r : QR} (b : Bool) (h : QV r) : QV (bif b then r else .f) := by
 cases b with
 | false => exact .inl rfl
 | true => exact h
theorem qv_bif2 {r s : QR} (b : Bool) (h : QV r) (h' : QV s) : QV (bif b then r else s) := by
 cases b with
 | false => exact h'
 | true => exact h
theorem qv_mkL (b o n c : Nat) : QV (mkL b o n c) := .inr ⟨_, mkL_eq b o n c⟩
theorem qv_mkU (b o n e k : Nat) : QV (mkU b o n e k) := .inr ⟨_, mkU_eq b o n e k⟩
theorem slcV_qv (sz : Nat) (v : V) (a b d : Option Nat) : QV (slcV sz v a b d) := by
 unfold slcV
 refine qv_bif _ ?_
 cases v with
 | l b0 o len cap => exact qv_bif _ (qv_mkL _ _ _ _)
 | l0 => exact qv_bif _ (.inr ⟨_, rfl⟩)
 | u b0 o len el kn =>
   cases d with
   | none => exact qv_bif _ (qv_bif2 _ (qv_mkU _ _ _ _ _) (qv_bif2 _ (qv_mkU _ _ _ _ _) (.inr ⟨_, by rw [fN_eq]⟩)))
   | some m => exact qv_bif _ (qv_mkL _ _ _ _)
 | ue b0 o0 o => exact qv_bif _ (.inr ⟨_, rfl⟩)
 | _ => exact .inl rfl
theorem dq_slL (sz : Nat) (x : X) (lo hi mx : Option X) (M : Mem) (t : T) : dqR (.slL sz x lo hi mx) F M t = oV (slLV sz (x.ev t) (lo.map fun x => x.ev t) (hi.map fun x => x.ev t) (mx.map fun x => x.ev t)) := by
 refine (dq_of ?_).trans (congrArg oV (v_slL (F := F) sz x lo hi mx M t))
 intro F' M'
 refine qv_oV ?_
 show QV (q_slL1 sz (x.ev t) (optNN t lo) (optNN t hi) (optNN t mx))
 cases optNN t lo with
 | none => exact .inl rfl
 | some a =>
   cases optNN t hi with
   | none => exact .inl rfl
   | some b =>
     cases optNN t mx with
     | none => exact .inl rfl
     | some d => exact slcV_qv _ _ _ _ _
def PutDA (o : Option (V × Blk)) (base i : Nat) (p : Pos) (r : List (Nat × Nat × CO)) (k : Kn) (t : T) (M : Mem) (c : Nat) (pend : List (Nat × Nat × Blk)) (reads : List (Nat × Nat)) (R : DS → Prop) : Prop := match o with
 | some x => WpD base r k (.mk (t.setP p x.1) M c ((i, base + i, x.2) :: pend) reads) R
 | none => False
theorem putDA (v : V) (b : Blk) (base i : Nat) (p : Pos) (r : List (Nat × Nat × CO)) (k : Kn) (t : T) (M : Mem) (c : Nat) (pend : List (Nat × Nat × Blk)) (reads : List (Nat × Nat)) (R : DS → Prop) :
  PutDA (some (v, b)) base i p r k t M c pend reads R = WpD base r k (.mk (t.setP p v) M c ((i, base + i, b) :: pend) reads) R := Eq.trans rfl (Eq.refl _)
theorem wd_a (base i mask : Nat) (p : Pos) (o : AO) (r : List (Nat × Nat × CO)) (t : T) (M : Mem) (c : Nat) (pend : List (Nat × Nat × Blk)) (reads : List (Nat × Nat)) (R : DS → Prop) (hl : (look F M (base + i)).isNone = true) (hr : readFree (base + i) reads = true) :
  WpD base ((i, mask, .mk (some p) (.a o) none) :: r) (K Φ rd fn F) (.mk t M c pend reads) R = PutDA (aop o (base + i) t) base i p r (K Φ rd fn F) t M c pend reads R := by
 have he : dOp (K Φ rd fn F) base (i, mask, .mk (some p) (.a o) none) (.mk t M c pend reads) = d_a1 i (base + i) (some p) t M c pend reads (aop o (base + i) t) := by
  show (fN (Nat.add base i) fun b => bif (look F M b).isNone && readFree b reads then d_a1 i b (some p) t M c pend reads (aop o b t) else none) = _
  rw [fN_eq]
  show (bif (look F M (base + i)).isNone && readFree (base + i) reads then d_a1 i (base + i) (some p) t M c pend reads (aop o (base + i) t) else none) = _
  rw [hl, hr]; rfl
 apply propext
 rw [wd_cons, he]
 cases aop o (base + i) t with
 | none => exact ⟨fun ⟨s', h, _⟩ => (by cases h), False.elim⟩
 | some x =>
   have h2 : d_a1 i (base + i) (some p) t M c pend reads (some x) = some (.mk (t.setP p x.1) M c ((i, base + i, x.2) :: pend) reads) := by
    show ((setT t (some p) x.1).force fun t => some (DS.mk t M c ((i, base + i, x.2) :: pend) reads)) = _
    rw [Tr.force_eq]; rfl
   rw [h2]
   constructor
   · rintro ⟨s', h, q⟩; obtain rfl := Option.some.inj h; exact q
   · exact fun q => ⟨_, rfl, q⟩
theorem mergeAll_cons (i b : Nat) (x : Blk) (r : List (Nat × Nat × Blk)) (M : Mem) : mergeAll ((i, b, x) :: r) M = mergeAll r (M.set b x) := by
 show (M.set b x).force (fun M => mergeAll r M) = _
 rw [Tr.force_eq]
theorem readFree_nil (b : Nat) : readFree b [] = true := Eq.trans rfl (Eq.refl _)
theorem readFree_cons (b i b' : Nat) (r : List (Nat × Nat)) (h : b' ≠ b) : readFree b ((i, b') :: r) = readFree b r := by
 show (bif Nat.beq b' b then false else readFree b r) = _
 rw [beqN, decide_eq_false h]; rfl
def rowP (ty n : Nat) (row : List V) : Blk := .cells ty n false 0 false [] (rowT row)
def nzA (ty : Nat) (l : V) (b : Nat) : Option (V × Blk) := aop (.nz ty (.c l)) b .e
theorem a_nz_w (ty : Nat) (l : X) (b : Nat) (t : T) : aop (.nz ty l) b t = nzA ty (l.ev t) b := Eq.trans rfl (Eq.refl _)
theorem nzA_i (ty n b : Nat) (h : n ≤ 1099511627776) : nzA ty (.i .i64 (n : Int)) b = some (.u b 0 n 0 n, rowP ty n []) := by
 show (match asI64 (.i .i64 (n : Int)) with | some n => bif Nat.ble n 1099511627776 then some (V.u b 0 n 0 n, Blk.cells ty n false 0 false [] .e) else none | none => none) = _
 show (bif Nat.ble n 1099511627776 then some (V.u b 0 n 0 n, Blk.cells ty n false 0 false [] .e) else none) = _
 rw [bleN, decide_eq_true h]; rfl
theorem rowP_cell {n : Nat} {row : List V} (h : row.length ≤ n) (i : Nat) (hi : i < row.length) : cell n [] (rowT row) i = row[i]? := by
 rw [cell_eq, if_pos (by omega)]
 unfold rowT
 rw [listTr_get, if_pos (by omega)]
 simp only [Nat.sub_zero]
 rw [List.getElem?_eq_getElem hi]
theorem rowP_cells {M : Mem} {b ty n : Nat} {row : List V} (h : M.get b = some (rowP ty n row)) (hn : row.length ≤ n) : CellsAt F M b 0 row := fun k hk => by
 rw [Nat.zero_add]
 unfold Ev.load1
 rw [look_some_M h]
 exact rowP_cell hn k hk
theorem rowP_store {M : Mem} {b ty n : Nat} {row vs : List V} (h : M.get b = some (rowP ty n row)) (hn : row.length + vs.length ≤ n) (h1 : allOne vs = true) : storeN M b row.length vs = some (M.set b (rowP ty n (row ++ vs))) := by
 rw [storeN_of h hn (Nat.zero_le _) h1]
 unfold rowP rowT
 have := listTr_snoc row vs 0 .e
 rw [Nat.zero_add] at this
 rw [this]
def BufAt (M : Mem) (c0 c b : Nat) (v : V) (l : List UInt8) : Prop :=
 (l = [] ∧ v = .l0) ∨ (c0 ≤ b ∧ b < c ∧ ∃ n, (l.length ≤ n ∧ 0 < n) ∧ v = .u b 0 l.length 0 n ∧ M.get b = some (rowP 5 n (l.map bV)))
theorem BufAt.up {M M' : Mem} {c0 c c' b : Nat} {v : V} {l : List UInt8} (h : BufAt M c0 c b v l) (hc : c ≤ c') (hb : b < c → M'.get b = M.get b) : BufAt M' c0 c' b v l := by
 rcases h with h | ⟨h1, h2, n, h3, h4, h5⟩
 · exact .inl h
 · exact .inr ⟨h1, by omega, n, h3, h4, by rw [hb h2]; exact h5⟩
theorem buf_to {M0 M : Mem} {c0 c b : Nat} {v : V} {l s : List UInt8} (h : BufAt M c0 c b v l) (hg : Gr c0 M0 c M) (hr : room (l.length + s.length) 1 = true) :
  RTo (appV F M c 5 1 1 v (sV s)) fun v' M' c' => ∃ b', BufAt M' c0 c' b' v' (l ++ s) ∧ Gr c0 M0 c' M' ∧ c ≤ c' ∧ (∀ x, x < c → x ≠ b → M'.get x = M.get x) ∧ (b' = b ∨ c ≤ b') := by
 unfold appV
 rw [split_s]
 have e1 : e_app1 F M c 5 1 1 v (some (s.length, s.map bV)) = app F M c 5 1 1 v s.length (s.map bV) := by
  show (bif allOne (s.map bV) && Nat.beq (s.map bV).length (Nat.mul s.length 1) then _ else _) = _
  rw [allOne_bytes, beqN, decide_eq_true (show (s.map bV).length = Nat.mul s.length 1 by rw [List.length_map]; exact (Nat.mul_one _).symm)]; rfl
 rw [e1]
 have hmap : (l ++ s).map bV = l.map bV ++ s.map bV := List.map_append
 by_cases hz : s = []
 · subst hz
   have e2 : app F M c 5 1 1 v 0 [] = .k v M c := by
    show (bif Nat.beq 0 0 then (bif lenOk v then RC.k v M c else .f) else _) = _
    have : lenOk v = true := by
     rcases h with ⟨_, rfl⟩ | ⟨_, _, n, ⟨hn, _⟩, rfl, _⟩
     · rfl
     · show Nat.ble l.length (Nat.sub n 0) = true
       rw [bleN]; exact decide_eq_true hn
    rw [this]; rfl
   exact ⟨v, M, c, e2, b, by rw [List.append_nil]; exact h, hg, Nat.le_refl _, fun _ _ _ => rfl, .inl rfl⟩
 · have hn0 : s.length ≠ 0 := fun e => hz (List.length_eq_zero_iff.1 e)
   have grownEq : ∀ (N : Mem) (vs : List V) (k : Nat), room k 1 = true → vs.length = k → grown N c 5 1 k 0 false vs = .k (.u c 0 k 0 k) (N.set c (rowP 5 k vs)) (c + 1) := by
    intro N vs k hk hv
    rw [grown_eq N c 5 1 k vs hk]
    unfold rowU rowP
    rw [hv]
   rcases h with ⟨rfl, rfl⟩ | ⟨ha, hb, n, ⟨hn, hn1⟩, rfl, hM⟩
   · rw [List.length_nil, Nat.zero_add] at hr
     refine ⟨_, _, _, (app_nil hn0).trans (grownEq M (s.map bV) s.length hr (List.length_map ..)), c, .inr ⟨hg.le, by omega, s.length, ⟨Nat.le_refl _, by omega⟩, rfl, ?_⟩, hg.set c _ hg.le (by omega) (by omega), by omega, fun x hx _ => get_ne _ _ (by omega), .inr (Nat.le_refl _)⟩
     rw [Tr.get_set, if_pos rfl]; rfl
   · by_cases hfit : l.length + s.length ≤ n
     · have hst := rowP_store hM (vs := s.map bV) (by rw [List.length_map, List.length_map]; exact hfit) (allOne_bytes s)
       rw [List.length_map] at hst
       have e3 : app_u F M c 5 1 1 b 0 l.length 0 n s.length (s.map bV) = .k (.u b 0 (l.length + s.length) 0 n) (M.set b (rowP 5 n (l.map bV ++ s.map bV))) c := by
        unfold app_u
        rw [bleN, decide_eq_true (show Nat.add (Nat.add 0 l.length) s.length ≤ n by show 0 + l.length + s.length ≤ n; omega), cond_true]
        unfold appIn
        rw [show Nat.add 0 (Nat.mul l.length 1) = l.length by show 0 + l.length * 1 = l.length; omega, hst]
        show fN (l.length + s.length) (fun len => RC.k (.u b 0 len 0 n) _ c) = _
        rw [fN_eq]
       refine ⟨_, _, _, (app_un hn0).trans e3, b, .inr ⟨ha, hb, n, ⟨by rw [List.length_append]; exact hfit, hn1⟩, by rw [List.length_append], ?_⟩, hg.set b _ ha hb (Nat.le_refl _), Nat.le_refl _, fun x _ hxb => get_ne _ _ hxb, .inl rfl⟩
       rw [Tr.get_set, if_pos rfl, hmap]
     · have hcl := (rowP_cells (F := F) hM (by rw [List.length_map]; exact hn))
       have hcl2 : CellsAt F M b 0 (l.map fun x => [bV x]).flatten := by rw [flat_bytes]; exact hcl
       obtain ⟨r, hrd⟩ := readB_of Nat.one_pos (es := l.map fun x => [bV x]) (fun e he => by obtain ⟨x, _, rfl⟩ := List.mem_map.1 he; rfl) hcl2
       rw [List.length_map, flat_bytes] at hrd
       have hmw : mayWrite M b 5 (Nat.add 0 (Nat.mul l.length 1)) (Nat.add 0 (Nat.mul (Nat.sub n 0) 1)) = some (0, false) := by
        unfold mayWrite
        rw [hM]
        show (bif Nat.beq 5 5 && Nat.beq n (0 + (n - 0) * 1) && Nat.ble 0 (0 + l.length * 1) && Nat.ble (0 + l.length * 1) (0 + (n - 0) * 1) then some (0, false) else none) = _
        rw [beqN, beqN, bleN, bleN, decide_eq_true (show 5 = 5 from rfl), decide_eq_true (show n = 0 + (n - 0) * 1 by omega), decide_eq_true (Nat.zero_le _), decide_eq_true (show 0 + l.length * 1 ≤ 0 + (n - 0) * 1 by omega)]; rfl
       have e3 : app_u F M c 5 1 1 b 0 l.length 0 n s.length (s.map bV) = grown (M.del b) c 5 1 (l.length + s.length) 0 false (l.map bV ++ s.map bV) := by
        unfold app_u
        rw [bleN, decide_eq_false (show ¬ Nat.add (Nat.add 0 l.length) s.length ≤ n by show ¬ 0 + l.length + s.length ≤ n; omega), cond_false, hmw]
        show grownL (M.del b) c 5 1 (l.length + s.length) 0 false (s.map bV) (readB F M 1 l.length b 0) = _
        rw [hrd]; rfl
       refine ⟨_, _, _, ((app_un hn0).trans e3).trans (grownEq _ _ _ hr (by rw [List.length_append, List.length_map, List.length_map])), c, .inr ⟨by omega, by omega, l.length + s.length, ⟨by rw [List.length_append]; exact Nat.le_refl _, by omega⟩, by rw [List.length_append], ?_⟩, (hg.del b ha).set c _ (by omega) (by omega) (by omega), by omega, fun x hx hxb => ?_, .inr (Nat.le_refl _)⟩
       · rw [Tr.get_set, if_pos rfl, hmap]
       · rw [get_ne _ _ (by omega), Tr.get_del, if_neg hxb]
def cpyE (F : RO) (M : Mem) (c sz : Nat) (x y : V) : RC := e_cpy sz (.c x) (.c y) F M c .e
theorem x_cpy_eq (sz : Nat) (x y : X) (M : Mem) (c : Nat) (t : T) : doE (.cpy sz x y) (K Φ rd fn F) M c t = cpyE F M c sz (x.ev t) (y.ev t) := Eq.trans rfl (Eq.refl _)
theorem cpyE_0 (M : Mem) (c sz b o e k : Nat) : cpyE F M c sz (.u b o 0 e k) .l0 = .k (.i .i64 0) M c := by
 show fN (bif Nat.ble 0 0 then 0 else 0) (fun n => bif Nat.beq n 0 then RC.k (.i .i64 0) M c else cpyW M c n (.u b o 0 e k) (cpySrc F M sz n .l0)) = _
 rw [fN_eq]; rfl
end
section
variable {Φ : Nat → Option CF} {rd : Option Nat} {fn : Nat} {F : RO}
end
def ErrVar (F : RO) (g : Nat) : Prop := ∃ t b o, ∀ M : Mem, M.get g = none → load1 F M g 0 = some (.a t (.p b o))
theorem cell_plain {W : World} {a : Addr} {v : Value} (h : W.cell? a = some v) : ∃ r o, a = ⟨r, o, none⟩ ∧ r < W.heap.size := by
 obtain ⟨r, o, sp⟩ := a
 unfold World.cell? at h
 split at h
 · rename_i cs ty fr hh
   have hlt : r < W.heap.size := (Array.getElem?_eq_some_iff.1 hh).1
   cases sp with
   | none => exact ⟨r, o, rfl, hlt⟩
   | some k => simp at h
 · cases h
theorem errVar_of {P : Program} {n nm : String} {text : List UInt8} {r : List (String × DataW Unit)} {W : World} {C g : Nat} {ti tp te ts : TypeId} {ms : Array (String × TypeId)} {f : Field}
  (hC : W.heap.size ≤ C) (h : laidMet P ((n, .iface nm (.ptr (.agg [.lit (.string text)]))) :: r) W)
  (hg : P.globalNamed n = some g) (ht : (P.globals[g]?).map (·.type) = some ti) (hi : P.underlying ti = some (.interface ms)) (hrow : ∀ u, P.typeName? 3 u = some nm → u = tp)
  (hp : P.underlying tp = some (.pointer te)) (he : P.underlying te = some (.struct #[f])) (hft : f.type = ts) (hfo : f.offset = 0) (hs : P.underlying ts = some .string) (hc : P.cellsOf te = 1) (hcs : P.cellsOf ts = 1) :
  ErrVar (heapF W C) g := by
 obtain ⟨a, s, hv, hca, _, _⟩ := laid_sentinel h hg ht hi hrow hp he hft hfo hs hc hcs
 obtain ⟨rb, o, rfl, hlt⟩ := cell_plain hca
 have hcell := World.var?_cell hg hv 0
 refine ⟨tp, rb, o, fun M hM => ?_⟩
 have hv2 : vOf C (.iface tp (.pointer (some ⟨rb, o, none⟩))) = some (.a tp (.p rb o)) := if_pos (Nat.lt_of_lt_of_le hlt hC)
 have := heap_load (C := C) (W := W) (r := g) (o := 0) (x := .iface tp (.pointer (some ⟨rb, o, none⟩))) (by simpa using hcell) hv2
 unfold Ev.load1 at this ⊢
 rw [look_none_M hM]
 rw [look_none_M (show (Tr.e : Mem).get g = none from rfl)] at this
 exact this
def b18_1 : CC := (.reg [(aa a2 (.al 54 [(.b false), (.b false), (.b false), (.b false)]))])
def b18_2 : CC := (.reg [(qq a5 (.bi .eql z3 (x6 1))), (qq a4 (.mv z5))])
def b18_3 : CC := (.reg [(qq a6 (.bld [(.b false), (.b false), (.b false), (.b false)] [(3, 1, xT)])), (ez (.st 4 z2 z6))])
def b18_4 : CC := (.reg [(qq a8 (.bi .eql z3 (x6 2))), (qq a7 (.mv z8))])
def b18_5 : CC := (.reg [(qq a9 (.bld [(.b false), (.b false), (.b false), (.b false)] [(1, 1, xT)])), (ez (.st 4 z2 z9))])
def b18_6 : CC := (.reg [(qq a11 (.bi .eql z3 (x6 3))), (qq a10 (.mv z11))])
def b18_7 : CC := (.reg [(qq a12 (.bld [(.b false), (.b false), (.b false), (.b false)] [(0, 1, xT), (3, 1, xT)])), (ez (.st 4 z2 z12))])
def b18_8 : CC := (.reg [(qq a14 (.bi .eql z3 (x6 4))), (qq a13 (.mv z14))])
def b18_9 : CC := (.reg [(qq a15 (.bld [(.b false), (.b false), (.b false), (.b false)] [(0, 1, xT), (1, 1, xT)])), (ez (.st 4 z2 z15))])
def b18_10 : CC := (.reg [(qq a17 (.bi .eql z3 (x6 5))), (qq a16 (.mv z17))])
def b18_11 : CC := (.reg [(qq a18 (.bld [(.b false), (.b false), (.b false), (.b false)] [(0, 1, xT), (1, 1, xT), (2, 1, xT)])), (ez (.st 4 z2 z18))])
def b18_12 : CC := (.reg [(qq a20 (.bi .eql z3 (x6 6))), (qq a19 (.mv z20))])
def b18_13 : CC := (.reg [(qq a21 (.bld [(.b false), (.b false), (.b false), (.b false)] [(0, 1, xT), (1, 1, xT), (3, 1, xT)])), (ez (.st 4 z2 z21))])
def b18_14 : CC := (.cond z19 (.seq b18_13 .ret) .skip)
def b18_15 : CC := (.cond z16 (.seq b18_11 .ret) (.seq b18_12 b18_14))
def b18_16 : CC := (.cond z13 (.seq b18_9 .ret) (.seq b18_10 b18_15))
def b18_17 : CC := (.cond z10 (.seq b18_7 .ret) (.seq b18_8 b18_16))
def b18_18 : CC := (.cond z7 (.seq b18_5 .ret) (.seq b18_6 b18_17))
def b18_19 : CC := (.cond z4 (.seq b18_3 .ret) (.seq b18_4 b18_18))
def b18_20 : CC := (.seq (.reg [(qq a3 (.mv z0))]) (.block 0 (.seq b18_2 b18_19)))
def b18_21 : CC := (.reg [(qq a22 (.bld [(.b false), (.b false), (.b false), (.b false)] [])), (ez (.st 4 z2 z22))])
def c18 : CF := .mk 5 [.cn a2 4] (.seq b18_1 (.seq b18_20 (.seq b18_21 .ret)))
theorem e18 (v0 : V) : argTr 5 [v0] = (.n sk4 (some v0) sk4) := rfl
def B18 := ai @e18 (ai (wu b18_1.eq_1) (ai (wu b18_2.eq_1) (ai (wu b18_3.eq_1) (ai (wu b18_4.eq_1) (ai (wu b18_5.eq_1) (ai (wu b18_6.eq_1) (ai (wu b18_7.eq_1) (ai (wu b18_8.eq_1) (ai (wu b18_9.eq_1) (ai (wu b18_10.eq_1) (ai (wu b18_11.eq_1) (ai (wu b18_12.eq_1) (ai (wu b18_13.eq_1) (ai (wu b18_14.eq_1) (ai (wu b18_15.eq_1) (ai (wu b18_16.eq_1) (ai (wu b18_17.eq_1) (ai (wu b18_18.eq_1) (ai (wu b18_19.eq_1) (ai (wu b18_20.eq_1) (wu b18_21.eq_1)))))))))))))))))))))
def b35_1 : CC := (.reg [(qq a3 (.mv z0)), (qq a4 (.bi .geq z3 (x6 0))), (qq a5 (.mv z4)), ⟨(some a6), .q (.mv z0), (some (a5, true))⟩, ⟨(some a7), .q (.bi .lss z6 (x6 16)), (some (a5, true))⟩, (qq a8 (.pk z5 z7 xF)), (qq a2 (.mv z8))])
def b35_2 : CC := (.seq (.reg [(qq a2 (.mv xF))]) (.seq b35_1 .ret))
def c35 : CF := .mk 4 [.t a2] b35_2
theorem e35 (v0 : V) : argTr 4 [v0] = (.n sk3 (some v0) sk3) := rfl
def B35 := ai @e35 (ai (wu b35_1.eq_1) (wu b35_2.eq_1))
def b20_1 : CC := (.reg [(qq a3 (.mv z0)), (qq a4 (.bi .eql z3 (x6 3))), (qq a5 (.mv z4)), ⟨(some a6), .q (.mv z0), (some (a5, false))⟩, ⟨(some a7), .q (.bi .eql z6 (x6 6)), (some (a5, false))⟩, (qq a8 (.pk z5 xT z7)), (qq a2 (.mv z8))])
def b20_2 : CC := (.seq (.reg [(qq a2 (.mv xF))]) (.seq b20_1 .ret))
def c20 : CF := .mk 4 [.t a2] b20_2
theorem e20 (v0 : V) : argTr 4 [v0] = (.n sk3 (some v0) sk3) := rfl
def B20 := ai @e20 (ai (wu b20_1.eq_1) (wu b20_2.eq_1))
def formI (op : Int) : Int := if op = 3 ∨ op = 23 then 1 else if op = 24 then 2 else if op = 5 ∨ op = 6 ∨ op = 25 then 3 else if op = 7 then 4 else if 8 ≤ op ∧ op ≤ 17 then 5 else if 18 ≤ op ∧ op ≤ 22 ∨ 26 ≤ op ∧ op ≤ 28 then 6 else 0
def dI (f : Int) : Bool := decide (f = 3 ∨ f = 4 ∨ f = 5 ∨ f = 6)
def aI (f : Int) : Bool := decide (f = 2 ∨ f = 4 ∨ f = 5 ∨ f = 6)
def bI (f : Int) : Bool := decide (f = 5)
def iI (f : Int) : Bool := decide (f = 1 ∨ f = 3 ∨ f = 6)
def regI (b : Bool) (n : Int) : Bool := decide (n = 0 ∨ b = true ∧ 0 < n ∧ n < 16)
theorem t18 (Φ : Nat → Option CF) (h : Φ 18 = some c18) (f : Int) (ct : Nat) : To Φ 18 [.i .i64 f] ct (.g [.b (dI f), .b (aI f), .b (bI f), .b (iI f)]) := by
 refine to_walk h ?_
 simp only [WX, B18]
 repeat' (refine wp_cond (by simp only [WX]; rfl) (fun h => ?_) (fun h => ?_) <;> simp only [WX, Nat.reduceAdd, Nat.reduceLeDiff, B18, h])
 all_goals simp only [decide_eq_true_eq, decide_eq_false_iff_not] at *
 all_goals first | (subst f; rfl) | (simp [dI, aI, bI, iI, *])
theorem t35 (Φ : Nat → Option CF) (h : Φ 35 = some c35) (n : Int) (ct : Nat) : To Φ 35 [.i .i64 n] ct (.b (decide (0 ≤ n ∧ n < 16))) := by
 refine to_walk h ?_
 simp only [WX, B35]
 repeat' (refine wo_g (by simp only [WX]; rfl) (fun h => ?_) (fun h => ?_) <;> simp only [WX, h])
 all_goals simp_all
 all_goals omega
theorem t20 (Φ : Nat → Option CF) (h : Φ 20 = some c20) (n : Int) (ct : Nat) : To Φ 20 [.i .i64 n] ct (.b (decide (n = 3 ∨ n = 6))) := by
 refine to_walk h ?_
 simp only [WX, B20]
 repeat' (refine wo_g (by simp only [WX]; rfl) (fun h => ?_) (fun h => ?_) <;> simp only [WX, h])
 all_goals simp_all
 all_goals omega
def b32_1 : CC := (.reg [(aa a0 (.al 80 [(.s 0 0), (.s 0 0), (.s 0 0), (.s 0 0), (.s 0 0), (.s 0 0), (.s 0 0), (.s 0 0), (.s 0 0), (.s 0 0), (.s 0 0), (.s 0 0), (.s 0 0), (.s 0 0), (.s 0 0), (.s 0 0), (.s 0 0), (.s 0 0), (.s 0 0), (.s 0 0), (.s 0 0), (.s 0 0), (.s 0 0), (.s 0 0), (.s 0 0), (.s 0 0), (.s 0 0), (.s 0 0), (.s 0 0)]))])
def b32_2 : CC := (.reg [(qq a1 (.bld [(.s 0 0), (.s 0 0), (.s 0 0), (.s 0 0), (.s 0 0), (.s 0 0), (.s 0 0), (.s 0 0), (.s 0 0), (.s 0 0), (.s 0 0), (.s 0 0), (.s 0 0), (.s 0 0), (.s 0 0), (.s 0 0), (.s 0 0), (.s 0 0), (.s 0 0), (.s 0 0), (.s 0 0), (.s 0 0), (.s 0 0), (.s 0 0), (.s 0 0), (.s 0 0), (.s 0 0), (.s 0 0), (.s 0 0)] [(0, 1, (.c (.s 0 0))), (1, 1, (.c (.s 3 7368558))), (2, 1, (.c (.s 4 1886352499))), (3, 1, (.c (.s 4 1819042147))), (4, 1, (.c (.s 4 1801675106))), (5, 1, (.c (.s 5 500152823651))), (6, 1, (.c (.s 4 1751607656))), (7, 1, (.c (.s 4 2037411683))), (8, 1, (.c (.s 3 6579297))), (9, 1, (.c (.s 3 6452595))), (10, 1, (.c (.s 3 7107949))), (11, 1, (.c (.s 3 7760228))), (12, 1, (.c (.s 3 6582125))), (13, 1, (.c (.s 3 6581857))), (14, 1, (.c (.s 2 29295))), (15, 1, (.c (.s 3 7499640))), (16, 1, (.c (.s 3 7104627))), (17, 1, (.c (.s 3 7497843))), (18, 1, (.c (.s 4 1768186977))), (19, 1, (.c (.s 4 1684107116))), (20, 1, (.c (.s 5 435711603827))), (21, 1, (.c (.s 5 422590902124))), (22, 1, (.c (.s 6 108187851125875))), (23, 1, (.c (.s 4 1886221674))), (24, 1, (.c (.s 5 491512493418))), (25, 1, (.c (.s 4 1802398060))), (26, 1, (.c (.s 3 7431522))), (27, 1, (.c (.s 3 6647394))), (28, 1, (.c (.s 3 7629922)))])), (ez (.st 29 z0 z1))])
def c32 : CF := .mk 2 [.cn a0 29] (.seq b32_1 (.seq b32_2 .ret))
theorem e32 : argTr 2 [] = sk2 := rfl
def B32 := ai @e32 (ai (wu b32_1.eq_1) (wu b32_2.eq_1))
def h19 : List V → Option V
 | [.i .i64 op] => some (.i .i64 (formI op))
 | _ => none
theorem h19_eq (op : Int) : h19 [.i .i64 op] = some (.i .i64 (formI op)) := rfl
def h18 : List V → Option V
 | [.i .i64 f] => some (.g [.b (dI f), .b (aI f), .b (bI f), .b (iI f)])
 | _ => none
theorem h18_eq (f : Int) : h18 [.i .i64 f] = some (.g [.b (dI f), .b (aI f), .b (bI f), .b (iI f)]) := rfl
def h35 : List V → Option V
 | [.i .i64 n] => some (.b (decide (0 ≤ n ∧ n < 16)))
 | _ => none
theorem h35_eq (n : Int) : h35 [.i .i64 n] = some (.b (decide (0 ≤ n ∧ n < 16))) := rfl
def h20 : List V → Option V
 | [.i .i64 n] => some (.b (decide (n = 3 ∨ n = 6)))
 | _ => none
theorem h20_eq (n : Int) : h20 [.i .i64 n] = some (.b (decide (n = 3 ∨ n = 6))) := rfl
def names53 : List V := [(.s 0 0), (.s 3 7368558), (.s 4 1886352499), (.s 4 1819042147), (.s 4 1801675106), (.s 5 500152823651), (.s 4 1751607656), (.s 4 2037411683), (.s 3 6579297), (.s 3 6452595), (.s 3 7107949), (.s 3 7760228), (.s 3 6582125), (.s 3 6581857), (.s 2 29295), (.s 3 7499640), (.s 3 7104627), (.s 3 7497843), (.s 4 1768186977), (.s 4 1684107116), (.s 5 435711603827), (.s 5 422590902124), (.s 6 108187851125875), (.s 4 1886221674), (.s 5 491512493418), (.s 4 1802398060), (.s 3 7431522), (.s 3 6647394), (.s 3 7629922)]
theorem t32 (Φ : Nat → Option CF) (h : Φ 32 = some c32) (ct : Nat) : To Φ 32 [] ct (.g names53) := by
 refine to_walk h ?_
 simp only [WX, Nat.reduceAdd, Nat.reduceLeDiff, B32]
 rfl
def b22_1 : CC := (.reg [(qq a3 (.mv z0)), (qq a4 (.bi .lss z3 (x6 1))), (qq a5 (.mv z4)), ⟨(some a6), .q (.mv z0), (some (a5, false))⟩, ⟨(some a7), .q (.bi .gtr z6 (x6 28)), (some (a5, false))⟩, (qq a8 (.pk z5 xT z7))])
def b22_2 : CC := (.seq (.reg [(qq a2 (.mv (.c (.s 0 0))))]) .ret)
def b22_3 : CC := (.reg [(ee a9 (.call 32 [])), (qq a10 (.mv z0)), (qq a11 (.ixA1 29 1 z9 z10)), (qq a2 (.mv z11))])
def b22_4 : CC := (.seq (.seq b22_1 (.cond z8 b22_2 .skip)) (.seq b22_3 .ret))
def b22_5 : CC := (.seq (.reg [(qq a2 (.mv (.c (.s 0 0))))]) b22_4)
def c22 : CF := .mk 4 [.t a2] b22_5
theorem e22 (v0 : V) : argTr 4 [v0] = (.n sk3 (some v0) sk3) := rfl
def B22 := ai @e22 (ai (wu b22_1.eq_1) (ai (wu b22_2.eq_1) (ai (wu b22_3.eq_1) (ai (wu b22_4.eq_1) (wu b22_5.eq_1)))))
def h32 : List V → Option V
 | [] => some (.g names53)
 | _ => none
theorem h32_eq : h32 [] = some (.g names53) := rfl
def nameV (op : Int) : V := if 1 ≤ op ∧ op ≤ 28 then (names53[op.toNat]?).getD (.s 0 0) else .s 0 0
theorem t22 (Φ : Nat → Option CF) (h : Φ 22 = some c22) (h32 : Φ 32 = some (.orc (pureO h32))) (op : Int) (ct : Nat) : To Φ 22 [.i .i64 op] ct (nameV op) := by
 refine to_walk h ?_
 simp only [WX, B22]
 repeat' first | (refine wp_cond (by simp only [WX]; rfl) (fun h => ?_) (fun h => ?_) <;> simp only [WX, B22, h, h32, h32_eq]) | (refine wo_g (by simp only [WX]; rfl) (fun h => ?_) (fun h => ?_) <;> simp only [WX, B22, h])
 all_goals simp only [decide_eq_true_eq, decide_eq_false_iff_not, Bool.not_false] at *
 · unfold nameV; rw [if_neg (by omega)]
 · rw [if_pos (by omega), getD_some (d := .s 0 0) (show op.toNat < names53.length by show op.toNat < 29; omega)]
   simp only [WX]
   unfold nameV; rw [if_pos (by omega)]
 · unfold nameV; rw [if_neg (by omega)]
def mayI (op d a b i : Int) : Bool :=
 decide (1 ≤ op) && (decide (op ≤ 28) && (regI (dI (formI op)) d && (regI (aI (formI op)) a && (regI (bI (formI op)) b && (decide (i = 0) || (iI (formI op) && (decide (op = 3 ∨ op = 6) && (decide (0 ≤ i) && decide (i ≤ 65535)) || decide (op ≠ 3 ∧ op ≠ 6) && (decide (-32768 ≤ i) && decide (i ≤ 32767)))))))))
theorem formI_cases (op : Int) : formI op = 0 ∨ formI op = 1 ∨ formI op = 2 ∨ formI op = 3 ∨ formI op = 4 ∨ formI op = 5 ∨ formI op = 6 := by
 unfold formI; repeat' split
 all_goals simp
def h22 : List V → Option V
 | [.i .i64 op] => some (nameV op)
 | _ => none
theorem h22_eq (op : Int) : h22 [.i .i64 op] = some (nameV op) := rfl
def b21_1 : CC := (.reg [(aa a1 (.bx 24 5 z0)), (qq a2 (.mv xF))])
def b21_2 : CC := (.reg [(qq a8 (.fa 0 z1)), (qq a9 (.ld1 z8)), (ee a10 (.call 19 [z9])), (ee a11 (.call 18 [z10])), (aa a3 (.al 54 [(.b false), (.b false), (.b false), (.b false)])), (ez (.st 4 z3 z11))])
def b21_3 : CC := (.reg [(qq a12 (.ldn 5 z1)), (aa a4 (.al 24 [(.i .i64 0), (.i .i64 0), (.i .i64 0), (.i .i64 0), (.i .i64 0)])), (ez (.st 5 z4 z12))])
def b21_4 : CC := (.reg [(qq a13 (.fa 0 z3)), (qq a14 (.ld1 z13))])
def b21_5 : CC := (.reg [(qq a15 (.fa 1 z4)), (ez (.st 1 z15 (x6 0)))])
def b21_6 : CC := (.reg [(qq a16 (.fa 1 z3)), (qq a17 (.ld1 z16))])
def b21_7 : CC := (.reg [(qq a18 (.fa 2 z4)), (ez (.st 1 z18 (x6 0)))])
def b21_8 : CC := (.seq b21_6 (.cond z17 b21_7 .skip))
def b21_9 : CC := (.reg [(qq a19 (.fa 2 z3)), (qq a20 (.ld1 z19))])
def b21_10 : CC := (.reg [(qq a21 (.fa 3 z4)), (ez (.st 1 z21 (x6 0)))])
def b21_11 : CC := (.seq b21_9 (.cond z20 b21_10 .skip))
def b21_12 : CC := (.reg [(qq a22 (.fa 3 z3)), (qq a23 (.ld1 z22))])
def b21_13 : CC := (.reg [(qq a24 (.fa 4 z4)), (ez (.st 1 z24 (x6 0)))])
def b21_14 : CC := (.seq b21_12 (.cond z23 b21_13 .skip))
def b21_15 : CC := (.reg [(qq a5 (.mv (x6 (-32768)))), (qq a6 (.mv (x6 32767)))])
def b21_16 : CC := (.reg [(qq a25 (.fa 0 z1)), (qq a26 (.ld1 z25)), (ee a27 (.call 20 [z26]))])
def b21_17 : CC := (.reg [(qq a5 (.mv (x6 0))), (qq a6 (.mv (x6 65535)))])
def b21_18 : CC := (.seq b21_16 (.cond z27 b21_17 .skip))
def b21_19 : CC := (.reg [(qq a7 (.mv (.c (.f 35 [] []))))])
def b21_20 : CC := (.reg [(qq a28 (.fa 0 z1)), (qq a29 (.ld1 z28)), (ee a30 (.call 22 [z29])), (qq a31 (.bi .neq z30 (.c (.s 0 0)))), (qq a32 (.mv z31)), ⟨(some a33), .q (.ldn 5 z4), (some (a32, true))⟩, ⟨(some a34), .q (.fa 0 z1), (some (a32, true))⟩, ⟨(some a35), .q (.ld1 z34), (some (a32, true))⟩, ⟨(some a36), .q (.bld [(.i .i64 0), (.i .i64 0), (.i .i64 0), (.i .i64 0), (.i .i64 0)] [(0, 1, z35)]), (some (a32, true))⟩, ⟨(some a37), .q (.eq false (.agg [(0, .int), (1, .int), (2, .int), (3, .int), (4, .int)]) false z33 z36), (some (a32, true))⟩, (qq a38 (.pk z32 z37 xF)), (qq a39 (.mv z38)), ⟨(some a40), .q (.mv z7), (some (a39, true))⟩, ⟨(some a41), .q (.fa 1 z1), (some (a39, true))⟩, ⟨(some a42), .q (.ld1 z41), (some (a39, true))⟩, ⟨(some a43), .e (.cv z40 [z42]), (some (a39, true))⟩, (qq a44 (.pk z39 z43 xF)), (qq a45 (.mv z44)), ⟨(some a46), .q (.mv z7), (some (a45, true))⟩, ⟨(some a47), .q (.fa 2 z1), (some (a45, true))⟩, ⟨(some a48), .q (.ld1 z47), (some (a45, true))⟩, ⟨(some a49), .e (.cv z46 [z48]), (some (a45, true))⟩, (qq a50 (.pk z45 z49 xF)), (qq a51 (.mv z50)), ⟨(some a52), .q (.mv z7), (some (a51, true))⟩, ⟨(some a53), .q (.fa 3 z1), (some (a51, true))⟩, ⟨(some a54), .q (.ld1 z53), (some (a51, true))⟩, ⟨(some a55), .e (.cv z52 [z54]), (some (a51, true))⟩, (qq a56 (.pk z51 z55 xF)), (qq a57 (.mv z56)), ⟨(some a58), .q (.fa 4 z1), (some (a57, true))⟩, ⟨(some a59), .q (.ld1 z58), (some (a57, true))⟩, ⟨(some a60), .q (.mv z5), (some (a57, true))⟩, ⟨(some a61), .q (.bi .geq z59 z60), (some (a57, true))⟩, (qq a62 (.pk z57 z61 xF)), (qq a63 (.mv z62)), ⟨(some a64), .q (.fa 4 z1), (some (a63, true))⟩, ⟨(some a65), .q (.ld1 z64), (some (a63, true))⟩, ⟨(some a66), .q (.mv z6), (some (a63, true))⟩, ⟨(some a67), .q (.bi .leq z65 z66), (some (a63, true))⟩, (qq a68 (.pk z63 z67 xF)), (qq a2 (.mv z68))])
def b21_21 : CC := (.seq b21_15 (.seq b21_18 (.seq b21_19 (.seq b21_20 .ret))))
def b21_22 : CC := (.seq (.seq b21_4 (.cond z14 b21_5 .skip)) (.seq b21_8 (.seq b21_11 (.seq b21_14 b21_21))))
def c21 : CF := .mk 7 [.t a2] (.seq b21_1 (.seq b21_2 (.seq b21_3 b21_22)))
theorem e21 (v0 : V) : argTr 7 [v0] = (.n sk6 (some v0) sk6) := rfl
def B21 := ai @e21 (ai (wu b21_1.eq_1) (ai (wu b21_2.eq_1) (ai (wu b21_3.eq_1) (ai (wu b21_4.eq_1) (ai (wu b21_5.eq_1) (ai (wu b21_6.eq_1) (ai (wu b21_7.eq_1) (ai (wu b21_8.eq_1) (ai (wu b21_9.eq_1) (ai (wu b21_10.eq_1) (ai (wu b21_11.eq_1) (ai (wu b21_12.eq_1) (ai (wu b21_13.eq_1) (ai (wu b21_14.eq_1) (ai (wu b21_15.eq_1) (ai (wu b21_16.eq_1) (ai (wu b21_17.eq_1) (ai (wu b21_18.eq_1) (ai (wu b21_19.eq_1) (ai (wu b21_20.eq_1) (ai (wu b21_21.eq_1) (wu b21_22.eq_1))))))))))))))))))))))
theorem nameV_ne (op : Int) : biV .neq (nameV op) (.s 0 0) = some (.b (decide (1 ≤ op ∧ op ≤ 28))) := by
 unfold nameV
 by_cases h : 1 ≤ op ∧ op ≤ 28
 · rw [if_pos h, decide_eq_true h]
   have key : ∀ n, n < 29 → 1 ≤ n → biV .neq ((names53[n]?).getD (.s 0 0)) (.s 0 0) = some (.b true) := by
    intro n hn h1
    have : n = 1 ∨ n = 2 ∨ n = 3 ∨ n = 4 ∨ n = 5 ∨ n = 6 ∨ n = 7 ∨ n = 8 ∨ n = 9 ∨ n = 10 ∨ n = 11 ∨ n = 12 ∨ n = 13 ∨ n = 14 ∨ n = 15 ∨ n = 16 ∨ n = 17 ∨ n = 18 ∨ n = 19 ∨ n = 20 ∨ n = 21 ∨ n = 22 ∨ n = 23 ∨ n = 24 ∨ n = 25 ∨ n = 26 ∨ n = 27 ∨ n = 28 := by omega
    rcases this with rfl | rfl | rfl | rfl | rfl | rfl | rfl | rfl | rfl | rfl | rfl | rfl | rfl | rfl | rfl | rfl | rfl | rfl | rfl | rfl | rfl | rfl | rfl | rfl | rfl | rfl | rfl | rfl <;> rfl
   exact key op.toNat (by omega) (by omega)
 · rw [if_neg h, decide_eq_false h]; rfl
theorem t21 (Φ : Nat → Option CF) (h : Φ 21 = some c21) (h19 : Φ 19 = some (.orc (pureO h19))) (h18 : Φ 18 = some (.orc (pureO h18))) (h20 : Φ 20 = some (.orc (pureO h20))) (h35 : Φ 35 = some (.orc (pureO h35))) (h22 : Φ 22 = some (.orc (pureO h22))) (op d a b i : Int) (ct : Nat) :
  To Φ 21 [.g [.i .i64 op, .i .i64 d, .i .i64 a, .i .i64 b, .i .i64 i]] ct (.b (mayI op d a b i)) := by
 refine to_walk h ?_
 rcases formI_cases op with hf | hf | hf | hf | hf | hf | hf
 all_goals
  simp only [WX, Nat.reduceBEq, Int.reduceEq, Nat.reduceAdd, Nat.reduceLeDiff, B21, h19, h19_eq, h18, h18_eq, h20, h20_eq, hf, dI, aI, bI, iI]
  repeat' first | (refine wp_cond (by simp only [WX]; rfl) (fun h => ?_) (fun h => ?_) <;> simp only [WX, B21, h, h22, h22_eq, nameV_ne]) | (refine wo_g (by simp only [WX]; rfl) (fun h => ?_) (fun h => ?_) <;> simp only [WX, Nat.reduceAdd, Nat.reduceLeDiff, h, h35, h35_eq])
 all_goals (rw [V.b.injEq, Bool.eq_iff_iff]; simp only [decide_eq_true_eq, decide_eq_false_iff_not, Bool.not_true, Bool.and_eq_true, Bool.and_eq_false_iff, Bool.false_eq_true, false_iff] at *; simp only [mayI, regI, hf, dI, aI, bI, iI, Bool.and_eq_true, Bool.or_eq_true, decide_eq_true_eq, Int.reduceEq, or_true, or_false, true_and, or_self, false_and])
 all_goals omega
def b8_1 : CC := (.reg [(aa a1 (.bx 24 5 z0)), (qq a2 (.mv (.c (.i .u32 0)))), (qq a3 (.mv (x6 0)))])
def b8_2 : CC := (.reg [(qq a4 (.ldn 5 z1)), (ee a5 (.call 21 [z4])), (qq a6 (.un .not z5))])
def b8_3 : CC := (.reg [(qq a2 (.mv (.c (.i .u32 0)))), (qq a3 (.mv (x6 2)))])
def b8_4 : CC := (.seq b8_2 (.cond z6 (.seq b8_3 .ret) .skip))
def b8_5 : CC := (.reg [(qq a7 (.fa 0 z1)), (qq a8 (.ld1 z7)), (qq a9 (.ci .u32 z8)), (qq a10 (.fa 1 z1)), (qq a11 (.ld1 z10)), (qq a12 (.ci .u32 z11)), (qq a13 (.bi .shl z12 (.c (.i .u64 12)))), (qq a14 (.bi .or z9 z13)), (qq a15 (.fa 2 z1)), (qq a16 (.ld1 z15)), (qq a17 (.ci .u32 z16)), (qq a18 (.bi .shl z17 (.c (.i .u64 8)))), (qq a19 (.bi .or z14 z18)), (qq a20 (.fa 3 z1)), (qq a21 (.ld1 z20)), (qq a22 (.ci .u32 z21)), (qq a23 (.bi .shl z22 (.c (.i .u64 16)))), (qq a24 (.bi .or z19 z23)), (qq a25 (.fa 4 z1)), (qq a26 (.ld1 z25)), (qq a27 (.ci .u16 z26)), (qq a28 (.ci .u32 z27)), (qq a29 (.bi .shl z28 (.c (.i .u64 16)))), (qq a30 (.bi .or z24 z29)), (qq a2 (.mv z30)), (qq a3 (.mv (x6 0)))])
def c8 : CF := .mk 5 [.t a2, .t a3] (.seq b8_1 (.seq b8_4 (.seq b8_5 .ret)))
theorem e8 (v0 : V) : argTr 5 [v0] = (.n sk4 (some v0) sk4) := rfl
def B8 := ai @e8 (ai (wu b8_1.eq_1) (ai (wu b8_2.eq_1) (ai (wu b8_3.eq_1) (ai (wu b8_4.eq_1) (wu b8_5.eq_1)))))
def h21 : List V → Option V
 | [.g [.i .i64 op, .i .i64 d, .i .i64 a, .i .i64 b, .i .i64 i]] => some (.b (mayI op d a b i))
 | _ => none
theorem h21_eq (op d a b i : Int) : h21 [.g [.i .i64 op, .i .i64 d, .i .i64 a, .i .i64 b, .i .i64 i]] = some (.b (mayI op d a b i)) := rfl
def wordI (op d a b i : Int) : Nat := op.toNat + 4096 * d.toNat + 256 * a.toNat + 65536 * b.toNat + 65536 * (i % 65536).toNat
theorem may_regI {n : Bool} {x : Int} (h : regI n x = true) : 0 ≤ x ∧ x < 16 ∧ (x ≠ 0 → n = true) := by
 unfold regI at h
 simp only [decide_eq_true_eq] at h
 rcases h with h | ⟨h1, h2, h3⟩
 · subst h; exact ⟨by decide, by decide, fun h => absurd rfl h⟩
 · exact ⟨by omega, h3, fun _ => h1⟩
theorem mayI_bounds {op d a b i : Int} (h : mayI op d a b i = true) : 1 ≤ op ∧ op ≤ 28 ∧ 0 ≤ d ∧ d < 16 ∧ 0 ≤ a ∧ a < 16 ∧ 0 ≤ b ∧ b < 16 ∧ -32768 ≤ i ∧ i ≤ 65535 ∧ (b = 0 ∨ i = 0) := by
 unfold mayI at h
 simp only [Bool.and_eq_true, Bool.or_eq_true, decide_eq_true_eq] at h
 obtain ⟨h1, h2, h3, h4, h1005, h1006⟩ := h
 have r3 := may_regI h3
 have r4 := may_regI h4
 have r1005 := may_regI h1005
 have hbi : b = 0 ∨ i = 0 := by
  by_cases hb : b = 0
  · exact .inl hb
  · right
    have := r1005.2.2 hb
    unfold bI at this
    simp only [decide_eq_true_eq] at this
    rcases h1006 with h1006 | ⟨h1006, _⟩
    · exact h1006
    · unfold iI at h1006
      simp only [decide_eq_true_eq] at h1006
      omega
 have hi : -32768 ≤ i ∧ i ≤ 65535 := by
  rcases h1006 with h1006 | ⟨_, h1006⟩
  · omega
  · omega
 exact ⟨h1, h2, r3.1, r3.2.1, r4.1, r4.2.1, r1005.1, r1005.2.1, hi.1, hi.2, hbi⟩
theorem or_add12 (x y : Nat) (h : x < 4096) : x ||| 4096 * y = x + 4096 * y := by
 rw [Nat.or_comm, ← Nat.two_pow_add_eq_or_of_lt (show x < 2 ^ 12 from h) y, Nat.add_comm]
theorem or_add16 (x y : Nat) (h : x < 65536) : x ||| 65536 * y = x + 65536 * y := by
 rw [Nat.or_comm, ← Nat.two_pow_add_eq_or_of_lt (show x < 2 ^ 16 from h) y, Nat.add_comm]
theorem or_add8 (x y : Nat) (h : x < 256) : x ||| 256 * y = x + 256 * y := by
 rw [Nat.or_comm, ← Nat.two_pow_add_eq_or_of_lt (show x < 2 ^ 8 from h) y, Nat.add_comm]
theorem t8 (Φ : Nat → Option CF) (h : Φ 8 = some c8) (h21 : Φ 21 = some (.orc (pureO h21))) (op d a b i : Int) (ct : Nat) :
  To Φ 8 [.g [.i .i64 op, .i .i64 d, .i .i64 a, .i .i64 b, .i .i64 i]] ct (if mayI op d a b i = true then .t [.i .u32 (wordI op d a b i : Nat), .i .i64 0] else .t [.i .u32 0, .i .i64 2]) := by
 refine to_walk h ?_
 cases hm : mayI op d a b i with
 | false => simp only [WX, Nat.reduceAdd, Nat.reduceLeDiff, B8, h21, h21_eq, hm]
 | true =>
   obtain ⟨b1, b2, b3, b4, b1005, b1006, b1007, b5, b13, b8, b7⟩ := mayI_bounds hm
   obtain ⟨o, rfl⟩ := Int.eq_ofNat_of_zero_le (show 0 ≤ op by omega)
   obtain ⟨d, rfl⟩ := Int.eq_ofNat_of_zero_le b3
   obtain ⟨a, rfl⟩ := Int.eq_ofNat_of_zero_le b1005
   obtain ⟨b, rfl⟩ := Int.eq_ofNat_of_zero_le b1007
   obtain ⟨j, hj⟩ := Int.eq_ofNat_of_zero_le (show 0 ≤ i % 65536 by omega)
   have w10 : IntKind.u16.wrap i = (j : Int) := by rw [wrap_u16]; exact hj
   have e1 := u32_nat o (by omega)
   have e2 := u32_nat d (by omega)
   have e3 := u32_nat a (by omega)
   have e4 := u32_nat b (by omega)
   have e1005 := u32_nat j (by omega)
   have s1 := u32_shl12 d (by omega)
   have s2 := u32_shl8 a (by omega)
   have s3 := u32_shl16 b (by omega)
   have s4 := u32_shl16 j (by omega)
   have n1 : (o ||| 4096 * d) < 2 ^ 32 := Nat.or_lt_two_pow (by omega) (by omega)
   have n2 : (o ||| 4096 * d ||| 256 * a) < 2 ^ 32 := Nat.or_lt_two_pow n1 (by omega)
   have n3 : (o ||| 4096 * d ||| 256 * a ||| 65536 * b) < 2 ^ 32 := Nat.or_lt_two_pow n2 (by omega)
   have o1 := u32_or o (4096 * d) (by omega) (by omega)
   have o2 := u32_or (o ||| 4096 * d) (256 * a) n1 (by omega)
   have o3 := u32_or (o ||| 4096 * d ||| 256 * a) (65536 * b) n2 (by omega)
   have o4 := u32_or (o ||| 4096 * d ||| 256 * a ||| 65536 * b) (65536 * j) n3 (by omega)
   simp only [WX, Nat.reduceAdd, Nat.reduceLeDiff, B8, h21, h21_eq, hm, w10, e1, e2, e3, e4, e1005, s1, s2, s3, s4, o1, o2, o3, o4]
   have key : (o ||| 4096 * d ||| 256 * a ||| 65536 * b ||| 65536 * j) = wordI o d a b i := by
    unfold wordI
    rw [Nat.or_assoc o, Nat.or_comm (4096 * d), ← Nat.or_assoc o, or_add8 o a (by omega), or_add12 _ d (by omega)]
    rcases b7 with h0 | h0
    · have : b = 0 := by omega
      subst this
      rw [Nat.mul_zero, Nat.or_zero, or_add16 _ j (by omega)]
      omega
    · have : j = 0 := by omega
      subst this
      rw [Nat.mul_zero, Nat.or_zero, or_add16 _ b (by omega)]
      omega
   rw [key]
theorem mayI_form {op d a b i : Int} (h : mayI op d a b i = true) : (formI op = 5 → i = 0) ∧ (formI op ≠ 5 → b = 0) := by
 unfold mayI at h
 simp only [Bool.and_eq_true, Bool.or_eq_true, decide_eq_true_eq] at h
 obtain ⟨h1, h2, h3, h4, h1005, h1006⟩ := h
 constructor
 · intro hf
   rcases h1006 with h1006 | ⟨h1006, _⟩
   · exact h1006
   · rw [hf] at h1006; cases h1006
 · intro hf
   have r1005 := may_regI h1005
   by_cases hb : b = 0
   · exact hb
   · have := r1005.2.2 hb
     unfold bI at this
     simp only [decide_eq_true_eq] at this
     exact absurd this hf
def b6_1 : CC := (.reg [(aa a2 (.al 24 [(.i .i64 0), (.i .i64 0), (.i .i64 0), (.i .i64 0), (.i .i64 0)])), (qq a3 (.mv (x6 0)))])
def b6_2 : CC := (.reg [(qq a8 (.mv z0)), (qq a9 (.bi .and z8 (.c (.i .u32 255)))), (qq a10 (.ci .i64 z9)), (qq a11 (.bld [(.i .i64 0), (.i .i64 0), (.i .i64 0), (.i .i64 0), (.i .i64 0)] [(0, 1, z10)])), (aa a4 (.al 24 [(.i .i64 0), (.i .i64 0), (.i .i64 0), (.i .i64 0), (.i .i64 0)])), (ez (.st 5 z4 z11))])
def b6_3 : CC := (.reg [(qq a12 (.fa 0 z4)), (qq a13 (.ld1 z12)), (ee a14 (.call 19 [z13])), (ee a15 (.call 18 [z14])), (aa a5 (.al 54 [(.b false), (.b false), (.b false), (.b false)])), (ez (.st 4 z5 z15))])
def b6_4 : CC := (.reg [(qq a16 (.fa 0 z5)), (qq a17 (.ld1 z16))])
def b6_5 : CC := (.reg [(qq a18 (.mv z0)), (qq a19 (.bi .shr z18 (.c (.i .u64 12)))), (qq a20 (.bi .and z19 (.c (.i .u32 15)))), (qq a21 (.ci .i64 z20)), (qq a22 (.fa 1 z4)), (ez (.st 1 z22 z21))])
def b6_6 : CC := (.reg [(qq a23 (.fa 1 z5)), (qq a24 (.ld1 z23))])
def b6_7 : CC := (.reg [(qq a25 (.mv z0)), (qq a26 (.bi .shr z25 (.c (.i .u64 8)))), (qq a27 (.bi .and z26 (.c (.i .u32 15)))), (qq a28 (.ci .i64 z27)), (qq a29 (.fa 2 z4)), (ez (.st 1 z29 z28))])
def b6_8 : CC := (.reg [(qq a30 (.fa 2 z5)), (qq a31 (.ld1 z30))])
def b6_9 : CC := (.reg [(qq a32 (.mv z0)), (qq a33 (.bi .shr z32 (.c (.i .u64 16)))), (qq a34 (.ci .i64 z33)), (qq a35 (.fa 3 z4)), (ez (.st 1 z35 z34))])
def b6_10 : CC := (.seq b6_8 (.cond z31 b6_9 .skip))
def b6_11 : CC := (.reg [(qq a36 (.fa 3 z5)), (qq a37 (.ld1 z36))])
def b6_12 : CC := (.reg [(qq a38 (.mv z0)), (qq a39 (.bi .shr z38 (.c (.i .u64 16)))), (qq a40 (.ci .i16 z39)), (qq a41 (.ci .i64 z40)), (qq a42 (.fa 4 z4)), (ez (.st 1 z42 z41))])
def b6_13 : CC := (.reg [(qq a43 (.fa 0 z4)), (qq a44 (.ld1 z43)), (ee a45 (.call 20 [z44]))])
def b6_14 : CC := (.reg [(qq a46 (.mv z0)), (qq a47 (.bi .shr z46 (.c (.i .u64 16)))), (qq a48 (.ci .i64 z47)), (qq a49 (.fa 4 z4)), (ez (.st 1 z49 z48))])
def b6_15 : CC := (.seq b6_13 (.cond z45 b6_14 .skip))
def b6_16 : CC := (.cond z37 (.seq b6_12 b6_15) .skip)
def b6_17 : CC := (.reg [(qq a51 (.ldn 5 z4)), (ee a52 (.call 8 [z51])), (qq a50 (.mv z52)), (qq a53 (.ex 0 z50)), (qq a54 (.ex 1 z50)), (qq a6 (.mv z53)), (qq a7 (.mv z54))])
def b6_18 : CC := (.reg [(qq a55 (.mv z7)), (qq a56 (.bi .neq z55 (x6 0))), (qq a57 (.mv z56)), ⟨(some a58), .q (.mv z6), (some (a57, false))⟩, ⟨(some a59), .q (.mv z0), (some (a57, false))⟩, ⟨(some a60), .q (.bi .neq z58 z59), (some (a57, false))⟩, (qq a61 (.pk z57 xT z60))])
def b6_19 : CC := (.reg [(qq a62 (.bld [(.i .i64 0), (.i .i64 0), (.i .i64 0), (.i .i64 0), (.i .i64 0)] [])), (ez (.st 5 z2 z62)), (qq a3 (.mv (x6 4)))])
def b6_20 : CC := (.cond z61 (.seq b6_19 .ret) .skip)
def b6_21 : CC := (.reg [(qq a63 (.ldn 5 z4)), (ez (.st 5 z2 z63)), (qq a3 (.mv (x6 0)))])
def b6_22 : CC := (.seq (.seq b6_11 b6_16) (.seq (.seq b6_17 (.seq b6_18 b6_20)) (.seq b6_21 .ret)))
def b6_23 : CC := (.seq (.seq b6_6 (.cond z24 b6_7 .skip)) (.seq b6_10 b6_22))
def b6_24 : CC := (.seq (.seq b6_4 (.cond z17 b6_5 .skip)) b6_23)
def c6 : CF := .mk 7 [.cn a2 5, .t a3] (.seq b6_1 (.seq b6_2 (.seq b6_3 b6_24)))
theorem e6 (v0 : V) : argTr 7 [v0] = (.n sk6 (some v0) sk6) := rfl
def B6 := ai @e6 (ai (wu b6_1.eq_1) (ai (wu b6_2.eq_1) (ai (wu b6_3.eq_1) (ai (wu b6_4.eq_1) (ai (wu b6_5.eq_1) (ai (wu b6_6.eq_1) (ai (wu b6_7.eq_1) (ai (wu b6_8.eq_1) (ai (wu b6_9.eq_1) (ai (wu b6_10.eq_1) (ai (wu b6_11.eq_1) (ai (wu b6_12.eq_1) (ai (wu b6_13.eq_1) (ai (wu b6_14.eq_1) (ai (wu b6_15.eq_1) (ai (wu b6_16.eq_1) (ai (wu b6_17.eq_1) (ai (wu b6_18.eq_1) (ai (wu b6_19.eq_1) (ai (wu b6_20.eq_1) (ai (wu b6_21.eq_1) (ai (wu b6_22.eq_1) (ai (wu b6_23.eq_1) (wu b6_24.eq_1))))))))))))))))))))))))
def w8 (op d a b i : Int) : Int := if mayI op d a b i = true then (wordI op d a b i : Nat) else 0
def er10 (op d a b i : Int) : Int := if mayI op d a b i = true then 0 else 2
def h8 : List V → Option V
 | [.g [.i .i64 op, .i .i64 d, .i .i64 a, .i .i64 b, .i .i64 i]] => some (.t [.i .u32 (w8 op d a b i), .i .i64 (er10 op d a b i)])
 | _ => none
theorem h8_eq (op d a b i : Int) : h8 [.g [.i .i64 op, .i .i64 d, .i .i64 a, .i .i64 b, .i .i64 i]] = some (.t [.i .u32 (w8 op d a b i), .i .i64 (er10 op d a b i)]) := rfl
def opW (w : Nat) : Int := ((w % 256 : Nat) : Int)
def dW (w : Nat) : Int := if dI (formI (opW w)) = true then ((w / 4096 % 16 : Nat) : Int) else 0
def aW (w : Nat) : Int := if aI (formI (opW w)) = true then ((w / 256 % 16 : Nat) : Int) else 0
def bW (w : Nat) : Int := if bI (formI (opW w)) = true then ((w / 65536 : Nat) : Int) else 0
def s16 (w : Nat) : Int := if 32768 ≤ w / 65536 then ((w / 65536 : Nat) : Int) - 65536 else ((w / 65536 : Nat) : Int)
def iW (w : Nat) : Int := if iI (formI (opW w)) = true then (if opW w = 3 ∨ opW w = 6 then ((w / 65536 : Nat) : Int) else s16 w) else 0
def ofV (w : Nat) : V :=
 if mayI (opW w) (dW w) (aW w) (bW w) (iW w) = true ∧ wordI (opW w) (dW w) (aW w) (bW w) (iW w) = w then .t [.g [.i .i64 (opW w), .i .i64 (dW w), .i .i64 (aW w), .i .i64 (bW w), .i .i64 (iW w)], .i .i64 0]
 else .t [.g [.i .i64 0, .i .i64 0, .i .i64 0, .i .i64 0, .i .i64 0], .i .i64 4]
theorem i64_nat (n : Nat) (h : n < 9223372036854775808) : IntKind.i64.wrap (n : Int) = (n : Int) := wrap_i64 (by omega) (by omega)
theorem u32_and255 (w : Nat) (hw : w < 4294967296) : biV .and (.i .u32 (w : Int)) (.i .u32 255) = some (.i .u32 ((w % 256 : Nat) : Int)) := by
 have := u32_and w 255 hw (by decide)
 rw [show (255 : Nat) = 2 ^ 8 - 1 from rfl, Nat.and_two_pow_sub_one_eq_mod] at this
 exact this
theorem u32_and15 (w : Nat) (hw : w < 4294967296) : biV .and (.i .u32 (w : Int)) (.i .u32 15) = some (.i .u32 ((w % 16 : Nat) : Int)) := by
 have := u32_and w 15 hw (by decide)
 rw [show (15 : Nat) = 2 ^ 4 - 1 from rfl, Nat.and_two_pow_sub_one_eq_mod] at this
 exact this
theorem u32_shr12 (w : Nat) : biV .shr (.i .u32 (w : Int)) (.i .u64 12) = some (.i .u32 ((w / 4096 : Nat) : Int)) := u32_shr w 12 (by decide)
theorem u32_shr8 (w : Nat) : biV .shr (.i .u32 (w : Int)) (.i .u64 8) = some (.i .u32 ((w / 256 : Nat) : Int)) := u32_shr w 8 (by decide)
theorem u32_shr16 (w : Nat) : biV .shr (.i .u32 (w : Int)) (.i .u64 16) = some (.i .u32 ((w / 65536 : Nat) : Int)) := u32_shr w 16 (by decide)
theorem s16_eq (w : Nat) (hw : w < 4294967296) : IntKind.i16.wrap ((w / 65536 : Nat) : Int) = s16 w := by
 rw [wrap_i16]
 unfold s16
 split <;> split <;> omega
theorem s16_i64 (w : Nat) (hw : w < 4294967296) : IntKind.i64.wrap (s16 w) = s16 w := by
 unfold s16
 split <;> exact wrap_i64 (by omega) (by omega)
theorem ofN1 {op d a b i : Int} {w : Nat} (h : decide (er10 op d a b i ≠ 0) = (!false)) : ¬ (mayI op d a b i = true ∧ wordI op d a b i = w) := by
 have h' := of_decide_eq_true (show decide (er10 op d a b i ≠ 0) = true from h)
 unfold er10 at h'
 intro hh
 rw [if_pos hh.1] at h'
 exact h' rfl
theorem ofN2 {op d a b i : Int} {w : Nat} (h : decide (w8 op d a b i ≠ (w : Int)) = true) : ¬ (mayI op d a b i = true ∧ wordI op d a b i = w) := by
 have h' := of_decide_eq_true h
 unfold w8 at h'
 intro hh
 rw [if_pos hh.1, hh.2] at h'
 exact h' rfl
theorem ofY {op d a b i : Int} {w : Nat} (h : decide (er10 op d a b i ≠ 0) = false) (h2 : decide (w8 op d a b i ≠ (w : Int)) = false) : mayI op d a b i = true ∧ wordI op d a b i = w := by
 have h' := of_decide_eq_false h
 have h2' := of_decide_eq_false h2
 unfold er10 at h'
 unfold w8 at h2'
 by_cases hm : mayI op d a b i = true
 · rw [if_pos hm] at h2'
   refine ⟨hm, ?_⟩
   have := Classical.not_not.1 h2'
   omega
 · rw [if_neg hm] at h'
   exact absurd (by decide) h'
theorem t6 (Φ : Nat → Option CF) (h : Φ 6 = some c6) (h19 : Φ 19 = some (.orc (pureO h19))) (h18 : Φ 18 = some (.orc (pureO h18))) (h20 : Φ 20 = some (.orc (pureO h20))) (h8 : Φ 8 = some (.orc (pureO h8))) (w : Nat) (hw : w < 4294967296) (ct : Nat) :
  To Φ 6 [.i .u32 (w : Int)] ct (ofV w) := by
 refine to_walk h ?_
 have q1 := u32_and255 w hw
 have q2 := i64_nat (w % 256) (by omega)
 have q3 := u32_shr12 w
 have q4 := u32_and15 (w / 4096) (by omega)
 have q5 := i64_nat (w / 4096 % 16) (by omega)
 have q6 := u32_shr8 w
 have q7 := u32_and15 (w / 256) (by omega)
 have q8 := i64_nat (w / 256 % 16) (by omega)
 have q9 := u32_shr16 w
 have q10 := i64_nat (w / 65536) (by omega)
 have q11 := s16_eq w hw
 have q12 := s16_i64 w hw
 unfold ofV dW aW bW iW
 have hop : opW w = ((w % 256 : Nat) : Int) := rfl
 rw [hop]
 generalize ((w % 256 : Nat) : Int) = op at *
 rcases formI_cases op with hf | hf | hf | hf | hf | hf | hf
 all_goals
  simp only [WX, Nat.reduceBEq, Int.reduceEq, Nat.reduceAdd, Nat.reduceLeDiff, B6, h19, h19_eq, h18, h18_eq, h20, h20_eq, hf, dI, aI, bI, iI, q1, q2, q3, q4, q5, q6, q7, q8, q9, q10, q11, q12, h8, h8_eq]
  repeat' first | (refine wp_cond (by simp only [WX]; rfl) (fun h => ?_) (fun h => ?_) <;> simp only [WX, Nat.reduceBEq, Nat.reduceAdd, Nat.reduceLeDiff, B6, h, h8, h8_eq, q9, q10]) | (refine wo_g (by simp only [WX]; rfl) (fun h => ?_) (fun h => ?_) <;> simp only [WX, Nat.reduceAdd, Nat.reduceLeDiff, B6, h])
 all_goals first
  | rw [if_pos (show op = 3 ∨ op = 6 from of_decide_eq_true (by assumption))]
  | rw [if_neg (show ¬ (op = 3 ∨ op = 6) from of_decide_eq_false (by assumption))]
  | skip
 all_goals first
  | rw [if_pos (ofY (by assumption) (by assumption))]
  | rw [if_neg (ofN2 (by assumption))]
  | rw [if_neg (ofN1 (by assumption))]
def okW (w : Nat) : Bool := decide (mayI (opW w) (dW w) (aW w) (bW w) (iW w) = true ∧ wordI (opW w) (dW w) (aW w) (bW w) (iW w) = w)
def okI (w : Nat) (x : Int) : Int := if okW w = true then x else 0
def erW (w : Nat) : Int := if okW w = true then 0 else 4
theorem ofV_eq (w : Nat) : ofV w = .t [.g [.i .i64 (okI w (opW w)), .i .i64 (okI w (dW w)), .i .i64 (okI w (aW w)), .i .i64 (okI w (bW w)), .i .i64 (okI w (iW w))], .i .i64 (erW w)] := by
 unfold ofV okI erW okW
 by_cases h : mayI (opW w) (dW w) (aW w) (bW w) (iW w) = true ∧ wordI (opW w) (dW w) (aW w) (bW w) (iW w) = w
 · rw [if_pos h]; simp only [decide_eq_true h, if_true]
 · rw [if_neg h]; simp only [decide_eq_false h, Bool.false_eq_true, if_false]
def h6 : List V → Option V
 | [.i .u32 (.ofNat w)] => if w < 4294967296 then some (ofV w) else none
 | _ => none
theorem h6_eq (w : Nat) (h : w < 4294967296) : h6 [.i .u32 (w : Int)] = some (ofV w) := if_pos h
def b7_1 : CC := (.reg [(qq a3 (.mv z0)), (qq a2 (.mv z3))])
def b7_2 : CC := (.seq (.reg [(qq a2 (.mv (x6 0)))]) (.seq b7_1 .ret))
def c7 : CF := .mk 3 [.t a2] b7_2
theorem e7 (v0 : V) : argTr 3 [v0] = (.n sk2 (some v0) sk2) := rfl
def B7 := ai @e7 (ai (wu b7_1.eq_1) (wu b7_2.eq_1))
theorem t7 (Φ : Nat → Option CF) (h : Φ 7 = some c7) (x : Int) (ct : Nat) : To Φ 7 [.i .i64 x] ct (.i .i64 x) := by
 refine to_walk h ?_
 simp only [WX, B7]
def h7 : List V → Option V
 | [.i .i64 n] => some (.i .i64 n)
 | _ => none
theorem h7_eq (n : Int) : h7 [.i .i64 n] = some (.i .i64 n) := rfl
def b19_1 : CC := (.reg [(qq a5 (.bi .eql z3 (x6 3))), (qq a4 (.mv z5))])
def b19_2 : CC := (.reg [(qq a7 (.bi .eql z3 (x6 23))), (qq a6 (.mv z7))])
def b19_3 : CC := (.reg [(qq a9 (.bi .eql z3 (x6 24))), (qq a8 (.mv z9))])
def b19_4 : CC := (.reg [(qq a11 (.bi .eql z3 (x6 5))), (qq a10 (.mv z11))])
def b19_5 : CC := (.reg [(qq a12 (.bi .eql z3 (x6 6))), (qq a10 (.mv z12))])
def b19_6 : CC := (.reg [(qq a13 (.bi .eql z3 (x6 25))), (qq a10 (.mv z13))])
def b19_7 : CC := (.cond z10 .skip (.seq b19_5 (.cond z10 .skip b19_6)))
def b19_8 : CC := (.seq (.seq b19_4 b19_7) (.cond z10 (.exit 4) .skip))
def b19_9 : CC := (.reg [(qq a15 (.bi .eql z3 (x6 7))), (qq a14 (.mv z15))])
def b19_10 : CC := (.seq b19_8 (.seq b19_9 (.cond z14 (.exit 5) .skip)))
def b19_11 : CC := (.seq (.seq b19_3 (.cond z8 (.exit 3) .skip)) b19_10)
def b19_12 : CC := (.seq (.seq b19_2 (.cond z6 (.exit 2) .skip)) b19_11)
def b19_13 : CC := (.seq (.seq b19_1 (.cond z4 (.exit 1) .skip)) b19_12)
def b19_14 : CC := (.seq (.reg [(qq a2 (.mv (x6 1)))]) .ret)
def b19_15 : CC := (.seq (.block 2 (.block 1 (.seq b19_13 (.exit 0)))) (.seq b19_14 (.exit 0)))
def b19_16 : CC := (.seq (.reg [(qq a2 (.mv (x6 2)))]) .ret)
def b19_17 : CC := (.seq (.reg [(qq a2 (.mv (x6 3)))]) .ret)
def b19_18 : CC := (.seq (.block 4 (.seq (.block 3 b19_15) (.seq b19_16 (.exit 0)))) (.seq b19_17 (.exit 0)))
def b19_19 : CC := (.seq (.reg [(qq a2 (.mv (x6 4)))]) .ret)
def b19_20 : CC := (.seq (.reg [(qq a3 (.mv z0))]) (.block 0 (.seq (.block 5 b19_18) (.seq b19_19 (.exit 0)))))
def b19_21 : CC := (.reg [(qq a17 (.mv z0)), (qq a18 (.bi .geq z17 (x6 8))), (qq a19 (.mv z18)), ⟨(some a20), .q (.mv z0), (some (a19, true))⟩, ⟨(some a21), .q (.bi .leq z20 (x6 17)), (some (a19, true))⟩, (qq a22 (.pk z19 z21 xF)), (qq a16 (.mv z22))])
def b19_22 : CC := (.seq (.reg [(qq a2 (.mv (x6 5)))]) .ret)
def b19_23 : CC := (.reg [(qq a24 (.mv z0)), (qq a25 (.bi .geq z24 (x6 18))), (qq a26 (.mv z25)), ⟨(some a27), .q (.mv z0), (some (a26, true))⟩, ⟨(some a28), .q (.bi .leq z27 (x6 22)), (some (a26, true))⟩, (qq a29 (.pk z26 z28 xF)), (qq a30 (.mv z29)), ⟨(some a31), .q (.mv z0), (some (a30, false))⟩, ⟨(some a32), .q (.bi .geq z31 (x6 26)), (some (a30, false))⟩, ⟨(some a33), .q (.mv z32), (some (a30, false))⟩, ⟨(some a34), .q (.mv z0), (some (a33, true))⟩, ⟨(some a35), .q (.bi .leq z34 (x6 28)), (some (a33, true))⟩, ⟨(some a36), .q (.pk z33 z35 xF), (some (a30, false))⟩, (qq a37 (.pk z30 xT z36)), (qq a23 (.mv z37))])
def b19_24 : CC := (.seq (.reg [(qq a2 (.mv (x6 6)))]) .ret)
def b19_25 : CC := (.seq b19_23 (.cond z23 b19_24 .skip))
def b19_26 : CC := (.seq b19_21 (.cond z16 b19_22 b19_25))
def b19_27 : CC := (.seq (.reg [(qq a2 (.mv (x6 0)))]) .ret)
def b19_28 : CC := (.seq (.reg [(qq a2 (.mv (x6 0)))]) (.seq b19_20 (.seq (.block 6 b19_26) b19_27)))
def c19 : CF := .mk 6 [.t a2] b19_28
theorem e19 (v0 : V) : argTr 6 [v0] = (.n sk5 (some v0) sk5) := rfl
def B19 := ai @e19 (ai (wu b19_1.eq_1) (ai (wu b19_2.eq_1) (ai (wu b19_3.eq_1) (ai (wu b19_4.eq_1) (ai (wu b19_5.eq_1) (ai (wu b19_6.eq_1) (ai (wu b19_7.eq_1) (ai (wu b19_8.eq_1) (ai (wu b19_9.eq_1) (ai (wu b19_10.eq_1) (ai (wu b19_11.eq_1) (ai (wu b19_12.eq_1) (ai (wu b19_13.eq_1) (ai (wu b19_14.eq_1) (ai (wu b19_15.eq_1) (ai (wu b19_16.eq_1) (ai (wu b19_17.eq_1) (ai (wu b19_18.eq_1) (ai (wu b19_19.eq_1) (ai (wu b19_20.eq_1) (ai (wu b19_21.eq_1) (ai (wu b19_22.eq_1) (ai (wu b19_23.eq_1) (ai (wu b19_24.eq_1) (ai (wu b19_25.eq_1) (ai (wu b19_26.eq_1) (ai (wu b19_27.eq_1) (wu b19_28.eq_1))))))))))))))))))))))))))))
theorem t19 (Φ : Nat → Option CF) (h : Φ 19 = some c19) (op : Int) (ct : Nat) : To Φ 19 [.i .i64 op] ct (.i .i64 (formI op)) := by
 refine to_walk h ?_
 simp only [WX, B19]
 repeat' first | (refine wp_cond (by simp only [WX]; rfl) (fun h => ?_) (fun h => ?_) <;> simp only [WX, Nat.reduceEqDiff, reduceCtorEq, B19, h]) | (refine wo_g (by simp only [WX]; rfl) (fun h => ?_) (fun h => ?_) <;> simp only [WX, B19, h])
 all_goals (simp only [decide_eq_true_eq, decide_eq_false_iff_not, Bool.not_true, Bool.not_false] at *; congr 1; unfold formI; repeat' split)
 all_goals first | rfl | omega
theorem names53_bd : bds (fun _ => False) names53 := by unfold names53; simp [bds, bd]
theorem nameV_bd (op : Int) : bd (fun _ => False) (nameV op) := by
 unfold nameV
 split
 · cases hn : names53[op.toNat]? with
   | none => trivial
   | some x => exact (bds_iff _ _).1 names53_bd x (List.mem_of_getElem? hn)
 · trivial
theorem t8' (Φ : Nat → Option CF) (h : Φ 8 = some c8) (h21 : Φ 21 = some (.orc (pureO h21))) (op d a b i : Int) (ct : Nat) :
  To Φ 8 [.g [.i .i64 op, .i .i64 d, .i .i64 a, .i .i64 b, .i .i64 i]] ct (.t [.i .u32 (w8 op d a b i), .i .i64 (er10 op d a b i)]) := by
 have := t8 Φ h h21 op d a b i ct
 unfold w8 er10
 by_cases hm : mayI op d a b i = true
 · simp only [hm, if_true] at this ⊢; exact this
 · simp only [hm] at this ⊢; exact this
section
variable {P : Program} (hm : P.follows .mixedOrders = true) {Φ : Nat → Option CF} (hΦ : PhiOk P Φ)
include hm hΦ
theorem o19 (h : Φ 19 = some c19) : OrcOk P 19 (pureO h19) := pure_of hm hΦ (by
 intro args v ct hv hct; unfold h19 at hv; split at hv
 · obtain rfl := Option.some.inj hv; exact ⟨trivial, t19 Φ h _ _⟩
 · cases hv)
theorem o18 (h : Φ 18 = some c18) : OrcOk P 18 (pureO h18) := pure_of hm hΦ (by
 intro args v ct hv hct; unfold h18 at hv; split at hv
 · obtain rfl := Option.some.inj hv; exact ⟨⟨trivial, trivial, trivial, trivial, trivial⟩, t18 Φ h _ _⟩
 · cases hv)
theorem o35 (h : Φ 35 = some c35) : OrcOk P 35 (pureO h35) := pure_of hm hΦ (by
 intro args v ct hv hct; unfold h35 at hv; split at hv
 · obtain rfl := Option.some.inj hv; exact ⟨trivial, t35 Φ h _ _⟩
 · cases hv)
theorem o20 (h : Φ 20 = some c20) : OrcOk P 20 (pureO h20) := pure_of hm hΦ (by
 intro args v ct hv hct; unfold h20 at hv; split at hv
 · obtain rfl := Option.some.inj hv; exact ⟨trivial, t20 Φ h _ _⟩
 · cases hv)
theorem o32 (h : Φ 32 = some c32) : OrcOk P 32 (pureO h32) := pure_of hm hΦ (by
 intro args v ct hv hct; unfold h32 at hv; split at hv
 · obtain rfl := Option.some.inj hv; exact ⟨names53_bd, t32 Φ h _⟩
 · cases hv)
theorem o22 (h : Φ 22 = some c22) (h32 : Φ 32 = some (.orc (pureO h32))) : OrcOk P 22 (pureO h22) := pure_of hm hΦ (by
 intro args v ct hv hct; unfold h22 at hv; split at hv
 · obtain rfl := Option.some.inj hv; exact ⟨nameV_bd _, t22 Φ h h32 _ _⟩
 · cases hv)
theorem o21 (h : Φ 21 = some c21) (h19 : Φ 19 = some (.orc (pureO h19))) (h18 : Φ 18 = some (.orc (pureO h18))) (h20 : Φ 20 = some (.orc (pureO h20))) (h35 : Φ 35 = some (.orc (pureO h35))) (h22 : Φ 22 = some (.orc (pureO h22))) : OrcOk P 21 (pureO h21) := pure_of hm hΦ (by
 intro args v ct hv hct; unfold h21 at hv; split at hv
 · obtain rfl := Option.some.inj hv; exact ⟨trivial, t21 Φ h h19 h18 h20 h35 h22 _ _ _ _ _ _⟩
 · cases hv)
theorem o8 (h : Φ 8 = some c8) (h21 : Φ 21 = some (.orc (pureO h21))) : OrcOk P 8 (pureO h8) := pure_of hm hΦ (by
 intro args v ct hv hct; unfold h8 at hv; split at hv
 · obtain rfl := Option.some.inj hv; exact ⟨⟨trivial, trivial, trivial⟩, t8' Φ h h21 _ _ _ _ _ _⟩
 · cases hv)
theorem o6 (h : Φ 6 = some c6) (h19 : Φ 19 = some (.orc (pureO h19))) (h18 : Φ 18 = some (.orc (pureO h18))) (h20 : Φ 20 = some (.orc (pureO h20))) (h8 : Φ 8 = some (.orc (pureO h8))) : OrcOk P 6 (pureO h6) := pure_of hm hΦ (by
 intro args v ct hv hct; unfold h6 at hv; split at hv
 · split at hv
   · obtain rfl := Option.some.inj hv
     refine ⟨?_, t6 Φ h h19 h18 h20 h8 _ (by assumption) _⟩
     rw [ofV_eq]
     exact ⟨⟨trivial, trivial, trivial, trivial, trivial, trivial⟩, trivial, trivial⟩
   · cases hv
 · cases hv)
theorem o7 (h : Φ 7 = some c7) : OrcOk P 7 (pureO h7) := pure_of hm hΦ (by
 intro args v ct hv hct; unfold h7 at hv; split at hv
 · obtain rfl := Option.some.inj hv; exact ⟨trivial, t7 Φ h _ _⟩
 · cases hv)
end
structure Ins where
 op : Int
 d : Int
 a : Int
 b : Int
 i : Int
def insV (x : Ins) : List V := [.i .i64 x.op, .i .i64 x.d, .i .i64 x.a, .i .i64 x.b, .i .i64 x.i]
def insTy : Ty := .cons (.int .i64) (.cons (.int .i64) (.cons (.int .i64) (.cons (.int .i64) (.cons (.int .i64) .nil))))
theorem i64_of {F : RO} {M : Mem} {c : Nat} {vs : List V} {x : (Ty.int .i64).D} (h : Rp F M c (.int .i64) vs x) : ∃ z : Int, vs = [.i .i64 z] ∧ -9223372036854775808 ≤ z ∧ z ≤ 9223372036854775807 := by
 have key : ∀ z : Int, vs = [.i .i64 z] ∧ IntKind.i64.min ≤ z ∧ z ≤ IntKind.i64.max → ∃ z : Int, vs = [.i .i64 z] ∧ -9223372036854775808 ≤ z ∧ z ≤ 9223372036854775807 := fun z h => ⟨z, h⟩
 exact key x h
theorem ins_of {F : RO} {M : Mem} {c : Nat} {vs : List V} {x : insTy.D} (h : Rp F M c insTy vs x) : ∃ y : Ins, vs = insV y := by
 obtain ⟨a1, r1, rfl, h1, a2, r2, rfl, h2, a3, r3, rfl, h3, a4, r4, rfl, h4, a5, r5, rfl, h5, rfl⟩ := h
 obtain ⟨z1, rfl, _⟩ := i64_of h1
 obtain ⟨z2, rfl, _⟩ := i64_of h2
 obtain ⟨z3, rfl, _⟩ := i64_of h3
 obtain ⟨z4, rfl, _⟩ := i64_of h4
 obtain ⟨z5, rfl, _⟩ := i64_of h5
 exact ⟨⟨z1, z2, z3, z4, z5⟩, rfl⟩
theorem setParams_two (p q : Pos) (x y : V) (t : T) : setParams [p, q] [x, y] t = some ((t.setP p x).setP q y) := by
 show (t.setP p x).force (fun t => (t.setP q y).force fun t => some t) = _
 rw [Tr.force_eq, Tr.force_eq]
def b15_1 : CC := (.reg [(aa a1 (.bx 24 5 z0)), (qq a2 (.mv (x6 0))), (qq a3 (.mv xF))])
def b15_2 : CC := (.reg [(qq a5 (.ldn 5 z1)), (ee a6 (.call 21 [z5])), (qq a7 (.un .not z6)), (qq a8 (.mv z7)), ⟨(some a9), .q (.fa 0 z1), (some (a8, false))⟩, ⟨(some a10), .q (.ld1 z9), (some (a8, false))⟩, ⟨(some a11), .e (.call 19 [z10]), (some (a8, false))⟩, ⟨(some a12), .e (.call 18 [z11]), (some (a8, false))⟩, ⟨(some a13), .q (.fl1 0 z12), (some (a8, false))⟩, ⟨(some a14), .q (.un .not z13), (some (a8, false))⟩, (qq a15 (.pk z8 xT z14)), (qq a4 (.mv z15))])
def b15_3 : CC := (.reg [(qq a2 (.mv (x6 0))), (qq a3 (.mv xF))])
def b15_4 : CC := (.reg [(qq a17 (.fa 0 z1)), (qq a18 (.ld1 z17)), (ee a19 (.call 19 [z18])), (qq a20 (.bi .neq z19 (x6 6))), (qq a16 (.mv z20))])
def b15_5 : CC := (.reg [(qq a21 (.fa 1 z1)), (qq a22 (.ld1 z21)), (qq a2 (.mv z22)), (qq a3 (.mv xT))])
def b15_6 : CC := (.reg [(qq a24 (.fa 0 z1)), (qq a25 (.ld1 z24)), (qq a26 (.bi .eql z25 (x6 18))), (qq a23 (.mv z26))])
def b15_7 : CC := (.reg [(qq a27 (.fa 0 z1)), (qq a28 (.ld1 z27)), (qq a29 (.bi .eql z28 (x6 19))), (qq a23 (.mv z29))])
def b15_8 : CC := (.reg [(qq a30 (.fa 0 z1)), (qq a31 (.ld1 z30)), (qq a32 (.bi .eql z31 (x6 21))), (qq a23 (.mv z32))])
def b15_9 : CC := (.seq b15_7 (.cond z23 .skip b15_8))
def b15_10 : CC := (.seq b15_6 (.cond z23 .skip b15_9))
def b15_11 : CC := (.reg [(qq a33 (.fa 1 z1)), (qq a34 (.ld1 z33)), (qq a2 (.mv z34)), (qq a3 (.mv xT))])
def b15_12 : CC := (.cond z23 (.seq b15_11 .ret) .skip)
def b15_13 : CC := (.cond z16 (.seq b15_5 .ret) (.seq b15_10 b15_12))
def b15_14 : CC := (.cond z4 (.seq b15_3 .ret) (.seq b15_4 b15_13))
def b15_15 : CC := (.reg [(qq a2 (.mv (x6 0))), (qq a3 (.mv xF))])
def b15_16 : CC := (.seq b15_1 (.seq (.block 0 (.seq b15_2 b15_14)) (.seq b15_15 .ret)))
def c15 : CF := .mk 6 [.t a2, .t a3] b15_16
def b14_1 : CC := (.reg [(aa a2 (.bx 24 5 z0)), (qq a4 (.mv (.c (.i .u32 0)))), (qq a5 (.mv xF))])
def b14_2 : CC := (.reg [(qq a6 (.fa 0 z2)), (qq a7 (.ld1 z6))])
def b14_3 : CC := (.reg [(qq a9 (.bi .eql z7 (x6 23))), (qq a8 (.mv z9))])
def b14_4 : CC := (.reg [(qq a10 (.bi .eql z7 (x6 25))), (qq a8 (.mv z10))])
def b14_5 : CC := (.reg [(qq a11 (.bi .eql z7 (x6 26))), (qq a8 (.mv z11))])
def b14_6 : CC := (.reg [(qq a12 (.bi .eql z7 (x6 27))), (qq a8 (.mv z12))])
def b14_7 : CC := (.reg [(qq a13 (.bi .eql z7 (x6 28))), (qq a8 (.mv z13))])
def b14_8 : CC := (.cond z8 .skip (.seq b14_6 (.cond z8 .skip b14_7)))
def b14_9 : CC := (.seq b14_4 (.cond z8 .skip (.seq b14_5 b14_8)))
def b14_10 : CC := (.reg [(qq a14 (.ldn 5 z2)), (ee a15 (.call 21 [z14]))])
def b14_11 : CC := (.reg [(qq a16 (.mv z1)), (qq a17 (.fa 4 z2)), (qq a18 (.ld1 z17)), (qq a19 (.ci .u32 z18)), (qq a20 (.bi .shl z19 (.c (.i .u64 2)))), (qq a21 (.bi .add z16 z20)), (qq a4 (.mv z21)), (qq a5 (.mv xT))])
def b14_12 : CC := (.cond z15 (.seq b14_11 .ret) .skip)
def b14_13 : CC := (.seq (.seq b14_3 (.cond z8 .skip b14_9)) (.cond z8 (.seq b14_10 b14_12) .skip))
def b14_14 : CC := (.reg [(qq a4 (.mv (.c (.i .u32 0)))), (qq a5 (.mv xF))])
def b14_15 : CC := (.seq b14_1 (.seq (.seq b14_2 (.block 0 b14_13)) (.seq b14_14 .ret)))
def c14 : CF := .mk 5 [.t a4, .t a5] b14_15
def b11_1 : CC := (.seq (.reg [(qq a0 (.mv (.c (.f 31 [] []))))]) .ret)
def c11 : CF := .mk 1 [.t a0] (.seq (.reg [(qq a0 (.mv (.c .f0)))]) b11_1)
theorem e11 : argTr 1 [] = sk1 := rfl
def B11 := ai @e11 (wu b11_1.eq_1)
def b31_1 : CC := (.reg [(ee a4 (.call 32 [])), (qq a5 (.mv (x6 0)))])
def b31_2 : CC := (.reg [(qq a6 (.bi .lss z5 (x6 29)))])
def b31_3 : CC := (.reg [(qq a7 (.mv z5)), (qq a8 (.ixA1 29 1 z4 z5)), (qq a2 (.mv z7)), (qq a3 (.mv z8))])
def b31_4 : CC := (.reg [(qq a9 (.mv z2)), (qq a10 (.bi .gtr z9 (x6 0))), (qq a11 (.mv z10)), ⟨(some a12), .q (.mv z0), (some (a11, true))⟩, ⟨(some a13), .q (.mv z2), (some (a11, true))⟩, ⟨(some a14), .q (.mv z3), (some (a11, true))⟩, ⟨(some a15), .e (.cv z12 [z13, z14]), (some (a11, true))⟩, ⟨(some a16), .q (.un .not z15), (some (a11, true))⟩, (qq a17 (.pk z11 z16 xF))])
def b31_5 : CC := (.seq b31_3 (.seq b31_4 (.cond z17 .ret .skip)))
def b31_6 : CC := (.reg [(qq a18 (.bi .add z5 (x6 1))), (qq a5 (.mv z18))])
def b31_7 : CC := (.seq (.cond z6 .skip (.exit 0)) (.seq (.block 1 b31_5) b31_6))
def c31 : CF := .mk 5 [] (.seq b31_1 (.block 0 (.loop (.seq b31_2 b31_7))))
theorem e31 (v0 : V) : argTr 5 [v0] = (.n sk4 (some v0) sk4) := rfl
def B31 := ai @e31 (ai (wu b31_1.eq_1) (ai (wu b31_2.eq_1) (ai (wu b31_3.eq_1) (ai (wu b31_4.eq_1) (ai (wu b31_5.eq_1) (ai (wu b31_6.eq_1) (wu b31_7.eq_1)))))))
def nameL : List (List UInt8) := [[], [110, 111, 112], [115, 116, 111, 112], [99, 97, 108, 108], [98, 97, 99, 107], [99, 111, 110, 115, 116], [104, 105, 103, 104], [99, 111, 112, 121], [97, 100, 100], [115, 117, 98], [109, 117, 108], [100, 105, 118], [109, 111, 100], [97, 110, 100], [111, 114], [120, 111, 114], [115, 104, 108], [115, 104, 114], [97, 100, 100, 105], [108, 111, 97, 100], [115, 116, 111, 114, 101], [108, 111, 97, 100, 98], [115, 116, 111, 114, 101, 98], [106, 117, 109, 112], [106, 117, 109, 112, 114], [108, 105, 110, 107], [98, 101, 113], [98, 110, 101], [98, 108, 116]]
theorem names_eq : names53 = nameL.map sV := rfl
theorem nameL_len : nameL.length = 29 := rfl
theorem names_get {k : Nat} (h : k < 29) : names53[k]? = some (sV (nameL[k]'h)) := by
 rw [names_eq, List.getElem?_map, List.getElem?_eq_getElem (show k < nameL.length from h)]; rfl
theorem t11 (Φ : Nat → Option CF) (h : Φ 11 = some c11) (ct : Nat) : To Φ 11 [] ct (.f 31 [] []) := by
 refine to_walk h ?_
 simp only [WX, B11]
def h11 : List V → Option V
 | [] => some (.f 31 [] [])
 | _ => none
theorem h11_eq : h11 [] = some (.f 31 [] []) := rfl
theorem r31 (Φ : Nat → Option CF) (h : Φ 31 = some c31) (h32 : Φ 32 = some (.orc (pureO h32))) {F : RO} {M : Mem} {c y : Nat} {I : Nat → Mem → Nat → Prop} {J : Mem → Nat → Prop} (h0 : I 1 M c)
  (hY : ∀ k M c, (hk : k < 29) → 1 ≤ k → I k M c → RTo (callV (K Φ none 31 F) (.y y) [.i .i64 (k : Int), sV (nameL[k]'hk)] M c) fun r M' c' => (r = .b true ∧ I (k + 1) M' c') ∨ (r = .b false ∧ J M' c')) :
  Calls Φ F 31 [.y y] M c fun _ M' c' => I 29 M' c' ∨ J M' c' := by
 refine calls_walk h ?_
 simp only [WX, B31, h32, h32_eq]
 obtain ⟨Iv, hIv⟩ : ∃ Iv : Nat → St → Prop, ∀ n s, Iv n s ↔ (∃ (k : Nat) (M1 : Mem) (c1 : Nat) (u : List (Option V)), n = 29 - k ∧ k ≤ 29 ∧ s = .mk ((.n (.n (uv7 u 15 7 23 3 19 11 27) (uO u 1) (.n (uv3 u 17 9 25) (some (.i .i64 (k : Int))) (uv3 u 21 13 29))) (some (.y y)) (.n (.n (uv3 u 16 8 24) (some (.g names53)) (uv3 u 20 12 28)) (uO u 2) (uv7 u 18 10 26 6 22 14 30)))) [] M1 c1 ∧ I (max k 1) M1 c1) := ⟨fun n s => _, fun _ _ => Iff.rfl⟩
 refine wp_while Iv ?_ 29 _ ((hIv _ _).2 ⟨0, _, _, [none, _, _, _, none, none, _, _, _, _, _, _, _, _, _, _, _, _, _, _, _, _, _, _, _, _, _, _, _, _, _], rfl, Nat.zero_le _, rfl, h0⟩)
 intro n s hIs
 obtain ⟨k, M1, c1, u, rfl, hk, rfl, hi⟩ := (hIv _ _).1 hIs
 clear hIs
 have q8 : biV .add (.i .i64 (k : Int)) (.i .i64 1) = some (.i .i64 ((k + 1 : Nat) : Int)) := by rw [i64_add _ _ (by omega) (by omega)]; simp
 by_cases hlt : k < 29
 · have hd : decide ((k : Int) < 29) = true := decide_eq_true (by omega)
   have hix : ixA1V 29 1 (.g names53) (.i .i64 (k : Int)) = some (sV (nameL[k]'hlt)) := by
    rw [ixA1_g, if_pos (by omega)]
    exact names_get hlt
   by_cases h1 : 1 ≤ k
   · have hd1 : decide (0 < (k : Int)) = true := decide_eq_true (by omega)
     rw [show max k 1 = k by omega] at hi
     simp only [WX, B31, hd, hix, hd1]
     refine putE_to ((hY k M1 c1 hlt h1 hi).mono ?_)
     rintro r M3 c3 (⟨rfl, hi3⟩ | ⟨rfl, hj⟩)
     · simp only [WX, B31, q8]
       exact ⟨29 - (k + 1), by omega, (hIv _ _).2 ⟨k + 1, M3, c3, [none, _, _, _, none, none, _, _, _, _, _, _, _, _, _, _, _, _, _, _, _, _, _, _, _, _, _, _, _, _, _], rfl, by omega, rfl, by rw [show max (k + 1) 1 = k + 1 by omega]; exact hi3⟩⟩
     · simp only [WX]
       exact .inr hj
   · obtain rfl : k = 0 := by omega
     have hd1 : decide (0 < ((0 : Nat) : Int)) = false := rfl
     simp only [WX, B31, hd, hix, q8, hd1]
     exact ⟨28, by omega, (hIv _ _).2 ⟨1, M1, c1, [none, _, _, _, none, none, _, _, _, _, _, _, _, _, _, _, _, _, _, _, _, _, _, _, _, _, _, _, _, _, _], rfl, by omega, rfl, hi⟩⟩
 · have hd : decide ((k : Int) < 29) = false := decide_eq_false (by omega)
   obtain rfl : k = 29 := by omega
   simp only [WX, B31, hd]
   exact .inl hi
def b30_1 : CC := (.reg [(aa a1 (.bx 9 1 z0)), (aa a2 (.al 22 [(.i .i64 0)])), (aa a3 (.al 4 [(.b false)]))])
def b30_2 : CC := (.reg [(qq a4 (.mv z7))])
def b30_3 : CC := (.reg [(qq a5 (.mv z8))])
def b30_4 : CC := (.reg [(qq a9 (.mv z5)), (qq a10 (.ld1 z1)), (qq a11 (.bi .eql z9 z10))])
def b30_5 : CC := (.reg [(qq a12 (.mv z4)), (ez (.st 1 z2 z12)), (ez (.st 1 z3 xT))])
def b30_6 : CC := (.seq b30_4 (.cond z11 (.seq b30_5 .ret) .skip))
def b30_7 : CC := (.rf z6 [a7, a8] (.seq b30_2 b30_3) (.block 1 b30_6))
def b30_8 : CC := (.seq (.reg [(ee a6 (.call 11 []))]) (.block 0 b30_7))
def b30_9 : CC := (.reg [(ez (.st 1 z2 (x6 0))), (ez (.st 1 z3 xF))])
def c30 : CF := .mk 4 [.c1 a2, .c1 a3] (.seq b30_1 (.seq b30_8 (.seq b30_9 .ret)))
theorem e30 (v0 : V) : argTr 4 [v0] = (.n sk3 (some v0) sk3) := rfl
def B30 := ai @e30 (ai (wu b30_1.eq_1) (ai (wu b30_2.eq_1) (ai (wu b30_3.eq_1) (ai (wu b30_4.eq_1) (ai (wu b30_5.eq_1) (ai (wu b30_6.eq_1) (ai (wu b30_7.eq_1) (ai (wu b30_8.eq_1) (wu b30_9.eq_1)))))))))
def IsN (s : List UInt8) (k : Nat) : Prop := 1 ≤ k ∧ nameL[k]? = some s
theorem isN_uniq {s : List UInt8} {j k : Nat} (h : IsN s j) (h' : IsN s k) : j = k := by
 obtain ⟨_, h1⟩ := h
 obtain ⟨_, h2⟩ := h'
 obtain ⟨a1, e1⟩ := List.getElem?_eq_some_iff.1 h1
 obtain ⟨a2, e2⟩ := List.getElem?_eq_some_iff.1 h2
 have key : ∀ a b, a < 29 → b < 29 → nameL[a]? = nameL[b]? → a = b := by
  have : ∀ a, a < 29 → ∀ b, b < 29 → nameL[a]? = nameL[b]? → a = b := by decide +kernel
  exact fun a b ha hb => this a ha b hb
 exact key j k a1 a2 (h1.trans h2.symm)
def FoundN (s : List UInt8) (n : Int) (b : Bool) : Prop := (∃ k, IsN s k ∧ n = (k : Int) ∧ b = true) ∨ ((∀ k, ¬ IsN s k) ∧ n = 0 ∧ b = false)
theorem r30 (Φ : Nat → Option CF) (h : Φ 30 = some c30) (h11 : Φ 11 = some (.orc (pureO h11))) (h32 : Φ 32 = some (.orc (pureO h32))) (h31 : Φ 31 = some c31) {F : RO} {M : Mem} {c : Nat} (s : List UInt8) (ok : Okm F M c) :
  Calls Φ F 30 [sV s] M c fun r M' c' => (∃ n b, r = .t [.i .i64 n, .b b] ∧ FoundN s n b) ∧ Gr c M c' M' := by
 refine calls_walk h ?_
 have f1 : flatten (sV s) = [sV s] := rfl
 have f2 : isOne (sV s) = true := rfl
 simp only [WX, Nat.reduceAdd, B30, f1, f2, h11, h11_eq]
 refine wp_rf0 ?_
 simp only [WX, Nat.reduceAdd, callI_f]
 obtain ⟨BL, hBL⟩ : ∃ BL : LS → Pend → Blk, BL = fun st p => Blk.loop st p 30 ((.n (.n (.n sk1 (some (.p (c + 2) 0)) sk1) (some (.p c 0)) sk2) (some (sV s)) (.n sk2 (some (.p (c + 1) 0)) (.n sk1 (some (.f 31 [] [])) sk1)))) [(.l (.l (.l .h))), (.r (.l (.l .h)))] (b30_2.seq b30_3) (.block 1 b30_6) (c + 3) := ⟨_, rfl⟩
 obtain ⟨Ik, hIk⟩ : ∃ I : Nat → Mem → Nat → Prop, ∀ k M' cc, I k M' cc ↔ (Gr c M cc M' ∧ c + 5 ≤ cc ∧ M'.get c = some (rowB 9 [sV s]) ∧ M'.get (c + 1) = some (rowB 22 [.i .i64 0]) ∧ M'.get (c + 2) = some (rowB 4 [.b false]) ∧ M'.get (c + 3) = some (.defs false) ∧ M'.get (c + 4) = some (BL .ready .none) ∧ ∀ j, j < k → ¬ IsN s j) := ⟨fun k M' cc => _, fun _ _ _ => Iff.rfl⟩
 obtain ⟨J, hJ⟩ : ∃ J : Mem → Nat → Prop, ∀ M' cc, J M' cc ↔ (∃ k, IsN s k ∧ Gr c M cc M' ∧ c + 5 ≤ cc ∧ M'.get (c + 1) = some (rowB 22 [.i .i64 (k : Int)]) ∧ M'.get (c + 2) = some (rowB 4 [.b true]) ∧ M'.get (c + 3) = some (.defs false) ∧ M'.get (c + 4) = some (BL .done .ret)) := ⟨fun M' cc => _, fun _ _ => Iff.rfl⟩
 refine (r31 Φ h31 h32 (y := c + 4) (I := Ik) (J := J) ?_ ?_).mono ?_
 · refine (hIk _ _ _).2 ⟨(((((Gr.refl ok).set (c2 := c + 1) c _ (Nat.le_refl _) (by omega) (by omega)).set (c2 := c + 2) (c + 1) _ (by omega) (by omega) (by omega)).set (c2 := c + 3) (c + 2) _ (by omega) (by omega) (by omega)).set (c2 := c + 4) (c + 3) _ (by omega) (by omega) (by omega)).set (c + 4) _ (by omega) (by omega) (by omega), by omega, ?_, ?_, ?_, ?_, ?_, fun j hj hn => by have := hn.1; omega⟩
   · rw [get_ne _ _ (by omega), get_ne _ _ (by omega), get_ne _ _ (by omega), get_ne _ _ (by omega)]; exact get_same _ _ _
   · rw [get_ne _ _ (by omega), get_ne _ _ (by omega), get_ne _ _ (by omega)]; exact get_same _ _ _
   · rw [get_ne _ _ (by omega), get_ne _ _ (by omega)]; exact get_same _ _ _
   · rw [get_ne _ _ (by omega)]; exact get_same _ _ _
   · rw [hBL]; exact get_same _ _ _
 · intro k M2 cc hk hk1 hi
   obtain ⟨a1, a2, a3, a4, a5, a6, a7, a8⟩ := (hIk _ _ _).1 hi
   have hl5 := a7
   rw [hBL] at hl5
   refine yield_of hl5 (setParams_two _ _ _ _ _) ?_
   simp only [WX, B30]
   refine asgQ_of hl5 ?_
   rw [show Blk.loop LS.busy _ _ _ _ _ _ _ = BL .busy .none by rw [hBL]]
   have gMB := a1.set (c2 := cc) (c + 4) (BL .busy .none) (by omega) (by omega) (Nat.le_refl _)
   have m3 : (M2.set (c + 4) (BL .busy .none)).get c = some (rowB 9 [sV s]) := (get_ne _ _ (by omega)).trans a3
   have m4 : (M2.set (c + 4) (BL .busy .none)).get (c + 1) = some (rowB 22 [.i .i64 0]) := (get_ne _ _ (by omega)).trans a4
   have m5 : (M2.set (c + 4) (BL .busy .none)).get (c + 2) = some (rowB 4 [.b false]) := (get_ne _ _ (by omega)).trans a5
   have m6 : (M2.set (c + 4) (BL .busy .none)).get (c + 3) = some (.defs false) := (get_ne _ _ (by omega)).trans a6
   have m7 : (M2.set (c + 4) (BL .busy .none)).get (c + 4) = some (BL .busy .none) := get_same _ _ _
   generalize M2.set (c + 4) (BL .busy .none) = MB at gMB m3 m4 m5 m6 m7 ⊢
   have l3 : load1 F MB c 0 = some (sV s) := load_row m3 0
   by_cases he : nameL[k]'hk = s
   · have d1 : decide (nameL[k]'hk = s) = true := decide_eq_true he
     have hs1 := store_row m4 0 [.i .i64 (k : Int)] (by simp) rfl
     have m5' : (MB.set (c + 1) (rowB 22 [.i .i64 (k : Int)])).get (c + 2) = some (rowB 4 [.b false]) := (get_ne _ _ (by omega)).trans m5
     have hs2 := store_row m5' 0 [.b true] (by simp) rfl
     simp only [WX, B30, l3, d1, hs1, hs2]
     have hly : ((MB.set (c + 1) (rowB 22 [V.i .i64 (k : Int)])).set (c + 2) (rowB 4 [V.b true])).get (c + 4) = some (BL .busy .none) := by rw [get_ne _ _ (by omega), get_ne _ _ (by omega)]; exact m7
     rw [hBL] at hly
     refine yq_ret hly ?_
     refine Or.inr ⟨rfl, (hJ _ _).2 ⟨k, ⟨hk1, ?_⟩, ((gMB.set (c + 1) _ (by omega) (by omega) (Nat.le_refl _)).set (c + 2) _ (by omega) (by omega) (Nat.le_refl _)).set (c + 4) _ (by omega) (by omega) (Nat.le_refl _), a2, ?_, ?_, ?_, ?_⟩⟩
     · exact (List.getElem?_eq_getElem (show k < nameL.length from hk)).trans (congrArg some he)
     · rw [get_ne _ _ (by omega), get_ne _ _ (by omega)]; exact get_same _ _ _
     · rw [get_ne _ _ (by omega)]; exact get_same _ _ _
     · rw [get_ne _ _ (by omega), get_ne _ _ (by omega), get_ne _ _ (by omega)]; exact m6
     · rw [hBL]; exact get_same _ _ _
   · have d1 : decide (nameL[k]'hk = s) = false := decide_eq_false he
     simp only [WX, B30, l3, d1]
     have hly := m7
     rw [hBL] at hly
     refine yq_nrm hly ?_
     refine Or.inl ⟨rfl, (hIk _ _ _).2 ⟨gMB.set (c + 4) _ (by omega) (by omega) (Nat.le_refl _), a2, ?_, ?_, ?_, ?_, ?_, fun j hj hn => ?_⟩⟩
     · rw [get_ne _ _ (by omega)]; exact m3
     · rw [get_ne _ _ (by omega)]; exact m4
     · rw [get_ne _ _ (by omega)]; exact m5
     · rw [get_ne _ _ (by omega)]; exact m6
     · rw [hBL]; exact get_same _ _ _
     · by_cases hjk : j = k
       · subst hjk
         have := hn.2
         rw [List.getElem?_eq_getElem (show j < nameL.length from hk)] at this
         exact he (Option.some.inj this)
       · exact a8 j (by omega) hn
 · rintro v' M2 cc (hi | hj)
   · obtain ⟨a1, a2, a3, a4, a5, a6, a7, a8⟩ := (hIk _ _ _).1 hi
     have hl5 := a7
     rw [hBL] at hl5
     refine ⟨_, _, _, _, _, _, _, _, hl5, (by intro h; cases h), ?_⟩
     rw [show Blk.loop LS.exhausted _ _ _ _ _ _ _ = BL .exhausted .none by rw [hBL]]
     have gMB := a1.set (c2 := cc) (c + 4) (BL .exhausted .none) (by omega) (by omega) (Nat.le_refl _)
     have m4 : (M2.set (c + 4) (BL .exhausted .none)).get (c + 1) = some (rowB 22 [.i .i64 0]) := (get_ne _ _ (by omega)).trans a4
     have m5 : (M2.set (c + 4) (BL .exhausted .none)).get (c + 2) = some (rowB 4 [.b false]) := (get_ne _ _ (by omega)).trans a5
     have m6 : (M2.set (c + 4) (BL .exhausted .none)).get (c + 3) = some (.defs false) := (get_ne _ _ (by omega)).trans a6
     generalize M2.set (c + 4) (BL .exhausted .none) = MB at gMB m4 m5 m6 ⊢
     have hs1 := store_row m4 0 [.i .i64 0] (by simp) rfl
     have m5' : (MB.set (c + 1) (rowB 22 [.i .i64 0])).get (c + 2) = some (rowB 4 [.b false]) := (get_ne _ _ (by omega)).trans m5
     have hs2 := store_row m5' 0 [.b false] (by simp) rfl
     have ht1 : takeDefs [c + 3] ((MB.set (c + 1) (rowB 22 [V.i .i64 0])).set (c + 2) (rowB 4 [V.b false])) = some (((MB.set (c + 1) (rowB 22 [V.i .i64 0])).set (c + 2) (rowB 4 [V.b false])).set (c + 3) (.defs true)) := by
      rw [takeDefs_one (by rw [get_ne _ _ (by omega), get_ne _ _ (by omega)]; exact m6)]; rfl
     simp only [WX, Nat.reduceBEq, B30, pendEx_none, hs1, hs2, endQ_ret1, ht1, endD_some]
     refine ⟨⟨0, false, rfl, .inr ⟨fun j hj => ?_, rfl, rfl⟩⟩, ((gMB.set (c + 1) _ (by omega) (by omega) (Nat.le_refl _)).set (c + 2) _ (by omega) (by omega) (Nat.le_refl _)).set (c + 3) _ (by omega) (by omega) (Nat.le_refl _)⟩
     by_cases hj29 : j < 29
     · exact a8 j hj29 hj
     · have := hj.2
       rw [List.getElem?_eq_none (show nameL.length ≤ j by rw [nameL_len]; omega)] at this
       cases this
   · obtain ⟨k, hk, a1, a2, a4, a5, a6, a7⟩ := (hJ _ _).1 hj
     have hl5 := a7
     rw [hBL] at hl5
     refine ⟨_, _, _, _, _, _, _, _, hl5, (by intro h; cases h), ?_⟩
     rw [show Blk.loop LS.exhausted _ _ _ _ _ _ _ = BL .exhausted .ret by rw [hBL]]
     have gMB := a1.set (c2 := cc) (c + 4) (BL .exhausted .ret) (by omega) (by omega) (Nat.le_refl _)
     have m4 : (M2.set (c + 4) (BL .exhausted .ret)).get (c + 1) = some (rowB 22 [.i .i64 (k : Int)]) := (get_ne _ _ (by omega)).trans a4
     have m5 : (M2.set (c + 4) (BL .exhausted .ret)).get (c + 2) = some (rowB 4 [.b true]) := (get_ne _ _ (by omega)).trans a5
     have m6 : (M2.set (c + 4) (BL .exhausted .ret)).get (c + 3) = some (.defs false) := (get_ne _ _ (by omega)).trans a6
     generalize M2.set (c + 4) (BL .exhausted .ret) = MB at gMB m4 m5 m6 ⊢
     have ht1 : takeDefs [c + 3] MB = some (MB.set (c + 3) (.defs true)) := by
      rw [takeDefs_one m6]; rfl
     have l4 : load1 F (MB.set (c + 3) (.defs true)) (c + 1) 0 = some (.i .i64 (k : Int)) := load_row ((get_ne _ _ (by omega)).trans m4) 0
     have l1005 : load1 F (MB.set (c + 3) (.defs true)) (c + 2) 0 = some (.b true) := load_row ((get_ne _ _ (by omega)).trans m5) 0
     simp only [WX, pendEx_ret, endQ_ret1, ht1, endD_some, l4, l1005]
     exact ⟨⟨k, true, rfl, .inl ⟨k, hk, rfl, rfl⟩⟩, gMB.set (c + 3) _ (by omega) (by omega) (Nat.le_refl _)⟩
def b73_1 : CC := (.reg [(qq a4 (.mv (x6 0)))])
def b73_2 : CC := (.reg [(qq a5 (.mv z0)), (qq a6 (.mv z1)), (qq a7 (.xib z5 z6)), (qq a4 (.mv z7))])
def c73 : CF := .mk 4 [.t a4] (.seq b73_1 (.seq b73_2 .ret))
theorem e73 (v0 v1 : V) : argTr 4 [v0, v1] = (.n (.n sk2 (some v1) sk2) (some v0) sk3) := rfl
def B73 := ai @e73 (ai (wu b73_1.eq_1) (wu b73_2.eq_1))
def b49_1 : CC := (.reg [(qq a4 (.mv (x6 0)))])
def b49_2 : CC := (.reg [(qq a14 (.mv z1)), (qq a15 (.ln .str z14)), (qq a5 (.mv z15))])
def b49_3 : CC := (.reg [(qq a17 (.mv z5)), (qq a18 (.bi .eql z17 (x6 0))), (qq a19 (.mv z18)), ⟨(some a20), .q (.mv z1), (some (a19, false))⟩, ⟨(some a21), .q (.mv z0), (some (a19, false))⟩, ⟨(some a22), .q (.bi .eql z20 z21), (some (a19, false))⟩, (qq a23 (.pk z19 xT z22)), (qq a16 (.mv z23))])
def b49_4 : CC := (.reg [(qq a4 (.mv (x6 0)))])
def b49_5 : CC := (.reg [(qq a25 (.mv z5)), (qq a26 (.bi .eql z25 (x6 1))), (qq a24 (.mv z26))])
def b49_6 : CC := (.reg [(qq a27 (.mv z0)), (qq a28 (.mv z1)), (qq a29 (.ixS z28 (x6 0))), (ee a30 (.call 73 [z27, z29])), (qq a4 (.mv z30))])
def b49_7 : CC := (.reg [(qq a32 (.mv z5)), (qq a33 (.mv z0)), (qq a34 (.ln .str z33)), (qq a35 (.bi .geq z32 z34)), (qq a31 (.mv z35))])
def b49_8 : CC := (.reg [(qq a4 (.mv (x6 (-1))))])
def b49_9 : CC := (.reg [(qq a37 (.mv z5)), (qq a38 (.ld1 (.c (.p 0 0)))), (qq a39 (.bi .leq z37 z38)), (qq a40 (.mv z39)), ⟨(some a41), .q (.mv z0), (some (a40, true))⟩, ⟨(some a42), .q (.ln .str z41), (some (a40, true))⟩, ⟨(some a43), .q (.bi .leq z42 (x6 64)), (some (a40, true))⟩, (qq a44 (.pk z40 z43 xF)), (qq a36 (.mv z44))])
def b49_10 : CC := (.reg [(qq a45 (.mv z0)), (qq a46 (.mv z1)), (qq a47 (.bad)), (qq a4 (.mv z47))])
def b49_11 : CC := (.cond z36 (.seq b49_10 .ret) .skip)
def b49_12 : CC := (.cond z31 (.seq b49_8 .ret) (.seq b49_9 b49_11))
def b49_13 : CC := (.cond z24 (.seq b49_6 .ret) (.seq b49_7 b49_12))
def b49_14 : CC := (.cond z16 (.seq b49_4 .ret) (.seq b49_5 b49_13))
def b49_15 : CC := (.reg [(qq a48 (.mv z1)), (qq a49 (.ixS z48 (x6 0))), (qq a6 (.mv z49))])
def b49_16 : CC := (.reg [(qq a50 (.mv z1)), (qq a51 (.ixS z50 (x6 1))), (qq a7 (.mv z51))])
def b49_17 : CC := (.reg [(qq a8 (.mv (x6 0)))])
def b49_18 : CC := (.reg [(qq a52 (.mv z0)), (qq a53 (.ln .str z52)), (qq a54 (.mv z5)), (qq a55 (.bi .sub z53 z54)), (qq a56 (.bi .add z55 (x6 1))), (qq a9 (.mv z56))])
def b49_19 : CC := (.reg [(qq a10 (.mv (x6 0)))])
def b49_20 : CC := (.reg [(qq a57 (.mv z8)), (qq a58 (.mv z9)), (qq a59 (.bi .lss z57 z58))])
def b49_21 : CC := (.seq b49_20 (.cond z59 .skip (.exit 1)))
def b49_22 : CC := (.reg [(qq a60 (.mv z0)), (qq a61 (.mv z8)), (qq a62 (.ixS z60 z61)), (qq a63 (.mv z6)), (qq a64 (.bi .neq z62 z63))])
def b49_23 : CC := (.reg [(qq a65 (.mv z0)), (qq a66 (.mv z8)), (qq a67 (.bi .add z66 (x6 1))), (qq a68 (.mv z9)), (qq a69 (.slS z65 (some z67) (some z68))), (qq a70 (.mv z6)), (ee a71 (.call 73 [z69, z70])), (qq a11 (.mv z71))])
def b49_24 : CC := (.reg [(qq a72 (.mv z11)), (qq a73 (.bi .lss z72 (x6 0)))])
def b49_25 : CC := (.reg [(qq a4 (.mv (x6 (-1))))])
def b49_26 : CC := (.cond z73 (.seq b49_25 .ret) .skip)
def b49_27 : CC := (.reg [(qq a74 (.mv z8)), (qq a75 (.mv z11)), (qq a76 (.bi .add z75 (x6 1))), (qq a77 (.bi .add z74 z76)), (qq a8 (.mv z77))])
def b49_28 : CC := (.cond z64 (.seq b49_23 (.seq (.seq b49_24 b49_26) b49_27)) .skip)
def b49_29 : CC := (.reg [(qq a78 (.mv z0)), (qq a79 (.mv z8)), (qq a80 (.bi .add z79 (x6 1))), (qq a81 (.ixS z78 z80)), (qq a82 (.mv z7)), (qq a83 (.bi .eql z81 z82)), (qq a84 (.mv z83)), ⟨(some a85), .q (.mv z0), (some (a84, true))⟩, ⟨(some a86), .q (.mv z8), (some (a84, true))⟩, ⟨(some a87), .q (.mv z8), (some (a84, true))⟩, ⟨(some a88), .q (.mv z5), (some (a84, true))⟩, ⟨(some a89), .q (.bi .add z87 z88), (some (a84, true))⟩, ⟨(some a90), .q (.slS z85 (some z86) (some z89)), (some (a84, true))⟩, ⟨(some a91), .q (.mv z1), (some (a84, true))⟩, ⟨(some a92), .q (.bi .eql z90 z91), (some (a84, true))⟩, (qq a93 (.pk z84 z92 xF))])
def b49_30 : CC := (.reg [(qq a94 (.mv z8)), (qq a4 (.mv z94))])
def b49_31 : CC := (.cond z93 (.seq b49_30 .ret) .skip)
def b49_32 : CC := (.reg [(qq a95 (.mv z8)), (qq a96 (.bi .add z95 (x6 1))), (qq a8 (.mv z96))])
def b49_33 : CC := (.reg [(qq a97 (.mv z10)), (qq a98 (.bi .add z97 (x6 1))), (qq a10 (.mv z98))])
def b49_34 : CC := (.reg [(qq a99 (.mv z5)), (qq a100 (.ld1 (.c (.p 0 0)))), (qq a101 (.bi .leq z99 z100)), (qq a102 (.mv z101)), ⟨(some a103), .q (.mv z10), (some (a102, true))⟩, ⟨(some a104), .q (.mv z8), (some (a102, true))⟩, ⟨(some a105), .e (.call 75 [z104]), (some (a102, true))⟩, ⟨(some a106), .q (.bi .gtr z103 z105), (some (a102, true))⟩, (qq a107 (.pk z102 z106 xF))])
def b49_35 : CC := (.reg [(qq a108 (.mv z0)), (qq a109 (.mv z8)), (qq a110 (.slS z108 (some z109) none)), (qq a111 (.mv z1)), (qq a112 (.bad)), (qq a12 (.mv z112))])
def b49_36 : CC := (.reg [(qq a113 (.mv z12)), (qq a114 (.bi .geq z113 (x6 0)))])
def b49_37 : CC := (.reg [(qq a115 (.mv z12)), (qq a116 (.mv z8)), (qq a117 (.bi .add z115 z116)), (qq a4 (.mv z117))])
def b49_38 : CC := (.cond z114 (.seq b49_37 .ret) .skip)
def b49_39 : CC := (.reg [(qq a4 (.mv (x6 (-1))))])
def b49_40 : CC := (.seq b49_35 (.seq (.seq b49_36 b49_38) (.seq b49_39 .ret)))
def b49_41 : CC := (.reg [(qq a118 (.mv z5)), (qq a119 (.ld1 (.c (.p 0 0)))), (qq a120 (.bi .gtr z118 z119)), (qq a121 (.mv z120)), ⟨(some a122), .q (.mv z10), (some (a121, true))⟩, ⟨(some a123), .q (.mv z8), (some (a121, true))⟩, ⟨(some a124), .q (.bi .shr z123 (.c (.i .u64 4))), (some (a121, true))⟩, ⟨(some a125), .q (.bi .add (x6 4) z124), (some (a121, true))⟩, ⟨(some a126), .q (.bi .geq z122 z125), (some (a121, true))⟩, (qq a127 (.pk z121 z126 xF)), (qq a128 (.mv z127)), ⟨(some a129), .q (.mv z8), (some (a128, true))⟩, ⟨(some a130), .q (.mv z9), (some (a128, true))⟩, ⟨(some a131), .q (.bi .lss z129 z130), (some (a128, true))⟩, (qq a132 (.pk z128 z131 xF))])
def b49_42 : CC := (.reg [(qq a133 (.mv z0)), (qq a134 (.mv z8)), (qq a135 (.slS z133 (some z134) none)), (qq a136 (.mv z1)), (ee a137 (.call 76 [z135, z136])), (qq a13 (.mv z137))])
def b49_43 : CC := (.reg [(qq a138 (.mv z13)), (qq a139 (.bi .lss z138 (x6 0)))])
def b49_44 : CC := (.reg [(qq a4 (.mv (x6 (-1))))])
def b49_45 : CC := (.cond z139 (.seq b49_44 .ret) .skip)
def b49_46 : CC := (.reg [(qq a140 (.mv z8)), (qq a141 (.mv z13)), (qq a142 (.bi .add z140 z141)), (qq a4 (.mv z142))])
def b49_47 : CC := (.seq b49_42 (.seq (.seq b49_43 b49_45) (.seq b49_46 .ret)))
def b49_48 : CC := (.cond z132 b49_47 .skip)
def b49_49 : CC := (.cond z107 b49_40 (.seq b49_41 b49_48))
def b49_50 : CC := (.seq (.seq b49_29 b49_31) (.seq b49_32 (.seq b49_33 (.seq b49_34 b49_49))))
def b49_51 : CC := (.loop (.seq b49_21 (.block 2 (.seq (.seq b49_22 b49_28) b49_50))))
def b49_52 : CC := (.reg [(qq a4 (.mv (x6 (-1))))])
def b49_53 : CC := (.seq b49_18 (.seq b49_19 (.seq (.block 1 b49_51) (.seq b49_52 .ret))))
def b49_54 : CC := (.seq (.block 0 (.seq b49_3 b49_14)) (.seq b49_15 (.seq b49_16 (.seq b49_17 b49_53))))
def c49 : CF := .mk 8 [.t a4] (.seq b49_1 (.seq b49_2 b49_54))
theorem e49 (v0 v1 : V) : argTr 8 [v0, v1] = (.n (.n sk6 (some v1) sk6) (some v0) sk7) := rfl
def B49 := ai @e49 (ai (wu b49_1.eq_1) (ai (wu b49_2.eq_1) (ai (wu b49_3.eq_1) (ai (wu b49_4.eq_1) (ai (wu b49_5.eq_1) (ai (wu b49_6.eq_1) (ai (wu b49_7.eq_1) (ai (wu b49_8.eq_1) (ai (wu b49_9.eq_1) (ai (wu b49_10.eq_1) (ai (wu b49_11.eq_1) (ai (wu b49_12.eq_1) (ai (wu b49_13.eq_1) (ai (wu b49_14.eq_1) (ai (wu b49_15.eq_1) (ai (wu b49_16.eq_1) (ai (wu b49_17.eq_1) (ai (wu b49_18.eq_1) (ai (wu b49_19.eq_1) (ai (wu b49_20.eq_1) (ai (wu b49_21.eq_1) (ai (wu b49_22.eq_1) (ai (wu b49_23.eq_1) (ai (wu b49_24.eq_1) (ai (wu b49_25.eq_1) (ai (wu b49_26.eq_1) (ai (wu b49_27.eq_1) (ai (wu b49_28.eq_1) (ai (wu b49_29.eq_1) (ai (wu b49_30.eq_1) (ai (wu b49_31.eq_1) (ai (wu b49_32.eq_1) (ai (wu b49_33.eq_1) (ai (wu b49_34.eq_1) (ai (wu b49_35.eq_1) (ai (wu b49_36.eq_1) (ai (wu b49_37.eq_1) (ai (wu b49_38.eq_1) (ai (wu b49_39.eq_1) (ai (wu b49_40.eq_1) (ai (wu b49_41.eq_1) (ai (wu b49_42.eq_1) (ai (wu b49_43.eq_1) (ai (wu b49_44.eq_1) (ai (wu b49_45.eq_1) (ai (wu b49_46.eq_1) (ai (wu b49_47.eq_1) (ai (wu b49_48.eq_1) (ai (wu b49_49.eq_1) (ai (wu b49_50.eq_1) (ai (wu b49_51.eq_1) (ai (wu b49_52.eq_1) (ai (wu b49_53.eq_1) (wu b49_54.eq_1))))))))))))))))))))))))))))))))))))))))))))))))))))))
def b40_1 : CC := (.reg [(qq a4 (.mv (.c (.s 0 0)))), (qq a5 (.mv (.c (.s 0 0)))), (qq a6 (.mv xF))])
def b40_2 : CC := (.reg [(qq a8 (.mv z0)), (qq a9 (.mv z1)), (ee a10 (.call 49 [z8, z9])), (qq a7 (.mv z10))])
def b40_3 : CC := (.reg [(qq a11 (.mv z7)), (qq a12 (.bi .geq z11 (x6 0)))])
def b40_4 : CC := (.dreg 12 [(0, 0, (qq a13 (.mv z0))), (1, 0, (qq a14 (.mv z7))), (2, 3, (qq a15 (.slS z13 none (some z14)))), (3, 0, (qq a16 (.mv z0))), (4, 0, (qq a17 (.mv z7))), (5, 0, (qq a18 (.mv z1))), (6, 32, (qq a19 (.ln .str z18))), (7, 112, (qq a20 (.bi .add z17 z19))), (8, 248, (qq a21 (.slS z16 (some z20) none))), (9, 7, (qq a4 (.mv z15))), (10, 1023, (qq a5 (.mv z21))), (11, 2047, (qq a6 (.mv xT)))])
def b40_5 : CC := (.seq b40_3 (.cond z12 (.seq b40_4 .ret) .skip))
def b40_6 : CC := (.reg [(qq a22 (.mv z0)), (qq a4 (.mv z22)), (qq a5 (.mv (.c (.s 0 0)))), (qq a6 (.mv xF))])
def c40 : CF := .mk 5 [.t a4, .t a5, .t a6] (.seq b40_1 (.seq (.seq b40_2 b40_5) (.seq b40_6 .ret)))
theorem e40 (v0 v1 : V) : argTr 5 [v0, v1] = (.n (.n sk3 (some v1) sk3) (some v0) sk4) := rfl
def B40 := ai @e40 (ai (wu b40_1.eq_1) (ai (wu b40_2.eq_1) (ai (wu b40_3.eq_1) (ai (wu b40_4.eq_1) (ai (wu b40_5.eq_1) (wu b40_6.eq_1))))))
def b26_1 : CC := (.reg [(qq a4 (.mv (.c (.s 0 0)))), (qq a5 (.mv (.c (.s 0 0)))), (qq a6 (.mv xF))])
def b26_2 : CC := (.reg [(qq a7 (.mv z0)), (qq a8 (.mv z1)), (ee a9 (.call 40 [z7, z8])), (qq a10 (.ex 0 z9)), (qq a11 (.ex 1 z9)), (qq a12 (.ex 2 z9)), (qq a4 (.mv z10)), (qq a5 (.mv z11)), (qq a6 (.mv z12))])
def c26 : CF := .mk 4 [.t a4, .t a5, .t a6] (.seq b26_1 (.seq b26_2 .ret))
theorem e26 (v0 v1 : V) : argTr 4 [v0, v1] = (.n (.n sk2 (some v1) sk2) (some v0) sk3) := rfl
def B26 := ai @e26 (ai (wu b26_1.eq_1) (wu b26_2.eq_1))
def b55_1 : CC := (.reg [(qq a4 (.mv xF))])
def b55_2 : CC := (.reg [(qq a5 (.mv z0)), (qq a6 (.ln .str z5)), (qq a7 (.mv z1)), (qq a8 (.ln .str z7)), (qq a9 (.bi .geq z6 z8)), (qq a10 (.mv z9)), ⟨(some a11), .q (.mv z0), (some (a10, true))⟩, ⟨(some a12), .q (.mv z1), (some (a10, true))⟩, ⟨(some a13), .q (.ln .str z12), (some (a10, true))⟩, ⟨(some a14), .q (.slS z11 none (some z13)), (some (a10, true))⟩, ⟨(some a15), .q (.mv z1), (some (a10, true))⟩, ⟨(some a16), .q (.bi .eql z14 z15), (some (a10, true))⟩, (qq a17 (.pk z10 z16 xF)), (qq a4 (.mv z17))])
def c55 : CF := .mk 5 [.t a4] (.seq b55_1 (.seq b55_2 .ret))
theorem e55 (v0 v1 : V) : argTr 5 [v0, v1] = (.n (.n sk3 (some v1) sk3) (some v0) sk4) := rfl
def B55 := ai @e55 (ai (wu b55_1.eq_1) (wu b55_2.eq_1))
def b43_1 : CC := (.reg [(qq a4 (.mv (.c (.s 0 0))))])
def b43_2 : CC := (.reg [(qq a5 (.mv z0)), (qq a6 (.mv z1)), (ee a7 (.call 55 [z5, z6]))])
def b43_3 : CC := (.reg [(qq a8 (.mv z0)), (qq a9 (.mv z1)), (qq a10 (.ln .str z9)), (qq a11 (.slS z8 (some z10) none)), (qq a4 (.mv z11))])
def b43_4 : CC := (.seq b43_2 (.cond z7 (.seq b43_3 .ret) .skip))
def b43_5 : CC := (.reg [(qq a12 (.mv z0)), (qq a4 (.mv z12))])
def c43 : CF := .mk 4 [.t a4] (.seq b43_1 (.seq b43_4 (.seq b43_5 .ret)))
theorem e43 (v0 v1 : V) : argTr 4 [v0, v1] = (.n (.n sk2 (some v1) sk2) (some v0) sk3) := rfl
def B43 := ai @e43 (ai (wu b43_1.eq_1) (ai (wu b43_2.eq_1) (ai (wu b43_3.eq_1) (ai (wu b43_4.eq_1) (wu b43_5.eq_1)))))
def b29_1 : CC := (.reg [(qq a4 (.mv (.c (.s 0 0))))])
def b29_2 : CC := (.reg [(qq a5 (.mv z0)), (qq a6 (.mv z1)), (ee a7 (.call 43 [z5, z6])), (qq a4 (.mv z7))])
def c29 : CF := .mk 4 [.t a4] (.seq b29_1 (.seq b29_2 .ret))
theorem e29 (v0 v1 : V) : argTr 4 [v0, v1] = (.n (.n sk2 (some v1) sk2) (some v0) sk3) := rfl
def B29 := ai @e29 (ai (wu b29_1.eq_1) (wu b29_2.eq_1))
def asS : V → Option (List UInt8)
 | .s n x => if strN (bl n x) = x then some (bl n x) else none
 | _ => none
theorem asS_s (l : List UInt8) : asS (sV l) = some l := by
 show (if strN (bl l.length (strN l)) = strN l then some (bl l.length (strN l)) else none) = _
 rw [strN_bl, if_pos rfl]
theorem of_asS {v : V} {l : List UInt8} (h : asS v = some l) : v = sV l := by
 unfold asS at h
 split at h
 · rename_i n x
   split at h
   · rename_i hx
     obtain rfl := Option.some.inj h
     show V.s n x = V.s (bl n x).length (strN (bl n x))
     rw [hx, bl_length]
   · cases h
 · cases h
def fnd (c : UInt8) : List UInt8 → Nat → Option Nat
 | [], _ => none
 | x :: r, i => if x = c then some i else fnd c r (i + 1)
theorem fnd_lt {c : UInt8} : ∀ {l : List UInt8} {i k : Nat}, fnd c l i = some k → i ≤ k ∧ k < i + l.length
 | [], i, k, h => by cases h
 | x :: r, i, k, h => by
   unfold fnd at h
   split at h
   · obtain rfl := Option.some.inj h; simp
   · have := fnd_lt h; rw [List.length_cons]; omega
theorem findB_s (c : UInt8) : ∀ (l : List UInt8) (i : Nat), findB c.toNat l.length (strN l) i = fnd c l i
 | [], i => rfl
 | x :: r, i => by
   have hx := UInt8.toNat_lt x
   show (bif Nat.beq ((x.toNat + 256 * strN r) % 256) c.toNat then some i else findB c.toNat r.length ((x.toNat + 256 * strN r) / 256) (Nat.succ i)) = _
   rw [show (x.toNat + 256 * strN r) % 256 = x.toNat by omega, show (x.toNat + 256 * strN r) / 256 = strN r by omega, beqN, fnd]
   by_cases h : x = c
   · subst h; rw [decide_eq_true rfl, if_pos rfl]; rfl
   · rw [decide_eq_false (fun e => h (UInt8.toNat_inj.1 e)), if_neg h, cond_false]
     exact findB_s c r (i + 1)
def xibV (x c : V) : Option V := (qop (.xib (.c x) (.c c)) [] .e .e).val
theorem v_xib {F : RO} (x c : X) (M : Mem) (t : T) : (qop (.xib x c) F M t).val = xibV (x.ev t) (c.ev t) := Eq.trans rfl (Eq.refl _)
def idxZ : Option Nat → Int
 | some k => (k : Int)
 | none => -1
theorem xibV_s (l : List UInt8) (c : UInt8) : xibV (sV l) (bV c) = some (.i .i64 (idxZ (fnd c l 0))) := by
 show (q_xib1 (findB (Nat.mod c.toNat 256) l.length (strN l) 0)).val = _
 have := UInt8.toNat_lt c
 rw [show Nat.mod c.toNat 256 = c.toNat from Nat.mod_eq_of_lt (by omega), findB_s]
 cases fnd c l 0 <;> rfl
theorem t73 (Φ : Nat → Option CF) (h : Φ 73 = some c73) (l : List UInt8) (b : UInt8) (ct : Nat) : To Φ 73 [sV l, bV b] ct (.i .i64 (idxZ (fnd b l 0))) := by
 refine to_walk h ?_
 simp only [WX, B73, v_xib, xibV_s]
def asB : V → Option UInt8
 | .i .u8 (.ofNat n) => if n < 256 then some (UInt8.ofNat n) else none
 | _ => none
theorem asB_b (b : UInt8) : asB (bV b) = some b := by
 have := UInt8.toNat_lt b
 show (if b.toNat < 256 then some (UInt8.ofNat b.toNat) else none) = _
 rw [if_pos (by omega), UInt8.ofNat_toNat]
theorem of_asB {v : V} {b : UInt8} (h : asB v = some b) : v = bV b := by
 unfold asB at h
 split at h
 · rename_i n
   split at h
   · obtain rfl := Option.some.inj h
     show V.i .u8 (n : Int) = V.i .u8 ((UInt8.ofNat n).toNat : Int)
     rw [UInt8.toNat_ofNat', Nat.mod_eq_of_lt (by omega)]
   · cases h
 · cases h
def h73 : List V → Option V
 | [v, w] => (asS v).bind fun l => (asB w).bind fun b => some (.i .i64 (idxZ (fnd b l 0)))
 | _ => none
theorem h73_eq (l : List UInt8) (b : UInt8) : h73 [sV l, bV b] = some (.i .i64 (idxZ (fnd b l 0))) := by
 show (asS (sV l)).bind (fun l => (asB (bV b)).bind fun b => some (V.i .i64 (idxZ (fnd b l 0)))) = _
 rw [asS_s, Option.bind_some, asB_b, Option.bind_some]
theorem ixS0 (b : UInt8) : ixSV (sV [b]) (.i .i64 0) = some (bV b) := ixSs [b] .i64 0 (by simp)
theorem t49 (Φ : Nat → Option CF) (h : Φ 49 = some c49) (h73 : Φ 73 = some (.orc (pureO h73))) (l : List UInt8) (b : UInt8) (ct : Nat) : To Φ 49 [sV l, sV [b]] ct (.i .i64 (idxZ (fnd b l 0))) := by
 refine to_walk h ?_
 have e : ((([b] : List UInt8).length : Nat) : Int) = 1 := rfl
 have d0 : decide (((([b] : List UInt8).length : Nat) : Int) = 0) = false := rfl
 have d1 : decide (((([b] : List UInt8).length : Nat) : Int) = 1) = true := rfl
 by_cases hl : [b] = l
 · have dl : decide ([b] = l) = true := decide_eq_true hl
   have hf : fnd b l 0 = some 0 := by rw [← hl]; simp [fnd]
   simp only [WX, Int.reduceEq, B49, Int.ofNat_one, dl, hf]
   rfl
 · have dl : decide ([b] = l) = false := decide_eq_false hl
   simp only [WX, Int.reduceEq, B49, Int.ofNat_one, dl, h73, ixS0, h73_eq]
def h49 : List V → Option V
 | [v, w] => (asS v).bind fun l => (asS w).bind fun s => match s with | [b] => some (.i .i64 (idxZ (fnd b l 0))) | _ => none
 | _ => none
theorem h49_eq (l : List UInt8) (b : UInt8) : h49 [sV l, sV [b]] = some (.i .i64 (idxZ (fnd b l 0))) := by
 show (asS (sV l)).bind (fun l => (asS (sV [b])).bind fun s => match s with | [b] => some (V.i .i64 (idxZ (fnd b l 0))) | _ => none) = _
 rw [asS_s, Option.bind_some, asS_s, Option.bind_some]
def cutV (c : UInt8) (l : List UInt8) : V := match fnd c l 0 with
 | some k => .t [sV (l.take k), sV (l.drop (k + 1)), .b true]
 | none => .t [sV l, .s 0 0, .b false]
theorem dq_slS {F : RO} (x : X) (lo hi : Option X) (M : Mem) (t : T) : dqR (.slS x lo hi) F M t = oV (slSV (x.ev t) (lo.map fun x => x.ev t) (hi.map fun x => x.ev t)) := by
 refine (dq_of ?_).trans (congrArg oV (v_slS (F := F) x lo hi M t))
 intro F' M'
 refine qv_oV ?_
 show ((onS (x.ev t) QR.f fun n s => q_slS1 n s (optN t 0 lo) (optN t n hi)) = .f ∨ ∃ y, (onS (x.ev t) QR.f fun n s => q_slS1 n s (optN t 0 lo) (optN t n hi)) = .v y)
 cases x.ev t with
 | s n s =>
   show QV (q_slS1 n s (optN t 0 lo) (optN t n hi))
   generalize optN t 0 lo = a
   generalize optN t n hi = b
   cases a with
   | none => exact .inl rfl
   | some a =>
     cases b with
     | none => exact .inl rfl
     | some b =>
       show QV (Bool.rec (motive := fun _ => QR) .f (Bool.rec (motive := fun _ => QR) .f (vS (b - a) (s / 256 ^ a % 256 ^ (b - a))) (Nat.ble b n)) (Nat.ble a b))
       cases Nat.ble a b with
       | false => exact .inl rfl
       | true =>
         cases Nat.ble b n with
         | false => exact .inl rfl
         | true => exact .inr ⟨_, by show vS _ _ = _; unfold vS; rw [fN_eq, fN_eq]⟩
 | _ => exact .inl rfl
theorem t40 (Φ : Nat → Option CF) (h : Φ 40 = some c40) (h49 : Φ 49 = some (.orc (pureO h49))) (l : List UInt8) (b : UInt8) (hl : l.length ≤ 1073741824) (ct : Nat) : To Φ 40 [sV l, sV [b]] ct (cutV b l) := by
 refine to_walk h ?_
 unfold cutV
 cases hf : fnd b l 0 with
 | none =>
   have d : decide ((0 : Int) ≤ idxZ none) = false := rfl
   simp only [WX, B40, h49, h49_eq, hf, d]
 | some k =>
   have hk := (fnd_lt hf).2
   have d : decide ((0 : Int) ≤ (k : Int)) = true := decide_eq_true (by omega)
   have hz : idxZ (some k) = (k : Int) := rfl
   have e : ((([b] : List UInt8).length : Nat) : Int) = 1 := rfl
   have q1 : biV .add (.i .i64 (k : Int)) (.i .i64 1) = some (.i .i64 ((k + 1 : Nat) : Int)) := by rw [i64_add _ _ (by omega) (by omega)]; simp
   have s1 := sl_nh l .i64 k (by omega)
   have s2 := sl_ln l .i64 (k + 1) (by omega)
   simp only [WX, B40, h49, h49_eq, hf, d, hz, Int.ofNat_one, q1, s1, s2, dq_slS]
def h40 : List V → Option V
 | [v, w] => (asS v).bind fun l => (asS w).bind fun s => match s with | [b] => if l.length ≤ 1073741824 then some (cutV b l) else none | _ => none
 | _ => none
theorem h40_eq (l : List UInt8) (b : UInt8) (hl : l.length ≤ 1073741824) : h40 [sV l, sV [b]] = some (cutV b l) := by
 show (asS (sV l)).bind (fun l => (asS (sV [b])).bind fun s => match s with | [b] => if l.length ≤ 1073741824 then some (cutV b l) else none | _ => none) = _
 rw [asS_s, Option.bind_some, asS_s, Option.bind_some]
 exact if_pos hl
theorem cutV_t (b : UInt8) (l : List UInt8) : ∃ x y z, cutV b l = .t [x, y, z] := by
 unfold cutV
 cases fnd b l 0 <;> exact ⟨_, _, _, rfl⟩
theorem t26 (Φ : Nat → Option CF) (h : Φ 26 = some c26) (h40 : Φ 40 = some (.orc (pureO h40))) (l : List UInt8) (b : UInt8) (hl : l.length ≤ 1073741824) (ct : Nat) : To Φ 26 [sV l, sV [b]] ct (cutV b l) := by
 refine to_walk h ?_
 have h1 := h40_eq l b hl
 obtain ⟨x, y, z, hc⟩ := cutV_t b l
 rw [hc] at h1 ⊢
 simp only [WX, B26, h40, h1]
def trimP (l p : List UInt8) : List UInt8 := if p.length ≤ l.length ∧ l.take p.length = p then l.drop p.length else l
theorem t55 (Φ : Nat → Option CF) (h : Φ 55 = some c55) (l p : List UInt8) (ct : Nat) : To Φ 55 [sV l, sV p] ct (.b (decide (p.length ≤ l.length ∧ l.take p.length = p))) := by
 refine to_walk h ?_
 by_cases h1 : p.length ≤ l.length
 · have d1 : decide ((p.length : Int) ≤ (l.length : Int)) = true := decide_eq_true (by omega)
   have s1 := sl_nh l .i64 p.length h1
   have e : decide (p.length ≤ l.length ∧ l.take p.length = p) = decide (l.take p.length = p) := by simp [h1]
   rw [e]
   simp only [WX, B55, d1, s1]
 · have d1 : decide ((p.length : Int) ≤ (l.length : Int)) = false := decide_eq_false (by omega)
   have e : decide (p.length ≤ l.length ∧ l.take p.length = p) = false := decide_eq_false (fun hh => h1 hh.1)
   rw [e]
   simp only [WX, B55, d1]
def h55 : List V → Option V
 | [v, w] => (asS v).bind fun l => (asS w).bind fun p => some (.b (decide (p.length ≤ l.length ∧ l.take p.length = p)))
 | _ => none
theorem h55_eq (l p : List UInt8) : h55 [sV l, sV p] = some (.b (decide (p.length ≤ l.length ∧ l.take p.length = p))) := by
 show (asS (sV l)).bind (fun l => (asS (sV p)).bind fun p => some (V.b (decide (p.length ≤ l.length ∧ l.take p.length = p)))) = _
 rw [asS_s, Option.bind_some, asS_s, Option.bind_some]
theorem t43 (Φ : Nat → Option CF) (h : Φ 43 = some c43) (h55 : Φ 55 = some (.orc (pureO h55))) (l p : List UInt8) (ct : Nat) : To Φ 43 [sV l, sV p] ct (sV (trimP l p)) := by
 refine to_walk h ?_
 unfold trimP
 by_cases hp : p.length ≤ l.length ∧ l.take p.length = p
 · have d1 : decide (p.length ≤ l.length ∧ l.take p.length = p) = true := decide_eq_true hp
   have s1 := sl_ln l .i64 p.length hp.1
   rw [if_pos hp]
   simp only [WX, B43, h55, h55_eq, d1, s1]
 · have d1 : decide (p.length ≤ l.length ∧ l.take p.length = p) = false := decide_eq_false hp
   rw [if_neg hp]
   simp only [WX, B43, h55, h55_eq, d1]
def h43 : List V → Option V
 | [v, w] => (asS v).bind fun l => (asS w).bind fun p => some (sV (trimP l p))
 | _ => none
theorem h43_eq (l p : List UInt8) : h43 [sV l, sV p] = some (sV (trimP l p)) := by
 show (asS (sV l)).bind (fun l => (asS (sV p)).bind fun p => some (sV (trimP l p))) = _
 rw [asS_s, Option.bind_some, asS_s, Option.bind_some]
theorem t29 (Φ : Nat → Option CF) (h : Φ 29 = some c29) (h43 : Φ 43 = some (.orc (pureO h43))) (l p : List UInt8) (ct : Nat) : To Φ 29 [sV l, sV p] ct (sV (trimP l p)) := by
 refine to_walk h ?_
 simp only [WX, B29, h43, h43_eq]
def b66_1 : CC := (.reg [(qq a3 (.mv z0)), (qq a4 (.bi .geq z3 (.c (.i .u64 4294967296))))])
def b66_2 : CC := (.reg [(qq a5 (.mv z0)), (qq a6 (.bi .shr z5 (.c (.i .u64 32)))), (qq a0 (.mv z6))])
def b66_3 : CC := (.seq b66_2 (.reg [(qq a2 (.mv (x6 32)))]))
def b66_4 : CC := (.reg [(qq a7 (.mv z0)), (qq a8 (.bi .geq z7 (.c (.i .u64 65536))))])
def b66_5 : CC := (.reg [(qq a9 (.mv z0)), (qq a10 (.bi .shr z9 (.c (.i .u64 16)))), (qq a0 (.mv z10))])
def b66_6 : CC := (.reg [(qq a11 (.mv z2)), (qq a12 (.bi .add z11 (x6 16))), (qq a2 (.mv z12))])
def b66_7 : CC := (.seq b66_4 (.cond z8 (.seq b66_5 b66_6) .skip))
def b66_8 : CC := (.reg [(qq a13 (.mv z0)), (qq a14 (.bi .geq z13 (.c (.i .u64 256))))])
def b66_9 : CC := (.reg [(qq a15 (.mv z0)), (qq a16 (.bi .shr z15 (.c (.i .u64 8)))), (qq a0 (.mv z16))])
def b66_10 : CC := (.reg [(qq a17 (.mv z2)), (qq a18 (.bi .add z17 (x6 8))), (qq a2 (.mv z18))])
def b66_11 : CC := (.seq b66_8 (.cond z14 (.seq b66_9 b66_10) .skip))
def b66_12 : CC := (.reg [(qq a19 (.mv z2)), (qq a20 (.mv z0)), (qq a21 (.ci .u8 z20)), (qq a22 (.ixS (.c (.s 256 1013866857139168856493015739252390649739422828853819106890363778118420553376247557433637691341895324351018602695588957474325319502760499485336098898398377509666851054660423406800006203933793007272033180812049178612605246075062580585469430410618860250057463399279570354286669047577758927328864388992123306212451509403152394148136105363817402562688186708175358218852349079190158732807302672745370040257219644697201681238697346923541678507645485296520536209706771857694240900605172937619415410180424934769249448772944216470541052485265558808433676546390051204254346932932316488017972311616136051587427851453983453479168)) z21)), (qq a23 (.ci .i64 z22)), (qq a24 (.bi .add z19 z23)), (qq a2 (.mv z24))])
def b66_13 : CC := (.seq (.seq b66_1 (.cond z4 b66_3 .skip)) (.seq b66_7 (.seq b66_11 (.seq b66_12 .ret))))
def b66_14 : CC := (.seq (.reg [(qq a2 (.mv (x6 0)))]) b66_13)
def c66 : CF := .mk 5 [.t a2] b66_14
theorem e66 (v0 : V) : argTr 5 [v0] = (.n sk4 (some v0) sk4) := rfl
def B66 := ai @e66 (ai (wu b66_1.eq_1) (ai (wu b66_2.eq_1) (ai (wu b66_3.eq_1) (ai (wu b66_4.eq_1) (ai (wu b66_5.eq_1) (ai (wu b66_6.eq_1) (ai (wu b66_7.eq_1) (ai (wu b66_8.eq_1) (ai (wu b66_9.eq_1) (ai (wu b66_10.eq_1) (ai (wu b66_11.eq_1) (ai (wu b66_12.eq_1) (ai (wu b66_13.eq_1) (wu b66_14.eq_1))))))))))))))
def b86_1 : CC := (.reg [(qq a3 (.mv z0)), (qq a4 (.bi .mul z3 (x6 78913))), (qq a5 (.bi .shr z4 (.c (.i .u64 18)))), (qq a2 (.mv z5))])
def b86_2 : CC := (.seq (.reg [(qq a2 (.mv (x6 0)))]) (.seq b86_1 .ret))
def c86 : CF := .mk 3 [.t a2] b86_2
theorem e86 (v0 : V) : argTr 3 [v0] = (.n sk2 (some v0) sk2) := rfl
def B86 := ai @e86 (ai (wu b86_1.eq_1) (wu b86_2.eq_1))
def b87_1 : CC := (.seq (.reg [(qq a2 (.mv (x6 1)))]) .ret)
def b87_2 : CC := (.seq (.reg [(qq a3 (.mv z0))]) (.cond z3 b87_1 .skip))
def b87_3 : CC := (.seq (.reg [(qq a2 (.mv (x6 0)))]) .ret)
def b87_4 : CC := (.seq (.reg [(qq a2 (.mv (x6 0)))]) (.seq b87_2 b87_3))
def c87 : CF := .mk 3 [.t a2] b87_4
theorem e87 (v0 : V) : argTr 3 [v0] = (.n sk2 (some v0) sk2) := rfl
def B87 := ai @e87 (ai (wu b87_1.eq_1) (ai (wu b87_2.eq_1) (ai (wu b87_3.eq_1) (wu b87_4.eq_1))))
def b68_1 : CC := (.reg [(qq a4 (.mv z0)), (ee a5 (.call 66 [z4])), (ee a6 (.call 86 [z5])), (qq a3 (.mv z6))])
def b68_2 : CC := (.reg [(qq a7 (.mv z3)), (qq a8 (.mv z0)), (qq a9 (.mv z3)), (qq a10 (.iaA 20 1 (.c (.p 3 0)) z9)), (qq a11 (.ld1 z10)), (qq a12 (.bi .geq z8 z11)), (ee a13 (.call 87 [z12])), (qq a14 (.bi .add z7 z13)), (qq a2 (.mv z14))])
def b68_3 : CC := (.seq (.reg [(qq a2 (.mv (x6 0)))]) (.seq b68_1 (.seq b68_2 .ret)))
def c68 : CF := .mk 4 [.t a2] b68_3
theorem e68 (v0 : V) : argTr 4 [v0] = (.n sk3 (some v0) sk3) := rfl
def B68 := ai @e68 (ai (wu b68_1.eq_1) (ai (wu b68_2.eq_1) (wu b68_3.eq_1)))
def b67_1 : CC := (.reg [(qq a3 (.mv z0)), (qq a4 (.bi .lss z3 (x6 10)))])
def b67_2 : CC := (.reg [(qq a5 (.mv z0)), (qq a6 (.mv z0)), (qq a7 (.bi .add z6 (x6 1))), (qq a8 (.slS (.c (.s 36 237927390410950444456928663707796224754864904193074819559483181009558347043374296609072)) (some z5) (some z7))), (qq a2 (.mv z8))])
def b67_3 : CC := (.seq b67_1 (.cond z4 (.seq b67_2 .ret) .skip))
def b67_4 : CC := (.reg [(qq a9 (.mv z0)), (qq a10 (.bi .mul z9 (x6 2))), (qq a11 (.mv z0)), (qq a12 (.bi .mul z11 (x6 2))), (qq a13 (.bi .add z12 (x6 2))), (qq a14 (.slS (.c (.s 200 9938655150514779720929161263213647789093395803754561035662628441001274968862597953692946393464194303251501229616933063375291039650253924995779037586872666250072396106842829501851083234932712366962979930255066872747696324303968523733872590022915936937156789320557469720923390131174387415513794469201054844961267015441141542819553679203788501627738430154234325528792480477051962324423099068299719245009424585859096469223093538032153047611602695245052081125123941502624659711709950000)) (some z10) (some z13))), (qq a2 (.mv z14))])
def b67_5 : CC := (.seq (.reg [(qq a2 (.mv (.c (.s 0 0))))]) (.seq b67_3 (.seq b67_4 .ret)))
def c67 : CF := .mk 4 [.t a2] b67_5
theorem e67 (v0 : V) : argTr 4 [v0] = (.n sk3 (some v0) sk3) := rfl
def B67 := ai @e67 (ai (wu b67_1.eq_1) (ai (wu b67_2.eq_1) (ai (wu b67_3.eq_1) (ai (wu b67_4.eq_1) (wu b67_5.eq_1)))))
def dig : Nat → Nat → List UInt8
 | 0, _ => []
 | k + 1, n => dig k (n / 10) ++ [UInt8.ofNat (48 + n % 10)]
def nd (n : Nat) : Nat := if n < 10 then 1 else if n < 100 then 2 else if n < 1000 then 3 else if n < 10000 then 4 else if n < 100000 then 5 else if n < 1000000 then 6 else 7
def itoaN (n : Nat) : List UInt8 := dig (nd n) n
def itoa : Int → List UInt8
 | .ofNat n => itoaN n
 | .negSucc n => 45 :: itoaN (n + 1)
theorem dig_len : ∀ k n, (dig k n).length = k
 | 0, n => rfl
 | k + 1, n => by rw [dig, List.length_append, dig_len k]; rfl
def l8N : Nat := 1013866857139168856493015739252390649739422828853819106890363778118420553376247557433637691341895324351018602695588957474325319502760499485336098898398377509666851054660423406800006203933793007272033180812049178612605246075062580585469430410618860250057463399279570354286669047577758927328864388992123306212451509403152394148136105363817402562688186708175358218852349079190158732807302672745370040257219644697201681238697346923541678507645485296520536209706771857694240900605172937619415410180424934769249448772944216470541052485265558808433676546390051204254346932932316488017972311616136051587427851453983453479168
def smN : Nat := 9938655150514779720929161263213647789093395803754561035662628441001274968862597953692946393464194303251501229616933063375291039650253924995779037586872666250072396106842829501851083234932712366962979930255066872747696324303968523733872590022915936937156789320557469720923390131174387415513794469201054844961267015441141542819553679203788501627738430154234325528792480477051962324423099068299719245009424585859096469223093538032153047611602695245052081125123941502624659711709950000
def dgN : Nat := 237927390410950444456928663707796224754864904193074819559483181009558347043374296609072
def bl8 (x : Nat) : Nat := if x < 1 then 0 else if x < 2 then 1 else if x < 4 then 2 else if x < 8 then 3 else if x < 16 then 4 else if x < 32 then 5 else if x < 64 then 6 else if x < 128 then 7 else 8
theorem l5_all : (List.range 256).all (fun x => l8N / 256 ^ x % 256 == bl8 x) = true := by decide +kernel
theorem sm_all : (List.range 100).all (fun x => (smN / 256 ^ (2 * x) % 256 == 48 + x / 10) && (smN / 256 ^ (2 * x + 1) % 256 == 48 + x % 10) && (smN / 256 ^ (2 * x) % 256 ^ 2 == (48 + x / 10) + 256 * (48 + x % 10))) = true := by decide +kernel
theorem dg_all : (List.range 10).all (fun x => dgN / 256 ^ x % 256 ^ 1 == 48 + x) = true := by decide +kernel
theorem l5_of (x : Nat) (h : x < 256) : l8N / 256 ^ x % 256 = bl8 x := by
 have := List.all_eq_true.1 l5_all x (List.mem_range.2 h)
 simpa using this
theorem sm_of (x : Nat) (h : x < 100) : smN / 256 ^ (2 * x) % 256 = 48 + x / 10 ∧ smN / 256 ^ (2 * x + 1) % 256 = 48 + x % 10 ∧ smN / 256 ^ (2 * x) % 256 ^ 2 = (48 + x / 10) + 256 * (48 + x % 10) := by
 have := List.all_eq_true.1 sm_all x (List.mem_range.2 h)
 simp only [Bool.and_eq_true, beq_iff_eq] at this
 exact ⟨this.1.1, this.1.2, this.2⟩
theorem dg_of (x : Nat) (h : x < 10) : dgN / 256 ^ x % 256 ^ 1 = 48 + x := by
 have := List.all_eq_true.1 dg_all x (List.mem_range.2 h)
 simpa using this
theorem ixS_num (n s i : Nat) (k : IntKind) (h : i < n) : ixSV (.s n s) (.i k (i : Int)) = some (.i .u8 ((s / 256 ^ i % 256 : Nat) : Int)) := by
 show (q_ixS1 n s i).val = _
 show (Bool.rec (motive := fun _ => QR) QR.f (fN (Nat.mod (Nat.div s (p256 i)) 256) fun c => QR.v (.i .u8 (.ofNat c))) (Nat.blt i n)).val = _
 rw [bb, bltN, if_pos (by simpa using h), fN_eq]; rfl
theorem ix_l8 (x : Nat) (k : IntKind) (h : x < 256) : ixSV (.s 256 1013866857139168856493015739252390649739422828853819106890363778118420553376247557433637691341895324351018602695588957474325319502760499485336098898398377509666851054660423406800006203933793007272033180812049178612605246075062580585469430410618860250057463399279570354286669047577758927328864388992123306212451509403152394148136105363817402562688186708175358218852349079190158732807302672745370040257219644697201681238697346923541678507645485296520536209706771857694240900605172937619415410180424934769249448772944216470541052485265558808433676546390051204254346932932316488017972311616136051587427851453983453479168) (.i k (x : Int)) = some (.i .u8 ((bl8 x : Nat) : Int)) := by
 have := ixS_num 256 l8N x k h
 rw [l5_of x h] at this
 exact this
theorem byte_nat (n : Nat) (h : n < 256) : bV (UInt8.ofNat n) = .i .u8 (n : Int) := by
 show V.i .u8 ((UInt8.ofNat n).toNat : Int) = _
 rw [UInt8.toNat_ofNat', Nat.mod_eq_of_lt h]
theorem ix_sm0 (x : Nat) (k : IntKind) (h : x < 100) : ixSV (.s 200 9938655150514779720929161263213647789093395803754561035662628441001274968862597953692946393464194303251501229616933063375291039650253924995779037586872666250072396106842829501851083234932712366962979930255066872747696324303968523733872590022915936937156789320557469720923390131174387415513794469201054844961267015441141542819553679203788501627738430154234325528792480477051962324423099068299719245009424585859096469223093538032153047611602695245052081125123941502624659711709950000) (.i k ((2 * x : Nat) : Int)) = some (bV (UInt8.ofNat (48 + x / 10))) := by
 have := ixS_num 200 smN (2 * x) k (by omega)
 rw [(sm_of x h).1] at this
 rw [byte_nat _ (by omega)]; exact this
theorem ix_sm1 (x : Nat) (k : IntKind) (h : x < 100) : ixSV (.s 200 9938655150514779720929161263213647789093395803754561035662628441001274968862597953692946393464194303251501229616933063375291039650253924995779037586872666250072396106842829501851083234932712366962979930255066872747696324303968523733872590022915936937156789320557469720923390131174387415513794469201054844961267015441141542819553679203788501627738430154234325528792480477051962324423099068299719245009424585859096469223093538032153047611602695245052081125123941502624659711709950000) (.i k ((2 * x + 1 : Nat) : Int)) = some (bV (UInt8.ofNat (48 + x % 10))) := by
 have := ixS_num 200 smN (2 * x + 1) k (by omega)
 rw [(sm_of x h).2.1] at this
 rw [byte_nat _ (by omega)]; exact this
theorem slS_num (n s i j : Nat) (k k' : IntKind) (h : i ≤ j) (h2 : j ≤ n) : slSV (.s n s) (some (.i k (i : Int))) (some (.i k' (j : Int))) = some (.s (j - i) (s / 256 ^ i % 256 ^ (j - i))) := by
 show (q_slS1 n s (some i) (some j)).val = _
 show (Bool.rec (motive := fun _ => QR) .f (Bool.rec (motive := fun _ => QR) .f (vS (j - i) (s / 256 ^ i % 256 ^ (j - i))) (Nat.ble j n)) (Nat.ble i j)).val = _
 rw [bb, bb, bleN, bleN, if_pos (by simpa using h), if_pos (by simpa using h2)]
 show (fN (j - i) fun n => fN (s / 256 ^ i % 256 ^ (j - i)) fun x => QR.v (.s n x)).val = _
 rw [fN_eq, fN_eq]; rfl
theorem sl_dg (x : Nat) (h : x < 10) : slSV (.s 36 237927390410950444456928663707796224754864904193074819559483181009558347043374296609072) (some (.i .i64 (x : Int))) (some (.i .i64 ((x + 1 : Nat) : Int))) = some (sV (itoaN x)) := by
 have := slS_num 36 dgN x (x + 1) .i64 .i64 (by omega) (by omega)
 rw [show x + 1 - x = 1 by omega, dg_of x h] at this
 refine this.trans ?_
 have e : itoaN x = [UInt8.ofNat (48 + x)] := by
  unfold itoaN nd
  rw [if_pos h]
  show [UInt8.ofNat (48 + x % 10)] = _
  rw [Nat.mod_eq_of_lt h]
 rw [e]
 show _ = some (V.s 1 ((UInt8.ofNat (48 + x)).toNat + 256 * 0))
 rw [UInt8.toNat_ofNat', Nat.mod_eq_of_lt (by omega)]; rfl
theorem sl_sm (x : Nat) (h : x < 100) (h1 : 10 ≤ x) : slSV (.s 200 9938655150514779720929161263213647789093395803754561035662628441001274968862597953692946393464194303251501229616933063375291039650253924995779037586872666250072396106842829501851083234932712366962979930255066872747696324303968523733872590022915936937156789320557469720923390131174387415513794469201054844961267015441141542819553679203788501627738430154234325528792480477051962324423099068299719245009424585859096469223093538032153047611602695245052081125123941502624659711709950000) (some (.i .i64 ((2 * x : Nat) : Int))) (some (.i .i64 ((2 * x + 2 : Nat) : Int))) = some (sV (itoaN x)) := by
 have := slS_num 200 smN (2 * x) (2 * x + 2) .i64 .i64 (by omega) (by omega)
 rw [show 2 * x + 2 - 2 * x = 2 by omega, (sm_of x h).2.2] at this
 refine this.trans ?_
 have e : itoaN x = [UInt8.ofNat (48 + x / 10), UInt8.ofNat (48 + x % 10)] := by
  unfold itoaN nd
  rw [if_neg (by omega), if_pos h]
  show [UInt8.ofNat (48 + x / 10 % 10)] ++ [UInt8.ofNat (48 + x % 10)] = _
  rw [Nat.mod_eq_of_lt (show x / 10 < 10 by omega)]; rfl
 rw [e]
 show _ = some (V.s 2 ((UInt8.ofNat (48 + x / 10)).toNat + 256 * ((UInt8.ofNat (48 + x % 10)).toNat + 256 * 0)))
 rw [UInt8.toNat_ofNat', UInt8.toNat_ofNat', Nat.mod_eq_of_lt (show 48 + x / 10 < 2 ^ 8 by omega), Nat.mod_eq_of_lt (show 48 + x % 10 < 2 ^ 8 by omega)]; rfl
def lenW (n : Nat) : Nat := if n < 256 then bl8 n else if n < 65536 then 8 + bl8 (n / 256) else 16 + bl8 (n / 65536)
theorem bl8_le (x : Nat) : bl8 x ≤ 8 := by unfold bl8; repeat' split
                                           all_goals omega
theorem u64_shr (a n : Nat) (hn : n ≤ 64) : biV .shr (.i .u64 (a : Int)) (.i .u64 (n : Int)) = some (.i .u64 ((a / 2 ^ n : Nat) : Int)) := by
 rw [bi_shr]
 have : shCount .u64 n = n := by
  unfold shCount
  rw [bleN, decide_eq_true (show n ≤ kbits .u64 from hn)]; rfl
 rw [this, Int.fdiv_eq_ediv_of_nonneg _ (Int.natCast_nonneg _)]; rfl
theorem u8_nat (n : Nat) (h : n < 256) : IntKind.u8.wrap (n : Int) = (n : Int) := by rw [wrap_u8]; omega
theorem t66 (Φ : Nat → Option CF) (h : Φ 66 = some c66) (n : Nat) (hn : n < 16777216) (ct : Nat) : To Φ 66 [.i .u64 (n : Int)] ct (.i .i64 (lenW n : Int)) := by
 refine to_walk h ?_
 have d0 : decide ((n : Int) ≥ 4294967296) = false := decide_eq_false (by omega)
 have d0' : decide ((4294967296 : Int) ≤ (n : Int)) = false := decide_eq_false (by omega)
 by_cases h1 : n < 256
 · have d1 : decide ((65536 : Int) ≤ (n : Int)) = false := decide_eq_false (by omega)
   have d2 : decide ((256 : Int) ≤ (n : Int)) = false := decide_eq_false (by omega)
   have e : lenW n = bl8 n := if_pos h1
   have hb := bl8_le n
   have ha : biV .add (.i .i64 0) (.i .i64 (bl8 n : Int)) = some (.i .i64 (bl8 n : Int)) := by rw [i64_add _ _ (by omega) (by omega)]; simp
   simp only [WX, B66, d0', d1, d2, u8_nat n h1, ix_l8 n .u8 h1, i64_nat (bl8 n) (by omega), ha, e]
 · by_cases h2 : n < 65536
   · have d1 : decide ((65536 : Int) ≤ (n : Int)) = false := decide_eq_false (by omega)
     have d2 : decide ((256 : Int) ≤ (n : Int)) = true := decide_eq_true (by omega)
     have e : lenW n = 8 + bl8 (n / 256) := by unfold lenW; rw [if_neg h1, if_pos h2]
     have hb := bl8_le (n / 256)
     have hs := u64_shr n 8 (by omega)
     have ha0 : biV .add (.i .i64 0) (.i .i64 8) = some (.i .i64 8) := i64_add 0 8 (by omega) (by omega)
     have ha : biV .add (.i .i64 8) (.i .i64 (bl8 (n / 256) : Int)) = some (.i .i64 ((8 + bl8 (n / 256) : Nat) : Int)) := by rw [i64_add _ _ (by omega) (by omega)]; simp
     rw [show ((8 : Nat) : Int) = 8 from rfl, show (2 : Nat) ^ 8 = 256 from rfl] at hs
     simp only [WX, B66, d0', d1, d2, hs, ha0, u8_nat (n / 256) (by omega), ix_l8 (n / 256) .u8 (by omega), i64_nat (bl8 (n / 256)) (by omega), ha, e]
   · have d1 : decide ((65536 : Int) ≤ (n : Int)) = true := decide_eq_true (by omega)
     have d2 : decide ((256 : Int) ≤ ((n / 65536 : Nat) : Int)) = false := decide_eq_false (by omega)
     have e : lenW n = 16 + bl8 (n / 65536) := by unfold lenW; rw [if_neg h1, if_neg h2]
     have hb := bl8_le (n / 65536)
     have hs := u64_shr n 16 (by omega)
     have ha0 : biV .add (.i .i64 0) (.i .i64 16) = some (.i .i64 16) := i64_add 0 16 (by omega) (by omega)
     have ha : biV .add (.i .i64 16) (.i .i64 (bl8 (n / 65536) : Int)) = some (.i .i64 ((16 + bl8 (n / 65536) : Nat) : Int)) := by rw [i64_add _ _ (by omega) (by omega)]; simp
     rw [show ((16 : Nat) : Int) = 16 from rfl, show (2 : Nat) ^ 16 = 65536 from rfl] at hs
     simp only [WX, B66, d0', d1, d2, hs, ha0, u8_nat (n / 65536) (by omega), ix_l8 (n / 65536) .u8 (by omega), i64_nat (bl8 (n / 65536)) (by omega), ha, e]
def h66 : List V → Option V
 | [.i .u64 (.ofNat n)] => if n < 16777216 then some (.i .i64 (lenW n : Int)) else none
 | _ => none
theorem h66_eq {n : Nat} (h : n < 16777216) : h66 [.i .u64 (n : Int)] = some (.i .i64 (lenW n : Int)) := if_pos h
theorem i64_shr (a n : Nat) (hn : n ≤ 64) : biV .shr (.i .i64 (a : Int)) (.i .u64 (n : Int)) = some (.i .i64 ((a / 2 ^ n : Nat) : Int)) := by
 rw [bi_shr]
 have : shCount .i64 n = n := by
  unfold shCount
  rw [bleN, decide_eq_true (show n ≤ kbits .i64 from hn)]; rfl
 rw [this, Int.fdiv_eq_ediv_of_nonneg _ (Int.natCast_nonneg _)]; rfl
theorem t86 (Φ : Nat → Option CF) (h : Φ 86 = some c86) (n : Nat) (hn : n < 100) (ct : Nat) : To Φ 86 [.i .i64 (n : Int)] ct (.i .i64 ((n * 78913 / 262144 : Nat) : Int)) := by
 refine to_walk h ?_
 have h1 : biV .mul (.i .i64 (n : Int)) (.i .i64 78913) = some (.i .i64 ((n * 78913 : Nat) : Int)) := by rw [i64_mul _ _ (by omega) (by omega)]; simp
 have h2 := i64_shr (n * 78913) 18 (by omega)
 rw [show ((18 : Nat) : Int) = 18 from rfl, show (2 : Nat) ^ 18 = 262144 from rfl] at h2
 simp only [WX, B86, h1, h2]
def h86 : List V → Option V
 | [.i .i64 (.ofNat n)] => if n < 100 then some (.i .i64 ((n * 78913 / 262144 : Nat) : Int)) else none
 | _ => none
theorem h86_eq {n : Nat} (h : n < 100) : h86 [.i .i64 (n : Int)] = some (.i .i64 ((n * 78913 / 262144 : Nat) : Int)) := if_pos h
theorem t87 (Φ : Nat → Option CF) (h : Φ 87 = some c87) (b : Bool) (ct : Nat) : To Φ 87 [.b b] ct (.i .i64 (if b = true then 1 else 0)) := by
 refine to_walk h ?_
 cases b
 · simp only [WX, B87]
 · simp only [WX, B87]
def h87 : List V → Option V
 | [.b b] => some (.i .i64 (if b = true then 1 else 0))
 | _ => none
theorem h87_eq (b : Bool) : h87 [.b b] = some (.i .i64 (if b = true then 1 else 0)) := rfl
theorem t67 (Φ : Nat → Option CF) (h : Φ 67 = some c67) (n : Nat) (hn : n < 100) (ct : Nat) : To Φ 67 [.i .i64 (n : Int)] ct (sV (itoaN n)) := by
 refine to_walk h ?_
 by_cases h1 : n < 10
 · have d : decide ((n : Int) < 10) = true := decide_eq_true (by omega)
   have ha : biV .add (.i .i64 (n : Int)) (.i .i64 1) = some (.i .i64 ((n + 1 : Nat) : Int)) := by rw [i64_add _ _ (by omega) (by omega)]; simp
   simp only [WX, B67, d, ha, sl_dg n h1]
 · have d : decide ((n : Int) < 10) = false := decide_eq_false (by omega)
   have hm : biV .mul (.i .i64 (n : Int)) (.i .i64 2) = some (.i .i64 ((2 * n : Nat) : Int)) := by rw [i64_mul _ _ (by omega) (by omega)]; simp; omega
   have ha : biV .add (.i .i64 ((2 * n : Nat) : Int)) (.i .i64 2) = some (.i .i64 ((2 * n + 2 : Nat) : Int)) := by rw [i64_add _ _ (by omega) (by omega)]; simp
   simp only [WX, B67, d, hm, ha, sl_sm n hn (by omega)]
def h67 : List V → Option V
 | [.i .i64 (.ofNat n)] => if n < 100 then some (sV (itoaN n)) else none
 | _ => none
theorem h67_eq {n : Nat} (h : n < 100) : h67 [.i .i64 (n : Int)] = some (sV (itoaN n)) := if_pos h
def pow10L : List Int := [1, 10, 100, 1000, 10000, 100000, 1000000, 10000000, 100000000, 1000000000, 10000000000, 100000000000, 1000000000000, 10000000000000, 100000000000000, 1000000000000000, 10000000000000000, 100000000000000000, 1000000000000000000, 10000000000000000000]
theorem lenW_1 {n : Nat} (l : 1 ≤ n) (u : n < 2) : lenW n = 1 := by
 unfold lenW bl8
 rw [if_pos (show n < 256 by omega), if_neg (show ¬ n < 1 by omega), if_pos (show n < 2 by omega)]
theorem lenW_2 {n : Nat} (l : 2 ≤ n) (u : n < 4) : lenW n = 2 := by
 unfold lenW bl8
 rw [if_pos (show n < 256 by omega), if_neg (show ¬ n < 1 by omega), if_neg (show ¬ n < 2 by omega), if_pos (show n < 4 by omega)]
theorem lenW_3 {n : Nat} (l : 4 ≤ n) (u : n < 8) : lenW n = 3 := by
 unfold lenW bl8
 rw [if_pos (show n < 256 by omega), if_neg (show ¬ n < 1 by omega), if_neg (show ¬ n < 2 by omega), if_neg (show ¬ n < 4 by omega), if_pos (show n < 8 by omega)]
theorem lenW_4 {n : Nat} (l : 8 ≤ n) (u : n < 16) : lenW n = 4 := by
 unfold lenW bl8
 rw [if_pos (show n < 256 by omega), if_neg (show ¬ n < 1 by omega), if_neg (show ¬ n < 2 by omega), if_neg (show ¬ n < 4 by omega), if_neg (show ¬ n < 8 by omega), if_pos (show n < 16 by omega)]
theorem lenW_5 {n : Nat} (l : 16 ≤ n) (u : n < 32) : lenW n = 5 := by
 unfold lenW bl8
 rw [if_pos (show n < 256 by omega), if_neg (show ¬ n < 1 by omega), if_neg (show ¬ n < 2 by omega), if_neg (show ¬ n < 4 by omega), if_neg (show ¬ n < 8 by omega), if_neg (show ¬ n < 16 by omega), if_pos (show n < 32 by omega)]
theorem lenW_6 {n : Nat} (l : 32 ≤ n) (u : n < 64) : lenW n = 6 := by
 unfold lenW bl8
 rw [if_pos (show n < 256 by omega), if_neg (show ¬ n < 1 by omega), if_neg (show ¬ n < 2 by omega), if_neg (show ¬ n < 4 by omega), if_neg (show ¬ n < 8 by omega), if_neg (show ¬ n < 16 by omega), if_neg (show ¬ n < 32 by omega), if_pos (show n < 64 by omega)]
theorem lenW_7 {n : Nat} (l : 64 ≤ n) (u : n < 128) : lenW n = 7 := by
 unfold lenW bl8
 rw [if_pos (show n < 256 by omega), if_neg (show ¬ n < 1 by omega), if_neg (show ¬ n < 2 by omega), if_neg (show ¬ n < 4 by omega), if_neg (show ¬ n < 8 by omega), if_neg (show ¬ n < 16 by omega), if_neg (show ¬ n < 32 by omega), if_neg (show ¬ n < 64 by omega), if_pos (show n < 128 by omega)]
theorem lenW_8 {n : Nat} (l : 128 ≤ n) (u : n < 256) : lenW n = 8 := by
 unfold lenW bl8
 rw [if_pos (show n < 256 by omega), if_neg (show ¬ n < 1 by omega), if_neg (show ¬ n < 2 by omega), if_neg (show ¬ n < 4 by omega), if_neg (show ¬ n < 8 by omega), if_neg (show ¬ n < 16 by omega), if_neg (show ¬ n < 32 by omega), if_neg (show ¬ n < 64 by omega), if_neg (show ¬ n < 128 by omega)]
theorem lenW_9 {n : Nat} (l : 256 ≤ n) (u : n < 512) : lenW n = 9 := by
 unfold lenW bl8
 rw [if_neg (show ¬ n < 256 by omega), if_pos (show n < 65536 by omega), if_neg (show ¬ n / 256 < 1 by omega), if_pos (show n / 256 < 2 by omega)]
theorem lenW_10 {n : Nat} (l : 512 ≤ n) (u : n < 1024) : lenW n = 10 := by
 unfold lenW bl8
 rw [if_neg (show ¬ n < 256 by omega), if_pos (show n < 65536 by omega), if_neg (show ¬ n / 256 < 1 by omega), if_neg (show ¬ n / 256 < 2 by omega), if_pos (show n / 256 < 4 by omega)]
theorem lenW_11 {n : Nat} (l : 1024 ≤ n) (u : n < 2048) : lenW n = 11 := by
 unfold lenW bl8
 rw [if_neg (show ¬ n < 256 by omega), if_pos (show n < 65536 by omega), if_neg (show ¬ n / 256 < 1 by omega), if_neg (show ¬ n / 256 < 2 by omega), if_neg (show ¬ n / 256 < 4 by omega), if_pos (show n / 256 < 8 by omega)]
theorem lenW_12 {n : Nat} (l : 2048 ≤ n) (u : n < 4096) : lenW n = 12 := by
 unfold lenW bl8
 rw [if_neg (show ¬ n < 256 by omega), if_pos (show n < 65536 by omega), if_neg (show ¬ n / 256 < 1 by omega), if_neg (show ¬ n / 256 < 2 by omega), if_neg (show ¬ n / 256 < 4 by omega), if_neg (show ¬ n / 256 < 8 by omega), if_pos (show n / 256 < 16 by omega)]
theorem lenW_13 {n : Nat} (l : 4096 ≤ n) (u : n < 8192) : lenW n = 13 := by
 unfold lenW bl8
 rw [if_neg (show ¬ n < 256 by omega), if_pos (show n < 65536 by omega), if_neg (show ¬ n / 256 < 1 by omega), if_neg (show ¬ n / 256 < 2 by omega), if_neg (show ¬ n / 256 < 4 by omega), if_neg (show ¬ n / 256 < 8 by omega), if_neg (show ¬ n / 256 < 16 by omega), if_pos (show n / 256 < 32 by omega)]
theorem lenW_14 {n : Nat} (l : 8192 ≤ n) (u : n < 16384) : lenW n = 14 := by
 unfold lenW bl8
 rw [if_neg (show ¬ n < 256 by omega), if_pos (show n < 65536 by omega), if_neg (show ¬ n / 256 < 1 by omega), if_neg (show ¬ n / 256 < 2 by omega), if_neg (show ¬ n / 256 < 4 by omega), if_neg (show ¬ n / 256 < 8 by omega), if_neg (show ¬ n / 256 < 16 by omega), if_neg (show ¬ n / 256 < 32 by omega), if_pos (show n / 256 < 64 by omega)]
theorem lenW_15 {n : Nat} (l : 16384 ≤ n) (u : n < 32768) : lenW n = 15 := by
 unfold lenW bl8
 rw [if_neg (show ¬ n < 256 by omega), if_pos (show n < 65536 by omega), if_neg (show ¬ n / 256 < 1 by omega), if_neg (show ¬ n / 256 < 2 by omega), if_neg (show ¬ n / 256 < 4 by omega), if_neg (show ¬ n / 256 < 8 by omega), if_neg (show ¬ n / 256 < 16 by omega), if_neg (show ¬ n / 256 < 32 by omega), if_neg (show ¬ n / 256 < 64 by omega), if_pos (show n / 256 < 128 by omega)]
theorem lenW_16 {n : Nat} (l : 32768 ≤ n) (u : n < 65536) : lenW n = 16 := by
 unfold lenW bl8
 rw [if_neg (show ¬ n < 256 by omega), if_pos (show n < 65536 by omega), if_neg (show ¬ n / 256 < 1 by omega), if_neg (show ¬ n / 256 < 2 by omega), if_neg (show ¬ n / 256 < 4 by omega), if_neg (show ¬ n / 256 < 8 by omega), if_neg (show ¬ n / 256 < 16 by omega), if_neg (show ¬ n / 256 < 32 by omega), if_neg (show ¬ n / 256 < 64 by omega), if_neg (show ¬ n / 256 < 128 by omega)]
theorem lenW_17 {n : Nat} (l : 65536 ≤ n) (u : n < 131072) : lenW n = 17 := by
 unfold lenW bl8
 rw [if_neg (show ¬ n < 256 by omega), if_neg (show ¬ n < 65536 by omega), if_neg (show ¬ n / 65536 < 1 by omega), if_pos (show n / 65536 < 2 by omega)]
theorem lenW_18 {n : Nat} (l : 131072 ≤ n) (u : n < 262144) : lenW n = 18 := by
 unfold lenW bl8
 rw [if_neg (show ¬ n < 256 by omega), if_neg (show ¬ n < 65536 by omega), if_neg (show ¬ n / 65536 < 1 by omega), if_neg (show ¬ n / 65536 < 2 by omega), if_pos (show n / 65536 < 4 by omega)]
theorem lenW_19 {n : Nat} (l : 262144 ≤ n) (u : n < 524288) : lenW n = 19 := by
 unfold lenW bl8
 rw [if_neg (show ¬ n < 256 by omega), if_neg (show ¬ n < 65536 by omega), if_neg (show ¬ n / 65536 < 1 by omega), if_neg (show ¬ n / 65536 < 2 by omega), if_neg (show ¬ n / 65536 < 4 by omega), if_pos (show n / 65536 < 8 by omega)]
theorem lenW_20 {n : Nat} (l : 524288 ≤ n) (u : n < 1048576) : lenW n = 20 := by
 unfold lenW bl8
 rw [if_neg (show ¬ n < 256 by omega), if_neg (show ¬ n < 65536 by omega), if_neg (show ¬ n / 65536 < 1 by omega), if_neg (show ¬ n / 65536 < 2 by omega), if_neg (show ¬ n / 65536 < 4 by omega), if_neg (show ¬ n / 65536 < 8 by omega), if_pos (show n / 65536 < 16 by omega)]
theorem lenW_21 {n : Nat} (l : 1048576 ≤ n) (u : n < 2097152) : lenW n = 21 := by
 unfold lenW bl8
 rw [if_neg (show ¬ n < 256 by omega), if_neg (show ¬ n < 65536 by omega), if_neg (show ¬ n / 65536 < 1 by omega), if_neg (show ¬ n / 65536 < 2 by omega), if_neg (show ¬ n / 65536 < 4 by omega), if_neg (show ¬ n / 65536 < 8 by omega), if_neg (show ¬ n / 65536 < 16 by omega), if_pos (show n / 65536 < 32 by omega)]
theorem lenW_22 {n : Nat} (l : 2097152 ≤ n) (u : n < 4194304) : lenW n = 22 := by
 unfold lenW bl8
 rw [if_neg (show ¬ n < 256 by omega), if_neg (show ¬ n < 65536 by omega), if_neg (show ¬ n / 65536 < 1 by omega), if_neg (show ¬ n / 65536 < 2 by omega), if_neg (show ¬ n / 65536 < 4 by omega), if_neg (show ¬ n / 65536 < 8 by omega), if_neg (show ¬ n / 65536 < 16 by omega), if_neg (show ¬ n / 65536 < 32 by omega), if_pos (show n / 65536 < 64 by omega)]
theorem lenW_23 {n : Nat} (l : 4194304 ≤ n) (u : n < 8388608) : lenW n = 23 := by
 unfold lenW bl8
 rw [if_neg (show ¬ n < 256 by omega), if_neg (show ¬ n < 65536 by omega), if_neg (show ¬ n / 65536 < 1 by omega), if_neg (show ¬ n / 65536 < 2 by omega), if_neg (show ¬ n / 65536 < 4 by omega), if_neg (show ¬ n / 65536 < 8 by omega), if_neg (show ¬ n / 65536 < 16 by omega), if_neg (show ¬ n / 65536 < 32 by omega), if_neg (show ¬ n / 65536 < 64 by omega), if_pos (show n / 65536 < 128 by omega)]
theorem lenW_24 {n : Nat} (l : 8388608 ≤ n) (u : n < 16777216) : lenW n = 24 := by
 unfold lenW bl8
 rw [if_neg (show ¬ n < 256 by omega), if_neg (show ¬ n < 65536 by omega), if_neg (show ¬ n / 65536 < 1 by omega), if_neg (show ¬ n / 65536 < 2 by omega), if_neg (show ¬ n / 65536 < 4 by omega), if_neg (show ¬ n / 65536 < 8 by omega), if_neg (show ¬ n / 65536 < 16 by omega), if_neg (show ¬ n / 65536 < 32 by omega), if_neg (show ¬ n / 65536 < 64 by omega), if_neg (show ¬ n / 65536 < 128 by omega)]
theorem nd_law (n : Nat) (h1 : 1 ≤ n) (h2 : n < 10000000) : ∃ (t : Nat) (p : Nat), lenW n * 78913 / 262144 = t ∧ pow10L[t]? = some (p : Int) ∧ t < 8 ∧ nd n = t + (if p ≤ n then 1 else 0) := by
 have hc : (1 ≤ n ∧ n < 2) ∨ (2 ≤ n ∧ n < 4) ∨ (4 ≤ n ∧ n < 8) ∨ (8 ≤ n ∧ n < 16) ∨ (16 ≤ n ∧ n < 32) ∨ (32 ≤ n ∧ n < 64) ∨ (64 ≤ n ∧ n < 128) ∨ (128 ≤ n ∧ n < 256) ∨ (256 ≤ n ∧ n < 512) ∨ (512 ≤ n ∧ n < 1024) ∨ (1024 ≤ n ∧ n < 2048) ∨ (2048 ≤ n ∧ n < 4096) ∨ (4096 ≤ n ∧ n < 8192) ∨ (8192 ≤ n ∧ n < 16384) ∨ (16384 ≤ n ∧ n < 32768) ∨ (32768 ≤ n ∧ n < 65536) ∨ (65536 ≤ n ∧ n < 131072) ∨ (131072 ≤ n ∧ n < 262144) ∨ (262144 ≤ n ∧ n < 524288) ∨ (524288 ≤ n ∧ n < 1048576) ∨ (1048576 ≤ n ∧ n < 2097152) ∨ (2097152 ≤ n ∧ n < 4194304) ∨ (4194304 ≤ n ∧ n < 8388608) ∨ (8388608 ≤ n ∧ n < 16777216) := by omega
 rcases hc with ⟨l, u⟩ | ⟨l, u⟩ | ⟨l, u⟩ | ⟨l, u⟩ | ⟨l, u⟩ | ⟨l, u⟩ | ⟨l, u⟩ | ⟨l, u⟩ | ⟨l, u⟩ | ⟨l, u⟩ | ⟨l, u⟩ | ⟨l, u⟩ | ⟨l, u⟩ | ⟨l, u⟩ | ⟨l, u⟩ | ⟨l, u⟩ | ⟨l, u⟩ | ⟨l, u⟩ | ⟨l, u⟩ | ⟨l, u⟩ | ⟨l, u⟩ | ⟨l, u⟩ | ⟨l, u⟩ | ⟨l, u⟩
 · refine ⟨0, 1, by rw [lenW_1 l u], rfl, by decide, ?_⟩
   unfold nd; repeat' split
   all_goals omega
 · refine ⟨0, 1, by rw [lenW_2 l u], rfl, by decide, ?_⟩
   unfold nd; repeat' split
   all_goals omega
 · refine ⟨0, 1, by rw [lenW_3 l u], rfl, by decide, ?_⟩
   unfold nd; repeat' split
   all_goals omega
 · refine ⟨1, 10, by rw [lenW_4 l u], rfl, by decide, ?_⟩
   unfold nd; repeat' split
   all_goals omega
 · refine ⟨1, 10, by rw [lenW_5 l u], rfl, by decide, ?_⟩
   unfold nd; repeat' split
   all_goals omega
 · refine ⟨1, 10, by rw [lenW_6 l u], rfl, by decide, ?_⟩
   unfold nd; repeat' split
   all_goals omega
 · refine ⟨2, 100, by rw [lenW_7 l u], rfl, by decide, ?_⟩
   unfold nd; repeat' split
   all_goals omega
 · refine ⟨2, 100, by rw [lenW_8 l u], rfl, by decide, ?_⟩
   unfold nd; repeat' split
   all_goals omega
 · refine ⟨2, 100, by rw [lenW_9 l u], rfl, by decide, ?_⟩
   unfold nd; repeat' split
   all_goals omega
 · refine ⟨3, 1000, by rw [lenW_10 l u], rfl, by decide, ?_⟩
   unfold nd; repeat' split
   all_goals omega
 · refine ⟨3, 1000, by rw [lenW_11 l u], rfl, by decide, ?_⟩
   unfold nd; repeat' split
   all_goals omega
 · refine ⟨3, 1000, by rw [lenW_12 l u], rfl, by decide, ?_⟩
   unfold nd; repeat' split
   all_goals omega
 · refine ⟨3, 1000, by rw [lenW_13 l u], rfl, by decide, ?_⟩
   unfold nd; repeat' split
   all_goals omega
 · refine ⟨4, 10000, by rw [lenW_14 l u], rfl, by decide, ?_⟩
   unfold nd; repeat' split
   all_goals omega
 · refine ⟨4, 10000, by rw [lenW_15 l u], rfl, by decide, ?_⟩
   unfold nd; repeat' split
   all_goals omega
 · refine ⟨4, 10000, by rw [lenW_16 l u], rfl, by decide, ?_⟩
   unfold nd; repeat' split
   all_goals omega
 · refine ⟨5, 100000, by rw [lenW_17 l u], rfl, by decide, ?_⟩
   unfold nd; repeat' split
   all_goals omega
 · refine ⟨5, 100000, by rw [lenW_18 l u], rfl, by decide, ?_⟩
   unfold nd; repeat' split
   all_goals omega
 · refine ⟨5, 100000, by rw [lenW_19 l u], rfl, by decide, ?_⟩
   unfold nd; repeat' split
   all_goals omega
 · refine ⟨6, 1000000, by rw [lenW_20 l u], rfl, by decide, ?_⟩
   unfold nd; repeat' split
   all_goals omega
 · refine ⟨6, 1000000, by rw [lenW_21 l u], rfl, by decide, ?_⟩
   unfold nd; repeat' split
   all_goals omega
 · refine ⟨6, 1000000, by rw [lenW_22 l u], rfl, by decide, ?_⟩
   unfold nd; repeat' split
   all_goals omega
 · refine ⟨6, 1000000, by rw [lenW_23 l u], rfl, by decide, ?_⟩
   unfold nd; repeat' split
   all_goals omega
 · refine ⟨7, 10000000, by rw [lenW_24 l u], rfl, by decide, ?_⟩
   unfold nd; repeat' split
   all_goals omega
def iaAV (len sz : Nat) (x i : V) : Option V := (qop (.iaA len sz (.c x) (.c i)) [] .e .e).val
theorem v_iaA {F : RO} (len sz : Nat) (x i : X) (M : Mem) (t : T) : (qop (.iaA len sz x i) F M t).val = iaAV len sz (x.ev t) (i.ev t) := Eq.trans rfl (Eq.refl _)
theorem iaA_p (len sz b o n : Nat) (k : IntKind) (h : n < len) : iaAV len sz (.p b o) (.i k (n : Int)) = some (.p b (o + n * sz)) := by
 show (q_ia sz b o len (n : Int)).val = _
 show (Bool.rec (motive := fun _ => QR) .f (mkP b (Nat.add o (Nat.mul n sz))) (Nat.blt n len)).val = _
 rw [bb, bltN, if_pos (by simpa using h)]
 unfold mkP
 rw [fN_eq]; rfl
theorem u32_quo (a b : Nat) (hb : 0 < b) (ha : a < 4294967296) : biV .quo (.i .u32 (a : Int)) (.i .u32 (b : Int)) = some (.i .u32 ((a / b : Nat) : Int)) := by
 have hle : a / b ≤ a := Nat.div_le_self a b
 show (b_quo .u32 (a : Int) (b : Int)).val = _
 unfold b_quo
 rw [eqI_iff, decide_eq_false (show ¬ ((b : Int) = 0) by omega), cond_false, vI_eq, wr_eq, ← Int.ofNat_tdiv, u32_nat _ (by omega)]; rfl
theorem u32_rem (a b : Nat) (hb : 0 < b) : biV .rem (.i .u32 (a : Int)) (.i .u32 (b : Int)) = some (.i .u32 ((a % b : Nat) : Int)) := by
 show (b_rem .u32 (a : Int) (b : Int)).val = _
 unfold b_rem
 rw [eqI_iff, decide_eq_false (show ¬ ((b : Int) = 0) by omega), cond_false, vI_eq, ← Int.ofNat_tmod]; rfl
theorem r68 (Φ : Nat → Option CF) (h : Φ 68 = some c68) {L : List Tab} (h66 : Φ 66 = some (.orc (pureO h66))) (h86 : Φ 86 = some (.orc (pureO h86))) (h87 : Φ 87 = some (.orc (pureO h87)))
  {F : RO} {M : Mem} {c : Nat} (ok : Okm F M c) (ht : tabsIn F L = true) (hp : (3, IntKind.u64, pow10L) ∈ L) (n : Nat) (h1 : 1 ≤ n) (h2 : n < 10000000) : Calls Φ F 68 [.i .u64 (n : Int)] M c fun r _ _ => r = .i .i64 (nd n : Int) := by
 obtain ⟨t, p, e1, e2, e3, e4⟩ := nd_law n h1 h2
 have hl : lenW n < 100 := by
  have : lenW n ≤ 24 := by
   have h1 := bl8_le n; have h2 := bl8_le (n / 256); have h3 := bl8_le (n / 65536)
   unfold lenW; repeat' split
   all_goals omega
  omega
 have hld := tab_load (M := M) ht ok.ap hp e2
 have hia := iaA_p 20 1 3 0 t .i64 (by omega)
 rw [show 0 + t * 1 = t by omega] at hia
 refine calls_walk h ?_
 by_cases hpn : p ≤ n
 · have d : decide ((p : Int) ≤ (n : Int)) = true := decide_eq_true (by omega)
   rw [if_pos hpn] at e4
   have ha : biV .add (.i .i64 (t : Int)) (.i .i64 1) = some (.i .i64 ((t + 1 : Nat) : Int)) := by rw [i64_add _ _ (by omega) (by omega)]; simp
   simp only [WX, B68, h66, h86, h87, h66_eq (show n < 16777216 by omega), h86_eq hl, h87_eq, e1, hia, hld, v_iaA, d, ha, e4]
 · have d : decide ((p : Int) ≤ (n : Int)) = false := decide_eq_false (by omega)
   rw [if_neg hpn] at e4
   have ha : biV .add (.i .i64 (t : Int)) (.i .i64 0) = some (.i .i64 ((t + 0 : Nat) : Int)) := by rw [i64_add _ _ (by omega) (by omega)]; simp
   simp only [WX, B68, h66, h86, h87, h66_eq (show n < 16777216 by omega), h86_eq hl, h87_eq, e1, hia, hld, v_iaA, d, ha, e4]
end
end Go.Proofs.YtffpeieapadocaaDoor.Ev
