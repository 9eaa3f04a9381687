/- What is proved here: pieces of the evaluator's soundness: if the evaluator comes to a value, the model's run comes to it, for every world and tape; no conditions beyond the hypotheses of each theorem. -/
import Derived.Test.YtffpeieapadocaaGreatDoorEv4
import Derived.Stop.LaidErr
set_option linter.unusedSimpArgs false
set_option linter.unusedVariables false
set_option linter.defProp false
set_option maxRecDepth 10000
set_option maxHeartbeats 16000000
namespace Go.Proofs.YtffpeieapadocaaGreatDoor.Ev
open Go Go.RowKit Go.ChangeShapes
noncomputable section
section
variable {Φ : Nat → Option CF} {rd : Option Nat} {fn : Nat} {F : RO}
def nckV : V → Option V
 | .p b o => some (.p b o)
 | .f g h c => some (.f g h c)
 | .y l => some (.y l)
 | .a t v => some (.a t v)
 | _ => none
theorem v_nck (x : X) (M : Mem) (t : T) : (qop (.nck x) F M t).val = nckV (x.ev t) := by
 show (q_nck x F M t).val = _
 unfold q_nck
 cases x.ev t <;> rfl
theorem nckV_p (b o : Nat) : nckV (.p b o) = some (.p b o) := Eq.trans rfl (Eq.refl _)
theorem dq_nck (x : X) (M : Mem) (t : T) : dqR (.nck x) F M t = oV (nckV (x.ev t)) := by
 refine (dq_of ?_).trans (congrArg oV (v_nck (F := F) x M t))
 intro F' M'
 refine qv_oV ?_
 show (q_nck x F' M' t = .f ∨ ∃ y, q_nck x F' M' t = .v y)
 unfold q_nck
 cases x.ev t <;> first | exact .inl rfl | exact .inr ⟨_, rfl⟩
def cpV : V → Option V
 | .l0 => some (.i .i64 0)
 | .l _ _ _ c => some (.i .i64 (c : Int))
 | _ => none
theorem v_cp (x : X) (M : Mem) (t : T) : (qop (.cp x) F M t).val = cpV (x.ev t) := by
 show (q_cp x F M t).val = _
 unfold q_cp
 cases x.ev t <;> rfl
theorem cpV_l0 : cpV .l0 = some (.i .i64 0) := Eq.trans rfl (Eq.refl _)
theorem dq_cp (x : X) (M : Mem) (t : T) : dqR (.cp x) F M t = oV (cpV (x.ev t)) := by
 refine (dq_of ?_).trans (congrArg oV (v_cp (F := F) x M t))
 intro F' M'
 refine qv_oV ?_
 show (q_cp x F' M' t = .f ∨ ∃ y, q_cp x F' M' t = .v y)
 unfold q_cp
 cases x.ev t <;> first | exact .inl rfl | exact .inr ⟨_, rfl⟩
def sdV : V → Option V
 | .l0 => some .p0
 | .l b o _ c => if c = 0 then none else some (.p b o)
 | .u b o _ el kn => if el < kn then some (.p b o) else none
 | _ => none
theorem q_sd_eq (x : X) (M : Mem) (t : T) : q_sd x F M t = oV (sdV (x.ev t)) := by
 unfold q_sd
 cases x.ev t with
 | l b o n c =>
   show (bif Nat.beq c 0 then QR.f else .v (.p b o)) = oV (if c = 0 then none else some (.p b o))
   rw [beqN]
   by_cases h : c = 0
   · rw [decide_eq_true h, if_pos h]; rfl
   · rw [decide_eq_false h, if_neg h]; rfl
 | u b o n el kn =>
   show (bif Nat.blt el kn then QR.v (.p b o) else .f) = oV (if el < kn then some (.p b o) else none)
   rw [bltN]
   by_cases h : el < kn
   · rw [decide_eq_true h, if_pos h]; rfl
   · rw [decide_eq_false h, if_neg h]; rfl
 | _ => rfl
theorem oV_val (o : Option V) : (oV o).val = o := by cases o <;> rfl
theorem v_sd (x : X) (M : Mem) (t : T) : (qop (.sd x) F M t).val = sdV (x.ev t) := by
 show (q_sd x F M t).val = _
 rw [q_sd_eq, oV_val]
theorem dq_sd (x : X) (M : Mem) (t : T) : dqR (.sd x) F M t = oV (sdV (x.ev t)) := by
 refine (dq_of ?_).trans (congrArg oV (v_sd (F := F) x M t))
 intro F' M'
 show q_sd x F' M' t = oV (q_sd x [] .e t).val
 rw [q_sd_eq, q_sd_eq, oV_val]
theorem sdV_l0 : sdV .l0 = some .p0 := Eq.trans rfl (Eq.refl _)
theorem sdV_u {b o n el kn : Nat} (h : el < kn) : sdV (.u b o n el kn) = some (.p b o) := if_pos h
def upV (F : RO) (M : Mem) (x : V) : Option V := (qop (.up (.c x)) F M .e).val
theorem v_up (x : X) (M : Mem) (t : T) : (qop (.up x) F M t).val = upV F M (x.ev t) := Eq.trans rfl (Eq.refl _)
theorem upV_row {M : Mem} {b o ty n : Nat} {ex str : Bool} {fz : Nat} {d : List V} {t : T} (h : M.get b = some (.cells ty n ex fz str d t)) (ho : o < n) : upV F M (.p b o) = some (.p b o) := by
 show (asCells (look F M b) QR.f fun n _ _ => bif Nat.blt o n then QR.r (.p b o) b else .f).val = _
 rw [look_some_M h]
 show (bif Nat.blt o n then QR.r (.p b o) b else .f).val = _
 rw [bltN, decide_eq_true ho]; rfl
def dnV (ty sz : Nat) (F : RO) (M : Mem) (x : V) : Option V := (qop (.dn ty sz (.c x)) F M .e).val
theorem v_dn (ty sz : Nat) (x : X) (M : Mem) (t : T) : (qop (.dn ty sz x) F M t).val = dnV ty sz F M (x.ev t) := Eq.trans rfl (Eq.refl _)
theorem dnV_row {M : Mem} {b ty n : Nat} {str : Bool} {fz : Nat} {d : List V} {t : T} (h : M.get b = some (.cells ty n true fz str d t)) : dnV ty n F M (.p b 0) = some (.p b 0) := by
 show (dnIn ty n b (look F M b)).val = _
 rw [look_some_M h]
 show (bif Nat.beq ty ty && Nat.beq n n then QR.r (.p b 0) b else .f).val = _
 rw [Nat.beq_refl, Nat.beq_refl]; rfl
def QV (r : QR) : Prop := r = .f ∨ ∃ y, r = .v y
theorem qv_bif {r : QR} (b : Bool) (h : QV r) : QV (bif b then r else .f) := by
 cases b with
 | false => exact .inl rfl
 | true => exact h
theorem qv_bif2 {r s : QR} (b : Bool) (h : QV r) (h' : QV s) : QV (bif b then r else s) := by
 cases b with
 | false => exact h'
 | true => exact h
theorem qv_mkL (b o n c : Nat) : QV (mkL b o n c) := .inr ⟨_, mkL_eq b o n c⟩
theorem qv_mkU (b o n e k : Nat) : QV (mkU b o n e k) := .inr ⟨_, mkU_eq b o n e k⟩
theorem slcV_qv (sz : Nat) (v : V) (a b d : Option Nat) : QV (slcV sz v a b d) := by
 unfold slcV
 refine qv_bif _ ?_
 cases v with
 | l b0 o len cap => exact qv_bif _ (qv_mkL _ _ _ _)
 | l0 => exact qv_bif _ (.inr ⟨_, rfl⟩)
 | u b0 o len el kn =>
   cases d with
   | none => exact qv_bif _ (qv_bif2 _ (qv_mkU _ _ _ _ _) (qv_bif2 _ (qv_mkU _ _ _ _ _) (.inr ⟨_, by rw [fN_eq]⟩)))
   | some m => exact qv_bif _ (qv_mkL _ _ _ _)
 | ue b0 o0 o => exact qv_bif _ (.inr ⟨_, rfl⟩)
 | _ => exact .inl rfl
theorem dq_slL (sz : Nat) (x : X) (lo hi mx : Option X) (M : Mem) (t : T) : dqR (.slL sz x lo hi mx) F M t = oV (slLV sz (x.ev t) (lo.map fun x => x.ev t) (hi.map fun x => x.ev t) (mx.map fun x => x.ev t)) := by
 refine (dq_of ?_).trans (congrArg oV (v_slL (F := F) sz x lo hi mx M t))
 intro F' M'
 refine qv_oV ?_
 show QV (q_slL1 sz (x.ev t) (optNN t lo) (optNN t hi) (optNN t mx))
 cases optNN t lo with
 | none => exact .inl rfl
 | some a =>
   cases optNN t hi with
   | none => exact .inl rfl
   | some b =>
     cases optNN t mx with
     | none => exact .inl rfl
     | some d => exact slcV_qv _ _ _ _ _
def PutDA (o : Option (V × Blk)) (base i : Nat) (p : Pos) (r : List (Nat × Nat × CO)) (k : Kn) (t : T) (M : Mem) (c : Nat) (pend : List (Nat × Nat × Blk)) (reads : List (Nat × Nat)) (R : DS → Prop) : Prop := match o with
 | some x => WpD base r k (.mk (t.setP p x.1) M c ((i, base + i, x.2) :: pend) reads) R
 | none => False
theorem putDA (v : V) (b : Blk) (base i : Nat) (p : Pos) (r : List (Nat × Nat × CO)) (k : Kn) (t : T) (M : Mem) (c : Nat) (pend : List (Nat × Nat × Blk)) (reads : List (Nat × Nat)) (R : DS → Prop) :
  PutDA (some (v, b)) base i p r k t M c pend reads R = WpD base r k (.mk (t.setP p v) M c ((i, base + i, b) :: pend) reads) R := Eq.trans rfl (Eq.refl _)
theorem wd_a (base i mask : Nat) (p : Pos) (o : AO) (r : List (Nat × Nat × CO)) (t : T) (M : Mem) (c : Nat) (pend : List (Nat × Nat × Blk)) (reads : List (Nat × Nat)) (R : DS → Prop) (hl : (look F M (base + i)).isNone = true) (hr : readFree (base + i) reads = true) :
  WpD base ((i, mask, .mk (some p) (.a o) none) :: r) (K Φ rd fn F) (.mk t M c pend reads) R = PutDA (aop o (base + i) t) base i p r (K Φ rd fn F) t M c pend reads R := by
 have he : dOp (K Φ rd fn F) base (i, mask, .mk (some p) (.a o) none) (.mk t M c pend reads) = d_a1 i (base + i) (some p) t M c pend reads (aop o (base + i) t) := by
  show (fN (Nat.add base i) fun b => bif (look F M b).isNone && readFree b reads then d_a1 i b (some p) t M c pend reads (aop o b t) else none) = _
  rw [fN_eq]
  show (bif (look F M (base + i)).isNone && readFree (base + i) reads then d_a1 i (base + i) (some p) t M c pend reads (aop o (base + i) t) else none) = _
  rw [hl, hr]; rfl
 apply propext
 rw [wd_cons, he]
 cases aop o (base + i) t with
 | none => exact ⟨fun ⟨s', h, _⟩ => (by cases h), False.elim⟩
 | some x =>
   have h2 : d_a1 i (base + i) (some p) t M c pend reads (some x) = some (.mk (t.setP p x.1) M c ((i, base + i, x.2) :: pend) reads) := by
    show ((setT t (some p) x.1).force fun t => some (DS.mk t M c ((i, base + i, x.2) :: pend) reads)) = _
    rw [Tr.force_eq]; rfl
   rw [h2]
   constructor
   · rintro ⟨s', h, q⟩; obtain rfl := Option.some.inj h; exact q
   · exact fun q => ⟨_, rfl, q⟩
theorem mergeAll_cons (i b : Nat) (x : Blk) (r : List (Nat × Nat × Blk)) (M : Mem) : mergeAll ((i, b, x) :: r) M = mergeAll r (M.set b x) := by
 show (M.set b x).force (fun M => mergeAll r M) = _
 rw [Tr.force_eq]
theorem readFree_nil (b : Nat) : readFree b [] = true := Eq.trans rfl (Eq.refl _)
theorem readFree_cons (b i b' : Nat) (r : List (Nat × Nat)) (h : b' ≠ b) : readFree b ((i, b') :: r) = readFree b r := by
 show (bif Nat.beq b' b then false else readFree b r) = _
 rw [beqN, decide_eq_false h]; rfl
def rowP (ty n : Nat) (row : List V) : Blk := .cells ty n false 0 false [] (rowT row)
def nzA (ty : Nat) (l : V) (b : Nat) : Option (V × Blk) := aop (.nz ty (.c l)) b .e
theorem a_nz_w (ty : Nat) (l : X) (b : Nat) (t : T) : aop (.nz ty l) b t = nzA ty (l.ev t) b := Eq.trans rfl (Eq.refl _)
theorem nzA_i (ty n b : Nat) (h : n ≤ 1099511627776) : nzA ty (.i .i64 (n : Int)) b = some (.u b 0 n 0 n, rowP ty n []) := by
 show (match asI64 (.i .i64 (n : Int)) with | some n => bif Nat.ble n 1099511627776 then some (V.u b 0 n 0 n, Blk.cells ty n false 0 false [] .e) else none | none => none) = _
 show (bif Nat.ble n 1099511627776 then some (V.u b 0 n 0 n, Blk.cells ty n false 0 false [] .e) else none) = _
 rw [bleN, decide_eq_true h]; rfl
theorem rowP_cell {n : Nat} {row : List V} (h : row.length ≤ n) (i : Nat) (hi : i < row.length) : cell n [] (rowT row) i = row[i]? := by
 rw [cell_eq, if_pos (by omega)]
 unfold rowT
 rw [listTr_get, if_pos (by omega)]
 simp only [Nat.sub_zero]
 rw [List.getElem?_eq_getElem hi]
theorem rowP_cells {M : Mem} {b ty n : Nat} {row : List V} (h : M.get b = some (rowP ty n row)) (hn : row.length ≤ n) : CellsAt F M b 0 row := fun k hk => by
 rw [Nat.zero_add]
 unfold Ev.load1
 rw [look_some_M h]
 exact rowP_cell hn k hk
theorem rowP_store {M : Mem} {b ty n : Nat} {row vs : List V} (h : M.get b = some (rowP ty n row)) (hn : row.length + vs.length ≤ n) (h1 : allOne vs = true) : storeN M b row.length vs = some (M.set b (rowP ty n (row ++ vs))) := by
 rw [storeN_of h hn (Nat.zero_le _) h1]
 unfold rowP rowT
 have := listTr_snoc row vs 0 .e
 rw [Nat.zero_add] at this
 rw [this]
def BufAt (M : Mem) (c0 c b : Nat) (v : V) (l : List UInt8) : Prop :=
 (l = [] ∧ v = .l0) ∨ (c0 ≤ b ∧ b < c ∧ ∃ n, (l.length ≤ n ∧ 0 < n) ∧ v = .u b 0 l.length 0 n ∧ M.get b = some (rowP 5 n (l.map bV)))
theorem BufAt.up {M M' : Mem} {c0 c c' b : Nat} {v : V} {l : List UInt8} (h : BufAt M c0 c b v l) (hc : c ≤ c') (hb : b < c → M'.get b = M.get b) : BufAt M' c0 c' b v l := by
 rcases h with h | ⟨h1, h2, n, h3, h4, h5⟩
 · exact .inl h
 · exact .inr ⟨h1, by omega, n, h3, h4, by rw [hb h2]; exact h5⟩
theorem buf_to {M0 M : Mem} {c0 c b : Nat} {v : V} {l s : List UInt8} (h : BufAt M c0 c b v l) (hg : Gr c0 M0 c M) (hr : room (l.length + s.length) 1 = true) :
  RTo (appV F M c 5 1 1 v (sV s)) fun v' M' c' => ∃ b', BufAt M' c0 c' b' v' (l ++ s) ∧ Gr c0 M0 c' M' ∧ c ≤ c' ∧ (∀ x, x < c → x ≠ b → M'.get x = M.get x) ∧ (b' = b ∨ c ≤ b') := by
 unfold appV
 rw [split_s]
 have e1 : e_app1 F M c 5 1 1 v (some (s.length, s.map bV)) = app F M c 5 1 1 v s.length (s.map bV) := by
  show (bif allOne (s.map bV) && Nat.beq (s.map bV).length (Nat.mul s.length 1) then _ else _) = _
  rw [allOne_bytes, beqN, decide_eq_true (show (s.map bV).length = Nat.mul s.length 1 by rw [List.length_map]; exact (Nat.mul_one _).symm)]; rfl
 rw [e1]
 have hmap : (l ++ s).map bV = l.map bV ++ s.map bV := List.map_append
 by_cases hz : s = []
 · subst hz
   have e2 : app F M c 5 1 1 v 0 [] = .k v M c := by
    show (bif Nat.beq 0 0 then (bif lenOk v then RC.k v M c else .f) else _) = _
    have : lenOk v = true := by
     rcases h with ⟨_, rfl⟩ | ⟨_, _, n, ⟨hn, _⟩, rfl, _⟩
     · rfl
     · show Nat.ble l.length (Nat.sub n 0) = true
       rw [bleN]; exact decide_eq_true hn
    rw [this]; rfl
   exact ⟨v, M, c, e2, b, by rw [List.append_nil]; exact h, hg, Nat.le_refl _, fun _ _ _ => rfl, .inl rfl⟩
 · have hn0 : s.length ≠ 0 := fun e => hz (List.length_eq_zero_iff.1 e)
   have grownEq : ∀ (N : Mem) (vs : List V) (k : Nat), room k 1 = true → vs.length = k → grown N c 5 1 k 0 false vs = .k (.u c 0 k 0 k) (N.set c (rowP 5 k vs)) (c + 1) := by
    intro N vs k hk hv
    rw [grown_eq N c 5 1 k vs hk]
    unfold rowU rowP
    rw [hv]
   rcases h with ⟨rfl, rfl⟩ | ⟨ha, hb, n, ⟨hn, hn1⟩, rfl, hM⟩
   · rw [List.length_nil, Nat.zero_add] at hr
     refine ⟨_, _, _, (app_nil hn0).trans (grownEq M (s.map bV) s.length hr (List.length_map ..)), c, .inr ⟨hg.le, by omega, s.length, ⟨Nat.le_refl _, by omega⟩, rfl, ?_⟩, hg.set c _ hg.le (by omega) (by omega), by omega, fun x hx _ => get_ne _ _ (by omega), .inr (Nat.le_refl _)⟩
     rw [Tr.get_set, if_pos rfl]; rfl
   · by_cases hfit : l.length + s.length ≤ n
     · have hst := rowP_store hM (vs := s.map bV) (by rw [List.length_map, List.length_map]; exact hfit) (allOne_bytes s)
       rw [List.length_map] at hst
       have e3 : app_u F M c 5 1 1 b 0 l.length 0 n s.length (s.map bV) = .k (.u b 0 (l.length + s.length) 0 n) (M.set b (rowP 5 n (l.map bV ++ s.map bV))) c := by
        unfold app_u
        rw [bleN, decide_eq_true (show Nat.add (Nat.add 0 l.length) s.length ≤ n by show 0 + l.length + s.length ≤ n; omega), cond_true]
        unfold appIn
        rw [show Nat.add 0 (Nat.mul l.length 1) = l.length by show 0 + l.length * 1 = l.length; omega, hst]
        show fN (l.length + s.length) (fun len => RC.k (.u b 0 len 0 n) _ c) = _
        rw [fN_eq]
       refine ⟨_, _, _, (app_un hn0).trans e3, b, .inr ⟨ha, hb, n, ⟨by rw [List.length_append]; exact hfit, hn1⟩, by rw [List.length_append], ?_⟩, hg.set b _ ha hb (Nat.le_refl _), Nat.le_refl _, fun x _ hxb => get_ne _ _ hxb, .inl rfl⟩
       rw [Tr.get_set, if_pos rfl, hmap]
     · have hcl := (rowP_cells (F := F) hM (by rw [List.length_map]; exact hn))
       have hcl2 : CellsAt F M b 0 (l.map fun x => [bV x]).flatten := by rw [flat_bytes]; exact hcl
       obtain ⟨r, hrd⟩ := readB_of Nat.one_pos (es := l.map fun x => [bV x]) (fun e he => by obtain ⟨x, _, rfl⟩ := List.mem_map.1 he; rfl) hcl2
       rw [List.length_map, flat_bytes] at hrd
       have hmw : mayWrite M b 5 (Nat.add 0 (Nat.mul l.length 1)) (Nat.add 0 (Nat.mul (Nat.sub n 0) 1)) = some (0, false) := by
        unfold mayWrite
        rw [hM]
        show (bif Nat.beq 5 5 && Nat.beq n (0 + (n - 0) * 1) && Nat.ble 0 (0 + l.length * 1) && Nat.ble (0 + l.length * 1) (0 + (n - 0) * 1) then some (0, false) else none) = _
        rw [beqN, beqN, bleN, bleN, decide_eq_true (show 5 = 5 from rfl), decide_eq_true (show n = 0 + (n - 0) * 1 by omega), decide_eq_true (Nat.zero_le _), decide_eq_true (show 0 + l.length * 1 ≤ 0 + (n - 0) * 1 by omega)]; rfl
       have e3 : app_u F M c 5 1 1 b 0 l.length 0 n s.length (s.map bV) = grown (M.del b) c 5 1 (l.length + s.length) 0 false (l.map bV ++ s.map bV) := by
        unfold app_u
        rw [bleN, decide_eq_false (show ¬ Nat.add (Nat.add 0 l.length) s.length ≤ n by show ¬ 0 + l.length + s.length ≤ n; omega), cond_false, hmw]
        show grownL (M.del b) c 5 1 (l.length + s.length) 0 false (s.map bV) (readB F M 1 l.length b 0) = _
        rw [hrd]; rfl
       refine ⟨_, _, _, ((app_un hn0).trans e3).trans (grownEq _ _ _ hr (by rw [List.length_append, List.length_map, List.length_map])), c, .inr ⟨by omega, by omega, l.length + s.length, ⟨by rw [List.length_append]; exact Nat.le_refl _, by omega⟩, by rw [List.length_append], ?_⟩, (hg.del b ha).set c _ (by omega) (by omega) (by omega), by omega, fun x hx hxb => ?_, .inr (Nat.le_refl _)⟩
       · rw [Tr.get_set, if_pos rfl, hmap]
       · rw [get_ne _ _ (by omega), Tr.get_del, if_neg hxb]
def cpyE (F : RO) (M : Mem) (c sz : Nat) (x y : V) : RC := e_cpy sz (.c x) (.c y) F M c .e
theorem x_cpy_eq (sz : Nat) (x y : X) (M : Mem) (c : Nat) (t : T) : doE (.cpy sz x y) (K Φ rd fn F) M c t = cpyE F M c sz (x.ev t) (y.ev t) := Eq.trans rfl (Eq.refl _)
theorem cpyE_0 (M : Mem) (c sz b o e k : Nat) : cpyE F M c sz (.u b o 0 e k) .l0 = .k (.i .i64 0) M c := by
 show fN (bif Nat.ble 0 0 then 0 else 0) (fun n => bif Nat.beq n 0 then RC.k (.i .i64 0) M c else cpyW M c n (.u b o 0 e k) (cpySrc F M sz n .l0)) = _
 rw [fN_eq]; rfl
end
section
variable {Φ : Nat → Option CF} {rd : Option Nat} {fn : Nat} {F : RO}
def Prot (M M' : Mem) (F F' : RO) (s : List (Nat × Blk)) : Prop :=
 (∀ b, (∃ blk, (b, blk) ∈ s ∧ M'.get b = none ∧ M.get b = some blk) ∨ ((∀ blk, (b, blk) ∉ s) ∧ M'.get b = M.get b)) ∧ (∀ b, (roGet F' b).isSome → (∃ blk, (b, blk) ∈ s) ∨ (roGet F b).isSome) ∧ (∀ b blk, (b, blk) ∈ s → M.get b = some blk)
theorem protect_prot (mask : Nat) (M0 : Mem) (F0 : RO) : ∀ (reads : List (Nat × Nat)) (F : RO) (M : Mem) (s : List (Nat × Blk)), Prot M0 M F0 F s → ∃ F' M' s', protect mask reads F M s = Pr.mk F' M' s' ∧ Prot M0 M' F0 F' s'
 | [], F, M, s, h => ⟨F, M, s, rfl, h⟩
 | (i, b) :: r, F, M, s, h => by
   rw [protect]
   cases testBit mask i with
   | true => exact protect_prot mask M0 F0 r F M s h
   | false =>
     rw [cond_false]
     cases hb : M.get b with
     | none => exact protect_prot mask M0 F0 r F M s h
     | some blk =>
       show ∃ F' M' s', (M.del b).force (fun M => protect mask r ((b, blk) :: F) M ((b, blk) :: s)) = Pr.mk F' M' s' ∧ _
       rw [Tr.force_eq]
       refine protect_prot mask M0 F0 r _ _ _ ⟨fun x => ?_, fun x hx => ?_, fun x y hxy => ?_⟩
       · rw [Tr.get_del]
         rcases h.1 x with ⟨y, h1, h2, h3⟩ | ⟨h1, h2⟩
         · refine .inl ⟨y, List.mem_cons_of_mem _ h1, ?_, h3⟩
           split
           · rfl
           · exact h2
         · by_cases e : x = b
           · subst e
             rw [if_pos rfl]
             exact .inl ⟨blk, List.mem_cons_self .., rfl, by rw [← h2]; exact hb⟩
           · rw [if_neg e]
             refine .inr ⟨fun y hy => ?_, h2⟩
             rcases List.mem_cons.1 hy with hy | hy
             · injection hy with e1 _; exact e e1
             · exact h1 y hy
       · rw [roGet_cons] at hx
         by_cases e : b = x
         · subst e; exact .inl ⟨blk, List.mem_cons_self ..⟩
         · rw [if_neg e] at hx
           rcases h.2.1 x hx with ⟨y, hy⟩ | hy
           · exact .inl ⟨y, List.mem_cons_of_mem _ hy⟩
           · exact .inr hy
       · rcases List.mem_cons.1 hxy with hxy | hxy
         · injection hxy with e1 e2
           subst e1 e2
           rcases h.1 x with ⟨z, k1, k2, k3⟩ | ⟨k1, k2⟩
           · rw [k2] at hb; cases hb
           · rw [← k2]; exact hb
         · exact h.2.2 x y hxy
theorem unprotect_get : ∀ (s : List (Nat × Blk)) (N : Mem) (b : Nat), (∀ blk, (b, blk) ∉ s) → (unprotect s N).get b = N.get b
 | [], N, b, h => rfl
 | (x, y) :: r, N, b, h => by
   show ((N.set x y).force fun N => unprotect r N).get b = _
   rw [Tr.force_eq, unprotect_get r _ b fun blk hb => h blk (List.mem_cons_of_mem _ hb), get_ne]
   intro e; subst e; exact h y (List.mem_cons_self ..)
theorem unprotect_mem : ∀ (s : List (Nat × Blk)) (N : Mem) (b : Nat) (blk : Blk), (b, blk) ∈ s → (∀ y, (b, y) ∈ s → y = blk) → (unprotect s N).get b = some blk
 | [], N, b, blk, h, _ => by cases h
 | (x, y) :: r, N, b, blk, h, hu => by
   show ((N.set x y).force fun N => unprotect r N).get b = _
   rw [Tr.force_eq]
   by_cases hr : ∃ z, (b, z) ∈ r
   · obtain ⟨z, hz⟩ := hr
     have : z = blk := hu z (List.mem_cons_of_mem _ hz)
     subst this
     exact unprotect_mem r _ b z hz fun y hy => hu y (List.mem_cons_of_mem _ hy)
   · rw [unprotect_get r _ b fun z hz => hr ⟨z, hz⟩]
     rcases List.mem_cons.1 h with h | h
     · injection h with e1 e2; subst e1 e2; exact get_same _ _ _
     · exact absurd ⟨blk, h⟩ hr
theorem wd_alloc {f : Nat} {v : V} {blk : Blk} (base i mask : Nat) (dst : Option Pos) (as : List X) (r : List (Nat × Nat × CO)) (t : T) (M : Mem) (c : Nat) (reads : List (Nat × Nat)) (R : DS → Prop) (ok : Okm F M c)
  (hf : ∀ (F' : RO) (M' : Mem), callC (den Φ) F' f (evs as t) M' c (Φ f) = .k v (M'.set c blk) (c + 1))
  (hk : ∀ N : Mem, N.get c = some blk → (∀ b, b ≠ c → N.get b = M.get b) → WpD base r (K Φ rd fn F) (.mk (setT t dst v) N (c + 1) [] reads) R) :
  WpD base ((i, mask, .mk dst (.e (.call f as)) none) :: r) (K Φ rd fn F) (.mk t M c [] reads) R := by
 obtain ⟨F', M', s, hp, h1, h2, h3⟩ := protect_prot mask M F reads F M [] ⟨fun b => .inr ⟨fun _ h => (by cases h), rfl⟩, fun b h => .inr h, fun b blk h => (by cases h)⟩
 have hcs : ∀ y, (c, y) ∉ s := by
  intro y hy
  rcases h1 c with ⟨z, g1, g2, g3⟩ | ⟨g1, g2⟩
  · rw [ok.hiM c (Nat.le_refl _)] at g3; cases g3
  · exact g1 y hy
 have hro : roFree (M'.set c blk) F' = true := roFree_of _ _ fun b hb => by
  have hbc : b ≠ c := by
   intro e; subst e
   rcases h2 b hb with ⟨y, hy⟩ | hy
   · exact hcs y hy
   · rw [ok.hiF b (Nat.le_refl _)] at hy; cases hy
  rw [get_ne _ _ hbc]
  rcases h1 b with ⟨z, g1, g2, g3⟩ | ⟨g1, g2⟩
  · exact g2
  · rcases h2 b hb with ⟨y, hy⟩ | hy
    · exact absurd hy (g1 y)
    · rw [g2]; exact ok.ap b hy
 have he : dOp (K Φ rd fn F) base (i, mask, .mk dst (.e (.call f as)) none) (.mk t M c [] reads) = some (.mk (setT t dst v) (unprotect s (M'.set c blk)) (c + 1) [] reads) := by
  show d_e1 (.call f as) (K Φ rd fn F) dst t c [] reads (protect mask reads F M []) = _
  rw [hp]
  show (bif pendFree F' M' [] then d_e2 F' dst t [] reads s (callC (den Φ) F' f (evs as t) M' c (Φ f)) else none) = _
  rw [hf]
  show (bif roFree (M'.set c blk) F' && pendFree F' (M'.set c blk) [] then (unprotect s (M'.set c blk)).force fun M => (setT t dst v).force fun t => some (DS.mk t M (c + 1) [] reads) else none) = _
  rw [hro]
  show (unprotect s (M'.set c blk)).force (fun M => (setT t dst v).force fun t => some (DS.mk t M (c + 1) [] reads)) = _
  rw [Tr.force_eq, Tr.force_eq]
 rw [wd_cons]
 refine ⟨_, he, hk _ ?_ fun b hb => ?_⟩
 · rw [unprotect_get _ _ _ hcs]; exact get_same _ _ _
 · rcases h1 b with ⟨z, g1, g2, g3⟩ | ⟨g1, g2⟩
   · rw [unprotect_mem s _ b z g1 fun y hy => ?_, g3]
     have := h3 b y hy
     rw [g3] at this
     exact (Option.some.inj this).symm
   · rw [unprotect_get _ _ _ g1, get_ne _ _ hb, g2]
end
def ErrVar (F : RO) (g : Nat) : Prop := ∃ t b o, ∀ M : Mem, M.get g = none → load1 F M g 0 = some (.a t (.p b o))
theorem cell_plain {W : World} {a : Addr} {v : Value} (h : W.cell? a = some v) : ∃ r o, a = ⟨r, o, none⟩ ∧ r < W.heap.size := by
 obtain ⟨r, o, sp⟩ := a
 unfold World.cell? at h
 split at h
 · rename_i cs ty fr hh
   have hlt : r < W.heap.size := (Array.getElem?_eq_some_iff.1 hh).1
   cases sp with
   | none => exact ⟨r, o, rfl, hlt⟩
   | some k => simp at h
 · cases h
theorem errVar_of {P : Program} {n nm : String} {text : List UInt8} {r : List (String × DataW Unit)} {W : World} {C g : Nat} {ti tp te ts : TypeId} {ms : Array (String × TypeId)} {f : Field}
  (hC : W.heap.size ≤ C) (h : laidMet P ((n, .iface nm (.ptr (.agg [.lit (.string text)]))) :: r) W)
  (hg : P.globalNamed n = some g) (ht : (P.globals[g]?).map (·.type) = some ti) (hi : P.underlying ti = some (.interface ms)) (hrow : ∀ u, P.typeName? 3 u = some nm → u = tp)
  (hp : P.underlying tp = some (.pointer te)) (he : P.underlying te = some (.struct #[f])) (hft : f.type = ts) (hfo : f.offset = 0) (hs : P.underlying ts = some .string) (hc : P.cellsOf te = 1) (hcs : P.cellsOf ts = 1) :
  ErrVar (heapF W C) g := by
 obtain ⟨a, s, hv, hca, _, _⟩ := laid_sentinel h hg ht hi hrow hp he hft hfo hs hc hcs
 obtain ⟨rb, o, rfl, hlt⟩ := cell_plain hca
 have hcell := World.var?_cell hg hv 0
 refine ⟨tp, rb, o, fun M hM => ?_⟩
 have hv2 : vOf C (.iface tp (.pointer (some ⟨rb, o, none⟩))) = some (.a tp (.p rb o)) := if_pos (Nat.lt_of_lt_of_le hlt hC)
 have := heap_load (C := C) (W := W) (r := g) (o := 0) (x := .iface tp (.pointer (some ⟨rb, o, none⟩))) (by simpa using hcell) hv2
 unfold Ev.load1 at this ⊢
 rw [look_none_M hM]
 rw [look_none_M (show (Tr.e : Mem).get g = none from rfl)] at this
 exact this
def b40_1 : CC := (.reg [(aa a2 (.al 80 [(.b false), (.b false), (.b false), (.b false)]))])
def b40_2 : CC := (.reg [(qq a5 (.bi .eql z3 (x6 1))), (qq a4 (.mv z5))])
def b40_3 : CC := (.reg [(qq a6 (.bld [(.b false), (.b false), (.b false), (.b false)] [(3, 1, xT)])), (ez (.st 4 z2 z6))])
def b40_4 : CC := (.reg [(qq a8 (.bi .eql z3 (x6 2))), (qq a7 (.mv z8))])
def b40_5 : CC := (.reg [(qq a9 (.bld [(.b false), (.b false), (.b false), (.b false)] [(1, 1, xT)])), (ez (.st 4 z2 z9))])
def b40_6 : CC := (.reg [(qq a11 (.bi .eql z3 (x6 3))), (qq a10 (.mv z11))])
def b40_7 : CC := (.reg [(qq a12 (.bld [(.b false), (.b false), (.b false), (.b false)] [(0, 1, xT), (3, 1, xT)])), (ez (.st 4 z2 z12))])
def b40_8 : CC := (.reg [(qq a14 (.bi .eql z3 (x6 4))), (qq a13 (.mv z14))])
def b40_9 : CC := (.reg [(qq a15 (.bld [(.b false), (.b false), (.b false), (.b false)] [(0, 1, xT), (1, 1, xT)])), (ez (.st 4 z2 z15))])
def b40_10 : CC := (.reg [(qq a17 (.bi .eql z3 (x6 5))), (qq a16 (.mv z17))])
def b40_11 : CC := (.reg [(qq a18 (.bld [(.b false), (.b false), (.b false), (.b false)] [(0, 1, xT), (1, 1, xT), (2, 1, xT)])), (ez (.st 4 z2 z18))])
def b40_12 : CC := (.reg [(qq a20 (.bi .eql z3 (x6 6))), (qq a19 (.mv z20))])
def b40_13 : CC := (.reg [(qq a21 (.bld [(.b false), (.b false), (.b false), (.b false)] [(0, 1, xT), (1, 1, xT), (3, 1, xT)])), (ez (.st 4 z2 z21))])
def b40_14 : CC := (.cond z19 (.seq b40_13 .ret) .skip)
def b40_15 : CC := (.cond z16 (.seq b40_11 .ret) (.seq b40_12 b40_14))
def b40_16 : CC := (.cond z13 (.seq b40_9 .ret) (.seq b40_10 b40_15))
def b40_17 : CC := (.cond z10 (.seq b40_7 .ret) (.seq b40_8 b40_16))
def b40_18 : CC := (.cond z7 (.seq b40_5 .ret) (.seq b40_6 b40_17))
def b40_19 : CC := (.cond z4 (.seq b40_3 .ret) (.seq b40_4 b40_18))
def b40_20 : CC := (.seq (.reg [(qq a3 (.mv z0))]) (.block 0 (.seq b40_2 b40_19)))
def b40_21 : CC := (.reg [(qq a22 (.bld [(.b false), (.b false), (.b false), (.b false)] [])), (ez (.st 4 z2 z22))])
def c40 : CF := .mk 5 [.cn a2 4] (.seq b40_1 (.seq b40_20 (.seq b40_21 .ret)))
theorem e40 (v0 : V) : argTr 5 [v0] = (.n sk4 (some v0) sk4) := rfl
def B40 := ai @e40 (ai (wu b40_1.eq_1) (ai (wu b40_2.eq_1) (ai (wu b40_3.eq_1) (ai (wu b40_4.eq_1) (ai (wu b40_5.eq_1) (ai (wu b40_6.eq_1) (ai (wu b40_7.eq_1) (ai (wu b40_8.eq_1) (ai (wu b40_9.eq_1) (ai (wu b40_10.eq_1) (ai (wu b40_11.eq_1) (ai (wu b40_12.eq_1) (ai (wu b40_13.eq_1) (ai (wu b40_14.eq_1) (ai (wu b40_15.eq_1) (ai (wu b40_16.eq_1) (ai (wu b40_17.eq_1) (ai (wu b40_18.eq_1) (ai (wu b40_19.eq_1) (ai (wu b40_20.eq_1) (wu b40_21.eq_1)))))))))))))))))))))
def b57_1 : CC := (.reg [(qq a3 (.mv z0)), (qq a4 (.bi .geq z3 (x6 0))), (qq a5 (.mv z4)), ⟨(some a6), .q (.mv z0), (some (a5, true))⟩, ⟨(some a7), .q (.bi .lss z6 (x6 16)), (some (a5, true))⟩, (qq a8 (.pk z5 z7 xF)), (qq a2 (.mv z8))])
def b57_2 : CC := (.seq (.reg [(qq a2 (.mv xF))]) (.seq b57_1 .ret))
def c57 : CF := .mk 4 [.t a2] b57_2
theorem e57 (v0 : V) : argTr 4 [v0] = (.n sk3 (some v0) sk3) := rfl
def B57 := ai @e57 (ai (wu b57_1.eq_1) (wu b57_2.eq_1))
def b54_1 : CC := (.reg [(qq a3 (.mv z0)), (qq a4 (.bi .eql z3 (x6 3))), (qq a5 (.mv z4)), ⟨(some a6), .q (.mv z0), (some (a5, false))⟩, ⟨(some a7), .q (.bi .eql z6 (x6 6)), (some (a5, false))⟩, (qq a8 (.pk z5 xT z7)), (qq a2 (.mv z8))])
def b54_2 : CC := (.seq (.reg [(qq a2 (.mv xF))]) (.seq b54_1 .ret))
def c54 : CF := .mk 4 [.t a2] b54_2
theorem e54 (v0 : V) : argTr 4 [v0] = (.n sk3 (some v0) sk3) := rfl
def B54 := ai @e54 (ai (wu b54_1.eq_1) (wu b54_2.eq_1))
def b38_1 : CC := (.reg [(qq a2 (.mv xF)), (qq a3 (.mv xF)), (qq a4 (.mv xF)), (qq a5 (.mv xF))])
def b38_2 : CC := (.reg [(qq a8 (.bi .eql z6 (x6 1))), (qq a7 (.mv z8))])
def b38_3 : CC := (.reg [(qq a2 (.mv xF)), (qq a3 (.mv xF)), (qq a4 (.mv xF)), (qq a5 (.mv xT))])
def b38_4 : CC := (.reg [(qq a10 (.bi .eql z6 (x6 2))), (qq a9 (.mv z10))])
def b38_5 : CC := (.reg [(qq a2 (.mv xF)), (qq a3 (.mv xT)), (qq a4 (.mv xF)), (qq a5 (.mv xF))])
def b38_6 : CC := (.reg [(qq a12 (.bi .eql z6 (x6 3))), (qq a11 (.mv z12))])
def b38_7 : CC := (.reg [(qq a2 (.mv xT)), (qq a3 (.mv xF)), (qq a4 (.mv xF)), (qq a5 (.mv xT))])
def b38_8 : CC := (.reg [(qq a14 (.bi .eql z6 (x6 4))), (qq a13 (.mv z14))])
def b38_9 : CC := (.reg [(qq a2 (.mv xT)), (qq a3 (.mv xT)), (qq a4 (.mv xF)), (qq a5 (.mv xF))])
def b38_10 : CC := (.reg [(qq a16 (.bi .eql z6 (x6 5))), (qq a15 (.mv z16))])
def b38_11 : CC := (.reg [(qq a2 (.mv xT)), (qq a3 (.mv xT)), (qq a4 (.mv xT)), (qq a5 (.mv xF))])
def b38_12 : CC := (.reg [(qq a18 (.bi .eql z6 (x6 6))), (qq a17 (.mv z18))])
def b38_13 : CC := (.reg [(qq a2 (.mv xT)), (qq a3 (.mv xT)), (qq a4 (.mv xF)), (qq a5 (.mv xT))])
def b38_14 : CC := (.cond z17 (.seq b38_13 .ret) .skip)
def b38_15 : CC := (.cond z15 (.seq b38_11 .ret) (.seq b38_12 b38_14))
def b38_16 : CC := (.cond z13 (.seq b38_9 .ret) (.seq b38_10 b38_15))
def b38_17 : CC := (.cond z11 (.seq b38_7 .ret) (.seq b38_8 b38_16))
def b38_18 : CC := (.cond z9 (.seq b38_5 .ret) (.seq b38_6 b38_17))
def b38_19 : CC := (.cond z7 (.seq b38_3 .ret) (.seq b38_4 b38_18))
def b38_20 : CC := (.seq (.reg [(qq a6 (.mv z0))]) (.block 0 (.seq b38_2 b38_19)))
def b38_21 : CC := (.reg [(qq a2 (.mv xF)), (qq a3 (.mv xF)), (qq a4 (.mv xF)), (qq a5 (.mv xF))])
def c38 : CF := .mk 5 [.t a2, .t a3, .t a4, .t a5] (.seq b38_1 (.seq b38_20 (.seq b38_21 .ret)))
theorem e38 (v0 : V) : argTr 5 [v0] = (.n sk4 (some v0) sk4) := rfl
def B38 := ai @e38 (ai (wu b38_1.eq_1) (ai (wu b38_2.eq_1) (ai (wu b38_3.eq_1) (ai (wu b38_4.eq_1) (ai (wu b38_5.eq_1) (ai (wu b38_6.eq_1) (ai (wu b38_7.eq_1) (ai (wu b38_8.eq_1) (ai (wu b38_9.eq_1) (ai (wu b38_10.eq_1) (ai (wu b38_11.eq_1) (ai (wu b38_12.eq_1) (ai (wu b38_13.eq_1) (ai (wu b38_14.eq_1) (ai (wu b38_15.eq_1) (ai (wu b38_16.eq_1) (ai (wu b38_17.eq_1) (ai (wu b38_18.eq_1) (ai (wu b38_19.eq_1) (ai (wu b38_20.eq_1) (wu b38_21.eq_1)))))))))))))))))))))
def b39_1 : CC := (.reg [(qq a4 (.mv xF))])
def b39_2 : CC := (.reg [(qq a5 (.mv z1)), (qq a6 (.bi .eql z5 (x6 0))), (qq a7 (.mv z6)), ⟨(some a8), .q (.mv z0), (some (a7, false))⟩, ⟨(some a9), .q (.mv z8), (some (a7, false))⟩, ⟨(some a10), .q (.mv z1), (some (a9, true))⟩, ⟨(some a11), .q (.bi .gtr z10 (x6 0)), (some (a9, true))⟩, ⟨(some a12), .q (.pk z9 z11 xF), (some (a7, false))⟩, ⟨(some a13), .q (.mv z12), (some (a7, false))⟩, ⟨(some a14), .q (.mv z1), (some (a13, true))⟩, ⟨(some a15), .q (.bi .lss z14 (x6 16)), (some (a13, true))⟩, ⟨(some a16), .q (.pk z13 z15 xF), (some (a7, false))⟩, (qq a17 (.pk z7 xT z16)), (qq a4 (.mv z17))])
def c39 : CF := .mk 5 [.t a4] (.seq b39_1 (.seq b39_2 .ret))
theorem e39 (v0 v1 : V) : argTr 5 [v0, v1] = (.n (.n sk3 (some v1) sk3) (some v0) sk4) := rfl
def B39 := ai @e39 (ai (wu b39_1.eq_1) (wu b39_2.eq_1))
def formI (op : Int) : Int := if op = 3 ∨ op = 23 then 1 else if op = 24 then 2 else if op = 5 ∨ op = 6 ∨ op = 25 then 3 else if op = 7 then 4 else if 8 ≤ op ∧ op ≤ 17 then 5 else if 18 ≤ op ∧ op ≤ 22 ∨ 26 ≤ op ∧ op ≤ 28 then 6 else 0
def dI (f : Int) : Bool := decide (f = 3 ∨ f = 4 ∨ f = 5 ∨ f = 6)
def aI (f : Int) : Bool := decide (f = 2 ∨ f = 4 ∨ f = 5 ∨ f = 6)
def bI (f : Int) : Bool := decide (f = 5)
def iI (f : Int) : Bool := decide (f = 1 ∨ f = 3 ∨ f = 6)
def regI (b : Bool) (n : Int) : Bool := decide (n = 0 ∨ b = true ∧ 0 < n ∧ n < 16)
theorem t40 (Φ : Nat → Option CF) (h : Φ 40 = some c40) (f : Int) (ct : Nat) : To Φ 40 [.i .i64 f] ct (.g [.b (dI f), .b (aI f), .b (bI f), .b (iI f)]) := by
 refine to_walk h ?_
 simp only [WX, B40]
 repeat' (refine wp_cond (by simp only [WX]; rfl) (fun h => ?_) (fun h => ?_) <;> simp only [WX, Nat.reduceAdd, Nat.reduceLeDiff, B40, h])
 all_goals simp only [decide_eq_true_eq, decide_eq_false_iff_not] at *
 all_goals first | (subst f; rfl) | (simp [dI, aI, bI, iI, *])
theorem t57 (Φ : Nat → Option CF) (h : Φ 57 = some c57) (n : Int) (ct : Nat) : To Φ 57 [.i .i64 n] ct (.b (decide (0 ≤ n ∧ n < 16))) := by
 refine to_walk h ?_
 simp only [WX, B57]
 repeat' (refine wo_g (by simp only [WX]; rfl) (fun h => ?_) (fun h => ?_) <;> simp only [WX, h])
 all_goals simp_all
 all_goals omega
theorem t54 (Φ : Nat → Option CF) (h : Φ 54 = some c54) (n : Int) (ct : Nat) : To Φ 54 [.i .i64 n] ct (.b (decide (n = 3 ∨ n = 6))) := by
 refine to_walk h ?_
 simp only [WX, B54]
 repeat' (refine wo_g (by simp only [WX]; rfl) (fun h => ?_) (fun h => ?_) <;> simp only [WX, h])
 all_goals simp_all
 all_goals omega
theorem t39 (Φ : Nat → Option CF) (h : Φ 39 = some c39) (b : Bool) (n : Int) (ct : Nat) : To Φ 39 [.b b, .i .i64 n] ct (.b (regI b n)) := by
 refine to_walk h ?_
 simp only [WX, B39]
 repeat' (refine wo_g (by simp only [WX]; rfl) (fun h => ?_) (fun h => ?_) <;> simp only [WX, h])
 all_goals simp_all [regI]
 all_goals omega
theorem t38 (Φ : Nat → Option CF) (h : Φ 38 = some c38) (f : Int) (ct : Nat) : To Φ 38 [.i .i64 f] ct (.t [.b (dI f), .b (aI f), .b (bI f), .b (iI f)]) := by
 refine to_walk h ?_
 simp only [WX, B38]
 repeat' (refine wp_cond (by simp only [WX]; rfl) (fun h => ?_) (fun h => ?_) <;> simp only [WX, B38, h])
 all_goals simp only [decide_eq_true_eq, decide_eq_false_iff_not] at *
 all_goals first | (subst f; rfl) | (simp [dI, aI, bI, iI, *])
def b53_1 : CC := (.reg [(aa a0 (.al 102 [(.s 0 0), (.s 0 0), (.s 0 0), (.s 0 0), (.s 0 0), (.s 0 0), (.s 0 0), (.s 0 0), (.s 0 0), (.s 0 0), (.s 0 0), (.s 0 0), (.s 0 0), (.s 0 0), (.s 0 0), (.s 0 0), (.s 0 0), (.s 0 0), (.s 0 0), (.s 0 0), (.s 0 0), (.s 0 0), (.s 0 0), (.s 0 0), (.s 0 0), (.s 0 0), (.s 0 0), (.s 0 0), (.s 0 0)]))])
def b53_2 : CC := (.reg [(qq a1 (.bld [(.s 0 0), (.s 0 0), (.s 0 0), (.s 0 0), (.s 0 0), (.s 0 0), (.s 0 0), (.s 0 0), (.s 0 0), (.s 0 0), (.s 0 0), (.s 0 0), (.s 0 0), (.s 0 0), (.s 0 0), (.s 0 0), (.s 0 0), (.s 0 0), (.s 0 0), (.s 0 0), (.s 0 0), (.s 0 0), (.s 0 0), (.s 0 0), (.s 0 0), (.s 0 0), (.s 0 0), (.s 0 0), (.s 0 0)] [(0, 1, (.c (.s 0 0))), (1, 1, (.c (.s 3 7368558))), (2, 1, (.c (.s 4 1886352499))), (3, 1, (.c (.s 4 1819042147))), (4, 1, (.c (.s 4 1801675106))), (5, 1, (.c (.s 5 500152823651))), (6, 1, (.c (.s 4 1751607656))), (7, 1, (.c (.s 4 2037411683))), (8, 1, (.c (.s 3 6579297))), (9, 1, (.c (.s 3 6452595))), (10, 1, (.c (.s 3 7107949))), (11, 1, (.c (.s 3 7760228))), (12, 1, (.c (.s 3 6582125))), (13, 1, (.c (.s 3 6581857))), (14, 1, (.c (.s 2 29295))), (15, 1, (.c (.s 3 7499640))), (16, 1, (.c (.s 3 7104627))), (17, 1, (.c (.s 3 7497843))), (18, 1, (.c (.s 4 1768186977))), (19, 1, (.c (.s 4 1684107116))), (20, 1, (.c (.s 5 435711603827))), (21, 1, (.c (.s 5 422590902124))), (22, 1, (.c (.s 6 108187851125875))), (23, 1, (.c (.s 4 1886221674))), (24, 1, (.c (.s 5 491512493418))), (25, 1, (.c (.s 4 1802398060))), (26, 1, (.c (.s 3 7431522))), (27, 1, (.c (.s 3 6647394))), (28, 1, (.c (.s 3 7629922)))])), (ez (.st 29 z0 z1))])
def c53 : CF := .mk 2 [.cn a0 29] (.seq b53_1 (.seq b53_2 .ret))
theorem e53 : argTr 2 [] = sk2 := rfl
def B53 := ai @e53 (ai (wu b53_1.eq_1) (wu b53_2.eq_1))
def h25 : List V → Option V
 | [.i .i64 op] => some (.i .i64 (formI op))
 | _ => none
theorem h25_eq (op : Int) : h25 [.i .i64 op] = some (.i .i64 (formI op)) := rfl
def h40 : List V → Option V
 | [.i .i64 f] => some (.g [.b (dI f), .b (aI f), .b (bI f), .b (iI f)])
 | _ => none
theorem h40_eq (f : Int) : h40 [.i .i64 f] = some (.g [.b (dI f), .b (aI f), .b (bI f), .b (iI f)]) := rfl
def h57 : List V → Option V
 | [.i .i64 n] => some (.b (decide (0 ≤ n ∧ n < 16)))
 | _ => none
theorem h57_eq (n : Int) : h57 [.i .i64 n] = some (.b (decide (0 ≤ n ∧ n < 16))) := rfl
def h54 : List V → Option V
 | [.i .i64 n] => some (.b (decide (n = 3 ∨ n = 6)))
 | _ => none
theorem h54_eq (n : Int) : h54 [.i .i64 n] = some (.b (decide (n = 3 ∨ n = 6))) := rfl
def names53 : List V := [(.s 0 0), (.s 3 7368558), (.s 4 1886352499), (.s 4 1819042147), (.s 4 1801675106), (.s 5 500152823651), (.s 4 1751607656), (.s 4 2037411683), (.s 3 6579297), (.s 3 6452595), (.s 3 7107949), (.s 3 7760228), (.s 3 6582125), (.s 3 6581857), (.s 2 29295), (.s 3 7499640), (.s 3 7104627), (.s 3 7497843), (.s 4 1768186977), (.s 4 1684107116), (.s 5 435711603827), (.s 5 422590902124), (.s 6 108187851125875), (.s 4 1886221674), (.s 5 491512493418), (.s 4 1802398060), (.s 3 7431522), (.s 3 6647394), (.s 3 7629922)]
theorem t53 (Φ : Nat → Option CF) (h : Φ 53 = some c53) (ct : Nat) : To Φ 53 [] ct (.g names53) := by
 refine to_walk h ?_
 simp only [WX, Nat.reduceAdd, Nat.reduceLeDiff, B53]
 rfl
def b24_1 : CC := (.reg [(qq a3 (.mv z0)), (qq a4 (.bi .lss z3 (x6 1))), (qq a5 (.mv z4)), ⟨(some a6), .q (.mv z0), (some (a5, false))⟩, ⟨(some a7), .q (.bi .gtr z6 (x6 28)), (some (a5, false))⟩, (qq a8 (.pk z5 xT z7))])
def b24_2 : CC := (.seq (.reg [(qq a2 (.mv (.c (.s 0 0))))]) .ret)
def b24_3 : CC := (.reg [(ee a9 (.call 53 [])), (qq a10 (.mv z0)), (qq a11 (.ixA1 29 1 z9 z10)), (qq a2 (.mv z11))])
def b24_4 : CC := (.seq (.seq b24_1 (.cond z8 b24_2 .skip)) (.seq b24_3 .ret))
def b24_5 : CC := (.seq (.reg [(qq a2 (.mv (.c (.s 0 0))))]) b24_4)
def c24 : CF := .mk 4 [.t a2] b24_5
theorem e24 (v0 : V) : argTr 4 [v0] = (.n sk3 (some v0) sk3) := rfl
def B24 := ai @e24 (ai (wu b24_1.eq_1) (ai (wu b24_2.eq_1) (ai (wu b24_3.eq_1) (ai (wu b24_4.eq_1) (wu b24_5.eq_1)))))
def b12_1 : CC := (.reg [(aa a1 (.bx 26 5 z0)), (qq a2 (.mv xF))])
def b12_2 : CC := (.reg [(qq a10 (.fa 0 z1)), (qq a11 (.ld1 z10)), (ee a12 (.call 26 [z11])), (ee a13 (.call 38 [z12])), (qq a9 (.mv z13)), (qq a14 (.ex 0 z9)), (qq a15 (.ex 1 z9)), (qq a16 (.ex 2 z9)), (qq a17 (.ex 3 z9)), (qq a3 (.mv z14)), (qq a4 (.mv z15)), (qq a5 (.mv z16)), (qq a6 (.mv z17))])
def b12_3 : CC := (.reg [(qq a7 (.mv (x6 (-32768)))), (qq a8 (.mv (x6 32767)))])
def b12_4 : CC := (.reg [(qq a18 (.fa 0 z1)), (qq a19 (.ld1 z18)), (qq a20 (.bi .eql z19 (x6 3))), (qq a21 (.mv z20)), ⟨(some a22), .q (.fa 0 z1), (some (a21, false))⟩, ⟨(some a23), .q (.ld1 z22), (some (a21, false))⟩, ⟨(some a24), .q (.bi .eql z23 (x6 6)), (some (a21, false))⟩, (qq a25 (.pk z21 xT z24))])
def b12_5 : CC := (.reg [(qq a7 (.mv (x6 0))), (qq a8 (.mv (x6 65535)))])
def b12_6 : CC := (.seq b12_4 (.cond z25 b12_5 .skip))
def b12_7 : CC := (.reg [(qq a26 (.fa 0 z1)), (qq a27 (.ld1 z26)), (qq a28 (.bi .geq z27 (x6 1))), (qq a29 (.mv z28)), ⟨(some a30), .q (.fa 0 z1), (some (a29, true))⟩, ⟨(some a31), .q (.ld1 z30), (some (a29, true))⟩, ⟨(some a32), .q (.bi .leq z31 (x6 28)), (some (a29, true))⟩, (qq a33 (.pk z29 z32 xF)), (qq a34 (.mv z33)), ⟨(some a35), .q (.mv z3), (some (a34, true))⟩, ⟨(some a36), .q (.fa 1 z1), (some (a34, true))⟩, ⟨(some a37), .q (.ld1 z36), (some (a34, true))⟩, ⟨(some a38), .e (.call 39 [z35, z37]), (some (a34, true))⟩, (qq a39 (.pk z34 z38 xF)), (qq a40 (.mv z39)), ⟨(some a41), .q (.mv z4), (some (a40, true))⟩, ⟨(some a42), .q (.fa 2 z1), (some (a40, true))⟩, ⟨(some a43), .q (.ld1 z42), (some (a40, true))⟩, ⟨(some a44), .e (.call 39 [z41, z43]), (some (a40, true))⟩, (qq a45 (.pk z40 z44 xF)), (qq a46 (.mv z45)), ⟨(some a47), .q (.mv z5), (some (a46, true))⟩, ⟨(some a48), .q (.fa 3 z1), (some (a46, true))⟩, ⟨(some a49), .q (.ld1 z48), (some (a46, true))⟩, ⟨(some a50), .e (.call 39 [z47, z49]), (some (a46, true))⟩, (qq a51 (.pk z46 z50 xF)), (qq a52 (.mv z51)), ⟨(some a53), .q (.fa 4 z1), (some (a52, true))⟩, ⟨(some a54), .q (.ld1 z53), (some (a52, true))⟩, ⟨(some a55), .q (.bi .eql z54 (x6 0)), (some (a52, true))⟩, ⟨(some a56), .q (.mv z55), (some (a52, true))⟩, ⟨(some a57), .q (.mv z6), (some (a56, false))⟩, ⟨(some a58), .q (.mv z57), (some (a56, false))⟩, ⟨(some a59), .q (.fa 4 z1), (some (a58, true))⟩, ⟨(some a60), .q (.ld1 z59), (some (a58, true))⟩, ⟨(some a61), .q (.mv z7), (some (a58, true))⟩, ⟨(some a62), .q (.bi .geq z60 z61), (some (a58, true))⟩, ⟨(some a63), .q (.pk z58 z62 xF), (some (a56, false))⟩, ⟨(some a64), .q (.mv z63), (some (a56, false))⟩, ⟨(some a65), .q (.fa 4 z1), (some (a64, true))⟩, ⟨(some a66), .q (.ld1 z65), (some (a64, true))⟩, ⟨(some a67), .q (.mv z8), (some (a64, true))⟩, ⟨(some a68), .q (.bi .leq z66 z67), (some (a64, true))⟩, ⟨(some a69), .q (.pk z64 z68 xF), (some (a56, false))⟩, ⟨(some a70), .q (.pk z56 xT z69), (some (a52, true))⟩, (qq a71 (.pk z52 z70 xF)), (qq a2 (.mv z71))])
def b12_8 : CC := (.seq b12_1 (.seq b12_2 (.seq b12_3 (.seq b12_6 (.seq b12_7 .ret)))))
def c12 : CF := .mk 7 [.t a2] b12_8
theorem e12 (v0 : V) : argTr 7 [v0] = (.n sk6 (some v0) sk6) := rfl
def B12 := ai @e12 (ai (wu b12_1.eq_1) (ai (wu b12_2.eq_1) (ai (wu b12_3.eq_1) (ai (wu b12_4.eq_1) (ai (wu b12_5.eq_1) (ai (wu b12_6.eq_1) (ai (wu b12_7.eq_1) (wu b12_8.eq_1))))))))
def h53 : List V → Option V
 | [] => some (.g names53)
 | _ => none
theorem h53_eq : h53 [] = some (.g names53) := rfl
def h38 : List V → Option V
 | [.i .i64 f] => some (.t [.b (dI f), .b (aI f), .b (bI f), .b (iI f)])
 | _ => none
theorem h38_eq (f : Int) : h38 [.i .i64 f] = some (.t [.b (dI f), .b (aI f), .b (bI f), .b (iI f)]) := rfl
def h39 : List V → Option V
 | [.b b, .i .i64 n] => some (.b (regI b n))
 | _ => none
theorem h39_eq (b : Bool) (n : Int) : h39 [.b b, .i .i64 n] = some (.b (regI b n)) := rfl
def nameV (op : Int) : V := if 1 ≤ op ∧ op ≤ 28 then (names53[op.toNat]?).getD (.s 0 0) else .s 0 0
theorem t24 (Φ : Nat → Option CF) (h : Φ 24 = some c24) (h53 : Φ 53 = some (.orc (pureO h53))) (op : Int) (ct : Nat) : To Φ 24 [.i .i64 op] ct (nameV op) := by
 refine to_walk h ?_
 simp only [WX, B24]
 repeat' first | (refine wp_cond (by simp only [WX]; rfl) (fun h => ?_) (fun h => ?_) <;> simp only [WX, B24, h, h53, h53_eq]) | (refine wo_g (by simp only [WX]; rfl) (fun h => ?_) (fun h => ?_) <;> simp only [WX, B24, h])
 all_goals simp only [decide_eq_true_eq, decide_eq_false_iff_not, Bool.not_false] at *
 · unfold nameV; rw [if_neg (by omega)]
 · rw [if_pos (by omega), getD_some (d := .s 0 0) (show op.toNat < names53.length by show op.toNat < 29; omega)]
   simp only [WX]
   unfold nameV; rw [if_pos (by omega)]
 · unfold nameV; rw [if_neg (by omega)]
def mayI (op d a b i : Int) : Bool :=
 decide (1 ≤ op) && (decide (op ≤ 28) && (regI (dI (formI op)) d && (regI (aI (formI op)) a && (regI (bI (formI op)) b && (decide (i = 0) || (iI (formI op) && (decide (op = 3 ∨ op = 6) && (decide (0 ≤ i) && decide (i ≤ 65535)) || decide (op ≠ 3 ∧ op ≠ 6) && (decide (-32768 ≤ i) && decide (i ≤ 32767)))))))))
theorem formI_cases (op : Int) : formI op = 0 ∨ formI op = 1 ∨ formI op = 2 ∨ formI op = 3 ∨ formI op = 4 ∨ formI op = 5 ∨ formI op = 6 := by
 unfold formI; repeat' split
 all_goals simp
def h24 : List V → Option V
 | [.i .i64 op] => some (nameV op)
 | _ => none
theorem h24_eq (op : Int) : h24 [.i .i64 op] = some (nameV op) := rfl
theorem t12 (Φ : Nat → Option CF) (h : Φ 12 = some c12) (h26 : Φ 26 = some (.orc (pureO h25))) (h38 : Φ 38 = some (.orc (pureO h38))) (h39 : Φ 39 = some (.orc (pureO h39))) (op d a b i : Int) (ct : Nat) :
  To Φ 12 [.g [.i .i64 op, .i .i64 d, .i .i64 a, .i .i64 b, .i .i64 i]] ct (.b (mayI op d a b i)) := by
 refine to_walk h ?_
 simp only [WX, Nat.reduceAdd, B12, h26, h25_eq, h38, h38_eq]
 repeat' first | (refine wp_cond (by simp only [WX]; rfl) (fun h => ?_) (fun h => ?_) <;> simp only [WX, B12, h]) | (refine wo_g (by simp only [WX]; rfl) (fun h => ?_) (fun h => ?_) <;> simp only [WX, B12, h, h39, h39_eq])
 all_goals (rw [V.b.injEq]; unfold mayI; generalize regI (dI (formI op)) d = rd at *; generalize regI (aI (formI op)) a = ra at *; generalize regI (bI (formI op)) b = rb at *; generalize iI (formI op) = ii at *; rw [Bool.eq_iff_iff]; simp only [decide_eq_true_eq, decide_eq_false_iff_not, Bool.not_true, Bool.not_false, Bool.and_eq_true, Bool.or_eq_true] at *)
 all_goals first | omega | (simp [*]; done) | (simp [*]; omega)
def b37_1 : CC := (.reg [(aa a1 (.bx 26 5 z0)), (qq a2 (.mv xF))])
def b37_2 : CC := (.reg [(qq a8 (.fa 0 z1)), (qq a9 (.ld1 z8)), (ee a10 (.call 25 [z9])), (ee a11 (.call 40 [z10])), (aa a3 (.al 80 [(.b false), (.b false), (.b false), (.b false)])), (ez (.st 4 z3 z11))])
def b37_3 : CC := (.reg [(qq a12 (.ldn 5 z1)), (aa a4 (.al 26 [(.i .i64 0), (.i .i64 0), (.i .i64 0), (.i .i64 0), (.i .i64 0)])), (ez (.st 5 z4 z12))])
def b37_4 : CC := (.reg [(qq a13 (.fa 0 z3)), (qq a14 (.ld1 z13))])
def b37_5 : CC := (.reg [(qq a15 (.fa 1 z4)), (ez (.st 1 z15 (x6 0)))])
def b37_6 : CC := (.reg [(qq a16 (.fa 1 z3)), (qq a17 (.ld1 z16))])
def b37_7 : CC := (.reg [(qq a18 (.fa 2 z4)), (ez (.st 1 z18 (x6 0)))])
def b37_8 : CC := (.seq b37_6 (.cond z17 b37_7 .skip))
def b37_9 : CC := (.reg [(qq a19 (.fa 2 z3)), (qq a20 (.ld1 z19))])
def b37_10 : CC := (.reg [(qq a21 (.fa 3 z4)), (ez (.st 1 z21 (x6 0)))])
def b37_11 : CC := (.seq b37_9 (.cond z20 b37_10 .skip))
def b37_12 : CC := (.reg [(qq a22 (.fa 3 z3)), (qq a23 (.ld1 z22))])
def b37_13 : CC := (.reg [(qq a24 (.fa 4 z4)), (ez (.st 1 z24 (x6 0)))])
def b37_14 : CC := (.seq b37_12 (.cond z23 b37_13 .skip))
def b37_15 : CC := (.reg [(qq a5 (.mv (x6 (-32768)))), (qq a6 (.mv (x6 32767)))])
def b37_16 : CC := (.reg [(qq a25 (.fa 0 z1)), (qq a26 (.ld1 z25)), (ee a27 (.call 54 [z26]))])
def b37_17 : CC := (.reg [(qq a5 (.mv (x6 0))), (qq a6 (.mv (x6 65535)))])
def b37_18 : CC := (.seq b37_16 (.cond z27 b37_17 .skip))
def b37_19 : CC := (.reg [(qq a7 (.mv (.c (.f 57 [] []))))])
def b37_20 : CC := (.reg [(qq a28 (.fa 0 z1)), (qq a29 (.ld1 z28)), (ee a30 (.call 24 [z29])), (qq a31 (.bi .neq z30 (.c (.s 0 0)))), (qq a32 (.mv z31)), ⟨(some a33), .q (.ldn 5 z4), (some (a32, true))⟩, ⟨(some a34), .q (.fa 0 z1), (some (a32, true))⟩, ⟨(some a35), .q (.ld1 z34), (some (a32, true))⟩, ⟨(some a36), .q (.bld [(.i .i64 0), (.i .i64 0), (.i .i64 0), (.i .i64 0), (.i .i64 0)] [(0, 1, z35)]), (some (a32, true))⟩, ⟨(some a37), .q (.eq false (.agg [(0, .int), (1, .int), (2, .int), (3, .int), (4, .int)]) false z33 z36), (some (a32, true))⟩, (qq a38 (.pk z32 z37 xF)), (qq a39 (.mv z38)), ⟨(some a40), .q (.mv z7), (some (a39, true))⟩, ⟨(some a41), .q (.fa 1 z1), (some (a39, true))⟩, ⟨(some a42), .q (.ld1 z41), (some (a39, true))⟩, ⟨(some a43), .e (.cv z40 [z42]), (some (a39, true))⟩, (qq a44 (.pk z39 z43 xF)), (qq a45 (.mv z44)), ⟨(some a46), .q (.mv z7), (some (a45, true))⟩, ⟨(some a47), .q (.fa 2 z1), (some (a45, true))⟩, ⟨(some a48), .q (.ld1 z47), (some (a45, true))⟩, ⟨(some a49), .e (.cv z46 [z48]), (some (a45, true))⟩, (qq a50 (.pk z45 z49 xF)), (qq a51 (.mv z50)), ⟨(some a52), .q (.mv z7), (some (a51, true))⟩, ⟨(some a53), .q (.fa 3 z1), (some (a51, true))⟩, ⟨(some a54), .q (.ld1 z53), (some (a51, true))⟩, ⟨(some a55), .e (.cv z52 [z54]), (some (a51, true))⟩, (qq a56 (.pk z51 z55 xF)), (qq a57 (.mv z56)), ⟨(some a58), .q (.fa 4 z1), (some (a57, true))⟩, ⟨(some a59), .q (.ld1 z58), (some (a57, true))⟩, ⟨(some a60), .q (.mv z5), (some (a57, true))⟩, ⟨(some a61), .q (.bi .geq z59 z60), (some (a57, true))⟩, (qq a62 (.pk z57 z61 xF)), (qq a63 (.mv z62)), ⟨(some a64), .q (.fa 4 z1), (some (a63, true))⟩, ⟨(some a65), .q (.ld1 z64), (some (a63, true))⟩, ⟨(some a66), .q (.mv z6), (some (a63, true))⟩, ⟨(some a67), .q (.bi .leq z65 z66), (some (a63, true))⟩, (qq a68 (.pk z63 z67 xF)), (qq a2 (.mv z68))])
def b37_21 : CC := (.seq b37_15 (.seq b37_18 (.seq b37_19 (.seq b37_20 .ret))))
def b37_22 : CC := (.seq (.seq b37_4 (.cond z14 b37_5 .skip)) (.seq b37_8 (.seq b37_11 (.seq b37_14 b37_21))))
def c37 : CF := .mk 7 [.t a2] (.seq b37_1 (.seq b37_2 (.seq b37_3 b37_22)))
theorem e37 (v0 : V) : argTr 7 [v0] = (.n sk6 (some v0) sk6) := rfl
def B37 := ai @e37 (ai (wu b37_1.eq_1) (ai (wu b37_2.eq_1) (ai (wu b37_3.eq_1) (ai (wu b37_4.eq_1) (ai (wu b37_5.eq_1) (ai (wu b37_6.eq_1) (ai (wu b37_7.eq_1) (ai (wu b37_8.eq_1) (ai (wu b37_9.eq_1) (ai (wu b37_10.eq_1) (ai (wu b37_11.eq_1) (ai (wu b37_12.eq_1) (ai (wu b37_13.eq_1) (ai (wu b37_14.eq_1) (ai (wu b37_15.eq_1) (ai (wu b37_16.eq_1) (ai (wu b37_17.eq_1) (ai (wu b37_18.eq_1) (ai (wu b37_19.eq_1) (ai (wu b37_20.eq_1) (ai (wu b37_21.eq_1) (wu b37_22.eq_1))))))))))))))))))))))
theorem nameV_ne (op : Int) : biV .neq (nameV op) (.s 0 0) = some (.b (decide (1 ≤ op ∧ op ≤ 28))) := by
 unfold nameV
 by_cases h : 1 ≤ op ∧ op ≤ 28
 · rw [if_pos h, decide_eq_true h]
   have key : ∀ n, n < 29 → 1 ≤ n → biV .neq ((names53[n]?).getD (.s 0 0)) (.s 0 0) = some (.b true) := by
    intro n hn h1
    have : n = 1 ∨ n = 2 ∨ n = 3 ∨ n = 4 ∨ n = 5 ∨ n = 6 ∨ n = 7 ∨ n = 8 ∨ n = 9 ∨ n = 10 ∨ n = 11 ∨ n = 12 ∨ n = 13 ∨ n = 14 ∨ n = 15 ∨ n = 16 ∨ n = 17 ∨ n = 18 ∨ n = 19 ∨ n = 20 ∨ n = 21 ∨ n = 22 ∨ n = 23 ∨ n = 24 ∨ n = 25 ∨ n = 26 ∨ n = 27 ∨ n = 28 := by omega
    rcases this with rfl | rfl | rfl | rfl | rfl | rfl | rfl | rfl | rfl | rfl | rfl | rfl | rfl | rfl | rfl | rfl | rfl | rfl | rfl | rfl | rfl | rfl | rfl | rfl | rfl | rfl | rfl | rfl <;> rfl
   exact key op.toNat (by omega) (by omega)
 · rw [if_neg h, decide_eq_false h]; rfl
theorem t37 (Φ : Nat → Option CF) (h : Φ 37 = some c37) (h25 : Φ 25 = some (.orc (pureO h25))) (h40 : Φ 40 = some (.orc (pureO h40))) (h54 : Φ 54 = some (.orc (pureO h54))) (h57 : Φ 57 = some (.orc (pureO h57))) (h24 : Φ 24 = some (.orc (pureO h24))) (op d a b i : Int) (ct : Nat) :
  To Φ 37 [.g [.i .i64 op, .i .i64 d, .i .i64 a, .i .i64 b, .i .i64 i]] ct (.b (mayI op d a b i)) := by
 refine to_walk h ?_
 rcases formI_cases op with hf | hf | hf | hf | hf | hf | hf
 all_goals
  simp only [WX, Nat.reduceBEq, Int.reduceEq, Nat.reduceAdd, Nat.reduceLeDiff, B37, h25, h25_eq, h40, h40_eq, h54, h54_eq, hf, dI, aI, bI, iI]
  repeat' first | (refine wp_cond (by simp only [WX]; rfl) (fun h => ?_) (fun h => ?_) <;> simp only [WX, B37, h, h24, h24_eq, nameV_ne]) | (refine wo_g (by simp only [WX]; rfl) (fun h => ?_) (fun h => ?_) <;> simp only [WX, Nat.reduceAdd, Nat.reduceLeDiff, h, h57, h57_eq])
 all_goals (rw [V.b.injEq, Bool.eq_iff_iff]; simp only [decide_eq_true_eq, decide_eq_false_iff_not, Bool.not_true, Bool.and_eq_true, Bool.and_eq_false_iff, Bool.false_eq_true, false_iff] at *; simp only [mayI, regI, hf, dI, aI, bI, iI, Bool.and_eq_true, Bool.or_eq_true, decide_eq_true_eq, Int.reduceEq, or_true, or_false, true_and, or_self, false_and])
 all_goals omega
def b10_1 : CC := (.reg [(aa a1 (.bx 26 5 z0)), (qq a2 (.mv (.c (.i .u32 0)))), (qq a3 (.mv (x6 0)))])
def b10_2 : CC := (.reg [(qq a4 (.ldn 5 z1)), (ee a5 (.call 37 [z4])), (qq a6 (.un .not z5))])
def b10_3 : CC := (.reg [(qq a2 (.mv (.c (.i .u32 0)))), (qq a3 (.mv (x6 2)))])
def b10_4 : CC := (.seq b10_2 (.cond z6 (.seq b10_3 .ret) .skip))
def b10_5 : CC := (.reg [(qq a7 (.fa 0 z1)), (qq a8 (.ld1 z7)), (qq a9 (.ci .u32 z8)), (qq a10 (.fa 1 z1)), (qq a11 (.ld1 z10)), (qq a12 (.ci .u32 z11)), (qq a13 (.bi .shl z12 (.c (.i .u64 12)))), (qq a14 (.bi .or z9 z13)), (qq a15 (.fa 2 z1)), (qq a16 (.ld1 z15)), (qq a17 (.ci .u32 z16)), (qq a18 (.bi .shl z17 (.c (.i .u64 8)))), (qq a19 (.bi .or z14 z18)), (qq a20 (.fa 3 z1)), (qq a21 (.ld1 z20)), (qq a22 (.ci .u32 z21)), (qq a23 (.bi .shl z22 (.c (.i .u64 16)))), (qq a24 (.bi .or z19 z23)), (qq a25 (.fa 4 z1)), (qq a26 (.ld1 z25)), (qq a27 (.ci .u16 z26)), (qq a28 (.ci .u32 z27)), (qq a29 (.bi .shl z28 (.c (.i .u64 16)))), (qq a30 (.bi .or z24 z29)), (qq a2 (.mv z30)), (qq a3 (.mv (x6 0)))])
def c10 : CF := .mk 5 [.t a2, .t a3] (.seq b10_1 (.seq b10_4 (.seq b10_5 .ret)))
def h37 : List V → Option V
 | [.g [.i .i64 op, .i .i64 d, .i .i64 a, .i .i64 b, .i .i64 i]] => some (.b (mayI op d a b i))
 | _ => none
theorem h37_eq (op d a b i : Int) : h37 [.g [.i .i64 op, .i .i64 d, .i .i64 a, .i .i64 b, .i .i64 i]] = some (.b (mayI op d a b i)) := rfl
def b31_1 : CC := (.reg [(aa a2 (.al 26 [(.i .i64 0), (.i .i64 0), (.i .i64 0), (.i .i64 0), (.i .i64 0)])), (qq a3 (.mv (x6 0)))])
def b31_2 : CC := (.reg [(qq a8 (.mv z0)), (qq a9 (.bi .and z8 (.c (.i .u32 255)))), (qq a10 (.ci .i64 z9)), (qq a11 (.bld [(.i .i64 0), (.i .i64 0), (.i .i64 0), (.i .i64 0), (.i .i64 0)] [(0, 1, z10)])), (aa a4 (.al 26 [(.i .i64 0), (.i .i64 0), (.i .i64 0), (.i .i64 0), (.i .i64 0)])), (ez (.st 5 z4 z11))])
def b31_3 : CC := (.reg [(qq a12 (.fa 0 z4)), (qq a13 (.ld1 z12)), (ee a14 (.call 25 [z13])), (ee a15 (.call 40 [z14])), (aa a5 (.al 80 [(.b false), (.b false), (.b false), (.b false)])), (ez (.st 4 z5 z15))])
def b31_4 : CC := (.reg [(qq a16 (.fa 0 z5)), (qq a17 (.ld1 z16))])
def b31_5 : CC := (.reg [(qq a18 (.mv z0)), (qq a19 (.bi .shr z18 (.c (.i .u64 12)))), (qq a20 (.bi .and z19 (.c (.i .u32 15)))), (qq a21 (.ci .i64 z20)), (qq a22 (.fa 1 z4)), (ez (.st 1 z22 z21))])
def b31_6 : CC := (.seq b31_4 (.cond z17 b31_5 .skip))
def b31_7 : CC := (.reg [(qq a23 (.fa 1 z5)), (qq a24 (.ld1 z23))])
def b31_8 : CC := (.reg [(qq a25 (.mv z0)), (qq a26 (.bi .shr z25 (.c (.i .u64 8)))), (qq a27 (.bi .and z26 (.c (.i .u32 15)))), (qq a28 (.ci .i64 z27)), (qq a29 (.fa 2 z4)), (ez (.st 1 z29 z28))])
def b31_9 : CC := (.seq b31_7 (.cond z24 b31_8 .skip))
def b31_10 : CC := (.reg [(qq a30 (.fa 2 z5)), (qq a31 (.ld1 z30))])
def b31_11 : CC := (.reg [(qq a32 (.mv z0)), (qq a33 (.bi .shr z32 (.c (.i .u64 16)))), (qq a34 (.ci .i64 z33)), (qq a35 (.fa 3 z4)), (ez (.st 1 z35 z34))])
def b31_12 : CC := (.seq b31_10 (.cond z31 b31_11 .skip))
def b31_13 : CC := (.reg [(qq a36 (.fa 3 z5)), (qq a37 (.ld1 z36))])
def b31_14 : CC := (.reg [(qq a38 (.mv z0)), (qq a39 (.bi .shr z38 (.c (.i .u64 16)))), (qq a40 (.ci .i16 z39)), (qq a41 (.ci .i64 z40)), (qq a42 (.fa 4 z4)), (ez (.st 1 z42 z41))])
def b31_15 : CC := (.reg [(qq a43 (.fa 0 z4)), (qq a44 (.ld1 z43)), (ee a45 (.call 54 [z44]))])
def b31_16 : CC := (.reg [(qq a46 (.mv z0)), (qq a47 (.bi .shr z46 (.c (.i .u64 16)))), (qq a48 (.ci .i64 z47)), (qq a49 (.fa 4 z4)), (ez (.st 1 z49 z48))])
def b31_17 : CC := (.seq b31_15 (.cond z45 b31_16 .skip))
def b31_18 : CC := (.cond z37 (.seq b31_14 b31_17) .skip)
def b31_19 : CC := (.reg [(qq a51 (.ldn 5 z4)), (ee a52 (.call 10 [z51])), (qq a50 (.mv z52)), (qq a53 (.ex 0 z50)), (qq a54 (.ex 1 z50)), (qq a6 (.mv z53)), (qq a7 (.mv z54))])
def b31_20 : CC := (.reg [(qq a55 (.mv z7)), (qq a56 (.bi .neq z55 (x6 0))), (qq a57 (.mv z56)), ⟨(some a58), .q (.mv z6), (some (a57, false))⟩, ⟨(some a59), .q (.mv z0), (some (a57, false))⟩, ⟨(some a60), .q (.bi .neq z58 z59), (some (a57, false))⟩, (qq a61 (.pk z57 xT z60))])
def b31_21 : CC := (.reg [(qq a62 (.bld [(.i .i64 0), (.i .i64 0), (.i .i64 0), (.i .i64 0), (.i .i64 0)] [])), (ez (.st 5 z2 z62)), (qq a3 (.mv (x6 4)))])
def b31_22 : CC := (.cond z61 (.seq b31_21 .ret) .skip)
def b31_23 : CC := (.reg [(qq a63 (.ldn 5 z4)), (ez (.st 5 z2 z63)), (qq a3 (.mv (x6 0)))])
def b31_24 : CC := (.seq (.seq b31_19 (.seq b31_20 b31_22)) (.seq b31_23 .ret))
def b31_25 : CC := (.seq b31_9 (.seq b31_12 (.seq (.seq b31_13 b31_18) b31_24)))
def c31 : CF := .mk 7 [.cn a2 5, .t a3] (.seq b31_1 (.seq b31_2 (.seq b31_3 (.seq b31_6 b31_25))))
theorem i64_nat (n : Nat) (h : n < 9223372036854775808) : IntKind.i64.wrap (n : Int) = (n : Int) := wrap_i64 (by omega) (by omega)
def h12 : List V → Option V
 | [.g [.i .i64 op, .i .i64 d, .i .i64 a, .i .i64 b, .i .i64 i]] => some (.b (mayI op d a b i))
 | _ => none
def b11_1 : CC := (.reg [(qq a3 (.mv z0)), (qq a2 (.mv z3))])
def b11_2 : CC := (.seq (.reg [(qq a2 (.mv (x6 0)))]) (.seq b11_1 .ret))
def c11 : CF := .mk 3 [.t a2] b11_2
theorem e11 (v0 : V) : argTr 3 [v0] = (.n sk2 (some v0) sk2) := rfl
def B11 := ai @e11 (ai (wu b11_1.eq_1) (wu b11_2.eq_1))
theorem t11 (Φ : Nat → Option CF) (h : Φ 11 = some c11) (x : Int) (ct : Nat) : To Φ 11 [.i .i64 x] ct (.i .i64 x) := by
 refine to_walk h ?_
 simp only [WX, B11]
def b6_1 : CC := (.reg [(qq a4 (.mv xF))])
def b6_2 : CC := (.reg [(qq a16 (.mv z1)), (qq a17 (.ln .slice z16)), (qq a18 (.bi .gtr z17 (x6 4000)))])
def b6_3 : CC := (.reg [(ee a19 (.call 8 [])), (qq a4 (.mv z19))])
def b6_4 : CC := (.seq b6_2 (.cond z18 (.seq b6_3 .ret) .skip))
def b6_5 : CC := (.reg [(qq a21 (.mv z0)), (ee a22 (.call 31 [z21])), (qq a20 (.mv z22)), (qq a23 (.ex 0 z20)), (qq a24 (.ex 1 z20)), (aa a5 (.al 26 [(.i .i64 0), (.i .i64 0), (.i .i64 0), (.i .i64 0), (.i .i64 0)])), (ez (.st 5 z5 z23)), (qq a6 (.mv z24))])
def b6_6 : CC := (.reg [(qq a26 (.mv z0)), (ee a27 (.call 32 [z26])), (qq a25 (.mv z27)), (qq a28 (.ex 0 z25)), (qq a29 (.ex 1 z25)), (aa a7 (.al 26 [(.i .i64 0), (.i .i64 0), (.i .i64 0), (.i .i64 0), (.i .i64 0)])), (ez (.st 5 z7 z28)), (qq a8 (.mv z29))])
def b6_7 : CC := (.reg [(qq a30 (.mv z1)), (ee a31 (.app 5 1 1 (.c .l0) z30)), (aa a32 (.bsl 5 1 1 [(.i .u8 0)] [(0, (.c (.i .u8 119)))])), (ee a33 (.app 5 1 1 z31 z32)), (qq a9 (.mv z33))])
def b6_8 : CC := (.reg [(qq a35 (.mv z9)), (qq a36 (.mv z1)), (qq a37 (.ln .slice z36)), (qq a38 (.slL 1 z35 none (some z37) none)), (ee a39 (.call 33 [z38])), (qq a34 (.mv z39)), (qq a40 (.ex 0 z34)), (qq a41 (.ex 1 z34)), (aa a10 (.al 26 [(.i .i64 0), (.i .i64 0), (.i .i64 0), (.i .i64 0), (.i .i64 0)])), (ez (.st 5 z10 z40)), (qq a11 (.mv z41))])
def b6_9 : CC := (.reg [(qq a43 (.mv z1)), (ee a44 (.call 34 [z43])), (qq a42 (.mv z44)), (qq a45 (.ex 0 z42)), (qq a46 (.ex 1 z42)), (aa a12 (.al 26 [(.i .i64 0), (.i .i64 0), (.i .i64 0), (.i .i64 0), (.i .i64 0)])), (ez (.st 5 z12 z45)), (qq a13 (.mv z46))])
def b6_10 : CC := (.reg [(qq a47 (.ldn 5 z5)), (qq a48 (.ldn 5 z7)), (qq a49 (.eq true (.agg [(0, .int), (1, .int), (2, .int), (3, .int), (4, .int)]) false z47 z48)), (qq a50 (.mv z49)), ⟨(some a51), .q (.mv z6), (some (a50, false))⟩, ⟨(some a52), .e (.call 11 [z51]), (some (a50, false))⟩, ⟨(some a53), .q (.mv z8), (some (a50, false))⟩, ⟨(some a54), .q (.bi .neq z52 z53), (some (a50, false))⟩, (qq a55 (.pk z50 xT z54)), (qq a56 (.mv z55)), ⟨(some a57), .q (.ldn 5 z10), (some (a56, false))⟩, ⟨(some a58), .q (.ldn 5 z12), (some (a56, false))⟩, ⟨(some a59), .q (.eq true (.agg [(0, .int), (1, .int), (2, .int), (3, .int), (4, .int)]) false z57 z58), (some (a56, false))⟩, (qq a60 (.pk z56 xT z59)), (qq a61 (.mv z60)), ⟨(some a62), .q (.mv z11), (some (a61, false))⟩, ⟨(some a63), .e (.call 11 [z62]), (some (a61, false))⟩, ⟨(some a64), .q (.mv z13), (some (a61, false))⟩, ⟨(some a65), .q (.bi .neq z63 z64), (some (a61, false))⟩, (qq a66 (.pk z61 xT z65)), (qq a67 (.mv z66)), ⟨(some a68), .q (.mv z9), (some (a67, false))⟩, ⟨(some a69), .q (.bs z68), (some (a67, false))⟩, ⟨(some a70), .q (.mv z1), (some (a67, false))⟩, ⟨(some a71), .q (.bs z70), (some (a67, false))⟩, ⟨(some a72), .q (.bi .add z71 (.c (.s 1 119))), (some (a67, false))⟩, ⟨(some a73), .q (.bi .neq z69 z72), (some (a67, false))⟩, (qq a74 (.pk z67 xT z73))])
def b6_11 : CC := (.reg [(qq a4 (.mv xF))])
def b6_12 : CC := (.cond z74 (.seq b6_11 .ret) .skip)
def b6_13 : CC := (.reg [(qq a75 (.mv z8)), (qq a76 (.bi .eql z75 (x6 0)))])
def b6_14 : CC := (.reg [(qq a78 (.ldn 5 z5)), (ee a79 (.call 10 [z78])), (qq a77 (.mv z79)), (qq a80 (.ex 0 z77)), (qq a81 (.ex 1 z77)), (qq a14 (.mv z80)), (qq a15 (.mv z81))])
def b6_15 : CC := (.reg [(qq a82 (.mv z14)), (qq a83 (.mv z0)), (qq a84 (.bi .eql z82 z83)), (qq a85 (.mv z84)), ⟨(some a86), .q (.mv z15), (some (a85, true))⟩, ⟨(some a87), .e (.call 11 [z86]), (some (a85, true))⟩, ⟨(some a88), .q (.bi .eql z87 (x6 0)), (some (a85, true))⟩, (qq a89 (.pk z85 z88 xF)), (qq a90 (.mv z89)), ⟨(some a91), .e (.call 8 []), (some (a90, true))⟩, (qq a92 (.pk z90 z91 xF)), (qq a4 (.mv z92))])
def b6_16 : CC := (.cond z76 (.seq b6_14 (.seq b6_15 .ret)) .skip)
def b6_17 : CC := (.reg [(ee a93 (.call 8 [])), (qq a4 (.mv z93))])
def b6_18 : CC := (.seq (.seq b6_10 b6_12) (.seq (.seq b6_13 b6_16) (.seq b6_17 .ret)))
def b6_19 : CC := (.seq b6_5 (.seq b6_6 (.seq b6_7 (.seq b6_8 (.seq b6_9 b6_18)))))
def c6 : CF := .mk 7 [.t a4] (.seq b6_1 (.seq b6_4 b6_19))
theorem e6 (v0 v1 : V) : argTr 7 [v0, v1] = (.n (.n sk5 (some v1) sk5) (some v0) sk6) := rfl
def h11 : List V → Option V
 | [.i .i64 n] => some (.i .i64 n)
 | _ => none
theorem h11_eq (n : Int) : h11 [.i .i64 n] = some (.i .i64 n) := rfl
def b25_1 : CC := (.reg [(qq a5 (.bi .eql z3 (x6 3))), (qq a4 (.mv z5))])
def b25_2 : CC := (.reg [(qq a7 (.bi .eql z3 (x6 23))), (qq a6 (.mv z7))])
def b25_3 : CC := (.reg [(qq a9 (.bi .eql z3 (x6 24))), (qq a8 (.mv z9))])
def b25_4 : CC := (.reg [(qq a11 (.bi .eql z3 (x6 5))), (qq a10 (.mv z11))])
def b25_5 : CC := (.reg [(qq a12 (.bi .eql z3 (x6 6))), (qq a10 (.mv z12))])
def b25_6 : CC := (.reg [(qq a13 (.bi .eql z3 (x6 25))), (qq a10 (.mv z13))])
def b25_7 : CC := (.cond z10 .skip (.seq b25_5 (.cond z10 .skip b25_6)))
def b25_8 : CC := (.seq (.seq b25_4 b25_7) (.cond z10 (.exit 4) .skip))
def b25_9 : CC := (.reg [(qq a15 (.bi .eql z3 (x6 7))), (qq a14 (.mv z15))])
def b25_10 : CC := (.seq b25_8 (.seq b25_9 (.cond z14 (.exit 5) .skip)))
def b25_11 : CC := (.seq (.seq b25_3 (.cond z8 (.exit 3) .skip)) b25_10)
def b25_12 : CC := (.seq (.seq b25_2 (.cond z6 (.exit 2) .skip)) b25_11)
def b25_13 : CC := (.seq (.seq b25_1 (.cond z4 (.exit 1) .skip)) b25_12)
def b25_14 : CC := (.seq (.reg [(qq a2 (.mv (x6 1)))]) .ret)
def b25_15 : CC := (.seq (.block 2 (.block 1 (.seq b25_13 (.exit 0)))) (.seq b25_14 (.exit 0)))
def b25_16 : CC := (.seq (.reg [(qq a2 (.mv (x6 2)))]) .ret)
def b25_17 : CC := (.seq (.reg [(qq a2 (.mv (x6 3)))]) .ret)
def b25_18 : CC := (.seq (.block 4 (.seq (.block 3 b25_15) (.seq b25_16 (.exit 0)))) (.seq b25_17 (.exit 0)))
def b25_19 : CC := (.seq (.reg [(qq a2 (.mv (x6 4)))]) .ret)
def b25_20 : CC := (.seq (.reg [(qq a3 (.mv z0))]) (.block 0 (.seq (.block 5 b25_18) (.seq b25_19 (.exit 0)))))
def b25_21 : CC := (.reg [(qq a17 (.mv z0)), (qq a18 (.bi .geq z17 (x6 8))), (qq a19 (.mv z18)), ⟨(some a20), .q (.mv z0), (some (a19, true))⟩, ⟨(some a21), .q (.bi .leq z20 (x6 17)), (some (a19, true))⟩, (qq a22 (.pk z19 z21 xF)), (qq a16 (.mv z22))])
def b25_22 : CC := (.seq (.reg [(qq a2 (.mv (x6 5)))]) .ret)
def b25_23 : CC := (.reg [(qq a24 (.mv z0)), (qq a25 (.bi .geq z24 (x6 18))), (qq a26 (.mv z25)), ⟨(some a27), .q (.mv z0), (some (a26, true))⟩, ⟨(some a28), .q (.bi .leq z27 (x6 22)), (some (a26, true))⟩, (qq a29 (.pk z26 z28 xF)), (qq a30 (.mv z29)), ⟨(some a31), .q (.mv z0), (some (a30, false))⟩, ⟨(some a32), .q (.bi .geq z31 (x6 26)), (some (a30, false))⟩, ⟨(some a33), .q (.mv z32), (some (a30, false))⟩, ⟨(some a34), .q (.mv z0), (some (a33, true))⟩, ⟨(some a35), .q (.bi .leq z34 (x6 28)), (some (a33, true))⟩, ⟨(some a36), .q (.pk z33 z35 xF), (some (a30, false))⟩, (qq a37 (.pk z30 xT z36)), (qq a23 (.mv z37))])
def b25_24 : CC := (.seq (.reg [(qq a2 (.mv (x6 6)))]) .ret)
def b25_25 : CC := (.seq b25_23 (.cond z23 b25_24 .skip))
def b25_26 : CC := (.seq b25_21 (.cond z16 b25_22 b25_25))
def b25_27 : CC := (.seq (.reg [(qq a2 (.mv (x6 0)))]) .ret)
def b25_28 : CC := (.seq (.reg [(qq a2 (.mv (x6 0)))]) (.seq b25_20 (.seq (.block 6 b25_26) b25_27)))
def c25 : CF := .mk 6 [.t a2] b25_28
theorem e25 (v0 : V) : argTr 6 [v0] = (.n sk5 (some v0) sk5) := rfl
def B25 := ai @e25 (ai (wu b25_1.eq_1) (ai (wu b25_2.eq_1) (ai (wu b25_3.eq_1) (ai (wu b25_4.eq_1) (ai (wu b25_5.eq_1) (ai (wu b25_6.eq_1) (ai (wu b25_7.eq_1) (ai (wu b25_8.eq_1) (ai (wu b25_9.eq_1) (ai (wu b25_10.eq_1) (ai (wu b25_11.eq_1) (ai (wu b25_12.eq_1) (ai (wu b25_13.eq_1) (ai (wu b25_14.eq_1) (ai (wu b25_15.eq_1) (ai (wu b25_16.eq_1) (ai (wu b25_17.eq_1) (ai (wu b25_18.eq_1) (ai (wu b25_19.eq_1) (ai (wu b25_20.eq_1) (ai (wu b25_21.eq_1) (ai (wu b25_22.eq_1) (ai (wu b25_23.eq_1) (ai (wu b25_24.eq_1) (ai (wu b25_25.eq_1) (ai (wu b25_26.eq_1) (ai (wu b25_27.eq_1) (wu b25_28.eq_1))))))))))))))))))))))))))))
def b26_1 : CC := (.reg [(qq a5 (.bi .eql z3 (x6 3))), (qq a4 (.mv z5))])
def b26_2 : CC := (.reg [(qq a6 (.bi .eql z3 (x6 23))), (qq a4 (.mv z6))])
def b26_3 : CC := (.seq (.reg [(qq a2 (.mv (x6 1)))]) .ret)
def b26_4 : CC := (.reg [(qq a8 (.bi .eql z3 (x6 24))), (qq a7 (.mv z8))])
def b26_5 : CC := (.seq (.reg [(qq a2 (.mv (x6 2)))]) .ret)
def b26_6 : CC := (.reg [(qq a10 (.bi .eql z3 (x6 5))), (qq a9 (.mv z10))])
def b26_7 : CC := (.reg [(qq a11 (.bi .eql z3 (x6 6))), (qq a9 (.mv z11))])
def b26_8 : CC := (.reg [(qq a12 (.bi .eql z3 (x6 25))), (qq a9 (.mv z12))])
def b26_9 : CC := (.cond z9 .skip (.seq b26_7 (.cond z9 .skip b26_8)))
def b26_10 : CC := (.seq (.reg [(qq a2 (.mv (x6 3)))]) .ret)
def b26_11 : CC := (.reg [(qq a14 (.bi .eql z3 (x6 7))), (qq a13 (.mv z14))])
def b26_12 : CC := (.seq (.reg [(qq a2 (.mv (x6 4)))]) .ret)
def b26_13 : CC := (.reg [(qq a16 (.bi .eql z3 (x6 8))), (qq a15 (.mv z16))])
def b26_14 : CC := (.reg [(qq a17 (.bi .eql z3 (x6 9))), (qq a15 (.mv z17))])
def b26_15 : CC := (.reg [(qq a18 (.bi .eql z3 (x6 10))), (qq a15 (.mv z18))])
def b26_16 : CC := (.reg [(qq a19 (.bi .eql z3 (x6 11))), (qq a15 (.mv z19))])
def b26_17 : CC := (.reg [(qq a20 (.bi .eql z3 (x6 12))), (qq a15 (.mv z20))])
def b26_18 : CC := (.reg [(qq a21 (.bi .eql z3 (x6 13))), (qq a15 (.mv z21))])
def b26_19 : CC := (.reg [(qq a22 (.bi .eql z3 (x6 14))), (qq a15 (.mv z22))])
def b26_20 : CC := (.reg [(qq a23 (.bi .eql z3 (x6 15))), (qq a15 (.mv z23))])
def b26_21 : CC := (.reg [(qq a24 (.bi .eql z3 (x6 16))), (qq a15 (.mv z24))])
def b26_22 : CC := (.reg [(qq a25 (.bi .eql z3 (x6 17))), (qq a15 (.mv z25))])
def b26_23 : CC := (.seq b26_21 (.cond z15 .skip b26_22))
def b26_24 : CC := (.seq b26_20 (.cond z15 .skip b26_23))
def b26_25 : CC := (.seq b26_19 (.cond z15 .skip b26_24))
def b26_26 : CC := (.seq b26_18 (.cond z15 .skip b26_25))
def b26_27 : CC := (.seq b26_17 (.cond z15 .skip b26_26))
def b26_28 : CC := (.seq b26_16 (.cond z15 .skip b26_27))
def b26_29 : CC := (.seq b26_15 (.cond z15 .skip b26_28))
def b26_30 : CC := (.seq b26_14 (.cond z15 .skip b26_29))
def b26_31 : CC := (.seq b26_13 (.cond z15 .skip b26_30))
def b26_32 : CC := (.seq (.reg [(qq a2 (.mv (x6 5)))]) .ret)
def b26_33 : CC := (.reg [(qq a27 (.bi .eql z3 (x6 18))), (qq a26 (.mv z27))])
def b26_34 : CC := (.reg [(qq a28 (.bi .eql z3 (x6 19))), (qq a26 (.mv z28))])
def b26_35 : CC := (.reg [(qq a29 (.bi .eql z3 (x6 20))), (qq a26 (.mv z29))])
def b26_36 : CC := (.reg [(qq a30 (.bi .eql z3 (x6 21))), (qq a26 (.mv z30))])
def b26_37 : CC := (.reg [(qq a31 (.bi .eql z3 (x6 22))), (qq a26 (.mv z31))])
def b26_38 : CC := (.reg [(qq a32 (.bi .eql z3 (x6 26))), (qq a26 (.mv z32))])
def b26_39 : CC := (.reg [(qq a33 (.bi .eql z3 (x6 27))), (qq a26 (.mv z33))])
def b26_40 : CC := (.reg [(qq a34 (.bi .eql z3 (x6 28))), (qq a26 (.mv z34))])
def b26_41 : CC := (.seq b26_39 (.cond z26 .skip b26_40))
def b26_42 : CC := (.seq b26_38 (.cond z26 .skip b26_41))
def b26_43 : CC := (.seq b26_37 (.cond z26 .skip b26_42))
def b26_44 : CC := (.seq b26_36 (.cond z26 .skip b26_43))
def b26_45 : CC := (.seq b26_35 (.cond z26 .skip b26_44))
def b26_46 : CC := (.seq b26_34 (.cond z26 .skip b26_45))
def b26_47 : CC := (.seq b26_33 (.cond z26 .skip b26_46))
def b26_48 : CC := (.seq (.reg [(qq a2 (.mv (x6 6)))]) .ret)
def b26_49 : CC := (.seq b26_47 (.cond z26 b26_48 .skip))
def b26_50 : CC := (.seq b26_31 (.cond z15 b26_32 b26_49))
def b26_51 : CC := (.cond z9 b26_10 (.seq b26_11 (.cond z13 b26_12 b26_50)))
def b26_52 : CC := (.cond z7 b26_5 (.seq (.seq b26_6 b26_9) b26_51))
def b26_53 : CC := (.seq (.seq b26_1 (.cond z4 .skip b26_2)) (.cond z4 b26_3 (.seq b26_4 b26_52)))
def b26_54 : CC := (.seq (.reg [(qq a3 (.mv z0))]) (.block 0 b26_53))
def b26_55 : CC := (.seq (.reg [(qq a2 (.mv (x6 0)))]) .ret)
def b26_56 : CC := (.seq (.reg [(qq a2 (.mv (x6 0)))]) (.seq b26_54 b26_55))
def c26 : CF := .mk 6 [.t a2] b26_56
theorem e26 (v0 : V) : argTr 6 [v0] = (.n sk5 (some v0) sk5) := rfl
def B26 := ai @e26 (ai (wu b26_1.eq_1) (ai (wu b26_2.eq_1) (ai (wu b26_3.eq_1) (ai (wu b26_4.eq_1) (ai (wu b26_5.eq_1) (ai (wu b26_6.eq_1) (ai (wu b26_7.eq_1) (ai (wu b26_8.eq_1) (ai (wu b26_9.eq_1) (ai (wu b26_10.eq_1) (ai (wu b26_11.eq_1) (ai (wu b26_12.eq_1) (ai (wu b26_13.eq_1) (ai (wu b26_14.eq_1) (ai (wu b26_15.eq_1) (ai (wu b26_16.eq_1) (ai (wu b26_17.eq_1) (ai (wu b26_18.eq_1) (ai (wu b26_19.eq_1) (ai (wu b26_20.eq_1) (ai (wu b26_21.eq_1) (ai (wu b26_22.eq_1) (ai (wu b26_23.eq_1) (ai (wu b26_24.eq_1) (ai (wu b26_25.eq_1) (ai (wu b26_26.eq_1) (ai (wu b26_27.eq_1) (ai (wu b26_28.eq_1) (ai (wu b26_29.eq_1) (ai (wu b26_30.eq_1) (ai (wu b26_31.eq_1) (ai (wu b26_32.eq_1) (ai (wu b26_33.eq_1) (ai (wu b26_34.eq_1) (ai (wu b26_35.eq_1) (ai (wu b26_36.eq_1) (ai (wu b26_37.eq_1) (ai (wu b26_38.eq_1) (ai (wu b26_39.eq_1) (ai (wu b26_40.eq_1) (ai (wu b26_41.eq_1) (ai (wu b26_42.eq_1) (ai (wu b26_43.eq_1) (ai (wu b26_44.eq_1) (ai (wu b26_45.eq_1) (ai (wu b26_46.eq_1) (ai (wu b26_47.eq_1) (ai (wu b26_48.eq_1) (ai (wu b26_49.eq_1) (ai (wu b26_50.eq_1) (ai (wu b26_51.eq_1) (ai (wu b26_52.eq_1) (ai (wu b26_53.eq_1) (ai (wu b26_54.eq_1) (ai (wu b26_55.eq_1) (wu b26_56.eq_1))))))))))))))))))))))))))))))))))))))))))))))))))))))))
theorem t25 (Φ : Nat → Option CF) (h : Φ 25 = some c25) (op : Int) (ct : Nat) : To Φ 25 [.i .i64 op] ct (.i .i64 (formI op)) := by
 refine to_walk h ?_
 simp only [WX, B25]
 repeat' first | (refine wp_cond (by simp only [WX]; rfl) (fun h => ?_) (fun h => ?_) <;> simp only [WX, Nat.reduceEqDiff, reduceCtorEq, B25, h]) | (refine wo_g (by simp only [WX]; rfl) (fun h => ?_) (fun h => ?_) <;> simp only [WX, B25, h])
 all_goals (simp only [decide_eq_true_eq, decide_eq_false_iff_not, Bool.not_true, Bool.not_false] at *; congr 1; unfold formI; repeat' split)
 all_goals first | rfl | omega
theorem t26 (Φ : Nat → Option CF) (h : Φ 26 = some c26) (op : Int) (ct : Nat) : To Φ 26 [.i .i64 op] ct (.i .i64 (formI op)) := by
 refine to_walk h ?_
 simp only [WX, B26]
 repeat' first | (refine wp_cond (by simp only [WX]; rfl) (fun h => ?_) (fun h => ?_) <;> simp only [WX, B26, h]) | (refine wo_g (by simp only [WX, Nat.reducePow, Nat.reduceDiv, Nat.reduceMod, Nat.reduceBEq, Nat.reduceEqDiff, Int.reduceEq, Int.reduceLT, Int.reduceLE, reduceIte, reduceCtorEq, Nat.reduceAdd, Nat.reduceLeDiff, wd_e1]; rfl) (fun h => ?_) (fun h => ?_) <;> simp only [WX, Nat.reducePow, Nat.reduceDiv, Nat.reduceMod, Nat.reduceBEq, Nat.reduceEqDiff, Int.reduceEq, Int.reduceLT, Int.reduceLE, reduceIte, reduceCtorEq, Nat.reduceAdd, Nat.reduceLeDiff, wd_e1, B26, h])
 all_goals (simp only [decide_eq_true_eq, decide_eq_false_iff_not] at *; congr 1; unfold formI; repeat' split)
 all_goals first | rfl | omega
theorem names53_bd : bds (fun _ => False) names53 := by unfold names53; simp [bds, bd]
theorem nameV_bd (op : Int) : bd (fun _ => False) (nameV op) := by
 unfold nameV
 split
 · cases hn : names53[op.toNat]? with
   | none => trivial
   | some x => exact (bds_iff _ _).1 names53_bd x (List.mem_of_getElem? hn)
 · trivial
section
variable {P : Program} (hm : P.follows .mixedOrders = true) {Φ : Nat → Option CF} (hΦ : PhiOk P Φ)
include hm hΦ
theorem o25 (h : Φ 25 = some c25) : OrcOk P 25 (pureO h25) := pure_of hm hΦ (by
 intro args v ct hv hct; unfold h25 at hv; split at hv
 · obtain rfl := Option.some.inj hv; exact ⟨trivial, t25 Φ h _ _⟩
 · cases hv)
theorem o26 (h : Φ 26 = some c26) : OrcOk P 26 (pureO h25) := pure_of hm hΦ (by
 intro args v ct hv hct; unfold h25 at hv; split at hv
 · obtain rfl := Option.some.inj hv; exact ⟨trivial, t26 Φ h _ _⟩
 · cases hv)
theorem o40 (h : Φ 40 = some c40) : OrcOk P 40 (pureO h40) := pure_of hm hΦ (by
 intro args v ct hv hct; unfold h40 at hv; split at hv
 · obtain rfl := Option.some.inj hv; exact ⟨⟨trivial, trivial, trivial, trivial, trivial⟩, t40 Φ h _ _⟩
 · cases hv)
theorem o38 (h : Φ 38 = some c38) : OrcOk P 38 (pureO h38) := pure_of hm hΦ (by
 intro args v ct hv hct; unfold h38 at hv; split at hv
 · obtain rfl := Option.some.inj hv; exact ⟨⟨trivial, trivial, trivial, trivial, trivial⟩, t38 Φ h _ _⟩
 · cases hv)
theorem o57 (h : Φ 57 = some c57) : OrcOk P 57 (pureO h57) := pure_of hm hΦ (by
 intro args v ct hv hct; unfold h57 at hv; split at hv
 · obtain rfl := Option.some.inj hv; exact ⟨trivial, t57 Φ h _ _⟩
 · cases hv)
theorem o54 (h : Φ 54 = some c54) : OrcOk P 54 (pureO h54) := pure_of hm hΦ (by
 intro args v ct hv hct; unfold h54 at hv; split at hv
 · obtain rfl := Option.some.inj hv; exact ⟨trivial, t54 Φ h _ _⟩
 · cases hv)
theorem o39 (h : Φ 39 = some c39) : OrcOk P 39 (pureO h39) := pure_of hm hΦ (by
 intro args v ct hv hct; unfold h39 at hv; split at hv
 · obtain rfl := Option.some.inj hv; exact ⟨trivial, t39 Φ h _ _ _⟩
 · cases hv)
theorem o53 (h : Φ 53 = some c53) : OrcOk P 53 (pureO h53) := pure_of hm hΦ (by
 intro args v ct hv hct; unfold h53 at hv; split at hv
 · obtain rfl := Option.some.inj hv; exact ⟨names53_bd, t53 Φ h _⟩
 · cases hv)
theorem o24 (h : Φ 24 = some c24) (h53 : Φ 53 = some (.orc (pureO h53))) : OrcOk P 24 (pureO h24) := pure_of hm hΦ (by
 intro args v ct hv hct; unfold h24 at hv; split at hv
 · obtain rfl := Option.some.inj hv; exact ⟨nameV_bd _, t24 Φ h h53 _ _⟩
 · cases hv)
theorem o37 (h : Φ 37 = some c37) (h25 : Φ 25 = some (.orc (pureO h25))) (h40 : Φ 40 = some (.orc (pureO h40))) (h54 : Φ 54 = some (.orc (pureO h54))) (h57 : Φ 57 = some (.orc (pureO h57))) (h24 : Φ 24 = some (.orc (pureO h24))) : OrcOk P 37 (pureO h37) := pure_of hm hΦ (by
 intro args v ct hv hct; unfold h37 at hv; split at hv
 · obtain rfl := Option.some.inj hv; exact ⟨trivial, t37 Φ h h25 h40 h54 h57 h24 _ _ _ _ _ _⟩
 · cases hv)
theorem o11 (h : Φ 11 = some c11) : OrcOk P 11 (pureO h11) := pure_of hm hΦ (by
 intro args v ct hv hct; unfold h11 at hv; split at hv
 · obtain rfl := Option.some.inj hv; exact ⟨trivial, t11 Φ h _ _⟩
 · cases hv)
end
structure Ins where
 op : Int
 d : Int
 a : Int
 b : Int
 i : Int
def insV (x : Ins) : List V := [.i .i64 x.op, .i .i64 x.d, .i .i64 x.a, .i .i64 x.b, .i .i64 x.i]
def insTy : Ty := .cons (.int .i64) (.cons (.int .i64) (.cons (.int .i64) (.cons (.int .i64) (.cons (.int .i64) .nil))))
theorem i64_of {F : RO} {M : Mem} {c : Nat} {vs : List V} {x : (Ty.int .i64).D} (h : Rp F M c (.int .i64) vs x) : ∃ z : Int, vs = [.i .i64 z] ∧ -9223372036854775808 ≤ z ∧ z ≤ 9223372036854775807 := by
 have key : ∀ z : Int, vs = [.i .i64 z] ∧ IntKind.i64.min ≤ z ∧ z ≤ IntKind.i64.max → ∃ z : Int, vs = [.i .i64 z] ∧ -9223372036854775808 ≤ z ∧ z ≤ 9223372036854775807 := fun z h => ⟨z, h⟩
 exact key x h
theorem ins_of {F : RO} {M : Mem} {c : Nat} {vs : List V} {x : insTy.D} (h : Rp F M c insTy vs x) : ∃ y : Ins, vs = insV y := by
 obtain ⟨a1, r1, rfl, h1, a2, r2, rfl, h2, a3, r3, rfl, h3, a4, r4, rfl, h4, a5, r5, rfl, h5, rfl⟩ := h
 obtain ⟨z1, rfl, _⟩ := i64_of h1
 obtain ⟨z2, rfl, _⟩ := i64_of h2
 obtain ⟨z3, rfl, _⟩ := i64_of h3
 obtain ⟨z4, rfl, _⟩ := i64_of h4
 obtain ⟨z5, rfl, _⟩ := i64_of h5
 exact ⟨⟨z1, z2, z3, z4, z5⟩, rfl⟩
theorem setParams_two (p q : Pos) (x y : V) (t : T) : setParams [p, q] [x, y] t = some ((t.setP p x).setP q y) := by
 show (t.setP p x).force (fun t => (t.setP q y).force fun t => some t) = _
 rw [Tr.force_eq, Tr.force_eq]
def b20_1 : CC := (.reg [(aa a1 (.bx 26 5 z0)), (qq a2 (.mv (x6 0))), (qq a3 (.mv xF))])
def b20_2 : CC := (.reg [(qq a5 (.ldn 5 z1)), (ee a6 (.call 37 [z5])), (qq a7 (.un .not z6)), (qq a8 (.mv z7)), ⟨(some a9), .q (.fa 0 z1), (some (a8, false))⟩, ⟨(some a10), .q (.ld1 z9), (some (a8, false))⟩, ⟨(some a11), .e (.call 25 [z10]), (some (a8, false))⟩, ⟨(some a12), .e (.call 40 [z11]), (some (a8, false))⟩, ⟨(some a13), .q (.fl1 0 z12), (some (a8, false))⟩, ⟨(some a14), .q (.un .not z13), (some (a8, false))⟩, (qq a15 (.pk z8 xT z14)), (qq a4 (.mv z15))])
def b20_3 : CC := (.reg [(qq a2 (.mv (x6 0))), (qq a3 (.mv xF))])
def b20_4 : CC := (.reg [(qq a17 (.fa 0 z1)), (qq a18 (.ld1 z17)), (ee a19 (.call 25 [z18])), (qq a20 (.bi .neq z19 (x6 6))), (qq a16 (.mv z20))])
def b20_5 : CC := (.reg [(qq a21 (.fa 1 z1)), (qq a22 (.ld1 z21)), (qq a2 (.mv z22)), (qq a3 (.mv xT))])
def b20_6 : CC := (.reg [(qq a24 (.fa 0 z1)), (qq a25 (.ld1 z24)), (qq a26 (.bi .eql z25 (x6 18))), (qq a23 (.mv z26))])
def b20_7 : CC := (.reg [(qq a27 (.fa 0 z1)), (qq a28 (.ld1 z27)), (qq a29 (.bi .eql z28 (x6 19))), (qq a23 (.mv z29))])
def b20_8 : CC := (.reg [(qq a30 (.fa 0 z1)), (qq a31 (.ld1 z30)), (qq a32 (.bi .eql z31 (x6 21))), (qq a23 (.mv z32))])
def b20_9 : CC := (.seq b20_7 (.cond z23 .skip b20_8))
def b20_10 : CC := (.seq b20_6 (.cond z23 .skip b20_9))
def b20_11 : CC := (.reg [(qq a33 (.fa 1 z1)), (qq a34 (.ld1 z33)), (qq a2 (.mv z34)), (qq a3 (.mv xT))])
def b20_12 : CC := (.cond z23 (.seq b20_11 .ret) .skip)
def b20_13 : CC := (.cond z16 (.seq b20_5 .ret) (.seq b20_10 b20_12))
def b20_14 : CC := (.cond z4 (.seq b20_3 .ret) (.seq b20_4 b20_13))
def b20_15 : CC := (.reg [(qq a2 (.mv (x6 0))), (qq a3 (.mv xF))])
def b20_16 : CC := (.seq b20_1 (.seq (.block 0 (.seq b20_2 b20_14)) (.seq b20_15 .ret)))
def c20 : CF := .mk 6 [.t a2, .t a3] b20_16
def b21_1 : CC := (.reg [(aa a2 (.bx 26 5 z0)), (qq a4 (.mv (.c (.i .u32 0)))), (qq a5 (.mv xF))])
def b21_2 : CC := (.reg [(qq a6 (.fa 0 z2)), (qq a7 (.ld1 z6))])
def b21_3 : CC := (.reg [(qq a9 (.bi .eql z7 (x6 23))), (qq a8 (.mv z9))])
def b21_4 : CC := (.reg [(qq a10 (.bi .eql z7 (x6 25))), (qq a8 (.mv z10))])
def b21_5 : CC := (.reg [(qq a11 (.bi .eql z7 (x6 26))), (qq a8 (.mv z11))])
def b21_6 : CC := (.reg [(qq a12 (.bi .eql z7 (x6 27))), (qq a8 (.mv z12))])
def b21_7 : CC := (.reg [(qq a13 (.bi .eql z7 (x6 28))), (qq a8 (.mv z13))])
def b21_8 : CC := (.cond z8 .skip (.seq b21_6 (.cond z8 .skip b21_7)))
def b21_9 : CC := (.seq b21_4 (.cond z8 .skip (.seq b21_5 b21_8)))
def b21_10 : CC := (.reg [(qq a14 (.ldn 5 z2)), (ee a15 (.call 37 [z14]))])
def b21_11 : CC := (.reg [(qq a16 (.mv z1)), (qq a17 (.fa 4 z2)), (qq a18 (.ld1 z17)), (qq a19 (.ci .u32 z18)), (qq a20 (.bi .shl z19 (.c (.i .u64 2)))), (qq a21 (.bi .add z16 z20)), (qq a4 (.mv z21)), (qq a5 (.mv xT))])
def b21_12 : CC := (.cond z15 (.seq b21_11 .ret) .skip)
def b21_13 : CC := (.seq (.seq b21_3 (.cond z8 .skip b21_9)) (.cond z8 (.seq b21_10 b21_12) .skip))
def b21_14 : CC := (.reg [(qq a4 (.mv (.c (.i .u32 0)))), (qq a5 (.mv xF))])
def b21_15 : CC := (.seq b21_1 (.seq (.seq b21_2 (.block 0 b21_13)) (.seq b21_14 .ret)))
def c21 : CF := .mk 5 [.t a4, .t a5] b21_15
def b23_1 : CC := (.reg [(aa a1 (.bsl 9 29 1 [(.s 0 0)] [(0, (.c (.s 0 0))), (1, (.c (.s 3 7368558))), (2, (.c (.s 4 1886352499))), (3, (.c (.s 4 1819042147))), (4, (.c (.s 4 1801675106))), (5, (.c (.s 5 500152823651))), (6, (.c (.s 4 1751607656))), (7, (.c (.s 4 2037411683))), (8, (.c (.s 3 6579297))), (9, (.c (.s 3 6452595))), (10, (.c (.s 3 7107949))), (11, (.c (.s 3 7760228))), (12, (.c (.s 3 6582125))), (13, (.c (.s 3 6581857))), (14, (.c (.s 2 29295))), (15, (.c (.s 3 7499640))), (16, (.c (.s 3 7104627))), (17, (.c (.s 3 7497843))), (18, (.c (.s 4 1768186977))), (19, (.c (.s 4 1684107116))), (20, (.c (.s 5 435711603827))), (21, (.c (.s 5 422590902124))), (22, (.c (.s 6 108187851125875))), (23, (.c (.s 4 1886221674))), (24, (.c (.s 5 491512493418))), (25, (.c (.s 4 1802398060))), (26, (.c (.s 3 7431522))), (27, (.c (.s 3 6647394))), (28, (.c (.s 3 7629922)))])), (qq a0 (.mv z1))])
def b23_2 : CC := (.seq (.reg [(qq a0 (.mv (.c .l0)))]) (.seq b23_1 .ret))
def c23 : CF := .mk 2 [.t a0] b23_2
theorem e23 : argTr 2 [] = sk2 := rfl
def B23 := ai @e23 (ai (wu b23_1.eq_1) (wu b23_2.eq_1))
def b52_1 : CC := (.seq (.reg [(qq a0 (.mv (.c (.f 68 [] []))))]) .ret)
def c52 : CF := .mk 1 [.t a0] (.seq (.reg [(qq a0 (.mv (.c .f0)))]) b52_1)
theorem e52 : argTr 1 [] = sk1 := rfl
def B52 := ai @e52 (wu b52_1.eq_1)
def b68_1 : CC := (.reg [(ee a4 (.call 53 [])), (qq a5 (.mv (x6 0)))])
def b68_2 : CC := (.reg [(qq a6 (.bi .lss z5 (x6 29)))])
def b68_3 : CC := (.reg [(qq a7 (.mv z5)), (qq a8 (.ixA1 29 1 z4 z5)), (qq a2 (.mv z7)), (qq a3 (.mv z8))])
def b68_4 : CC := (.reg [(qq a9 (.mv z2)), (qq a10 (.bi .gtr z9 (x6 0))), (qq a11 (.mv z10)), ⟨(some a12), .q (.mv z0), (some (a11, true))⟩, ⟨(some a13), .q (.mv z2), (some (a11, true))⟩, ⟨(some a14), .q (.mv z3), (some (a11, true))⟩, ⟨(some a15), .e (.cv z12 [z13, z14]), (some (a11, true))⟩, ⟨(some a16), .q (.un .not z15), (some (a11, true))⟩, (qq a17 (.pk z11 z16 xF))])
def b68_5 : CC := (.seq b68_3 (.seq b68_4 (.cond z17 .ret .skip)))
def b68_6 : CC := (.reg [(qq a18 (.bi .add z5 (x6 1))), (qq a5 (.mv z18))])
def b68_7 : CC := (.seq (.cond z6 .skip (.exit 0)) (.seq (.block 1 b68_5) b68_6))
def c68 : CF := .mk 5 [] (.seq b68_1 (.block 0 (.loop (.seq b68_2 b68_7))))
theorem e68 (v0 : V) : argTr 5 [v0] = (.n sk4 (some v0) sk4) := rfl
def B68 := ai @e68 (ai (wu b68_1.eq_1) (ai (wu b68_2.eq_1) (ai (wu b68_3.eq_1) (ai (wu b68_4.eq_1) (ai (wu b68_5.eq_1) (ai (wu b68_6.eq_1) (wu b68_7.eq_1)))))))
def nameL : List (List UInt8) := [[], [110, 111, 112], [115, 116, 111, 112], [99, 97, 108, 108], [98, 97, 99, 107], [99, 111, 110, 115, 116], [104, 105, 103, 104], [99, 111, 112, 121], [97, 100, 100], [115, 117, 98], [109, 117, 108], [100, 105, 118], [109, 111, 100], [97, 110, 100], [111, 114], [120, 111, 114], [115, 104, 108], [115, 104, 114], [97, 100, 100, 105], [108, 111, 97, 100], [115, 116, 111, 114, 101], [108, 111, 97, 100, 98], [115, 116, 111, 114, 101, 98], [106, 117, 109, 112], [106, 117, 109, 112, 114], [108, 105, 110, 107], [98, 101, 113], [98, 110, 101], [98, 108, 116]]
theorem names_eq : names53 = nameL.map sV := rfl
theorem nameL_len : nameL.length = 29 := rfl
theorem names_get {k : Nat} (h : k < 29) : names53[k]? = some (sV (nameL[k]'h)) := by
 rw [names_eq, List.getElem?_map, List.getElem?_eq_getElem (show k < nameL.length from h)]; rfl
theorem t52 (Φ : Nat → Option CF) (h : Φ 52 = some c52) (ct : Nat) : To Φ 52 [] ct (.f 68 [] []) := by
 refine to_walk h ?_
 simp only [WX, B52]
def h52 : List V → Option V
 | [] => some (.f 68 [] [])
 | _ => none
theorem h52_eq : h52 [] = some (.f 68 [] []) := rfl
theorem r68 (Φ : Nat → Option CF) (h : Φ 68 = some c68) (h53 : Φ 53 = some (.orc (pureO h53))) {F : RO} {M : Mem} {c y : Nat} {I : Nat → Mem → Nat → Prop} {J : Mem → Nat → Prop} (h0 : I 1 M c)
  (hY : ∀ k M c, (hk : k < 29) → 1 ≤ k → I k M c → RTo (callV (K Φ none 68 F) (.y y) [.i .i64 (k : Int), sV (nameL[k]'hk)] M c) fun r M' c' => (r = .b true ∧ I (k + 1) M' c') ∨ (r = .b false ∧ J M' c')) :
  Calls Φ F 68 [.y y] M c fun _ M' c' => I 29 M' c' ∨ J M' c' := by
 refine calls_walk h ?_
 simp only [WX, B68, h53, h53_eq]
 obtain ⟨Iv, hIv⟩ : ∃ Iv : Nat → St → Prop, ∀ n s, Iv n s ↔ (∃ (k : Nat) (M1 : Mem) (c1 : Nat) (u : List (Option V)), n = 29 - k ∧ k ≤ 29 ∧ s = .mk ((.n (.n (uv7 u 15 7 23 3 19 11 27) (uO u 1) (.n (uv3 u 17 9 25) (some (.i .i64 (k : Int))) (uv3 u 21 13 29))) (some (.y y)) (.n (.n (uv3 u 16 8 24) (some (.g names53)) (uv3 u 20 12 28)) (uO u 2) (uv7 u 18 10 26 6 22 14 30)))) [] M1 c1 ∧ I (max k 1) M1 c1) := ⟨fun n s => _, fun _ _ => Iff.rfl⟩
 refine wp_while Iv ?_ 29 _ ((hIv _ _).2 ⟨0, _, _, [none, _, _, _, none, none, _, _, _, _, _, _, _, _, _, _, _, _, _, _, _, _, _, _, _, _, _, _, _, _, _], rfl, Nat.zero_le _, rfl, h0⟩)
 intro n s hIs
 obtain ⟨k, M1, c1, u, rfl, hk, rfl, hi⟩ := (hIv _ _).1 hIs
 clear hIs
 have q8 : biV .add (.i .i64 (k : Int)) (.i .i64 1) = some (.i .i64 ((k + 1 : Nat) : Int)) := by rw [i64_add _ _ (by omega) (by omega)]; simp
 by_cases hlt : k < 29
 · have hd : decide ((k : Int) < 29) = true := decide_eq_true (by omega)
   have hix : ixA1V 29 1 (.g names53) (.i .i64 (k : Int)) = some (sV (nameL[k]'hlt)) := by
    rw [ixA1_g, if_pos (by omega)]
    exact names_get hlt
   by_cases h1 : 1 ≤ k
   · have hd1 : decide (0 < (k : Int)) = true := decide_eq_true (by omega)
     rw [show max k 1 = k by omega] at hi
     simp only [WX, B68, hd, hix, hd1]
     refine putE_to ((hY k M1 c1 hlt h1 hi).mono ?_)
     rintro r M3 c3 (⟨rfl, hi3⟩ | ⟨rfl, hj⟩)
     · simp only [WX, B68, q8]
       exact ⟨29 - (k + 1), by omega, (hIv _ _).2 ⟨k + 1, M3, c3, [none, _, _, _, none, none, _, _, _, _, _, _, _, _, _, _, _, _, _, _, _, _, _, _, _, _, _, _, _, _, _], rfl, by omega, rfl, by rw [show max (k + 1) 1 = k + 1 by omega]; exact hi3⟩⟩
     · simp only [WX]
       exact .inr hj
   · obtain rfl : k = 0 := by omega
     have hd1 : decide (0 < ((0 : Nat) : Int)) = false := rfl
     simp only [WX, B68, hd, hix, q8, hd1]
     exact ⟨28, by omega, (hIv _ _).2 ⟨1, M1, c1, [none, _, _, _, none, none, _, _, _, _, _, _, _, _, _, _, _, _, _, _, _, _, _, _, _, _, _, _, _, _, _], rfl, by omega, rfl, hi⟩⟩
 · have hd : decide ((k : Int) < 29) = false := decide_eq_false (by omega)
   obtain rfl : k = 29 := by omega
   simp only [WX, B68, hd]
   exact .inl hi
def b22_1 : CC := (.reg [(aa a1 (.bx 9 1 z0)), (aa a2 (.al 24 [(.i .i64 0)])), (aa a3 (.al 4 [(.b false)]))])
def b22_2 : CC := (.reg [(qq a4 (.mv z7))])
def b22_3 : CC := (.reg [(qq a5 (.mv z8))])
def b22_4 : CC := (.reg [(qq a9 (.mv z5)), (qq a10 (.ld1 z1)), (qq a11 (.bi .eql z9 z10))])
def b22_5 : CC := (.reg [(qq a12 (.mv z4)), (ez (.st 1 z2 z12)), (ez (.st 1 z3 xT))])
def b22_6 : CC := (.seq b22_4 (.cond z11 (.seq b22_5 .ret) .skip))
def b22_7 : CC := (.rf z6 [a7, a8] (.seq b22_2 b22_3) (.block 1 b22_6))
def b22_8 : CC := (.seq (.reg [(ee a6 (.call 52 []))]) (.block 0 b22_7))
def b22_9 : CC := (.reg [(ez (.st 1 z2 (x6 0))), (ez (.st 1 z3 xF))])
def c22 : CF := .mk 4 [.c1 a2, .c1 a3] (.seq b22_1 (.seq b22_8 (.seq b22_9 .ret)))
theorem e22 (v0 : V) : argTr 4 [v0] = (.n sk3 (some v0) sk3) := rfl
def B22 := ai @e22 (ai (wu b22_1.eq_1) (ai (wu b22_2.eq_1) (ai (wu b22_3.eq_1) (ai (wu b22_4.eq_1) (ai (wu b22_5.eq_1) (ai (wu b22_6.eq_1) (ai (wu b22_7.eq_1) (ai (wu b22_8.eq_1) (wu b22_9.eq_1)))))))))
def IsN (s : List UInt8) (k : Nat) : Prop := 1 ≤ k ∧ nameL[k]? = some s
theorem isN_uniq {s : List UInt8} {j k : Nat} (h : IsN s j) (h' : IsN s k) : j = k := by
 obtain ⟨_, h1⟩ := h
 obtain ⟨_, h2⟩ := h'
 obtain ⟨a1, e1⟩ := List.getElem?_eq_some_iff.1 h1
 obtain ⟨a2, e2⟩ := List.getElem?_eq_some_iff.1 h2
 have key : ∀ a b, a < 29 → b < 29 → nameL[a]? = nameL[b]? → a = b := by
  have : ∀ a, a < 29 → ∀ b, b < 29 → nameL[a]? = nameL[b]? → a = b := by decide +kernel
  exact fun a b ha hb => this a ha b hb
 exact key j k a1 a2 (h1.trans h2.symm)
def FoundN (s : List UInt8) (n : Int) (b : Bool) : Prop := (∃ k, IsN s k ∧ n = (k : Int) ∧ b = true) ∨ ((∀ k, ¬ IsN s k) ∧ n = 0 ∧ b = false)
theorem r22 (Φ : Nat → Option CF) (h : Φ 22 = some c22) (h52 : Φ 52 = some (.orc (pureO h52))) (h53 : Φ 53 = some (.orc (pureO h53))) (h68 : Φ 68 = some c68) {F : RO} {M : Mem} {c : Nat} (s : List UInt8) (ok : Okm F M c) :
  Calls Φ F 22 [sV s] M c fun r M' c' => (∃ n b, r = .t [.i .i64 n, .b b] ∧ FoundN s n b) ∧ Gr c M c' M' := by
 refine calls_walk h ?_
 have f1 : flatten (sV s) = [sV s] := rfl
 have f2 : isOne (sV s) = true := rfl
 simp only [WX, Nat.reduceAdd, B22, f1, f2, h52, h52_eq]
 refine wp_rf0 ?_
 simp only [WX, Nat.reduceAdd, callI_f]
 obtain ⟨BL, hBL⟩ : ∃ BL : LS → Pend → Blk, BL = fun st p => Blk.loop st p 22 ((.n (.n (.n sk1 (some (.p (c + 2) 0)) sk1) (some (.p c 0)) sk2) (some (sV s)) (.n sk2 (some (.p (c + 1) 0)) (.n sk1 (some (.f 68 [] [])) sk1)))) [(.l (.l (.l .h))), (.r (.l (.l .h)))] (b22_2.seq b22_3) (.block 1 b22_6) (c + 3) := ⟨_, rfl⟩
 obtain ⟨Ik, hIk⟩ : ∃ I : Nat → Mem → Nat → Prop, ∀ k M' cc, I k M' cc ↔ (Gr c M cc M' ∧ c + 5 ≤ cc ∧ M'.get c = some (rowB 9 [sV s]) ∧ M'.get (c + 1) = some (rowB 24 [.i .i64 0]) ∧ M'.get (c + 2) = some (rowB 4 [.b false]) ∧ M'.get (c + 3) = some (.defs false) ∧ M'.get (c + 4) = some (BL .ready .none) ∧ ∀ j, j < k → ¬ IsN s j) := ⟨fun k M' cc => _, fun _ _ _ => Iff.rfl⟩
 obtain ⟨J, hJ⟩ : ∃ J : Mem → Nat → Prop, ∀ M' cc, J M' cc ↔ (∃ k, IsN s k ∧ Gr c M cc M' ∧ c + 5 ≤ cc ∧ M'.get (c + 1) = some (rowB 24 [.i .i64 (k : Int)]) ∧ M'.get (c + 2) = some (rowB 4 [.b true]) ∧ M'.get (c + 3) = some (.defs false) ∧ M'.get (c + 4) = some (BL .done .ret)) := ⟨fun M' cc => _, fun _ _ => Iff.rfl⟩
 refine (r68 Φ h68 h53 (y := c + 4) (I := Ik) (J := J) ?_ ?_).mono ?_
 · refine (hIk _ _ _).2 ⟨(((((Gr.refl ok).set (c2 := c + 1) c _ (Nat.le_refl _) (by omega) (by omega)).set (c2 := c + 2) (c + 1) _ (by omega) (by omega) (by omega)).set (c2 := c + 3) (c + 2) _ (by omega) (by omega) (by omega)).set (c2 := c + 4) (c + 3) _ (by omega) (by omega) (by omega)).set (c + 4) _ (by omega) (by omega) (by omega), by omega, ?_, ?_, ?_, ?_, ?_, fun j hj hn => by have := hn.1; omega⟩
   · rw [get_ne _ _ (by omega), get_ne _ _ (by omega), get_ne _ _ (by omega), get_ne _ _ (by omega)]; exact get_same _ _ _
   · rw [get_ne _ _ (by omega), get_ne _ _ (by omega), get_ne _ _ (by omega)]; exact get_same _ _ _
   · rw [get_ne _ _ (by omega), get_ne _ _ (by omega)]; exact get_same _ _ _
   · rw [get_ne _ _ (by omega)]; exact get_same _ _ _
   · rw [hBL]; exact get_same _ _ _
 · intro k M2 cc hk hk1 hi
   obtain ⟨a1, a2, a3, a4, a5, a6, a7, a8⟩ := (hIk _ _ _).1 hi
   have hl5 := a7
   rw [hBL] at hl5
   refine yield_of hl5 (setParams_two _ _ _ _ _) ?_
   simp only [WX, B22]
   refine asgQ_of hl5 ?_
   rw [show Blk.loop LS.busy _ _ _ _ _ _ _ = BL .busy .none by rw [hBL]]
   have gMB := a1.set (c2 := cc) (c + 4) (BL .busy .none) (by omega) (by omega) (Nat.le_refl _)
   have m3 : (M2.set (c + 4) (BL .busy .none)).get c = some (rowB 9 [sV s]) := (get_ne _ _ (by omega)).trans a3
   have m4 : (M2.set (c + 4) (BL .busy .none)).get (c + 1) = some (rowB 24 [.i .i64 0]) := (get_ne _ _ (by omega)).trans a4
   have m5 : (M2.set (c + 4) (BL .busy .none)).get (c + 2) = some (rowB 4 [.b false]) := (get_ne _ _ (by omega)).trans a5
   have m6 : (M2.set (c + 4) (BL .busy .none)).get (c + 3) = some (.defs false) := (get_ne _ _ (by omega)).trans a6
   have m7 : (M2.set (c + 4) (BL .busy .none)).get (c + 4) = some (BL .busy .none) := get_same _ _ _
   generalize M2.set (c + 4) (BL .busy .none) = MB at gMB m3 m4 m5 m6 m7 ⊢
   have l3 : load1 F MB c 0 = some (sV s) := load_row m3 0
   by_cases he : nameL[k]'hk = s
   · have d1 : decide (nameL[k]'hk = s) = true := decide_eq_true he
     have hs1 := store_row m4 0 [.i .i64 (k : Int)] (by simp) rfl
     have m5' : (MB.set (c + 1) (rowB 24 [.i .i64 (k : Int)])).get (c + 2) = some (rowB 4 [.b false]) := (get_ne _ _ (by omega)).trans m5
     have hs2 := store_row m5' 0 [.b true] (by simp) rfl
     simp only [WX, B22, l3, d1, hs1, hs2]
     have hly : ((MB.set (c + 1) (rowB 24 [V.i .i64 (k : Int)])).set (c + 2) (rowB 4 [V.b true])).get (c + 4) = some (BL .busy .none) := by rw [get_ne _ _ (by omega), get_ne _ _ (by omega)]; exact m7
     rw [hBL] at hly
     refine yq_ret hly ?_
     refine Or.inr ⟨rfl, (hJ _ _).2 ⟨k, ⟨hk1, ?_⟩, ((gMB.set (c + 1) _ (by omega) (by omega) (Nat.le_refl _)).set (c + 2) _ (by omega) (by omega) (Nat.le_refl _)).set (c + 4) _ (by omega) (by omega) (Nat.le_refl _), a2, ?_, ?_, ?_, ?_⟩⟩
     · exact (List.getElem?_eq_getElem (show k < nameL.length from hk)).trans (congrArg some he)
     · rw [get_ne _ _ (by omega), get_ne _ _ (by omega)]; exact get_same _ _ _
     · rw [get_ne _ _ (by omega)]; exact get_same _ _ _
     · rw [get_ne _ _ (by omega), get_ne _ _ (by omega), get_ne _ _ (by omega)]; exact m6
     · rw [hBL]; exact get_same _ _ _
   · have d1 : decide (nameL[k]'hk = s) = false := decide_eq_false he
     simp only [WX, B22, l3, d1]
     have hly := m7
     rw [hBL] at hly
     refine yq_nrm hly ?_
     refine Or.inl ⟨rfl, (hIk _ _ _).2 ⟨gMB.set (c + 4) _ (by omega) (by omega) (Nat.le_refl _), a2, ?_, ?_, ?_, ?_, ?_, fun j hj hn => ?_⟩⟩
     · rw [get_ne _ _ (by omega)]; exact m3
     · rw [get_ne _ _ (by omega)]; exact m4
     · rw [get_ne _ _ (by omega)]; exact m5
     · rw [get_ne _ _ (by omega)]; exact m6
     · rw [hBL]; exact get_same _ _ _
     · by_cases hjk : j = k
       · subst hjk
         have := hn.2
         rw [List.getElem?_eq_getElem (show j < nameL.length from hk)] at this
         exact he (Option.some.inj this)
       · exact a8 j (by omega) hn
 · rintro v' M2 cc (hi | hj)
   · obtain ⟨a1, a2, a3, a4, a5, a6, a7, a8⟩ := (hIk _ _ _).1 hi
     have hl5 := a7
     rw [hBL] at hl5
     refine ⟨_, _, _, _, _, _, _, _, hl5, (by intro h; cases h), ?_⟩
     rw [show Blk.loop LS.exhausted _ _ _ _ _ _ _ = BL .exhausted .none by rw [hBL]]
     have gMB := a1.set (c2 := cc) (c + 4) (BL .exhausted .none) (by omega) (by omega) (Nat.le_refl _)
     have m4 : (M2.set (c + 4) (BL .exhausted .none)).get (c + 1) = some (rowB 24 [.i .i64 0]) := (get_ne _ _ (by omega)).trans a4
     have m5 : (M2.set (c + 4) (BL .exhausted .none)).get (c + 2) = some (rowB 4 [.b false]) := (get_ne _ _ (by omega)).trans a5
     have m6 : (M2.set (c + 4) (BL .exhausted .none)).get (c + 3) = some (.defs false) := (get_ne _ _ (by omega)).trans a6
     generalize M2.set (c + 4) (BL .exhausted .none) = MB at gMB m4 m5 m6 ⊢
     have hs1 := store_row m4 0 [.i .i64 0] (by simp) rfl
     have m5' : (MB.set (c + 1) (rowB 24 [.i .i64 0])).get (c + 2) = some (rowB 4 [.b false]) := (get_ne _ _ (by omega)).trans m5
     have hs2 := store_row m5' 0 [.b false] (by simp) rfl
     have ht1 : takeDefs [c + 3] ((MB.set (c + 1) (rowB 24 [V.i .i64 0])).set (c + 2) (rowB 4 [V.b false])) = some (((MB.set (c + 1) (rowB 24 [V.i .i64 0])).set (c + 2) (rowB 4 [V.b false])).set (c + 3) (.defs true)) := by
      rw [takeDefs_one (by rw [get_ne _ _ (by omega), get_ne _ _ (by omega)]; exact m6)]; rfl
     simp only [WX, Nat.reduceBEq, B22, pendEx_none, hs1, hs2, endQ_ret1, ht1, endD_some]
     refine ⟨⟨0, false, rfl, .inr ⟨fun j hj => ?_, rfl, rfl⟩⟩, ((gMB.set (c + 1) _ (by omega) (by omega) (Nat.le_refl _)).set (c + 2) _ (by omega) (by omega) (Nat.le_refl _)).set (c + 3) _ (by omega) (by omega) (Nat.le_refl _)⟩
     by_cases hj29 : j < 29
     · exact a8 j hj29 hj
     · have := hj.2
       rw [List.getElem?_eq_none (show nameL.length ≤ j by rw [nameL_len]; omega)] at this
       cases this
   · obtain ⟨k, hk, a1, a2, a4, a5, a6, a7⟩ := (hJ _ _).1 hj
     have hl5 := a7
     rw [hBL] at hl5
     refine ⟨_, _, _, _, _, _, _, _, hl5, (by intro h; cases h), ?_⟩
     rw [show Blk.loop LS.exhausted _ _ _ _ _ _ _ = BL .exhausted .ret by rw [hBL]]
     have gMB := a1.set (c2 := cc) (c + 4) (BL .exhausted .ret) (by omega) (by omega) (Nat.le_refl _)
     have m4 : (M2.set (c + 4) (BL .exhausted .ret)).get (c + 1) = some (rowB 24 [.i .i64 (k : Int)]) := (get_ne _ _ (by omega)).trans a4
     have m5 : (M2.set (c + 4) (BL .exhausted .ret)).get (c + 2) = some (rowB 4 [.b true]) := (get_ne _ _ (by omega)).trans a5
     have m6 : (M2.set (c + 4) (BL .exhausted .ret)).get (c + 3) = some (.defs false) := (get_ne _ _ (by omega)).trans a6
     generalize M2.set (c + 4) (BL .exhausted .ret) = MB at gMB m4 m5 m6 ⊢
     have ht1 : takeDefs [c + 3] MB = some (MB.set (c + 3) (.defs true)) := by
      rw [takeDefs_one m6]; rfl
     have l4 : load1 F (MB.set (c + 3) (.defs true)) (c + 1) 0 = some (.i .i64 (k : Int)) := load_row ((get_ne _ _ (by omega)).trans m4) 0
     have l5 : load1 F (MB.set (c + 3) (.defs true)) (c + 2) 0 = some (.b true) := load_row ((get_ne _ _ (by omega)).trans m5) 0
     simp only [WX, pendEx_ret, endQ_ret1, ht1, endD_some, l4, l5]
     exact ⟨⟨k, true, rfl, .inl ⟨k, hk, rfl, rfl⟩⟩, gMB.set (c + 3) _ (by omega) (by omega) (Nat.le_refl _)⟩
def b96_1 : CC := (.reg [(qq a4 (.mv (x6 0)))])
def b96_2 : CC := (.reg [(qq a5 (.mv z0)), (qq a6 (.mv z1)), (qq a7 (.xib z5 z6)), (qq a4 (.mv z7))])
def c96 : CF := .mk 4 [.t a4] (.seq b96_1 (.seq b96_2 .ret))
theorem e96 (v0 v1 : V) : argTr 4 [v0, v1] = (.n (.n sk2 (some v1) sk2) (some v0) sk3) := rfl
def B96 := ai @e96 (ai (wu b96_1.eq_1) (wu b96_2.eq_1))
def b72_1 : CC := (.reg [(qq a4 (.mv (x6 0)))])
def b72_2 : CC := (.reg [(qq a14 (.mv z1)), (qq a15 (.ln .str z14)), (qq a5 (.mv z15))])
def b72_3 : CC := (.reg [(qq a17 (.mv z5)), (qq a18 (.bi .eql z17 (x6 0))), (qq a19 (.mv z18)), ⟨(some a20), .q (.mv z1), (some (a19, false))⟩, ⟨(some a21), .q (.mv z0), (some (a19, false))⟩, ⟨(some a22), .q (.bi .eql z20 z21), (some (a19, false))⟩, (qq a23 (.pk z19 xT z22)), (qq a16 (.mv z23))])
def b72_4 : CC := (.reg [(qq a4 (.mv (x6 0)))])
def b72_5 : CC := (.reg [(qq a25 (.mv z5)), (qq a26 (.bi .eql z25 (x6 1))), (qq a24 (.mv z26))])
def b72_6 : CC := (.reg [(qq a27 (.mv z0)), (qq a28 (.mv z1)), (qq a29 (.ixS z28 (x6 0))), (ee a30 (.call 96 [z27, z29])), (qq a4 (.mv z30))])
def b72_7 : CC := (.reg [(qq a32 (.mv z5)), (qq a33 (.mv z0)), (qq a34 (.ln .str z33)), (qq a35 (.bi .geq z32 z34)), (qq a31 (.mv z35))])
def b72_8 : CC := (.reg [(qq a4 (.mv (x6 (-1))))])
def b72_9 : CC := (.reg [(qq a37 (.mv z5)), (qq a38 (.ld1 (.c (.p 0 0)))), (qq a39 (.bi .leq z37 z38)), (qq a40 (.mv z39)), ⟨(some a41), .q (.mv z0), (some (a40, true))⟩, ⟨(some a42), .q (.ln .str z41), (some (a40, true))⟩, ⟨(some a43), .q (.bi .leq z42 (x6 64)), (some (a40, true))⟩, (qq a44 (.pk z40 z43 xF)), (qq a36 (.mv z44))])
def b72_10 : CC := (.reg [(qq a45 (.mv z0)), (qq a46 (.mv z1)), (qq a47 (.bad)), (qq a4 (.mv z47))])
def b72_11 : CC := (.cond z36 (.seq b72_10 .ret) .skip)
def b72_12 : CC := (.cond z31 (.seq b72_8 .ret) (.seq b72_9 b72_11))
def b72_13 : CC := (.cond z24 (.seq b72_6 .ret) (.seq b72_7 b72_12))
def b72_14 : CC := (.cond z16 (.seq b72_4 .ret) (.seq b72_5 b72_13))
def b72_15 : CC := (.reg [(qq a48 (.mv z1)), (qq a49 (.ixS z48 (x6 0))), (qq a6 (.mv z49))])
def b72_16 : CC := (.reg [(qq a50 (.mv z1)), (qq a51 (.ixS z50 (x6 1))), (qq a7 (.mv z51))])
def b72_17 : CC := (.reg [(qq a8 (.mv (x6 0)))])
def b72_18 : CC := (.reg [(qq a52 (.mv z0)), (qq a53 (.ln .str z52)), (qq a54 (.mv z5)), (qq a55 (.bi .sub z53 z54)), (qq a56 (.bi .add z55 (x6 1))), (qq a9 (.mv z56))])
def b72_19 : CC := (.reg [(qq a10 (.mv (x6 0)))])
def b72_20 : CC := (.reg [(qq a57 (.mv z8)), (qq a58 (.mv z9)), (qq a59 (.bi .lss z57 z58))])
def b72_21 : CC := (.seq b72_20 (.cond z59 .skip (.exit 1)))
def b72_22 : CC := (.reg [(qq a60 (.mv z0)), (qq a61 (.mv z8)), (qq a62 (.ixS z60 z61)), (qq a63 (.mv z6)), (qq a64 (.bi .neq z62 z63))])
def b72_23 : CC := (.reg [(qq a65 (.mv z0)), (qq a66 (.mv z8)), (qq a67 (.bi .add z66 (x6 1))), (qq a68 (.mv z9)), (qq a69 (.slS z65 (some z67) (some z68))), (qq a70 (.mv z6)), (ee a71 (.call 96 [z69, z70])), (qq a11 (.mv z71))])
def b72_24 : CC := (.reg [(qq a72 (.mv z11)), (qq a73 (.bi .lss z72 (x6 0)))])
def b72_25 : CC := (.reg [(qq a4 (.mv (x6 (-1))))])
def b72_26 : CC := (.cond z73 (.seq b72_25 .ret) .skip)
def b72_27 : CC := (.reg [(qq a74 (.mv z8)), (qq a75 (.mv z11)), (qq a76 (.bi .add z75 (x6 1))), (qq a77 (.bi .add z74 z76)), (qq a8 (.mv z77))])
def b72_28 : CC := (.cond z64 (.seq b72_23 (.seq (.seq b72_24 b72_26) b72_27)) .skip)
def b72_29 : CC := (.reg [(qq a78 (.mv z0)), (qq a79 (.mv z8)), (qq a80 (.bi .add z79 (x6 1))), (qq a81 (.ixS z78 z80)), (qq a82 (.mv z7)), (qq a83 (.bi .eql z81 z82)), (qq a84 (.mv z83)), ⟨(some a85), .q (.mv z0), (some (a84, true))⟩, ⟨(some a86), .q (.mv z8), (some (a84, true))⟩, ⟨(some a87), .q (.mv z8), (some (a84, true))⟩, ⟨(some a88), .q (.mv z5), (some (a84, true))⟩, ⟨(some a89), .q (.bi .add z87 z88), (some (a84, true))⟩, ⟨(some a90), .q (.slS z85 (some z86) (some z89)), (some (a84, true))⟩, ⟨(some a91), .q (.mv z1), (some (a84, true))⟩, ⟨(some a92), .q (.bi .eql z90 z91), (some (a84, true))⟩, (qq a93 (.pk z84 z92 xF))])
def b72_30 : CC := (.reg [(qq a94 (.mv z8)), (qq a4 (.mv z94))])
def b72_31 : CC := (.cond z93 (.seq b72_30 .ret) .skip)
def b72_32 : CC := (.reg [(qq a95 (.mv z8)), (qq a96 (.bi .add z95 (x6 1))), (qq a8 (.mv z96))])
def b72_33 : CC := (.reg [(qq a97 (.mv z10)), (qq a98 (.bi .add z97 (x6 1))), (qq a10 (.mv z98))])
def b72_34 : CC := (.reg [(qq a99 (.mv z5)), (qq a100 (.ld1 (.c (.p 0 0)))), (qq a101 (.bi .leq z99 z100)), (qq a102 (.mv z101)), ⟨(some a103), .q (.mv z10), (some (a102, true))⟩, ⟨(some a104), .q (.mv z8), (some (a102, true))⟩, ⟨(some a105), .e (.call 98 [z104]), (some (a102, true))⟩, ⟨(some a106), .q (.bi .gtr z103 z105), (some (a102, true))⟩, (qq a107 (.pk z102 z106 xF))])
def b72_35 : CC := (.reg [(qq a108 (.mv z0)), (qq a109 (.mv z8)), (qq a110 (.slS z108 (some z109) none)), (qq a111 (.mv z1)), (qq a112 (.bad)), (qq a12 (.mv z112))])
def b72_36 : CC := (.reg [(qq a113 (.mv z12)), (qq a114 (.bi .geq z113 (x6 0)))])
def b72_37 : CC := (.reg [(qq a115 (.mv z12)), (qq a116 (.mv z8)), (qq a117 (.bi .add z115 z116)), (qq a4 (.mv z117))])
def b72_38 : CC := (.cond z114 (.seq b72_37 .ret) .skip)
def b72_39 : CC := (.reg [(qq a4 (.mv (x6 (-1))))])
def b72_40 : CC := (.seq b72_35 (.seq (.seq b72_36 b72_38) (.seq b72_39 .ret)))
def b72_41 : CC := (.reg [(qq a118 (.mv z5)), (qq a119 (.ld1 (.c (.p 0 0)))), (qq a120 (.bi .gtr z118 z119)), (qq a121 (.mv z120)), ⟨(some a122), .q (.mv z10), (some (a121, true))⟩, ⟨(some a123), .q (.mv z8), (some (a121, true))⟩, ⟨(some a124), .q (.bi .shr z123 (.c (.i .u64 4))), (some (a121, true))⟩, ⟨(some a125), .q (.bi .add (x6 4) z124), (some (a121, true))⟩, ⟨(some a126), .q (.bi .geq z122 z125), (some (a121, true))⟩, (qq a127 (.pk z121 z126 xF)), (qq a128 (.mv z127)), ⟨(some a129), .q (.mv z8), (some (a128, true))⟩, ⟨(some a130), .q (.mv z9), (some (a128, true))⟩, ⟨(some a131), .q (.bi .lss z129 z130), (some (a128, true))⟩, (qq a132 (.pk z128 z131 xF))])
def b72_42 : CC := (.reg [(qq a133 (.mv z0)), (qq a134 (.mv z8)), (qq a135 (.slS z133 (some z134) none)), (qq a136 (.mv z1)), (ee a137 (.call 99 [z135, z136])), (qq a13 (.mv z137))])
def b72_43 : CC := (.reg [(qq a138 (.mv z13)), (qq a139 (.bi .lss z138 (x6 0)))])
def b72_44 : CC := (.reg [(qq a4 (.mv (x6 (-1))))])
def b72_45 : CC := (.cond z139 (.seq b72_44 .ret) .skip)
def b72_46 : CC := (.reg [(qq a140 (.mv z8)), (qq a141 (.mv z13)), (qq a142 (.bi .add z140 z141)), (qq a4 (.mv z142))])
def b72_47 : CC := (.seq b72_42 (.seq (.seq b72_43 b72_45) (.seq b72_46 .ret)))
def b72_48 : CC := (.cond z132 b72_47 .skip)
def b72_49 : CC := (.cond z107 b72_40 (.seq b72_41 b72_48))
def b72_50 : CC := (.seq (.seq b72_29 b72_31) (.seq b72_32 (.seq b72_33 (.seq b72_34 b72_49))))
def b72_51 : CC := (.loop (.seq b72_21 (.block 2 (.seq (.seq b72_22 b72_28) b72_50))))
def b72_52 : CC := (.reg [(qq a4 (.mv (x6 (-1))))])
def b72_53 : CC := (.seq b72_18 (.seq b72_19 (.seq (.block 1 b72_51) (.seq b72_52 .ret))))
def b72_54 : CC := (.seq (.block 0 (.seq b72_3 b72_14)) (.seq b72_15 (.seq b72_16 (.seq b72_17 b72_53))))
def c72 : CF := .mk 8 [.t a4] (.seq b72_1 (.seq b72_2 b72_54))
theorem e72 (v0 v1 : V) : argTr 8 [v0, v1] = (.n (.n sk6 (some v1) sk6) (some v0) sk7) := rfl
def B72 := ai @e72 (ai (wu b72_1.eq_1) (ai (wu b72_2.eq_1) (ai (wu b72_3.eq_1) (ai (wu b72_4.eq_1) (ai (wu b72_5.eq_1) (ai (wu b72_6.eq_1) (ai (wu b72_7.eq_1) (ai (wu b72_8.eq_1) (ai (wu b72_9.eq_1) (ai (wu b72_10.eq_1) (ai (wu b72_11.eq_1) (ai (wu b72_12.eq_1) (ai (wu b72_13.eq_1) (ai (wu b72_14.eq_1) (ai (wu b72_15.eq_1) (ai (wu b72_16.eq_1) (ai (wu b72_17.eq_1) (ai (wu b72_18.eq_1) (ai (wu b72_19.eq_1) (ai (wu b72_20.eq_1) (ai (wu b72_21.eq_1) (ai (wu b72_22.eq_1) (ai (wu b72_23.eq_1) (ai (wu b72_24.eq_1) (ai (wu b72_25.eq_1) (ai (wu b72_26.eq_1) (ai (wu b72_27.eq_1) (ai (wu b72_28.eq_1) (ai (wu b72_29.eq_1) (ai (wu b72_30.eq_1) (ai (wu b72_31.eq_1) (ai (wu b72_32.eq_1) (ai (wu b72_33.eq_1) (ai (wu b72_34.eq_1) (ai (wu b72_35.eq_1) (ai (wu b72_36.eq_1) (ai (wu b72_37.eq_1) (ai (wu b72_38.eq_1) (ai (wu b72_39.eq_1) (ai (wu b72_40.eq_1) (ai (wu b72_41.eq_1) (ai (wu b72_42.eq_1) (ai (wu b72_43.eq_1) (ai (wu b72_44.eq_1) (ai (wu b72_45.eq_1) (ai (wu b72_46.eq_1) (ai (wu b72_47.eq_1) (ai (wu b72_48.eq_1) (ai (wu b72_49.eq_1) (ai (wu b72_50.eq_1) (ai (wu b72_51.eq_1) (ai (wu b72_52.eq_1) (ai (wu b72_53.eq_1) (wu b72_54.eq_1))))))))))))))))))))))))))))))))))))))))))))))))))))))
def b62_1 : CC := (.reg [(qq a4 (.mv (.c (.s 0 0)))), (qq a5 (.mv (.c (.s 0 0)))), (qq a6 (.mv xF))])
def b62_2 : CC := (.reg [(qq a8 (.mv z0)), (qq a9 (.mv z1)), (ee a10 (.call 72 [z8, z9])), (qq a7 (.mv z10))])
def b62_3 : CC := (.reg [(qq a11 (.mv z7)), (qq a12 (.bi .geq z11 (x6 0)))])
def b62_4 : CC := (.dreg 12 [(0, 0, (qq a13 (.mv z0))), (1, 0, (qq a14 (.mv z7))), (2, 3, (qq a15 (.slS z13 none (some z14)))), (3, 0, (qq a16 (.mv z0))), (4, 0, (qq a17 (.mv z7))), (5, 0, (qq a18 (.mv z1))), (6, 32, (qq a19 (.ln .str z18))), (7, 112, (qq a20 (.bi .add z17 z19))), (8, 248, (qq a21 (.slS z16 (some z20) none))), (9, 7, (qq a4 (.mv z15))), (10, 1023, (qq a5 (.mv z21))), (11, 2047, (qq a6 (.mv xT)))])
def b62_5 : CC := (.seq b62_3 (.cond z12 (.seq b62_4 .ret) .skip))
def b62_6 : CC := (.reg [(qq a22 (.mv z0)), (qq a4 (.mv z22)), (qq a5 (.mv (.c (.s 0 0)))), (qq a6 (.mv xF))])
def c62 : CF := .mk 5 [.t a4, .t a5, .t a6] (.seq b62_1 (.seq (.seq b62_2 b62_5) (.seq b62_6 .ret)))
theorem e62 (v0 v1 : V) : argTr 5 [v0, v1] = (.n (.n sk3 (some v1) sk3) (some v0) sk4) := rfl
def B62 := ai @e62 (ai (wu b62_1.eq_1) (ai (wu b62_2.eq_1) (ai (wu b62_3.eq_1) (ai (wu b62_4.eq_1) (ai (wu b62_5.eq_1) (wu b62_6.eq_1))))))
def b44_1 : CC := (.reg [(qq a4 (.mv (.c (.s 0 0)))), (qq a5 (.mv (.c (.s 0 0)))), (qq a6 (.mv xF))])
def b44_2 : CC := (.reg [(qq a7 (.mv z0)), (qq a8 (.mv z1)), (ee a9 (.call 62 [z7, z8])), (qq a10 (.ex 0 z9)), (qq a11 (.ex 1 z9)), (qq a12 (.ex 2 z9)), (qq a4 (.mv z10)), (qq a5 (.mv z11)), (qq a6 (.mv z12))])
def c44 : CF := .mk 4 [.t a4, .t a5, .t a6] (.seq b44_1 (.seq b44_2 .ret))
theorem e44 (v0 v1 : V) : argTr 4 [v0, v1] = (.n (.n sk2 (some v1) sk2) (some v0) sk3) := rfl
def B44 := ai @e44 (ai (wu b44_1.eq_1) (wu b44_2.eq_1))
def b78_1 : CC := (.reg [(qq a4 (.mv xF))])
def b78_2 : CC := (.reg [(qq a5 (.mv z0)), (qq a6 (.ln .str z5)), (qq a7 (.mv z1)), (qq a8 (.ln .str z7)), (qq a9 (.bi .geq z6 z8)), (qq a10 (.mv z9)), ⟨(some a11), .q (.mv z0), (some (a10, true))⟩, ⟨(some a12), .q (.mv z1), (some (a10, true))⟩, ⟨(some a13), .q (.ln .str z12), (some (a10, true))⟩, ⟨(some a14), .q (.slS z11 none (some z13)), (some (a10, true))⟩, ⟨(some a15), .q (.mv z1), (some (a10, true))⟩, ⟨(some a16), .q (.bi .eql z14 z15), (some (a10, true))⟩, (qq a17 (.pk z10 z16 xF)), (qq a4 (.mv z17))])
def c78 : CF := .mk 5 [.t a4] (.seq b78_1 (.seq b78_2 .ret))
theorem e78 (v0 v1 : V) : argTr 5 [v0, v1] = (.n (.n sk3 (some v1) sk3) (some v0) sk4) := rfl
def B78 := ai @e78 (ai (wu b78_1.eq_1) (wu b78_2.eq_1))
def b65_1 : CC := (.reg [(qq a4 (.mv (.c (.s 0 0))))])
def b65_2 : CC := (.reg [(qq a5 (.mv z0)), (qq a6 (.mv z1)), (ee a7 (.call 78 [z5, z6]))])
def b65_3 : CC := (.reg [(qq a8 (.mv z0)), (qq a9 (.mv z1)), (qq a10 (.ln .str z9)), (qq a11 (.slS z8 (some z10) none)), (qq a4 (.mv z11))])
def b65_4 : CC := (.seq b65_2 (.cond z7 (.seq b65_3 .ret) .skip))
def b65_5 : CC := (.reg [(qq a12 (.mv z0)), (qq a4 (.mv z12))])
def c65 : CF := .mk 4 [.t a4] (.seq b65_1 (.seq b65_4 (.seq b65_5 .ret)))
theorem e65 (v0 v1 : V) : argTr 4 [v0, v1] = (.n (.n sk2 (some v1) sk2) (some v0) sk3) := rfl
def B65 := ai @e65 (ai (wu b65_1.eq_1) (ai (wu b65_2.eq_1) (ai (wu b65_3.eq_1) (ai (wu b65_4.eq_1) (wu b65_5.eq_1)))))
def b47_1 : CC := (.reg [(qq a4 (.mv (.c (.s 0 0))))])
def b47_2 : CC := (.reg [(qq a5 (.mv z0)), (qq a6 (.mv z1)), (ee a7 (.call 65 [z5, z6])), (qq a4 (.mv z7))])
def c47 : CF := .mk 4 [.t a4] (.seq b47_1 (.seq b47_2 .ret))
theorem e47 (v0 v1 : V) : argTr 4 [v0, v1] = (.n (.n sk2 (some v1) sk2) (some v0) sk3) := rfl
def B47 := ai @e47 (ai (wu b47_1.eq_1) (wu b47_2.eq_1))
def asS : V → Option (List UInt8)
 | .s n x => if strN (bl n x) = x then some (bl n x) else none
 | _ => none
theorem asS_s (l : List UInt8) : asS (sV l) = some l := by
 show (if strN (bl l.length (strN l)) = strN l then some (bl l.length (strN l)) else none) = _
 rw [strN_bl, if_pos rfl]
theorem of_asS {v : V} {l : List UInt8} (h : asS v = some l) : v = sV l := by
 unfold asS at h
 split at h
 · rename_i n x
   split at h
   · rename_i hx
     obtain rfl := Option.some.inj h
     show V.s n x = V.s (bl n x).length (strN (bl n x))
     rw [hx, bl_length]
   · cases h
 · cases h
def fnd (c : UInt8) : List UInt8 → Nat → Option Nat
 | [], _ => none
 | x :: r, i => if x = c then some i else fnd c r (i + 1)
theorem fnd_lt {c : UInt8} : ∀ {l : List UInt8} {i k : Nat}, fnd c l i = some k → i ≤ k ∧ k < i + l.length
 | [], i, k, h => by cases h
 | x :: r, i, k, h => by
   unfold fnd at h
   split at h
   · obtain rfl := Option.some.inj h; simp
   · have := fnd_lt h; rw [List.length_cons]; omega
theorem findB_s (c : UInt8) : ∀ (l : List UInt8) (i : Nat), findB c.toNat l.length (strN l) i = fnd c l i
 | [], i => rfl
 | x :: r, i => by
   have hx := UInt8.toNat_lt x
   show (bif Nat.beq ((x.toNat + 256 * strN r) % 256) c.toNat then some i else findB c.toNat r.length ((x.toNat + 256 * strN r) / 256) (Nat.succ i)) = _
   rw [show (x.toNat + 256 * strN r) % 256 = x.toNat by omega, show (x.toNat + 256 * strN r) / 256 = strN r by omega, beqN, fnd]
   by_cases h : x = c
   · subst h; rw [decide_eq_true rfl, if_pos rfl]; rfl
   · rw [decide_eq_false (fun e => h (UInt8.toNat_inj.1 e)), if_neg h, cond_false]
     exact findB_s c r (i + 1)
def xibV (x c : V) : Option V := (qop (.xib (.c x) (.c c)) [] .e .e).val
theorem v_xib {F : RO} (x c : X) (M : Mem) (t : T) : (qop (.xib x c) F M t).val = xibV (x.ev t) (c.ev t) := Eq.trans rfl (Eq.refl _)
def idxZ : Option Nat → Int
 | some k => (k : Int)
 | none => -1
theorem xibV_s (l : List UInt8) (c : UInt8) : xibV (sV l) (bV c) = some (.i .i64 (idxZ (fnd c l 0))) := by
 show (q_xib1 (findB (Nat.mod c.toNat 256) l.length (strN l) 0)).val = _
 have := UInt8.toNat_lt c
 rw [show Nat.mod c.toNat 256 = c.toNat from Nat.mod_eq_of_lt (by omega), findB_s]
 cases fnd c l 0 <;> rfl
theorem t96 (Φ : Nat → Option CF) (h : Φ 96 = some c96) (l : List UInt8) (b : UInt8) (ct : Nat) : To Φ 96 [sV l, bV b] ct (.i .i64 (idxZ (fnd b l 0))) := by
 refine to_walk h ?_
 simp only [WX, B96, v_xib, xibV_s]
def asB : V → Option UInt8
 | .i .u8 (.ofNat n) => if n < 256 then some (UInt8.ofNat n) else none
 | _ => none
theorem asB_b (b : UInt8) : asB (bV b) = some b := by
 have := UInt8.toNat_lt b
 show (if b.toNat < 256 then some (UInt8.ofNat b.toNat) else none) = _
 rw [if_pos (by omega), UInt8.ofNat_toNat]
theorem of_asB {v : V} {b : UInt8} (h : asB v = some b) : v = bV b := by
 unfold asB at h
 split at h
 · rename_i n
   split at h
   · obtain rfl := Option.some.inj h
     show V.i .u8 (n : Int) = V.i .u8 ((UInt8.ofNat n).toNat : Int)
     rw [UInt8.toNat_ofNat', Nat.mod_eq_of_lt (by omega)]
   · cases h
 · cases h
def h96 : List V → Option V
 | [v, w] => (asS v).bind fun l => (asB w).bind fun b => some (.i .i64 (idxZ (fnd b l 0)))
 | _ => none
theorem h96_eq (l : List UInt8) (b : UInt8) : h96 [sV l, bV b] = some (.i .i64 (idxZ (fnd b l 0))) := by
 show (asS (sV l)).bind (fun l => (asB (bV b)).bind fun b => some (V.i .i64 (idxZ (fnd b l 0)))) = _
 rw [asS_s, Option.bind_some, asB_b, Option.bind_some]
theorem ixS0 (b : UInt8) : ixSV (sV [b]) (.i .i64 0) = some (bV b) := ixSs [b] .i64 0 (by simp)
theorem t72 (Φ : Nat → Option CF) (h : Φ 72 = some c72) (h96 : Φ 96 = some (.orc (pureO h96))) (l : List UInt8) (b : UInt8) (ct : Nat) : To Φ 72 [sV l, sV [b]] ct (.i .i64 (idxZ (fnd b l 0))) := by
 refine to_walk h ?_
 have e : ((([b] : List UInt8).length : Nat) : Int) = 1 := rfl
 have d0 : decide (((([b] : List UInt8).length : Nat) : Int) = 0) = false := rfl
 have d1 : decide (((([b] : List UInt8).length : Nat) : Int) = 1) = true := rfl
 by_cases hl : [b] = l
 · have dl : decide ([b] = l) = true := decide_eq_true hl
   have hf : fnd b l 0 = some 0 := by rw [← hl]; simp [fnd]
   simp only [WX, Int.reduceEq, B72, Int.ofNat_one, dl, hf]
   rfl
 · have dl : decide ([b] = l) = false := decide_eq_false hl
   simp only [WX, Int.reduceEq, B72, Int.ofNat_one, dl, h96, ixS0, h96_eq]
def h72 : List V → Option V
 | [v, w] => (asS v).bind fun l => (asS w).bind fun s => match s with | [b] => some (.i .i64 (idxZ (fnd b l 0))) | _ => none
 | _ => none
theorem h72_eq (l : List UInt8) (b : UInt8) : h72 [sV l, sV [b]] = some (.i .i64 (idxZ (fnd b l 0))) := by
 show (asS (sV l)).bind (fun l => (asS (sV [b])).bind fun s => match s with | [b] => some (V.i .i64 (idxZ (fnd b l 0))) | _ => none) = _
 rw [asS_s, Option.bind_some, asS_s, Option.bind_some]
def cutV (c : UInt8) (l : List UInt8) : V := match fnd c l 0 with
 | some k => .t [sV (l.take k), sV (l.drop (k + 1)), .b true]
 | none => .t [sV l, .s 0 0, .b false]
theorem dq_slS {F : RO} (x : X) (lo hi : Option X) (M : Mem) (t : T) : dqR (.slS x lo hi) F M t = oV (slSV (x.ev t) (lo.map fun x => x.ev t) (hi.map fun x => x.ev t)) := by
 refine (dq_of ?_).trans (congrArg oV (v_slS (F := F) x lo hi M t))
 intro F' M'
 refine qv_oV ?_
 show ((onS (x.ev t) QR.f fun n s => q_slS1 n s (optN t 0 lo) (optN t n hi)) = .f ∨ ∃ y, (onS (x.ev t) QR.f fun n s => q_slS1 n s (optN t 0 lo) (optN t n hi)) = .v y)
 cases x.ev t with
 | s n s =>
   show QV (q_slS1 n s (optN t 0 lo) (optN t n hi))
   generalize optN t 0 lo = a
   generalize optN t n hi = b
   cases a with
   | none => exact .inl rfl
   | some a =>
     cases b with
     | none => exact .inl rfl
     | some b =>
       show QV (Bool.rec (motive := fun _ => QR) .f (Bool.rec (motive := fun _ => QR) .f (vS (b - a) (s / 256 ^ a % 256 ^ (b - a))) (Nat.ble b n)) (Nat.ble a b))
       cases Nat.ble a b with
       | false => exact .inl rfl
       | true =>
         cases Nat.ble b n with
         | false => exact .inl rfl
         | true => exact .inr ⟨_, by show vS _ _ = _; unfold vS; rw [fN_eq, fN_eq]⟩
 | _ => exact .inl rfl
theorem t62 (Φ : Nat → Option CF) (h : Φ 62 = some c62) (h72 : Φ 72 = some (.orc (pureO h72))) (l : List UInt8) (b : UInt8) (hl : l.length ≤ 1073741824) (ct : Nat) : To Φ 62 [sV l, sV [b]] ct (cutV b l) := by
 refine to_walk h ?_
 unfold cutV
 cases hf : fnd b l 0 with
 | none =>
   have d : decide ((0 : Int) ≤ idxZ none) = false := rfl
   simp only [WX, B62, h72, h72_eq, hf, d]
 | some k =>
   have hk := (fnd_lt hf).2
   have d : decide ((0 : Int) ≤ (k : Int)) = true := decide_eq_true (by omega)
   have hz : idxZ (some k) = (k : Int) := rfl
   have e : ((([b] : List UInt8).length : Nat) : Int) = 1 := rfl
   have q1 : biV .add (.i .i64 (k : Int)) (.i .i64 1) = some (.i .i64 ((k + 1 : Nat) : Int)) := by rw [i64_add _ _ (by omega) (by omega)]; simp
   have s1 := sl_nh l .i64 k (by omega)
   have s2 := sl_ln l .i64 (k + 1) (by omega)
   simp only [WX, B62, h72, h72_eq, hf, d, hz, Int.ofNat_one, q1, s1, s2, dq_slS]
def h62 : List V → Option V
 | [v, w] => (asS v).bind fun l => (asS w).bind fun s => match s with | [b] => if l.length ≤ 1073741824 then some (cutV b l) else none | _ => none
 | _ => none
theorem h62_eq (l : List UInt8) (b : UInt8) (hl : l.length ≤ 1073741824) : h62 [sV l, sV [b]] = some (cutV b l) := by
 show (asS (sV l)).bind (fun l => (asS (sV [b])).bind fun s => match s with | [b] => if l.length ≤ 1073741824 then some (cutV b l) else none | _ => none) = _
 rw [asS_s, Option.bind_some, asS_s, Option.bind_some]
 exact if_pos hl
theorem cutV_t (b : UInt8) (l : List UInt8) : ∃ x y z, cutV b l = .t [x, y, z] := by
 unfold cutV
 cases fnd b l 0 <;> exact ⟨_, _, _, rfl⟩
theorem t44 (Φ : Nat → Option CF) (h : Φ 44 = some c44) (h62 : Φ 62 = some (.orc (pureO h62))) (l : List UInt8) (b : UInt8) (hl : l.length ≤ 1073741824) (ct : Nat) : To Φ 44 [sV l, sV [b]] ct (cutV b l) := by
 refine to_walk h ?_
 have h1 := h62_eq l b hl
 obtain ⟨x, y, z, hc⟩ := cutV_t b l
 rw [hc] at h1 ⊢
 simp only [WX, B44, h62, h1]
def trimP (l p : List UInt8) : List UInt8 := if p.length ≤ l.length ∧ l.take p.length = p then l.drop p.length else l
theorem t78 (Φ : Nat → Option CF) (h : Φ 78 = some c78) (l p : List UInt8) (ct : Nat) : To Φ 78 [sV l, sV p] ct (.b (decide (p.length ≤ l.length ∧ l.take p.length = p))) := by
 refine to_walk h ?_
 by_cases h1 : p.length ≤ l.length
 · have d1 : decide ((p.length : Int) ≤ (l.length : Int)) = true := decide_eq_true (by omega)
   have s1 := sl_nh l .i64 p.length h1
   have e : decide (p.length ≤ l.length ∧ l.take p.length = p) = decide (l.take p.length = p) := by simp [h1]
   rw [e]
   simp only [WX, B78, d1, s1]
 · have d1 : decide ((p.length : Int) ≤ (l.length : Int)) = false := decide_eq_false (by omega)
   have e : decide (p.length ≤ l.length ∧ l.take p.length = p) = false := decide_eq_false (fun hh => h1 hh.1)
   rw [e]
   simp only [WX, B78, d1]
def h78 : List V → Option V
 | [v, w] => (asS v).bind fun l => (asS w).bind fun p => some (.b (decide (p.length ≤ l.length ∧ l.take p.length = p)))
 | _ => none
theorem h78_eq (l p : List UInt8) : h78 [sV l, sV p] = some (.b (decide (p.length ≤ l.length ∧ l.take p.length = p))) := by
 show (asS (sV l)).bind (fun l => (asS (sV p)).bind fun p => some (V.b (decide (p.length ≤ l.length ∧ l.take p.length = p)))) = _
 rw [asS_s, Option.bind_some, asS_s, Option.bind_some]
theorem t65 (Φ : Nat → Option CF) (h : Φ 65 = some c65) (h78 : Φ 78 = some (.orc (pureO h78))) (l p : List UInt8) (ct : Nat) : To Φ 65 [sV l, sV p] ct (sV (trimP l p)) := by
 refine to_walk h ?_
 unfold trimP
 by_cases hp : p.length ≤ l.length ∧ l.take p.length = p
 · have d1 : decide (p.length ≤ l.length ∧ l.take p.length = p) = true := decide_eq_true hp
   have s1 := sl_ln l .i64 p.length hp.1
   rw [if_pos hp]
   simp only [WX, B65, h78, h78_eq, d1, s1]
 · have d1 : decide (p.length ≤ l.length ∧ l.take p.length = p) = false := decide_eq_false hp
   rw [if_neg hp]
   simp only [WX, B65, h78, h78_eq, d1]
def h65 : List V → Option V
 | [v, w] => (asS v).bind fun l => (asS w).bind fun p => some (sV (trimP l p))
 | _ => none
theorem h65_eq (l p : List UInt8) : h65 [sV l, sV p] = some (sV (trimP l p)) := by
 show (asS (sV l)).bind (fun l => (asS (sV p)).bind fun p => some (sV (trimP l p))) = _
 rw [asS_s, Option.bind_some, asS_s, Option.bind_some]
theorem t47 (Φ : Nat → Option CF) (h : Φ 47 = some c47) (h65 : Φ 65 = some (.orc (pureO h65))) (l p : List UInt8) (ct : Nat) : To Φ 47 [sV l, sV p] ct (sV (trimP l p)) := by
 refine to_walk h ?_
 simp only [WX, B47, h65, h65_eq]
end
end Go.Proofs.YtffpeieapadocaaGreatDoor.Ev
