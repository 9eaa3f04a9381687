/- What is proved here: pieces of the evaluator's soundness: if the evaluator comes to a value, the model's run comes to it, for every world and tape; no conditions beyond the hypotheses of each theorem. -/
import Derived.Test.YtaogopbhjinmoaaGreatDoorEv16
set_option linter.unusedSimpArgs false
set_option linter.unusedVariables false
set_option linter.defProp false
set_option maxRecDepth 10000
set_option maxHeartbeats 4000000
namespace Go.Proofs.YtaogopbhjinmoaaGreatDoor.Ev
open Go
noncomputable section
def zP (n : Nat) (l : List V) : List V := Nat.rec l (fun _ x => .p0 :: x) n
def tR (f cn : Nat) (x1 y1 x2 y2 x3 y3 : V) (n : Nat) : List V := .p f 0 :: zP 8 (x1 :: y1 :: zP 6 (x2 :: y2 :: zP 6 (x3 :: y3 :: zP 78 [.p cn 0, .i .i64 (.ofNat n)])))
def oR (p fl k : Nat) : List V := [.a 69 (.g [.p p 0]), .i .i64 (.ofNat fl), .i .i64 (.ofNat k)]
def pR (n : Nat) (v : V) (o0 o1 : Nat) : List V := [.i .i64 (.ofNat n), v, .p o0 0, .p o1 0]
def r5 : Rn := ⟨1000, [], [46403, 46378, 46402], [], [], .p 46403 0, [(46403, 63, tR 46378 46402 .p0 .p0 .p0 .p0 .p0 .p0 0)]⟩
def r6 : Rn := ⟨1010, [1000, 1001, 1002], [1015, 1016, 1017], [.p 1000 0, .i .i64 (.ofNat 1)], [(1000, 63, tR 1001 1002 .p0 .p0 .p0 .p0 .p0 .p0 0)], .t [.i .i64 (.ofNat 0), .i .i64 (.ofNat 1), .i .i64 (.ofNat 0)],
  [(1000, 63, tR 1001 1002 (.p 1016 0) (.p 1017 0) .p0 .p0 .p0 .p0 1), (1015, 67, pR 1 .l0 1016 1017), (1016, 73, oR 1015 1 1), (1017, 73, oR 1015 2 1)]⟩
def ol6 : List Nat := [1000, 1001, 1002, 1003, 1004, 1005]
def aP : V := .p 1004 0
def bP : V := .p 1005 0
def r8a : Rn := ⟨1010, ol6, [], [.p 1000 0, .i .i64 (.ofNat 1), .i .i64 (.ofNat 2)], [(1000, 63, tR 1001 1002 aP bP .p0 .p0 .p0 .p0 1), (1004, 73, oR 1003 1 1), (1005, 73, oR 1003 2 1)], .i .i64 (.ofNat 0),
  [(1000, 63, tR 1001 1002 aP bP aP bP .p0 .p0 1), (1004, 73, oR 1003 1 2), (1005, 73, oR 1003 2 2)]⟩
def r8b : Rn := ⟨1010, ol6, [], [.p 1000 0, .i .i64 (.ofNat 1), .i .i64 (.ofNat 3)], [(1000, 63, tR 1001 1002 aP bP aP bP .p0 .p0 1), (1004, 73, oR 1003 1 2), (1005, 73, oR 1003 2 2)], .i .i64 (.ofNat 0),
  [(1000, 63, tR 1001 1002 aP bP aP bP aP bP 1), (1004, 73, oR 1003 1 3), (1005, 73, oR 1003 2 3)]⟩
def cl (i : Nat) (y1 y2 y3 pz1 pz2 pz3 : V) (k k' : Nat) : Rn := ⟨1010, ol6, [], [.p 1000 0, .i .i64 (.ofNat i), .i .i64 (.ofNat 1)], [(1000, 63, tR 1001 1002 aP y1 aP y2 aP y3 1), (1005, 73, oR 1003 2 k)], .i .i64 (.ofNat 0),
  [(1000, 63, tR 1001 1002 aP pz1 aP pz2 aP pz3 1), (1005, 73, oR 1003 2 k')]⟩
def r11a : Rn := cl 1 bP bP bP .p0 bP bP 3 2
def r11b : Rn := cl 2 .p0 bP bP .p0 .p0 bP 2 1
def r11c : Rn := cl 3 .p0 .p0 bP .p0 .p0 .p0 1 0
def nm3 (b : Nat) : List Nat := [b, b + 1, b + 2]
def nm6 (b : Nat) : List Nat := [b, b + 1, b + 2, b + 3, b + 4, b + 5]
def pk5 (_ : List V) (_ : Mem) : Option (Rn × List Nat) := some (r5, [])
def pk6 (as : List V) (_ : Mem) : Option (Rn × List Nat) := match as with | [.p b 0, _] => some (r6, nm3 b) | _ => none
def pk8 (as : List V) (_ : Mem) : Option (Rn × List Nat) := match as with | [.p b 0, _, .i .i64 (.ofNat k)] => if k = 2 then some (r8a, nm6 b) else some (r8b, nm6 b) | _ => none
def pk11 (as : List V) (_ : Mem) : Option (Rn × List Nat) := match as with | [.p b 0, .i .i64 (.ofNat k), _] => if k = 1 then some (r11a, nm6 b) else if k = 2 then some (r11b, nm6 b) else some (r11c, nm6 b) | _ => none
end
theorem pk5_all {Φ : Nat → Option CF} {fuel : Nat} (h : rnRun Φ fuel 5 r5 = true) : ∀ as M r ns, pk5 as M = some (r, ns) → rnRun Φ fuel 5 r = true := by
  intro as M r ns e
  injection e with e; injection e with e1 e2; subst e1; exact h
theorem pk6_all {Φ : Nat → Option CF} {fuel : Nat} (h : rnRun Φ fuel 6 r6 = true) : ∀ as M r ns, pk6 as M = some (r, ns) → rnRun Φ fuel 6 r = true := by
  intro as M r ns e
  unfold pk6 at e
  split at e
  · injection e with e; injection e with e1 e2; subst e1; exact h
  · cases e
theorem pk8_all {Φ : Nat → Option CF} {fuel : Nat} (h : rnRun Φ fuel 8 r8a = true) (h' : rnRun Φ fuel 8 r8b = true) : ∀ as M r ns, pk8 as M = some (r, ns) → rnRun Φ fuel 8 r = true := by
  intro as M r ns e
  unfold pk8 at e
  split at e
  · split at e
    · injection e with e; injection e with e1 e2; subst e1; exact h
    · injection e with e; injection e with e1 e2; subst e1; exact h'
  · cases e
theorem pk11_all {Φ : Nat → Option CF} {fuel : Nat} (h : rnRun Φ fuel 11 r11a = true) (h' : rnRun Φ fuel 11 r11b = true) (h2 : rnRun Φ fuel 11 r11c = true) : ∀ as M r ns, pk11 as M = some (r, ns) → rnRun Φ fuel 11 r = true := by
  intro as M r ns e
  unfold pk11 at e
  split at e
  · split at e
    · injection e with e; injection e with e1 e2; subst e1; exact h
    · split at e
      · injection e with e; injection e with e1 e2; subst e1; exact h'
      · injection e with e; injection e with e1 e2; subst e1; exact h2
  · cases e
theorem rnO_at {pick : List V → Mem → Option (Rn × List Nat)} {F : RO} {args : List V} {M : Mem} {ct : Nat} {r : Rn} {ns : List Nat} (h : pick args M = some (r, ns)) (hA : r.At ns args M ct) :
    rnO pick F args M ct = .k (rnV (r.sg ns ct) r.v) (setR (r.sg ns ct) r.m1 M) (ct + r.nw.length) := by
  unfold rnO
  rw [h]
  exact if_pos hA
theorem nm6_nd (b : Nat) : (nm6 b).Nodup := by simp [nm6]
theorem nm3_nd (b : Nat) : (nm3 b).Nodup := by simp [nm3]
theorem b5 {F : RO} {M : Mem} {c : Nat} : rnO pk5 F [] M c = .k (.p c 0) (M.set c (rowB 63 (tR (c + 1) (c + 2) .p0 .p0 .p0 .p0 .p0 .p0 0))) (c + 3) :=
  rnO_at (r := r5) (ns := []) rfl ⟨rfl, List.nodup_nil, rfl, fun x hx => by cases hx⟩
theorem b6 {F : RO} {M : Mem} {c T : Nat} (h : M.get T = some (rowB 63 (tR (T + 1) (T + 2) .p0 .p0 .p0 .p0 .p0 .p0 0))) : rnO pk6 F [.p T 0, .i .i64 1] M c =
    .k (.t [.i .i64 0, .i .i64 1, .i .i64 0]) ((((M.set T (rowB 63 (tR (T + 1) (T + 2) (.p (c + 1) 0) (.p (c + 2) 0) .p0 .p0 .p0 .p0 1))).set c (rowB 67 (pR 1 .l0 (c + 1) (c + 2)))).set (c + 1) (rowB 73 (oR c 1 1))).set (c + 2) (rowB 73 (oR c 2 1))) (c + 3) :=
  rnO_at (r := r6) (ns := nm3 T) rfl ⟨rfl, nm3_nd T, rfl, fun x hx => by
    obtain rfl : x = _ := List.mem_singleton.1 hx
    exact h⟩
theorem b8a {F : RO} {M : Mem} {c T : Nat} (h : M.get T = some (rowB 63 (tR (T + 1) (T + 2) (.p (T + 4) 0) (.p (T + 5) 0) .p0 .p0 .p0 .p0 1))) (h1 : M.get (T + 4) = some (rowB 73 (oR (T + 3) 1 1))) (h2 : M.get (T + 5) = some (rowB 73 (oR (T + 3) 2 1))) : rnO pk8 F [.p T 0, .i .i64 1, .i .i64 2] M c =
    .k (.i .i64 0) (((M.set T (rowB 63 (tR (T + 1) (T + 2) (.p (T + 4) 0) (.p (T + 5) 0) (.p (T + 4) 0) (.p (T + 5) 0) .p0 .p0 1))).set (T + 4) (rowB 73 (oR (T + 3) 1 2))).set (T + 5) (rowB 73 (oR (T + 3) 2 2))) c :=
  rnO_at (r := r8a) (ns := nm6 T) rfl ⟨rfl, nm6_nd T, rfl, fun x hx => by
    rcases List.mem_cons.1 hx with rfl | hx
    · exact h
    rcases List.mem_cons.1 hx with rfl | hx
    · exact h1
    obtain rfl : x = _ := List.mem_singleton.1 hx
    exact h2⟩
theorem b8b {F : RO} {M : Mem} {c T : Nat} (h : M.get T = some (rowB 63 (tR (T + 1) (T + 2) (.p (T + 4) 0) (.p (T + 5) 0) (.p (T + 4) 0) (.p (T + 5) 0) .p0 .p0 1))) (h1 : M.get (T + 4) = some (rowB 73 (oR (T + 3) 1 2))) (h2 : M.get (T + 5) = some (rowB 73 (oR (T + 3) 2 2))) : rnO pk8 F [.p T 0, .i .i64 1, .i .i64 3] M c =
    .k (.i .i64 0) (((M.set T (rowB 63 (tR (T + 1) (T + 2) (.p (T + 4) 0) (.p (T + 5) 0) (.p (T + 4) 0) (.p (T + 5) 0) (.p (T + 4) 0) (.p (T + 5) 0) 1))).set (T + 4) (rowB 73 (oR (T + 3) 1 3))).set (T + 5) (rowB 73 (oR (T + 3) 2 3))) c :=
  rnO_at (r := r8b) (ns := nm6 T) rfl ⟨rfl, nm6_nd T, rfl, fun x hx => by
    rcases List.mem_cons.1 hx with rfl | hx
    · exact h
    rcases List.mem_cons.1 hx with rfl | hx
    · exact h1
    obtain rfl : x = _ := List.mem_singleton.1 hx
    exact h2⟩
noncomputable def tW (T : Nat) (y1 y2 y3 : V) : List V := tR (T + 1) (T + 2) (.p (T + 4) 0) y1 (.p (T + 4) 0) y2 (.p (T + 4) 0) y3 1
theorem b11a {F : RO} {M : Mem} {c T : Nat} (h : M.get T = some (rowB 63 (tW T (.p (T + 5) 0) (.p (T + 5) 0) (.p (T + 5) 0)))) (h2 : M.get (T + 5) = some (rowB 73 (oR (T + 3) 2 3))) : rnO pk11 F [.p T 0, .i .i64 1, .i .i64 1] M c =
    .k (.i .i64 0) ((M.set T (rowB 63 (tW T .p0 (.p (T + 5) 0) (.p (T + 5) 0)))).set (T + 5) (rowB 73 (oR (T + 3) 2 2))) c :=
  rnO_at (r := r11a) (ns := nm6 T) rfl ⟨rfl, nm6_nd T, rfl, fun x hx => by
    rcases List.mem_cons.1 hx with rfl | hx
    · exact h
    obtain rfl : x = _ := List.mem_singleton.1 hx
    exact h2⟩
theorem b11b {F : RO} {M : Mem} {c T : Nat} (h : M.get T = some (rowB 63 (tW T .p0 (.p (T + 5) 0) (.p (T + 5) 0)))) (h2 : M.get (T + 5) = some (rowB 73 (oR (T + 3) 2 2))) : rnO pk11 F [.p T 0, .i .i64 2, .i .i64 1] M c =
    .k (.i .i64 0) ((M.set T (rowB 63 (tW T .p0 .p0 (.p (T + 5) 0)))).set (T + 5) (rowB 73 (oR (T + 3) 2 1))) c :=
  rnO_at (r := r11b) (ns := nm6 T) rfl ⟨rfl, nm6_nd T, rfl, fun x hx => by
    rcases List.mem_cons.1 hx with rfl | hx
    · exact h
    obtain rfl : x = _ := List.mem_singleton.1 hx
    exact h2⟩
theorem b11c {F : RO} {M : Mem} {c T : Nat} (h : M.get T = some (rowB 63 (tW T .p0 .p0 (.p (T + 5) 0)))) (h2 : M.get (T + 5) = some (rowB 73 (oR (T + 3) 2 1))) : rnO pk11 F [.p T 0, .i .i64 3, .i .i64 1] M c =
    .k (.i .i64 0) ((M.set T (rowB 63 (tW T .p0 .p0 .p0))).set (T + 5) (rowB 73 (oR (T + 3) 2 0))) c :=
  rnO_at (r := r11c) (ns := nm6 T) rfl ⟨rfl, nm6_nd T, rfl, fun x hx => by
    rcases List.mem_cons.1 hx with rfl | hx
    · exact h
    obtain rfl : x = _ := List.mem_singleton.1 hx
    exact h2⟩
end Go.Proofs.YtaogopbhjinmoaaGreatDoor.Ev
set_option maxRecDepth 10000
set_option maxHeartbeats 4000000
namespace Go.Proofs.YtaogopbhjinmoaaGreatDoor.Ev
open Go
theorem i64_rem (a b : Nat) (hb : 0 < b) : biV .rem (.i .i64 (a : Int)) (.i .i64 (b : Int)) = some (.i .i64 ((a % b : Nat) : Int)) := by
  show (b_rem .i64 (a : Int) (b : Int)).val = _
  unfold b_rem
  rw [show eqI (b : Int) 0 = false from (eqI_iff _ _).trans (decide_eq_false (by omega)), cond_false, vI_eq]
  show some (V.i .i64 (Int.tmod a b)) = _
  rw [← Int.ofNat_tmod a b]
theorem i64_and3 (z : Int) : ∃ w : Nat, w ≤ 3 ∧ biV .and (.i .i64 z) (.i .i64 3) = some (.i .i64 (w : Int)) := by
  refine ⟨toU .i64 z &&& toU .i64 3, ?_, ?_⟩
  · exact Nat.le_trans Nat.and_le_right (by decide)
  · rw [bi_and]
    have : toU .i64 z &&& toU .i64 3 ≤ 3 := Nat.le_trans Nat.and_le_right (by decide)
    rw [wrap_i64 (by omega) (by omega)]
noncomputable def b12_1 : CC := (.reg [(pqq pa8 (.mv (.c (.s 0 0))))])
noncomputable def b12_2 : CC := (.reg [(pqq pa13 (.mv pz0)), (pqq pa14 (.mv pz1)), (pqq pa15 (.mv pz2)), (pqq pa16 (.mv pz3)), (pee pa17 (.call 10 [pz13, pz14, pz15, pz16])), (pqq pa12 (.mv pz17)), (pqq pa18 (.ex 0 pz12)), (pqq pa19 (.ex 1 pz12)), (pqq pa20 (.ex 2 pz12)), (pqq pa9 (.mv pz18)), (pqq pa10 (.mv pz19)), (pqq pa11 (.mv pz20))])
noncomputable def b12_3 : CC := (.reg [(pqq pa21 (.mv pz10)), (pqq pa22 (.mv pz21)), ⟨(some pa23), .q (.mv pz11), (some (pa22, false))⟩, ⟨(some pa24), .e (.call 7 [pz23]), (some (pa22, false))⟩, ⟨(some pa25), .q (.bi .neq pz24 (px6 0)), (some (pa22, false))⟩, (pqq pa26 (.pk pz22 pxT pz25))])
noncomputable def b12_4 : CC := (.reg [(pqq pa8 (.mv (.c (.s 1 45))))])
noncomputable def b12_5 : CC := (.seq b12_3 (.cond pz26 (.seq b12_4 .ret) .skip))
noncomputable def b12_6 : CC := (.reg [(pqq pa27 (.mv pz9)), (pqq pa28 (.bs pz27)), (pqq pa8 (.mv pz28))])
noncomputable def c12 : CF := .mk 5 [.t pa8] (.seq b12_1 (.seq b12_2 (.seq b12_5 (.seq b12_6 .ret))))
theorem e12 (v0 v1 v2 v3 : V) : argTr 5 [v0, v1, v2, v3] = (.n (.n (.n sk2 (some v3) sk2) (some v1) sk3) (some v0) (.n sk3 (some v2) sk3)) := rfl
def B12 := ai @e12 (ai (wu b12_1.eq_1) (ai (wu b12_2.eq_1) (ai (wu b12_3.eq_1) (ai (wu b12_4.eq_1) (ai (wu b12_5.eq_1) (wu b12_6.eq_1))))))
structure LI (F : RO) (T c : Nat) (y1 y2 y3 : V) (k : Nat) (M : Mem) (q : List UInt8) : Prop where
  ok : Okm F M c
  gr : Gr T .e c M
  mT : M.get T = some (rowB 63 (tW T y1 y2 y3))
  m4 : M.get (T + 4) = some (rowB 73 (oR (T + 3) 1 3))
  m5 : M.get (T + 5) = some (rowB 73 (oR (T + 3) 2 k))
  pq : PQ F M (T + 6) c (T + 3) (T + 4) (T + 5) 67 q
  ql : q.length ≤ 128
section
variable {F : RO} {T c k : Nat} {y1 y2 y3 : V} {M : Mem} {q : List UInt8}
theorem LI.le (h : LI F T c y1 y2 y3 k M q) : T + 6 ≤ c := h.pq.2.1
theorem LI.h105 (h : LI F T c y1 y2 y3 k M q) : load1 F M T 105 = some (.p (T + 2) 0) := load_row h.mT 105
theorem LI.rd (h : LI F T c y1 y2 y3 k M q) (i : Nat) (hi : 1 ≤ i ∧ i ≤ 3) : load1 F M T (1 + i * 8 + 0) = some (.p (T + 4) 0) := by
  obtain rfl | rfl | rfl : i = 1 ∨ i = 2 ∨ i = 3 := by omega
  all_goals exact load_row h.mT _
theorem LI.wr {y : V} (h : LI F T c y y y k M q) (i : Nat) (hi : 1 ≤ i ∧ i ≤ 3) : load1 F M T (1 + i * 8 + 1) = some y := by
  obtain rfl | rfl | rfl : i = 1 ∨ i = 2 ∨ i = 3 := by omega
  all_goals exact load_row h.mT _
theorem LI.o0 (h : LI F T c y1 y2 y3 k M q) : OE F M (T + 4) (T + 3) 1 3 := ⟨load_row h.m4 0, load_row h.m4 1, load_row h.m4 2⟩
theorem LI.o1 (h : LI F T c y1 y2 y3 k M q) : OE F M (T + 5) (T + 3) 2 k := ⟨load_row h.m5 0, load_row h.m5 1, load_row h.m5 2⟩
theorem LI.next {c' : Nat} {M' : Mem} {q' : List UInt8} (h : LI F T c y1 y2 y3 k M q) (g : GrX (fun x => x = T + 3) c M c' M') (hp : PQ F M' (T + 6) c' (T + 3) (T + 4) (T + 5) 67 q') (hl : q'.length ≤ 128) : LI F T c' y1 y2 y3 k M' q' := by
  have hle := h.le
  have hg := g.le
  obtain ⟨_, _, vb, hM, _⟩ := h.pq
  exact ⟨g.okp h.ok hM, ⟨by have := h.gr.le; omega, fun b hb => (g.old b (by omega) (by omega)).trans (h.gr.old b hb), g.new⟩, (g.old _ (by omega) (by omega)).trans h.mT, (g.old _ (by omega) (by omega)).trans h.m4, (g.old _ (by omega) (by omega)).trans h.m5, hp, hl⟩
end
theorem w12 (Φ : Nat → Option CF) (h : Φ 12 = some c12) (h10 : Φ 10 = some c10) (h25 : Φ 25 = some c25) (h21 : Φ 21 = some c21) (h41 : Φ 41 = some c41) (h254 : Φ 254 = some c254) (h252 : Φ 252 = some c252) (h7 : Φ 7 = some c7) {F : RO} {M : Mem} {c T : Nat} {y1 y2 y3 : V} {q : List UInt8} (hI : LI F T c y1 y2 y3 0 M q) :
    Calls Φ F 12 [.p T 0, .i .i64 2, .i .i64 0, .i .i64 128] M c fun r M' c' => r = sV q ∧ LI F T c' y1 y2 y3 0 M' [] := by
  have hle := hI.le
  refine calls_walk h ?_
  obtain ⟨Q, hQ⟩ : ∃ Q : V → Mem → Nat → Prop, Q = fun r M' c' => r = sV q ∧ LI F T c' y1 y2 y3 0 M' [] := ⟨_, rfl⟩
  rw [← hQ]
  simp only [WX, B12]
  refine putE_to ((w10 Φ h10 h25 h21 h41 h254 h252 (pi := 2) (k1 := 0) hI.ok hI.pq hI.ql ⟨by omega, by omega, by omega⟩ hI.h105 ⟨by decide, by decide⟩ (hI.rd 2 ⟨by decide, by decide⟩) hI.o0 hI.o1.2.2).mono ?_)
  rintro r M1 c1 ⟨g1, ⟨hh, _⟩ | ⟨m, hm, hm1, v, rfl, hv, hp⟩⟩
  · exact absurd ⟨by decide, by decide⟩ hh
  have hm : m = 128 := by omega
  subst hm
  have d1 : decide (q = [] ∧ 0 < 128 ∧ 0 < 0) = false := decide_eq_false (by omega)
  rw [d1]
  rw [List.take_of_length_le hI.ql] at hv
  rw [List.drop_eq_nil_of_le hI.ql] at hp
  have hI1 := hI.next g1 hp (Nat.zero_le _)
  have n0 : decide ((0 : Int) ≠ 0) = false := by decide
  simp only [WX, B12]
  refine putE_to ((w7 Φ h7 0).mono ?_)
  rintro r M2 c2 ⟨rfl, rfl, rfl⟩
  simp only [WX, B12, n0, bs_of hv]
  rw [hQ]
  exact ⟨rfl, hI1⟩
end Go.Proofs.YtaogopbhjinmoaaGreatDoor.Ev
set_option maxRecDepth 10000
set_option maxHeartbeats 8000000
namespace Go.Proofs.YtaogopbhjinmoaaGreatDoor.Ev
open Go
abbrev tPoi0 (u : List (Option V)) (x0 x1 x2 x7 x11 x12 x13 x14 : V) : T := (.n (.n (.n (.n (.n (uv7 u 127 63 191 31 159 95 223) (uO u 15) (uv7 u 143 79 207 47 175 111 239)) (some x7) (.n (uv7 u 135 71 199 39 167 103 231) (uO u 23) (uv7 u 151 87 215 55 183 119 247))) (uO u 3) (.n (.n (uv7 u 131 67 195 35 163 99 227) (uO u 19) (uv7 u 147 83 211 51 179 115 243)) (some x11) (.n (uv7 u 139 75 203 43 171 107 235) (uO u 27) (uv7 u 155 91 219 59 187 123 251)))) (some x1) (.n (.n (.n (uv7 u 129 65 193 33 161 97 225) (uO u 17) (uv7 u 145 81 209 49 177 113 241)) (uO u 9) (.n (uv7 u 137 73 201 41 169 105 233) (uO u 25) (uv7 u 153 89 217 57 185 121 249))) (uO u 5) (.n (.n (uv7 u 133 69 197 37 165 101 229) (uO u 21) (uv7 u 149 85 213 53 181 117 245)) (some x13) (.n (uv7 u 141 77 205 45 173 109 237) (uO u 29) (uv7 u 157 93 221 61 189 125 253))))) (some x0) (.n (.n (.n (.n (uv7 u 128 64 192 32 160 96 224) (uO u 16) (uv7 u 144 80 208 48 176 112 240)) (uO u 8) (.n (uv7 u 136 72 200 40 168 104 232) (uO u 24) (uv7 u 152 88 216 56 184 120 248))) (uO u 4) (.n (.n (uv7 u 132 68 196 36 164 100 228) (uO u 20) (uv7 u 148 84 212 52 180 116 244)) (some x12) (.n (uv7 u 140 76 204 44 172 108 236) (uO u 28) (uv7 u 156 92 220 60 188 124 252)))) (some x2) (.n (.n (.n (uv7 u 130 66 194 34 162 98 226) (uO u 18) (uv7 u 146 82 210 50 178 114 242)) (uO u 10) (.n (uv7 u 138 74 202 42 170 106 234) (uO u 26) (uv7 u 154 90 218 58 186 122 250))) (uO u 6) (.n (.n (uv7 u 134 70 198 38 166 102 230) (uO u 22) (uv7 u 150 86 214 54 182 118 246)) (some x14) (.n (uv7 u 142 78 206 46 174 110 238) (uO u 30) (uv7 u 158 94 222 62 190 126 254))))))
abbrev tPoi1 (u : List (Option V)) (x0 x1 x2 x7 x11 x12 x13 x14 x18 : V) : T := (.n (.n (.n (.n (.n (uv7 u 127 63 191 31 159 95 223) (uO u 15) (uv7 u 143 79 207 47 175 111 239)) (some x7) (.n (uv7 u 135 71 199 39 167 103 231) (uO u 23) (uv7 u 151 87 215 55 183 119 247))) (uO u 3) (.n (.n (uv7 u 131 67 195 35 163 99 227) (uO u 19) (uv7 u 147 83 211 51 179 115 243)) (some x11) (.n (uv7 u 139 75 203 43 171 107 235) (uO u 27) (uv7 u 155 91 219 59 187 123 251)))) (some x1) (.n (.n (.n (uv7 u 129 65 193 33 161 97 225) (uO u 17) (uv7 u 145 81 209 49 177 113 241)) (uO u 9) (.n (uv7 u 137 73 201 41 169 105 233) (uO u 25) (uv7 u 153 89 217 57 185 121 249))) (uO u 5) (.n (.n (uv7 u 133 69 197 37 165 101 229) (uO u 21) (uv7 u 149 85 213 53 181 117 245)) (some x13) (.n (uv7 u 141 77 205 45 173 109 237) (uO u 29) (uv7 u 157 93 221 61 189 125 253))))) (some x0) (.n (.n (.n (.n (uv7 u 128 64 192 32 160 96 224) (uO u 16) (uv7 u 144 80 208 48 176 112 240)) (uO u 8) (.n (uv7 u 136 72 200 40 168 104 232) (uO u 24) (uv7 u 152 88 216 56 184 120 248))) (uO u 4) (.n (.n (uv7 u 132 68 196 36 164 100 228) (uO u 20) (uv7 u 148 84 212 52 180 116 244)) (some x12) (.n (uv7 u 140 76 204 44 172 108 236) (uO u 28) (uv7 u 156 92 220 60 188 124 252)))) (some x2) (.n (.n (.n (uv7 u 130 66 194 34 162 98 226) (some x18) (uv7 u 146 82 210 50 178 114 242)) (uO u 10) (.n (uv7 u 138 74 202 42 170 106 234) (uO u 26) (uv7 u 154 90 218 58 186 122 250))) (uO u 6) (.n (.n (uv7 u 134 70 198 38 166 102 230) (uO u 22) (uv7 u 150 86 214 54 182 118 246)) (some x14) (.n (uv7 u 142 78 206 46 174 110 238) (uO u 30) (uv7 u 158 94 222 62 190 126 254))))))
noncomputable def b3_1 : CC := (.reg [(pqq pa6 (.mv pxF))])
def w3_1 := wu b3_1.eq_1
noncomputable def b3_2 : CC := (.reg [(pee pa24 (.call 4 [])), (pqq pa25 (.un .not pz24))])
def w3_2 := wu b3_2.eq_1
noncomputable def b3_3 : CC := (.reg [(pqq pa6 (.mv pxF))])
def w3_3 := wu b3_3.eq_1
noncomputable def b3_4 : CC := (.seq b3_2 (.cond pz25 (.seq b3_3 .ret) .skip))
def w3_4 := wu b3_4.eq_1
noncomputable def b3_5 : CC := (.reg [(pee pa26 (.call 5 [])), (pqq pa7 (.mv pz26))])
def w3_5 := wu b3_5.eq_1
noncomputable def b3_6 : CC := (.reg [(pqq pa27 (.mv pz7)), (pqq pa28 (.eq false .ptr true pz27 (.c .p0)))])
def w3_6 := wu b3_6.eq_1
noncomputable def b3_7 : CC := (.reg [(pqq pa6 (.mv pxF))])
def w3_7 := wu b3_7.eq_1
noncomputable def b3_8 : CC := (.seq b3_6 (.cond pz28 (.seq b3_7 .ret) .skip))
def w3_8 := wu b3_8.eq_1
noncomputable def b3_9 : CC := (.reg [(pqq pa30 (.mv pz7)), (pee pa31 (.call 6 [pz30, (px6 1)])), (pqq pa29 (.mv pz31)), (pqq pa32 (.ex 0 pz29)), (pqq pa33 (.ex 1 pz29)), (pqq pa34 (.ex 2 pz29)), (pqq pa8 (.mv pz32)), (pqq pa9 (.mv pz33)), (pqq pa10 (.mv pz34))])
def w3_9 := wu b3_9.eq_1
noncomputable def b3_10 : CC := (.reg [(pqq pa35 (.mv pz10)), (pee pa36 (.call 7 [pz35])), (pqq pa37 (.bi .neq pz36 (px6 0))), (pqq pa38 (.mv pz37)), ⟨(some pa39), .q (.mv pz7), (some (pa38, false))⟩, ⟨(some pa40), .e (.call 8 [pz39, (px6 1), (px6 2)]), (some (pa38, false))⟩, ⟨(some pa41), .e (.call 7 [pz40]), (some (pa38, false))⟩, ⟨(some pa42), .q (.bi .neq pz41 (px6 0)), (some (pa38, false))⟩, (pqq pa43 (.pk pz38 pxT pz42)), (pqq pa44 (.mv pz43)), ⟨(some pa45), .q (.mv pz7), (some (pa44, false))⟩, ⟨(some pa46), .e (.call 8 [pz45, (px6 1), (px6 3)]), (some (pa44, false))⟩, ⟨(some pa47), .e (.call 7 [pz46]), (some (pa44, false))⟩, ⟨(some pa48), .q (.bi .neq pz47 (px6 0)), (some (pa44, false))⟩, (pqq pa49 (.pk pz44 pxT pz48))])
def w3_10 := wu b3_10.eq_1
noncomputable def b3_11 : CC := (.reg [(pqq pa6 (.mv pxF))])
def w3_11 := wu b3_11.eq_1
noncomputable def b3_12 : CC := (.cond pz49 (.seq b3_11 .ret) .skip)
def w3_12 := wu b3_12.eq_1
noncomputable def b3_13 : CC := (.reg [(pqq pa11 (.mv (.c (.s 0 0)))), (pqq pa12 (.mv (.c (.s 0 0))))])
def w3_13 := wu b3_13.eq_1
noncomputable def b3_14 : CC := (.reg [(pqq pa13 (.mv (px6 0)))])
def w3_14 := wu b3_14.eq_1
noncomputable def b3_15 : CC := (.reg [(pqq pa14 (.mv (px6 0)))])
def w3_15 := wu b3_15.eq_1
noncomputable def b3_16 : CC := (.reg [(pqq pa50 (.mv pz14)), (pqq pa51 (.bi .lss pz50 (px6 120)))])
def w3_16 := wu b3_16.eq_1
noncomputable def b3_17 : CC := (.seq b3_16 (.cond pz51 .skip (.exit 0)))
def w3_17 := wu b3_17.eq_1
noncomputable def b3_18 : CC := (.reg [(pqq pa54 (.mv pz13)), (pqq pa55 (.mv pz0)), (pqq pa56 (.ln .slice pz55)), (pqq pa57 (.bi .lss pz54 pz56)), (pqq pa58 (.mv pz57)), ⟨(some pa59), .q (.mv pz13), (some (pa58, true))⟩, ⟨(some pa60), .q (.bi .lss pz59 (px6 60)), (some (pa58, true))⟩, (pqq pa61 (.pk pz58 pz60 pxF)), (pqq pa62 (.mv pz61)), ⟨(some pa63), .q (.mv pz0), (some (pa62, true))⟩, ⟨(some pa64), .q (.mv pz13), (some (pa62, true))⟩, ⟨(some pa65), .q (.iaS 1 pz63 pz64), (some (pa62, true))⟩, ⟨(some pa66), .q (.ld1 pz65), (some (pa62, true))⟩, ⟨(some pa67), .q (.ln .slice pz66), (some (pa62, true))⟩, ⟨(some pa68), .q (.bi .leq pz67 (px6 200)), (some (pa62, true))⟩, (pqq pa69 (.pk pz62 pz68 pxF))])
def w3_18 := wu b3_18.eq_1
noncomputable def b3_19 : CC := (.reg [(pqq pa71 (.mv pz7)), (pqq pa72 (.mv pz14)), (pqq pa73 (.bi .rem pz72 (px6 3))), (pqq pa74 (.bi .add (px6 1) pz73)), (pqq pa75 (.mv pz0)), (pqq pa76 (.mv pz13)), (pqq pa77 (.iaS 1 pz75 pz76)), (pqq pa78 (.ld1 pz77)), (pee pa79 (.call 9 [pz71, pz74, (px6 1), pz78])), (pqq pa70 (.mv pz79)), (pqq pa80 (.ex 0 pz70)), (pqq pa81 (.ex 1 pz70)), (pqq pa82 (.ex 2 pz70)), (pqq pa15 (.mv pz80)), (pqq pa16 (.mv pz81)), (pqq pa17 (.mv pz82))])
def w3_19 := wu b3_19.eq_1
noncomputable def b3_20 : CC := (.reg [(pqq pa83 (.mv pz17)), (pee pa84 (.call 7 [pz83])), (pqq pa85 (.bi .eql pz84 (px6 0))), (pqq pa86 (.mv pz85)), ⟨(some pa87), .q (.mv pz16), (some (pa86, true))⟩, ⟨(some pa88), .q (.un .not pz87), (some (pa86, true))⟩, (pqq pa89 (.pk pz86 pz88 pxF))])
def w3_20 := wu b3_20.eq_1
noncomputable def b3_21 : CC := (.reg [(pqq pa90 (.mv pz15)), (pqq pa91 (.mv pz0)), (pqq pa92 (.mv pz13)), (pqq pa93 (.iaS 1 pz91 pz92)), (pqq pa94 (.ld1 pz93)), (pqq pa95 (.ln .slice pz94)), (pqq pa96 (.bi .neq pz90 pz95))])
def w3_21 := wu b3_21.eq_1
noncomputable def b3_22 : CC := (.reg [(pqq pa6 (.mv pxF))])
def w3_22 := wu b3_22.eq_1
noncomputable def b3_23 : CC := (.cond pz96 (.seq b3_22 .ret) .skip)
def w3_23 := wu b3_23.eq_1
noncomputable def b3_24 : CC := (.reg [(pqq pa97 (.mv pz11)), (pqq pa98 (.mv pz0)), (pqq pa99 (.mv pz13)), (pqq pa100 (.iaS 1 pz98 pz99)), (pqq pa101 (.ld1 pz100)), (pqq pa102 (.bs pz101)), (pqq pa103 (.bi .add pz97 pz102)), (pqq pa11 (.mv pz103))])
def w3_24 := wu b3_24.eq_1
noncomputable def b3_25 : CC := (.cond pz89 (.seq (.seq b3_21 b3_23) b3_24) .skip)
def w3_25 := wu b3_25.eq_1
noncomputable def b3_26 : CC := (.reg [(pqq pa104 (.mv pz16)), (pqq pa105 (.un .not pz104))])
def w3_26 := wu b3_26.eq_1
noncomputable def b3_27 : CC := (.reg [(pqq pa106 (.mv pz13)), (pqq pa107 (.bi .add pz106 (px6 1))), (pqq pa13 (.mv pz107))])
def w3_27 := wu b3_27.eq_1
noncomputable def b3_28 : CC := (.seq b3_26 (.cond pz105 b3_27 .skip))
def w3_28 := wu b3_28.eq_1
noncomputable def b3_29 : CC := (.reg [(pqq pa108 (.mv pz16)), (pqq pa109 (.mv pz108)), ⟨(some pa110), .q (.mv pz0), (some (pa109, true))⟩, ⟨(some pa111), .q (.mv pz13), (some (pa109, true))⟩, ⟨(some pa112), .q (.iaS 1 pz110 pz111), (some (pa109, true))⟩, ⟨(some pa113), .q (.ld1 pz112), (some (pa109, true))⟩, ⟨(some pa114), .q (.ln .slice pz113), (some (pa109, true))⟩, ⟨(some pa115), .q (.mv pz11), (some (pa109, true))⟩, ⟨(some pa116), .q (.ln .str pz115), (some (pa109, true))⟩, ⟨(some pa117), .q (.bi .add pz114 pz116), (some (pa109, true))⟩, ⟨(some pa118), .q (.mv pz12), (some (pa109, true))⟩, ⟨(some pa119), .q (.ln .str pz118), (some (pa109, true))⟩, ⟨(some pa120), .q (.bi .sub pz117 pz119), (some (pa109, true))⟩, ⟨(some pa121), .q (.bi .leq pz120 (px6 128)), (some (pa109, true))⟩, (pqq pa122 (.pk pz109 pz121 pxF))])
def w3_29 := wu b3_29.eq_1
noncomputable def b3_30 : CC := (.reg [(pqq pa6 (.mv pxF))])
def w3_30 := wu b3_30.eq_1
noncomputable def b3_31 : CC := (.cond pz122 (.seq b3_30 .ret) .skip)
def w3_31 := wu b3_31.eq_1
noncomputable def b3_32 : CC := (.seq b3_19 (.seq (.seq b3_20 b3_25) (.seq b3_28 (.seq b3_29 b3_31))))
def w3_32 := wu b3_32.eq_1
noncomputable def b3_33 : CC := (.reg [(pqq pa123 (.mv pz13)), (pqq pa124 (.mv pz0)), (pqq pa125 (.ln .slice pz124)), (pqq pa126 (.bi .lss pz123 pz125))])
def w3_33 := wu b3_33.eq_1
noncomputable def b3_34 : CC := (.reg [(pqq pa127 (.mv pz13)), (pqq pa128 (.bi .add pz127 (px6 1))), (pqq pa13 (.mv pz128))])
def w3_34 := wu b3_34.eq_1
noncomputable def b3_35 : CC := (.seq b3_33 (.cond pz126 b3_34 .skip))
def w3_35 := wu b3_35.eq_1
noncomputable def b3_36 : CC := (.seq b3_18 (.cond pz69 b3_32 b3_35))
def w3_36 := wu b3_36.eq_1
noncomputable def b3_37 : CC := (.reg [(pqq pa129 (.mv pz14)), (pqq pa130 (.mv pz1)), (pqq pa131 (.ln .slice pz130)), (pqq pa132 (.bi .geq pz129 pz131))])
def w3_37 := wu b3_37.eq_1
noncomputable def b3_38 : CC := (.cond pz132 (.exit 1) .skip)
def w3_38 := wu b3_38.eq_1
noncomputable def b3_39 : CC := (.reg [(pqq pa18 (.mv (px6 1)))])
def w3_39 := wu b3_39.eq_1
noncomputable def b3_40 : CC := (.reg [(pqq pa133 (.mv pz14)), (pqq pa134 (.mv pz2)), (pqq pa135 (.ln .slice pz134)), (pqq pa136 (.bi .lss pz133 pz135))])
def w3_40 := wu b3_40.eq_1
noncomputable def b3_41 : CC := (.reg [(pqq pa137 (.mv pz2)), (pqq pa138 (.mv pz14)), (pqq pa139 (.iaS 1 pz137 pz138)), (pqq pa140 (.ld1 pz139)), (pqq pa141 (.bi .and pz140 (px6 3))), (pqq pa142 (.bi .rem pz141 (px6 3))), (pqq pa143 (.bi .add (px6 1) pz142)), (pqq pa18 (.mv pz143))])
def w3_41 := wu b3_41.eq_1
noncomputable def b3_42 : CC := (.cond pz136 b3_41 .skip)
def w3_42 := wu b3_42.eq_1
noncomputable def b3_43 : CC := (.reg [(pqq pa145 (.mv pz7)), (pqq pa146 (.mv pz18)), (pqq pa147 (.mv pz1)), (pqq pa148 (.mv pz14)), (pqq pa149 (.iaS 1 pz147 pz148)), (pqq pa150 (.ld1 pz149)), (pee pa151 (.call 10 [pz145, pz146, (px6 0), pz150])), (pqq pa144 (.mv pz151)), (pqq pa152 (.ex 0 pz144)), (pqq pa153 (.ex 1 pz144)), (pqq pa154 (.ex 2 pz144)), (pqq pa19 (.mv pz152)), (pqq pa20 (.mv pz153)), (pqq pa21 (.mv pz154))])
def w3_43 := wu b3_43.eq_1
noncomputable def b3_44 : CC := (.reg [(pqq pa155 (.mv pz21)), (pee pa156 (.call 7 [pz155])), (pqq pa157 (.bi .eql pz156 (px6 0))), (pqq pa158 (.mv pz157)), ⟨(some pa159), .q (.mv pz20), (some (pa158, true))⟩, ⟨(some pa160), .q (.un .not pz159), (some (pa158, true))⟩, (pqq pa161 (.pk pz158 pz160 pxF))])
def w3_44 := wu b3_44.eq_1
noncomputable def b3_45 : CC := (.reg [(pqq pa162 (.mv pz12)), (pqq pa163 (.mv pz19)), (pqq pa164 (.bs pz163)), (pqq pa165 (.bi .add pz162 pz164)), (pqq pa12 (.mv pz165))])
def w3_45 := wu b3_45.eq_1
noncomputable def b3_46 : CC := (.cond pz161 b3_45 .skip)
def w3_46 := wu b3_46.eq_1
noncomputable def b3_47 : CC := (.reg [(pqq pa166 (.mv pz20)), (pqq pa167 (.mv pz166)), ⟨(some pa168), .q (.mv pz11), (some (pa167, true))⟩, ⟨(some pa169), .q (.ln .str pz168), (some (pa167, true))⟩, ⟨(some pa170), .q (.mv pz12), (some (pa167, true))⟩, ⟨(some pa171), .q (.ln .str pz170), (some (pa167, true))⟩, ⟨(some pa172), .q (.bi .neq pz169 pz171), (some (pa167, true))⟩, (pqq pa173 (.pk pz167 pz172 pxF))])
def w3_47 := wu b3_47.eq_1
noncomputable def b3_48 : CC := (.reg [(pqq pa6 (.mv pxF))])
def w3_48 := wu b3_48.eq_1
noncomputable def b3_49 : CC := (.cond pz173 (.seq b3_48 .ret) .skip)
def w3_49 := wu b3_49.eq_1
noncomputable def b3_50 : CC := (.seq (.seq b3_40 b3_42) (.seq b3_43 (.seq (.seq b3_44 b3_46) (.seq b3_47 b3_49))))
def w3_50 := wu b3_50.eq_1
noncomputable def b3_51 : CC := (.block 1 (.seq b3_36 (.seq (.seq b3_37 b3_38) (.seq b3_39 b3_50))))
def w3_51 := wu b3_51.eq_1
noncomputable def b3_52 : CC := (.reg [(pqq pa52 (.mv pz14)), (pqq pa53 (.bi .add pz52 (px6 1))), (pqq pa14 (.mv pz53))])
def w3_52 := wu b3_52.eq_1
noncomputable def b3_53 : CC := (.seq b3_15 (.block 0 (.loop (.seq b3_17 (.seq b3_51 b3_52)))))
def w3_53 := wu b3_53.eq_1
noncomputable def b3_54 : CC := (.reg [(pqq pa22 (.mv (px6 1)))])
def w3_54 := wu b3_54.eq_1
noncomputable def b3_55 : CC := (.reg [(pqq pa174 (.mv pz22)), (pqq pa175 (.bi .leq pz174 (px6 3)))])
def w3_55 := wu b3_55.eq_1
noncomputable def b3_56 : CC := (.cond pz175 .skip (.exit 2))
def w3_56 := wu b3_56.eq_1
noncomputable def b3_57 : CC := (.reg [(pqq pa178 (.mv pz7)), (pqq pa179 (.mv pz22)), (pee pa180 (.call 11 [pz178, pz179, (px6 1)])), (pee pa181 (.call 7 [pz180])), (pqq pa182 (.bi .neq pz181 (px6 0)))])
def w3_57 := wu b3_57.eq_1
noncomputable def b3_58 : CC := (.reg [(pqq pa6 (.mv pxF))])
def w3_58 := wu b3_58.eq_1
noncomputable def b3_59 : CC := (.cond pz182 (.seq b3_58 .ret) .skip)
def w3_59 := wu b3_59.eq_1
noncomputable def b3_60 : CC := (.reg [(pqq pa176 (.mv pz22)), (pqq pa177 (.bi .add pz176 (px6 1))), (pqq pa22 (.mv pz177))])
def w3_60 := wu b3_60.eq_1
noncomputable def b3_61 : CC := (.seq (.seq b3_55 b3_56) (.seq (.block 3 (.seq b3_57 b3_59)) b3_60))
def w3_61 := wu b3_61.eq_1
noncomputable def b3_62 : CC := (.reg [(pqq pa23 (.mv (px6 0)))])
def w3_62 := wu b3_62.eq_1
noncomputable def b3_63 : CC := (.reg [(pqq pa183 (.mv pz23)), (pqq pa184 (.bi .lss pz183 (px6 3)))])
def w3_63 := wu b3_63.eq_1
noncomputable def b3_64 : CC := (.cond pz184 .skip (.exit 4))
def w3_64 := wu b3_64.eq_1
noncomputable def b3_65 : CC := (.reg [(pqq pa187 (.mv pz12)), (pqq pa188 (.mv pz7)), (pee pa189 (.call 12 [pz188, (px6 2), (px6 0), (px6 128)])), (pqq pa190 (.bi .add pz187 pz189)), (pqq pa12 (.mv pz190))])
def w3_65 := wu b3_65.eq_1
noncomputable def b3_66 : CC := (.reg [(pqq pa185 (.mv pz23)), (pqq pa186 (.bi .add pz185 (px6 1))), (pqq pa23 (.mv pz186))])
def w3_66 := wu b3_66.eq_1
noncomputable def b3_67 : CC := (.loop (.seq (.seq b3_63 b3_64) (.seq (.block 5 b3_65) b3_66)))
def w3_67 := wu b3_67.eq_1
noncomputable def b3_68 : CC := (.reg [(pqq pa191 (.mv pz12)), (pqq pa192 (.mv pz11)), (pqq pa193 (.bi .eql pz191 pz192)), (pqq pa194 (.mv pz193)), ⟨(some pa195), .e (.call 13 []), (some (pa194, true))⟩, (pqq pa196 (.pk pz194 pz195 pxF)), (pqq pa6 (.mv pz196))])
def w3_68 := wu b3_68.eq_1
noncomputable def b3_69 : CC := (.seq (.seq b3_54 (.block 2 (.loop b3_61))) (.seq (.seq b3_62 (.block 4 b3_67)) (.seq b3_68 .ret)))
def w3_69 := wu b3_69.eq_1
noncomputable def b3_70 : CC := (.seq (.seq b3_10 b3_12) (.seq b3_13 (.seq b3_14 (.seq b3_53 b3_69))))
def w3_70 := wu b3_70.eq_1
noncomputable def b3_71 : CC := (.seq b3_1 (.seq b3_4 (.seq b3_5 (.seq b3_8 (.seq b3_9 b3_70)))))
def w3_71 := wu b3_71.eq_1
noncomputable def c3 : CF := .mk 8 [.t pa6] b3_71
theorem e3 (v0 v1 v2 : V) : argTr 8 [v0, v1, v2] = (.n (.n sk6 (some v1) sk6) (some v0) (.n sk6 (some v2) sk6)) := rfl
def B3 := ai @e3 (ai @w3_1 (ai @w3_2 (ai @w3_3 (ai @w3_4 (ai @w3_5 (ai @w3_6 (ai @w3_7 (ai @w3_8 (ai @w3_9 (ai @w3_10 (ai @w3_11 (ai @w3_12 (ai @w3_13 (ai @w3_14 (ai @w3_15 (ai @w3_16 (ai @w3_17 (ai @w3_18 (ai @w3_19 (ai @w3_20 (ai @w3_21 (ai @w3_22 (ai @w3_23 (ai @w3_24 (ai @w3_25 (ai @w3_26 (ai @w3_27 (ai @w3_28 (ai @w3_29 (ai @w3_30 (ai @w3_31 (ai @w3_32 (ai @w3_33 (ai @w3_34 (ai @w3_35 (ai @w3_36 (ai @w3_37 (ai @w3_38 (ai @w3_39 (ai @w3_40 (ai @w3_41 (ai @w3_42 (ai @w3_43 (ai @w3_44 (ai @w3_45 (ai @w3_46 (ai @w3_47 (ai @w3_48 (ai @w3_49 (ai @w3_50 (ai @w3_51 (ai @w3_52 (ai @w3_53 (ai @w3_54 (ai @w3_55 (ai @w3_56 (ai @w3_57 (ai @w3_58 (ai @w3_59 (ai @w3_60 (ai @w3_61 (ai @w3_62 (ai @w3_63 (ai @w3_64 (ai @w3_65 (ai @w3_66 (ai @w3_67 (ai @w3_68 (ai @w3_69 (ai @w3_70 (@w3_71)))))))))))))))))))))))))))))))))))))))))))))))))))))))))))))))))))))))
structure AR (F : RO) (T : Nat) (v0 v1 v2 : V) (ep el ew : List (List V)) : Prop where
  p : SlAt F .e T 1 v0 ep
  pe : ∀ i (h : i < ep.length), ∃ v l, ep[i] = [v] ∧ SlB F .e T v l
  l : SlAt F .e T 1 v1 el
  le : ∀ i (h : i < el.length), ∃ z : Int, el[i] = [.i .i64 z]
  w : SlAt F .e T 1 v2 ew
  we : ∀ i (h : i < ew.length), ∃ z : Int, ew[i] = [.i .i64 z]
  pl : ep.length ≤ 9223372036854775807
theorem pA (Φ : Nat → Option CF) (h9 : Φ 9 = some c9) (h25 : Φ 25 = some c25) (h21 : Φ 21 = some c21) (h41 : Φ 41 = some c41) (h256 : Φ 256 = some c256) (h252 : Φ 252 = some c252) (h7 : Φ 7 = some c7) {F : RO} {T c i n : Nat} {v0 v1 v2 : V} {ep el ew : List (List V)} (hA : AR F T v0 v1 v2 ep el ew) {M : Mem} {lw lr q : List UInt8}
    (hI : LI F T c (.p (T + 5) 0) (.p (T + 5) 0) (.p (T + 5) 0) 3 M q) (he : lw = lr ++ q) (hll : lw.length ≤ 200 * i) (hi : i < 120) (hn : n ≤ ep.length) (u : List (Option V)) (Q : Ex → St → Prop)
    (hQ : ∀ (u : List (Option V)) M' c' n' lw' q', LI F T c' (.p (T + 5) 0) (.p (T + 5) 0) (.p (T + 5) 0) 3 M' q' → lw' = lr ++ q' → lw'.length ≤ 200 * (i + 1) → n' ≤ ep.length → Q .nrm (.mk ((tPoi0 u v0 v1 v2 (.p T 0) (sV lw') (sV lr) (.i .i64 (n' : Int)) (.i .i64 (i : Int)))) [] M' c')) :
    Wp b3_36 (K Φ none 3 F) (.mk ((tPoi0 u v0 v1 v2 (.p T 0) (sV lw) (sV lr) (.i .i64 (n : Int)) (.i .i64 (i : Int)))) [] M c) Q := by
  have hpl := hA.pl
  have lp : lnL v0 = some (.i .i64 (ep.length : Int)) := hA.p.len
  have qn : biV .add (.i .i64 (n : Int)) (.i .i64 1) = some (.i .i64 (((n + 1 : Nat) : Int))) ∨ ¬ n < ep.length := by
    by_cases h : n < ep.length
    · left; rw [i64_add _ _ (by omega) (by omega)]; simp
    · right; exact h
  by_cases h1 : n < ep.length
  rotate_left
  · have d1 : decide ((n : Int) < (ep.length : Int)) = false := decide_eq_false (by omega)
    simp only [WX, B3, lp, d1]
    exact hQ (G2 (G1 (X4 (G1 (X2 (X1 (G4 (X64 (X64 (X64 (X32 (X16 [])))))))))))) M c n lw q hI he (by omega) hn
  have qn := qn.resolve_right (fun h => h h1)
  have d1 : decide ((n : Int) < (ep.length : Int)) = true := decide_eq_true (by omega)
  by_cases h2 : n < 60
  rotate_left
  · have d2 : decide ((n : Int) < 60) = false := decide_eq_false (by omega)
    simp only [WX, B3, lp, d1, d2, qn]
    exact hQ (G2 (G1 (X4 (G1 (X2 (X1 (G4 (X64 (X64 (X64 (X32 (X16 [])))))))))))) M c (n + 1) lw q hI he (by omega) (by omega)
  have d2 : decide ((n : Int) < 60) = true := decide_eq_true (by omega)
  obtain ⟨v, l, hv, hl⟩ := hA.pe n h1
  obtain ⟨pb, po, hpb, ia, ld0⟩ := hA.p.one n h1 hv
  have ia := ia .i64
  have ld : load1 F M pb po = some v := (hI.gr.load1 hpb po).trans ld0
  have lv := hl.len
  by_cases h3 : l.length ≤ 200
  rotate_left
  · have d3 : decide ((l.length : Int) ≤ 200) = false := decide_eq_false (by omega)
    simp only [WX, B3, lp, d1, d2, ia, ld, lv, d3, qn]
    exact hQ (G2 (G1 (X4 (G1 (X2 (X1 (G4 (X64 (X64 (X64 (X32 (X16 [])))))))))))) M c (n + 1) lw q hI he (by omega) (by omega)
  have d3 : decide ((l.length : Int) ≤ 200) = true := decide_eq_true (by omega)
  have qr : biV .rem (.i .i64 (i : Int)) (.i .i64 3) = some (.i .i64 ((i % 3 : Nat) : Int)) := i64_rem i 3 (by decide)
  have qp : biV .add (.i .i64 1) (.i .i64 ((i % 3 : Nat) : Int)) = some (.i .i64 ((1 + i % 3 : Nat) : Int)) := by rw [i64_add _ _ (by omega) (by omega)]; simp
  simp only [WX, B3, lp, d1, d2, ia, ld, lv, d3, qr, qp]
  have hle := hI.le
  have n0 : decide ((0 : Int) = 0) = true := by decide
  refine putE_to ((w9 Φ h9 h25 h21 h41 h256 h252 (pi := 1 + i % 3) (k0 := 3) (k1 := 3) (b := l) hI.ok hI.pq hI.ql ⟨by omega, by omega, by omega⟩ hI.h105 ⟨by omega, by omega⟩ (hI.wr _ ⟨by omega, by omega⟩) hI.o1 hI.o0.2.2 (by decide) (hl.grow hI.gr) (by omega)).mono ?_)
  rintro r M1 c1 ⟨g1, ⟨pa1, rfl, hq1⟩ | ⟨pa1, pa2, rfl, hq1⟩ | ⟨pa1, rfl, hq1⟩⟩
  · have hI1 := hI.next g1 hq1 hI.ql
    have ld1 : load1 F M1 pb po = some v := (hI1.gr.load1 hpb po).trans ld0
    have n3 : decide ((3 : Int) = 0) = false := by decide
    simp only [WX, B3]
    refine putE_to ((w7 Φ h7 3).mono ?_)
    rintro r M2 c2 ⟨rfl, rfl, rfl⟩
    simp only [WX, Int.reduceEq, B3, qn]
    exact hQ (G2 (G1 (X4 (G1 (X2 (X1 (G4 (X64 (X64 (X64 (X32 (X16 [])))))))))))) _ _ (n + 1) lw q hI1 he (by omega) (by omega)
  · have hI1 := hI.next g1 hq1 hI.ql
    have ld1 : load1 F M1 pb po = some v := (hI1.gr.load1 hpb po).trans ld0
    have hlw : lw.length = lr.length + q.length := by rw [he, List.length_append]
    have s1 : biV .add (.i .i64 (l.length : Int)) (.i .i64 (lw.length : Int)) = some (.i .i64 ((l.length : Int) + lw.length)) := i64_add _ _ (by omega) (by omega)
    have s2 : biV .sub (.i .i64 ((l.length : Int) + lw.length)) (.i .i64 (lr.length : Int)) = some (.i .i64 ((l.length : Int) + lw.length - lr.length)) := by rw [bi_sub]; congr 2; exact wrap_i64 (by omega) (by omega)
    have d5 : decide ((l.length : Int) + lw.length - lr.length ≤ 128) = false := decide_eq_false (by omega)
    simp only [WX, B3]
    refine putE_to ((w7 Φ h7 0).mono ?_)
    rintro r M2 c2 ⟨rfl, rfl, rfl⟩
    simp only [WX, B3, ia, ld1, lv, s1, s2, d5]
    exact hQ (G2 (G1 (X4 (G1 (X2 (X1 (G4 (X64 (X64 (X64 (X32 (X16 [])))))))))))) _ _ n lw q hI1 he (by omega) (by omega)
  · have hI1 := hI.next g1 hq1 (by rw [List.length_append]; omega)
    have ld1 : load1 F M1 pb po = some v := (hI1.gr.load1 hpb po).trans ld0
    have hv1 := bs_of (hl.grow hI1.gr)
    have n4 : decide ((l.length : Int) ≠ (l.length : Int)) = false := decide_eq_false (by omega)
    have sc := bi_scat lw l (by omega)
    simp only [WX, B3]
    refine putE_to ((w7 Φ h7 0).mono ?_)
    rintro r M2 c2 ⟨rfl, rfl, rfl⟩
    simp only [WX, B3, ia, ld1, lv, n4, hv1, sc, qn]
    exact hQ (G2 (G1 (X4 (G1 (X2 (X1 (G4 (X64 (X64 (X64 (X32 (X16 [])))))))))))) _ _ (n + 1) (lw ++ l) (q ++ l) hI1 (by rw [he, List.append_assoc]) (by rw [List.length_append]; omega) (by omega)
theorem pRd (Φ : Nat → Option CF) (h10 : Φ 10 = some c10) (h25 : Φ 25 = some c25) (h21 : Φ 21 = some c21) (h41 : Φ 41 = some c41) (h254 : Φ 254 = some c254) (h252 : Φ 252 = some c252) (h7 : Φ 7 = some c7) {F : RO} {T c i n pi : Nat} {v0 v1 v2 : V} {ep el ew : List (List V)} (hA : AR F T v0 v1 v2 ep el ew) {M : Mem} {lw lr q : List UInt8}
    (hI : LI F T c (.p (T + 5) 0) (.p (T + 5) 0) (.p (T + 5) 0) 3 M q) (he : lw = lr ++ q) (hll : lw.length ≤ 200 * (i + 1)) (hi : i < 120) (hil : i < el.length) (hpi : 1 ≤ pi ∧ pi ≤ 3) (u : List (Option V)) (Q : Ex → St → Prop)
    (hQ : ∀ (u : List (Option V)) M' c' lr' q', LI F T c' (.p (T + 5) 0) (.p (T + 5) 0) (.p (T + 5) 0) 3 M' q' → lw = lr' ++ q' → Q .nrm (.mk ((tPoi0 u v0 v1 v2 (.p T 0) (sV lw) (sV lr') (.i .i64 (n : Int)) (.i .i64 (i : Int)))) [] M' c')) :
    Wp b3_43 (K Φ none 3 F) (.mk ((tPoi1 u v0 v1 v2 (.p T 0) (sV lw) (sV lr) (.i .i64 (n : Int)) (.i .i64 (i : Int)) (.i .i64 (pi : Int)))) [] M c) (seqQ (.seq (.seq b3_44 b3_46) (.seq b3_47 b3_49)) (K Φ none 3 F) Q) := by
  have hle := hI.le
  obtain ⟨z, hz⟩ := hA.le i hil
  obtain ⟨zb, zo, hzb, iz, ldz0⟩ := hA.l.one i hil hz
  have iz := iz .i64
  have ldz : load1 F M zb zo = some (.i .i64 z) := (hI.gr.load1 hzb zo).trans ldz0
  have n0 : decide ((0 : Int) = 0) = true := by decide
  have n2 : decide ((2 : Int) = 0) = false := by decide
  have hl2 : lw.length = lr.length + q.length := by rw [he, List.length_append]
  simp only [WX, B3, iz, ldz]
  refine putE_to ((w10 Φ h10 h25 h21 h41 h254 h252 (pi := pi) (k1 := 3) hI.ok hI.pq hI.ql ⟨by omega, by omega, by omega⟩ hI.h105 ⟨by omega, by omega⟩ (hI.rd pi hpi) hI.o0 hI.o1.2.2).mono ?_)
  rintro r M1 c1 ⟨g1, ⟨_, rfl, hp⟩ | ⟨m, hm, hm1, v, rfl, hv, hp⟩⟩
  · have hI1 := hI.next g1 hp hI.ql
    simp only [WX, B3]
    refine putE_to ((w7 Φ h7 2).mono ?_)
    rintro r M2 c2 ⟨rfl, rfl, rfl⟩
    simp only [WX, Int.reduceEq, B3]
    exact hQ (G2 (G1 (X4 (G1 (X2 (X1 (G4 (X64 (X64 (X64 (X32 (X16 [])))))))))))) _ _ lr q hI1 he
  have hI1 := hI.next g1 hp (by rw [List.length_drop]; have := hI.ql; omega)
  by_cases hq : q = [] ∧ 0 < m ∧ 0 < 3
  · rw [decide_eq_true hq]
    have hq0 := hq.1
    have d5 : decide ((lw.length : Int) ≠ (lr.length : Int)) = false := decide_eq_false (by rw [hq0] at hl2; simp at hl2; omega)
    simp only [WX, B3]
    refine putE_to ((w7 Φ h7 0).mono ?_)
    rintro r M2 c2 ⟨rfl, rfl, rfl⟩
    simp only [WX, B3, d5]
    exact hQ (G2 (G1 (X4 (G1 (X2 (X1 (G4 (X64 (X64 (X64 (X32 (X16 [])))))))))))) _ _ lr (q.drop m) hI1 (by rw [hq0, List.drop_nil, he, hq0])
  · rw [decide_eq_false hq]
    have sc := bi_scat lr (q.take m) (by rw [List.length_take]; omega)
    simp only [WX, B3]
    refine putE_to ((w7 Φ h7 0).mono ?_)
    rintro r M2 c2 ⟨rfl, rfl, rfl⟩
    simp only [WX, B3, bs_of hv, sc]
    exact hQ (G2 (G1 (X4 (G1 (X2 (X1 (G4 (X64 (X64 (X64 (X32 (X16 [])))))))))))) _ _ (lr ++ q.take m) (q.drop m) hI1 (by rw [List.append_assoc, List.take_append_drop]; exact he)
theorem pB (Φ : Nat → Option CF) (h10 : Φ 10 = some c10) (h25 : Φ 25 = some c25) (h21 : Φ 21 = some c21) (h41 : Φ 41 = some c41) (h254 : Φ 254 = some c254) (h252 : Φ 252 = some c252) (h7 : Φ 7 = some c7) {F : RO} {T c i n : Nat} {v0 v1 v2 : V} {ep el ew : List (List V)} (hA : AR F T v0 v1 v2 ep el ew) {M : Mem} {lw lr q : List UInt8}
    (hI : LI F T c (.p (T + 5) 0) (.p (T + 5) 0) (.p (T + 5) 0) 3 M q) (he : lw = lr ++ q) (hll : lw.length ≤ 200 * (i + 1)) (hi : i < 120) (hil : i < el.length) (u : List (Option V)) (Q : Ex → St → Prop)
    (hQ : ∀ (u : List (Option V)) M' c' lr' q', LI F T c' (.p (T + 5) 0) (.p (T + 5) 0) (.p (T + 5) 0) 3 M' q' → lw = lr' ++ q' → Q .nrm (.mk ((tPoi0 u v0 v1 v2 (.p T 0) (sV lw) (sV lr') (.i .i64 (n : Int)) (.i .i64 (i : Int)))) [] M' c')) :
    Wp b3_39 (K Φ none 3 F) (.mk ((tPoi0 u v0 v1 v2 (.p T 0) (sV lw) (sV lr) (.i .i64 (n : Int)) (.i .i64 (i : Int)))) [] M c) (seqQ b3_50 (K Φ none 3 F) Q) := by
  have lww : lnL v2 = some (.i .i64 (ew.length : Int)) := hA.w.len
  by_cases hw : i < ew.length
  · have d1 : decide ((i : Int) < (ew.length : Int)) = true := decide_eq_true (by omega)
    obtain ⟨y, hy⟩ := hA.we i hw
    obtain ⟨yb, yo, hyb, iy, ldy0⟩ := hA.w.one i hw hy
    have iy := iy .i64
    have ldy : load1 F M yb yo = some (.i .i64 y) := (hI.gr.load1 hyb yo).trans ldy0
    obtain ⟨w, hw3, ya⟩ := i64_and3 y
    have yr : biV .rem (.i .i64 (w : Int)) (.i .i64 3) = some (.i .i64 ((w % 3 : Nat) : Int)) := i64_rem w 3 (by decide)
    have yp : biV .add (.i .i64 1) (.i .i64 ((w % 3 : Nat) : Int)) = some (.i .i64 ((1 + w % 3 : Nat) : Int)) := by rw [i64_add _ _ (by omega) (by omega)]; simp
    simp only [WX, w3_39, w3_40, w3_41, w3_42, w3_50, lww, d1, iy, ldy, ya, yr, yp]
    exact pRd Φ h10 h25 h21 h41 h254 h252 h7 hA hI he hll hi hil (pi := 1 + w % 3) ⟨by omega, by omega⟩ (G2 (G1 (X4 (G1 (X2 (X1 (G4 (X2 (X1 (G1 (X64 (X64 (X64 (X32 (X8 (X4 [])))))))))))))))) Q hQ
  · have d1 : decide ((i : Int) < (ew.length : Int)) = false := decide_eq_false (by omega)
    simp only [WX, w3_39, w3_40, w3_42, w3_50, lww, d1]
    exact pRd Φ h10 h25 h21 h41 h254 h252 h7 hA hI he hll hi hil (pi := 1) ⟨by decide, by decide⟩ (G2 (G1 (X4 (G1 (X2 (X1 (G4 (X2 (X1 (G1 (X64 (X64 (X64 (X32 (X8 (X4 [])))))))))))))))) Q hQ
end Go.Proofs.YtaogopbhjinmoaaGreatDoor.Ev
set_option maxRecDepth 10000
set_option maxHeartbeats 8000000
namespace Go.Proofs.YtaogopbhjinmoaaGreatDoor.Ev
open Go
theorem pT (Φ : Nat → Option CF) (h12 : Φ 12 = some c12) (h10 : Φ 10 = some c10) (h25 : Φ 25 = some c25) (h21 : Φ 21 = some c21) (h41 : Φ 41 = some c41) (h254 : Φ 254 = some c254) (h252 : Φ 252 = some c252) (h7 : Φ 7 = some c7) (h11 : Φ 11 = some (.orc (rnO pk11))) {g' : RO → List V → Mem → Nat → RC} (h13 : Φ 13 = some (.orc g')) (hg' : ∀ F M ct, g' F [] M ct = .k (.b true) M ct)
    {F : RO} {T c n i : Nat} {v0 v1 v2 : V} {M : Mem} {lw lr q : List UInt8} (hI : LI F T c (.p (T + 5) 0) (.p (T + 5) 0) (.p (T + 5) 0) 3 M q) (he : lw = lr ++ q) (hll : lw.length ≤ 200 * i) (hi : i ≤ 1000) (u : List (Option V)) (Q : V → Mem → Nat → Prop) (hQ : ∀ M c, Q (.b true) M c) :
    Wp b3_69 (K Φ none 3 F) (.mk ((tPoi0 u v0 v1 v2 (.p T 0) (sV lw) (sV lr) (.i .i64 (n : Int)) (.i .i64 (i : Int)))) [] M c) (endQ F [.t pa6] Q) := by
  have hle := hI.le
  have n0 : decide ((0 : Int) ≠ 0) = false := by decide
  have n7 : ∀ (z : Int) (M : Mem) (c : Nat), callC (den Φ) F 7 [.i .i64 z] M c (Φ 7) = .k (.i .i64 z) M c := fun z M c => by
    obtain ⟨v, M', c', e, rfl, rfl, rfl⟩ := w7 Φ h7 (F := F) (M := M) (c := c) z
    exact e
  have up : ∀ {y1 y2 y3 pz1 pz2 pz3 : V} {k k' : Nat} {M : Mem}, LI F T c y1 y2 y3 k M q → LI F T c pz1 pz2 pz3 k' ((M.set T (rowB 63 (tW T pz1 pz2 pz3))).set (T + 5) (rowB 73 (oR (T + 3) 2 k'))) q := fun {y1 y2 y3 pz1 pz2 pz3 k k' M} h => by
    have ok1 := h.ok.put (y := rowB 63 (tW T pz1 pz2 pz3)) (by omega) h.mT
    have ok2 := ok1.put (b := T + 5) (y := rowB 73 (oR (T + 3) 2 k')) (by omega) (by rw [get_ne _ _ (by omega)]; exact h.m5)
    refine ⟨ok2, ⟨h.gr.le, fun b hb => by rw [get_ne _ _ (by omega), get_ne _ _ (by omega)]; exact h.gr.old b hb, ok2.hiM⟩, ?_, ?_, get_same _ _ _, ?_, h.ql⟩
    · rw [get_ne _ _ (by omega), get_same]
    · rw [get_ne _ _ (by omega), get_ne _ _ (by omega)]; exact h.m4
    · obtain ⟨e1, e2, vb, e3, e4⟩ := h.pq
      exact ⟨e1, e2, vb, by rw [get_ne _ _ (by omega), get_ne _ _ (by omega)]; exact e3, e4.up (Nat.le_refl _) (Nat.le_refl _) fun b hb _ => by rw [get_ne _ _ (by omega), get_ne _ _ (by omega)]⟩
  have hI1 := up (pz1 := .p0) (pz2 := .p (T + 5) 0) (pz3 := .p (T + 5) 0) (k' := 2) hI
  have kB1 := b11a (F := F) (c := c) hI.mT hI.m5
  have hI2 := up (pz1 := .p0) (pz2 := .p0) (pz3 := .p (T + 5) 0) (k' := 1) hI1
  have kB2 := b11b (F := F) (c := c) hI1.mT hI1.m5
  have hI3 := up (pz1 := .p0) (pz2 := .p0) (pz3 := .p0) (k' := 0) hI2
  have kB3 := b11c (F := F) (c := c) hI2.mT hI2.m5
  generalize ((M.set T (rowB 63 (tW T .p0 (.p (T + 5) 0) (.p (T + 5) 0)))).set (T + 5) (rowB 73 (oR (T + 3) 2 2))) = M1 at hI1 hI2 hI3 kB1 kB2 kB3
  generalize ((M1.set T (rowB 63 (tW T .p0 .p0 (.p (T + 5) 0)))).set (T + 5) (rowB 73 (oR (T + 3) 2 1))) = M2 at hI2 hI3 kB2 kB3
  generalize ((M2.set T (rowB 63 (tW T .p0 .p0 .p0))).set (T + 5) (rowB 73 (oR (T + 3) 2 0))) = M3 at hI3 kB3
  have p1 : biV .add (.i .i64 1) (.i .i64 1) = some (.i .i64 2) := by rw [i64_add _ _ (by omega) (by omega)]; rfl
  have p2 : biV .add (.i .i64 2) (.i .i64 1) = some (.i .i64 3) := by rw [i64_add _ _ (by omega) (by omega)]; rfl
  have p3 : biV .add (.i .i64 3) (.i .i64 1) = some (.i .i64 4) := by rw [i64_add _ _ (by omega) (by omega)]; rfl
  have p0 : biV .add (.i .i64 0) (.i .i64 1) = some (.i .i64 1) := by rw [i64_add _ _ (by omega) (by omega)]; rfl
  simp only [WX, B3]
  refine (wp_loop _ _ _).mpr ?_
  simp only [WX, Int.reduceLE, B3, h11, kB1, n7, n0, p1]
  refine (wp_loop _ _ _).mpr ?_
  simp only [WX, Int.reduceLE, B3, h11, kB2, n7, n0, p2]
  refine (wp_loop _ _ _).mpr ?_
  simp only [WX, Int.reduceLE, B3, h11, kB3, n7, n0, p3]
  refine (wp_loop _ _ _).mpr ?_
  have hl2 : lw.length = lr.length + q.length := by rw [he, List.length_append]
  have sc1 : biV .add (sV lr) (sV q) = some (sV lw) := by rw [bi_scat lr q (by omega), he]
  have sc2 : biV .add (sV lw) (sV []) = some (sV lw) := by rw [bi_scat lw [] (by simp; omega), List.append_nil]
  have sq : biV .eql (sV lw) (sV lw) = some (.b true) := by rw [bi_seq]; simp
  simp only [WX, Int.reduceLE, w3_55, w3_56, w3_61, w3_62]
  rw [w3_67]
  refine (wp_loop _ _ _).mpr ?_
  simp only [WX, Int.reduceLT, w3_63, w3_64, w3_65]
  refine putE_to ((w12 Φ h12 h10 h25 h21 h41 h254 h252 h7 hI3).mono ?_)
  rintro r M4 c4 ⟨rfl, hI4⟩
  simp only [WX, w3_66, sc1, p0]
  refine (wp_loop _ _ _).mpr ?_
  simp only [WX, Int.reduceLT, w3_63, w3_64, w3_65]
  refine putE_to ((w12 Φ h12 h10 h25 h21 h41 h254 h252 h7 hI4).mono ?_)
  rintro r M5 c5 ⟨rfl, hI5⟩
  simp only [WX, w3_66, sc2, p1]
  refine (wp_loop _ _ _).mpr ?_
  simp only [WX, Int.reduceLT, w3_63, w3_64, w3_65]
  refine putE_to ((w12 Φ h12 h10 h25 h21 h41 h254 h252 h7 hI5).mono ?_)
  rintro r M6 c6 ⟨rfl, hI6⟩
  simp only [WX, w3_66, sc2, p2]
  refine (wp_loop _ _ _).mpr ?_
  simp only [WX, Int.reduceLT, B3, sq, h13, hg']
  exact hQ _ _
theorem l3 (Φ : Nat → Option CF) (h : Φ 3 = some c3) (h9 : Φ 9 = some c9) (h10 : Φ 10 = some c10) (h12 : Φ 12 = some c12) (h25 : Φ 25 = some c25) (h21 : Φ 21 = some c21) (h41 : Φ 41 = some c41) (h254 : Φ 254 = some c254) (h256 : Φ 256 = some c256) (h252 : Φ 252 = some c252) (h7 : Φ 7 = some c7)
    (h5 : Φ 5 = some (.orc (rnO pk5))) (h6 : Φ 6 = some (.orc (rnO pk6))) (h8 : Φ 8 = some (.orc (rnO pk8))) (h11 : Φ 11 = some (.orc (rnO pk11))) {g g' : RO → List V → Mem → Nat → RC} (h4 : Φ 4 = some (.orc g)) (hg : ∀ F M ct, g F [] M ct = .k (.b true) M ct) (h13 : Φ 13 = some (.orc g')) (hg' : ∀ F M ct, g' F [] M ct = .k (.b true) M ct)
    {F : RO} {T : Nat} {v0 v1 v2 : V} {ep el ew : List (List V)} (ok : Okm F .e T) (hA : AR F T v0 v1 v2 ep el ew) :
    Calls Φ F 3 [v0, v1, v2] .e T fun r _ _ => r = .b true := by
  refine calls_walk h ?_
  have lp : lnL v0 = some (.i .i64 (ep.length : Int)) := hA.p.len
  have ll : lnL v1 = some (.i .i64 (el.length : Int)) := hA.l.len
  obtain ⟨Q, hQ⟩ : ∃ Q : V → Mem → Nat → Prop, Q = fun r _ _ => r = .b true := ⟨_, rfl⟩
  rw [← hQ]
  have e1 : ∀ M b, eqV F M .ptr true (.p b 0) .p0 = some false := fun M b => Eq.trans rfl (Eq.refl _)
  obtain ⟨M1, hM1⟩ : ∃ M1, M1 = (Tr.set .e T (rowB 63 (tR (T + 1) (T + 2) .p0 .p0 .p0 .p0 .p0 .p0 0)) : Mem) := ⟨_, rfl⟩
  have kB5 : rnO pk5 F [] .e T = .k (.p T 0) M1 (T + 3) := by rw [hM1]; exact b5
  have m1 : M1.get T = some (rowB 63 (tR (T + 1) (T + 2) .p0 .p0 .p0 .p0 .p0 .p0 0)) := by rw [hM1]; exact get_same _ _ _
  obtain ⟨M2, hM2⟩ : ∃ M2, M2 = (((M1.set T (rowB 63 (tR (T + 1) (T + 2) (.p (T + 3 + 1) 0) (.p (T + 3 + 2) 0) .p0 .p0 .p0 .p0 1))).set (T + 3) (rowB 67 (pR 1 .l0 (T + 3 + 1) (T + 3 + 2)))).set (T + 3 + 1) (rowB 73 (oR (T + 3) 1 1))).set (T + 3 + 2) (rowB 73 (oR (T + 3) 2 1)) := ⟨_, rfl⟩
  have kB6 : rnO pk6 F [.p T 0, .i .i64 1] M1 (T + 3) = .k (.t [.i .i64 0, .i .i64 1, .i .i64 0]) M2 (T + 6) := by rw [hM2]; exact b6 m1
  have m2 : M2.get T = some (rowB 63 (tR (T + 1) (T + 2) (.p (T + 4) 0) (.p (T + 5) 0) .p0 .p0 .p0 .p0 1)) ∧ M2.get (T + 3) = some (rowB 67 (pR 1 .l0 (T + 4) (T + 5))) ∧ M2.get (T + 4) = some (rowB 73 (oR (T + 3) 1 1)) ∧ M2.get (T + 5) = some (rowB 73 (oR (T + 3) 2 1)) ∧ ∀ b, b < T ∨ T + 6 ≤ b → M2.get b = none := by
    rw [hM2]
    refine ⟨?_, ?_, ?_, ?_, fun b hb => ?_⟩
    · rw [get_ne _ _ (by omega), get_ne _ _ (by omega), get_ne _ _ (by omega), get_same]
    · rw [get_ne _ _ (by omega), get_ne _ _ (by omega), get_same]
    · rw [get_ne _ _ (by omega), get_same]
    · rw [get_same]
    · rw [get_ne _ _ (by omega), get_ne _ _ (by omega), get_ne _ _ (by omega), get_ne _ _ (by omega), hM1, get_ne _ _ (by omega)]; rfl
  obtain ⟨m2a, m2b, m2c, m2d, m2e⟩ := m2
  obtain ⟨M3, hM3⟩ : ∃ M3, M3 = ((M2.set T (rowB 63 (tR (T + 1) (T + 2) (.p (T + 4) 0) (.p (T + 5) 0) (.p (T + 4) 0) (.p (T + 5) 0) .p0 .p0 1))).set (T + 4) (rowB 73 (oR (T + 3) 1 2))).set (T + 5) (rowB 73 (oR (T + 3) 2 2)) := ⟨_, rfl⟩
  have kB8 : rnO pk8 F [.p T 0, .i .i64 1, .i .i64 2] M2 (T + 6) = .k (.i .i64 0) M3 (T + 6) := by rw [hM3]; exact b8a m2a m2c m2d
  obtain ⟨M4, hM4⟩ : ∃ M4, M4 = ((M3.set T (rowB 63 (tW T (.p (T + 5) 0) (.p (T + 5) 0) (.p (T + 5) 0)))).set (T + 4) (rowB 73 (oR (T + 3) 1 3))).set (T + 5) (rowB 73 (oR (T + 3) 2 3)) := ⟨_, rfl⟩
  have kB9 : rnO pk8 F [.p T 0, .i .i64 1, .i .i64 3] M3 (T + 6) = .k (.i .i64 0) M4 (T + 6) := by
    rw [hM4]
    refine b8b ?_ ?_ ?_ <;> rw [hM3]
    · rw [get_ne _ _ (by omega), get_ne _ _ (by omega), get_same]
    · rw [get_ne _ _ (by omega), get_same]
    · rw [get_same]
  have o4 : ∀ b, b ≠ T → b ≠ T + 4 → b ≠ T + 5 → M4.get b = M2.get b := fun b h1 h2 h3 => by rw [hM4, get_ne _ _ h3, get_ne _ _ h2, get_ne _ _ h1, hM3, get_ne _ _ h3, get_ne _ _ h2, get_ne _ _ h1]
  have hi4 : ∀ b, T + 6 ≤ b → M4.get b = none := fun b hb => (o4 b (by omega) (by omega) (by omega)).trans (m2e b (.inr hb))
  have g4 : Gr T .e (T + 6) M4 := ⟨by omega, fun b hb => (o4 b (by omega) (by omega) (by omega)).trans (m2e b (.inl hb)), hi4⟩
  have hI : LI F T (T + 6) (.p (T + 5) 0) (.p (T + 5) 0) (.p (T + 5) 0) 3 M4 [] := by
    refine ⟨g4.ok ok, g4, ?_, ?_, ?_, ⟨by omega, Nat.le_refl _, .l0, (o4 _ (by omega) (by omega) (by omega)).trans m2b, fun _ _ => ⟨by simp, .inl ⟨rfl, .inl rfl⟩⟩⟩, Nat.zero_le _⟩ <;> rw [hM4]
    · rw [get_ne _ _ (by omega), get_ne _ _ (by omega), get_same]
    · rw [get_ne _ _ (by omega), get_same]
    · rw [get_same]
  have n0 : decide ((0 : Int) ≠ 0) = false := by decide
  have n7 : ∀ (z : Int) (M : Mem) (c : Nat), callC (den Φ) F 7 [.i .i64 z] M c (Φ 7) = .k (.i .i64 z) M c := fun z M c => by
    obtain ⟨v, M', c', e, rfl, rfl, rfl⟩ := w7 Φ h7 (F := F) (M := M) (c := c) z
    exact e
  simp only [WX, e3, w3_1, w3_2, w3_4, w3_5, w3_6, w3_8, w3_9, w3_10, w3_12, w3_13, w3_14, w3_15, w3_53, w3_70, w3_71, h4, h5, h6, h8, hg, kB5, kB6, kB8, kB9, e1, n7, n0]
  obtain ⟨I, hIv⟩ : ∃ I : Nat → St → Prop, ∀ m s, I m s ↔ (∃ (i n c : Nat) (u : List (Option V)) (M : Mem) (lw lr q : List UInt8), m = 120 - i ∧ i ≤ 120 ∧ s = .mk ((tPoi0 u v0 v1 v2 (.p T 0) (sV lw) (sV lr) (.i .i64 (n : Int)) (.i .i64 (i : Int)))) [] M c ∧ LI F T c (.p (T + 5) 0) (.p (T + 5) 0) (.p (T + 5) 0) 3 M q ∧ lw = lr ++ q ∧ lw.length ≤ 200 * i ∧ n ≤ ep.length) := ⟨fun m s => _, fun _ _ => Iff.rfl⟩
  refine wp_while I ?_ 120 _ ((hIv _ _).2 ⟨0, 0, T + 6, (G2 (G1 (X4 (G1 (X2 (X1 (G4 (X64 (X64 (X64 (X32 (X16 [])))))))))))), M4, [], [], [], rfl, by decide, rfl, hI, rfl, Nat.le_refl _, Nat.zero_le _⟩)
  intro m s hs
  obtain ⟨i, n, c, u, M, lw, lr, q, rfl, hi, rfl, hI, he, hll, hn⟩ := (hIv _ _).1 hs
  clear hs
  by_cases hlt : i < 120
  · have d1 : decide ((i : Int) < 120) = true := decide_eq_true (by omega)
    simp only [WX, w3_16, w3_17, w3_51, d1]
    refine pA Φ h9 h25 h21 h41 h256 h252 h7 hA hI he hll hlt hn (G2 (G1 (X4 (G1 (X2 (X1 (G4 (X64 (X64 (X64 (X32 (X16 [])))))))))))) _ ?_
    intro u1 M1 c1 n1 lw1 q1 hI1 he1 hl1 hn1
    have qi : biV .add (.i .i64 (i : Int)) (.i .i64 1) = some (.i .i64 ((i + 1 : Nat) : Int)) := by rw [i64_add _ _ (by omega) (by omega)]; simp
    by_cases hil : i < el.length
    · have d2 : decide ((el.length : Int) ≤ (i : Int)) = false := decide_eq_false (by omega)
      simp only [WX, w3_37, w3_38, ll, d2]
      refine pB Φ h10 h25 h21 h41 h254 h252 h7 hA hI1 he1 hl1 hlt hil (G2 (G1 (X4 (G1 (X2 (X1 (G4 (X64 (X64 (X64 (X32 (X16 [])))))))))))) _ ?_
      intro u2 M2 c2 lr2 q2 hI2 he2
      simp only [WX, B3, qi]
      exact ⟨120 - (i + 1), by omega, (hIv _ _).2 ⟨i + 1, n1, c2, (G2 (G1 (X4 (G1 (X2 (X1 (G4 (X64 (X64 (X64 (X32 (X16 [])))))))))))), M2, lw1, lr2, q2, rfl, by omega, rfl, hI2, he2, hl1, hn1⟩⟩
    · have d2 : decide ((el.length : Int) ≤ (i : Int)) = true := decide_eq_true (by omega)
      simp only [WX, reduceCtorEq, w3_37, w3_38, w3_52, w3_54, w3_69, ll, d2, qi]
      exact ⟨120 - (i + 1), by omega, (hIv _ _).2 ⟨i + 1, n1, c1, (G2 (G1 (X4 (G1 (X2 (X1 (G4 (X64 (X64 (X64 (X32 (X16 [])))))))))))), M1, lw1, lr, q1, rfl, by omega, rfl, hI1, he1, hl1, hn1⟩⟩
  · obtain rfl : i = 120 := by omega
    have d1 : decide (((120 : Nat) : Int) < 120) = false := rfl
    simp only [WX, w3_16, w3_17, d1]
    exact pT Φ h12 h10 h25 h21 h41 h254 h252 h7 h11 h13 hg' hI he hll (by decide) (G2 (G1 (X4 (G1 (X2 (X1 (G4 (X64 (X64 (X64 (X32 (X16 [])))))))))))) Q (fun M c => by rw [hQ])
end Go.Proofs.YtaogopbhjinmoaaGreatDoor.Ev
namespace Go.Proofs.YtaogopbhjinmoaaGreatDoor.Ev
open Go
theorem i64s_of {F : RO} {M : Mem} {c : Nat} {vs : List V} {x : (Ty.sl (.int .i64)).D} (h : Rp F M c (.sl (.int .i64)) vs x) : ∃ v es, vs = [v] ∧ SlAt F M c 1 v es ∧ ∀ i (h : i < es.length), ∃ z : Int, es[i] = [.i .i64 z] := by
  obtain ⟨v, es, rfl, h1, _, h2, h3⟩ := h
  refine ⟨v, es, rfl, h1, fun i hi => ?_⟩
  obtain ⟨e, _⟩ := h3 i hi (by rw [← h2]; exact hi)
  exact ⟨_, e⟩
theorem ar_of {F : RO} {T : Nat} {us : List V} (h : ArgsR F T [.sl (.sl (.int .u8)), .sl (.int .i64), .sl (.int .i64)] us) : ∃ v0 v1 v2 ep el ew, us = [v0, v1, v2] ∧ AR F T v0 v1 v2 ep el ew := by
  obtain ⟨pa0, x0, r0, rfl, h0, pa1, x1, r1, rfl, h1, pa2, x2, r2, rfl, h2, rfl⟩ := h
  obtain ⟨v1, el, rfl, l1, l2⟩ := i64s_of h1
  obtain ⟨v2, ew, rfl, w1, w2⟩ := i64s_of h2
  obtain ⟨v0, ep, rfl, p1, p2, p3, p4⟩ := h0
  refine ⟨v0, v1, v2, ep, el, ew, rfl, p1, fun i hi => ?_, l1, l2, w1, w2, ?_⟩
  · obtain ⟨v, l, e, hb, _⟩ := bytes_of (p4 i hi (by rw [← p3]; exact hi))
    exact ⟨v, l, e, hb⟩
  · rw [p3]; exact p2
end Go.Proofs.YtaogopbhjinmoaaGreatDoor.Ev
