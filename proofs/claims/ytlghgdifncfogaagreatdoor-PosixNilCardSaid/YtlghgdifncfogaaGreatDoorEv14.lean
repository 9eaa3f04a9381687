/- What is proved here: pieces of the evaluator's soundness: if the evaluator comes to a value, the model's run comes to it, for every world and tape; no conditions beyond the hypotheses of each theorem. -/
import Derived.Test.YtlghgdifncfogaaGreatDoorEv13
set_option linter.unusedSimpArgs false
set_option linter.unusedVariables false
set_option linter.defProp false
namespace Go.Proofs.YtlghgdifncfogaaGreatDoor.Ev
open Go
abbrev pa0 : Pos := .h
abbrev pz0 : X := .t pa0
abbrev pa1 : Pos := .l pa0
abbrev pz1 : X := .t pa1
abbrev pa2 : Pos := .r pa0
abbrev pz2 : X := .t pa2
abbrev pa3 : Pos := .l pa1
abbrev pz3 : X := .t pa3
abbrev pa4 : Pos := .r pa1
abbrev pz4 : X := .t pa4
abbrev pa5 : Pos := .l pa2
abbrev pz5 : X := .t pa5
abbrev pa6 : Pos := .r pa2
abbrev pz6 : X := .t pa6
abbrev pa7 : Pos := .l pa3
abbrev pz7 : X := .t pa7
abbrev pa8 : Pos := .r pa3
abbrev pz8 : X := .t pa8
abbrev pa9 : Pos := .l pa4
abbrev pz9 : X := .t pa9
abbrev pa10 : Pos := .r pa4
abbrev pz10 : X := .t pa10
abbrev pa11 : Pos := .l pa5
abbrev pz11 : X := .t pa11
abbrev pa12 : Pos := .r pa5
abbrev pz12 : X := .t pa12
abbrev pa13 : Pos := .l pa6
abbrev pz13 : X := .t pa13
abbrev pa14 : Pos := .r pa6
abbrev pz14 : X := .t pa14
abbrev pa15 : Pos := .l pa7
abbrev pz15 : X := .t pa15
abbrev pa16 : Pos := .r pa7
abbrev pz16 : X := .t pa16
abbrev pa17 : Pos := .l pa8
abbrev pz17 : X := .t pa17
abbrev pa18 : Pos := .r pa8
abbrev pz18 : X := .t pa18
abbrev pa19 : Pos := .l pa9
abbrev pz19 : X := .t pa19
abbrev pa20 : Pos := .r pa9
abbrev pz20 : X := .t pa20
abbrev pa21 : Pos := .l pa10
abbrev pz21 : X := .t pa21
abbrev pa22 : Pos := .r pa10
abbrev pz22 : X := .t pa22
abbrev pa23 : Pos := .l pa11
abbrev pz23 : X := .t pa23
abbrev pa24 : Pos := .r pa11
abbrev pz24 : X := .t pa24
abbrev pa25 : Pos := .l pa12
abbrev pz25 : X := .t pa25
abbrev pa26 : Pos := .r pa12
abbrev pz26 : X := .t pa26
abbrev pa27 : Pos := .l pa13
abbrev pz27 : X := .t pa27
abbrev pa28 : Pos := .r pa13
abbrev pz28 : X := .t pa28
abbrev pa29 : Pos := .l pa14
abbrev pz29 : X := .t pa29
abbrev pa30 : Pos := .r pa14
abbrev pz30 : X := .t pa30
abbrev pa31 : Pos := .l pa15
abbrev pz31 : X := .t pa31
abbrev pa32 : Pos := .r pa15
abbrev pz32 : X := .t pa32
abbrev pa33 : Pos := .l pa16
abbrev pz33 : X := .t pa33
abbrev pa34 : Pos := .r pa16
abbrev pz34 : X := .t pa34
abbrev pa35 : Pos := .l pa17
abbrev pz35 : X := .t pa35
abbrev pa36 : Pos := .r pa17
abbrev pz36 : X := .t pa36
abbrev pa37 : Pos := .l pa18
abbrev pz37 : X := .t pa37
abbrev pa38 : Pos := .r pa18
abbrev pz38 : X := .t pa38
abbrev pa39 : Pos := .l pa19
abbrev pz39 : X := .t pa39
abbrev pa40 : Pos := .r pa19
abbrev pz40 : X := .t pa40
abbrev pa41 : Pos := .l pa20
abbrev pz41 : X := .t pa41
abbrev pa42 : Pos := .r pa20
abbrev pz42 : X := .t pa42
abbrev pa43 : Pos := .l pa21
abbrev pz43 : X := .t pa43
abbrev pa44 : Pos := .r pa21
abbrev pz44 : X := .t pa44
abbrev pa45 : Pos := .l pa22
abbrev pz45 : X := .t pa45
abbrev pa46 : Pos := .r pa22
abbrev pz46 : X := .t pa46
abbrev pa47 : Pos := .l pa23
abbrev pz47 : X := .t pa47
abbrev pa48 : Pos := .r pa23
abbrev pz48 : X := .t pa48
abbrev pa49 : Pos := .l pa24
abbrev pz49 : X := .t pa49
abbrev pa50 : Pos := .r pa24
abbrev pz50 : X := .t pa50
abbrev pa51 : Pos := .l pa25
abbrev pz51 : X := .t pa51
abbrev pa52 : Pos := .r pa25
abbrev pz52 : X := .t pa52
abbrev pa53 : Pos := .l pa26
abbrev pz53 : X := .t pa53
abbrev pa54 : Pos := .r pa26
abbrev pz54 : X := .t pa54
abbrev pa55 : Pos := .l pa27
abbrev pz55 : X := .t pa55
abbrev pa56 : Pos := .r pa27
abbrev pz56 : X := .t pa56
abbrev pa57 : Pos := .l pa28
abbrev pz57 : X := .t pa57
abbrev pa58 : Pos := .r pa28
abbrev pz58 : X := .t pa58
abbrev pa59 : Pos := .l pa29
abbrev pz59 : X := .t pa59
abbrev pa60 : Pos := .r pa29
abbrev pz60 : X := .t pa60
abbrev sk1 : T := .n .e none .e
abbrev sk2 : T := .n sk1 none sk1
abbrev sk3 : T := .n sk2 none sk2
abbrev sk4 : T := .n sk3 none sk3
abbrev uv1 (u : List (Option V)) (a : Nat) : T := .n .e (uO u a) .e
abbrev uv3 (u : List (Option V)) (a b c : Nat) : T := .n (uv1 u a) (uO u b) (uv1 u c)
abbrev uv7 (u : List (Option V)) (a b c d e f g : Nat) : T := .n (uv3 u a b c) (uO u d) (uv3 u e f g)
abbrev pqq (d : Pos) (o : QO) : CO := ⟨some d, .q o, none⟩
abbrev paa (d : Pos) (o : AO) : CO := ⟨some d, .a o, none⟩
abbrev pee (d : Pos) (o : EO) : CO := ⟨some d, .e o, none⟩
abbrev pez (o : EO) : CO := ⟨none, .e o, none⟩
abbrev px6 (n : Int) : X := .c (.i .i64 n)
abbrev pxT : X := .c (.b true)
abbrev pxF : X := .c (.b false)
theorem wu {b b1 : CC} (h : b = b1) (k : Kn) (s : St) (R : Ex → St → Prop) : Wp b k s R = Wp b1 k s R := congrArg (fun x => Wp x k s R) h
end Go.Proofs.YtlghgdifncfogaaGreatDoor.Ev
namespace Go.Proofs.YtlghgdifncfogaaGreatDoor.Ev
open Go
end Go.Proofs.YtlghgdifncfogaaGreatDoor.Ev
namespace Go.Proofs.YtlghgdifncfogaaGreatDoor.Ev
open Go
section
variable {Φ : Nat → Option CF} {rd : Option Nat} {fn : Nat} {F : RO}
def nckV : V → Option V
  | .p b o => some (.p b o)
  | .f g h c => some (.f g h c)
  | .y l => some (.y l)
  | .a t v => some (.a t v)
  | _ => none
theorem v_nck (x : X) (M : Mem) (t : T) : (qop (.nck x) F M t).val = nckV (x.ev t) := by
  show (q_nck x F M t).val = _
  unfold q_nck
  cases x.ev t <;> rfl
theorem nckV_p (b o : Nat) : nckV (.p b o) = some (.p b o) := Eq.trans rfl (Eq.refl _)
theorem dq_nck (x : X) (M : Mem) (t : T) : dqR (.nck x) F M t = oV (nckV (x.ev t)) := by
  refine (dq_of ?_).trans (congrArg oV (v_nck (F := F) x M t))
  intro F' M'
  refine qv_oV ?_
  show (q_nck x F' M' t = .f ∨ ∃ y, q_nck x F' M' t = .v y)
  unfold q_nck
  cases x.ev t <;> first | exact .inl rfl | exact .inr ⟨_, rfl⟩
noncomputable def rowP (ty n : Nat) (row : List V) : Blk := .cells ty n false 0 false [] (rowT row)
def BufAt (M : Mem) (c0 c b : Nat) (v : V) (l : List UInt8) : Prop :=
  (l = [] ∧ v = .l0) ∨ (c0 ≤ b ∧ b < c ∧ ∃ n, (l.length ≤ n ∧ 0 < n) ∧ v = .u b 0 l.length 0 n ∧ M.get b = some (rowP 5 n (l.map bV)))
theorem BufAt.up {M M' : Mem} {c0 c c' b : Nat} {v : V} {l : List UInt8} (h : BufAt M c0 c b v l) (hc : c ≤ c') (hb : b < c → M'.get b = M.get b) : BufAt M' c0 c' b v l := by
  rcases h with h | ⟨h1, h2, n, h3, h4, h5⟩
  · exact .inl h
  · exact .inr ⟨h1, by omega, n, h3, h4, by rw [hb h2]; exact h5⟩
end
end Go.Proofs.YtlghgdifncfogaaGreatDoor.Ev
namespace Go.Proofs.YtlghgdifncfogaaGreatDoor.Ev
open Go
end Go.Proofs.YtlghgdifncfogaaGreatDoor.Ev
