/- What is proved here: pieces of the evaluator's soundness: if the evaluator comes to a value, the model's run comes to it, for every world and tape; no conditions beyond the hypotheses of each theorem. -/
import Derived.Test.YtaogopbhjinmoaaGreatDoorEv13
set_option linter.unusedSimpArgs false
set_option linter.unusedVariables false
set_option linter.defProp false
namespace Go.Proofs.YtaogopbhjinmoaaGreatDoor.Ev
open Go
abbrev pa0 : Pos := .h
abbrev pz0 : X := .t pa0
abbrev pa1 : Pos := .l pa0
abbrev pz1 : X := .t pa1
abbrev pa2 : Pos := .r pa0
abbrev pz2 : X := .t pa2
abbrev pa3 : Pos := .l pa1
abbrev pz3 : X := .t pa3
abbrev pa4 : Pos := .r pa1
abbrev pz4 : X := .t pa4
abbrev pa5 : Pos := .l pa2
abbrev pz5 : X := .t pa5
abbrev pa6 : Pos := .r pa2
abbrev pz6 : X := .t pa6
abbrev pa7 : Pos := .l pa3
abbrev pz7 : X := .t pa7
abbrev pa8 : Pos := .r pa3
abbrev pz8 : X := .t pa8
abbrev pa9 : Pos := .l pa4
abbrev pz9 : X := .t pa9
abbrev pa10 : Pos := .r pa4
abbrev pz10 : X := .t pa10
abbrev pa11 : Pos := .l pa5
abbrev pz11 : X := .t pa11
abbrev pa12 : Pos := .r pa5
abbrev pz12 : X := .t pa12
abbrev pa13 : Pos := .l pa6
abbrev pz13 : X := .t pa13
abbrev pa14 : Pos := .r pa6
abbrev pz14 : X := .t pa14
abbrev pa15 : Pos := .l pa7
abbrev pz15 : X := .t pa15
abbrev pa16 : Pos := .r pa7
abbrev pz16 : X := .t pa16
abbrev pa17 : Pos := .l pa8
abbrev pz17 : X := .t pa17
abbrev pa18 : Pos := .r pa8
abbrev pz18 : X := .t pa18
abbrev pa19 : Pos := .l pa9
abbrev pz19 : X := .t pa19
abbrev pa20 : Pos := .r pa9
abbrev pz20 : X := .t pa20
abbrev pa21 : Pos := .l pa10
abbrev pz21 : X := .t pa21
abbrev pa22 : Pos := .r pa10
abbrev pz22 : X := .t pa22
abbrev pa23 : Pos := .l pa11
abbrev pz23 : X := .t pa23
abbrev pa24 : Pos := .r pa11
abbrev pz24 : X := .t pa24
abbrev pa25 : Pos := .l pa12
abbrev pz25 : X := .t pa25
abbrev pa26 : Pos := .r pa12
abbrev pz26 : X := .t pa26
abbrev pa27 : Pos := .l pa13
abbrev pz27 : X := .t pa27
abbrev pa28 : Pos := .r pa13
abbrev pz28 : X := .t pa28
abbrev pa29 : Pos := .l pa14
abbrev pz29 : X := .t pa29
abbrev pa30 : Pos := .r pa14
abbrev pz30 : X := .t pa30
abbrev pa31 : Pos := .l pa15
abbrev pz31 : X := .t pa31
abbrev pa32 : Pos := .r pa15
abbrev pz32 : X := .t pa32
abbrev pa33 : Pos := .l pa16
abbrev pz33 : X := .t pa33
abbrev pa34 : Pos := .r pa16
abbrev pz34 : X := .t pa34
abbrev pa35 : Pos := .l pa17
abbrev pz35 : X := .t pa35
abbrev pa36 : Pos := .r pa17
abbrev pz36 : X := .t pa36
abbrev pa37 : Pos := .l pa18
abbrev pz37 : X := .t pa37
abbrev pa38 : Pos := .r pa18
abbrev pz38 : X := .t pa38
abbrev pa39 : Pos := .l pa19
abbrev pz39 : X := .t pa39
abbrev pa40 : Pos := .r pa19
abbrev pz40 : X := .t pa40
abbrev pa41 : Pos := .l pa20
abbrev pz41 : X := .t pa41
abbrev pa42 : Pos := .r pa20
abbrev pz42 : X := .t pa42
abbrev pa43 : Pos := .l pa21
abbrev pz43 : X := .t pa43
abbrev pa44 : Pos := .r pa21
abbrev pz44 : X := .t pa44
abbrev pa45 : Pos := .l pa22
abbrev pz45 : X := .t pa45
abbrev pa46 : Pos := .r pa22
abbrev pz46 : X := .t pa46
abbrev pa47 : Pos := .l pa23
abbrev pz47 : X := .t pa47
abbrev pa48 : Pos := .r pa23
abbrev pz48 : X := .t pa48
abbrev pa49 : Pos := .l pa24
abbrev pz49 : X := .t pa49
abbrev pa50 : Pos := .r pa24
abbrev pz50 : X := .t pa50
abbrev pa51 : Pos := .l pa25
abbrev pz51 : X := .t pa51
abbrev pa52 : Pos := .r pa25
abbrev pz52 : X := .t pa52
abbrev pa53 : Pos := .l pa26
abbrev pz53 : X := .t pa53
abbrev pa54 : Pos := .r pa26
abbrev pz54 : X := .t pa54
abbrev pa55 : Pos := .l pa27
abbrev pz55 : X := .t pa55
abbrev pa56 : Pos := .r pa27
abbrev pz56 : X := .t pa56
abbrev pa57 : Pos := .l pa28
abbrev pz57 : X := .t pa57
abbrev pa58 : Pos := .r pa28
abbrev pz58 : X := .t pa58
abbrev pa59 : Pos := .l pa29
abbrev pz59 : X := .t pa59
abbrev pa60 : Pos := .r pa29
abbrev pz60 : X := .t pa60
abbrev pa61 : Pos := .l pa30
abbrev pz61 : X := .t pa61
abbrev pa62 : Pos := .r pa30
abbrev pz62 : X := .t pa62
abbrev pa63 : Pos := .l pa31
abbrev pz63 : X := .t pa63
abbrev pa64 : Pos := .r pa31
abbrev pz64 : X := .t pa64
abbrev pa65 : Pos := .l pa32
abbrev pz65 : X := .t pa65
abbrev pa66 : Pos := .r pa32
abbrev pz66 : X := .t pa66
abbrev pa67 : Pos := .l pa33
abbrev pz67 : X := .t pa67
abbrev pa68 : Pos := .r pa33
abbrev pz68 : X := .t pa68
abbrev pa69 : Pos := .l pa34
abbrev pz69 : X := .t pa69
abbrev pa70 : Pos := .r pa34
abbrev pz70 : X := .t pa70
abbrev pa71 : Pos := .l pa35
abbrev pz71 : X := .t pa71
abbrev pa72 : Pos := .r pa35
abbrev pz72 : X := .t pa72
abbrev pa73 : Pos := .l pa36
abbrev pz73 : X := .t pa73
abbrev pa74 : Pos := .r pa36
abbrev pz74 : X := .t pa74
abbrev pa75 : Pos := .l pa37
abbrev pz75 : X := .t pa75
abbrev pa76 : Pos := .r pa37
abbrev pz76 : X := .t pa76
abbrev pa77 : Pos := .l pa38
abbrev pz77 : X := .t pa77
abbrev pa78 : Pos := .r pa38
abbrev pz78 : X := .t pa78
abbrev pa79 : Pos := .l pa39
abbrev pz79 : X := .t pa79
abbrev pa80 : Pos := .r pa39
abbrev pz80 : X := .t pa80
abbrev pa81 : Pos := .l pa40
abbrev pz81 : X := .t pa81
abbrev pa82 : Pos := .r pa40
abbrev pz82 : X := .t pa82
abbrev pa83 : Pos := .l pa41
abbrev pz83 : X := .t pa83
abbrev pa84 : Pos := .r pa41
abbrev pz84 : X := .t pa84
abbrev pa85 : Pos := .l pa42
abbrev pz85 : X := .t pa85
abbrev pa86 : Pos := .r pa42
abbrev pz86 : X := .t pa86
abbrev pa87 : Pos := .l pa43
abbrev pz87 : X := .t pa87
abbrev pa88 : Pos := .r pa43
abbrev pz88 : X := .t pa88
abbrev pa89 : Pos := .l pa44
abbrev pz89 : X := .t pa89
abbrev pa90 : Pos := .r pa44
abbrev pz90 : X := .t pa90
abbrev pa91 : Pos := .l pa45
abbrev pz91 : X := .t pa91
abbrev pa92 : Pos := .r pa45
abbrev pz92 : X := .t pa92
abbrev pa93 : Pos := .l pa46
abbrev pz93 : X := .t pa93
abbrev pa94 : Pos := .r pa46
abbrev pz94 : X := .t pa94
abbrev pa95 : Pos := .l pa47
abbrev pz95 : X := .t pa95
abbrev pa96 : Pos := .r pa47
abbrev pz96 : X := .t pa96
abbrev pa97 : Pos := .l pa48
abbrev pz97 : X := .t pa97
abbrev pa98 : Pos := .r pa48
abbrev pz98 : X := .t pa98
abbrev pa99 : Pos := .l pa49
abbrev pz99 : X := .t pa99
abbrev pa100 : Pos := .r pa49
abbrev pz100 : X := .t pa100
abbrev pa101 : Pos := .l pa50
abbrev pz101 : X := .t pa101
abbrev pa102 : Pos := .r pa50
abbrev pz102 : X := .t pa102
abbrev pa103 : Pos := .l pa51
abbrev pz103 : X := .t pa103
abbrev pa104 : Pos := .r pa51
abbrev pz104 : X := .t pa104
abbrev pa105 : Pos := .l pa52
abbrev pz105 : X := .t pa105
abbrev pa106 : Pos := .r pa52
abbrev pz106 : X := .t pa106
abbrev pa107 : Pos := .l pa53
abbrev pz107 : X := .t pa107
abbrev pa108 : Pos := .r pa53
abbrev pz108 : X := .t pa108
abbrev pa109 : Pos := .l pa54
abbrev pz109 : X := .t pa109
abbrev pa110 : Pos := .r pa54
abbrev pz110 : X := .t pa110
abbrev pa111 : Pos := .l pa55
abbrev pz111 : X := .t pa111
abbrev pa112 : Pos := .r pa55
abbrev pz112 : X := .t pa112
abbrev pa113 : Pos := .l pa56
abbrev pz113 : X := .t pa113
abbrev pa114 : Pos := .r pa56
abbrev pz114 : X := .t pa114
abbrev pa115 : Pos := .l pa57
abbrev pz115 : X := .t pa115
abbrev pa116 : Pos := .r pa57
abbrev pz116 : X := .t pa116
abbrev pa117 : Pos := .l pa58
abbrev pz117 : X := .t pa117
abbrev pa118 : Pos := .r pa58
abbrev pz118 : X := .t pa118
abbrev pa119 : Pos := .l pa59
abbrev pz119 : X := .t pa119
abbrev pa120 : Pos := .r pa59
abbrev pz120 : X := .t pa120
abbrev pa121 : Pos := .l pa60
abbrev pz121 : X := .t pa121
abbrev pa122 : Pos := .r pa60
abbrev pz122 : X := .t pa122
abbrev pa123 : Pos := .l pa61
abbrev pz123 : X := .t pa123
abbrev pa124 : Pos := .r pa61
abbrev pz124 : X := .t pa124
abbrev pa125 : Pos := .l pa62
abbrev pz125 : X := .t pa125
abbrev pa126 : Pos := .r pa62
abbrev pz126 : X := .t pa126
abbrev pa127 : Pos := .l pa63
abbrev pz127 : X := .t pa127
abbrev pa128 : Pos := .r pa63
abbrev pz128 : X := .t pa128
abbrev pa129 : Pos := .l pa64
abbrev pz129 : X := .t pa129
abbrev pa130 : Pos := .r pa64
abbrev pz130 : X := .t pa130
abbrev pa131 : Pos := .l pa65
abbrev pz131 : X := .t pa131
abbrev pa132 : Pos := .r pa65
abbrev pz132 : X := .t pa132
abbrev pa133 : Pos := .l pa66
abbrev pz133 : X := .t pa133
abbrev pa134 : Pos := .r pa66
abbrev pz134 : X := .t pa134
abbrev pa135 : Pos := .l pa67
abbrev pz135 : X := .t pa135
abbrev pa136 : Pos := .r pa67
abbrev pz136 : X := .t pa136
abbrev pa137 : Pos := .l pa68
abbrev pz137 : X := .t pa137
abbrev pa138 : Pos := .r pa68
abbrev pz138 : X := .t pa138
abbrev pa139 : Pos := .l pa69
abbrev pz139 : X := .t pa139
abbrev pa140 : Pos := .r pa69
abbrev pz140 : X := .t pa140
abbrev pa141 : Pos := .l pa70
abbrev pz141 : X := .t pa141
abbrev pa142 : Pos := .r pa70
abbrev pz142 : X := .t pa142
abbrev pa143 : Pos := .l pa71
abbrev pz143 : X := .t pa143
abbrev pa144 : Pos := .r pa71
abbrev pz144 : X := .t pa144
abbrev pa145 : Pos := .l pa72
abbrev pz145 : X := .t pa145
abbrev pa146 : Pos := .r pa72
abbrev pz146 : X := .t pa146
abbrev pa147 : Pos := .l pa73
abbrev pz147 : X := .t pa147
abbrev pa148 : Pos := .r pa73
abbrev pz148 : X := .t pa148
abbrev pa149 : Pos := .l pa74
abbrev pz149 : X := .t pa149
abbrev pa150 : Pos := .r pa74
abbrev pz150 : X := .t pa150
abbrev pa151 : Pos := .l pa75
abbrev pz151 : X := .t pa151
abbrev pa152 : Pos := .r pa75
abbrev pz152 : X := .t pa152
abbrev pa153 : Pos := .l pa76
abbrev pz153 : X := .t pa153
abbrev pa154 : Pos := .r pa76
abbrev pz154 : X := .t pa154
abbrev pa155 : Pos := .l pa77
abbrev pz155 : X := .t pa155
abbrev pa156 : Pos := .r pa77
abbrev pz156 : X := .t pa156
abbrev pa157 : Pos := .l pa78
abbrev pz157 : X := .t pa157
abbrev pa158 : Pos := .r pa78
abbrev pz158 : X := .t pa158
abbrev pa159 : Pos := .l pa79
abbrev pz159 : X := .t pa159
abbrev pa160 : Pos := .r pa79
abbrev pz160 : X := .t pa160
abbrev pa161 : Pos := .l pa80
abbrev pz161 : X := .t pa161
abbrev pa162 : Pos := .r pa80
abbrev pz162 : X := .t pa162
abbrev pa163 : Pos := .l pa81
abbrev pz163 : X := .t pa163
abbrev pa164 : Pos := .r pa81
abbrev pz164 : X := .t pa164
abbrev pa165 : Pos := .l pa82
abbrev pz165 : X := .t pa165
abbrev pa166 : Pos := .r pa82
abbrev pz166 : X := .t pa166
abbrev pa167 : Pos := .l pa83
abbrev pz167 : X := .t pa167
abbrev pa168 : Pos := .r pa83
abbrev pz168 : X := .t pa168
abbrev pa169 : Pos := .l pa84
abbrev pz169 : X := .t pa169
abbrev pa170 : Pos := .r pa84
abbrev pz170 : X := .t pa170
abbrev pa171 : Pos := .l pa85
abbrev pz171 : X := .t pa171
abbrev pa172 : Pos := .r pa85
abbrev pz172 : X := .t pa172
abbrev pa173 : Pos := .l pa86
abbrev pz173 : X := .t pa173
abbrev pa174 : Pos := .r pa86
abbrev pz174 : X := .t pa174
abbrev pa175 : Pos := .l pa87
abbrev pz175 : X := .t pa175
abbrev pa176 : Pos := .r pa87
abbrev pz176 : X := .t pa176
abbrev pa177 : Pos := .l pa88
abbrev pz177 : X := .t pa177
abbrev pa178 : Pos := .r pa88
abbrev pz178 : X := .t pa178
abbrev pa179 : Pos := .l pa89
abbrev pz179 : X := .t pa179
abbrev pa180 : Pos := .r pa89
abbrev pz180 : X := .t pa180
abbrev pa181 : Pos := .l pa90
abbrev pz181 : X := .t pa181
abbrev pa182 : Pos := .r pa90
abbrev pz182 : X := .t pa182
abbrev pa183 : Pos := .l pa91
abbrev pz183 : X := .t pa183
abbrev pa184 : Pos := .r pa91
abbrev pz184 : X := .t pa184
abbrev pa185 : Pos := .l pa92
abbrev pz185 : X := .t pa185
abbrev pa186 : Pos := .r pa92
abbrev pz186 : X := .t pa186
abbrev pa187 : Pos := .l pa93
abbrev pz187 : X := .t pa187
abbrev pa188 : Pos := .r pa93
abbrev pz188 : X := .t pa188
abbrev pa189 : Pos := .l pa94
abbrev pz189 : X := .t pa189
abbrev pa190 : Pos := .r pa94
abbrev pz190 : X := .t pa190
abbrev pa191 : Pos := .l pa95
abbrev pz191 : X := .t pa191
abbrev pa192 : Pos := .r pa95
abbrev pz192 : X := .t pa192
abbrev pa193 : Pos := .l pa96
abbrev pz193 : X := .t pa193
abbrev pa194 : Pos := .r pa96
abbrev pz194 : X := .t pa194
abbrev pa195 : Pos := .l pa97
abbrev pz195 : X := .t pa195
abbrev pa196 : Pos := .r pa97
abbrev pz196 : X := .t pa196
abbrev sk1 : T := .n .e none .e
abbrev sk2 : T := .n sk1 none sk1
abbrev sk3 : T := .n sk2 none sk2
abbrev sk4 : T := .n sk3 none sk3
abbrev sk5 : T := .n sk4 none sk4
abbrev sk6 : T := .n sk5 none sk5
abbrev uv1 (u : List (Option V)) (a : Nat) : T := .n .e (uO u a) .e
abbrev uv3 (u : List (Option V)) (a b c : Nat) : T := .n (uv1 u a) (uO u b) (uv1 u c)
abbrev uv7 (u : List (Option V)) (a b c d e f g : Nat) : T := .n (uv3 u a b c) (uO u d) (uv3 u e f g)
abbrev pqq (d : Pos) (o : QO) : CO := ⟨some d, .q o, none⟩
abbrev paa (d : Pos) (o : AO) : CO := ⟨some d, .a o, none⟩
abbrev pee (d : Pos) (o : EO) : CO := ⟨some d, .e o, none⟩
abbrev pez (o : EO) : CO := ⟨none, .e o, none⟩
abbrev px6 (n : Int) : X := .c (.i .i64 n)
abbrev pxT : X := .c (.b true)
abbrev pxF : X := .c (.b false)
theorem wu {b b1 : CC} (h : b = b1) (k : Kn) (s : St) (R : Ex → St → Prop) : Wp b k s R = Wp b1 k s R := congrArg (fun x => Wp x k s R) h
end Go.Proofs.YtaogopbhjinmoaaGreatDoor.Ev
namespace Go.Proofs.YtaogopbhjinmoaaGreatDoor.Ev
open Go
def X1 {x0 : Option V} (l : List (Option V)) : List (Option V) := x0 :: l
def G1 (l : List (Option V)) : List (Option V) := none :: l
def X2 {x0 x1 : Option V} (l : List (Option V)) : List (Option V) := x0 :: x1 :: l
def G2 (l : List (Option V)) : List (Option V) := none :: none :: l
def X4 {x0 x1 x2 x3 : Option V} (l : List (Option V)) : List (Option V) := x0 :: x1 :: x2 :: x3 :: l
def G4 (l : List (Option V)) : List (Option V) := none :: none :: none :: none :: l
def X8 {x0 x1 x2 x3 x4 x5 x6 x7 : Option V} (l : List (Option V)) : List (Option V) := x0 :: x1 :: x2 :: x3 :: x4 :: x5 :: x6 :: x7 :: l
def X16 {x0 x1 x2 x3 x4 x5 x6 x7 x8 x9 x10 x11 x12 x13 x14 x15 : Option V} (l : List (Option V)) : List (Option V) := x0 :: x1 :: x2 :: x3 :: x4 :: x5 :: x6 :: x7 :: x8 :: x9 :: x10 :: x11 :: x12 :: x13 :: x14 :: x15 :: l
def X32 {x0 x1 x2 x3 x4 x5 x6 x7 x8 x9 x10 x11 x12 x13 x14 x15 x16 x17 x18 x19 x20 x21 x22 x23 x24 x25 x26 x27 x28 x29 x30 x31 : Option V} (l : List (Option V)) : List (Option V) := x0 :: x1 :: x2 :: x3 :: x4 :: x5 :: x6 :: x7 :: x8 :: x9 :: x10 :: x11 :: x12 :: x13 :: x14 :: x15 :: x16 :: x17 :: x18 :: x19 :: x20 :: x21 :: x22 :: x23 :: x24 :: x25 :: x26 :: x27 :: x28 :: x29 :: x30 :: x31 :: l
def X64 {x0 x1 x2 x3 x4 x5 x6 x7 x8 x9 x10 x11 x12 x13 x14 x15 x16 x17 x18 x19 x20 x21 x22 x23 x24 x25 x26 x27 x28 x29 x30 x31 x32 x33 x34 x35 x36 x37 x38 x39 x40 x41 x42 x43 x44 x45 x46 x47 x48 x49 x50 x51 x52 x53 x54 x55 x56 x57 x58 x59 x60 x61 x62 x63 : Option V} (l : List (Option V)) : List (Option V) := x0 :: x1 :: x2 :: x3 :: x4 :: x5 :: x6 :: x7 :: x8 :: x9 :: x10 :: x11 :: x12 :: x13 :: x14 :: x15 :: x16 :: x17 :: x18 :: x19 :: x20 :: x21 :: x22 :: x23 :: x24 :: x25 :: x26 :: x27 :: x28 :: x29 :: x30 :: x31 :: x32 :: x33 :: x34 :: x35 :: x36 :: x37 :: x38 :: x39 :: x40 :: x41 :: x42 :: x43 :: x44 :: x45 :: x46 :: x47 :: x48 :: x49 :: x50 :: x51 :: x52 :: x53 :: x54 :: x55 :: x56 :: x57 :: x58 :: x59 :: x60 :: x61 :: x62 :: x63 :: l
end Go.Proofs.YtaogopbhjinmoaaGreatDoor.Ev
namespace Go.Proofs.YtaogopbhjinmoaaGreatDoor.Ev
open Go
end Go.Proofs.YtaogopbhjinmoaaGreatDoor.Ev
namespace Go.Proofs.YtaogopbhjinmoaaGreatDoor.Ev
open Go
section
variable {Φ : Nat → Option CF} {rd : Option Nat} {fn : Nat} {F : RO}
def nckV : V → Option V
  | .p b o => some (.p b o)
  | .f g h c => some (.f g h c)
  | .y l => some (.y l)
  | .a t v => some (.a t v)
  | _ => none
theorem v_nck (x : X) (M : Mem) (t : T) : (qop (.nck x) F M t).val = nckV (x.ev t) := by
  show (q_nck x F M t).val = _
  unfold q_nck
  cases x.ev t <;> rfl
theorem nckV_p (b o : Nat) : nckV (.p b o) = some (.p b o) := Eq.trans rfl (Eq.refl _)
theorem dq_nck (x : X) (M : Mem) (t : T) : dqR (.nck x) F M t = oV (nckV (x.ev t)) := by
  refine (dq_of ?_).trans (congrArg oV (v_nck (F := F) x M t))
  intro F' M'
  refine qv_oV ?_
  show (q_nck x F' M' t = .f ∨ ∃ y, q_nck x F' M' t = .v y)
  unfold q_nck
  cases x.ev t <;> first | exact .inl rfl | exact .inr ⟨_, rfl⟩
theorem oV_val (o : Option V) : (oV o).val = o := by cases o <;> rfl
def QV (r : QR) : Prop := r = .f ∨ ∃ y, r = .v y
theorem qv_bif {r : QR} (b : Bool) (h : QV r) : QV (bif b then r else .f) := by
  cases b with
  | false => exact .inl rfl
  | true => exact h
theorem qv_bif2 {r s : QR} (b : Bool) (h : QV r) (h' : QV s) : QV (bif b then r else s) := by
  cases b with
  | false => exact h'
  | true => exact h
theorem qv_mkL (b o n c : Nat) : QV (mkL b o n c) := .inr ⟨_, mkL_eq b o n c⟩
theorem qv_mkU (b o n e k : Nat) : QV (mkU b o n e k) := .inr ⟨_, mkU_eq b o n e k⟩
theorem slcV_qv (sz : Nat) (v : V) (a b d : Option Nat) : QV (slcV sz v a b d) := by
  unfold slcV
  refine qv_bif _ ?_
  cases v with
  | l b0 o len cap => exact qv_bif _ (qv_mkL _ _ _ _)
  | l0 => exact qv_bif _ (.inr ⟨_, rfl⟩)
  | u b0 o len el kn =>
    cases d with
    | none => exact qv_bif _ (qv_bif2 _ (qv_mkU _ _ _ _ _) (qv_bif2 _ (qv_mkU _ _ _ _ _) (.inr ⟨_, by rw [fN_eq]⟩)))
    | some m => exact qv_bif _ (qv_mkL _ _ _ _)
  | ue b0 o0 o => exact qv_bif _ (.inr ⟨_, rfl⟩)
  | _ => exact .inl rfl
theorem dq_slL (sz : Nat) (x : X) (lo hi mx : Option X) (M : Mem) (t : T) : dqR (.slL sz x lo hi mx) F M t = oV (slLV sz (x.ev t) (lo.map fun x => x.ev t) (hi.map fun x => x.ev t) (mx.map fun x => x.ev t)) := by
  refine (dq_of ?_).trans (congrArg oV (v_slL (F := F) sz x lo hi mx M t))
  intro F' M'
  refine qv_oV ?_
  show QV (q_slL1 sz (x.ev t) (optNN t lo) (optNN t hi) (optNN t mx))
  cases optNN t lo with
  | none => exact .inl rfl
  | some a =>
    cases optNN t hi with
    | none => exact .inl rfl
    | some b =>
      cases optNN t mx with
      | none => exact .inl rfl
      | some d => exact slcV_qv _ _ _ _ _
noncomputable def rowP (ty n : Nat) (row : List V) : Blk := .cells ty n false 0 false [] (rowT row)
def BufAt (M : Mem) (c0 c b : Nat) (v : V) (l : List UInt8) : Prop :=
  (l = [] ∧ v = .l0) ∨ (c0 ≤ b ∧ b < c ∧ ∃ n, (l.length ≤ n ∧ 0 < n) ∧ v = .u b 0 l.length 0 n ∧ M.get b = some (rowP 5 n (l.map bV)))
theorem BufAt.up {M M' : Mem} {c0 c c' b : Nat} {v : V} {l : List UInt8} (h : BufAt M c0 c b v l) (hc : c ≤ c') (hb : b < c → M'.get b = M.get b) : BufAt M' c0 c' b v l := by
  rcases h with h | ⟨h1, h2, n, h3, h4, h5⟩
  · exact .inl h
  · exact .inr ⟨h1, by omega, n, h3, h4, by rw [hb h2]; exact h5⟩
end
end Go.Proofs.YtaogopbhjinmoaaGreatDoor.Ev
